/- What the functions compute. -/
import Derived.Test.YtdnopbpdiineiaaDoorEReadEntriesA
import Derived.KernelRfl
namespace Go.Proofs.YtdnopbpdiineiaaDoor.ReadEntries
open Go Go.Proofs.YtdnopbpdiineiaaDoor.V
set_option linter.unusedVariables false
set_option linter.unusedSimpArgs false
set_option maxRecDepth 20000
open List (length_replicate length_map length_set length_append length_cons length_nil length_take length_drop take_of_length_le map_take map_drop map_set append_assoc getElem?_map map length take drop getD set)
attribute [local simp] strInts_len byteRows_len toBR_y fullR_y pureR_y lenB_y lenD_y fromBR_y copy_y toBR_LyE fullR_LyE pureR_LyE lenB_LyE lenD_LyE toBR_b fullR_b pureR_b lenB_b lenD_b fromBR_b copy_b toBR_isii fullR_isii pureR_isii lenB_isii lenD_isii fromBR_isii copy_isii toBR_iiLisiiE fullR_iiLisiiE pureR_iiLisiiE lenB_iiLisiiE lenD_iiLisiiE toBR_i fullR_i pureR_i lenB_i lenD_i fromBR_i copy_i toBR_LLyEE fullR_LLyEE pureR_LLyEE lenB_LLyEE lenD_LLyEE toBR_s fullR_s pureR_s lenB_s lenD_s fromBR_s copy_s toBR_LisiiE fullR_LisiiE pureR_LisiiE lenB_LisiiE lenD_LisiiE
def m62 (a0 : K_isii) : Int :=
 if (!(m113 a0.f0 1 5)) = true then 1 else
 if (!(m112_0 a0.f0)) = true then (if (!(a0.f1.toList == (⟨#[]⟩ : ByteArray).toList)) = true then 1 else
   if (!(m112_1 a0.f0)) = true then (if (a0.f2 != 0) = true then 1 else
     if (!(m112_2 a0.f0)) = true then (if (a0.f3 != 0) = true then 1 else
       if (m112_0 a0.f0) = true then (if (a0.f1.toList == (⟨#[]⟩ : ByteArray).toList) = true then 5 else
         if (!(m114 a0.f1)) = true then 5 else
          if (!(m113 a0.f2 0 2147483646)) = true then 3 else
           if (!(m113 a0.f3 0 1000000)) = true then 3 else
            if (decide (a0.f3 < 1)) = true then 3 else
             if (a0.f0 == 1) = true then (if (decide (a0.f3 > 9999)) = true then 3 else
               0) else
              0) else
        if (!(m113 a0.f2 0 2147483646)) = true then 3 else
         if (!(m113 a0.f3 0 1000000)) = true then 3 else
          if (a0.f0 == 1) = true then (if (decide (a0.f3 > 9999)) = true then 3 else
            0) else
           0) else
      if (m112_0 a0.f0) = true then (if (a0.f1.toList == (⟨#[]⟩ : ByteArray).toList) = true then 5 else
        if (!(m114 a0.f1)) = true then 5 else
         if (!(m113 a0.f2 0 2147483646)) = true then 3 else
          if (!(m113 a0.f3 0 1000000)) = true then 3 else
           if (decide (a0.f3 < 1)) = true then 3 else
            if (a0.f0 == 1) = true then (if (decide (a0.f3 > 9999)) = true then 3 else
              0) else
             0) else
       if (!(m113 a0.f2 0 2147483646)) = true then 3 else
        if (!(m113 a0.f3 0 1000000)) = true then 3 else
         if (a0.f0 == 1) = true then (if (decide (a0.f3 > 9999)) = true then 3 else
           0) else
          0) else
    if (!(m112_2 a0.f0)) = true then (if (a0.f3 != 0) = true then 1 else
      if (m112_0 a0.f0) = true then (if (a0.f1.toList == (⟨#[]⟩ : ByteArray).toList) = true then 5 else
        if (!(m114 a0.f1)) = true then 5 else
         if (!(m113 a0.f2 0 2147483646)) = true then 3 else
          if (!(m113 a0.f3 0 1000000)) = true then 3 else
           if (decide (a0.f3 < 1)) = true then 3 else
            if (a0.f0 == 1) = true then (if (decide (a0.f3 > 9999)) = true then 3 else
              0) else
             0) else
       if (!(m113 a0.f2 0 2147483646)) = true then 3 else
        if (!(m113 a0.f3 0 1000000)) = true then 3 else
         if (a0.f0 == 1) = true then (if (decide (a0.f3 > 9999)) = true then 3 else
           0) else
          0) else
     if (m112_0 a0.f0) = true then (if (a0.f1.toList == (⟨#[]⟩ : ByteArray).toList) = true then 5 else
       if (!(m114 a0.f1)) = true then 5 else
        if (!(m113 a0.f2 0 2147483646)) = true then 3 else
         if (!(m113 a0.f3 0 1000000)) = true then 3 else
          if (decide (a0.f3 < 1)) = true then 3 else
           if (a0.f0 == 1) = true then (if (decide (a0.f3 > 9999)) = true then 3 else
             0) else
            0) else
      if (!(m113 a0.f2 0 2147483646)) = true then 3 else
       if (!(m113 a0.f3 0 1000000)) = true then 3 else
        if (a0.f0 == 1) = true then (if (decide (a0.f3 > 9999)) = true then 3 else
          0) else
         0) else
  if (!(m112_1 a0.f0)) = true then (if (a0.f2 != 0) = true then 1 else
    if (!(m112_2 a0.f0)) = true then (if (a0.f3 != 0) = true then 1 else
      if (m112_0 a0.f0) = true then (if (a0.f1.toList == (⟨#[]⟩ : ByteArray).toList) = true then 5 else
        if (!(m114 a0.f1)) = true then 5 else
         if (!(m113 a0.f2 0 2147483646)) = true then 3 else
          if (!(m113 a0.f3 0 1000000)) = true then 3 else
           if (decide (a0.f3 < 1)) = true then 3 else
            if (a0.f0 == 1) = true then (if (decide (a0.f3 > 9999)) = true then 3 else
              0) else
             0) else
       if (!(m113 a0.f2 0 2147483646)) = true then 3 else
        if (!(m113 a0.f3 0 1000000)) = true then 3 else
         if (a0.f0 == 1) = true then (if (decide (a0.f3 > 9999)) = true then 3 else
           0) else
          0) else
     if (m112_0 a0.f0) = true then (if (a0.f1.toList == (⟨#[]⟩ : ByteArray).toList) = true then 5 else
       if (!(m114 a0.f1)) = true then 5 else
        if (!(m113 a0.f2 0 2147483646)) = true then 3 else
         if (!(m113 a0.f3 0 1000000)) = true then 3 else
          if (decide (a0.f3 < 1)) = true then 3 else
           if (a0.f0 == 1) = true then (if (decide (a0.f3 > 9999)) = true then 3 else
             0) else
            0) else
      if (!(m113 a0.f2 0 2147483646)) = true then 3 else
       if (!(m113 a0.f3 0 1000000)) = true then 3 else
        if (a0.f0 == 1) = true then (if (decide (a0.f3 > 9999)) = true then 3 else
          0) else
         0) else
   if (!(m112_2 a0.f0)) = true then (if (a0.f3 != 0) = true then 1 else
     if (m112_0 a0.f0) = true then (if (a0.f1.toList == (⟨#[]⟩ : ByteArray).toList) = true then 5 else
       if (!(m114 a0.f1)) = true then 5 else
        if (!(m113 a0.f2 0 2147483646)) = true then 3 else
         if (!(m113 a0.f3 0 1000000)) = true then 3 else
          if (decide (a0.f3 < 1)) = true then 3 else
           if (a0.f0 == 1) = true then (if (decide (a0.f3 > 9999)) = true then 3 else
             0) else
            0) else
      if (!(m113 a0.f2 0 2147483646)) = true then 3 else
       if (!(m113 a0.f3 0 1000000)) = true then 3 else
        if (a0.f0 == 1) = true then (if (decide (a0.f3 > 9999)) = true then 3 else
          0) else
         0) else
    if (m112_0 a0.f0) = true then (if (a0.f1.toList == (⟨#[]⟩ : ByteArray).toList) = true then 5 else
      if (!(m114 a0.f1)) = true then 5 else
       if (!(m113 a0.f2 0 2147483646)) = true then 3 else
        if (!(m113 a0.f3 0 1000000)) = true then 3 else
         if (decide (a0.f3 < 1)) = true then 3 else
          if (a0.f0 == 1) = true then (if (decide (a0.f3 > 9999)) = true then 3 else
            0) else
           0) else
     if (!(m113 a0.f2 0 2147483646)) = true then 3 else
      if (!(m113 a0.f3 0 1000000)) = true then 3 else
       if (a0.f0 == 1) = true then (if (decide (a0.f3 > 9999)) = true then 3 else
         0) else
        0
theorem e62 {l0 : Nat} {a0 : K_isii} (hy0 : ByteArray.size a0.f1 ≤ 140737488351232) : Ev F X (.call 62 [(.bptr l0 [(.val (.int .i64 a0.f0)), (.val (.string a0.f1)), (.val (.int .i64 a0.f2)), (.val (.int .i64 a0.f3))])] [] [] [(.one (.val (.int .i64 (m62 a0))))]) := by
 unfold m62
 have f0 := e112 (a0 := a0.f0)
 have f1 := e113 (a0 := a0.f0) (a1 := 1) (a2 := 5)
 by_cases h0 : (!(m113 a0.f0 1 5)) = true
 ·try simp only [if_pos h0]
  exact cp (by kernel_rfl) (.r 11 [] [] f0 (.r 35 [] [] f1 (.m 5 h0 (.y 40 (.y 42 (.y 44 (.y 56 (.y 59 .nil))))))))
 ·try simp only [if_neg h0]
  by_cases h1 : (!(m112_0 a0.f0)) = true
  ·try simp only [if_pos h1]
   by_cases h2 : (!(a0.f1.toList == (⟨#[]⟩ : ByteArray).toList)) = true
   ·try simp only [if_pos h2]
    exact cp (by kernel_rfl) (.r 11 [] [] f0 (.r 35 [] [] f1 (.n 3 h0 (.m 5 h1 (.g h0 (.f h1 (.g h0 (.m 5 h2 (.z 40 (.z 42 (.z 44 (.y 46 (.y 48 (.y 50 (.y 52 (.y 54 (.z 56 (.y 57 (.z 59 (.y 62 (.y 64 (.y 66 (.y 78 (.y 81 .nil))))))))))))))))))))))))
   ·try simp only [if_neg h2]
    by_cases h3 : (!(m112_1 a0.f0)) = true
    ·try simp only [if_pos h3]
     by_cases h4 : (a0.f2 != 0) = true
     ·try simp only [if_pos h4]
      exact cp (by kernel_rfl) (.r 11 [] [] f0 (.r 35 [] [] f1 (.n 3 h0 (.m 5 h1 (.g h0 (.f h1 (.g h0 (.n 3 h2 (.m 5 h3 (.g h2 (.f h3 (.g h2 (.m 5 h4 (.z 40 (.z 42 (.z 44 (.y 46 (.y 48 (.y 50 (.y 52 (.y 54 (.z 56 (.y 57 (.z 59 (.z 62 (.z 64 (.z 66 (.y 68 (.y 70 (.y 72 (.y 74 (.y 76 (.z 78 (.y 79 (.z 81 (.y 84 (.y 86 (.y 88 (.y 100 (.y 103 .nil))))))))))))))))))))))))))))))))))))))))
     ·try simp only [if_neg h4]
      by_cases h5 : (!(m112_2 a0.f0)) = true
      ·try simp only [if_pos h5]
       by_cases h6 : (a0.f3 != 0) = true
       ·try simp only [if_pos h6]
        exact cp (by kernel_rfl) (.r 11 [] [] f0 (.r 35 [] [] f1 (.n 3 h0 (.m 5 h1 (.g h0 (.f h1 (.g h0 (.n 3 h2 (.m 5 h3 (.g h2 (.f h3 (.g h2 (.n 3 h4 (.m 5 h5 (.g h4 (.f h5 (.g h4 (.f h6 (.z 40 (.z 42 (.z 44 (.y 46 (.y 48 (.y 50 (.y 52 (.y 54 (.z 56 (.y 57 (.z 59 (.z 62 (.z 64 (.z 66 (.y 68 (.y 70 (.y 72 (.y 74 (.y 76 (.z 78 (.y 79 (.z 81 (.z 84 (.z 86 (.z 88 (.y 90 (.y 92 (.y 94 (.y 96 (.y 98 (.z 100 (.y 101 (.z 103 (.y 104 .nil))))))))))))))))))))))))))))))))))))))))))))))))))))
       ·try simp only [if_neg h6]
        by_cases h7 : (m112_0 a0.f0) = true
        ·try simp only [if_pos h7]
         by_cases h8 : (a0.f1.toList == (⟨#[]⟩ : ByteArray).toList) = true
         ·try simp only [if_pos h8]
          exact cp (by kernel_rfl) (.r 11 [] [] f0 (.r 35 [] [] f1 (.n 3 h0 (.m 5 h1 (.g h0 (.f h1 (.g h0 (.n 3 h2 (.m 5 h3 (.g h2 (.f h3 (.g h2 (.n 3 h4 (.m 5 h5 (.g h4 (.f h5 (.g h4 (.g h6 (.m 6 h7 (.m 6 h8 (.f h7 (.f h8 (.f h7 (.z 40 (.z 42 (.z 44 (.y 46 (.y 48 (.y 50 (.y 52 (.y 54 (.z 56 (.y 57 (.z 59 (.z 62 (.z 64 (.z 66 (.y 68 (.y 70 (.y 72 (.y 74 (.y 76 (.z 78 (.y 79 (.z 81 (.z 84 (.z 86 (.z 88 (.y 90 (.y 92 (.y 94 (.y 96 (.y 98 (.z 100 (.y 101 (.z 103 (.z 104 (.y 109 (.y 111 (.y 113 (.y 115 (.y 117 (.y 119 (.y 121 (.y 123 (.y 125 (.y 127 (.y 129 (.y 131 (.y 133 (.y 134 (.y 136 .nil))))))))))))))))))))))))))))))))))))))))))))))))))))))))))))))))))))))))
         ·try simp only [if_neg h8]
          have f47 := e114 (a0 := a0.f1) (by with_reducible assumption)
          by_cases h9 : (!(m114 a0.f1)) = true
          ·try simp only [if_pos h9]
           exact cp (by kernel_rfl) (.r 11 [] [] f0 (.r 35 [] [] f1 (.n 3 h0 (.m 5 h1 (.g h0 (.f h1 (.g h0 (.n 3 h2 (.m 5 h3 (.g h2 (.f h3 (.g h2 (.n 3 h4 (.m 5 h5 (.g h4 (.f h5 (.g h4 (.g h6 (.m 6 h7 (.n 5 h8 (.z 40 (.z 42 (.z 44 (.y 46 (.y 48 (.y 50 (.y 52 (.y 54 (.z 56 (.y 57 (.z 59 (.z 62 (.z 64 (.z 66 (.y 68 (.y 70 (.y 72 (.y 74 (.y 76 (.z 78 (.y 79 (.z 81 (.z 84 (.z 86 (.z 88 (.y 90 (.y 92 (.y 94 (.y 96 (.y 98 (.z 100 (.y 101 (.z 103 (.z 104 (.y 109 (.y 111 (.y 113 (.y 115 (.y 117 (.y 119 (.z 121 (.z 123 (.z 125 (.z 127 (.z 129 (.r 130 [] [] f47 (.g h8 (.f h7 (.g h8 (.f h7 (.f h9 (.z 131 (.y 133 (.z 134 (.y 136 (.y 137 .nil))))))))))))))))))))))))))))))))))))))))))))))))))))))))))))))))))))))))))))
          ·try simp only [if_neg h9]
           have f53 := e115 (a0 := a0.f2)
           by_cases h10 : (!(m113 a0.f2 0 2147483646)) = true
           ·try simp only [if_pos h10]
            exact cp (by kernel_rfl) (.r 11 [] [] f0 (.r 35 [] [] f1 (.n 3 h0 (.m 5 h1 (.g h0 (.f h1 (.g h0 (.n 3 h2 (.m 5 h3 (.g h2 (.f h3 (.g h2 (.n 3 h4 (.m 5 h5 (.g h4 (.f h5 (.g h4 (.g h6 (.m 6 h7 (.n 5 h8 (.z 40 (.z 42 (.z 44 (.y 46 (.y 48 (.y 50 (.y 52 (.y 54 (.z 56 (.y 57 (.z 59 (.z 62 (.z 64 (.z 66 (.y 68 (.y 70 (.y 72 (.y 74 (.y 76 (.z 78 (.y 79 (.z 81 (.z 84 (.z 86 (.z 88 (.y 90 (.y 92 (.y 94 (.y 96 (.y 98 (.z 100 (.y 101 (.z 103 (.z 104 (.y 109 (.y 111 (.y 113 (.y 115 (.y 117 (.y 119 (.z 121 (.z 123 (.z 125 (.z 127 (.z 129 (.r 130 [] [] f47 (.g h8 (.f h7 (.g h8 (.f h7 (.g h9 (.z 131 (.y 133 (.z 134 (.y 136 (.z 137 (.r 147 [] [] f53 (.m 7 h10 (.y 152 (.y 154 (.y 156 (.y 158 (.y 160 (.y 162 (.y 165 .nil)))))))))))))))))))))))))))))))))))))))))))))))))))))))))))))))))))))))))))))))))))))
           ·try simp only [if_neg h10]
            have f59 := e75 (a0 := a0.f3)
            by_cases h11 : (!(m113 a0.f3 0 1000000)) = true
            ·try simp only [if_pos h11]
             exact cp (by kernel_rfl) (.r 11 [] [] f0 (.r 35 [] [] f1 (.n 3 h0 (.m 5 h1 (.g h0 (.f h1 (.g h0 (.n 3 h2 (.m 5 h3 (.g h2 (.f h3 (.g h2 (.n 3 h4 (.m 5 h5 (.g h4 (.f h5 (.g h4 (.g h6 (.m 6 h7 (.n 5 h8 (.z 40 (.z 42 (.z 44 (.y 46 (.y 48 (.y 50 (.y 52 (.y 54 (.z 56 (.y 57 (.z 59 (.z 62 (.z 64 (.z 66 (.y 68 (.y 70 (.y 72 (.y 74 (.y 76 (.z 78 (.y 79 (.z 81 (.z 84 (.z 86 (.z 88 (.y 90 (.y 92 (.y 94 (.y 96 (.y 98 (.z 100 (.y 101 (.z 103 (.z 104 (.y 109 (.y 111 (.y 113 (.y 115 (.y 117 (.y 119 (.z 121 (.z 123 (.z 125 (.z 127 (.z 129 (.r 130 [] [] f47 (.g h8 (.f h7 (.g h8 (.f h7 (.g h9 (.z 131 (.y 133 (.z 134 (.y 136 (.z 137 (.r 147 [] [] f53 (.n 5 h10 (.z 152 (.z 154 (.z 156 (.z 158 (.z 160 (.r 161 [] [] f59 (.n 2 h10 (.m 4 h11 (.z 162 (.z 165 (.y 168 (.y 170 (.y 182 (.y 185 .nil))))))))))))))))))))))))))))))))))))))))))))))))))))))))))))))))))))))))))))))))))))))))))))
            ·try simp only [if_neg h11]
             by_cases h12 : (decide (a0.f3 < 1)) = true
             ·try simp only [if_pos h12]
              exact cp (by kernel_rfl) (.r 11 [] [] f0 (.r 35 [] [] f1 (.n 3 h0 (.m 5 h1 (.g h0 (.f h1 (.g h0 (.n 3 h2 (.m 5 h3 (.g h2 (.f h3 (.g h2 (.n 3 h4 (.m 5 h5 (.g h4 (.f h5 (.g h4 (.g h6 (.m 6 h7 (.n 5 h8 (.z 40 (.z 42 (.z 44 (.y 46 (.y 48 (.y 50 (.y 52 (.y 54 (.z 56 (.y 57 (.z 59 (.z 62 (.z 64 (.z 66 (.y 68 (.y 70 (.y 72 (.y 74 (.y 76 (.z 78 (.y 79 (.z 81 (.z 84 (.z 86 (.z 88 (.y 90 (.y 92 (.y 94 (.y 96 (.y 98 (.z 100 (.y 101 (.z 103 (.z 104 (.y 109 (.y 111 (.y 113 (.y 115 (.y 117 (.y 119 (.z 121 (.z 123 (.z 125 (.z 127 (.z 129 (.r 130 [] [] f47 (.g h8 (.f h7 (.g h8 (.f h7 (.g h9 (.z 131 (.y 133 (.z 134 (.y 136 (.z 137 (.r 147 [] [] f53 (.n 5 h10 (.z 152 (.z 154 (.z 156 (.z 158 (.z 160 (.r 161 [] [] f59 (.n 2 h10 (.n 2 h11 (.m 5 h7 (.g h11 (.f h7 (.g h11 (.m 8 h12 (.z 162 (.z 165 (.z 168 (.z 170 (.y 172 (.y 174 (.y 176 (.y 178 (.y 180 (.z 182 (.y 183 (.z 185 (.y 188 (.y 190 (.y 192 (.y 194 (.y 196 (.y 198 (.y 210 (.y 213 .nil)))))))))))))))))))))))))))))))))))))))))))))))))))))))))))))))))))))))))))))))))))))))))))))))))))))))))))))))
             ·try simp only [if_neg h12]
              by_cases h13 : (a0.f0 == 1) = true
              ·try simp only [if_pos h13]
               by_cases h14 : (decide (a0.f3 > 9999)) = true
               ·try simp only [if_pos h14]
                exact cp (by kernel_rfl) (.r 11 [] [] f0 (.r 35 [] [] f1 (.n 3 h0 (.m 5 h1 (.g h0 (.f h1 (.g h0 (.n 3 h2 (.m 5 h3 (.g h2 (.f h3 (.g h2 (.n 3 h4 (.m 5 h5 (.g h4 (.f h5 (.g h4 (.g h6 (.m 6 h7 (.n 5 h8 (.z 40 (.z 42 (.z 44 (.y 46 (.y 48 (.y 50 (.y 52 (.y 54 (.z 56 (.y 57 (.z 59 (.z 62 (.z 64 (.z 66 (.y 68 (.y 70 (.y 72 (.y 74 (.y 76 (.z 78 (.y 79 (.z 81 (.z 84 (.z 86 (.z 88 (.y 90 (.y 92 (.y 94 (.y 96 (.y 98 (.z 100 (.y 101 (.z 103 (.z 104 (.y 109 (.y 111 (.y 113 (.y 115 (.y 117 (.y 119 (.z 121 (.z 123 (.z 125 (.z 127 (.z 129 (.r 130 [] [] f47 (.g h8 (.f h7 (.g h8 (.f h7 (.g h9 (.z 131 (.y 133 (.z 134 (.y 136 (.z 137 (.r 147 [] [] f53 (.n 5 h10 (.z 152 (.z 154 (.z 156 (.z 158 (.z 160 (.r 161 [] [] f59 (.n 2 h10 (.n 2 h11 (.m 5 h7 (.g h11 (.f h7 (.g h11 (.n 6 h12 (.m 5 h13 (.g h12 (.f h13 (.g h12 (.f h14 (.z 162 (.z 165 (.z 168 (.z 170 (.y 172 (.y 174 (.y 176 (.y 178 (.y 180 (.z 182 (.y 183 (.z 185 (.z 188 (.z 190 (.z 192 (.z 194 (.z 196 (.z 198 (.y 200 (.y 202 (.y 204 (.y 206 (.y 208 (.z 210 (.y 211 (.z 213 (.y 214 .nil)))))))))))))))))))))))))))))))))))))))))))))))))))))))))))))))))))))))))))))))))))))))))))))))))))))))))))))))))))))))))))
               ·try simp only [if_neg h14]
                exact cp (by kernel_rfl) (.r 11 [] [] f0 (.r 35 [] [] f1 (.n 3 h0 (.m 5 h1 (.g h0 (.f h1 (.g h0 (.n 3 h2 (.m 5 h3 (.g h2 (.f h3 (.g h2 (.n 3 h4 (.m 5 h5 (.g h4 (.f h5 (.g h4 (.g h6 (.m 6 h7 (.n 5 h8 (.z 40 (.z 42 (.z 44 (.y 46 (.y 48 (.y 50 (.y 52 (.y 54 (.z 56 (.y 57 (.z 59 (.z 62 (.z 64 (.z 66 (.y 68 (.y 70 (.y 72 (.y 74 (.y 76 (.z 78 (.y 79 (.z 81 (.z 84 (.z 86 (.z 88 (.y 90 (.y 92 (.y 94 (.y 96 (.y 98 (.z 100 (.y 101 (.z 103 (.z 104 (.y 109 (.y 111 (.y 113 (.y 115 (.y 117 (.y 119 (.z 121 (.z 123 (.z 125 (.z 127 (.z 129 (.r 130 [] [] f47 (.g h8 (.f h7 (.g h8 (.f h7 (.g h9 (.z 131 (.y 133 (.z 134 (.y 136 (.z 137 (.r 147 [] [] f53 (.n 5 h10 (.z 152 (.z 154 (.z 156 (.z 158 (.z 160 (.r 161 [] [] f59 (.n 2 h10 (.n 2 h11 (.m 5 h7 (.g h11 (.f h7 (.g h11 (.n 6 h12 (.m 5 h13 (.g h12 (.f h13 (.g h12 (.g h14 (.z 162 (.z 165 (.z 168 (.z 170 (.y 172 (.y 174 (.y 176 (.y 178 (.y 180 (.z 182 (.y 183 (.z 185 (.z 188 (.z 190 (.z 192 (.z 194 (.z 196 (.z 198 (.y 200 (.y 202 (.y 204 (.y 206 (.y 208 (.z 210 (.y 211 (.z 213 (.z 214 .nil)))))))))))))))))))))))))))))))))))))))))))))))))))))))))))))))))))))))))))))))))))))))))))))))))))))))))))))))))))))))))))
              ·try simp only [if_neg h13]
               exact cp (by kernel_rfl) (.r 11 [] [] f0 (.r 35 [] [] f1 (.n 3 h0 (.m 5 h1 (.g h0 (.f h1 (.g h0 (.n 3 h2 (.m 5 h3 (.g h2 (.f h3 (.g h2 (.n 3 h4 (.m 5 h5 (.g h4 (.f h5 (.g h4 (.g h6 (.m 6 h7 (.n 5 h8 (.z 40 (.z 42 (.z 44 (.y 46 (.y 48 (.y 50 (.y 52 (.y 54 (.z 56 (.y 57 (.z 59 (.z 62 (.z 64 (.z 66 (.y 68 (.y 70 (.y 72 (.y 74 (.y 76 (.z 78 (.y 79 (.z 81 (.z 84 (.z 86 (.z 88 (.y 90 (.y 92 (.y 94 (.y 96 (.y 98 (.z 100 (.y 101 (.z 103 (.z 104 (.y 109 (.y 111 (.y 113 (.y 115 (.y 117 (.y 119 (.z 121 (.z 123 (.z 125 (.z 127 (.z 129 (.r 130 [] [] f47 (.g h8 (.f h7 (.g h8 (.f h7 (.g h9 (.z 131 (.y 133 (.z 134 (.y 136 (.z 137 (.r 147 [] [] f53 (.n 5 h10 (.z 152 (.z 154 (.z 156 (.z 158 (.z 160 (.r 161 [] [] f59 (.n 2 h10 (.n 2 h11 (.m 5 h7 (.g h11 (.f h7 (.g h11 (.n 6 h12 (.n 5 h13 (.g h12 (.g h13 (.g h12 (.z 162 (.z 165 (.z 168 (.z 170 (.y 172 (.y 174 (.y 176 (.y 178 (.y 180 (.z 182 (.y 183 (.z 185 (.z 188 (.z 190 (.z 192 (.z 194 (.z 196 (.z 198 (.z 200 (.z 202 (.z 204 (.z 206 (.z 208 (.z 210 (.z 211 (.z 213 .nil)))))))))))))))))))))))))))))))))))))))))))))))))))))))))))))))))))))))))))))))))))))))))))))))))))))))))))))))))))))))))
        ·try simp only [if_neg h7]
         have f44 := e115 (a0 := a0.f2)
         by_cases h8 : (!(m113 a0.f2 0 2147483646)) = true
         ·try simp only [if_pos h8]
          exact cp (by kernel_rfl) (.r 11 [] [] f0 (.r 35 [] [] f1 (.n 3 h0 (.m 5 h1 (.g h0 (.f h1 (.g h0 (.n 3 h2 (.m 5 h3 (.g h2 (.f h3 (.g h2 (.n 3 h4 (.m 5 h5 (.g h4 (.f h5 (.g h4 (.g h6 (.n 8 h7 (.z 40 (.z 42 (.z 44 (.y 46 (.y 48 (.y 50 (.y 52 (.y 54 (.z 56 (.y 57 (.z 59 (.z 62 (.z 64 (.z 66 (.y 68 (.y 70 (.y 72 (.y 74 (.y 76 (.z 78 (.y 79 (.z 81 (.z 84 (.z 86 (.z 88 (.y 90 (.y 92 (.y 94 (.y 96 (.y 98 (.z 100 (.y 101 (.z 103 (.z 104 (.z 109 (.z 111 (.z 113 (.z 115 (.z 117 (.z 119 (.z 133 (.z 136 (.r 147 [] [] f44 (.m 7 h8 (.y 152 (.y 154 (.y 156 (.y 158 (.y 160 (.y 162 (.y 165 .nil))))))))))))))))))))))))))))))))))))))))))))))))))))))))))))))))))))))
         ·try simp only [if_neg h8]
          have f50 := e75 (a0 := a0.f3)
          by_cases h9 : (!(m113 a0.f3 0 1000000)) = true
          ·try simp only [if_pos h9]
           exact cp (by kernel_rfl) (.r 11 [] [] f0 (.r 35 [] [] f1 (.n 3 h0 (.m 5 h1 (.g h0 (.f h1 (.g h0 (.n 3 h2 (.m 5 h3 (.g h2 (.f h3 (.g h2 (.n 3 h4 (.m 5 h5 (.g h4 (.f h5 (.g h4 (.g h6 (.n 8 h7 (.z 40 (.z 42 (.z 44 (.y 46 (.y 48 (.y 50 (.y 52 (.y 54 (.z 56 (.y 57 (.z 59 (.z 62 (.z 64 (.z 66 (.y 68 (.y 70 (.y 72 (.y 74 (.y 76 (.z 78 (.y 79 (.z 81 (.z 84 (.z 86 (.z 88 (.y 90 (.y 92 (.y 94 (.y 96 (.y 98 (.z 100 (.y 101 (.z 103 (.z 104 (.z 109 (.z 111 (.z 113 (.z 115 (.z 117 (.z 119 (.z 133 (.z 136 (.r 147 [] [] f44 (.n 5 h8 (.z 152 (.z 154 (.z 156 (.z 158 (.z 160 (.r 161 [] [] f50 (.n 2 h8 (.m 4 h9 (.z 162 (.z 165 (.y 168 (.y 170 (.y 182 (.y 185 .nil)))))))))))))))))))))))))))))))))))))))))))))))))))))))))))))))))))))))))))))
          ·try simp only [if_neg h9]
           by_cases h10 : (a0.f0 == 1) = true
           ·try simp only [if_pos h10]
            by_cases h11 : (decide (a0.f3 > 9999)) = true
            ·try simp only [if_pos h11]
             exact cp (by kernel_rfl) (.r 11 [] [] f0 (.r 35 [] [] f1 (.n 3 h0 (.m 5 h1 (.g h0 (.f h1 (.g h0 (.n 3 h2 (.m 5 h3 (.g h2 (.f h3 (.g h2 (.n 3 h4 (.m 5 h5 (.g h4 (.f h5 (.g h4 (.g h6 (.n 8 h7 (.z 40 (.z 42 (.z 44 (.y 46 (.y 48 (.y 50 (.y 52 (.y 54 (.z 56 (.y 57 (.z 59 (.z 62 (.z 64 (.z 66 (.y 68 (.y 70 (.y 72 (.y 74 (.y 76 (.z 78 (.y 79 (.z 81 (.z 84 (.z 86 (.z 88 (.y 90 (.y 92 (.y 94 (.y 96 (.y 98 (.z 100 (.y 101 (.z 103 (.z 104 (.z 109 (.z 111 (.z 113 (.z 115 (.z 117 (.z 119 (.z 133 (.z 136 (.r 147 [] [] f44 (.n 5 h8 (.z 152 (.z 154 (.z 156 (.z 158 (.z 160 (.r 161 [] [] f50 (.n 2 h8 (.n 2 h9 (.n 5 h7 (.g h9 (.g h7 (.g h9 (.m 6 h10 (.f h11 (.z 162 (.z 165 (.z 168 (.z 170 (.z 172 (.z 174 (.z 176 (.z 178 (.z 180 (.z 182 (.z 183 (.z 185 (.y 200 (.y 202 (.y 204 (.y 206 (.y 208 (.y 211 (.y 214 .nil))))))))))))))))))))))))))))))))))))))))))))))))))))))))))))))))))))))))))))))))))))))))))))))))
            ·try simp only [if_neg h11]
             exact cp (by kernel_rfl) (.r 11 [] [] f0 (.r 35 [] [] f1 (.n 3 h0 (.m 5 h1 (.g h0 (.f h1 (.g h0 (.n 3 h2 (.m 5 h3 (.g h2 (.f h3 (.g h2 (.n 3 h4 (.m 5 h5 (.g h4 (.f h5 (.g h4 (.g h6 (.n 8 h7 (.z 40 (.z 42 (.z 44 (.y 46 (.y 48 (.y 50 (.y 52 (.y 54 (.z 56 (.y 57 (.z 59 (.z 62 (.z 64 (.z 66 (.y 68 (.y 70 (.y 72 (.y 74 (.y 76 (.z 78 (.y 79 (.z 81 (.z 84 (.z 86 (.z 88 (.y 90 (.y 92 (.y 94 (.y 96 (.y 98 (.z 100 (.y 101 (.z 103 (.z 104 (.z 109 (.z 111 (.z 113 (.z 115 (.z 117 (.z 119 (.z 133 (.z 136 (.r 147 [] [] f44 (.n 5 h8 (.z 152 (.z 154 (.z 156 (.z 158 (.z 160 (.r 161 [] [] f50 (.n 2 h8 (.n 2 h9 (.n 5 h7 (.g h9 (.g h7 (.g h9 (.m 6 h10 (.g h11 (.z 162 (.z 165 (.z 168 (.z 170 (.z 172 (.z 174 (.z 176 (.z 178 (.z 180 (.z 182 (.z 183 (.z 185 (.y 200 (.y 202 (.y 204 (.y 206 (.y 208 (.y 211 (.z 214 .nil))))))))))))))))))))))))))))))))))))))))))))))))))))))))))))))))))))))))))))))))))))))))))))))))
           ·try simp only [if_neg h10]
            exact cp (by kernel_rfl) (.r 11 [] [] f0 (.r 35 [] [] f1 (.n 3 h0 (.m 5 h1 (.g h0 (.f h1 (.g h0 (.n 3 h2 (.m 5 h3 (.g h2 (.f h3 (.g h2 (.n 3 h4 (.m 5 h5 (.g h4 (.f h5 (.g h4 (.g h6 (.n 8 h7 (.z 40 (.z 42 (.z 44 (.y 46 (.y 48 (.y 50 (.y 52 (.y 54 (.z 56 (.y 57 (.z 59 (.z 62 (.z 64 (.z 66 (.y 68 (.y 70 (.y 72 (.y 74 (.y 76 (.z 78 (.y 79 (.z 81 (.z 84 (.z 86 (.z 88 (.y 90 (.y 92 (.y 94 (.y 96 (.y 98 (.z 100 (.y 101 (.z 103 (.z 104 (.z 109 (.z 111 (.z 113 (.z 115 (.z 117 (.z 119 (.z 133 (.z 136 (.r 147 [] [] f44 (.n 5 h8 (.z 152 (.z 154 (.z 156 (.z 158 (.z 160 (.r 161 [] [] f50 (.n 2 h8 (.n 2 h9 (.n 5 h7 (.g h9 (.g h7 (.g h9 (.n 6 h10 (.z 162 (.z 165 (.z 168 (.z 170 (.z 172 (.z 174 (.z 176 (.z 178 (.z 180 (.z 182 (.z 183 (.z 185 (.z 200 (.z 202 (.z 204 (.z 206 (.z 208 (.z 211 .nil))))))))))))))))))))))))))))))))))))))))))))))))))))))))))))))))))))))))))))))))))))))))))))))
      ·try simp only [if_neg h5]
       by_cases h6 : (m112_0 a0.f0) = true
       ·try simp only [if_pos h6]
        by_cases h7 : (a0.f1.toList == (⟨#[]⟩ : ByteArray).toList) = true
        ·try simp only [if_pos h7]
         exact cp (by kernel_rfl) (.r 11 [] [] f0 (.r 35 [] [] f1 (.n 3 h0 (.m 5 h1 (.g h0 (.f h1 (.g h0 (.n 3 h2 (.m 5 h3 (.g h2 (.f h3 (.g h2 (.n 3 h4 (.n 5 h5 (.g h4 (.g h5 (.g h4 (.m 6 h6 (.m 6 h7 (.f h6 (.f h7 (.f h6 (.z 40 (.z 42 (.z 44 (.y 46 (.y 48 (.y 50 (.y 52 (.y 54 (.z 56 (.y 57 (.z 59 (.z 62 (.z 64 (.z 66 (.y 68 (.y 70 (.y 72 (.y 74 (.y 76 (.z 78 (.y 79 (.z 81 (.z 84 (.z 86 (.z 88 (.z 90 (.z 92 (.z 94 (.z 96 (.z 98 (.z 100 (.z 101 (.z 103 (.y 109 (.y 111 (.y 113 (.y 115 (.y 117 (.y 119 (.y 121 (.y 123 (.y 125 (.y 127 (.y 129 (.y 131 (.y 133 (.y 134 (.y 136 .nil))))))))))))))))))))))))))))))))))))))))))))))))))))))))))))))))))))))
        ·try simp only [if_neg h7]
         have f46 := e114 (a0 := a0.f1) (by with_reducible assumption)
         by_cases h8 : (!(m114 a0.f1)) = true
         ·try simp only [if_pos h8]
          exact cp (by kernel_rfl) (.r 11 [] [] f0 (.r 35 [] [] f1 (.n 3 h0 (.m 5 h1 (.g h0 (.f h1 (.g h0 (.n 3 h2 (.m 5 h3 (.g h2 (.f h3 (.g h2 (.n 3 h4 (.n 5 h5 (.g h4 (.g h5 (.g h4 (.m 6 h6 (.n 5 h7 (.z 40 (.z 42 (.z 44 (.y 46 (.y 48 (.y 50 (.y 52 (.y 54 (.z 56 (.y 57 (.z 59 (.z 62 (.z 64 (.z 66 (.y 68 (.y 70 (.y 72 (.y 74 (.y 76 (.z 78 (.y 79 (.z 81 (.z 84 (.z 86 (.z 88 (.z 90 (.z 92 (.z 94 (.z 96 (.z 98 (.z 100 (.z 101 (.z 103 (.y 109 (.y 111 (.y 113 (.y 115 (.y 117 (.y 119 (.z 121 (.z 123 (.z 125 (.z 127 (.z 129 (.r 130 [] [] f46 (.g h7 (.f h6 (.g h7 (.f h6 (.f h8 (.z 131 (.y 133 (.z 134 (.y 136 (.y 137 .nil))))))))))))))))))))))))))))))))))))))))))))))))))))))))))))))))))))))))))
         ·try simp only [if_neg h8]
          have f52 := e115 (a0 := a0.f2)
          by_cases h9 : (!(m113 a0.f2 0 2147483646)) = true
          ·try simp only [if_pos h9]
           exact cp (by kernel_rfl) (.r 11 [] [] f0 (.r 35 [] [] f1 (.n 3 h0 (.m 5 h1 (.g h0 (.f h1 (.g h0 (.n 3 h2 (.m 5 h3 (.g h2 (.f h3 (.g h2 (.n 3 h4 (.n 5 h5 (.g h4 (.g h5 (.g h4 (.m 6 h6 (.n 5 h7 (.z 40 (.z 42 (.z 44 (.y 46 (.y 48 (.y 50 (.y 52 (.y 54 (.z 56 (.y 57 (.z 59 (.z 62 (.z 64 (.z 66 (.y 68 (.y 70 (.y 72 (.y 74 (.y 76 (.z 78 (.y 79 (.z 81 (.z 84 (.z 86 (.z 88 (.z 90 (.z 92 (.z 94 (.z 96 (.z 98 (.z 100 (.z 101 (.z 103 (.y 109 (.y 111 (.y 113 (.y 115 (.y 117 (.y 119 (.z 121 (.z 123 (.z 125 (.z 127 (.z 129 (.r 130 [] [] f46 (.g h7 (.f h6 (.g h7 (.f h6 (.g h8 (.z 131 (.y 133 (.z 134 (.y 136 (.z 137 (.r 147 [] [] f52 (.m 7 h9 (.y 152 (.y 154 (.y 156 (.y 158 (.y 160 (.y 162 (.y 165 .nil)))))))))))))))))))))))))))))))))))))))))))))))))))))))))))))))))))))))))))))))))))
          ·try simp only [if_neg h9]
           have f58 := e75 (a0 := a0.f3)
           by_cases h10 : (!(m113 a0.f3 0 1000000)) = true
           ·try simp only [if_pos h10]
            exact cp (by kernel_rfl) (.r 11 [] [] f0 (.r 35 [] [] f1 (.n 3 h0 (.m 5 h1 (.g h0 (.f h1 (.g h0 (.n 3 h2 (.m 5 h3 (.g h2 (.f h3 (.g h2 (.n 3 h4 (.n 5 h5 (.g h4 (.g h5 (.g h4 (.m 6 h6 (.n 5 h7 (.z 40 (.z 42 (.z 44 (.y 46 (.y 48 (.y 50 (.y 52 (.y 54 (.z 56 (.y 57 (.z 59 (.z 62 (.z 64 (.z 66 (.y 68 (.y 70 (.y 72 (.y 74 (.y 76 (.z 78 (.y 79 (.z 81 (.z 84 (.z 86 (.z 88 (.z 90 (.z 92 (.z 94 (.z 96 (.z 98 (.z 100 (.z 101 (.z 103 (.y 109 (.y 111 (.y 113 (.y 115 (.y 117 (.y 119 (.z 121 (.z 123 (.z 125 (.z 127 (.z 129 (.r 130 [] [] f46 (.g h7 (.f h6 (.g h7 (.f h6 (.g h8 (.z 131 (.y 133 (.z 134 (.y 136 (.z 137 (.r 147 [] [] f52 (.n 5 h9 (.z 152 (.z 154 (.z 156 (.z 158 (.z 160 (.r 161 [] [] f58 (.n 2 h9 (.m 4 h10 (.z 162 (.z 165 (.y 168 (.y 170 (.y 182 (.y 185 .nil))))))))))))))))))))))))))))))))))))))))))))))))))))))))))))))))))))))))))))))))))))))))))
           ·try simp only [if_neg h10]
            by_cases h11 : (decide (a0.f3 < 1)) = true
            ·try simp only [if_pos h11]
             exact cp (by kernel_rfl) (.r 11 [] [] f0 (.r 35 [] [] f1 (.n 3 h0 (.m 5 h1 (.g h0 (.f h1 (.g h0 (.n 3 h2 (.m 5 h3 (.g h2 (.f h3 (.g h2 (.n 3 h4 (.n 5 h5 (.g h4 (.g h5 (.g h4 (.m 6 h6 (.n 5 h7 (.z 40 (.z 42 (.z 44 (.y 46 (.y 48 (.y 50 (.y 52 (.y 54 (.z 56 (.y 57 (.z 59 (.z 62 (.z 64 (.z 66 (.y 68 (.y 70 (.y 72 (.y 74 (.y 76 (.z 78 (.y 79 (.z 81 (.z 84 (.z 86 (.z 88 (.z 90 (.z 92 (.z 94 (.z 96 (.z 98 (.z 100 (.z 101 (.z 103 (.y 109 (.y 111 (.y 113 (.y 115 (.y 117 (.y 119 (.z 121 (.z 123 (.z 125 (.z 127 (.z 129 (.r 130 [] [] f46 (.g h7 (.f h6 (.g h7 (.f h6 (.g h8 (.z 131 (.y 133 (.z 134 (.y 136 (.z 137 (.r 147 [] [] f52 (.n 5 h9 (.z 152 (.z 154 (.z 156 (.z 158 (.z 160 (.r 161 [] [] f58 (.n 2 h9 (.n 2 h10 (.m 5 h6 (.g h10 (.f h6 (.g h10 (.m 8 h11 (.z 162 (.z 165 (.z 168 (.z 170 (.y 172 (.y 174 (.y 176 (.y 178 (.y 180 (.z 182 (.y 183 (.z 185 (.y 188 (.y 190 (.y 192 (.y 194 (.y 196 (.y 198 (.y 210 (.y 213 .nil)))))))))))))))))))))))))))))))))))))))))))))))))))))))))))))))))))))))))))))))))))))))))))))))))))))))))))))
            ·try simp only [if_neg h11]
             by_cases h12 : (a0.f0 == 1) = true
             ·try simp only [if_pos h12]
              by_cases h13 : (decide (a0.f3 > 9999)) = true
              ·try simp only [if_pos h13]
               exact cp (by kernel_rfl) (.r 11 [] [] f0 (.r 35 [] [] f1 (.n 3 h0 (.m 5 h1 (.g h0 (.f h1 (.g h0 (.n 3 h2 (.m 5 h3 (.g h2 (.f h3 (.g h2 (.n 3 h4 (.n 5 h5 (.g h4 (.g h5 (.g h4 (.m 6 h6 (.n 5 h7 (.z 40 (.z 42 (.z 44 (.y 46 (.y 48 (.y 50 (.y 52 (.y 54 (.z 56 (.y 57 (.z 59 (.z 62 (.z 64 (.z 66 (.y 68 (.y 70 (.y 72 (.y 74 (.y 76 (.z 78 (.y 79 (.z 81 (.z 84 (.z 86 (.z 88 (.z 90 (.z 92 (.z 94 (.z 96 (.z 98 (.z 100 (.z 101 (.z 103 (.y 109 (.y 111 (.y 113 (.y 115 (.y 117 (.y 119 (.z 121 (.z 123 (.z 125 (.z 127 (.z 129 (.r 130 [] [] f46 (.g h7 (.f h6 (.g h7 (.f h6 (.g h8 (.z 131 (.y 133 (.z 134 (.y 136 (.z 137 (.r 147 [] [] f52 (.n 5 h9 (.z 152 (.z 154 (.z 156 (.z 158 (.z 160 (.r 161 [] [] f58 (.n 2 h9 (.n 2 h10 (.m 5 h6 (.g h10 (.f h6 (.g h10 (.n 6 h11 (.m 5 h12 (.g h11 (.f h12 (.g h11 (.f h13 (.z 162 (.z 165 (.z 168 (.z 170 (.y 172 (.y 174 (.y 176 (.y 178 (.y 180 (.z 182 (.y 183 (.z 185 (.z 188 (.z 190 (.z 192 (.z 194 (.z 196 (.z 198 (.y 200 (.y 202 (.y 204 (.y 206 (.y 208 (.z 210 (.y 211 (.z 213 (.y 214 .nil)))))))))))))))))))))))))))))))))))))))))))))))))))))))))))))))))))))))))))))))))))))))))))))))))))))))))))))))))))))))))
              ·try simp only [if_neg h13]
               exact cp (by kernel_rfl) (.r 11 [] [] f0 (.r 35 [] [] f1 (.n 3 h0 (.m 5 h1 (.g h0 (.f h1 (.g h0 (.n 3 h2 (.m 5 h3 (.g h2 (.f h3 (.g h2 (.n 3 h4 (.n 5 h5 (.g h4 (.g h5 (.g h4 (.m 6 h6 (.n 5 h7 (.z 40 (.z 42 (.z 44 (.y 46 (.y 48 (.y 50 (.y 52 (.y 54 (.z 56 (.y 57 (.z 59 (.z 62 (.z 64 (.z 66 (.y 68 (.y 70 (.y 72 (.y 74 (.y 76 (.z 78 (.y 79 (.z 81 (.z 84 (.z 86 (.z 88 (.z 90 (.z 92 (.z 94 (.z 96 (.z 98 (.z 100 (.z 101 (.z 103 (.y 109 (.y 111 (.y 113 (.y 115 (.y 117 (.y 119 (.z 121 (.z 123 (.z 125 (.z 127 (.z 129 (.r 130 [] [] f46 (.g h7 (.f h6 (.g h7 (.f h6 (.g h8 (.z 131 (.y 133 (.z 134 (.y 136 (.z 137 (.r 147 [] [] f52 (.n 5 h9 (.z 152 (.z 154 (.z 156 (.z 158 (.z 160 (.r 161 [] [] f58 (.n 2 h9 (.n 2 h10 (.m 5 h6 (.g h10 (.f h6 (.g h10 (.n 6 h11 (.m 5 h12 (.g h11 (.f h12 (.g h11 (.g h13 (.z 162 (.z 165 (.z 168 (.z 170 (.y 172 (.y 174 (.y 176 (.y 178 (.y 180 (.z 182 (.y 183 (.z 185 (.z 188 (.z 190 (.z 192 (.z 194 (.z 196 (.z 198 (.y 200 (.y 202 (.y 204 (.y 206 (.y 208 (.z 210 (.y 211 (.z 213 (.z 214 .nil)))))))))))))))))))))))))))))))))))))))))))))))))))))))))))))))))))))))))))))))))))))))))))))))))))))))))))))))))))))))))
             ·try simp only [if_neg h12]
              exact cp (by kernel_rfl) (.r 11 [] [] f0 (.r 35 [] [] f1 (.n 3 h0 (.m 5 h1 (.g h0 (.f h1 (.g h0 (.n 3 h2 (.m 5 h3 (.g h2 (.f h3 (.g h2 (.n 3 h4 (.n 5 h5 (.g h4 (.g h5 (.g h4 (.m 6 h6 (.n 5 h7 (.z 40 (.z 42 (.z 44 (.y 46 (.y 48 (.y 50 (.y 52 (.y 54 (.z 56 (.y 57 (.z 59 (.z 62 (.z 64 (.z 66 (.y 68 (.y 70 (.y 72 (.y 74 (.y 76 (.z 78 (.y 79 (.z 81 (.z 84 (.z 86 (.z 88 (.z 90 (.z 92 (.z 94 (.z 96 (.z 98 (.z 100 (.z 101 (.z 103 (.y 109 (.y 111 (.y 113 (.y 115 (.y 117 (.y 119 (.z 121 (.z 123 (.z 125 (.z 127 (.z 129 (.r 130 [] [] f46 (.g h7 (.f h6 (.g h7 (.f h6 (.g h8 (.z 131 (.y 133 (.z 134 (.y 136 (.z 137 (.r 147 [] [] f52 (.n 5 h9 (.z 152 (.z 154 (.z 156 (.z 158 (.z 160 (.r 161 [] [] f58 (.n 2 h9 (.n 2 h10 (.m 5 h6 (.g h10 (.f h6 (.g h10 (.n 6 h11 (.n 5 h12 (.g h11 (.g h12 (.g h11 (.z 162 (.z 165 (.z 168 (.z 170 (.y 172 (.y 174 (.y 176 (.y 178 (.y 180 (.z 182 (.y 183 (.z 185 (.z 188 (.z 190 (.z 192 (.z 194 (.z 196 (.z 198 (.z 200 (.z 202 (.z 204 (.z 206 (.z 208 (.z 210 (.z 211 (.z 213 .nil)))))))))))))))))))))))))))))))))))))))))))))))))))))))))))))))))))))))))))))))))))))))))))))))))))))))))))))))))))))))
       ·try simp only [if_neg h6]
        have f43 := e115 (a0 := a0.f2)
        by_cases h7 : (!(m113 a0.f2 0 2147483646)) = true
        ·try simp only [if_pos h7]
         exact cp (by kernel_rfl) (.r 11 [] [] f0 (.r 35 [] [] f1 (.n 3 h0 (.m 5 h1 (.g h0 (.f h1 (.g h0 (.n 3 h2 (.m 5 h3 (.g h2 (.f h3 (.g h2 (.n 3 h4 (.n 5 h5 (.g h4 (.g h5 (.g h4 (.n 8 h6 (.z 40 (.z 42 (.z 44 (.y 46 (.y 48 (.y 50 (.y 52 (.y 54 (.z 56 (.y 57 (.z 59 (.z 62 (.z 64 (.z 66 (.y 68 (.y 70 (.y 72 (.y 74 (.y 76 (.z 78 (.y 79 (.z 81 (.z 84 (.z 86 (.z 88 (.z 90 (.z 92 (.z 94 (.z 96 (.z 98 (.z 100 (.z 101 (.z 103 (.z 109 (.z 111 (.z 113 (.z 115 (.z 117 (.z 119 (.z 133 (.z 136 (.r 147 [] [] f43 (.m 7 h7 (.y 152 (.y 154 (.y 156 (.y 158 (.y 160 (.y 162 (.y 165 .nil))))))))))))))))))))))))))))))))))))))))))))))))))))))))))))))))))))
        ·try simp only [if_neg h7]
         have f49 := e75 (a0 := a0.f3)
         by_cases h8 : (!(m113 a0.f3 0 1000000)) = true
         ·try simp only [if_pos h8]
          exact cp (by kernel_rfl) (.r 11 [] [] f0 (.r 35 [] [] f1 (.n 3 h0 (.m 5 h1 (.g h0 (.f h1 (.g h0 (.n 3 h2 (.m 5 h3 (.g h2 (.f h3 (.g h2 (.n 3 h4 (.n 5 h5 (.g h4 (.g h5 (.g h4 (.n 8 h6 (.z 40 (.z 42 (.z 44 (.y 46 (.y 48 (.y 50 (.y 52 (.y 54 (.z 56 (.y 57 (.z 59 (.z 62 (.z 64 (.z 66 (.y 68 (.y 70 (.y 72 (.y 74 (.y 76 (.z 78 (.y 79 (.z 81 (.z 84 (.z 86 (.z 88 (.z 90 (.z 92 (.z 94 (.z 96 (.z 98 (.z 100 (.z 101 (.z 103 (.z 109 (.z 111 (.z 113 (.z 115 (.z 117 (.z 119 (.z 133 (.z 136 (.r 147 [] [] f43 (.n 5 h7 (.z 152 (.z 154 (.z 156 (.z 158 (.z 160 (.r 161 [] [] f49 (.n 2 h7 (.m 4 h8 (.z 162 (.z 165 (.y 168 (.y 170 (.y 182 (.y 185 .nil)))))))))))))))))))))))))))))))))))))))))))))))))))))))))))))))))))))))))))
         ·try simp only [if_neg h8]
          by_cases h9 : (a0.f0 == 1) = true
          ·try simp only [if_pos h9]
           by_cases h10 : (decide (a0.f3 > 9999)) = true
           ·try simp only [if_pos h10]
            exact cp (by kernel_rfl) (.r 11 [] [] f0 (.r 35 [] [] f1 (.n 3 h0 (.m 5 h1 (.g h0 (.f h1 (.g h0 (.n 3 h2 (.m 5 h3 (.g h2 (.f h3 (.g h2 (.n 3 h4 (.n 5 h5 (.g h4 (.g h5 (.g h4 (.n 8 h6 (.z 40 (.z 42 (.z 44 (.y 46 (.y 48 (.y 50 (.y 52 (.y 54 (.z 56 (.y 57 (.z 59 (.z 62 (.z 64 (.z 66 (.y 68 (.y 70 (.y 72 (.y 74 (.y 76 (.z 78 (.y 79 (.z 81 (.z 84 (.z 86 (.z 88 (.z 90 (.z 92 (.z 94 (.z 96 (.z 98 (.z 100 (.z 101 (.z 103 (.z 109 (.z 111 (.z 113 (.z 115 (.z 117 (.z 119 (.z 133 (.z 136 (.r 147 [] [] f43 (.n 5 h7 (.z 152 (.z 154 (.z 156 (.z 158 (.z 160 (.r 161 [] [] f49 (.n 2 h7 (.n 2 h8 (.n 5 h6 (.g h8 (.g h6 (.g h8 (.m 6 h9 (.f h10 (.z 162 (.z 165 (.z 168 (.z 170 (.z 172 (.z 174 (.z 176 (.z 178 (.z 180 (.z 182 (.z 183 (.z 185 (.y 200 (.y 202 (.y 204 (.y 206 (.y 208 (.y 211 (.y 214 .nil))))))))))))))))))))))))))))))))))))))))))))))))))))))))))))))))))))))))))))))))))))))))))))))
           ·try simp only [if_neg h10]
            exact cp (by kernel_rfl) (.r 11 [] [] f0 (.r 35 [] [] f1 (.n 3 h0 (.m 5 h1 (.g h0 (.f h1 (.g h0 (.n 3 h2 (.m 5 h3 (.g h2 (.f h3 (.g h2 (.n 3 h4 (.n 5 h5 (.g h4 (.g h5 (.g h4 (.n 8 h6 (.z 40 (.z 42 (.z 44 (.y 46 (.y 48 (.y 50 (.y 52 (.y 54 (.z 56 (.y 57 (.z 59 (.z 62 (.z 64 (.z 66 (.y 68 (.y 70 (.y 72 (.y 74 (.y 76 (.z 78 (.y 79 (.z 81 (.z 84 (.z 86 (.z 88 (.z 90 (.z 92 (.z 94 (.z 96 (.z 98 (.z 100 (.z 101 (.z 103 (.z 109 (.z 111 (.z 113 (.z 115 (.z 117 (.z 119 (.z 133 (.z 136 (.r 147 [] [] f43 (.n 5 h7 (.z 152 (.z 154 (.z 156 (.z 158 (.z 160 (.r 161 [] [] f49 (.n 2 h7 (.n 2 h8 (.n 5 h6 (.g h8 (.g h6 (.g h8 (.m 6 h9 (.g h10 (.z 162 (.z 165 (.z 168 (.z 170 (.z 172 (.z 174 (.z 176 (.z 178 (.z 180 (.z 182 (.z 183 (.z 185 (.y 200 (.y 202 (.y 204 (.y 206 (.y 208 (.y 211 (.z 214 .nil))))))))))))))))))))))))))))))))))))))))))))))))))))))))))))))))))))))))))))))))))))))))))))))
          ·try simp only [if_neg h9]
           exact cp (by kernel_rfl) (.r 11 [] [] f0 (.r 35 [] [] f1 (.n 3 h0 (.m 5 h1 (.g h0 (.f h1 (.g h0 (.n 3 h2 (.m 5 h3 (.g h2 (.f h3 (.g h2 (.n 3 h4 (.n 5 h5 (.g h4 (.g h5 (.g h4 (.n 8 h6 (.z 40 (.z 42 (.z 44 (.y 46 (.y 48 (.y 50 (.y 52 (.y 54 (.z 56 (.y 57 (.z 59 (.z 62 (.z 64 (.z 66 (.y 68 (.y 70 (.y 72 (.y 74 (.y 76 (.z 78 (.y 79 (.z 81 (.z 84 (.z 86 (.z 88 (.z 90 (.z 92 (.z 94 (.z 96 (.z 98 (.z 100 (.z 101 (.z 103 (.z 109 (.z 111 (.z 113 (.z 115 (.z 117 (.z 119 (.z 133 (.z 136 (.r 147 [] [] f43 (.n 5 h7 (.z 152 (.z 154 (.z 156 (.z 158 (.z 160 (.r 161 [] [] f49 (.n 2 h7 (.n 2 h8 (.n 5 h6 (.g h8 (.g h6 (.g h8 (.n 6 h9 (.z 162 (.z 165 (.z 168 (.z 170 (.z 172 (.z 174 (.z 176 (.z 178 (.z 180 (.z 182 (.z 183 (.z 185 (.z 200 (.z 202 (.z 204 (.z 206 (.z 208 (.z 211 .nil))))))))))))))))))))))))))))))))))))))))))))))))))))))))))))))))))))))))))))))))))))))))))))
    ·try simp only [if_neg h3]
     by_cases h4 : (!(m112_2 a0.f0)) = true
     ·try simp only [if_pos h4]
      by_cases h5 : (a0.f3 != 0) = true
      ·try simp only [if_pos h5]
       exact cp (by kernel_rfl) (.r 11 [] [] f0 (.r 35 [] [] f1 (.n 3 h0 (.m 5 h1 (.g h0 (.f h1 (.g h0 (.n 3 h2 (.n 5 h3 (.g h2 (.g h3 (.g h2 (.m 6 h4 (.f h5 (.z 40 (.z 42 (.z 44 (.y 46 (.y 48 (.y 50 (.y 52 (.y 54 (.z 56 (.y 57 (.z 59 (.z 62 (.z 64 (.z 66 (.z 68 (.z 70 (.z 72 (.z 74 (.z 76 (.z 78 (.z 79 (.z 81 (.y 90 (.y 92 (.y 94 (.y 96 (.y 98 (.y 101 (.y 104 .nil)))))))))))))))))))))))))))))))))))))))))))
      ·try simp only [if_neg h5]
       by_cases h6 : (m112_0 a0.f0) = true
       ·try simp only [if_pos h6]
        by_cases h7 : (a0.f1.toList == (⟨#[]⟩ : ByteArray).toList) = true
        ·try simp only [if_pos h7]
         exact cp (by kernel_rfl) (.r 11 [] [] f0 (.r 35 [] [] f1 (.n 3 h0 (.m 5 h1 (.g h0 (.f h1 (.g h0 (.n 3 h2 (.n 5 h3 (.g h2 (.g h3 (.g h2 (.m 6 h4 (.g h5 (.m 6 h6 (.m 6 h7 (.f h6 (.f h7 (.f h6 (.z 40 (.z 42 (.z 44 (.y 46 (.y 48 (.y 50 (.y 52 (.y 54 (.z 56 (.y 57 (.z 59 (.z 62 (.z 64 (.z 66 (.z 68 (.z 70 (.z 72 (.z 74 (.z 76 (.z 78 (.z 79 (.z 81 (.y 90 (.y 92 (.y 94 (.y 96 (.y 98 (.y 101 (.z 104 (.y 109 (.y 111 (.y 113 (.y 115 (.y 117 (.y 119 (.y 121 (.y 123 (.y 125 (.y 127 (.y 129 (.y 131 (.y 133 (.y 134 (.y 136 .nil)))))))))))))))))))))))))))))))))))))))))))))))))))))))))))))))
        ·try simp only [if_neg h7]
         have f42 := e114 (a0 := a0.f1) (by with_reducible assumption)
         by_cases h8 : (!(m114 a0.f1)) = true
         ·try simp only [if_pos h8]
          exact cp (by kernel_rfl) (.r 11 [] [] f0 (.r 35 [] [] f1 (.n 3 h0 (.m 5 h1 (.g h0 (.f h1 (.g h0 (.n 3 h2 (.n 5 h3 (.g h2 (.g h3 (.g h2 (.m 6 h4 (.g h5 (.m 6 h6 (.n 5 h7 (.z 40 (.z 42 (.z 44 (.y 46 (.y 48 (.y 50 (.y 52 (.y 54 (.z 56 (.y 57 (.z 59 (.z 62 (.z 64 (.z 66 (.z 68 (.z 70 (.z 72 (.z 74 (.z 76 (.z 78 (.z 79 (.z 81 (.y 90 (.y 92 (.y 94 (.y 96 (.y 98 (.y 101 (.z 104 (.y 109 (.y 111 (.y 113 (.y 115 (.y 117 (.y 119 (.z 121 (.z 123 (.z 125 (.z 127 (.z 129 (.r 130 [] [] f42 (.g h7 (.f h6 (.g h7 (.f h6 (.f h8 (.z 131 (.y 133 (.z 134 (.y 136 (.y 137 .nil)))))))))))))))))))))))))))))))))))))))))))))))))))))))))))))))))))
         ·try simp only [if_neg h8]
          have f48 := e115 (a0 := a0.f2)
          by_cases h9 : (!(m113 a0.f2 0 2147483646)) = true
          ·try simp only [if_pos h9]
           exact cp (by kernel_rfl) (.r 11 [] [] f0 (.r 35 [] [] f1 (.n 3 h0 (.m 5 h1 (.g h0 (.f h1 (.g h0 (.n 3 h2 (.n 5 h3 (.g h2 (.g h3 (.g h2 (.m 6 h4 (.g h5 (.m 6 h6 (.n 5 h7 (.z 40 (.z 42 (.z 44 (.y 46 (.y 48 (.y 50 (.y 52 (.y 54 (.z 56 (.y 57 (.z 59 (.z 62 (.z 64 (.z 66 (.z 68 (.z 70 (.z 72 (.z 74 (.z 76 (.z 78 (.z 79 (.z 81 (.y 90 (.y 92 (.y 94 (.y 96 (.y 98 (.y 101 (.z 104 (.y 109 (.y 111 (.y 113 (.y 115 (.y 117 (.y 119 (.z 121 (.z 123 (.z 125 (.z 127 (.z 129 (.r 130 [] [] f42 (.g h7 (.f h6 (.g h7 (.f h6 (.g h8 (.z 131 (.y 133 (.z 134 (.y 136 (.z 137 (.r 147 [] [] f48 (.m 7 h9 (.y 152 (.y 154 (.y 156 (.y 158 (.y 160 (.y 162 (.y 165 .nil))))))))))))))))))))))))))))))))))))))))))))))))))))))))))))))))))))))))))))
          ·try simp only [if_neg h9]
           have f54 := e75 (a0 := a0.f3)
           by_cases h10 : (!(m113 a0.f3 0 1000000)) = true
           ·try simp only [if_pos h10]
            exact cp (by kernel_rfl) (.r 11 [] [] f0 (.r 35 [] [] f1 (.n 3 h0 (.m 5 h1 (.g h0 (.f h1 (.g h0 (.n 3 h2 (.n 5 h3 (.g h2 (.g h3 (.g h2 (.m 6 h4 (.g h5 (.m 6 h6 (.n 5 h7 (.z 40 (.z 42 (.z 44 (.y 46 (.y 48 (.y 50 (.y 52 (.y 54 (.z 56 (.y 57 (.z 59 (.z 62 (.z 64 (.z 66 (.z 68 (.z 70 (.z 72 (.z 74 (.z 76 (.z 78 (.z 79 (.z 81 (.y 90 (.y 92 (.y 94 (.y 96 (.y 98 (.y 101 (.z 104 (.y 109 (.y 111 (.y 113 (.y 115 (.y 117 (.y 119 (.z 121 (.z 123 (.z 125 (.z 127 (.z 129 (.r 130 [] [] f42 (.g h7 (.f h6 (.g h7 (.f h6 (.g h8 (.z 131 (.y 133 (.z 134 (.y 136 (.z 137 (.r 147 [] [] f48 (.n 5 h9 (.z 152 (.z 154 (.z 156 (.z 158 (.z 160 (.r 161 [] [] f54 (.n 2 h9 (.m 4 h10 (.z 162 (.z 165 (.y 168 (.y 170 (.y 182 (.y 185 .nil)))))))))))))))))))))))))))))))))))))))))))))))))))))))))))))))))))))))))))))))))))
           ·try simp only [if_neg h10]
            by_cases h11 : (decide (a0.f3 < 1)) = true
            ·try simp only [if_pos h11]
             exact cp (by kernel_rfl) (.r 11 [] [] f0 (.r 35 [] [] f1 (.n 3 h0 (.m 5 h1 (.g h0 (.f h1 (.g h0 (.n 3 h2 (.n 5 h3 (.g h2 (.g h3 (.g h2 (.m 6 h4 (.g h5 (.m 6 h6 (.n 5 h7 (.z 40 (.z 42 (.z 44 (.y 46 (.y 48 (.y 50 (.y 52 (.y 54 (.z 56 (.y 57 (.z 59 (.z 62 (.z 64 (.z 66 (.z 68 (.z 70 (.z 72 (.z 74 (.z 76 (.z 78 (.z 79 (.z 81 (.y 90 (.y 92 (.y 94 (.y 96 (.y 98 (.y 101 (.z 104 (.y 109 (.y 111 (.y 113 (.y 115 (.y 117 (.y 119 (.z 121 (.z 123 (.z 125 (.z 127 (.z 129 (.r 130 [] [] f42 (.g h7 (.f h6 (.g h7 (.f h6 (.g h8 (.z 131 (.y 133 (.z 134 (.y 136 (.z 137 (.r 147 [] [] f48 (.n 5 h9 (.z 152 (.z 154 (.z 156 (.z 158 (.z 160 (.r 161 [] [] f54 (.n 2 h9 (.n 2 h10 (.m 5 h6 (.g h10 (.f h6 (.g h10 (.m 8 h11 (.z 162 (.z 165 (.z 168 (.z 170 (.y 172 (.y 174 (.y 176 (.y 178 (.y 180 (.z 182 (.y 183 (.z 185 (.y 188 (.y 190 (.y 192 (.y 194 (.y 196 (.y 198 (.y 210 (.y 213 .nil))))))))))))))))))))))))))))))))))))))))))))))))))))))))))))))))))))))))))))))))))))))))))))))))))))))
            ·try simp only [if_neg h11]
             by_cases h12 : (a0.f0 == 1) = true
             ·try simp only [if_pos h12]
              by_cases h13 : (decide (a0.f3 > 9999)) = true
              ·try simp only [if_pos h13]
               exact cp (by kernel_rfl) (.r 11 [] [] f0 (.r 35 [] [] f1 (.n 3 h0 (.m 5 h1 (.g h0 (.f h1 (.g h0 (.n 3 h2 (.n 5 h3 (.g h2 (.g h3 (.g h2 (.m 6 h4 (.g h5 (.m 6 h6 (.n 5 h7 (.z 40 (.z 42 (.z 44 (.y 46 (.y 48 (.y 50 (.y 52 (.y 54 (.z 56 (.y 57 (.z 59 (.z 62 (.z 64 (.z 66 (.z 68 (.z 70 (.z 72 (.z 74 (.z 76 (.z 78 (.z 79 (.z 81 (.y 90 (.y 92 (.y 94 (.y 96 (.y 98 (.y 101 (.z 104 (.y 109 (.y 111 (.y 113 (.y 115 (.y 117 (.y 119 (.z 121 (.z 123 (.z 125 (.z 127 (.z 129 (.r 130 [] [] f42 (.g h7 (.f h6 (.g h7 (.f h6 (.g h8 (.z 131 (.y 133 (.z 134 (.y 136 (.z 137 (.r 147 [] [] f48 (.n 5 h9 (.z 152 (.z 154 (.z 156 (.z 158 (.z 160 (.r 161 [] [] f54 (.n 2 h9 (.n 2 h10 (.m 5 h6 (.g h10 (.f h6 (.g h10 (.n 6 h11 (.m 5 h12 (.g h11 (.f h12 (.g h11 (.f h13 (.z 162 (.z 165 (.z 168 (.z 170 (.y 172 (.y 174 (.y 176 (.y 178 (.y 180 (.z 182 (.y 183 (.z 185 (.z 188 (.z 190 (.z 192 (.z 194 (.z 196 (.z 198 (.y 200 (.y 202 (.y 204 (.y 206 (.y 208 (.z 210 (.y 211 (.z 213 (.y 214 .nil))))))))))))))))))))))))))))))))))))))))))))))))))))))))))))))))))))))))))))))))))))))))))))))))))))))))))))))))))
              ·try simp only [if_neg h13]
               exact cp (by kernel_rfl) (.r 11 [] [] f0 (.r 35 [] [] f1 (.n 3 h0 (.m 5 h1 (.g h0 (.f h1 (.g h0 (.n 3 h2 (.n 5 h3 (.g h2 (.g h3 (.g h2 (.m 6 h4 (.g h5 (.m 6 h6 (.n 5 h7 (.z 40 (.z 42 (.z 44 (.y 46 (.y 48 (.y 50 (.y 52 (.y 54 (.z 56 (.y 57 (.z 59 (.z 62 (.z 64 (.z 66 (.z 68 (.z 70 (.z 72 (.z 74 (.z 76 (.z 78 (.z 79 (.z 81 (.y 90 (.y 92 (.y 94 (.y 96 (.y 98 (.y 101 (.z 104 (.y 109 (.y 111 (.y 113 (.y 115 (.y 117 (.y 119 (.z 121 (.z 123 (.z 125 (.z 127 (.z 129 (.r 130 [] [] f42 (.g h7 (.f h6 (.g h7 (.f h6 (.g h8 (.z 131 (.y 133 (.z 134 (.y 136 (.z 137 (.r 147 [] [] f48 (.n 5 h9 (.z 152 (.z 154 (.z 156 (.z 158 (.z 160 (.r 161 [] [] f54 (.n 2 h9 (.n 2 h10 (.m 5 h6 (.g h10 (.f h6 (.g h10 (.n 6 h11 (.m 5 h12 (.g h11 (.f h12 (.g h11 (.g h13 (.z 162 (.z 165 (.z 168 (.z 170 (.y 172 (.y 174 (.y 176 (.y 178 (.y 180 (.z 182 (.y 183 (.z 185 (.z 188 (.z 190 (.z 192 (.z 194 (.z 196 (.z 198 (.y 200 (.y 202 (.y 204 (.y 206 (.y 208 (.z 210 (.y 211 (.z 213 (.z 214 .nil))))))))))))))))))))))))))))))))))))))))))))))))))))))))))))))))))))))))))))))))))))))))))))))))))))))))))))))))))
             ·try simp only [if_neg h12]
              exact cp (by kernel_rfl) (.r 11 [] [] f0 (.r 35 [] [] f1 (.n 3 h0 (.m 5 h1 (.g h0 (.f h1 (.g h0 (.n 3 h2 (.n 5 h3 (.g h2 (.g h3 (.g h2 (.m 6 h4 (.g h5 (.m 6 h6 (.n 5 h7 (.z 40 (.z 42 (.z 44 (.y 46 (.y 48 (.y 50 (.y 52 (.y 54 (.z 56 (.y 57 (.z 59 (.z 62 (.z 64 (.z 66 (.z 68 (.z 70 (.z 72 (.z 74 (.z 76 (.z 78 (.z 79 (.z 81 (.y 90 (.y 92 (.y 94 (.y 96 (.y 98 (.y 101 (.z 104 (.y 109 (.y 111 (.y 113 (.y 115 (.y 117 (.y 119 (.z 121 (.z 123 (.z 125 (.z 127 (.z 129 (.r 130 [] [] f42 (.g h7 (.f h6 (.g h7 (.f h6 (.g h8 (.z 131 (.y 133 (.z 134 (.y 136 (.z 137 (.r 147 [] [] f48 (.n 5 h9 (.z 152 (.z 154 (.z 156 (.z 158 (.z 160 (.r 161 [] [] f54 (.n 2 h9 (.n 2 h10 (.m 5 h6 (.g h10 (.f h6 (.g h10 (.n 6 h11 (.n 5 h12 (.g h11 (.g h12 (.g h11 (.z 162 (.z 165 (.z 168 (.z 170 (.y 172 (.y 174 (.y 176 (.y 178 (.y 180 (.z 182 (.y 183 (.z 185 (.z 188 (.z 190 (.z 192 (.z 194 (.z 196 (.z 198 (.z 200 (.z 202 (.z 204 (.z 206 (.z 208 (.z 210 (.z 211 (.z 213 .nil))))))))))))))))))))))))))))))))))))))))))))))))))))))))))))))))))))))))))))))))))))))))))))))))))))))))))))))))
       ·try simp only [if_neg h6]
        have f39 := e115 (a0 := a0.f2)
        by_cases h7 : (!(m113 a0.f2 0 2147483646)) = true
        ·try simp only [if_pos h7]
         exact cp (by kernel_rfl) (.r 11 [] [] f0 (.r 35 [] [] f1 (.n 3 h0 (.m 5 h1 (.g h0 (.f h1 (.g h0 (.n 3 h2 (.n 5 h3 (.g h2 (.g h3 (.g h2 (.m 6 h4 (.g h5 (.n 8 h6 (.z 40 (.z 42 (.z 44 (.y 46 (.y 48 (.y 50 (.y 52 (.y 54 (.z 56 (.y 57 (.z 59 (.z 62 (.z 64 (.z 66 (.z 68 (.z 70 (.z 72 (.z 74 (.z 76 (.z 78 (.z 79 (.z 81 (.y 90 (.y 92 (.y 94 (.y 96 (.y 98 (.y 101 (.z 104 (.z 109 (.z 111 (.z 113 (.z 115 (.z 117 (.z 119 (.z 133 (.z 136 (.r 147 [] [] f39 (.m 7 h7 (.y 152 (.y 154 (.y 156 (.y 158 (.y 160 (.y 162 (.y 165 .nil)))))))))))))))))))))))))))))))))))))))))))))))))))))))))))))
        ·try simp only [if_neg h7]
         have f45 := e75 (a0 := a0.f3)
         by_cases h8 : (!(m113 a0.f3 0 1000000)) = true
         ·try simp only [if_pos h8]
          exact cp (by kernel_rfl) (.r 11 [] [] f0 (.r 35 [] [] f1 (.n 3 h0 (.m 5 h1 (.g h0 (.f h1 (.g h0 (.n 3 h2 (.n 5 h3 (.g h2 (.g h3 (.g h2 (.m 6 h4 (.g h5 (.n 8 h6 (.z 40 (.z 42 (.z 44 (.y 46 (.y 48 (.y 50 (.y 52 (.y 54 (.z 56 (.y 57 (.z 59 (.z 62 (.z 64 (.z 66 (.z 68 (.z 70 (.z 72 (.z 74 (.z 76 (.z 78 (.z 79 (.z 81 (.y 90 (.y 92 (.y 94 (.y 96 (.y 98 (.y 101 (.z 104 (.z 109 (.z 111 (.z 113 (.z 115 (.z 117 (.z 119 (.z 133 (.z 136 (.r 147 [] [] f39 (.n 5 h7 (.z 152 (.z 154 (.z 156 (.z 158 (.z 160 (.r 161 [] [] f45 (.n 2 h7 (.m 4 h8 (.z 162 (.z 165 (.y 168 (.y 170 (.y 182 (.y 185 .nil))))))))))))))))))))))))))))))))))))))))))))))))))))))))))))))))))))
         ·try simp only [if_neg h8]
          by_cases h9 : (a0.f0 == 1) = true
          ·try simp only [if_pos h9]
           by_cases h10 : (decide (a0.f3 > 9999)) = true
           ·try simp only [if_pos h10]
            exact cp (by kernel_rfl) (.r 11 [] [] f0 (.r 35 [] [] f1 (.n 3 h0 (.m 5 h1 (.g h0 (.f h1 (.g h0 (.n 3 h2 (.n 5 h3 (.g h2 (.g h3 (.g h2 (.m 6 h4 (.g h5 (.n 8 h6 (.z 40 (.z 42 (.z 44 (.y 46 (.y 48 (.y 50 (.y 52 (.y 54 (.z 56 (.y 57 (.z 59 (.z 62 (.z 64 (.z 66 (.z 68 (.z 70 (.z 72 (.z 74 (.z 76 (.z 78 (.z 79 (.z 81 (.y 90 (.y 92 (.y 94 (.y 96 (.y 98 (.y 101 (.z 104 (.z 109 (.z 111 (.z 113 (.z 115 (.z 117 (.z 119 (.z 133 (.z 136 (.r 147 [] [] f39 (.n 5 h7 (.z 152 (.z 154 (.z 156 (.z 158 (.z 160 (.r 161 [] [] f45 (.n 2 h7 (.n 2 h8 (.n 5 h6 (.g h8 (.g h6 (.g h8 (.m 6 h9 (.f h10 (.z 162 (.z 165 (.z 168 (.z 170 (.z 172 (.z 174 (.z 176 (.z 178 (.z 180 (.z 182 (.z 183 (.z 185 (.y 200 (.y 202 (.y 204 (.y 206 (.y 208 (.y 211 (.y 214 .nil)))))))))))))))))))))))))))))))))))))))))))))))))))))))))))))))))))))))))))))))))))))))
           ·try simp only [if_neg h10]
            exact cp (by kernel_rfl) (.r 11 [] [] f0 (.r 35 [] [] f1 (.n 3 h0 (.m 5 h1 (.g h0 (.f h1 (.g h0 (.n 3 h2 (.n 5 h3 (.g h2 (.g h3 (.g h2 (.m 6 h4 (.g h5 (.n 8 h6 (.z 40 (.z 42 (.z 44 (.y 46 (.y 48 (.y 50 (.y 52 (.y 54 (.z 56 (.y 57 (.z 59 (.z 62 (.z 64 (.z 66 (.z 68 (.z 70 (.z 72 (.z 74 (.z 76 (.z 78 (.z 79 (.z 81 (.y 90 (.y 92 (.y 94 (.y 96 (.y 98 (.y 101 (.z 104 (.z 109 (.z 111 (.z 113 (.z 115 (.z 117 (.z 119 (.z 133 (.z 136 (.r 147 [] [] f39 (.n 5 h7 (.z 152 (.z 154 (.z 156 (.z 158 (.z 160 (.r 161 [] [] f45 (.n 2 h7 (.n 2 h8 (.n 5 h6 (.g h8 (.g h6 (.g h8 (.m 6 h9 (.g h10 (.z 162 (.z 165 (.z 168 (.z 170 (.z 172 (.z 174 (.z 176 (.z 178 (.z 180 (.z 182 (.z 183 (.z 185 (.y 200 (.y 202 (.y 204 (.y 206 (.y 208 (.y 211 (.z 214 .nil)))))))))))))))))))))))))))))))))))))))))))))))))))))))))))))))))))))))))))))))))))))))
          ·try simp only [if_neg h9]
           exact cp (by kernel_rfl) (.r 11 [] [] f0 (.r 35 [] [] f1 (.n 3 h0 (.m 5 h1 (.g h0 (.f h1 (.g h0 (.n 3 h2 (.n 5 h3 (.g h2 (.g h3 (.g h2 (.m 6 h4 (.g h5 (.n 8 h6 (.z 40 (.z 42 (.z 44 (.y 46 (.y 48 (.y 50 (.y 52 (.y 54 (.z 56 (.y 57 (.z 59 (.z 62 (.z 64 (.z 66 (.z 68 (.z 70 (.z 72 (.z 74 (.z 76 (.z 78 (.z 79 (.z 81 (.y 90 (.y 92 (.y 94 (.y 96 (.y 98 (.y 101 (.z 104 (.z 109 (.z 111 (.z 113 (.z 115 (.z 117 (.z 119 (.z 133 (.z 136 (.r 147 [] [] f39 (.n 5 h7 (.z 152 (.z 154 (.z 156 (.z 158 (.z 160 (.r 161 [] [] f45 (.n 2 h7 (.n 2 h8 (.n 5 h6 (.g h8 (.g h6 (.g h8 (.n 6 h9 (.z 162 (.z 165 (.z 168 (.z 170 (.z 172 (.z 174 (.z 176 (.z 178 (.z 180 (.z 182 (.z 183 (.z 185 (.z 200 (.z 202 (.z 204 (.z 206 (.z 208 (.z 211 .nil)))))))))))))))))))))))))))))))))))))))))))))))))))))))))))))))))))))))))))))))))))))
     ·try simp only [if_neg h4]
      by_cases h5 : (m112_0 a0.f0) = true
      ·try simp only [if_pos h5]
       by_cases h6 : (a0.f1.toList == (⟨#[]⟩ : ByteArray).toList) = true
       ·try simp only [if_pos h6]
        exact cp (by kernel_rfl) (.r 11 [] [] f0 (.r 35 [] [] f1 (.n 3 h0 (.m 5 h1 (.g h0 (.f h1 (.g h0 (.n 3 h2 (.n 5 h3 (.g h2 (.g h3 (.g h2 (.n 6 h4 (.m 6 h5 (.m 6 h6 (.f h5 (.f h6 (.f h5 (.z 40 (.z 42 (.z 44 (.y 46 (.y 48 (.y 50 (.y 52 (.y 54 (.z 56 (.y 57 (.z 59 (.z 62 (.z 64 (.z 66 (.z 68 (.z 70 (.z 72 (.z 74 (.z 76 (.z 78 (.z 79 (.z 81 (.z 90 (.z 92 (.z 94 (.z 96 (.z 98 (.z 101 (.y 109 (.y 111 (.y 113 (.y 115 (.y 117 (.y 119 (.y 121 (.y 123 (.y 125 (.y 127 (.y 129 (.y 131 (.y 133 (.y 134 (.y 136 .nil)))))))))))))))))))))))))))))))))))))))))))))))))))))))))))))
       ·try simp only [if_neg h6]
        have f41 := e114 (a0 := a0.f1) (by with_reducible assumption)
        by_cases h7 : (!(m114 a0.f1)) = true
        ·try simp only [if_pos h7]
         exact cp (by kernel_rfl) (.r 11 [] [] f0 (.r 35 [] [] f1 (.n 3 h0 (.m 5 h1 (.g h0 (.f h1 (.g h0 (.n 3 h2 (.n 5 h3 (.g h2 (.g h3 (.g h2 (.n 6 h4 (.m 6 h5 (.n 5 h6 (.z 40 (.z 42 (.z 44 (.y 46 (.y 48 (.y 50 (.y 52 (.y 54 (.z 56 (.y 57 (.z 59 (.z 62 (.z 64 (.z 66 (.z 68 (.z 70 (.z 72 (.z 74 (.z 76 (.z 78 (.z 79 (.z 81 (.z 90 (.z 92 (.z 94 (.z 96 (.z 98 (.z 101 (.y 109 (.y 111 (.y 113 (.y 115 (.y 117 (.y 119 (.z 121 (.z 123 (.z 125 (.z 127 (.z 129 (.r 130 [] [] f41 (.g h6 (.f h5 (.g h6 (.f h5 (.f h7 (.z 131 (.y 133 (.z 134 (.y 136 (.y 137 .nil)))))))))))))))))))))))))))))))))))))))))))))))))))))))))))))))))
        ·try simp only [if_neg h7]
         have f47 := e115 (a0 := a0.f2)
         by_cases h8 : (!(m113 a0.f2 0 2147483646)) = true
         ·try simp only [if_pos h8]
          exact cp (by kernel_rfl) (.r 11 [] [] f0 (.r 35 [] [] f1 (.n 3 h0 (.m 5 h1 (.g h0 (.f h1 (.g h0 (.n 3 h2 (.n 5 h3 (.g h2 (.g h3 (.g h2 (.n 6 h4 (.m 6 h5 (.n 5 h6 (.z 40 (.z 42 (.z 44 (.y 46 (.y 48 (.y 50 (.y 52 (.y 54 (.z 56 (.y 57 (.z 59 (.z 62 (.z 64 (.z 66 (.z 68 (.z 70 (.z 72 (.z 74 (.z 76 (.z 78 (.z 79 (.z 81 (.z 90 (.z 92 (.z 94 (.z 96 (.z 98 (.z 101 (.y 109 (.y 111 (.y 113 (.y 115 (.y 117 (.y 119 (.z 121 (.z 123 (.z 125 (.z 127 (.z 129 (.r 130 [] [] f41 (.g h6 (.f h5 (.g h6 (.f h5 (.g h7 (.z 131 (.y 133 (.z 134 (.y 136 (.z 137 (.r 147 [] [] f47 (.m 7 h8 (.y 152 (.y 154 (.y 156 (.y 158 (.y 160 (.y 162 (.y 165 .nil))))))))))))))))))))))))))))))))))))))))))))))))))))))))))))))))))))))))))
         ·try simp only [if_neg h8]
          have f53 := e75 (a0 := a0.f3)
          by_cases h9 : (!(m113 a0.f3 0 1000000)) = true
          ·try simp only [if_pos h9]
           exact cp (by kernel_rfl) (.r 11 [] [] f0 (.r 35 [] [] f1 (.n 3 h0 (.m 5 h1 (.g h0 (.f h1 (.g h0 (.n 3 h2 (.n 5 h3 (.g h2 (.g h3 (.g h2 (.n 6 h4 (.m 6 h5 (.n 5 h6 (.z 40 (.z 42 (.z 44 (.y 46 (.y 48 (.y 50 (.y 52 (.y 54 (.z 56 (.y 57 (.z 59 (.z 62 (.z 64 (.z 66 (.z 68 (.z 70 (.z 72 (.z 74 (.z 76 (.z 78 (.z 79 (.z 81 (.z 90 (.z 92 (.z 94 (.z 96 (.z 98 (.z 101 (.y 109 (.y 111 (.y 113 (.y 115 (.y 117 (.y 119 (.z 121 (.z 123 (.z 125 (.z 127 (.z 129 (.r 130 [] [] f41 (.g h6 (.f h5 (.g h6 (.f h5 (.g h7 (.z 131 (.y 133 (.z 134 (.y 136 (.z 137 (.r 147 [] [] f47 (.n 5 h8 (.z 152 (.z 154 (.z 156 (.z 158 (.z 160 (.r 161 [] [] f53 (.n 2 h8 (.m 4 h9 (.z 162 (.z 165 (.y 168 (.y 170 (.y 182 (.y 185 .nil)))))))))))))))))))))))))))))))))))))))))))))))))))))))))))))))))))))))))))))))))
          ·try simp only [if_neg h9]
           by_cases h10 : (decide (a0.f3 < 1)) = true
           ·try simp only [if_pos h10]
            exact cp (by kernel_rfl) (.r 11 [] [] f0 (.r 35 [] [] f1 (.n 3 h0 (.m 5 h1 (.g h0 (.f h1 (.g h0 (.n 3 h2 (.n 5 h3 (.g h2 (.g h3 (.g h2 (.n 6 h4 (.m 6 h5 (.n 5 h6 (.z 40 (.z 42 (.z 44 (.y 46 (.y 48 (.y 50 (.y 52 (.y 54 (.z 56 (.y 57 (.z 59 (.z 62 (.z 64 (.z 66 (.z 68 (.z 70 (.z 72 (.z 74 (.z 76 (.z 78 (.z 79 (.z 81 (.z 90 (.z 92 (.z 94 (.z 96 (.z 98 (.z 101 (.y 109 (.y 111 (.y 113 (.y 115 (.y 117 (.y 119 (.z 121 (.z 123 (.z 125 (.z 127 (.z 129 (.r 130 [] [] f41 (.g h6 (.f h5 (.g h6 (.f h5 (.g h7 (.z 131 (.y 133 (.z 134 (.y 136 (.z 137 (.r 147 [] [] f47 (.n 5 h8 (.z 152 (.z 154 (.z 156 (.z 158 (.z 160 (.r 161 [] [] f53 (.n 2 h8 (.n 2 h9 (.m 5 h5 (.g h9 (.f h5 (.g h9 (.m 8 h10 (.z 162 (.z 165 (.z 168 (.z 170 (.y 172 (.y 174 (.y 176 (.y 178 (.y 180 (.z 182 (.y 183 (.z 185 (.y 188 (.y 190 (.y 192 (.y 194 (.y 196 (.y 198 (.y 210 (.y 213 .nil))))))))))))))))))))))))))))))))))))))))))))))))))))))))))))))))))))))))))))))))))))))))))))))))))))
           ·try simp only [if_neg h10]
            by_cases h11 : (a0.f0 == 1) = true
            ·try simp only [if_pos h11]
             by_cases h12 : (decide (a0.f3 > 9999)) = true
             ·try simp only [if_pos h12]
              exact cp (by kernel_rfl) (.r 11 [] [] f0 (.r 35 [] [] f1 (.n 3 h0 (.m 5 h1 (.g h0 (.f h1 (.g h0 (.n 3 h2 (.n 5 h3 (.g h2 (.g h3 (.g h2 (.n 6 h4 (.m 6 h5 (.n 5 h6 (.z 40 (.z 42 (.z 44 (.y 46 (.y 48 (.y 50 (.y 52 (.y 54 (.z 56 (.y 57 (.z 59 (.z 62 (.z 64 (.z 66 (.z 68 (.z 70 (.z 72 (.z 74 (.z 76 (.z 78 (.z 79 (.z 81 (.z 90 (.z 92 (.z 94 (.z 96 (.z 98 (.z 101 (.y 109 (.y 111 (.y 113 (.y 115 (.y 117 (.y 119 (.z 121 (.z 123 (.z 125 (.z 127 (.z 129 (.r 130 [] [] f41 (.g h6 (.f h5 (.g h6 (.f h5 (.g h7 (.z 131 (.y 133 (.z 134 (.y 136 (.z 137 (.r 147 [] [] f47 (.n 5 h8 (.z 152 (.z 154 (.z 156 (.z 158 (.z 160 (.r 161 [] [] f53 (.n 2 h8 (.n 2 h9 (.m 5 h5 (.g h9 (.f h5 (.g h9 (.n 6 h10 (.m 5 h11 (.g h10 (.f h11 (.g h10 (.f h12 (.z 162 (.z 165 (.z 168 (.z 170 (.y 172 (.y 174 (.y 176 (.y 178 (.y 180 (.z 182 (.y 183 (.z 185 (.z 188 (.z 190 (.z 192 (.z 194 (.z 196 (.z 198 (.y 200 (.y 202 (.y 204 (.y 206 (.y 208 (.z 210 (.y 211 (.z 213 (.y 214 .nil))))))))))))))))))))))))))))))))))))))))))))))))))))))))))))))))))))))))))))))))))))))))))))))))))))))))))))))))
             ·try simp only [if_neg h12]
              exact cp (by kernel_rfl) (.r 11 [] [] f0 (.r 35 [] [] f1 (.n 3 h0 (.m 5 h1 (.g h0 (.f h1 (.g h0 (.n 3 h2 (.n 5 h3 (.g h2 (.g h3 (.g h2 (.n 6 h4 (.m 6 h5 (.n 5 h6 (.z 40 (.z 42 (.z 44 (.y 46 (.y 48 (.y 50 (.y 52 (.y 54 (.z 56 (.y 57 (.z 59 (.z 62 (.z 64 (.z 66 (.z 68 (.z 70 (.z 72 (.z 74 (.z 76 (.z 78 (.z 79 (.z 81 (.z 90 (.z 92 (.z 94 (.z 96 (.z 98 (.z 101 (.y 109 (.y 111 (.y 113 (.y 115 (.y 117 (.y 119 (.z 121 (.z 123 (.z 125 (.z 127 (.z 129 (.r 130 [] [] f41 (.g h6 (.f h5 (.g h6 (.f h5 (.g h7 (.z 131 (.y 133 (.z 134 (.y 136 (.z 137 (.r 147 [] [] f47 (.n 5 h8 (.z 152 (.z 154 (.z 156 (.z 158 (.z 160 (.r 161 [] [] f53 (.n 2 h8 (.n 2 h9 (.m 5 h5 (.g h9 (.f h5 (.g h9 (.n 6 h10 (.m 5 h11 (.g h10 (.f h11 (.g h10 (.g h12 (.z 162 (.z 165 (.z 168 (.z 170 (.y 172 (.y 174 (.y 176 (.y 178 (.y 180 (.z 182 (.y 183 (.z 185 (.z 188 (.z 190 (.z 192 (.z 194 (.z 196 (.z 198 (.y 200 (.y 202 (.y 204 (.y 206 (.y 208 (.z 210 (.y 211 (.z 213 (.z 214 .nil))))))))))))))))))))))))))))))))))))))))))))))))))))))))))))))))))))))))))))))))))))))))))))))))))))))))))))))))
            ·try simp only [if_neg h11]
             exact cp (by kernel_rfl) (.r 11 [] [] f0 (.r 35 [] [] f1 (.n 3 h0 (.m 5 h1 (.g h0 (.f h1 (.g h0 (.n 3 h2 (.n 5 h3 (.g h2 (.g h3 (.g h2 (.n 6 h4 (.m 6 h5 (.n 5 h6 (.z 40 (.z 42 (.z 44 (.y 46 (.y 48 (.y 50 (.y 52 (.y 54 (.z 56 (.y 57 (.z 59 (.z 62 (.z 64 (.z 66 (.z 68 (.z 70 (.z 72 (.z 74 (.z 76 (.z 78 (.z 79 (.z 81 (.z 90 (.z 92 (.z 94 (.z 96 (.z 98 (.z 101 (.y 109 (.y 111 (.y 113 (.y 115 (.y 117 (.y 119 (.z 121 (.z 123 (.z 125 (.z 127 (.z 129 (.r 130 [] [] f41 (.g h6 (.f h5 (.g h6 (.f h5 (.g h7 (.z 131 (.y 133 (.z 134 (.y 136 (.z 137 (.r 147 [] [] f47 (.n 5 h8 (.z 152 (.z 154 (.z 156 (.z 158 (.z 160 (.r 161 [] [] f53 (.n 2 h8 (.n 2 h9 (.m 5 h5 (.g h9 (.f h5 (.g h9 (.n 6 h10 (.n 5 h11 (.g h10 (.g h11 (.g h10 (.z 162 (.z 165 (.z 168 (.z 170 (.y 172 (.y 174 (.y 176 (.y 178 (.y 180 (.z 182 (.y 183 (.z 185 (.z 188 (.z 190 (.z 192 (.z 194 (.z 196 (.z 198 (.z 200 (.z 202 (.z 204 (.z 206 (.z 208 (.z 210 (.z 211 (.z 213 .nil))))))))))))))))))))))))))))))))))))))))))))))))))))))))))))))))))))))))))))))))))))))))))))))))))))))))))))))
      ·try simp only [if_neg h5]
       have f38 := e115 (a0 := a0.f2)
       by_cases h6 : (!(m113 a0.f2 0 2147483646)) = true
       ·try simp only [if_pos h6]
        exact cp (by kernel_rfl) (.r 11 [] [] f0 (.r 35 [] [] f1 (.n 3 h0 (.m 5 h1 (.g h0 (.f h1 (.g h0 (.n 3 h2 (.n 5 h3 (.g h2 (.g h3 (.g h2 (.n 6 h4 (.n 8 h5 (.z 40 (.z 42 (.z 44 (.y 46 (.y 48 (.y 50 (.y 52 (.y 54 (.z 56 (.y 57 (.z 59 (.z 62 (.z 64 (.z 66 (.z 68 (.z 70 (.z 72 (.z 74 (.z 76 (.z 78 (.z 79 (.z 81 (.z 90 (.z 92 (.z 94 (.z 96 (.z 98 (.z 101 (.z 109 (.z 111 (.z 113 (.z 115 (.z 117 (.z 119 (.z 133 (.z 136 (.r 147 [] [] f38 (.m 7 h6 (.y 152 (.y 154 (.y 156 (.y 158 (.y 160 (.y 162 (.y 165 .nil)))))))))))))))))))))))))))))))))))))))))))))))))))))))))))
       ·try simp only [if_neg h6]
        have f44 := e75 (a0 := a0.f3)
        by_cases h7 : (!(m113 a0.f3 0 1000000)) = true
        ·try simp only [if_pos h7]
         exact cp (by kernel_rfl) (.r 11 [] [] f0 (.r 35 [] [] f1 (.n 3 h0 (.m 5 h1 (.g h0 (.f h1 (.g h0 (.n 3 h2 (.n 5 h3 (.g h2 (.g h3 (.g h2 (.n 6 h4 (.n 8 h5 (.z 40 (.z 42 (.z 44 (.y 46 (.y 48 (.y 50 (.y 52 (.y 54 (.z 56 (.y 57 (.z 59 (.z 62 (.z 64 (.z 66 (.z 68 (.z 70 (.z 72 (.z 74 (.z 76 (.z 78 (.z 79 (.z 81 (.z 90 (.z 92 (.z 94 (.z 96 (.z 98 (.z 101 (.z 109 (.z 111 (.z 113 (.z 115 (.z 117 (.z 119 (.z 133 (.z 136 (.r 147 [] [] f38 (.n 5 h6 (.z 152 (.z 154 (.z 156 (.z 158 (.z 160 (.r 161 [] [] f44 (.n 2 h6 (.m 4 h7 (.z 162 (.z 165 (.y 168 (.y 170 (.y 182 (.y 185 .nil))))))))))))))))))))))))))))))))))))))))))))))))))))))))))))))))))
        ·try simp only [if_neg h7]
         by_cases h8 : (a0.f0 == 1) = true
         ·try simp only [if_pos h8]
          by_cases h9 : (decide (a0.f3 > 9999)) = true
          ·try simp only [if_pos h9]
           exact cp (by kernel_rfl) (.r 11 [] [] f0 (.r 35 [] [] f1 (.n 3 h0 (.m 5 h1 (.g h0 (.f h1 (.g h0 (.n 3 h2 (.n 5 h3 (.g h2 (.g h3 (.g h2 (.n 6 h4 (.n 8 h5 (.z 40 (.z 42 (.z 44 (.y 46 (.y 48 (.y 50 (.y 52 (.y 54 (.z 56 (.y 57 (.z 59 (.z 62 (.z 64 (.z 66 (.z 68 (.z 70 (.z 72 (.z 74 (.z 76 (.z 78 (.z 79 (.z 81 (.z 90 (.z 92 (.z 94 (.z 96 (.z 98 (.z 101 (.z 109 (.z 111 (.z 113 (.z 115 (.z 117 (.z 119 (.z 133 (.z 136 (.r 147 [] [] f38 (.n 5 h6 (.z 152 (.z 154 (.z 156 (.z 158 (.z 160 (.r 161 [] [] f44 (.n 2 h6 (.n 2 h7 (.n 5 h5 (.g h7 (.g h5 (.g h7 (.m 6 h8 (.f h9 (.z 162 (.z 165 (.z 168 (.z 170 (.z 172 (.z 174 (.z 176 (.z 178 (.z 180 (.z 182 (.z 183 (.z 185 (.y 200 (.y 202 (.y 204 (.y 206 (.y 208 (.y 211 (.y 214 .nil)))))))))))))))))))))))))))))))))))))))))))))))))))))))))))))))))))))))))))))))))))))
          ·try simp only [if_neg h9]
           exact cp (by kernel_rfl) (.r 11 [] [] f0 (.r 35 [] [] f1 (.n 3 h0 (.m 5 h1 (.g h0 (.f h1 (.g h0 (.n 3 h2 (.n 5 h3 (.g h2 (.g h3 (.g h2 (.n 6 h4 (.n 8 h5 (.z 40 (.z 42 (.z 44 (.y 46 (.y 48 (.y 50 (.y 52 (.y 54 (.z 56 (.y 57 (.z 59 (.z 62 (.z 64 (.z 66 (.z 68 (.z 70 (.z 72 (.z 74 (.z 76 (.z 78 (.z 79 (.z 81 (.z 90 (.z 92 (.z 94 (.z 96 (.z 98 (.z 101 (.z 109 (.z 111 (.z 113 (.z 115 (.z 117 (.z 119 (.z 133 (.z 136 (.r 147 [] [] f38 (.n 5 h6 (.z 152 (.z 154 (.z 156 (.z 158 (.z 160 (.r 161 [] [] f44 (.n 2 h6 (.n 2 h7 (.n 5 h5 (.g h7 (.g h5 (.g h7 (.m 6 h8 (.g h9 (.z 162 (.z 165 (.z 168 (.z 170 (.z 172 (.z 174 (.z 176 (.z 178 (.z 180 (.z 182 (.z 183 (.z 185 (.y 200 (.y 202 (.y 204 (.y 206 (.y 208 (.y 211 (.z 214 .nil)))))))))))))))))))))))))))))))))))))))))))))))))))))))))))))))))))))))))))))))))))))
         ·try simp only [if_neg h8]
          exact cp (by kernel_rfl) (.r 11 [] [] f0 (.r 35 [] [] f1 (.n 3 h0 (.m 5 h1 (.g h0 (.f h1 (.g h0 (.n 3 h2 (.n 5 h3 (.g h2 (.g h3 (.g h2 (.n 6 h4 (.n 8 h5 (.z 40 (.z 42 (.z 44 (.y 46 (.y 48 (.y 50 (.y 52 (.y 54 (.z 56 (.y 57 (.z 59 (.z 62 (.z 64 (.z 66 (.z 68 (.z 70 (.z 72 (.z 74 (.z 76 (.z 78 (.z 79 (.z 81 (.z 90 (.z 92 (.z 94 (.z 96 (.z 98 (.z 101 (.z 109 (.z 111 (.z 113 (.z 115 (.z 117 (.z 119 (.z 133 (.z 136 (.r 147 [] [] f38 (.n 5 h6 (.z 152 (.z 154 (.z 156 (.z 158 (.z 160 (.r 161 [] [] f44 (.n 2 h6 (.n 2 h7 (.n 5 h5 (.g h7 (.g h5 (.g h7 (.n 6 h8 (.z 162 (.z 165 (.z 168 (.z 170 (.z 172 (.z 174 (.z 176 (.z 178 (.z 180 (.z 182 (.z 183 (.z 185 (.z 200 (.z 202 (.z 204 (.z 206 (.z 208 (.z 211 .nil)))))))))))))))))))))))))))))))))))))))))))))))))))))))))))))))))))))))))))))))))))
  ·try simp only [if_neg h1]
   by_cases h2 : (!(m112_1 a0.f0)) = true
   ·try simp only [if_pos h2]
    by_cases h3 : (a0.f2 != 0) = true
    ·try simp only [if_pos h3]
     exact cp (by kernel_rfl) (.r 11 [] [] f0 (.r 35 [] [] f1 (.n 3 h0 (.n 5 h1 (.g h0 (.g h1 (.g h0 (.m 6 h2 (.m 5 h3 (.z 40 (.z 42 (.z 44 (.z 46 (.z 48 (.z 50 (.z 52 (.z 54 (.z 56 (.z 57 (.z 59 (.y 68 (.y 70 (.y 72 (.y 74 (.y 76 (.y 79 (.y 84 (.y 86 (.y 88 (.y 100 (.y 103 .nil)))))))))))))))))))))))))))))))
    ·try simp only [if_neg h3]
     by_cases h4 : (!(m112_2 a0.f0)) = true
     ·try simp only [if_pos h4]
      by_cases h5 : (a0.f3 != 0) = true
      ·try simp only [if_pos h5]
       exact cp (by kernel_rfl) (.r 11 [] [] f0 (.r 35 [] [] f1 (.n 3 h0 (.n 5 h1 (.g h0 (.g h1 (.g h0 (.m 6 h2 (.n 3 h3 (.m 5 h4 (.g h3 (.f h4 (.g h3 (.f h5 (.z 40 (.z 42 (.z 44 (.z 46 (.z 48 (.z 50 (.z 52 (.z 54 (.z 56 (.z 57 (.z 59 (.y 68 (.y 70 (.y 72 (.y 74 (.y 76 (.y 79 (.z 84 (.z 86 (.z 88 (.y 90 (.y 92 (.y 94 (.y 96 (.y 98 (.z 100 (.y 101 (.z 103 (.y 104 .nil)))))))))))))))))))))))))))))))))))))))))))
      ·try simp only [if_neg h5]
       by_cases h6 : (m112_0 a0.f0) = true
       ·try simp only [if_pos h6]
        by_cases h7 : (a0.f1.toList == (⟨#[]⟩ : ByteArray).toList) = true
        ·try simp only [if_pos h7]
         exact cp (by kernel_rfl) (.r 11 [] [] f0 (.r 35 [] [] f1 (.n 3 h0 (.n 5 h1 (.g h0 (.g h1 (.g h0 (.m 6 h2 (.n 3 h3 (.m 5 h4 (.g h3 (.f h4 (.g h3 (.g h5 (.m 6 h6 (.m 6 h7 (.f h6 (.f h7 (.f h6 (.z 40 (.z 42 (.z 44 (.z 46 (.z 48 (.z 50 (.z 52 (.z 54 (.z 56 (.z 57 (.z 59 (.y 68 (.y 70 (.y 72 (.y 74 (.y 76 (.y 79 (.z 84 (.z 86 (.z 88 (.y 90 (.y 92 (.y 94 (.y 96 (.y 98 (.z 100 (.y 101 (.z 103 (.z 104 (.y 109 (.y 111 (.y 113 (.y 115 (.y 117 (.y 119 (.y 121 (.y 123 (.y 125 (.y 127 (.y 129 (.y 131 (.y 133 (.y 134 (.y 136 .nil)))))))))))))))))))))))))))))))))))))))))))))))))))))))))))))))
        ·try simp only [if_neg h7]
         have f42 := e114 (a0 := a0.f1) (by with_reducible assumption)
         by_cases h8 : (!(m114 a0.f1)) = true
         ·try simp only [if_pos h8]
          exact cp (by kernel_rfl) (.r 11 [] [] f0 (.r 35 [] [] f1 (.n 3 h0 (.n 5 h1 (.g h0 (.g h1 (.g h0 (.m 6 h2 (.n 3 h3 (.m 5 h4 (.g h3 (.f h4 (.g h3 (.g h5 (.m 6 h6 (.n 5 h7 (.z 40 (.z 42 (.z 44 (.z 46 (.z 48 (.z 50 (.z 52 (.z 54 (.z 56 (.z 57 (.z 59 (.y 68 (.y 70 (.y 72 (.y 74 (.y 76 (.y 79 (.z 84 (.z 86 (.z 88 (.y 90 (.y 92 (.y 94 (.y 96 (.y 98 (.z 100 (.y 101 (.z 103 (.z 104 (.y 109 (.y 111 (.y 113 (.y 115 (.y 117 (.y 119 (.z 121 (.z 123 (.z 125 (.z 127 (.z 129 (.r 130 [] [] f42 (.g h7 (.f h6 (.g h7 (.f h6 (.f h8 (.z 131 (.y 133 (.z 134 (.y 136 (.y 137 .nil)))))))))))))))))))))))))))))))))))))))))))))))))))))))))))))))))))
         ·try simp only [if_neg h8]
          have f48 := e115 (a0 := a0.f2)
          by_cases h9 : (!(m113 a0.f2 0 2147483646)) = true
          ·try simp only [if_pos h9]
           exact cp (by kernel_rfl) (.r 11 [] [] f0 (.r 35 [] [] f1 (.n 3 h0 (.n 5 h1 (.g h0 (.g h1 (.g h0 (.m 6 h2 (.n 3 h3 (.m 5 h4 (.g h3 (.f h4 (.g h3 (.g h5 (.m 6 h6 (.n 5 h7 (.z 40 (.z 42 (.z 44 (.z 46 (.z 48 (.z 50 (.z 52 (.z 54 (.z 56 (.z 57 (.z 59 (.y 68 (.y 70 (.y 72 (.y 74 (.y 76 (.y 79 (.z 84 (.z 86 (.z 88 (.y 90 (.y 92 (.y 94 (.y 96 (.y 98 (.z 100 (.y 101 (.z 103 (.z 104 (.y 109 (.y 111 (.y 113 (.y 115 (.y 117 (.y 119 (.z 121 (.z 123 (.z 125 (.z 127 (.z 129 (.r 130 [] [] f42 (.g h7 (.f h6 (.g h7 (.f h6 (.g h8 (.z 131 (.y 133 (.z 134 (.y 136 (.z 137 (.r 147 [] [] f48 (.m 7 h9 (.y 152 (.y 154 (.y 156 (.y 158 (.y 160 (.y 162 (.y 165 .nil))))))))))))))))))))))))))))))))))))))))))))))))))))))))))))))))))))))))))))
          ·try simp only [if_neg h9]
           have f54 := e75 (a0 := a0.f3)
           by_cases h10 : (!(m113 a0.f3 0 1000000)) = true
           ·try simp only [if_pos h10]
            exact cp (by kernel_rfl) (.r 11 [] [] f0 (.r 35 [] [] f1 (.n 3 h0 (.n 5 h1 (.g h0 (.g h1 (.g h0 (.m 6 h2 (.n 3 h3 (.m 5 h4 (.g h3 (.f h4 (.g h3 (.g h5 (.m 6 h6 (.n 5 h7 (.z 40 (.z 42 (.z 44 (.z 46 (.z 48 (.z 50 (.z 52 (.z 54 (.z 56 (.z 57 (.z 59 (.y 68 (.y 70 (.y 72 (.y 74 (.y 76 (.y 79 (.z 84 (.z 86 (.z 88 (.y 90 (.y 92 (.y 94 (.y 96 (.y 98 (.z 100 (.y 101 (.z 103 (.z 104 (.y 109 (.y 111 (.y 113 (.y 115 (.y 117 (.y 119 (.z 121 (.z 123 (.z 125 (.z 127 (.z 129 (.r 130 [] [] f42 (.g h7 (.f h6 (.g h7 (.f h6 (.g h8 (.z 131 (.y 133 (.z 134 (.y 136 (.z 137 (.r 147 [] [] f48 (.n 5 h9 (.z 152 (.z 154 (.z 156 (.z 158 (.z 160 (.r 161 [] [] f54 (.n 2 h9 (.m 4 h10 (.z 162 (.z 165 (.y 168 (.y 170 (.y 182 (.y 185 .nil)))))))))))))))))))))))))))))))))))))))))))))))))))))))))))))))))))))))))))))))))))
           ·try simp only [if_neg h10]
            by_cases h11 : (decide (a0.f3 < 1)) = true
            ·try simp only [if_pos h11]
             exact cp (by kernel_rfl) (.r 11 [] [] f0 (.r 35 [] [] f1 (.n 3 h0 (.n 5 h1 (.g h0 (.g h1 (.g h0 (.m 6 h2 (.n 3 h3 (.m 5 h4 (.g h3 (.f h4 (.g h3 (.g h5 (.m 6 h6 (.n 5 h7 (.z 40 (.z 42 (.z 44 (.z 46 (.z 48 (.z 50 (.z 52 (.z 54 (.z 56 (.z 57 (.z 59 (.y 68 (.y 70 (.y 72 (.y 74 (.y 76 (.y 79 (.z 84 (.z 86 (.z 88 (.y 90 (.y 92 (.y 94 (.y 96 (.y 98 (.z 100 (.y 101 (.z 103 (.z 104 (.y 109 (.y 111 (.y 113 (.y 115 (.y 117 (.y 119 (.z 121 (.z 123 (.z 125 (.z 127 (.z 129 (.r 130 [] [] f42 (.g h7 (.f h6 (.g h7 (.f h6 (.g h8 (.z 131 (.y 133 (.z 134 (.y 136 (.z 137 (.r 147 [] [] f48 (.n 5 h9 (.z 152 (.z 154 (.z 156 (.z 158 (.z 160 (.r 161 [] [] f54 (.n 2 h9 (.n 2 h10 (.m 5 h6 (.g h10 (.f h6 (.g h10 (.m 8 h11 (.z 162 (.z 165 (.z 168 (.z 170 (.y 172 (.y 174 (.y 176 (.y 178 (.y 180 (.z 182 (.y 183 (.z 185 (.y 188 (.y 190 (.y 192 (.y 194 (.y 196 (.y 198 (.y 210 (.y 213 .nil))))))))))))))))))))))))))))))))))))))))))))))))))))))))))))))))))))))))))))))))))))))))))))))))))))))
            ·try simp only [if_neg h11]
             by_cases h12 : (a0.f0 == 1) = true
             ·try simp only [if_pos h12]
              by_cases h13 : (decide (a0.f3 > 9999)) = true
              ·try simp only [if_pos h13]
               exact cp (by kernel_rfl) (.r 11 [] [] f0 (.r 35 [] [] f1 (.n 3 h0 (.n 5 h1 (.g h0 (.g h1 (.g h0 (.m 6 h2 (.n 3 h3 (.m 5 h4 (.g h3 (.f h4 (.g h3 (.g h5 (.m 6 h6 (.n 5 h7 (.z 40 (.z 42 (.z 44 (.z 46 (.z 48 (.z 50 (.z 52 (.z 54 (.z 56 (.z 57 (.z 59 (.y 68 (.y 70 (.y 72 (.y 74 (.y 76 (.y 79 (.z 84 (.z 86 (.z 88 (.y 90 (.y 92 (.y 94 (.y 96 (.y 98 (.z 100 (.y 101 (.z 103 (.z 104 (.y 109 (.y 111 (.y 113 (.y 115 (.y 117 (.y 119 (.z 121 (.z 123 (.z 125 (.z 127 (.z 129 (.r 130 [] [] f42 (.g h7 (.f h6 (.g h7 (.f h6 (.g h8 (.z 131 (.y 133 (.z 134 (.y 136 (.z 137 (.r 147 [] [] f48 (.n 5 h9 (.z 152 (.z 154 (.z 156 (.z 158 (.z 160 (.r 161 [] [] f54 (.n 2 h9 (.n 2 h10 (.m 5 h6 (.g h10 (.f h6 (.g h10 (.n 6 h11 (.m 5 h12 (.g h11 (.f h12 (.g h11 (.f h13 (.z 162 (.z 165 (.z 168 (.z 170 (.y 172 (.y 174 (.y 176 (.y 178 (.y 180 (.z 182 (.y 183 (.z 185 (.z 188 (.z 190 (.z 192 (.z 194 (.z 196 (.z 198 (.y 200 (.y 202 (.y 204 (.y 206 (.y 208 (.z 210 (.y 211 (.z 213 (.y 214 .nil))))))))))))))))))))))))))))))))))))))))))))))))))))))))))))))))))))))))))))))))))))))))))))))))))))))))))))))))))
              ·try simp only [if_neg h13]
               exact cp (by kernel_rfl) (.r 11 [] [] f0 (.r 35 [] [] f1 (.n 3 h0 (.n 5 h1 (.g h0 (.g h1 (.g h0 (.m 6 h2 (.n 3 h3 (.m 5 h4 (.g h3 (.f h4 (.g h3 (.g h5 (.m 6 h6 (.n 5 h7 (.z 40 (.z 42 (.z 44 (.z 46 (.z 48 (.z 50 (.z 52 (.z 54 (.z 56 (.z 57 (.z 59 (.y 68 (.y 70 (.y 72 (.y 74 (.y 76 (.y 79 (.z 84 (.z 86 (.z 88 (.y 90 (.y 92 (.y 94 (.y 96 (.y 98 (.z 100 (.y 101 (.z 103 (.z 104 (.y 109 (.y 111 (.y 113 (.y 115 (.y 117 (.y 119 (.z 121 (.z 123 (.z 125 (.z 127 (.z 129 (.r 130 [] [] f42 (.g h7 (.f h6 (.g h7 (.f h6 (.g h8 (.z 131 (.y 133 (.z 134 (.y 136 (.z 137 (.r 147 [] [] f48 (.n 5 h9 (.z 152 (.z 154 (.z 156 (.z 158 (.z 160 (.r 161 [] [] f54 (.n 2 h9 (.n 2 h10 (.m 5 h6 (.g h10 (.f h6 (.g h10 (.n 6 h11 (.m 5 h12 (.g h11 (.f h12 (.g h11 (.g h13 (.z 162 (.z 165 (.z 168 (.z 170 (.y 172 (.y 174 (.y 176 (.y 178 (.y 180 (.z 182 (.y 183 (.z 185 (.z 188 (.z 190 (.z 192 (.z 194 (.z 196 (.z 198 (.y 200 (.y 202 (.y 204 (.y 206 (.y 208 (.z 210 (.y 211 (.z 213 (.z 214 .nil))))))))))))))))))))))))))))))))))))))))))))))))))))))))))))))))))))))))))))))))))))))))))))))))))))))))))))))))))
             ·try simp only [if_neg h12]
              exact cp (by kernel_rfl) (.r 11 [] [] f0 (.r 35 [] [] f1 (.n 3 h0 (.n 5 h1 (.g h0 (.g h1 (.g h0 (.m 6 h2 (.n 3 h3 (.m 5 h4 (.g h3 (.f h4 (.g h3 (.g h5 (.m 6 h6 (.n 5 h7 (.z 40 (.z 42 (.z 44 (.z 46 (.z 48 (.z 50 (.z 52 (.z 54 (.z 56 (.z 57 (.z 59 (.y 68 (.y 70 (.y 72 (.y 74 (.y 76 (.y 79 (.z 84 (.z 86 (.z 88 (.y 90 (.y 92 (.y 94 (.y 96 (.y 98 (.z 100 (.y 101 (.z 103 (.z 104 (.y 109 (.y 111 (.y 113 (.y 115 (.y 117 (.y 119 (.z 121 (.z 123 (.z 125 (.z 127 (.z 129 (.r 130 [] [] f42 (.g h7 (.f h6 (.g h7 (.f h6 (.g h8 (.z 131 (.y 133 (.z 134 (.y 136 (.z 137 (.r 147 [] [] f48 (.n 5 h9 (.z 152 (.z 154 (.z 156 (.z 158 (.z 160 (.r 161 [] [] f54 (.n 2 h9 (.n 2 h10 (.m 5 h6 (.g h10 (.f h6 (.g h10 (.n 6 h11 (.n 5 h12 (.g h11 (.g h12 (.g h11 (.z 162 (.z 165 (.z 168 (.z 170 (.y 172 (.y 174 (.y 176 (.y 178 (.y 180 (.z 182 (.y 183 (.z 185 (.z 188 (.z 190 (.z 192 (.z 194 (.z 196 (.z 198 (.z 200 (.z 202 (.z 204 (.z 206 (.z 208 (.z 210 (.z 211 (.z 213 .nil))))))))))))))))))))))))))))))))))))))))))))))))))))))))))))))))))))))))))))))))))))))))))))))))))))))))))))))))
       ·try simp only [if_neg h6]
        have f39 := e115 (a0 := a0.f2)
        by_cases h7 : (!(m113 a0.f2 0 2147483646)) = true
        ·try simp only [if_pos h7]
         exact cp (by kernel_rfl) (.r 11 [] [] f0 (.r 35 [] [] f1 (.n 3 h0 (.n 5 h1 (.g h0 (.g h1 (.g h0 (.m 6 h2 (.n 3 h3 (.m 5 h4 (.g h3 (.f h4 (.g h3 (.g h5 (.n 8 h6 (.z 40 (.z 42 (.z 44 (.z 46 (.z 48 (.z 50 (.z 52 (.z 54 (.z 56 (.z 57 (.z 59 (.y 68 (.y 70 (.y 72 (.y 74 (.y 76 (.y 79 (.z 84 (.z 86 (.z 88 (.y 90 (.y 92 (.y 94 (.y 96 (.y 98 (.z 100 (.y 101 (.z 103 (.z 104 (.z 109 (.z 111 (.z 113 (.z 115 (.z 117 (.z 119 (.z 133 (.z 136 (.r 147 [] [] f39 (.m 7 h7 (.y 152 (.y 154 (.y 156 (.y 158 (.y 160 (.y 162 (.y 165 .nil)))))))))))))))))))))))))))))))))))))))))))))))))))))))))))))
        ·try simp only [if_neg h7]
         have f45 := e75 (a0 := a0.f3)
         by_cases h8 : (!(m113 a0.f3 0 1000000)) = true
         ·try simp only [if_pos h8]
          exact cp (by kernel_rfl) (.r 11 [] [] f0 (.r 35 [] [] f1 (.n 3 h0 (.n 5 h1 (.g h0 (.g h1 (.g h0 (.m 6 h2 (.n 3 h3 (.m 5 h4 (.g h3 (.f h4 (.g h3 (.g h5 (.n 8 h6 (.z 40 (.z 42 (.z 44 (.z 46 (.z 48 (.z 50 (.z 52 (.z 54 (.z 56 (.z 57 (.z 59 (.y 68 (.y 70 (.y 72 (.y 74 (.y 76 (.y 79 (.z 84 (.z 86 (.z 88 (.y 90 (.y 92 (.y 94 (.y 96 (.y 98 (.z 100 (.y 101 (.z 103 (.z 104 (.z 109 (.z 111 (.z 113 (.z 115 (.z 117 (.z 119 (.z 133 (.z 136 (.r 147 [] [] f39 (.n 5 h7 (.z 152 (.z 154 (.z 156 (.z 158 (.z 160 (.r 161 [] [] f45 (.n 2 h7 (.m 4 h8 (.z 162 (.z 165 (.y 168 (.y 170 (.y 182 (.y 185 .nil))))))))))))))))))))))))))))))))))))))))))))))))))))))))))))))))))))
         ·try simp only [if_neg h8]
          by_cases h9 : (a0.f0 == 1) = true
          ·try simp only [if_pos h9]
           by_cases h10 : (decide (a0.f3 > 9999)) = true
           ·try simp only [if_pos h10]
            exact cp (by kernel_rfl) (.r 11 [] [] f0 (.r 35 [] [] f1 (.n 3 h0 (.n 5 h1 (.g h0 (.g h1 (.g h0 (.m 6 h2 (.n 3 h3 (.m 5 h4 (.g h3 (.f h4 (.g h3 (.g h5 (.n 8 h6 (.z 40 (.z 42 (.z 44 (.z 46 (.z 48 (.z 50 (.z 52 (.z 54 (.z 56 (.z 57 (.z 59 (.y 68 (.y 70 (.y 72 (.y 74 (.y 76 (.y 79 (.z 84 (.z 86 (.z 88 (.y 90 (.y 92 (.y 94 (.y 96 (.y 98 (.z 100 (.y 101 (.z 103 (.z 104 (.z 109 (.z 111 (.z 113 (.z 115 (.z 117 (.z 119 (.z 133 (.z 136 (.r 147 [] [] f39 (.n 5 h7 (.z 152 (.z 154 (.z 156 (.z 158 (.z 160 (.r 161 [] [] f45 (.n 2 h7 (.n 2 h8 (.n 5 h6 (.g h8 (.g h6 (.g h8 (.m 6 h9 (.f h10 (.z 162 (.z 165 (.z 168 (.z 170 (.z 172 (.z 174 (.z 176 (.z 178 (.z 180 (.z 182 (.z 183 (.z 185 (.y 200 (.y 202 (.y 204 (.y 206 (.y 208 (.y 211 (.y 214 .nil)))))))))))))))))))))))))))))))))))))))))))))))))))))))))))))))))))))))))))))))))))))))
           ·try simp only [if_neg h10]
            exact cp (by kernel_rfl) (.r 11 [] [] f0 (.r 35 [] [] f1 (.n 3 h0 (.n 5 h1 (.g h0 (.g h1 (.g h0 (.m 6 h2 (.n 3 h3 (.m 5 h4 (.g h3 (.f h4 (.g h3 (.g h5 (.n 8 h6 (.z 40 (.z 42 (.z 44 (.z 46 (.z 48 (.z 50 (.z 52 (.z 54 (.z 56 (.z 57 (.z 59 (.y 68 (.y 70 (.y 72 (.y 74 (.y 76 (.y 79 (.z 84 (.z 86 (.z 88 (.y 90 (.y 92 (.y 94 (.y 96 (.y 98 (.z 100 (.y 101 (.z 103 (.z 104 (.z 109 (.z 111 (.z 113 (.z 115 (.z 117 (.z 119 (.z 133 (.z 136 (.r 147 [] [] f39 (.n 5 h7 (.z 152 (.z 154 (.z 156 (.z 158 (.z 160 (.r 161 [] [] f45 (.n 2 h7 (.n 2 h8 (.n 5 h6 (.g h8 (.g h6 (.g h8 (.m 6 h9 (.g h10 (.z 162 (.z 165 (.z 168 (.z 170 (.z 172 (.z 174 (.z 176 (.z 178 (.z 180 (.z 182 (.z 183 (.z 185 (.y 200 (.y 202 (.y 204 (.y 206 (.y 208 (.y 211 (.z 214 .nil)))))))))))))))))))))))))))))))))))))))))))))))))))))))))))))))))))))))))))))))))))))))
          ·try simp only [if_neg h9]
           exact cp (by kernel_rfl) (.r 11 [] [] f0 (.r 35 [] [] f1 (.n 3 h0 (.n 5 h1 (.g h0 (.g h1 (.g h0 (.m 6 h2 (.n 3 h3 (.m 5 h4 (.g h3 (.f h4 (.g h3 (.g h5 (.n 8 h6 (.z 40 (.z 42 (.z 44 (.z 46 (.z 48 (.z 50 (.z 52 (.z 54 (.z 56 (.z 57 (.z 59 (.y 68 (.y 70 (.y 72 (.y 74 (.y 76 (.y 79 (.z 84 (.z 86 (.z 88 (.y 90 (.y 92 (.y 94 (.y 96 (.y 98 (.z 100 (.y 101 (.z 103 (.z 104 (.z 109 (.z 111 (.z 113 (.z 115 (.z 117 (.z 119 (.z 133 (.z 136 (.r 147 [] [] f39 (.n 5 h7 (.z 152 (.z 154 (.z 156 (.z 158 (.z 160 (.r 161 [] [] f45 (.n 2 h7 (.n 2 h8 (.n 5 h6 (.g h8 (.g h6 (.g h8 (.n 6 h9 (.z 162 (.z 165 (.z 168 (.z 170 (.z 172 (.z 174 (.z 176 (.z 178 (.z 180 (.z 182 (.z 183 (.z 185 (.z 200 (.z 202 (.z 204 (.z 206 (.z 208 (.z 211 .nil)))))))))))))))))))))))))))))))))))))))))))))))))))))))))))))))))))))))))))))))))))))
     ·try simp only [if_neg h4]
      by_cases h5 : (m112_0 a0.f0) = true
      ·try simp only [if_pos h5]
       by_cases h6 : (a0.f1.toList == (⟨#[]⟩ : ByteArray).toList) = true
       ·try simp only [if_pos h6]
        exact cp (by kernel_rfl) (.r 11 [] [] f0 (.r 35 [] [] f1 (.n 3 h0 (.n 5 h1 (.g h0 (.g h1 (.g h0 (.m 6 h2 (.n 3 h3 (.n 5 h4 (.g h3 (.g h4 (.g h3 (.m 6 h5 (.m 6 h6 (.f h5 (.f h6 (.f h5 (.z 40 (.z 42 (.z 44 (.z 46 (.z 48 (.z 50 (.z 52 (.z 54 (.z 56 (.z 57 (.z 59 (.y 68 (.y 70 (.y 72 (.y 74 (.y 76 (.y 79 (.z 84 (.z 86 (.z 88 (.z 90 (.z 92 (.z 94 (.z 96 (.z 98 (.z 100 (.z 101 (.z 103 (.y 109 (.y 111 (.y 113 (.y 115 (.y 117 (.y 119 (.y 121 (.y 123 (.y 125 (.y 127 (.y 129 (.y 131 (.y 133 (.y 134 (.y 136 .nil)))))))))))))))))))))))))))))))))))))))))))))))))))))))))))))
       ·try simp only [if_neg h6]
        have f41 := e114 (a0 := a0.f1) (by with_reducible assumption)
        by_cases h7 : (!(m114 a0.f1)) = true
        ·try simp only [if_pos h7]
         exact cp (by kernel_rfl) (.r 11 [] [] f0 (.r 35 [] [] f1 (.n 3 h0 (.n 5 h1 (.g h0 (.g h1 (.g h0 (.m 6 h2 (.n 3 h3 (.n 5 h4 (.g h3 (.g h4 (.g h3 (.m 6 h5 (.n 5 h6 (.z 40 (.z 42 (.z 44 (.z 46 (.z 48 (.z 50 (.z 52 (.z 54 (.z 56 (.z 57 (.z 59 (.y 68 (.y 70 (.y 72 (.y 74 (.y 76 (.y 79 (.z 84 (.z 86 (.z 88 (.z 90 (.z 92 (.z 94 (.z 96 (.z 98 (.z 100 (.z 101 (.z 103 (.y 109 (.y 111 (.y 113 (.y 115 (.y 117 (.y 119 (.z 121 (.z 123 (.z 125 (.z 127 (.z 129 (.r 130 [] [] f41 (.g h6 (.f h5 (.g h6 (.f h5 (.f h7 (.z 131 (.y 133 (.z 134 (.y 136 (.y 137 .nil)))))))))))))))))))))))))))))))))))))))))))))))))))))))))))))))))
        ·try simp only [if_neg h7]
         have f47 := e115 (a0 := a0.f2)
         by_cases h8 : (!(m113 a0.f2 0 2147483646)) = true
         ·try simp only [if_pos h8]
          exact cp (by kernel_rfl) (.r 11 [] [] f0 (.r 35 [] [] f1 (.n 3 h0 (.n 5 h1 (.g h0 (.g h1 (.g h0 (.m 6 h2 (.n 3 h3 (.n 5 h4 (.g h3 (.g h4 (.g h3 (.m 6 h5 (.n 5 h6 (.z 40 (.z 42 (.z 44 (.z 46 (.z 48 (.z 50 (.z 52 (.z 54 (.z 56 (.z 57 (.z 59 (.y 68 (.y 70 (.y 72 (.y 74 (.y 76 (.y 79 (.z 84 (.z 86 (.z 88 (.z 90 (.z 92 (.z 94 (.z 96 (.z 98 (.z 100 (.z 101 (.z 103 (.y 109 (.y 111 (.y 113 (.y 115 (.y 117 (.y 119 (.z 121 (.z 123 (.z 125 (.z 127 (.z 129 (.r 130 [] [] f41 (.g h6 (.f h5 (.g h6 (.f h5 (.g h7 (.z 131 (.y 133 (.z 134 (.y 136 (.z 137 (.r 147 [] [] f47 (.m 7 h8 (.y 152 (.y 154 (.y 156 (.y 158 (.y 160 (.y 162 (.y 165 .nil))))))))))))))))))))))))))))))))))))))))))))))))))))))))))))))))))))))))))
         ·try simp only [if_neg h8]
          have f53 := e75 (a0 := a0.f3)
          by_cases h9 : (!(m113 a0.f3 0 1000000)) = true
          ·try simp only [if_pos h9]
           exact cp (by kernel_rfl) (.r 11 [] [] f0 (.r 35 [] [] f1 (.n 3 h0 (.n 5 h1 (.g h0 (.g h1 (.g h0 (.m 6 h2 (.n 3 h3 (.n 5 h4 (.g h3 (.g h4 (.g h3 (.m 6 h5 (.n 5 h6 (.z 40 (.z 42 (.z 44 (.z 46 (.z 48 (.z 50 (.z 52 (.z 54 (.z 56 (.z 57 (.z 59 (.y 68 (.y 70 (.y 72 (.y 74 (.y 76 (.y 79 (.z 84 (.z 86 (.z 88 (.z 90 (.z 92 (.z 94 (.z 96 (.z 98 (.z 100 (.z 101 (.z 103 (.y 109 (.y 111 (.y 113 (.y 115 (.y 117 (.y 119 (.z 121 (.z 123 (.z 125 (.z 127 (.z 129 (.r 130 [] [] f41 (.g h6 (.f h5 (.g h6 (.f h5 (.g h7 (.z 131 (.y 133 (.z 134 (.y 136 (.z 137 (.r 147 [] [] f47 (.n 5 h8 (.z 152 (.z 154 (.z 156 (.z 158 (.z 160 (.r 161 [] [] f53 (.n 2 h8 (.m 4 h9 (.z 162 (.z 165 (.y 168 (.y 170 (.y 182 (.y 185 .nil)))))))))))))))))))))))))))))))))))))))))))))))))))))))))))))))))))))))))))))))))
          ·try simp only [if_neg h9]
           by_cases h10 : (decide (a0.f3 < 1)) = true
           ·try simp only [if_pos h10]
            exact cp (by kernel_rfl) (.r 11 [] [] f0 (.r 35 [] [] f1 (.n 3 h0 (.n 5 h1 (.g h0 (.g h1 (.g h0 (.m 6 h2 (.n 3 h3 (.n 5 h4 (.g h3 (.g h4 (.g h3 (.m 6 h5 (.n 5 h6 (.z 40 (.z 42 (.z 44 (.z 46 (.z 48 (.z 50 (.z 52 (.z 54 (.z 56 (.z 57 (.z 59 (.y 68 (.y 70 (.y 72 (.y 74 (.y 76 (.y 79 (.z 84 (.z 86 (.z 88 (.z 90 (.z 92 (.z 94 (.z 96 (.z 98 (.z 100 (.z 101 (.z 103 (.y 109 (.y 111 (.y 113 (.y 115 (.y 117 (.y 119 (.z 121 (.z 123 (.z 125 (.z 127 (.z 129 (.r 130 [] [] f41 (.g h6 (.f h5 (.g h6 (.f h5 (.g h7 (.z 131 (.y 133 (.z 134 (.y 136 (.z 137 (.r 147 [] [] f47 (.n 5 h8 (.z 152 (.z 154 (.z 156 (.z 158 (.z 160 (.r 161 [] [] f53 (.n 2 h8 (.n 2 h9 (.m 5 h5 (.g h9 (.f h5 (.g h9 (.m 8 h10 (.z 162 (.z 165 (.z 168 (.z 170 (.y 172 (.y 174 (.y 176 (.y 178 (.y 180 (.z 182 (.y 183 (.z 185 (.y 188 (.y 190 (.y 192 (.y 194 (.y 196 (.y 198 (.y 210 (.y 213 .nil))))))))))))))))))))))))))))))))))))))))))))))))))))))))))))))))))))))))))))))))))))))))))))))))))))
           ·try simp only [if_neg h10]
            by_cases h11 : (a0.f0 == 1) = true
            ·try simp only [if_pos h11]
             by_cases h12 : (decide (a0.f3 > 9999)) = true
             ·try simp only [if_pos h12]
              exact cp (by kernel_rfl) (.r 11 [] [] f0 (.r 35 [] [] f1 (.n 3 h0 (.n 5 h1 (.g h0 (.g h1 (.g h0 (.m 6 h2 (.n 3 h3 (.n 5 h4 (.g h3 (.g h4 (.g h3 (.m 6 h5 (.n 5 h6 (.z 40 (.z 42 (.z 44 (.z 46 (.z 48 (.z 50 (.z 52 (.z 54 (.z 56 (.z 57 (.z 59 (.y 68 (.y 70 (.y 72 (.y 74 (.y 76 (.y 79 (.z 84 (.z 86 (.z 88 (.z 90 (.z 92 (.z 94 (.z 96 (.z 98 (.z 100 (.z 101 (.z 103 (.y 109 (.y 111 (.y 113 (.y 115 (.y 117 (.y 119 (.z 121 (.z 123 (.z 125 (.z 127 (.z 129 (.r 130 [] [] f41 (.g h6 (.f h5 (.g h6 (.f h5 (.g h7 (.z 131 (.y 133 (.z 134 (.y 136 (.z 137 (.r 147 [] [] f47 (.n 5 h8 (.z 152 (.z 154 (.z 156 (.z 158 (.z 160 (.r 161 [] [] f53 (.n 2 h8 (.n 2 h9 (.m 5 h5 (.g h9 (.f h5 (.g h9 (.n 6 h10 (.m 5 h11 (.g h10 (.f h11 (.g h10 (.f h12 (.z 162 (.z 165 (.z 168 (.z 170 (.y 172 (.y 174 (.y 176 (.y 178 (.y 180 (.z 182 (.y 183 (.z 185 (.z 188 (.z 190 (.z 192 (.z 194 (.z 196 (.z 198 (.y 200 (.y 202 (.y 204 (.y 206 (.y 208 (.z 210 (.y 211 (.z 213 (.y 214 .nil))))))))))))))))))))))))))))))))))))))))))))))))))))))))))))))))))))))))))))))))))))))))))))))))))))))))))))))))
             ·try simp only [if_neg h12]
              exact cp (by kernel_rfl) (.r 11 [] [] f0 (.r 35 [] [] f1 (.n 3 h0 (.n 5 h1 (.g h0 (.g h1 (.g h0 (.m 6 h2 (.n 3 h3 (.n 5 h4 (.g h3 (.g h4 (.g h3 (.m 6 h5 (.n 5 h6 (.z 40 (.z 42 (.z 44 (.z 46 (.z 48 (.z 50 (.z 52 (.z 54 (.z 56 (.z 57 (.z 59 (.y 68 (.y 70 (.y 72 (.y 74 (.y 76 (.y 79 (.z 84 (.z 86 (.z 88 (.z 90 (.z 92 (.z 94 (.z 96 (.z 98 (.z 100 (.z 101 (.z 103 (.y 109 (.y 111 (.y 113 (.y 115 (.y 117 (.y 119 (.z 121 (.z 123 (.z 125 (.z 127 (.z 129 (.r 130 [] [] f41 (.g h6 (.f h5 (.g h6 (.f h5 (.g h7 (.z 131 (.y 133 (.z 134 (.y 136 (.z 137 (.r 147 [] [] f47 (.n 5 h8 (.z 152 (.z 154 (.z 156 (.z 158 (.z 160 (.r 161 [] [] f53 (.n 2 h8 (.n 2 h9 (.m 5 h5 (.g h9 (.f h5 (.g h9 (.n 6 h10 (.m 5 h11 (.g h10 (.f h11 (.g h10 (.g h12 (.z 162 (.z 165 (.z 168 (.z 170 (.y 172 (.y 174 (.y 176 (.y 178 (.y 180 (.z 182 (.y 183 (.z 185 (.z 188 (.z 190 (.z 192 (.z 194 (.z 196 (.z 198 (.y 200 (.y 202 (.y 204 (.y 206 (.y 208 (.z 210 (.y 211 (.z 213 (.z 214 .nil))))))))))))))))))))))))))))))))))))))))))))))))))))))))))))))))))))))))))))))))))))))))))))))))))))))))))))))))
            ·try simp only [if_neg h11]
             exact cp (by kernel_rfl) (.r 11 [] [] f0 (.r 35 [] [] f1 (.n 3 h0 (.n 5 h1 (.g h0 (.g h1 (.g h0 (.m 6 h2 (.n 3 h3 (.n 5 h4 (.g h3 (.g h4 (.g h3 (.m 6 h5 (.n 5 h6 (.z 40 (.z 42 (.z 44 (.z 46 (.z 48 (.z 50 (.z 52 (.z 54 (.z 56 (.z 57 (.z 59 (.y 68 (.y 70 (.y 72 (.y 74 (.y 76 (.y 79 (.z 84 (.z 86 (.z 88 (.z 90 (.z 92 (.z 94 (.z 96 (.z 98 (.z 100 (.z 101 (.z 103 (.y 109 (.y 111 (.y 113 (.y 115 (.y 117 (.y 119 (.z 121 (.z 123 (.z 125 (.z 127 (.z 129 (.r 130 [] [] f41 (.g h6 (.f h5 (.g h6 (.f h5 (.g h7 (.z 131 (.y 133 (.z 134 (.y 136 (.z 137 (.r 147 [] [] f47 (.n 5 h8 (.z 152 (.z 154 (.z 156 (.z 158 (.z 160 (.r 161 [] [] f53 (.n 2 h8 (.n 2 h9 (.m 5 h5 (.g h9 (.f h5 (.g h9 (.n 6 h10 (.n 5 h11 (.g h10 (.g h11 (.g h10 (.z 162 (.z 165 (.z 168 (.z 170 (.y 172 (.y 174 (.y 176 (.y 178 (.y 180 (.z 182 (.y 183 (.z 185 (.z 188 (.z 190 (.z 192 (.z 194 (.z 196 (.z 198 (.z 200 (.z 202 (.z 204 (.z 206 (.z 208 (.z 210 (.z 211 (.z 213 .nil))))))))))))))))))))))))))))))))))))))))))))))))))))))))))))))))))))))))))))))))))))))))))))))))))))))))))))))
      ·try simp only [if_neg h5]
       have f38 := e115 (a0 := a0.f2)
       by_cases h6 : (!(m113 a0.f2 0 2147483646)) = true
       ·try simp only [if_pos h6]
        exact cp (by kernel_rfl) (.r 11 [] [] f0 (.r 35 [] [] f1 (.n 3 h0 (.n 5 h1 (.g h0 (.g h1 (.g h0 (.m 6 h2 (.n 3 h3 (.n 5 h4 (.g h3 (.g h4 (.g h3 (.n 8 h5 (.z 40 (.z 42 (.z 44 (.z 46 (.z 48 (.z 50 (.z 52 (.z 54 (.z 56 (.z 57 (.z 59 (.y 68 (.y 70 (.y 72 (.y 74 (.y 76 (.y 79 (.z 84 (.z 86 (.z 88 (.z 90 (.z 92 (.z 94 (.z 96 (.z 98 (.z 100 (.z 101 (.z 103 (.z 109 (.z 111 (.z 113 (.z 115 (.z 117 (.z 119 (.z 133 (.z 136 (.r 147 [] [] f38 (.m 7 h6 (.y 152 (.y 154 (.y 156 (.y 158 (.y 160 (.y 162 (.y 165 .nil)))))))))))))))))))))))))))))))))))))))))))))))))))))))))))
       ·try simp only [if_neg h6]
        have f44 := e75 (a0 := a0.f3)
        by_cases h7 : (!(m113 a0.f3 0 1000000)) = true
        ·try simp only [if_pos h7]
         exact cp (by kernel_rfl) (.r 11 [] [] f0 (.r 35 [] [] f1 (.n 3 h0 (.n 5 h1 (.g h0 (.g h1 (.g h0 (.m 6 h2 (.n 3 h3 (.n 5 h4 (.g h3 (.g h4 (.g h3 (.n 8 h5 (.z 40 (.z 42 (.z 44 (.z 46 (.z 48 (.z 50 (.z 52 (.z 54 (.z 56 (.z 57 (.z 59 (.y 68 (.y 70 (.y 72 (.y 74 (.y 76 (.y 79 (.z 84 (.z 86 (.z 88 (.z 90 (.z 92 (.z 94 (.z 96 (.z 98 (.z 100 (.z 101 (.z 103 (.z 109 (.z 111 (.z 113 (.z 115 (.z 117 (.z 119 (.z 133 (.z 136 (.r 147 [] [] f38 (.n 5 h6 (.z 152 (.z 154 (.z 156 (.z 158 (.z 160 (.r 161 [] [] f44 (.n 2 h6 (.m 4 h7 (.z 162 (.z 165 (.y 168 (.y 170 (.y 182 (.y 185 .nil))))))))))))))))))))))))))))))))))))))))))))))))))))))))))))))))))
        ·try simp only [if_neg h7]
         by_cases h8 : (a0.f0 == 1) = true
         ·try simp only [if_pos h8]
          by_cases h9 : (decide (a0.f3 > 9999)) = true
          ·try simp only [if_pos h9]
           exact cp (by kernel_rfl) (.r 11 [] [] f0 (.r 35 [] [] f1 (.n 3 h0 (.n 5 h1 (.g h0 (.g h1 (.g h0 (.m 6 h2 (.n 3 h3 (.n 5 h4 (.g h3 (.g h4 (.g h3 (.n 8 h5 (.z 40 (.z 42 (.z 44 (.z 46 (.z 48 (.z 50 (.z 52 (.z 54 (.z 56 (.z 57 (.z 59 (.y 68 (.y 70 (.y 72 (.y 74 (.y 76 (.y 79 (.z 84 (.z 86 (.z 88 (.z 90 (.z 92 (.z 94 (.z 96 (.z 98 (.z 100 (.z 101 (.z 103 (.z 109 (.z 111 (.z 113 (.z 115 (.z 117 (.z 119 (.z 133 (.z 136 (.r 147 [] [] f38 (.n 5 h6 (.z 152 (.z 154 (.z 156 (.z 158 (.z 160 (.r 161 [] [] f44 (.n 2 h6 (.n 2 h7 (.n 5 h5 (.g h7 (.g h5 (.g h7 (.m 6 h8 (.f h9 (.z 162 (.z 165 (.z 168 (.z 170 (.z 172 (.z 174 (.z 176 (.z 178 (.z 180 (.z 182 (.z 183 (.z 185 (.y 200 (.y 202 (.y 204 (.y 206 (.y 208 (.y 211 (.y 214 .nil)))))))))))))))))))))))))))))))))))))))))))))))))))))))))))))))))))))))))))))))))))))
          ·try simp only [if_neg h9]
           exact cp (by kernel_rfl) (.r 11 [] [] f0 (.r 35 [] [] f1 (.n 3 h0 (.n 5 h1 (.g h0 (.g h1 (.g h0 (.m 6 h2 (.n 3 h3 (.n 5 h4 (.g h3 (.g h4 (.g h3 (.n 8 h5 (.z 40 (.z 42 (.z 44 (.z 46 (.z 48 (.z 50 (.z 52 (.z 54 (.z 56 (.z 57 (.z 59 (.y 68 (.y 70 (.y 72 (.y 74 (.y 76 (.y 79 (.z 84 (.z 86 (.z 88 (.z 90 (.z 92 (.z 94 (.z 96 (.z 98 (.z 100 (.z 101 (.z 103 (.z 109 (.z 111 (.z 113 (.z 115 (.z 117 (.z 119 (.z 133 (.z 136 (.r 147 [] [] f38 (.n 5 h6 (.z 152 (.z 154 (.z 156 (.z 158 (.z 160 (.r 161 [] [] f44 (.n 2 h6 (.n 2 h7 (.n 5 h5 (.g h7 (.g h5 (.g h7 (.m 6 h8 (.g h9 (.z 162 (.z 165 (.z 168 (.z 170 (.z 172 (.z 174 (.z 176 (.z 178 (.z 180 (.z 182 (.z 183 (.z 185 (.y 200 (.y 202 (.y 204 (.y 206 (.y 208 (.y 211 (.z 214 .nil)))))))))))))))))))))))))))))))))))))))))))))))))))))))))))))))))))))))))))))))))))))
         ·try simp only [if_neg h8]
          exact cp (by kernel_rfl) (.r 11 [] [] f0 (.r 35 [] [] f1 (.n 3 h0 (.n 5 h1 (.g h0 (.g h1 (.g h0 (.m 6 h2 (.n 3 h3 (.n 5 h4 (.g h3 (.g h4 (.g h3 (.n 8 h5 (.z 40 (.z 42 (.z 44 (.z 46 (.z 48 (.z 50 (.z 52 (.z 54 (.z 56 (.z 57 (.z 59 (.y 68 (.y 70 (.y 72 (.y 74 (.y 76 (.y 79 (.z 84 (.z 86 (.z 88 (.z 90 (.z 92 (.z 94 (.z 96 (.z 98 (.z 100 (.z 101 (.z 103 (.z 109 (.z 111 (.z 113 (.z 115 (.z 117 (.z 119 (.z 133 (.z 136 (.r 147 [] [] f38 (.n 5 h6 (.z 152 (.z 154 (.z 156 (.z 158 (.z 160 (.r 161 [] [] f44 (.n 2 h6 (.n 2 h7 (.n 5 h5 (.g h7 (.g h5 (.g h7 (.n 6 h8 (.z 162 (.z 165 (.z 168 (.z 170 (.z 172 (.z 174 (.z 176 (.z 178 (.z 180 (.z 182 (.z 183 (.z 185 (.z 200 (.z 202 (.z 204 (.z 206 (.z 208 (.z 211 .nil)))))))))))))))))))))))))))))))))))))))))))))))))))))))))))))))))))))))))))))))))))
   ·try simp only [if_neg h2]
    by_cases h3 : (!(m112_2 a0.f0)) = true
    ·try simp only [if_pos h3]
     by_cases h4 : (a0.f3 != 0) = true
     ·try simp only [if_pos h4]
      exact cp (by kernel_rfl) (.r 11 [] [] f0 (.r 35 [] [] f1 (.n 3 h0 (.n 5 h1 (.g h0 (.g h1 (.g h0 (.n 6 h2 (.m 6 h3 (.f h4 (.z 40 (.z 42 (.z 44 (.z 46 (.z 48 (.z 50 (.z 52 (.z 54 (.z 56 (.z 57 (.z 59 (.z 68 (.z 70 (.z 72 (.z 74 (.z 76 (.z 79 (.y 90 (.y 92 (.y 94 (.y 96 (.y 98 (.y 101 (.y 104 .nil))))))))))))))))))))))))))))))))))
     ·try simp only [if_neg h4]
      by_cases h5 : (m112_0 a0.f0) = true
      ·try simp only [if_pos h5]
       by_cases h6 : (a0.f1.toList == (⟨#[]⟩ : ByteArray).toList) = true
       ·try simp only [if_pos h6]
        exact cp (by kernel_rfl) (.r 11 [] [] f0 (.r 35 [] [] f1 (.n 3 h0 (.n 5 h1 (.g h0 (.g h1 (.g h0 (.n 6 h2 (.m 6 h3 (.g h4 (.m 6 h5 (.m 6 h6 (.f h5 (.f h6 (.f h5 (.z 40 (.z 42 (.z 44 (.z 46 (.z 48 (.z 50 (.z 52 (.z 54 (.z 56 (.z 57 (.z 59 (.z 68 (.z 70 (.z 72 (.z 74 (.z 76 (.z 79 (.y 90 (.y 92 (.y 94 (.y 96 (.y 98 (.y 101 (.z 104 (.y 109 (.y 111 (.y 113 (.y 115 (.y 117 (.y 119 (.y 121 (.y 123 (.y 125 (.y 127 (.y 129 (.y 131 (.y 133 (.y 134 (.y 136 .nil))))))))))))))))))))))))))))))))))))))))))))))))))))))
       ·try simp only [if_neg h6]
        have f37 := e114 (a0 := a0.f1) (by with_reducible assumption)
        by_cases h7 : (!(m114 a0.f1)) = true
        ·try simp only [if_pos h7]
         exact cp (by kernel_rfl) (.r 11 [] [] f0 (.r 35 [] [] f1 (.n 3 h0 (.n 5 h1 (.g h0 (.g h1 (.g h0 (.n 6 h2 (.m 6 h3 (.g h4 (.m 6 h5 (.n 5 h6 (.z 40 (.z 42 (.z 44 (.z 46 (.z 48 (.z 50 (.z 52 (.z 54 (.z 56 (.z 57 (.z 59 (.z 68 (.z 70 (.z 72 (.z 74 (.z 76 (.z 79 (.y 90 (.y 92 (.y 94 (.y 96 (.y 98 (.y 101 (.z 104 (.y 109 (.y 111 (.y 113 (.y 115 (.y 117 (.y 119 (.z 121 (.z 123 (.z 125 (.z 127 (.z 129 (.r 130 [] [] f37 (.g h6 (.f h5 (.g h6 (.f h5 (.f h7 (.z 131 (.y 133 (.z 134 (.y 136 (.y 137 .nil))))))))))))))))))))))))))))))))))))))))))))))))))))))))))
        ·try simp only [if_neg h7]
         have f43 := e115 (a0 := a0.f2)
         by_cases h8 : (!(m113 a0.f2 0 2147483646)) = true
         ·try simp only [if_pos h8]
          exact cp (by kernel_rfl) (.r 11 [] [] f0 (.r 35 [] [] f1 (.n 3 h0 (.n 5 h1 (.g h0 (.g h1 (.g h0 (.n 6 h2 (.m 6 h3 (.g h4 (.m 6 h5 (.n 5 h6 (.z 40 (.z 42 (.z 44 (.z 46 (.z 48 (.z 50 (.z 52 (.z 54 (.z 56 (.z 57 (.z 59 (.z 68 (.z 70 (.z 72 (.z 74 (.z 76 (.z 79 (.y 90 (.y 92 (.y 94 (.y 96 (.y 98 (.y 101 (.z 104 (.y 109 (.y 111 (.y 113 (.y 115 (.y 117 (.y 119 (.z 121 (.z 123 (.z 125 (.z 127 (.z 129 (.r 130 [] [] f37 (.g h6 (.f h5 (.g h6 (.f h5 (.g h7 (.z 131 (.y 133 (.z 134 (.y 136 (.z 137 (.r 147 [] [] f43 (.m 7 h8 (.y 152 (.y 154 (.y 156 (.y 158 (.y 160 (.y 162 (.y 165 .nil)))))))))))))))))))))))))))))))))))))))))))))))))))))))))))))))))))
         ·try simp only [if_neg h8]
          have f49 := e75 (a0 := a0.f3)
          by_cases h9 : (!(m113 a0.f3 0 1000000)) = true
          ·try simp only [if_pos h9]
           exact cp (by kernel_rfl) (.r 11 [] [] f0 (.r 35 [] [] f1 (.n 3 h0 (.n 5 h1 (.g h0 (.g h1 (.g h0 (.n 6 h2 (.m 6 h3 (.g h4 (.m 6 h5 (.n 5 h6 (.z 40 (.z 42 (.z 44 (.z 46 (.z 48 (.z 50 (.z 52 (.z 54 (.z 56 (.z 57 (.z 59 (.z 68 (.z 70 (.z 72 (.z 74 (.z 76 (.z 79 (.y 90 (.y 92 (.y 94 (.y 96 (.y 98 (.y 101 (.z 104 (.y 109 (.y 111 (.y 113 (.y 115 (.y 117 (.y 119 (.z 121 (.z 123 (.z 125 (.z 127 (.z 129 (.r 130 [] [] f37 (.g h6 (.f h5 (.g h6 (.f h5 (.g h7 (.z 131 (.y 133 (.z 134 (.y 136 (.z 137 (.r 147 [] [] f43 (.n 5 h8 (.z 152 (.z 154 (.z 156 (.z 158 (.z 160 (.r 161 [] [] f49 (.n 2 h8 (.m 4 h9 (.z 162 (.z 165 (.y 168 (.y 170 (.y 182 (.y 185 .nil))))))))))))))))))))))))))))))))))))))))))))))))))))))))))))))))))))))))))
          ·try simp only [if_neg h9]
           by_cases h10 : (decide (a0.f3 < 1)) = true
           ·try simp only [if_pos h10]
            exact cp (by kernel_rfl) (.r 11 [] [] f0 (.r 35 [] [] f1 (.n 3 h0 (.n 5 h1 (.g h0 (.g h1 (.g h0 (.n 6 h2 (.m 6 h3 (.g h4 (.m 6 h5 (.n 5 h6 (.z 40 (.z 42 (.z 44 (.z 46 (.z 48 (.z 50 (.z 52 (.z 54 (.z 56 (.z 57 (.z 59 (.z 68 (.z 70 (.z 72 (.z 74 (.z 76 (.z 79 (.y 90 (.y 92 (.y 94 (.y 96 (.y 98 (.y 101 (.z 104 (.y 109 (.y 111 (.y 113 (.y 115 (.y 117 (.y 119 (.z 121 (.z 123 (.z 125 (.z 127 (.z 129 (.r 130 [] [] f37 (.g h6 (.f h5 (.g h6 (.f h5 (.g h7 (.z 131 (.y 133 (.z 134 (.y 136 (.z 137 (.r 147 [] [] f43 (.n 5 h8 (.z 152 (.z 154 (.z 156 (.z 158 (.z 160 (.r 161 [] [] f49 (.n 2 h8 (.n 2 h9 (.m 5 h5 (.g h9 (.f h5 (.g h9 (.m 8 h10 (.z 162 (.z 165 (.z 168 (.z 170 (.y 172 (.y 174 (.y 176 (.y 178 (.y 180 (.z 182 (.y 183 (.z 185 (.y 188 (.y 190 (.y 192 (.y 194 (.y 196 (.y 198 (.y 210 (.y 213 .nil)))))))))))))))))))))))))))))))))))))))))))))))))))))))))))))))))))))))))))))))))))))))))))))
           ·try simp only [if_neg h10]
            by_cases h11 : (a0.f0 == 1) = true
            ·try simp only [if_pos h11]
             by_cases h12 : (decide (a0.f3 > 9999)) = true
             ·try simp only [if_pos h12]
              exact cp (by kernel_rfl) (.r 11 [] [] f0 (.r 35 [] [] f1 (.n 3 h0 (.n 5 h1 (.g h0 (.g h1 (.g h0 (.n 6 h2 (.m 6 h3 (.g h4 (.m 6 h5 (.n 5 h6 (.z 40 (.z 42 (.z 44 (.z 46 (.z 48 (.z 50 (.z 52 (.z 54 (.z 56 (.z 57 (.z 59 (.z 68 (.z 70 (.z 72 (.z 74 (.z 76 (.z 79 (.y 90 (.y 92 (.y 94 (.y 96 (.y 98 (.y 101 (.z 104 (.y 109 (.y 111 (.y 113 (.y 115 (.y 117 (.y 119 (.z 121 (.z 123 (.z 125 (.z 127 (.z 129 (.r 130 [] [] f37 (.g h6 (.f h5 (.g h6 (.f h5 (.g h7 (.z 131 (.y 133 (.z 134 (.y 136 (.z 137 (.r 147 [] [] f43 (.n 5 h8 (.z 152 (.z 154 (.z 156 (.z 158 (.z 160 (.r 161 [] [] f49 (.n 2 h8 (.n 2 h9 (.m 5 h5 (.g h9 (.f h5 (.g h9 (.n 6 h10 (.m 5 h11 (.g h10 (.f h11 (.g h10 (.f h12 (.z 162 (.z 165 (.z 168 (.z 170 (.y 172 (.y 174 (.y 176 (.y 178 (.y 180 (.z 182 (.y 183 (.z 185 (.z 188 (.z 190 (.z 192 (.z 194 (.z 196 (.z 198 (.y 200 (.y 202 (.y 204 (.y 206 (.y 208 (.z 210 (.y 211 (.z 213 (.y 214 .nil)))))))))))))))))))))))))))))))))))))))))))))))))))))))))))))))))))))))))))))))))))))))))))))))))))))))))
             ·try simp only [if_neg h12]
              exact cp (by kernel_rfl) (.r 11 [] [] f0 (.r 35 [] [] f1 (.n 3 h0 (.n 5 h1 (.g h0 (.g h1 (.g h0 (.n 6 h2 (.m 6 h3 (.g h4 (.m 6 h5 (.n 5 h6 (.z 40 (.z 42 (.z 44 (.z 46 (.z 48 (.z 50 (.z 52 (.z 54 (.z 56 (.z 57 (.z 59 (.z 68 (.z 70 (.z 72 (.z 74 (.z 76 (.z 79 (.y 90 (.y 92 (.y 94 (.y 96 (.y 98 (.y 101 (.z 104 (.y 109 (.y 111 (.y 113 (.y 115 (.y 117 (.y 119 (.z 121 (.z 123 (.z 125 (.z 127 (.z 129 (.r 130 [] [] f37 (.g h6 (.f h5 (.g h6 (.f h5 (.g h7 (.z 131 (.y 133 (.z 134 (.y 136 (.z 137 (.r 147 [] [] f43 (.n 5 h8 (.z 152 (.z 154 (.z 156 (.z 158 (.z 160 (.r 161 [] [] f49 (.n 2 h8 (.n 2 h9 (.m 5 h5 (.g h9 (.f h5 (.g h9 (.n 6 h10 (.m 5 h11 (.g h10 (.f h11 (.g h10 (.g h12 (.z 162 (.z 165 (.z 168 (.z 170 (.y 172 (.y 174 (.y 176 (.y 178 (.y 180 (.z 182 (.y 183 (.z 185 (.z 188 (.z 190 (.z 192 (.z 194 (.z 196 (.z 198 (.y 200 (.y 202 (.y 204 (.y 206 (.y 208 (.z 210 (.y 211 (.z 213 (.z 214 .nil)))))))))))))))))))))))))))))))))))))))))))))))))))))))))))))))))))))))))))))))))))))))))))))))))))))))))
            ·try simp only [if_neg h11]
             exact cp (by kernel_rfl) (.r 11 [] [] f0 (.r 35 [] [] f1 (.n 3 h0 (.n 5 h1 (.g h0 (.g h1 (.g h0 (.n 6 h2 (.m 6 h3 (.g h4 (.m 6 h5 (.n 5 h6 (.z 40 (.z 42 (.z 44 (.z 46 (.z 48 (.z 50 (.z 52 (.z 54 (.z 56 (.z 57 (.z 59 (.z 68 (.z 70 (.z 72 (.z 74 (.z 76 (.z 79 (.y 90 (.y 92 (.y 94 (.y 96 (.y 98 (.y 101 (.z 104 (.y 109 (.y 111 (.y 113 (.y 115 (.y 117 (.y 119 (.z 121 (.z 123 (.z 125 (.z 127 (.z 129 (.r 130 [] [] f37 (.g h6 (.f h5 (.g h6 (.f h5 (.g h7 (.z 131 (.y 133 (.z 134 (.y 136 (.z 137 (.r 147 [] [] f43 (.n 5 h8 (.z 152 (.z 154 (.z 156 (.z 158 (.z 160 (.r 161 [] [] f49 (.n 2 h8 (.n 2 h9 (.m 5 h5 (.g h9 (.f h5 (.g h9 (.n 6 h10 (.n 5 h11 (.g h10 (.g h11 (.g h10 (.z 162 (.z 165 (.z 168 (.z 170 (.y 172 (.y 174 (.y 176 (.y 178 (.y 180 (.z 182 (.y 183 (.z 185 (.z 188 (.z 190 (.z 192 (.z 194 (.z 196 (.z 198 (.z 200 (.z 202 (.z 204 (.z 206 (.z 208 (.z 210 (.z 211 (.z 213 .nil)))))))))))))))))))))))))))))))))))))))))))))))))))))))))))))))))))))))))))))))))))))))))))))))))))))))
      ·try simp only [if_neg h5]
       have f34 := e115 (a0 := a0.f2)
       by_cases h6 : (!(m113 a0.f2 0 2147483646)) = true
       ·try simp only [if_pos h6]
        exact cp (by kernel_rfl) (.r 11 [] [] f0 (.r 35 [] [] f1 (.n 3 h0 (.n 5 h1 (.g h0 (.g h1 (.g h0 (.n 6 h2 (.m 6 h3 (.g h4 (.n 8 h5 (.z 40 (.z 42 (.z 44 (.z 46 (.z 48 (.z 50 (.z 52 (.z 54 (.z 56 (.z 57 (.z 59 (.z 68 (.z 70 (.z 72 (.z 74 (.z 76 (.z 79 (.y 90 (.y 92 (.y 94 (.y 96 (.y 98 (.y 101 (.z 104 (.z 109 (.z 111 (.z 113 (.z 115 (.z 117 (.z 119 (.z 133 (.z 136 (.r 147 [] [] f34 (.m 7 h6 (.y 152 (.y 154 (.y 156 (.y 158 (.y 160 (.y 162 (.y 165 .nil))))))))))))))))))))))))))))))))))))))))))))))))))))
       ·try simp only [if_neg h6]
        have f40 := e75 (a0 := a0.f3)
        by_cases h7 : (!(m113 a0.f3 0 1000000)) = true
        ·try simp only [if_pos h7]
         exact cp (by kernel_rfl) (.r 11 [] [] f0 (.r 35 [] [] f1 (.n 3 h0 (.n 5 h1 (.g h0 (.g h1 (.g h0 (.n 6 h2 (.m 6 h3 (.g h4 (.n 8 h5 (.z 40 (.z 42 (.z 44 (.z 46 (.z 48 (.z 50 (.z 52 (.z 54 (.z 56 (.z 57 (.z 59 (.z 68 (.z 70 (.z 72 (.z 74 (.z 76 (.z 79 (.y 90 (.y 92 (.y 94 (.y 96 (.y 98 (.y 101 (.z 104 (.z 109 (.z 111 (.z 113 (.z 115 (.z 117 (.z 119 (.z 133 (.z 136 (.r 147 [] [] f34 (.n 5 h6 (.z 152 (.z 154 (.z 156 (.z 158 (.z 160 (.r 161 [] [] f40 (.n 2 h6 (.m 4 h7 (.z 162 (.z 165 (.y 168 (.y 170 (.y 182 (.y 185 .nil)))))))))))))))))))))))))))))))))))))))))))))))))))))))))))
        ·try simp only [if_neg h7]
         by_cases h8 : (a0.f0 == 1) = true
         ·try simp only [if_pos h8]
          by_cases h9 : (decide (a0.f3 > 9999)) = true
          ·try simp only [if_pos h9]
           exact cp (by kernel_rfl) (.r 11 [] [] f0 (.r 35 [] [] f1 (.n 3 h0 (.n 5 h1 (.g h0 (.g h1 (.g h0 (.n 6 h2 (.m 6 h3 (.g h4 (.n 8 h5 (.z 40 (.z 42 (.z 44 (.z 46 (.z 48 (.z 50 (.z 52 (.z 54 (.z 56 (.z 57 (.z 59 (.z 68 (.z 70 (.z 72 (.z 74 (.z 76 (.z 79 (.y 90 (.y 92 (.y 94 (.y 96 (.y 98 (.y 101 (.z 104 (.z 109 (.z 111 (.z 113 (.z 115 (.z 117 (.z 119 (.z 133 (.z 136 (.r 147 [] [] f34 (.n 5 h6 (.z 152 (.z 154 (.z 156 (.z 158 (.z 160 (.r 161 [] [] f40 (.n 2 h6 (.n 2 h7 (.n 5 h5 (.g h7 (.g h5 (.g h7 (.m 6 h8 (.f h9 (.z 162 (.z 165 (.z 168 (.z 170 (.z 172 (.z 174 (.z 176 (.z 178 (.z 180 (.z 182 (.z 183 (.z 185 (.y 200 (.y 202 (.y 204 (.y 206 (.y 208 (.y 211 (.y 214 .nil))))))))))))))))))))))))))))))))))))))))))))))))))))))))))))))))))))))))))))))
          ·try simp only [if_neg h9]
           exact cp (by kernel_rfl) (.r 11 [] [] f0 (.r 35 [] [] f1 (.n 3 h0 (.n 5 h1 (.g h0 (.g h1 (.g h0 (.n 6 h2 (.m 6 h3 (.g h4 (.n 8 h5 (.z 40 (.z 42 (.z 44 (.z 46 (.z 48 (.z 50 (.z 52 (.z 54 (.z 56 (.z 57 (.z 59 (.z 68 (.z 70 (.z 72 (.z 74 (.z 76 (.z 79 (.y 90 (.y 92 (.y 94 (.y 96 (.y 98 (.y 101 (.z 104 (.z 109 (.z 111 (.z 113 (.z 115 (.z 117 (.z 119 (.z 133 (.z 136 (.r 147 [] [] f34 (.n 5 h6 (.z 152 (.z 154 (.z 156 (.z 158 (.z 160 (.r 161 [] [] f40 (.n 2 h6 (.n 2 h7 (.n 5 h5 (.g h7 (.g h5 (.g h7 (.m 6 h8 (.g h9 (.z 162 (.z 165 (.z 168 (.z 170 (.z 172 (.z 174 (.z 176 (.z 178 (.z 180 (.z 182 (.z 183 (.z 185 (.y 200 (.y 202 (.y 204 (.y 206 (.y 208 (.y 211 (.z 214 .nil))))))))))))))))))))))))))))))))))))))))))))))))))))))))))))))))))))))))))))))
         ·try simp only [if_neg h8]
          exact cp (by kernel_rfl) (.r 11 [] [] f0 (.r 35 [] [] f1 (.n 3 h0 (.n 5 h1 (.g h0 (.g h1 (.g h0 (.n 6 h2 (.m 6 h3 (.g h4 (.n 8 h5 (.z 40 (.z 42 (.z 44 (.z 46 (.z 48 (.z 50 (.z 52 (.z 54 (.z 56 (.z 57 (.z 59 (.z 68 (.z 70 (.z 72 (.z 74 (.z 76 (.z 79 (.y 90 (.y 92 (.y 94 (.y 96 (.y 98 (.y 101 (.z 104 (.z 109 (.z 111 (.z 113 (.z 115 (.z 117 (.z 119 (.z 133 (.z 136 (.r 147 [] [] f34 (.n 5 h6 (.z 152 (.z 154 (.z 156 (.z 158 (.z 160 (.r 161 [] [] f40 (.n 2 h6 (.n 2 h7 (.n 5 h5 (.g h7 (.g h5 (.g h7 (.n 6 h8 (.z 162 (.z 165 (.z 168 (.z 170 (.z 172 (.z 174 (.z 176 (.z 178 (.z 180 (.z 182 (.z 183 (.z 185 (.z 200 (.z 202 (.z 204 (.z 206 (.z 208 (.z 211 .nil))))))))))))))))))))))))))))))))))))))))))))))))))))))))))))))))))))))))))))
    ·try simp only [if_neg h3]
     by_cases h4 : (m112_0 a0.f0) = true
     ·try simp only [if_pos h4]
      by_cases h5 : (a0.f1.toList == (⟨#[]⟩ : ByteArray).toList) = true
      ·try simp only [if_pos h5]
       exact cp (by kernel_rfl) (.r 11 [] [] f0 (.r 35 [] [] f1 (.n 3 h0 (.n 5 h1 (.g h0 (.g h1 (.g h0 (.n 6 h2 (.n 6 h3 (.m 6 h4 (.m 6 h5 (.f h4 (.f h5 (.f h4 (.z 40 (.z 42 (.z 44 (.z 46 (.z 48 (.z 50 (.z 52 (.z 54 (.z 56 (.z 57 (.z 59 (.z 68 (.z 70 (.z 72 (.z 74 (.z 76 (.z 79 (.z 90 (.z 92 (.z 94 (.z 96 (.z 98 (.z 101 (.y 109 (.y 111 (.y 113 (.y 115 (.y 117 (.y 119 (.y 121 (.y 123 (.y 125 (.y 127 (.y 129 (.y 131 (.y 133 (.y 134 (.y 136 .nil))))))))))))))))))))))))))))))))))))))))))))))))))))
      ·try simp only [if_neg h5]
       have f36 := e114 (a0 := a0.f1) (by with_reducible assumption)
       by_cases h6 : (!(m114 a0.f1)) = true
       ·try simp only [if_pos h6]
        exact cp (by kernel_rfl) (.r 11 [] [] f0 (.r 35 [] [] f1 (.n 3 h0 (.n 5 h1 (.g h0 (.g h1 (.g h0 (.n 6 h2 (.n 6 h3 (.m 6 h4 (.n 5 h5 (.z 40 (.z 42 (.z 44 (.z 46 (.z 48 (.z 50 (.z 52 (.z 54 (.z 56 (.z 57 (.z 59 (.z 68 (.z 70 (.z 72 (.z 74 (.z 76 (.z 79 (.z 90 (.z 92 (.z 94 (.z 96 (.z 98 (.z 101 (.y 109 (.y 111 (.y 113 (.y 115 (.y 117 (.y 119 (.z 121 (.z 123 (.z 125 (.z 127 (.z 129 (.r 130 [] [] f36 (.g h5 (.f h4 (.g h5 (.f h4 (.f h6 (.z 131 (.y 133 (.z 134 (.y 136 (.y 137 .nil))))))))))))))))))))))))))))))))))))))))))))))))))))))))
       ·try simp only [if_neg h6]
        have f42 := e115 (a0 := a0.f2)
        by_cases h7 : (!(m113 a0.f2 0 2147483646)) = true
        ·try simp only [if_pos h7]
         exact cp (by kernel_rfl) (.r 11 [] [] f0 (.r 35 [] [] f1 (.n 3 h0 (.n 5 h1 (.g h0 (.g h1 (.g h0 (.n 6 h2 (.n 6 h3 (.m 6 h4 (.n 5 h5 (.z 40 (.z 42 (.z 44 (.z 46 (.z 48 (.z 50 (.z 52 (.z 54 (.z 56 (.z 57 (.z 59 (.z 68 (.z 70 (.z 72 (.z 74 (.z 76 (.z 79 (.z 90 (.z 92 (.z 94 (.z 96 (.z 98 (.z 101 (.y 109 (.y 111 (.y 113 (.y 115 (.y 117 (.y 119 (.z 121 (.z 123 (.z 125 (.z 127 (.z 129 (.r 130 [] [] f36 (.g h5 (.f h4 (.g h5 (.f h4 (.g h6 (.z 131 (.y 133 (.z 134 (.y 136 (.z 137 (.r 147 [] [] f42 (.m 7 h7 (.y 152 (.y 154 (.y 156 (.y 158 (.y 160 (.y 162 (.y 165 .nil)))))))))))))))))))))))))))))))))))))))))))))))))))))))))))))))))
        ·try simp only [if_neg h7]
         have f48 := e75 (a0 := a0.f3)
         by_cases h8 : (!(m113 a0.f3 0 1000000)) = true
         ·try simp only [if_pos h8]
          exact cp (by kernel_rfl) (.r 11 [] [] f0 (.r 35 [] [] f1 (.n 3 h0 (.n 5 h1 (.g h0 (.g h1 (.g h0 (.n 6 h2 (.n 6 h3 (.m 6 h4 (.n 5 h5 (.z 40 (.z 42 (.z 44 (.z 46 (.z 48 (.z 50 (.z 52 (.z 54 (.z 56 (.z 57 (.z 59 (.z 68 (.z 70 (.z 72 (.z 74 (.z 76 (.z 79 (.z 90 (.z 92 (.z 94 (.z 96 (.z 98 (.z 101 (.y 109 (.y 111 (.y 113 (.y 115 (.y 117 (.y 119 (.z 121 (.z 123 (.z 125 (.z 127 (.z 129 (.r 130 [] [] f36 (.g h5 (.f h4 (.g h5 (.f h4 (.g h6 (.z 131 (.y 133 (.z 134 (.y 136 (.z 137 (.r 147 [] [] f42 (.n 5 h7 (.z 152 (.z 154 (.z 156 (.z 158 (.z 160 (.r 161 [] [] f48 (.n 2 h7 (.m 4 h8 (.z 162 (.z 165 (.y 168 (.y 170 (.y 182 (.y 185 .nil))))))))))))))))))))))))))))))))))))))))))))))))))))))))))))))))))))))))
         ·try simp only [if_neg h8]
          by_cases h9 : (decide (a0.f3 < 1)) = true
          ·try simp only [if_pos h9]
           exact cp (by kernel_rfl) (.r 11 [] [] f0 (.r 35 [] [] f1 (.n 3 h0 (.n 5 h1 (.g h0 (.g h1 (.g h0 (.n 6 h2 (.n 6 h3 (.m 6 h4 (.n 5 h5 (.z 40 (.z 42 (.z 44 (.z 46 (.z 48 (.z 50 (.z 52 (.z 54 (.z 56 (.z 57 (.z 59 (.z 68 (.z 70 (.z 72 (.z 74 (.z 76 (.z 79 (.z 90 (.z 92 (.z 94 (.z 96 (.z 98 (.z 101 (.y 109 (.y 111 (.y 113 (.y 115 (.y 117 (.y 119 (.z 121 (.z 123 (.z 125 (.z 127 (.z 129 (.r 130 [] [] f36 (.g h5 (.f h4 (.g h5 (.f h4 (.g h6 (.z 131 (.y 133 (.z 134 (.y 136 (.z 137 (.r 147 [] [] f42 (.n 5 h7 (.z 152 (.z 154 (.z 156 (.z 158 (.z 160 (.r 161 [] [] f48 (.n 2 h7 (.n 2 h8 (.m 5 h4 (.g h8 (.f h4 (.g h8 (.m 8 h9 (.z 162 (.z 165 (.z 168 (.z 170 (.y 172 (.y 174 (.y 176 (.y 178 (.y 180 (.z 182 (.y 183 (.z 185 (.y 188 (.y 190 (.y 192 (.y 194 (.y 196 (.y 198 (.y 210 (.y 213 .nil)))))))))))))))))))))))))))))))))))))))))))))))))))))))))))))))))))))))))))))))))))))))))))
          ·try simp only [if_neg h9]
           by_cases h10 : (a0.f0 == 1) = true
           ·try simp only [if_pos h10]
            by_cases h11 : (decide (a0.f3 > 9999)) = true
            ·try simp only [if_pos h11]
             exact cp (by kernel_rfl) (.r 11 [] [] f0 (.r 35 [] [] f1 (.n 3 h0 (.n 5 h1 (.g h0 (.g h1 (.g h0 (.n 6 h2 (.n 6 h3 (.m 6 h4 (.n 5 h5 (.z 40 (.z 42 (.z 44 (.z 46 (.z 48 (.z 50 (.z 52 (.z 54 (.z 56 (.z 57 (.z 59 (.z 68 (.z 70 (.z 72 (.z 74 (.z 76 (.z 79 (.z 90 (.z 92 (.z 94 (.z 96 (.z 98 (.z 101 (.y 109 (.y 111 (.y 113 (.y 115 (.y 117 (.y 119 (.z 121 (.z 123 (.z 125 (.z 127 (.z 129 (.r 130 [] [] f36 (.g h5 (.f h4 (.g h5 (.f h4 (.g h6 (.z 131 (.y 133 (.z 134 (.y 136 (.z 137 (.r 147 [] [] f42 (.n 5 h7 (.z 152 (.z 154 (.z 156 (.z 158 (.z 160 (.r 161 [] [] f48 (.n 2 h7 (.n 2 h8 (.m 5 h4 (.g h8 (.f h4 (.g h8 (.n 6 h9 (.m 5 h10 (.g h9 (.f h10 (.g h9 (.f h11 (.z 162 (.z 165 (.z 168 (.z 170 (.y 172 (.y 174 (.y 176 (.y 178 (.y 180 (.z 182 (.y 183 (.z 185 (.z 188 (.z 190 (.z 192 (.z 194 (.z 196 (.z 198 (.y 200 (.y 202 (.y 204 (.y 206 (.y 208 (.z 210 (.y 211 (.z 213 (.y 214 .nil)))))))))))))))))))))))))))))))))))))))))))))))))))))))))))))))))))))))))))))))))))))))))))))))))))))))
            ·try simp only [if_neg h11]
             exact cp (by kernel_rfl) (.r 11 [] [] f0 (.r 35 [] [] f1 (.n 3 h0 (.n 5 h1 (.g h0 (.g h1 (.g h0 (.n 6 h2 (.n 6 h3 (.m 6 h4 (.n 5 h5 (.z 40 (.z 42 (.z 44 (.z 46 (.z 48 (.z 50 (.z 52 (.z 54 (.z 56 (.z 57 (.z 59 (.z 68 (.z 70 (.z 72 (.z 74 (.z 76 (.z 79 (.z 90 (.z 92 (.z 94 (.z 96 (.z 98 (.z 101 (.y 109 (.y 111 (.y 113 (.y 115 (.y 117 (.y 119 (.z 121 (.z 123 (.z 125 (.z 127 (.z 129 (.r 130 [] [] f36 (.g h5 (.f h4 (.g h5 (.f h4 (.g h6 (.z 131 (.y 133 (.z 134 (.y 136 (.z 137 (.r 147 [] [] f42 (.n 5 h7 (.z 152 (.z 154 (.z 156 (.z 158 (.z 160 (.r 161 [] [] f48 (.n 2 h7 (.n 2 h8 (.m 5 h4 (.g h8 (.f h4 (.g h8 (.n 6 h9 (.m 5 h10 (.g h9 (.f h10 (.g h9 (.g h11 (.z 162 (.z 165 (.z 168 (.z 170 (.y 172 (.y 174 (.y 176 (.y 178 (.y 180 (.z 182 (.y 183 (.z 185 (.z 188 (.z 190 (.z 192 (.z 194 (.z 196 (.z 198 (.y 200 (.y 202 (.y 204 (.y 206 (.y 208 (.z 210 (.y 211 (.z 213 (.z 214 .nil)))))))))))))))))))))))))))))))))))))))))))))))))))))))))))))))))))))))))))))))))))))))))))))))))))))))
           ·try simp only [if_neg h10]
            exact cp (by kernel_rfl) (.r 11 [] [] f0 (.r 35 [] [] f1 (.n 3 h0 (.n 5 h1 (.g h0 (.g h1 (.g h0 (.n 6 h2 (.n 6 h3 (.m 6 h4 (.n 5 h5 (.z 40 (.z 42 (.z 44 (.z 46 (.z 48 (.z 50 (.z 52 (.z 54 (.z 56 (.z 57 (.z 59 (.z 68 (.z 70 (.z 72 (.z 74 (.z 76 (.z 79 (.z 90 (.z 92 (.z 94 (.z 96 (.z 98 (.z 101 (.y 109 (.y 111 (.y 113 (.y 115 (.y 117 (.y 119 (.z 121 (.z 123 (.z 125 (.z 127 (.z 129 (.r 130 [] [] f36 (.g h5 (.f h4 (.g h5 (.f h4 (.g h6 (.z 131 (.y 133 (.z 134 (.y 136 (.z 137 (.r 147 [] [] f42 (.n 5 h7 (.z 152 (.z 154 (.z 156 (.z 158 (.z 160 (.r 161 [] [] f48 (.n 2 h7 (.n 2 h8 (.m 5 h4 (.g h8 (.f h4 (.g h8 (.n 6 h9 (.n 5 h10 (.g h9 (.g h10 (.g h9 (.z 162 (.z 165 (.z 168 (.z 170 (.y 172 (.y 174 (.y 176 (.y 178 (.y 180 (.z 182 (.y 183 (.z 185 (.z 188 (.z 190 (.z 192 (.z 194 (.z 196 (.z 198 (.z 200 (.z 202 (.z 204 (.z 206 (.z 208 (.z 210 (.z 211 (.z 213 .nil)))))))))))))))))))))))))))))))))))))))))))))))))))))))))))))))))))))))))))))))))))))))))))))))))))))
     ·try simp only [if_neg h4]
      have f33 := e115 (a0 := a0.f2)
      by_cases h5 : (!(m113 a0.f2 0 2147483646)) = true
      ·try simp only [if_pos h5]
       exact cp (by kernel_rfl) (.r 11 [] [] f0 (.r 35 [] [] f1 (.n 3 h0 (.n 5 h1 (.g h0 (.g h1 (.g h0 (.n 6 h2 (.n 6 h3 (.n 8 h4 (.z 40 (.z 42 (.z 44 (.z 46 (.z 48 (.z 50 (.z 52 (.z 54 (.z 56 (.z 57 (.z 59 (.z 68 (.z 70 (.z 72 (.z 74 (.z 76 (.z 79 (.z 90 (.z 92 (.z 94 (.z 96 (.z 98 (.z 101 (.z 109 (.z 111 (.z 113 (.z 115 (.z 117 (.z 119 (.z 133 (.z 136 (.r 147 [] [] f33 (.m 7 h5 (.y 152 (.y 154 (.y 156 (.y 158 (.y 160 (.y 162 (.y 165 .nil))))))))))))))))))))))))))))))))))))))))))))))))))
      ·try simp only [if_neg h5]
       have f39 := e75 (a0 := a0.f3)
       by_cases h6 : (!(m113 a0.f3 0 1000000)) = true
       ·try simp only [if_pos h6]
        exact cp (by kernel_rfl) (.r 11 [] [] f0 (.r 35 [] [] f1 (.n 3 h0 (.n 5 h1 (.g h0 (.g h1 (.g h0 (.n 6 h2 (.n 6 h3 (.n 8 h4 (.z 40 (.z 42 (.z 44 (.z 46 (.z 48 (.z 50 (.z 52 (.z 54 (.z 56 (.z 57 (.z 59 (.z 68 (.z 70 (.z 72 (.z 74 (.z 76 (.z 79 (.z 90 (.z 92 (.z 94 (.z 96 (.z 98 (.z 101 (.z 109 (.z 111 (.z 113 (.z 115 (.z 117 (.z 119 (.z 133 (.z 136 (.r 147 [] [] f33 (.n 5 h5 (.z 152 (.z 154 (.z 156 (.z 158 (.z 160 (.r 161 [] [] f39 (.n 2 h5 (.m 4 h6 (.z 162 (.z 165 (.y 168 (.y 170 (.y 182 (.y 185 .nil)))))))))))))))))))))))))))))))))))))))))))))))))))))))))
       ·try simp only [if_neg h6]
        by_cases h7 : (a0.f0 == 1) = true
        ·try simp only [if_pos h7]
         by_cases h8 : (decide (a0.f3 > 9999)) = true
         ·try simp only [if_pos h8]
          exact cp (by kernel_rfl) (.r 11 [] [] f0 (.r 35 [] [] f1 (.n 3 h0 (.n 5 h1 (.g h0 (.g h1 (.g h0 (.n 6 h2 (.n 6 h3 (.n 8 h4 (.z 40 (.z 42 (.z 44 (.z 46 (.z 48 (.z 50 (.z 52 (.z 54 (.z 56 (.z 57 (.z 59 (.z 68 (.z 70 (.z 72 (.z 74 (.z 76 (.z 79 (.z 90 (.z 92 (.z 94 (.z 96 (.z 98 (.z 101 (.z 109 (.z 111 (.z 113 (.z 115 (.z 117 (.z 119 (.z 133 (.z 136 (.r 147 [] [] f33 (.n 5 h5 (.z 152 (.z 154 (.z 156 (.z 158 (.z 160 (.r 161 [] [] f39 (.n 2 h5 (.n 2 h6 (.n 5 h4 (.g h6 (.g h4 (.g h6 (.m 6 h7 (.f h8 (.z 162 (.z 165 (.z 168 (.z 170 (.z 172 (.z 174 (.z 176 (.z 178 (.z 180 (.z 182 (.z 183 (.z 185 (.y 200 (.y 202 (.y 204 (.y 206 (.y 208 (.y 211 (.y 214 .nil))))))))))))))))))))))))))))))))))))))))))))))))))))))))))))))))))))))))))))
         ·try simp only [if_neg h8]
          exact cp (by kernel_rfl) (.r 11 [] [] f0 (.r 35 [] [] f1 (.n 3 h0 (.n 5 h1 (.g h0 (.g h1 (.g h0 (.n 6 h2 (.n 6 h3 (.n 8 h4 (.z 40 (.z 42 (.z 44 (.z 46 (.z 48 (.z 50 (.z 52 (.z 54 (.z 56 (.z 57 (.z 59 (.z 68 (.z 70 (.z 72 (.z 74 (.z 76 (.z 79 (.z 90 (.z 92 (.z 94 (.z 96 (.z 98 (.z 101 (.z 109 (.z 111 (.z 113 (.z 115 (.z 117 (.z 119 (.z 133 (.z 136 (.r 147 [] [] f33 (.n 5 h5 (.z 152 (.z 154 (.z 156 (.z 158 (.z 160 (.r 161 [] [] f39 (.n 2 h5 (.n 2 h6 (.n 5 h4 (.g h6 (.g h4 (.g h6 (.m 6 h7 (.g h8 (.z 162 (.z 165 (.z 168 (.z 170 (.z 172 (.z 174 (.z 176 (.z 178 (.z 180 (.z 182 (.z 183 (.z 185 (.y 200 (.y 202 (.y 204 (.y 206 (.y 208 (.y 211 (.z 214 .nil))))))))))))))))))))))))))))))))))))))))))))))))))))))))))))))))))))))))))))
        ·try simp only [if_neg h7]
         exact cp (by kernel_rfl) (.r 11 [] [] f0 (.r 35 [] [] f1 (.n 3 h0 (.n 5 h1 (.g h0 (.g h1 (.g h0 (.n 6 h2 (.n 6 h3 (.n 8 h4 (.z 40 (.z 42 (.z 44 (.z 46 (.z 48 (.z 50 (.z 52 (.z 54 (.z 56 (.z 57 (.z 59 (.z 68 (.z 70 (.z 72 (.z 74 (.z 76 (.z 79 (.z 90 (.z 92 (.z 94 (.z 96 (.z 98 (.z 101 (.z 109 (.z 111 (.z 113 (.z 115 (.z 117 (.z 119 (.z 133 (.z 136 (.r 147 [] [] f33 (.n 5 h5 (.z 152 (.z 154 (.z 156 (.z 158 (.z 160 (.r 161 [] [] f39 (.n 2 h5 (.n 2 h6 (.n 5 h4 (.g h6 (.g h4 (.g h6 (.n 6 h7 (.z 162 (.z 165 (.z 168 (.z 170 (.z 172 (.z 174 (.z 176 (.z 178 (.z 180 (.z 182 (.z 183 (.z 185 (.z 200 (.z 202 (.z 204 (.z 206 (.z 208 (.z 211 .nil))))))))))))))))))))))))))))))))))))))))))))))))))))))))))))))))))))))))))
theorem fault_len62 {a : K_isii} (h : ¬ ((m62 a) != 0) = true) : ByteArray.size a.f1 ≤ 12 := by
 by_cases h1 : (a.f1.toList == (⟨#[]⟩ : ByteArray).toList) = true
 ·rw [ba_eq] at h1
  simp only [decide_eq_true_eq] at h1
  rw [h1]; decide
 ·by_cases h2 : m114 a.f1 = true
  ·exact arg_len114 h2
  ·exfalso
   apply h
   have e1 : (!(a.f1.toList == (⟨#[]⟩ : ByteArray).toList)) = true := by simpa using h1
   have e2 : (!(m114 a.f1)) = true := by simpa using h2
   unfold m62
   simp only [if_pos e1, if_pos e2, if_neg h1]
   cases h3 : m112_0 a.f0 <;> simp only [Bool.not_true, Bool.not_false, Bool.false_eq_true, if_true, if_false] <;> (repeat' split) <;> first | rfl | simp_all
def m152 (a0 : (List Int)) : Int :=
 (w64 ((w64 ((w64 ((w64 ((w64 ((getD a0 0 0))) * 2 ^ (min (Int.toNat 24) (IntKind.bits .i64)))) + (w64 ((w64 ((getD a0 1 0))) * 2 ^ (min (Int.toNat 16) (IntKind.bits .i64)))))) + (w64 ((w64 ((getD a0 2 0))) * 2 ^ (min (Int.toNat 8) (IntKind.bits .i64)))))) + (w64 ((getD a0 3 0)))))
theorem e152 {l0_0 : Nat} {a0 : (List Int)} (hy0 : 4 ≤ length a0) : Ev F X (.call 152 [(.one (.bor l0_0 (map b_y a0)))] [] [] [(.one (.val (.int .i64 (m152 a0))))]) := by
 have f0 : 0 ≤ (0 : Int) := (by omega)
 have f1 : (map b_y a0)[0]? = some [(.val (.int .u8 (getD a0 0 0)))] := (by rw [getElem?_map, getD_at a0 0 0 (by first | exact True.intro | with_reducible rfl | with_reducible assumption | omega | (simp only [decide_eq_true_eq] at *; omega) | (simp only [length_map]; omega) | (simp [four_len]; omega) | (simp [take_of_length_le, four_len]; done) | assumption | trivial | (simp [*, four_len, byteRows_eq, ints_y]; done))]; rfl)
 have f2 : 0 ≤ (24 : Int) := (by omega)
 have f3 : 0 ≤ (1 : Int) := (by omega)
 have f4 : (map b_y a0)[1]? = some [(.val (.int .u8 (getD a0 1 0)))] := (by rw [getElem?_map, getD_at a0 1 0 (by first | exact True.intro | with_reducible rfl | with_reducible assumption | omega | (simp only [decide_eq_true_eq] at *; omega) | (simp only [length_map]; omega) | (simp [four_len]; omega) | (simp [take_of_length_le, four_len]; done) | assumption | trivial | (simp [*, four_len, byteRows_eq, ints_y]; done))]; rfl)
 have f5 : 0 ≤ (16 : Int) := (by omega)
 have f7 : 0 ≤ (2 : Int) := (by omega)
 have f8 : (map b_y a0)[2]? = some [(.val (.int .u8 (getD a0 2 0)))] := (by rw [getElem?_map, getD_at a0 2 0 (by first | exact True.intro | with_reducible rfl | with_reducible assumption | omega | (simp only [decide_eq_true_eq] at *; omega) | (simp only [length_map]; omega) | (simp [four_len]; omega) | (simp [take_of_length_le, four_len]; done) | assumption | trivial | (simp [*, four_len, byteRows_eq, ints_y]; done))]; rfl)
 have f9 : 0 ≤ (8 : Int) := (by omega)
 have f11 : 0 ≤ (3 : Int) := (by omega)
 have f12 : (map b_y a0)[3]? = some [(.val (.int .u8 (getD a0 3 0)))] := (by rw [getElem?_map, getD_at a0 3 0 (by first | exact True.intro | with_reducible rfl | with_reducible assumption | omega | (simp only [decide_eq_true_eq] at *; omega) | (simp only [length_map]; omega) | (simp [four_len]; omega) | (simp [take_of_length_le, four_len]; done) | assumption | trivial | (simp [*, four_len, byteRows_eq, ints_y]; done))]; rfl)
 exact cp (by kernel_rfl) (.f f0 (.f f1 (.f f2 (.f f3 (.f f4 (.f f5 (.f trivial (.f f7 (.f f8 (.f f9 (.f trivial (.f f11 (.f f12 (.f trivial (.h 5 (.row [(.val (.int .u8 (getD a0 0 0)))]) (.h 15 (.row [(.val (.int .u8 (getD a0 1 0)))]) (.h 27 (.row [(.val (.int .u8 (getD a0 2 0)))]) (.h 39 (.row [(.val (.int .u8 (getD a0 3 0)))]) .nil))))))))))))))))))
end Go.Proofs.YtdnopbpdiineiaaDoor.ReadEntries
