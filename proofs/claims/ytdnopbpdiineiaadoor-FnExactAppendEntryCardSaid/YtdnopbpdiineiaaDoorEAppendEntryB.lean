/- What the functions compute. -/
import Derived.Test.YtdnopbpdiineiaaDoorEAppendEntryA
import Derived.KernelRfl
namespace Go.Proofs.YtdnopbpdiineiaaDoor.AppendEntry
open Go Go.Proofs.YtdnopbpdiineiaaDoor.V
set_option linter.unusedVariables false
set_option linter.unusedSimpArgs false
set_option maxRecDepth 20000
open List (length_replicate length_map length_set length_append length_cons length_nil length_take length_drop take_of_length_le map_take map_drop map_set append_assoc getElem?_map map length take drop getD set)
attribute [local simp] strInts_len byteRows_len toBR_y fullR_y pureR_y lenB_y lenD_y fromBR_y copy_y toBR_LyEi fullR_LyEi pureR_LyEi lenB_LyEi lenD_LyEi toBR_isii fullR_isii pureR_isii lenB_isii lenD_isii fromBR_isii copy_isii toBR_b fullR_b pureR_b lenB_b lenD_b fromBR_b copy_b toBR_i fullR_i pureR_i lenB_i lenD_i fromBR_i copy_i toBR_iLyE fullR_iLyE pureR_iLyE lenB_iLyE lenD_iLyE toBR_iLyEi fullR_iLyEi pureR_iLyEi lenB_iLyEi lenD_iLyEi toBR_LyE fullR_LyE pureR_LyE lenB_LyE lenD_LyE toBR_LLyEE fullR_LLyEE pureR_LLyEE lenB_LLyEE lenD_LLyEE toBR_s fullR_s pureR_s lenB_s lenD_s fromBR_s copy_s
def m62 (a0 : K_isii) : Int :=
 if (!(m113 a0.f0 1 5)) = true then 1 else
 if (!(m112_0 a0.f0)) = true then (if (!(a0.f1.toList == (⟨#[]⟩ : ByteArray).toList)) = true then 1 else
   if (!(m112_1 a0.f0)) = true then (if (a0.f2 != 0) = true then 1 else
     if (!(m112_2 a0.f0)) = true then (if (a0.f3 != 0) = true then 1 else
       if (m112_0 a0.f0) = true then (if (a0.f1.toList == (⟨#[]⟩ : ByteArray).toList) = true then 5 else
         if (!(m114 a0.f1)) = true then 5 else
          if (!(m113 a0.f2 0 2147483646)) = true then 3 else
           if (!(m113 a0.f3 0 1000000)) = true then 3 else
            if (decide (a0.f3 < 1)) = true then 3 else
             if (a0.f0 == 1) = true then (if (decide (a0.f3 > 9999)) = true then 3 else
               0) else
              0) else
        if (!(m113 a0.f2 0 2147483646)) = true then 3 else
         if (!(m113 a0.f3 0 1000000)) = true then 3 else
          if (a0.f0 == 1) = true then (if (decide (a0.f3 > 9999)) = true then 3 else
            0) else
           0) else
      if (m112_0 a0.f0) = true then (if (a0.f1.toList == (⟨#[]⟩ : ByteArray).toList) = true then 5 else
        if (!(m114 a0.f1)) = true then 5 else
         if (!(m113 a0.f2 0 2147483646)) = true then 3 else
          if (!(m113 a0.f3 0 1000000)) = true then 3 else
           if (decide (a0.f3 < 1)) = true then 3 else
            if (a0.f0 == 1) = true then (if (decide (a0.f3 > 9999)) = true then 3 else
              0) else
             0) else
       if (!(m113 a0.f2 0 2147483646)) = true then 3 else
        if (!(m113 a0.f3 0 1000000)) = true then 3 else
         if (a0.f0 == 1) = true then (if (decide (a0.f3 > 9999)) = true then 3 else
           0) else
          0) else
    if (!(m112_2 a0.f0)) = true then (if (a0.f3 != 0) = true then 1 else
      if (m112_0 a0.f0) = true then (if (a0.f1.toList == (⟨#[]⟩ : ByteArray).toList) = true then 5 else
        if (!(m114 a0.f1)) = true then 5 else
         if (!(m113 a0.f2 0 2147483646)) = true then 3 else
          if (!(m113 a0.f3 0 1000000)) = true then 3 else
           if (decide (a0.f3 < 1)) = true then 3 else
            if (a0.f0 == 1) = true then (if (decide (a0.f3 > 9999)) = true then 3 else
              0) else
             0) else
       if (!(m113 a0.f2 0 2147483646)) = true then 3 else
        if (!(m113 a0.f3 0 1000000)) = true then 3 else
         if (a0.f0 == 1) = true then (if (decide (a0.f3 > 9999)) = true then 3 else
           0) else
          0) else
     if (m112_0 a0.f0) = true then (if (a0.f1.toList == (⟨#[]⟩ : ByteArray).toList) = true then 5 else
       if (!(m114 a0.f1)) = true then 5 else
        if (!(m113 a0.f2 0 2147483646)) = true then 3 else
         if (!(m113 a0.f3 0 1000000)) = true then 3 else
          if (decide (a0.f3 < 1)) = true then 3 else
           if (a0.f0 == 1) = true then (if (decide (a0.f3 > 9999)) = true then 3 else
             0) else
            0) else
      if (!(m113 a0.f2 0 2147483646)) = true then 3 else
       if (!(m113 a0.f3 0 1000000)) = true then 3 else
        if (a0.f0 == 1) = true then (if (decide (a0.f3 > 9999)) = true then 3 else
          0) else
         0) else
  if (!(m112_1 a0.f0)) = true then (if (a0.f2 != 0) = true then 1 else
    if (!(m112_2 a0.f0)) = true then (if (a0.f3 != 0) = true then 1 else
      if (m112_0 a0.f0) = true then (if (a0.f1.toList == (⟨#[]⟩ : ByteArray).toList) = true then 5 else
        if (!(m114 a0.f1)) = true then 5 else
         if (!(m113 a0.f2 0 2147483646)) = true then 3 else
          if (!(m113 a0.f3 0 1000000)) = true then 3 else
           if (decide (a0.f3 < 1)) = true then 3 else
            if (a0.f0 == 1) = true then (if (decide (a0.f3 > 9999)) = true then 3 else
              0) else
             0) else
       if (!(m113 a0.f2 0 2147483646)) = true then 3 else
        if (!(m113 a0.f3 0 1000000)) = true then 3 else
         if (a0.f0 == 1) = true then (if (decide (a0.f3 > 9999)) = true then 3 else
           0) else
          0) else
     if (m112_0 a0.f0) = true then (if (a0.f1.toList == (⟨#[]⟩ : ByteArray).toList) = true then 5 else
       if (!(m114 a0.f1)) = true then 5 else
        if (!(m113 a0.f2 0 2147483646)) = true then 3 else
         if (!(m113 a0.f3 0 1000000)) = true then 3 else
          if (decide (a0.f3 < 1)) = true then 3 else
           if (a0.f0 == 1) = true then (if (decide (a0.f3 > 9999)) = true then 3 else
             0) else
            0) else
      if (!(m113 a0.f2 0 2147483646)) = true then 3 else
       if (!(m113 a0.f3 0 1000000)) = true then 3 else
        if (a0.f0 == 1) = true then (if (decide (a0.f3 > 9999)) = true then 3 else
          0) else
         0) else
   if (!(m112_2 a0.f0)) = true then (if (a0.f3 != 0) = true then 1 else
     if (m112_0 a0.f0) = true then (if (a0.f1.toList == (⟨#[]⟩ : ByteArray).toList) = true then 5 else
       if (!(m114 a0.f1)) = true then 5 else
        if (!(m113 a0.f2 0 2147483646)) = true then 3 else
         if (!(m113 a0.f3 0 1000000)) = true then 3 else
          if (decide (a0.f3 < 1)) = true then 3 else
           if (a0.f0 == 1) = true then (if (decide (a0.f3 > 9999)) = true then 3 else
             0) else
            0) else
      if (!(m113 a0.f2 0 2147483646)) = true then 3 else
       if (!(m113 a0.f3 0 1000000)) = true then 3 else
        if (a0.f0 == 1) = true then (if (decide (a0.f3 > 9999)) = true then 3 else
          0) else
         0) else
    if (m112_0 a0.f0) = true then (if (a0.f1.toList == (⟨#[]⟩ : ByteArray).toList) = true then 5 else
      if (!(m114 a0.f1)) = true then 5 else
       if (!(m113 a0.f2 0 2147483646)) = true then 3 else
        if (!(m113 a0.f3 0 1000000)) = true then 3 else
         if (decide (a0.f3 < 1)) = true then 3 else
          if (a0.f0 == 1) = true then (if (decide (a0.f3 > 9999)) = true then 3 else
            0) else
           0) else
     if (!(m113 a0.f2 0 2147483646)) = true then 3 else
      if (!(m113 a0.f3 0 1000000)) = true then 3 else
       if (a0.f0 == 1) = true then (if (decide (a0.f3 > 9999)) = true then 3 else
         0) else
        0
theorem e62 {l0 : Nat} {a0 : K_isii} (hy0 : ByteArray.size a0.f1 ≤ 140737488351232) : Ev F X (.call 62 [(.bptr l0 [(.val (.int .i64 a0.f0)), (.val (.string a0.f1)), (.val (.int .i64 a0.f2)), (.val (.int .i64 a0.f3))])] [] [] [(.one (.val (.int .i64 (m62 a0))))]) := by
 unfold m62
 have f0 := e112 (a0 := a0.f0)
 have f1 := e113 (a0 := a0.f0) (a1 := 1) (a2 := 5)
 by_cases h0 : (!(m113 a0.f0 1 5)) = true
 ·try simp only [if_pos h0]
  exact cp (by kernel_rfl) (.r 11 [] [] f0 (.r 35 [] [] f1 (.m 5 h0 (.y 40 (.y 42 (.y 44 (.y 56 (.y 59 .nil))))))))
 ·try simp only [if_neg h0]
  by_cases h1 : (!(m112_0 a0.f0)) = true
  ·try simp only [if_pos h1]
   by_cases h2 : (!(a0.f1.toList == (⟨#[]⟩ : ByteArray).toList)) = true
   ·try simp only [if_pos h2]
    exact cp (by kernel_rfl) (.r 11 [] [] f0 (.r 35 [] [] f1 (.n 3 h0 (.m 5 h1 (.g h0 (.f h1 (.g h0 (.m 5 h2 (.z 40 (.z 42 (.z 44 (.y 46 (.y 48 (.y 50 (.y 52 (.y 54 (.z 56 (.y 57 (.z 59 (.y 62 (.y 64 (.y 66 (.y 78 (.y 81 .nil))))))))))))))))))))))))
   ·try simp only [if_neg h2]
    by_cases h3 : (!(m112_1 a0.f0)) = true
    ·try simp only [if_pos h3]
     by_cases h4 : (a0.f2 != 0) = true
     ·try simp only [if_pos h4]
      exact cp (by kernel_rfl) (.r 11 [] [] f0 (.r 35 [] [] f1 (.n 3 h0 (.m 5 h1 (.g h0 (.f h1 (.g h0 (.n 3 h2 (.m 5 h3 (.g h2 (.f h3 (.g h2 (.m 5 h4 (.z 40 (.z 42 (.z 44 (.y 46 (.y 48 (.y 50 (.y 52 (.y 54 (.z 56 (.y 57 (.z 59 (.z 62 (.z 64 (.z 66 (.y 68 (.y 70 (.y 72 (.y 74 (.y 76 (.z 78 (.y 79 (.z 81 (.y 84 (.y 86 (.y 88 (.y 100 (.y 103 .nil))))))))))))))))))))))))))))))))))))))))
     ·try simp only [if_neg h4]
      by_cases h5 : (!(m112_2 a0.f0)) = true
      ·try simp only [if_pos h5]
       by_cases h6 : (a0.f3 != 0) = true
       ·try simp only [if_pos h6]
        exact cp (by kernel_rfl) (.r 11 [] [] f0 (.r 35 [] [] f1 (.n 3 h0 (.m 5 h1 (.g h0 (.f h1 (.g h0 (.n 3 h2 (.m 5 h3 (.g h2 (.f h3 (.g h2 (.n 3 h4 (.m 5 h5 (.g h4 (.f h5 (.g h4 (.f h6 (.z 40 (.z 42 (.z 44 (.y 46 (.y 48 (.y 50 (.y 52 (.y 54 (.z 56 (.y 57 (.z 59 (.z 62 (.z 64 (.z 66 (.y 68 (.y 70 (.y 72 (.y 74 (.y 76 (.z 78 (.y 79 (.z 81 (.z 84 (.z 86 (.z 88 (.y 90 (.y 92 (.y 94 (.y 96 (.y 98 (.z 100 (.y 101 (.z 103 (.y 104 .nil))))))))))))))))))))))))))))))))))))))))))))))))))))
       ·try simp only [if_neg h6]
        by_cases h7 : (m112_0 a0.f0) = true
        ·try simp only [if_pos h7]
         by_cases h8 : (a0.f1.toList == (⟨#[]⟩ : ByteArray).toList) = true
         ·try simp only [if_pos h8]
          exact cp (by kernel_rfl) (.r 11 [] [] f0 (.r 35 [] [] f1 (.n 3 h0 (.m 5 h1 (.g h0 (.f h1 (.g h0 (.n 3 h2 (.m 5 h3 (.g h2 (.f h3 (.g h2 (.n 3 h4 (.m 5 h5 (.g h4 (.f h5 (.g h4 (.g h6 (.m 6 h7 (.m 6 h8 (.f h7 (.f h8 (.f h7 (.z 40 (.z 42 (.z 44 (.y 46 (.y 48 (.y 50 (.y 52 (.y 54 (.z 56 (.y 57 (.z 59 (.z 62 (.z 64 (.z 66 (.y 68 (.y 70 (.y 72 (.y 74 (.y 76 (.z 78 (.y 79 (.z 81 (.z 84 (.z 86 (.z 88 (.y 90 (.y 92 (.y 94 (.y 96 (.y 98 (.z 100 (.y 101 (.z 103 (.z 104 (.y 109 (.y 111 (.y 113 (.y 115 (.y 117 (.y 119 (.y 121 (.y 123 (.y 125 (.y 127 (.y 129 (.y 131 (.y 133 (.y 134 (.y 136 .nil))))))))))))))))))))))))))))))))))))))))))))))))))))))))))))))))))))))))
         ·try simp only [if_neg h8]
          have f47 := e114 (a0 := a0.f1) (by with_reducible assumption)
          by_cases h9 : (!(m114 a0.f1)) = true
          ·try simp only [if_pos h9]
           exact cp (by kernel_rfl) (.r 11 [] [] f0 (.r 35 [] [] f1 (.n 3 h0 (.m 5 h1 (.g h0 (.f h1 (.g h0 (.n 3 h2 (.m 5 h3 (.g h2 (.f h3 (.g h2 (.n 3 h4 (.m 5 h5 (.g h4 (.f h5 (.g h4 (.g h6 (.m 6 h7 (.n 5 h8 (.z 40 (.z 42 (.z 44 (.y 46 (.y 48 (.y 50 (.y 52 (.y 54 (.z 56 (.y 57 (.z 59 (.z 62 (.z 64 (.z 66 (.y 68 (.y 70 (.y 72 (.y 74 (.y 76 (.z 78 (.y 79 (.z 81 (.z 84 (.z 86 (.z 88 (.y 90 (.y 92 (.y 94 (.y 96 (.y 98 (.z 100 (.y 101 (.z 103 (.z 104 (.y 109 (.y 111 (.y 113 (.y 115 (.y 117 (.y 119 (.z 121 (.z 123 (.z 125 (.z 127 (.z 129 (.r 130 [] [] f47 (.g h8 (.f h7 (.g h8 (.f h7 (.f h9 (.z 131 (.y 133 (.z 134 (.y 136 (.y 137 .nil))))))))))))))))))))))))))))))))))))))))))))))))))))))))))))))))))))))))))))
          ·try simp only [if_neg h9]
           have f53 := e115 (a0 := a0.f2)
           by_cases h10 : (!(m113 a0.f2 0 2147483646)) = true
           ·try simp only [if_pos h10]
            exact cp (by kernel_rfl) (.r 11 [] [] f0 (.r 35 [] [] f1 (.n 3 h0 (.m 5 h1 (.g h0 (.f h1 (.g h0 (.n 3 h2 (.m 5 h3 (.g h2 (.f h3 (.g h2 (.n 3 h4 (.m 5 h5 (.g h4 (.f h5 (.g h4 (.g h6 (.m 6 h7 (.n 5 h8 (.z 40 (.z 42 (.z 44 (.y 46 (.y 48 (.y 50 (.y 52 (.y 54 (.z 56 (.y 57 (.z 59 (.z 62 (.z 64 (.z 66 (.y 68 (.y 70 (.y 72 (.y 74 (.y 76 (.z 78 (.y 79 (.z 81 (.z 84 (.z 86 (.z 88 (.y 90 (.y 92 (.y 94 (.y 96 (.y 98 (.z 100 (.y 101 (.z 103 (.z 104 (.y 109 (.y 111 (.y 113 (.y 115 (.y 117 (.y 119 (.z 121 (.z 123 (.z 125 (.z 127 (.z 129 (.r 130 [] [] f47 (.g h8 (.f h7 (.g h8 (.f h7 (.g h9 (.z 131 (.y 133 (.z 134 (.y 136 (.z 137 (.r 147 [] [] f53 (.m 7 h10 (.y 152 (.y 154 (.y 156 (.y 158 (.y 160 (.y 162 (.y 165 .nil)))))))))))))))))))))))))))))))))))))))))))))))))))))))))))))))))))))))))))))))))))))
           ·try simp only [if_neg h10]
            have f59 := e75 (a0 := a0.f3)
            by_cases h11 : (!(m113 a0.f3 0 1000000)) = true
            ·try simp only [if_pos h11]
             exact cp (by kernel_rfl) (.r 11 [] [] f0 (.r 35 [] [] f1 (.n 3 h0 (.m 5 h1 (.g h0 (.f h1 (.g h0 (.n 3 h2 (.m 5 h3 (.g h2 (.f h3 (.g h2 (.n 3 h4 (.m 5 h5 (.g h4 (.f h5 (.g h4 (.g h6 (.m 6 h7 (.n 5 h8 (.z 40 (.z 42 (.z 44 (.y 46 (.y 48 (.y 50 (.y 52 (.y 54 (.z 56 (.y 57 (.z 59 (.z 62 (.z 64 (.z 66 (.y 68 (.y 70 (.y 72 (.y 74 (.y 76 (.z 78 (.y 79 (.z 81 (.z 84 (.z 86 (.z 88 (.y 90 (.y 92 (.y 94 (.y 96 (.y 98 (.z 100 (.y 101 (.z 103 (.z 104 (.y 109 (.y 111 (.y 113 (.y 115 (.y 117 (.y 119 (.z 121 (.z 123 (.z 125 (.z 127 (.z 129 (.r 130 [] [] f47 (.g h8 (.f h7 (.g h8 (.f h7 (.g h9 (.z 131 (.y 133 (.z 134 (.y 136 (.z 137 (.r 147 [] [] f53 (.n 5 h10 (.z 152 (.z 154 (.z 156 (.z 158 (.z 160 (.r 161 [] [] f59 (.n 2 h10 (.m 4 h11 (.z 162 (.z 165 (.y 168 (.y 170 (.y 182 (.y 185 .nil))))))))))))))))))))))))))))))))))))))))))))))))))))))))))))))))))))))))))))))))))))))))))))
            ·try simp only [if_neg h11]
             by_cases h12 : (decide (a0.f3 < 1)) = true
             ·try simp only [if_pos h12]
              exact cp (by kernel_rfl) (.r 11 [] [] f0 (.r 35 [] [] f1 (.n 3 h0 (.m 5 h1 (.g h0 (.f h1 (.g h0 (.n 3 h2 (.m 5 h3 (.g h2 (.f h3 (.g h2 (.n 3 h4 (.m 5 h5 (.g h4 (.f h5 (.g h4 (.g h6 (.m 6 h7 (.n 5 h8 (.z 40 (.z 42 (.z 44 (.y 46 (.y 48 (.y 50 (.y 52 (.y 54 (.z 56 (.y 57 (.z 59 (.z 62 (.z 64 (.z 66 (.y 68 (.y 70 (.y 72 (.y 74 (.y 76 (.z 78 (.y 79 (.z 81 (.z 84 (.z 86 (.z 88 (.y 90 (.y 92 (.y 94 (.y 96 (.y 98 (.z 100 (.y 101 (.z 103 (.z 104 (.y 109 (.y 111 (.y 113 (.y 115 (.y 117 (.y 119 (.z 121 (.z 123 (.z 125 (.z 127 (.z 129 (.r 130 [] [] f47 (.g h8 (.f h7 (.g h8 (.f h7 (.g h9 (.z 131 (.y 133 (.z 134 (.y 136 (.z 137 (.r 147 [] [] f53 (.n 5 h10 (.z 152 (.z 154 (.z 156 (.z 158 (.z 160 (.r 161 [] [] f59 (.n 2 h10 (.n 2 h11 (.m 5 h7 (.g h11 (.f h7 (.g h11 (.m 8 h12 (.z 162 (.z 165 (.z 168 (.z 170 (.y 172 (.y 174 (.y 176 (.y 178 (.y 180 (.z 182 (.y 183 (.z 185 (.y 188 (.y 190 (.y 192 (.y 194 (.y 196 (.y 198 (.y 210 (.y 213 .nil)))))))))))))))))))))))))))))))))))))))))))))))))))))))))))))))))))))))))))))))))))))))))))))))))))))))))))))))
             ·try simp only [if_neg h12]
              by_cases h13 : (a0.f0 == 1) = true
              ·try simp only [if_pos h13]
               by_cases h14 : (decide (a0.f3 > 9999)) = true
               ·try simp only [if_pos h14]
                exact cp (by kernel_rfl) (.r 11 [] [] f0 (.r 35 [] [] f1 (.n 3 h0 (.m 5 h1 (.g h0 (.f h1 (.g h0 (.n 3 h2 (.m 5 h3 (.g h2 (.f h3 (.g h2 (.n 3 h4 (.m 5 h5 (.g h4 (.f h5 (.g h4 (.g h6 (.m 6 h7 (.n 5 h8 (.z 40 (.z 42 (.z 44 (.y 46 (.y 48 (.y 50 (.y 52 (.y 54 (.z 56 (.y 57 (.z 59 (.z 62 (.z 64 (.z 66 (.y 68 (.y 70 (.y 72 (.y 74 (.y 76 (.z 78 (.y 79 (.z 81 (.z 84 (.z 86 (.z 88 (.y 90 (.y 92 (.y 94 (.y 96 (.y 98 (.z 100 (.y 101 (.z 103 (.z 104 (.y 109 (.y 111 (.y 113 (.y 115 (.y 117 (.y 119 (.z 121 (.z 123 (.z 125 (.z 127 (.z 129 (.r 130 [] [] f47 (.g h8 (.f h7 (.g h8 (.f h7 (.g h9 (.z 131 (.y 133 (.z 134 (.y 136 (.z 137 (.r 147 [] [] f53 (.n 5 h10 (.z 152 (.z 154 (.z 156 (.z 158 (.z 160 (.r 161 [] [] f59 (.n 2 h10 (.n 2 h11 (.m 5 h7 (.g h11 (.f h7 (.g h11 (.n 6 h12 (.m 5 h13 (.g h12 (.f h13 (.g h12 (.f h14 (.z 162 (.z 165 (.z 168 (.z 170 (.y 172 (.y 174 (.y 176 (.y 178 (.y 180 (.z 182 (.y 183 (.z 185 (.z 188 (.z 190 (.z 192 (.z 194 (.z 196 (.z 198 (.y 200 (.y 202 (.y 204 (.y 206 (.y 208 (.z 210 (.y 211 (.z 213 (.y 214 .nil)))))))))))))))))))))))))))))))))))))))))))))))))))))))))))))))))))))))))))))))))))))))))))))))))))))))))))))))))))))))))))
               ·try simp only [if_neg h14]
                exact cp (by kernel_rfl) (.r 11 [] [] f0 (.r 35 [] [] f1 (.n 3 h0 (.m 5 h1 (.g h0 (.f h1 (.g h0 (.n 3 h2 (.m 5 h3 (.g h2 (.f h3 (.g h2 (.n 3 h4 (.m 5 h5 (.g h4 (.f h5 (.g h4 (.g h6 (.m 6 h7 (.n 5 h8 (.z 40 (.z 42 (.z 44 (.y 46 (.y 48 (.y 50 (.y 52 (.y 54 (.z 56 (.y 57 (.z 59 (.z 62 (.z 64 (.z 66 (.y 68 (.y 70 (.y 72 (.y 74 (.y 76 (.z 78 (.y 79 (.z 81 (.z 84 (.z 86 (.z 88 (.y 90 (.y 92 (.y 94 (.y 96 (.y 98 (.z 100 (.y 101 (.z 103 (.z 104 (.y 109 (.y 111 (.y 113 (.y 115 (.y 117 (.y 119 (.z 121 (.z 123 (.z 125 (.z 127 (.z 129 (.r 130 [] [] f47 (.g h8 (.f h7 (.g h8 (.f h7 (.g h9 (.z 131 (.y 133 (.z 134 (.y 136 (.z 137 (.r 147 [] [] f53 (.n 5 h10 (.z 152 (.z 154 (.z 156 (.z 158 (.z 160 (.r 161 [] [] f59 (.n 2 h10 (.n 2 h11 (.m 5 h7 (.g h11 (.f h7 (.g h11 (.n 6 h12 (.m 5 h13 (.g h12 (.f h13 (.g h12 (.g h14 (.z 162 (.z 165 (.z 168 (.z 170 (.y 172 (.y 174 (.y 176 (.y 178 (.y 180 (.z 182 (.y 183 (.z 185 (.z 188 (.z 190 (.z 192 (.z 194 (.z 196 (.z 198 (.y 200 (.y 202 (.y 204 (.y 206 (.y 208 (.z 210 (.y 211 (.z 213 (.z 214 .nil)))))))))))))))))))))))))))))))))))))))))))))))))))))))))))))))))))))))))))))))))))))))))))))))))))))))))))))))))))))))))))
              ·try simp only [if_neg h13]
               exact cp (by kernel_rfl) (.r 11 [] [] f0 (.r 35 [] [] f1 (.n 3 h0 (.m 5 h1 (.g h0 (.f h1 (.g h0 (.n 3 h2 (.m 5 h3 (.g h2 (.f h3 (.g h2 (.n 3 h4 (.m 5 h5 (.g h4 (.f h5 (.g h4 (.g h6 (.m 6 h7 (.n 5 h8 (.z 40 (.z 42 (.z 44 (.y 46 (.y 48 (.y 50 (.y 52 (.y 54 (.z 56 (.y 57 (.z 59 (.z 62 (.z 64 (.z 66 (.y 68 (.y 70 (.y 72 (.y 74 (.y 76 (.z 78 (.y 79 (.z 81 (.z 84 (.z 86 (.z 88 (.y 90 (.y 92 (.y 94 (.y 96 (.y 98 (.z 100 (.y 101 (.z 103 (.z 104 (.y 109 (.y 111 (.y 113 (.y 115 (.y 117 (.y 119 (.z 121 (.z 123 (.z 125 (.z 127 (.z 129 (.r 130 [] [] f47 (.g h8 (.f h7 (.g h8 (.f h7 (.g h9 (.z 131 (.y 133 (.z 134 (.y 136 (.z 137 (.r 147 [] [] f53 (.n 5 h10 (.z 152 (.z 154 (.z 156 (.z 158 (.z 160 (.r 161 [] [] f59 (.n 2 h10 (.n 2 h11 (.m 5 h7 (.g h11 (.f h7 (.g h11 (.n 6 h12 (.n 5 h13 (.g h12 (.g h13 (.g h12 (.z 162 (.z 165 (.z 168 (.z 170 (.y 172 (.y 174 (.y 176 (.y 178 (.y 180 (.z 182 (.y 183 (.z 185 (.z 188 (.z 190 (.z 192 (.z 194 (.z 196 (.z 198 (.z 200 (.z 202 (.z 204 (.z 206 (.z 208 (.z 210 (.z 211 (.z 213 .nil)))))))))))))))))))))))))))))))))))))))))))))))))))))))))))))))))))))))))))))))))))))))))))))))))))))))))))))))))))))))))
        ·try simp only [if_neg h7]
         have f44 := e115 (a0 := a0.f2)
         by_cases h8 : (!(m113 a0.f2 0 2147483646)) = true
         ·try simp only [if_pos h8]
          exact cp (by kernel_rfl) (.r 11 [] [] f0 (.r 35 [] [] f1 (.n 3 h0 (.m 5 h1 (.g h0 (.f h1 (.g h0 (.n 3 h2 (.m 5 h3 (.g h2 (.f h3 (.g h2 (.n 3 h4 (.m 5 h5 (.g h4 (.f h5 (.g h4 (.g h6 (.n 8 h7 (.z 40 (.z 42 (.z 44 (.y 46 (.y 48 (.y 50 (.y 52 (.y 54 (.z 56 (.y 57 (.z 59 (.z 62 (.z 64 (.z 66 (.y 68 (.y 70 (.y 72 (.y 74 (.y 76 (.z 78 (.y 79 (.z 81 (.z 84 (.z 86 (.z 88 (.y 90 (.y 92 (.y 94 (.y 96 (.y 98 (.z 100 (.y 101 (.z 103 (.z 104 (.z 109 (.z 111 (.z 113 (.z 115 (.z 117 (.z 119 (.z 133 (.z 136 (.r 147 [] [] f44 (.m 7 h8 (.y 152 (.y 154 (.y 156 (.y 158 (.y 160 (.y 162 (.y 165 .nil))))))))))))))))))))))))))))))))))))))))))))))))))))))))))))))))))))))
         ·try simp only [if_neg h8]
          have f50 := e75 (a0 := a0.f3)
          by_cases h9 : (!(m113 a0.f3 0 1000000)) = true
          ·try simp only [if_pos h9]
           exact cp (by kernel_rfl) (.r 11 [] [] f0 (.r 35 [] [] f1 (.n 3 h0 (.m 5 h1 (.g h0 (.f h1 (.g h0 (.n 3 h2 (.m 5 h3 (.g h2 (.f h3 (.g h2 (.n 3 h4 (.m 5 h5 (.g h4 (.f h5 (.g h4 (.g h6 (.n 8 h7 (.z 40 (.z 42 (.z 44 (.y 46 (.y 48 (.y 50 (.y 52 (.y 54 (.z 56 (.y 57 (.z 59 (.z 62 (.z 64 (.z 66 (.y 68 (.y 70 (.y 72 (.y 74 (.y 76 (.z 78 (.y 79 (.z 81 (.z 84 (.z 86 (.z 88 (.y 90 (.y 92 (.y 94 (.y 96 (.y 98 (.z 100 (.y 101 (.z 103 (.z 104 (.z 109 (.z 111 (.z 113 (.z 115 (.z 117 (.z 119 (.z 133 (.z 136 (.r 147 [] [] f44 (.n 5 h8 (.z 152 (.z 154 (.z 156 (.z 158 (.z 160 (.r 161 [] [] f50 (.n 2 h8 (.m 4 h9 (.z 162 (.z 165 (.y 168 (.y 170 (.y 182 (.y 185 .nil)))))))))))))))))))))))))))))))))))))))))))))))))))))))))))))))))))))))))))))
          ·try simp only [if_neg h9]
           by_cases h10 : (a0.f0 == 1) = true
           ·try simp only [if_pos h10]
            by_cases h11 : (decide (a0.f3 > 9999)) = true
            ·try simp only [if_pos h11]
             exact cp (by kernel_rfl) (.r 11 [] [] f0 (.r 35 [] [] f1 (.n 3 h0 (.m 5 h1 (.g h0 (.f h1 (.g h0 (.n 3 h2 (.m 5 h3 (.g h2 (.f h3 (.g h2 (.n 3 h4 (.m 5 h5 (.g h4 (.f h5 (.g h4 (.g h6 (.n 8 h7 (.z 40 (.z 42 (.z 44 (.y 46 (.y 48 (.y 50 (.y 52 (.y 54 (.z 56 (.y 57 (.z 59 (.z 62 (.z 64 (.z 66 (.y 68 (.y 70 (.y 72 (.y 74 (.y 76 (.z 78 (.y 79 (.z 81 (.z 84 (.z 86 (.z 88 (.y 90 (.y 92 (.y 94 (.y 96 (.y 98 (.z 100 (.y 101 (.z 103 (.z 104 (.z 109 (.z 111 (.z 113 (.z 115 (.z 117 (.z 119 (.z 133 (.z 136 (.r 147 [] [] f44 (.n 5 h8 (.z 152 (.z 154 (.z 156 (.z 158 (.z 160 (.r 161 [] [] f50 (.n 2 h8 (.n 2 h9 (.n 5 h7 (.g h9 (.g h7 (.g h9 (.m 6 h10 (.f h11 (.z 162 (.z 165 (.z 168 (.z 170 (.z 172 (.z 174 (.z 176 (.z 178 (.z 180 (.z 182 (.z 183 (.z 185 (.y 200 (.y 202 (.y 204 (.y 206 (.y 208 (.y 211 (.y 214 .nil))))))))))))))))))))))))))))))))))))))))))))))))))))))))))))))))))))))))))))))))))))))))))))))))
            ·try simp only [if_neg h11]
             exact cp (by kernel_rfl) (.r 11 [] [] f0 (.r 35 [] [] f1 (.n 3 h0 (.m 5 h1 (.g h0 (.f h1 (.g h0 (.n 3 h2 (.m 5 h3 (.g h2 (.f h3 (.g h2 (.n 3 h4 (.m 5 h5 (.g h4 (.f h5 (.g h4 (.g h6 (.n 8 h7 (.z 40 (.z 42 (.z 44 (.y 46 (.y 48 (.y 50 (.y 52 (.y 54 (.z 56 (.y 57 (.z 59 (.z 62 (.z 64 (.z 66 (.y 68 (.y 70 (.y 72 (.y 74 (.y 76 (.z 78 (.y 79 (.z 81 (.z 84 (.z 86 (.z 88 (.y 90 (.y 92 (.y 94 (.y 96 (.y 98 (.z 100 (.y 101 (.z 103 (.z 104 (.z 109 (.z 111 (.z 113 (.z 115 (.z 117 (.z 119 (.z 133 (.z 136 (.r 147 [] [] f44 (.n 5 h8 (.z 152 (.z 154 (.z 156 (.z 158 (.z 160 (.r 161 [] [] f50 (.n 2 h8 (.n 2 h9 (.n 5 h7 (.g h9 (.g h7 (.g h9 (.m 6 h10 (.g h11 (.z 162 (.z 165 (.z 168 (.z 170 (.z 172 (.z 174 (.z 176 (.z 178 (.z 180 (.z 182 (.z 183 (.z 185 (.y 200 (.y 202 (.y 204 (.y 206 (.y 208 (.y 211 (.z 214 .nil))))))))))))))))))))))))))))))))))))))))))))))))))))))))))))))))))))))))))))))))))))))))))))))))
           ·try simp only [if_neg h10]
            exact cp (by kernel_rfl) (.r 11 [] [] f0 (.r 35 [] [] f1 (.n 3 h0 (.m 5 h1 (.g h0 (.f h1 (.g h0 (.n 3 h2 (.m 5 h3 (.g h2 (.f h3 (.g h2 (.n 3 h4 (.m 5 h5 (.g h4 (.f h5 (.g h4 (.g h6 (.n 8 h7 (.z 40 (.z 42 (.z 44 (.y 46 (.y 48 (.y 50 (.y 52 (.y 54 (.z 56 (.y 57 (.z 59 (.z 62 (.z 64 (.z 66 (.y 68 (.y 70 (.y 72 (.y 74 (.y 76 (.z 78 (.y 79 (.z 81 (.z 84 (.z 86 (.z 88 (.y 90 (.y 92 (.y 94 (.y 96 (.y 98 (.z 100 (.y 101 (.z 103 (.z 104 (.z 109 (.z 111 (.z 113 (.z 115 (.z 117 (.z 119 (.z 133 (.z 136 (.r 147 [] [] f44 (.n 5 h8 (.z 152 (.z 154 (.z 156 (.z 158 (.z 160 (.r 161 [] [] f50 (.n 2 h8 (.n 2 h9 (.n 5 h7 (.g h9 (.g h7 (.g h9 (.n 6 h10 (.z 162 (.z 165 (.z 168 (.z 170 (.z 172 (.z 174 (.z 176 (.z 178 (.z 180 (.z 182 (.z 183 (.z 185 (.z 200 (.z 202 (.z 204 (.z 206 (.z 208 (.z 211 .nil))))))))))))))))))))))))))))))))))))))))))))))))))))))))))))))))))))))))))))))))))))))))))))))
      ·try simp only [if_neg h5]
       by_cases h6 : (m112_0 a0.f0) = true
       ·try simp only [if_pos h6]
        by_cases h7 : (a0.f1.toList == (⟨#[]⟩ : ByteArray).toList) = true
        ·try simp only [if_pos h7]
         exact cp (by kernel_rfl) (.r 11 [] [] f0 (.r 35 [] [] f1 (.n 3 h0 (.m 5 h1 (.g h0 (.f h1 (.g h0 (.n 3 h2 (.m 5 h3 (.g h2 (.f h3 (.g h2 (.n 3 h4 (.n 5 h5 (.g h4 (.g h5 (.g h4 (.m 6 h6 (.m 6 h7 (.f h6 (.f h7 (.f h6 (.z 40 (.z 42 (.z 44 (.y 46 (.y 48 (.y 50 (.y 52 (.y 54 (.z 56 (.y 57 (.z 59 (.z 62 (.z 64 (.z 66 (.y 68 (.y 70 (.y 72 (.y 74 (.y 76 (.z 78 (.y 79 (.z 81 (.z 84 (.z 86 (.z 88 (.z 90 (.z 92 (.z 94 (.z 96 (.z 98 (.z 100 (.z 101 (.z 103 (.y 109 (.y 111 (.y 113 (.y 115 (.y 117 (.y 119 (.y 121 (.y 123 (.y 125 (.y 127 (.y 129 (.y 131 (.y 133 (.y 134 (.y 136 .nil))))))))))))))))))))))))))))))))))))))))))))))))))))))))))))))))))))))
        ·try simp only [if_neg h7]
         have f46 := e114 (a0 := a0.f1) (by with_reducible assumption)
         by_cases h8 : (!(m114 a0.f1)) = true
         ·try simp only [if_pos h8]
          exact cp (by kernel_rfl) (.r 11 [] [] f0 (.r 35 [] [] f1 (.n 3 h0 (.m 5 h1 (.g h0 (.f h1 (.g h0 (.n 3 h2 (.m 5 h3 (.g h2 (.f h3 (.g h2 (.n 3 h4 (.n 5 h5 (.g h4 (.g h5 (.g h4 (.m 6 h6 (.n 5 h7 (.z 40 (.z 42 (.z 44 (.y 46 (.y 48 (.y 50 (.y 52 (.y 54 (.z 56 (.y 57 (.z 59 (.z 62 (.z 64 (.z 66 (.y 68 (.y 70 (.y 72 (.y 74 (.y 76 (.z 78 (.y 79 (.z 81 (.z 84 (.z 86 (.z 88 (.z 90 (.z 92 (.z 94 (.z 96 (.z 98 (.z 100 (.z 101 (.z 103 (.y 109 (.y 111 (.y 113 (.y 115 (.y 117 (.y 119 (.z 121 (.z 123 (.z 125 (.z 127 (.z 129 (.r 130 [] [] f46 (.g h7 (.f h6 (.g h7 (.f h6 (.f h8 (.z 131 (.y 133 (.z 134 (.y 136 (.y 137 .nil))))))))))))))))))))))))))))))))))))))))))))))))))))))))))))))))))))))))))
         ·try simp only [if_neg h8]
          have f52 := e115 (a0 := a0.f2)
          by_cases h9 : (!(m113 a0.f2 0 2147483646)) = true
          ·try simp only [if_pos h9]
           exact cp (by kernel_rfl) (.r 11 [] [] f0 (.r 35 [] [] f1 (.n 3 h0 (.m 5 h1 (.g h0 (.f h1 (.g h0 (.n 3 h2 (.m 5 h3 (.g h2 (.f h3 (.g h2 (.n 3 h4 (.n 5 h5 (.g h4 (.g h5 (.g h4 (.m 6 h6 (.n 5 h7 (.z 40 (.z 42 (.z 44 (.y 46 (.y 48 (.y 50 (.y 52 (.y 54 (.z 56 (.y 57 (.z 59 (.z 62 (.z 64 (.z 66 (.y 68 (.y 70 (.y 72 (.y 74 (.y 76 (.z 78 (.y 79 (.z 81 (.z 84 (.z 86 (.z 88 (.z 90 (.z 92 (.z 94 (.z 96 (.z 98 (.z 100 (.z 101 (.z 103 (.y 109 (.y 111 (.y 113 (.y 115 (.y 117 (.y 119 (.z 121 (.z 123 (.z 125 (.z 127 (.z 129 (.r 130 [] [] f46 (.g h7 (.f h6 (.g h7 (.f h6 (.g h8 (.z 131 (.y 133 (.z 134 (.y 136 (.z 137 (.r 147 [] [] f52 (.m 7 h9 (.y 152 (.y 154 (.y 156 (.y 158 (.y 160 (.y 162 (.y 165 .nil)))))))))))))))))))))))))))))))))))))))))))))))))))))))))))))))))))))))))))))))))))
          ·try simp only [if_neg h9]
           have f58 := e75 (a0 := a0.f3)
           by_cases h10 : (!(m113 a0.f3 0 1000000)) = true
           ·try simp only [if_pos h10]
            exact cp (by kernel_rfl) (.r 11 [] [] f0 (.r 35 [] [] f1 (.n 3 h0 (.m 5 h1 (.g h0 (.f h1 (.g h0 (.n 3 h2 (.m 5 h3 (.g h2 (.f h3 (.g h2 (.n 3 h4 (.n 5 h5 (.g h4 (.g h5 (.g h4 (.m 6 h6 (.n 5 h7 (.z 40 (.z 42 (.z 44 (.y 46 (.y 48 (.y 50 (.y 52 (.y 54 (.z 56 (.y 57 (.z 59 (.z 62 (.z 64 (.z 66 (.y 68 (.y 70 (.y 72 (.y 74 (.y 76 (.z 78 (.y 79 (.z 81 (.z 84 (.z 86 (.z 88 (.z 90 (.z 92 (.z 94 (.z 96 (.z 98 (.z 100 (.z 101 (.z 103 (.y 109 (.y 111 (.y 113 (.y 115 (.y 117 (.y 119 (.z 121 (.z 123 (.z 125 (.z 127 (.z 129 (.r 130 [] [] f46 (.g h7 (.f h6 (.g h7 (.f h6 (.g h8 (.z 131 (.y 133 (.z 134 (.y 136 (.z 137 (.r 147 [] [] f52 (.n 5 h9 (.z 152 (.z 154 (.z 156 (.z 158 (.z 160 (.r 161 [] [] f58 (.n 2 h9 (.m 4 h10 (.z 162 (.z 165 (.y 168 (.y 170 (.y 182 (.y 185 .nil))))))))))))))))))))))))))))))))))))))))))))))))))))))))))))))))))))))))))))))))))))))))))
           ·try simp only [if_neg h10]
            by_cases h11 : (decide (a0.f3 < 1)) = true
            ·try simp only [if_pos h11]
             exact cp (by kernel_rfl) (.r 11 [] [] f0 (.r 35 [] [] f1 (.n 3 h0 (.m 5 h1 (.g h0 (.f h1 (.g h0 (.n 3 h2 (.m 5 h3 (.g h2 (.f h3 (.g h2 (.n 3 h4 (.n 5 h5 (.g h4 (.g h5 (.g h4 (.m 6 h6 (.n 5 h7 (.z 40 (.z 42 (.z 44 (.y 46 (.y 48 (.y 50 (.y 52 (.y 54 (.z 56 (.y 57 (.z 59 (.z 62 (.z 64 (.z 66 (.y 68 (.y 70 (.y 72 (.y 74 (.y 76 (.z 78 (.y 79 (.z 81 (.z 84 (.z 86 (.z 88 (.z 90 (.z 92 (.z 94 (.z 96 (.z 98 (.z 100 (.z 101 (.z 103 (.y 109 (.y 111 (.y 113 (.y 115 (.y 117 (.y 119 (.z 121 (.z 123 (.z 125 (.z 127 (.z 129 (.r 130 [] [] f46 (.g h7 (.f h6 (.g h7 (.f h6 (.g h8 (.z 131 (.y 133 (.z 134 (.y 136 (.z 137 (.r 147 [] [] f52 (.n 5 h9 (.z 152 (.z 154 (.z 156 (.z 158 (.z 160 (.r 161 [] [] f58 (.n 2 h9 (.n 2 h10 (.m 5 h6 (.g h10 (.f h6 (.g h10 (.m 8 h11 (.z 162 (.z 165 (.z 168 (.z 170 (.y 172 (.y 174 (.y 176 (.y 178 (.y 180 (.z 182 (.y 183 (.z 185 (.y 188 (.y 190 (.y 192 (.y 194 (.y 196 (.y 198 (.y 210 (.y 213 .nil)))))))))))))))))))))))))))))))))))))))))))))))))))))))))))))))))))))))))))))))))))))))))))))))))))))))))))))
            ·try simp only [if_neg h11]
             by_cases h12 : (a0.f0 == 1) = true
             ·try simp only [if_pos h12]
              by_cases h13 : (decide (a0.f3 > 9999)) = true
              ·try simp only [if_pos h13]
               exact cp (by kernel_rfl) (.r 11 [] [] f0 (.r 35 [] [] f1 (.n 3 h0 (.m 5 h1 (.g h0 (.f h1 (.g h0 (.n 3 h2 (.m 5 h3 (.g h2 (.f h3 (.g h2 (.n 3 h4 (.n 5 h5 (.g h4 (.g h5 (.g h4 (.m 6 h6 (.n 5 h7 (.z 40 (.z 42 (.z 44 (.y 46 (.y 48 (.y 50 (.y 52 (.y 54 (.z 56 (.y 57 (.z 59 (.z 62 (.z 64 (.z 66 (.y 68 (.y 70 (.y 72 (.y 74 (.y 76 (.z 78 (.y 79 (.z 81 (.z 84 (.z 86 (.z 88 (.z 90 (.z 92 (.z 94 (.z 96 (.z 98 (.z 100 (.z 101 (.z 103 (.y 109 (.y 111 (.y 113 (.y 115 (.y 117 (.y 119 (.z 121 (.z 123 (.z 125 (.z 127 (.z 129 (.r 130 [] [] f46 (.g h7 (.f h6 (.g h7 (.f h6 (.g h8 (.z 131 (.y 133 (.z 134 (.y 136 (.z 137 (.r 147 [] [] f52 (.n 5 h9 (.z 152 (.z 154 (.z 156 (.z 158 (.z 160 (.r 161 [] [] f58 (.n 2 h9 (.n 2 h10 (.m 5 h6 (.g h10 (.f h6 (.g h10 (.n 6 h11 (.m 5 h12 (.g h11 (.f h12 (.g h11 (.f h13 (.z 162 (.z 165 (.z 168 (.z 170 (.y 172 (.y 174 (.y 176 (.y 178 (.y 180 (.z 182 (.y 183 (.z 185 (.z 188 (.z 190 (.z 192 (.z 194 (.z 196 (.z 198 (.y 200 (.y 202 (.y 204 (.y 206 (.y 208 (.z 210 (.y 211 (.z 213 (.y 214 .nil)))))))))))))))))))))))))))))))))))))))))))))))))))))))))))))))))))))))))))))))))))))))))))))))))))))))))))))))))))))))))
              ·try simp only [if_neg h13]
               exact cp (by kernel_rfl) (.r 11 [] [] f0 (.r 35 [] [] f1 (.n 3 h0 (.m 5 h1 (.g h0 (.f h1 (.g h0 (.n 3 h2 (.m 5 h3 (.g h2 (.f h3 (.g h2 (.n 3 h4 (.n 5 h5 (.g h4 (.g h5 (.g h4 (.m 6 h6 (.n 5 h7 (.z 40 (.z 42 (.z 44 (.y 46 (.y 48 (.y 50 (.y 52 (.y 54 (.z 56 (.y 57 (.z 59 (.z 62 (.z 64 (.z 66 (.y 68 (.y 70 (.y 72 (.y 74 (.y 76 (.z 78 (.y 79 (.z 81 (.z 84 (.z 86 (.z 88 (.z 90 (.z 92 (.z 94 (.z 96 (.z 98 (.z 100 (.z 101 (.z 103 (.y 109 (.y 111 (.y 113 (.y 115 (.y 117 (.y 119 (.z 121 (.z 123 (.z 125 (.z 127 (.z 129 (.r 130 [] [] f46 (.g h7 (.f h6 (.g h7 (.f h6 (.g h8 (.z 131 (.y 133 (.z 134 (.y 136 (.z 137 (.r 147 [] [] f52 (.n 5 h9 (.z 152 (.z 154 (.z 156 (.z 158 (.z 160 (.r 161 [] [] f58 (.n 2 h9 (.n 2 h10 (.m 5 h6 (.g h10 (.f h6 (.g h10 (.n 6 h11 (.m 5 h12 (.g h11 (.f h12 (.g h11 (.g h13 (.z 162 (.z 165 (.z 168 (.z 170 (.y 172 (.y 174 (.y 176 (.y 178 (.y 180 (.z 182 (.y 183 (.z 185 (.z 188 (.z 190 (.z 192 (.z 194 (.z 196 (.z 198 (.y 200 (.y 202 (.y 204 (.y 206 (.y 208 (.z 210 (.y 211 (.z 213 (.z 214 .nil)))))))))))))))))))))))))))))))))))))))))))))))))))))))))))))))))))))))))))))))))))))))))))))))))))))))))))))))))))))))))
             ·try simp only [if_neg h12]
              exact cp (by kernel_rfl) (.r 11 [] [] f0 (.r 35 [] [] f1 (.n 3 h0 (.m 5 h1 (.g h0 (.f h1 (.g h0 (.n 3 h2 (.m 5 h3 (.g h2 (.f h3 (.g h2 (.n 3 h4 (.n 5 h5 (.g h4 (.g h5 (.g h4 (.m 6 h6 (.n 5 h7 (.z 40 (.z 42 (.z 44 (.y 46 (.y 48 (.y 50 (.y 52 (.y 54 (.z 56 (.y 57 (.z 59 (.z 62 (.z 64 (.z 66 (.y 68 (.y 70 (.y 72 (.y 74 (.y 76 (.z 78 (.y 79 (.z 81 (.z 84 (.z 86 (.z 88 (.z 90 (.z 92 (.z 94 (.z 96 (.z 98 (.z 100 (.z 101 (.z 103 (.y 109 (.y 111 (.y 113 (.y 115 (.y 117 (.y 119 (.z 121 (.z 123 (.z 125 (.z 127 (.z 129 (.r 130 [] [] f46 (.g h7 (.f h6 (.g h7 (.f h6 (.g h8 (.z 131 (.y 133 (.z 134 (.y 136 (.z 137 (.r 147 [] [] f52 (.n 5 h9 (.z 152 (.z 154 (.z 156 (.z 158 (.z 160 (.r 161 [] [] f58 (.n 2 h9 (.n 2 h10 (.m 5 h6 (.g h10 (.f h6 (.g h10 (.n 6 h11 (.n 5 h12 (.g h11 (.g h12 (.g h11 (.z 162 (.z 165 (.z 168 (.z 170 (.y 172 (.y 174 (.y 176 (.y 178 (.y 180 (.z 182 (.y 183 (.z 185 (.z 188 (.z 190 (.z 192 (.z 194 (.z 196 (.z 198 (.z 200 (.z 202 (.z 204 (.z 206 (.z 208 (.z 210 (.z 211 (.z 213 .nil)))))))))))))))))))))))))))))))))))))))))))))))))))))))))))))))))))))))))))))))))))))))))))))))))))))))))))))))))))))))
       ·try simp only [if_neg h6]
        have f43 := e115 (a0 := a0.f2)
        by_cases h7 : (!(m113 a0.f2 0 2147483646)) = true
        ·try simp only [if_pos h7]
         exact cp (by kernel_rfl) (.r 11 [] [] f0 (.r 35 [] [] f1 (.n 3 h0 (.m 5 h1 (.g h0 (.f h1 (.g h0 (.n 3 h2 (.m 5 h3 (.g h2 (.f h3 (.g h2 (.n 3 h4 (.n 5 h5 (.g h4 (.g h5 (.g h4 (.n 8 h6 (.z 40 (.z 42 (.z 44 (.y 46 (.y 48 (.y 50 (.y 52 (.y 54 (.z 56 (.y 57 (.z 59 (.z 62 (.z 64 (.z 66 (.y 68 (.y 70 (.y 72 (.y 74 (.y 76 (.z 78 (.y 79 (.z 81 (.z 84 (.z 86 (.z 88 (.z 90 (.z 92 (.z 94 (.z 96 (.z 98 (.z 100 (.z 101 (.z 103 (.z 109 (.z 111 (.z 113 (.z 115 (.z 117 (.z 119 (.z 133 (.z 136 (.r 147 [] [] f43 (.m 7 h7 (.y 152 (.y 154 (.y 156 (.y 158 (.y 160 (.y 162 (.y 165 .nil))))))))))))))))))))))))))))))))))))))))))))))))))))))))))))))))))))
        ·try simp only [if_neg h7]
         have f49 := e75 (a0 := a0.f3)
         by_cases h8 : (!(m113 a0.f3 0 1000000)) = true
         ·try simp only [if_pos h8]
          exact cp (by kernel_rfl) (.r 11 [] [] f0 (.r 35 [] [] f1 (.n 3 h0 (.m 5 h1 (.g h0 (.f h1 (.g h0 (.n 3 h2 (.m 5 h3 (.g h2 (.f h3 (.g h2 (.n 3 h4 (.n 5 h5 (.g h4 (.g h5 (.g h4 (.n 8 h6 (.z 40 (.z 42 (.z 44 (.y 46 (.y 48 (.y 50 (.y 52 (.y 54 (.z 56 (.y 57 (.z 59 (.z 62 (.z 64 (.z 66 (.y 68 (.y 70 (.y 72 (.y 74 (.y 76 (.z 78 (.y 79 (.z 81 (.z 84 (.z 86 (.z 88 (.z 90 (.z 92 (.z 94 (.z 96 (.z 98 (.z 100 (.z 101 (.z 103 (.z 109 (.z 111 (.z 113 (.z 115 (.z 117 (.z 119 (.z 133 (.z 136 (.r 147 [] [] f43 (.n 5 h7 (.z 152 (.z 154 (.z 156 (.z 158 (.z 160 (.r 161 [] [] f49 (.n 2 h7 (.m 4 h8 (.z 162 (.z 165 (.y 168 (.y 170 (.y 182 (.y 185 .nil)))))))))))))))))))))))))))))))))))))))))))))))))))))))))))))))))))))))))))
         ·try simp only [if_neg h8]
          by_cases h9 : (a0.f0 == 1) = true
          ·try simp only [if_pos h9]
           by_cases h10 : (decide (a0.f3 > 9999)) = true
           ·try simp only [if_pos h10]
            exact cp (by kernel_rfl) (.r 11 [] [] f0 (.r 35 [] [] f1 (.n 3 h0 (.m 5 h1 (.g h0 (.f h1 (.g h0 (.n 3 h2 (.m 5 h3 (.g h2 (.f h3 (.g h2 (.n 3 h4 (.n 5 h5 (.g h4 (.g h5 (.g h4 (.n 8 h6 (.z 40 (.z 42 (.z 44 (.y 46 (.y 48 (.y 50 (.y 52 (.y 54 (.z 56 (.y 57 (.z 59 (.z 62 (.z 64 (.z 66 (.y 68 (.y 70 (.y 72 (.y 74 (.y 76 (.z 78 (.y 79 (.z 81 (.z 84 (.z 86 (.z 88 (.z 90 (.z 92 (.z 94 (.z 96 (.z 98 (.z 100 (.z 101 (.z 103 (.z 109 (.z 111 (.z 113 (.z 115 (.z 117 (.z 119 (.z 133 (.z 136 (.r 147 [] [] f43 (.n 5 h7 (.z 152 (.z 154 (.z 156 (.z 158 (.z 160 (.r 161 [] [] f49 (.n 2 h7 (.n 2 h8 (.n 5 h6 (.g h8 (.g h6 (.g h8 (.m 6 h9 (.f h10 (.z 162 (.z 165 (.z 168 (.z 170 (.z 172 (.z 174 (.z 176 (.z 178 (.z 180 (.z 182 (.z 183 (.z 185 (.y 200 (.y 202 (.y 204 (.y 206 (.y 208 (.y 211 (.y 214 .nil))))))))))))))))))))))))))))))))))))))))))))))))))))))))))))))))))))))))))))))))))))))))))))))
           ·try simp only [if_neg h10]
            exact cp (by kernel_rfl) (.r 11 [] [] f0 (.r 35 [] [] f1 (.n 3 h0 (.m 5 h1 (.g h0 (.f h1 (.g h0 (.n 3 h2 (.m 5 h3 (.g h2 (.f h3 (.g h2 (.n 3 h4 (.n 5 h5 (.g h4 (.g h5 (.g h4 (.n 8 h6 (.z 40 (.z 42 (.z 44 (.y 46 (.y 48 (.y 50 (.y 52 (.y 54 (.z 56 (.y 57 (.z 59 (.z 62 (.z 64 (.z 66 (.y 68 (.y 70 (.y 72 (.y 74 (.y 76 (.z 78 (.y 79 (.z 81 (.z 84 (.z 86 (.z 88 (.z 90 (.z 92 (.z 94 (.z 96 (.z 98 (.z 100 (.z 101 (.z 103 (.z 109 (.z 111 (.z 113 (.z 115 (.z 117 (.z 119 (.z 133 (.z 136 (.r 147 [] [] f43 (.n 5 h7 (.z 152 (.z 154 (.z 156 (.z 158 (.z 160 (.r 161 [] [] f49 (.n 2 h7 (.n 2 h8 (.n 5 h6 (.g h8 (.g h6 (.g h8 (.m 6 h9 (.g h10 (.z 162 (.z 165 (.z 168 (.z 170 (.z 172 (.z 174 (.z 176 (.z 178 (.z 180 (.z 182 (.z 183 (.z 185 (.y 200 (.y 202 (.y 204 (.y 206 (.y 208 (.y 211 (.z 214 .nil))))))))))))))))))))))))))))))))))))))))))))))))))))))))))))))))))))))))))))))))))))))))))))))
          ·try simp only [if_neg h9]
           exact cp (by kernel_rfl) (.r 11 [] [] f0 (.r 35 [] [] f1 (.n 3 h0 (.m 5 h1 (.g h0 (.f h1 (.g h0 (.n 3 h2 (.m 5 h3 (.g h2 (.f h3 (.g h2 (.n 3 h4 (.n 5 h5 (.g h4 (.g h5 (.g h4 (.n 8 h6 (.z 40 (.z 42 (.z 44 (.y 46 (.y 48 (.y 50 (.y 52 (.y 54 (.z 56 (.y 57 (.z 59 (.z 62 (.z 64 (.z 66 (.y 68 (.y 70 (.y 72 (.y 74 (.y 76 (.z 78 (.y 79 (.z 81 (.z 84 (.z 86 (.z 88 (.z 90 (.z 92 (.z 94 (.z 96 (.z 98 (.z 100 (.z 101 (.z 103 (.z 109 (.z 111 (.z 113 (.z 115 (.z 117 (.z 119 (.z 133 (.z 136 (.r 147 [] [] f43 (.n 5 h7 (.z 152 (.z 154 (.z 156 (.z 158 (.z 160 (.r 161 [] [] f49 (.n 2 h7 (.n 2 h8 (.n 5 h6 (.g h8 (.g h6 (.g h8 (.n 6 h9 (.z 162 (.z 165 (.z 168 (.z 170 (.z 172 (.z 174 (.z 176 (.z 178 (.z 180 (.z 182 (.z 183 (.z 185 (.z 200 (.z 202 (.z 204 (.z 206 (.z 208 (.z 211 .nil))))))))))))))))))))))))))))))))))))))))))))))))))))))))))))))))))))))))))))))))))))))))))))
    ·try simp only [if_neg h3]
     by_cases h4 : (!(m112_2 a0.f0)) = true
     ·try simp only [if_pos h4]
      by_cases h5 : (a0.f3 != 0) = true
      ·try simp only [if_pos h5]
       exact cp (by kernel_rfl) (.r 11 [] [] f0 (.r 35 [] [] f1 (.n 3 h0 (.m 5 h1 (.g h0 (.f h1 (.g h0 (.n 3 h2 (.n 5 h3 (.g h2 (.g h3 (.g h2 (.m 6 h4 (.f h5 (.z 40 (.z 42 (.z 44 (.y 46 (.y 48 (.y 50 (.y 52 (.y 54 (.z 56 (.y 57 (.z 59 (.z 62 (.z 64 (.z 66 (.z 68 (.z 70 (.z 72 (.z 74 (.z 76 (.z 78 (.z 79 (.z 81 (.y 90 (.y 92 (.y 94 (.y 96 (.y 98 (.y 101 (.y 104 .nil)))))))))))))))))))))))))))))))))))))))))))
      ·try simp only [if_neg h5]
       by_cases h6 : (m112_0 a0.f0) = true
       ·try simp only [if_pos h6]
        by_cases h7 : (a0.f1.toList == (⟨#[]⟩ : ByteArray).toList) = true
        ·try simp only [if_pos h7]
         exact cp (by kernel_rfl) (.r 11 [] [] f0 (.r 35 [] [] f1 (.n 3 h0 (.m 5 h1 (.g h0 (.f h1 (.g h0 (.n 3 h2 (.n 5 h3 (.g h2 (.g h3 (.g h2 (.m 6 h4 (.g h5 (.m 6 h6 (.m 6 h7 (.f h6 (.f h7 (.f h6 (.z 40 (.z 42 (.z 44 (.y 46 (.y 48 (.y 50 (.y 52 (.y 54 (.z 56 (.y 57 (.z 59 (.z 62 (.z 64 (.z 66 (.z 68 (.z 70 (.z 72 (.z 74 (.z 76 (.z 78 (.z 79 (.z 81 (.y 90 (.y 92 (.y 94 (.y 96 (.y 98 (.y 101 (.z 104 (.y 109 (.y 111 (.y 113 (.y 115 (.y 117 (.y 119 (.y 121 (.y 123 (.y 125 (.y 127 (.y 129 (.y 131 (.y 133 (.y 134 (.y 136 .nil)))))))))))))))))))))))))))))))))))))))))))))))))))))))))))))))
        ·try simp only [if_neg h7]
         have f42 := e114 (a0 := a0.f1) (by with_reducible assumption)
         by_cases h8 : (!(m114 a0.f1)) = true
         ·try simp only [if_pos h8]
          exact cp (by kernel_rfl) (.r 11 [] [] f0 (.r 35 [] [] f1 (.n 3 h0 (.m 5 h1 (.g h0 (.f h1 (.g h0 (.n 3 h2 (.n 5 h3 (.g h2 (.g h3 (.g h2 (.m 6 h4 (.g h5 (.m 6 h6 (.n 5 h7 (.z 40 (.z 42 (.z 44 (.y 46 (.y 48 (.y 50 (.y 52 (.y 54 (.z 56 (.y 57 (.z 59 (.z 62 (.z 64 (.z 66 (.z 68 (.z 70 (.z 72 (.z 74 (.z 76 (.z 78 (.z 79 (.z 81 (.y 90 (.y 92 (.y 94 (.y 96 (.y 98 (.y 101 (.z 104 (.y 109 (.y 111 (.y 113 (.y 115 (.y 117 (.y 119 (.z 121 (.z 123 (.z 125 (.z 127 (.z 129 (.r 130 [] [] f42 (.g h7 (.f h6 (.g h7 (.f h6 (.f h8 (.z 131 (.y 133 (.z 134 (.y 136 (.y 137 .nil)))))))))))))))))))))))))))))))))))))))))))))))))))))))))))))))))))
         ·try simp only [if_neg h8]
          have f48 := e115 (a0 := a0.f2)
          by_cases h9 : (!(m113 a0.f2 0 2147483646)) = true
          ·try simp only [if_pos h9]
           exact cp (by kernel_rfl) (.r 11 [] [] f0 (.r 35 [] [] f1 (.n 3 h0 (.m 5 h1 (.g h0 (.f h1 (.g h0 (.n 3 h2 (.n 5 h3 (.g h2 (.g h3 (.g h2 (.m 6 h4 (.g h5 (.m 6 h6 (.n 5 h7 (.z 40 (.z 42 (.z 44 (.y 46 (.y 48 (.y 50 (.y 52 (.y 54 (.z 56 (.y 57 (.z 59 (.z 62 (.z 64 (.z 66 (.z 68 (.z 70 (.z 72 (.z 74 (.z 76 (.z 78 (.z 79 (.z 81 (.y 90 (.y 92 (.y 94 (.y 96 (.y 98 (.y 101 (.z 104 (.y 109 (.y 111 (.y 113 (.y 115 (.y 117 (.y 119 (.z 121 (.z 123 (.z 125 (.z 127 (.z 129 (.r 130 [] [] f42 (.g h7 (.f h6 (.g h7 (.f h6 (.g h8 (.z 131 (.y 133 (.z 134 (.y 136 (.z 137 (.r 147 [] [] f48 (.m 7 h9 (.y 152 (.y 154 (.y 156 (.y 158 (.y 160 (.y 162 (.y 165 .nil))))))))))))))))))))))))))))))))))))))))))))))))))))))))))))))))))))))))))))
          ·try simp only [if_neg h9]
           have f54 := e75 (a0 := a0.f3)
           by_cases h10 : (!(m113 a0.f3 0 1000000)) = true
           ·try simp only [if_pos h10]
            exact cp (by kernel_rfl) (.r 11 [] [] f0 (.r 35 [] [] f1 (.n 3 h0 (.m 5 h1 (.g h0 (.f h1 (.g h0 (.n 3 h2 (.n 5 h3 (.g h2 (.g h3 (.g h2 (.m 6 h4 (.g h5 (.m 6 h6 (.n 5 h7 (.z 40 (.z 42 (.z 44 (.y 46 (.y 48 (.y 50 (.y 52 (.y 54 (.z 56 (.y 57 (.z 59 (.z 62 (.z 64 (.z 66 (.z 68 (.z 70 (.z 72 (.z 74 (.z 76 (.z 78 (.z 79 (.z 81 (.y 90 (.y 92 (.y 94 (.y 96 (.y 98 (.y 101 (.z 104 (.y 109 (.y 111 (.y 113 (.y 115 (.y 117 (.y 119 (.z 121 (.z 123 (.z 125 (.z 127 (.z 129 (.r 130 [] [] f42 (.g h7 (.f h6 (.g h7 (.f h6 (.g h8 (.z 131 (.y 133 (.z 134 (.y 136 (.z 137 (.r 147 [] [] f48 (.n 5 h9 (.z 152 (.z 154 (.z 156 (.z 158 (.z 160 (.r 161 [] [] f54 (.n 2 h9 (.m 4 h10 (.z 162 (.z 165 (.y 168 (.y 170 (.y 182 (.y 185 .nil)))))))))))))))))))))))))))))))))))))))))))))))))))))))))))))))))))))))))))))))))))
           ·try simp only [if_neg h10]
            by_cases h11 : (decide (a0.f3 < 1)) = true
            ·try simp only [if_pos h11]
             exact cp (by kernel_rfl) (.r 11 [] [] f0 (.r 35 [] [] f1 (.n 3 h0 (.m 5 h1 (.g h0 (.f h1 (.g h0 (.n 3 h2 (.n 5 h3 (.g h2 (.g h3 (.g h2 (.m 6 h4 (.g h5 (.m 6 h6 (.n 5 h7 (.z 40 (.z 42 (.z 44 (.y 46 (.y 48 (.y 50 (.y 52 (.y 54 (.z 56 (.y 57 (.z 59 (.z 62 (.z 64 (.z 66 (.z 68 (.z 70 (.z 72 (.z 74 (.z 76 (.z 78 (.z 79 (.z 81 (.y 90 (.y 92 (.y 94 (.y 96 (.y 98 (.y 101 (.z 104 (.y 109 (.y 111 (.y 113 (.y 115 (.y 117 (.y 119 (.z 121 (.z 123 (.z 125 (.z 127 (.z 129 (.r 130 [] [] f42 (.g h7 (.f h6 (.g h7 (.f h6 (.g h8 (.z 131 (.y 133 (.z 134 (.y 136 (.z 137 (.r 147 [] [] f48 (.n 5 h9 (.z 152 (.z 154 (.z 156 (.z 158 (.z 160 (.r 161 [] [] f54 (.n 2 h9 (.n 2 h10 (.m 5 h6 (.g h10 (.f h6 (.g h10 (.m 8 h11 (.z 162 (.z 165 (.z 168 (.z 170 (.y 172 (.y 174 (.y 176 (.y 178 (.y 180 (.z 182 (.y 183 (.z 185 (.y 188 (.y 190 (.y 192 (.y 194 (.y 196 (.y 198 (.y 210 (.y 213 .nil))))))))))))))))))))))))))))))))))))))))))))))))))))))))))))))))))))))))))))))))))))))))))))))))))))))
            ·try simp only [if_neg h11]
             by_cases h12 : (a0.f0 == 1) = true
             ·try simp only [if_pos h12]
              by_cases h13 : (decide (a0.f3 > 9999)) = true
              ·try simp only [if_pos h13]
               exact cp (by kernel_rfl) (.r 11 [] [] f0 (.r 35 [] [] f1 (.n 3 h0 (.m 5 h1 (.g h0 (.f h1 (.g h0 (.n 3 h2 (.n 5 h3 (.g h2 (.g h3 (.g h2 (.m 6 h4 (.g h5 (.m 6 h6 (.n 5 h7 (.z 40 (.z 42 (.z 44 (.y 46 (.y 48 (.y 50 (.y 52 (.y 54 (.z 56 (.y 57 (.z 59 (.z 62 (.z 64 (.z 66 (.z 68 (.z 70 (.z 72 (.z 74 (.z 76 (.z 78 (.z 79 (.z 81 (.y 90 (.y 92 (.y 94 (.y 96 (.y 98 (.y 101 (.z 104 (.y 109 (.y 111 (.y 113 (.y 115 (.y 117 (.y 119 (.z 121 (.z 123 (.z 125 (.z 127 (.z 129 (.r 130 [] [] f42 (.g h7 (.f h6 (.g h7 (.f h6 (.g h8 (.z 131 (.y 133 (.z 134 (.y 136 (.z 137 (.r 147 [] [] f48 (.n 5 h9 (.z 152 (.z 154 (.z 156 (.z 158 (.z 160 (.r 161 [] [] f54 (.n 2 h9 (.n 2 h10 (.m 5 h6 (.g h10 (.f h6 (.g h10 (.n 6 h11 (.m 5 h12 (.g h11 (.f h12 (.g h11 (.f h13 (.z 162 (.z 165 (.z 168 (.z 170 (.y 172 (.y 174 (.y 176 (.y 178 (.y 180 (.z 182 (.y 183 (.z 185 (.z 188 (.z 190 (.z 192 (.z 194 (.z 196 (.z 198 (.y 200 (.y 202 (.y 204 (.y 206 (.y 208 (.z 210 (.y 211 (.z 213 (.y 214 .nil))))))))))))))))))))))))))))))))))))))))))))))))))))))))))))))))))))))))))))))))))))))))))))))))))))))))))))))))))
              ·try simp only [if_neg h13]
               exact cp (by kernel_rfl) (.r 11 [] [] f0 (.r 35 [] [] f1 (.n 3 h0 (.m 5 h1 (.g h0 (.f h1 (.g h0 (.n 3 h2 (.n 5 h3 (.g h2 (.g h3 (.g h2 (.m 6 h4 (.g h5 (.m 6 h6 (.n 5 h7 (.z 40 (.z 42 (.z 44 (.y 46 (.y 48 (.y 50 (.y 52 (.y 54 (.z 56 (.y 57 (.z 59 (.z 62 (.z 64 (.z 66 (.z 68 (.z 70 (.z 72 (.z 74 (.z 76 (.z 78 (.z 79 (.z 81 (.y 90 (.y 92 (.y 94 (.y 96 (.y 98 (.y 101 (.z 104 (.y 109 (.y 111 (.y 113 (.y 115 (.y 117 (.y 119 (.z 121 (.z 123 (.z 125 (.z 127 (.z 129 (.r 130 [] [] f42 (.g h7 (.f h6 (.g h7 (.f h6 (.g h8 (.z 131 (.y 133 (.z 134 (.y 136 (.z 137 (.r 147 [] [] f48 (.n 5 h9 (.z 152 (.z 154 (.z 156 (.z 158 (.z 160 (.r 161 [] [] f54 (.n 2 h9 (.n 2 h10 (.m 5 h6 (.g h10 (.f h6 (.g h10 (.n 6 h11 (.m 5 h12 (.g h11 (.f h12 (.g h11 (.g h13 (.z 162 (.z 165 (.z 168 (.z 170 (.y 172 (.y 174 (.y 176 (.y 178 (.y 180 (.z 182 (.y 183 (.z 185 (.z 188 (.z 190 (.z 192 (.z 194 (.z 196 (.z 198 (.y 200 (.y 202 (.y 204 (.y 206 (.y 208 (.z 210 (.y 211 (.z 213 (.z 214 .nil))))))))))))))))))))))))))))))))))))))))))))))))))))))))))))))))))))))))))))))))))))))))))))))))))))))))))))))))))
             ·try simp only [if_neg h12]
              exact cp (by kernel_rfl) (.r 11 [] [] f0 (.r 35 [] [] f1 (.n 3 h0 (.m 5 h1 (.g h0 (.f h1 (.g h0 (.n 3 h2 (.n 5 h3 (.g h2 (.g h3 (.g h2 (.m 6 h4 (.g h5 (.m 6 h6 (.n 5 h7 (.z 40 (.z 42 (.z 44 (.y 46 (.y 48 (.y 50 (.y 52 (.y 54 (.z 56 (.y 57 (.z 59 (.z 62 (.z 64 (.z 66 (.z 68 (.z 70 (.z 72 (.z 74 (.z 76 (.z 78 (.z 79 (.z 81 (.y 90 (.y 92 (.y 94 (.y 96 (.y 98 (.y 101 (.z 104 (.y 109 (.y 111 (.y 113 (.y 115 (.y 117 (.y 119 (.z 121 (.z 123 (.z 125 (.z 127 (.z 129 (.r 130 [] [] f42 (.g h7 (.f h6 (.g h7 (.f h6 (.g h8 (.z 131 (.y 133 (.z 134 (.y 136 (.z 137 (.r 147 [] [] f48 (.n 5 h9 (.z 152 (.z 154 (.z 156 (.z 158 (.z 160 (.r 161 [] [] f54 (.n 2 h9 (.n 2 h10 (.m 5 h6 (.g h10 (.f h6 (.g h10 (.n 6 h11 (.n 5 h12 (.g h11 (.g h12 (.g h11 (.z 162 (.z 165 (.z 168 (.z 170 (.y 172 (.y 174 (.y 176 (.y 178 (.y 180 (.z 182 (.y 183 (.z 185 (.z 188 (.z 190 (.z 192 (.z 194 (.z 196 (.z 198 (.z 200 (.z 202 (.z 204 (.z 206 (.z 208 (.z 210 (.z 211 (.z 213 .nil))))))))))))))))))))))))))))))))))))))))))))))))))))))))))))))))))))))))))))))))))))))))))))))))))))))))))))))))
       ·try simp only [if_neg h6]
        have f39 := e115 (a0 := a0.f2)
        by_cases h7 : (!(m113 a0.f2 0 2147483646)) = true
        ·try simp only [if_pos h7]
         exact cp (by kernel_rfl) (.r 11 [] [] f0 (.r 35 [] [] f1 (.n 3 h0 (.m 5 h1 (.g h0 (.f h1 (.g h0 (.n 3 h2 (.n 5 h3 (.g h2 (.g h3 (.g h2 (.m 6 h4 (.g h5 (.n 8 h6 (.z 40 (.z 42 (.z 44 (.y 46 (.y 48 (.y 50 (.y 52 (.y 54 (.z 56 (.y 57 (.z 59 (.z 62 (.z 64 (.z 66 (.z 68 (.z 70 (.z 72 (.z 74 (.z 76 (.z 78 (.z 79 (.z 81 (.y 90 (.y 92 (.y 94 (.y 96 (.y 98 (.y 101 (.z 104 (.z 109 (.z 111 (.z 113 (.z 115 (.z 117 (.z 119 (.z 133 (.z 136 (.r 147 [] [] f39 (.m 7 h7 (.y 152 (.y 154 (.y 156 (.y 158 (.y 160 (.y 162 (.y 165 .nil)))))))))))))))))))))))))))))))))))))))))))))))))))))))))))))
        ·try simp only [if_neg h7]
         have f45 := e75 (a0 := a0.f3)
         by_cases h8 : (!(m113 a0.f3 0 1000000)) = true
         ·try simp only [if_pos h8]
          exact cp (by kernel_rfl) (.r 11 [] [] f0 (.r 35 [] [] f1 (.n 3 h0 (.m 5 h1 (.g h0 (.f h1 (.g h0 (.n 3 h2 (.n 5 h3 (.g h2 (.g h3 (.g h2 (.m 6 h4 (.g h5 (.n 8 h6 (.z 40 (.z 42 (.z 44 (.y 46 (.y 48 (.y 50 (.y 52 (.y 54 (.z 56 (.y 57 (.z 59 (.z 62 (.z 64 (.z 66 (.z 68 (.z 70 (.z 72 (.z 74 (.z 76 (.z 78 (.z 79 (.z 81 (.y 90 (.y 92 (.y 94 (.y 96 (.y 98 (.y 101 (.z 104 (.z 109 (.z 111 (.z 113 (.z 115 (.z 117 (.z 119 (.z 133 (.z 136 (.r 147 [] [] f39 (.n 5 h7 (.z 152 (.z 154 (.z 156 (.z 158 (.z 160 (.r 161 [] [] f45 (.n 2 h7 (.m 4 h8 (.z 162 (.z 165 (.y 168 (.y 170 (.y 182 (.y 185 .nil))))))))))))))))))))))))))))))))))))))))))))))))))))))))))))))))))))
         ·try simp only [if_neg h8]
          by_cases h9 : (a0.f0 == 1) = true
          ·try simp only [if_pos h9]
           by_cases h10 : (decide (a0.f3 > 9999)) = true
           ·try simp only [if_pos h10]
            exact cp (by kernel_rfl) (.r 11 [] [] f0 (.r 35 [] [] f1 (.n 3 h0 (.m 5 h1 (.g h0 (.f h1 (.g h0 (.n 3 h2 (.n 5 h3 (.g h2 (.g h3 (.g h2 (.m 6 h4 (.g h5 (.n 8 h6 (.z 40 (.z 42 (.z 44 (.y 46 (.y 48 (.y 50 (.y 52 (.y 54 (.z 56 (.y 57 (.z 59 (.z 62 (.z 64 (.z 66 (.z 68 (.z 70 (.z 72 (.z 74 (.z 76 (.z 78 (.z 79 (.z 81 (.y 90 (.y 92 (.y 94 (.y 96 (.y 98 (.y 101 (.z 104 (.z 109 (.z 111 (.z 113 (.z 115 (.z 117 (.z 119 (.z 133 (.z 136 (.r 147 [] [] f39 (.n 5 h7 (.z 152 (.z 154 (.z 156 (.z 158 (.z 160 (.r 161 [] [] f45 (.n 2 h7 (.n 2 h8 (.n 5 h6 (.g h8 (.g h6 (.g h8 (.m 6 h9 (.f h10 (.z 162 (.z 165 (.z 168 (.z 170 (.z 172 (.z 174 (.z 176 (.z 178 (.z 180 (.z 182 (.z 183 (.z 185 (.y 200 (.y 202 (.y 204 (.y 206 (.y 208 (.y 211 (.y 214 .nil)))))))))))))))))))))))))))))))))))))))))))))))))))))))))))))))))))))))))))))))))))))))
           ·try simp only [if_neg h10]
            exact cp (by kernel_rfl) (.r 11 [] [] f0 (.r 35 [] [] f1 (.n 3 h0 (.m 5 h1 (.g h0 (.f h1 (.g h0 (.n 3 h2 (.n 5 h3 (.g h2 (.g h3 (.g h2 (.m 6 h4 (.g h5 (.n 8 h6 (.z 40 (.z 42 (.z 44 (.y 46 (.y 48 (.y 50 (.y 52 (.y 54 (.z 56 (.y 57 (.z 59 (.z 62 (.z 64 (.z 66 (.z 68 (.z 70 (.z 72 (.z 74 (.z 76 (.z 78 (.z 79 (.z 81 (.y 90 (.y 92 (.y 94 (.y 96 (.y 98 (.y 101 (.z 104 (.z 109 (.z 111 (.z 113 (.z 115 (.z 117 (.z 119 (.z 133 (.z 136 (.r 147 [] [] f39 (.n 5 h7 (.z 152 (.z 154 (.z 156 (.z 158 (.z 160 (.r 161 [] [] f45 (.n 2 h7 (.n 2 h8 (.n 5 h6 (.g h8 (.g h6 (.g h8 (.m 6 h9 (.g h10 (.z 162 (.z 165 (.z 168 (.z 170 (.z 172 (.z 174 (.z 176 (.z 178 (.z 180 (.z 182 (.z 183 (.z 185 (.y 200 (.y 202 (.y 204 (.y 206 (.y 208 (.y 211 (.z 214 .nil)))))))))))))))))))))))))))))))))))))))))))))))))))))))))))))))))))))))))))))))))))))))
          ·try simp only [if_neg h9]
           exact cp (by kernel_rfl) (.r 11 [] [] f0 (.r 35 [] [] f1 (.n 3 h0 (.m 5 h1 (.g h0 (.f h1 (.g h0 (.n 3 h2 (.n 5 h3 (.g h2 (.g h3 (.g h2 (.m 6 h4 (.g h5 (.n 8 h6 (.z 40 (.z 42 (.z 44 (.y 46 (.y 48 (.y 50 (.y 52 (.y 54 (.z 56 (.y 57 (.z 59 (.z 62 (.z 64 (.z 66 (.z 68 (.z 70 (.z 72 (.z 74 (.z 76 (.z 78 (.z 79 (.z 81 (.y 90 (.y 92 (.y 94 (.y 96 (.y 98 (.y 101 (.z 104 (.z 109 (.z 111 (.z 113 (.z 115 (.z 117 (.z 119 (.z 133 (.z 136 (.r 147 [] [] f39 (.n 5 h7 (.z 152 (.z 154 (.z 156 (.z 158 (.z 160 (.r 161 [] [] f45 (.n 2 h7 (.n 2 h8 (.n 5 h6 (.g h8 (.g h6 (.g h8 (.n 6 h9 (.z 162 (.z 165 (.z 168 (.z 170 (.z 172 (.z 174 (.z 176 (.z 178 (.z 180 (.z 182 (.z 183 (.z 185 (.z 200 (.z 202 (.z 204 (.z 206 (.z 208 (.z 211 .nil)))))))))))))))))))))))))))))))))))))))))))))))))))))))))))))))))))))))))))))))))))))
     ·try simp only [if_neg h4]
      by_cases h5 : (m112_0 a0.f0) = true
      ·try simp only [if_pos h5]
       by_cases h6 : (a0.f1.toList == (⟨#[]⟩ : ByteArray).toList) = true
       ·try simp only [if_pos h6]
        exact cp (by kernel_rfl) (.r 11 [] [] f0 (.r 35 [] [] f1 (.n 3 h0 (.m 5 h1 (.g h0 (.f h1 (.g h0 (.n 3 h2 (.n 5 h3 (.g h2 (.g h3 (.g h2 (.n 6 h4 (.m 6 h5 (.m 6 h6 (.f h5 (.f h6 (.f h5 (.z 40 (.z 42 (.z 44 (.y 46 (.y 48 (.y 50 (.y 52 (.y 54 (.z 56 (.y 57 (.z 59 (.z 62 (.z 64 (.z 66 (.z 68 (.z 70 (.z 72 (.z 74 (.z 76 (.z 78 (.z 79 (.z 81 (.z 90 (.z 92 (.z 94 (.z 96 (.z 98 (.z 101 (.y 109 (.y 111 (.y 113 (.y 115 (.y 117 (.y 119 (.y 121 (.y 123 (.y 125 (.y 127 (.y 129 (.y 131 (.y 133 (.y 134 (.y 136 .nil)))))))))))))))))))))))))))))))))))))))))))))))))))))))))))))
       ·try simp only [if_neg h6]
        have f41 := e114 (a0 := a0.f1) (by with_reducible assumption)
        by_cases h7 : (!(m114 a0.f1)) = true
        ·try simp only [if_pos h7]
         exact cp (by kernel_rfl) (.r 11 [] [] f0 (.r 35 [] [] f1 (.n 3 h0 (.m 5 h1 (.g h0 (.f h1 (.g h0 (.n 3 h2 (.n 5 h3 (.g h2 (.g h3 (.g h2 (.n 6 h4 (.m 6 h5 (.n 5 h6 (.z 40 (.z 42 (.z 44 (.y 46 (.y 48 (.y 50 (.y 52 (.y 54 (.z 56 (.y 57 (.z 59 (.z 62 (.z 64 (.z 66 (.z 68 (.z 70 (.z 72 (.z 74 (.z 76 (.z 78 (.z 79 (.z 81 (.z 90 (.z 92 (.z 94 (.z 96 (.z 98 (.z 101 (.y 109 (.y 111 (.y 113 (.y 115 (.y 117 (.y 119 (.z 121 (.z 123 (.z 125 (.z 127 (.z 129 (.r 130 [] [] f41 (.g h6 (.f h5 (.g h6 (.f h5 (.f h7 (.z 131 (.y 133 (.z 134 (.y 136 (.y 137 .nil)))))))))))))))))))))))))))))))))))))))))))))))))))))))))))))))))
        ·try simp only [if_neg h7]
         have f47 := e115 (a0 := a0.f2)
         by_cases h8 : (!(m113 a0.f2 0 2147483646)) = true
         ·try simp only [if_pos h8]
          exact cp (by kernel_rfl) (.r 11 [] [] f0 (.r 35 [] [] f1 (.n 3 h0 (.m 5 h1 (.g h0 (.f h1 (.g h0 (.n 3 h2 (.n 5 h3 (.g h2 (.g h3 (.g h2 (.n 6 h4 (.m 6 h5 (.n 5 h6 (.z 40 (.z 42 (.z 44 (.y 46 (.y 48 (.y 50 (.y 52 (.y 54 (.z 56 (.y 57 (.z 59 (.z 62 (.z 64 (.z 66 (.z 68 (.z 70 (.z 72 (.z 74 (.z 76 (.z 78 (.z 79 (.z 81 (.z 90 (.z 92 (.z 94 (.z 96 (.z 98 (.z 101 (.y 109 (.y 111 (.y 113 (.y 115 (.y 117 (.y 119 (.z 121 (.z 123 (.z 125 (.z 127 (.z 129 (.r 130 [] [] f41 (.g h6 (.f h5 (.g h6 (.f h5 (.g h7 (.z 131 (.y 133 (.z 134 (.y 136 (.z 137 (.r 147 [] [] f47 (.m 7 h8 (.y 152 (.y 154 (.y 156 (.y 158 (.y 160 (.y 162 (.y 165 .nil))))))))))))))))))))))))))))))))))))))))))))))))))))))))))))))))))))))))))
         ·try simp only [if_neg h8]
          have f53 := e75 (a0 := a0.f3)
          by_cases h9 : (!(m113 a0.f3 0 1000000)) = true
          ·try simp only [if_pos h9]
           exact cp (by kernel_rfl) (.r 11 [] [] f0 (.r 35 [] [] f1 (.n 3 h0 (.m 5 h1 (.g h0 (.f h1 (.g h0 (.n 3 h2 (.n 5 h3 (.g h2 (.g h3 (.g h2 (.n 6 h4 (.m 6 h5 (.n 5 h6 (.z 40 (.z 42 (.z 44 (.y 46 (.y 48 (.y 50 (.y 52 (.y 54 (.z 56 (.y 57 (.z 59 (.z 62 (.z 64 (.z 66 (.z 68 (.z 70 (.z 72 (.z 74 (.z 76 (.z 78 (.z 79 (.z 81 (.z 90 (.z 92 (.z 94 (.z 96 (.z 98 (.z 101 (.y 109 (.y 111 (.y 113 (.y 115 (.y 117 (.y 119 (.z 121 (.z 123 (.z 125 (.z 127 (.z 129 (.r 130 [] [] f41 (.g h6 (.f h5 (.g h6 (.f h5 (.g h7 (.z 131 (.y 133 (.z 134 (.y 136 (.z 137 (.r 147 [] [] f47 (.n 5 h8 (.z 152 (.z 154 (.z 156 (.z 158 (.z 160 (.r 161 [] [] f53 (.n 2 h8 (.m 4 h9 (.z 162 (.z 165 (.y 168 (.y 170 (.y 182 (.y 185 .nil)))))))))))))))))))))))))))))))))))))))))))))))))))))))))))))))))))))))))))))))))
          ·try simp only [if_neg h9]
           by_cases h10 : (decide (a0.f3 < 1)) = true
           ·try simp only [if_pos h10]
            exact cp (by kernel_rfl) (.r 11 [] [] f0 (.r 35 [] [] f1 (.n 3 h0 (.m 5 h1 (.g h0 (.f h1 (.g h0 (.n 3 h2 (.n 5 h3 (.g h2 (.g h3 (.g h2 (.n 6 h4 (.m 6 h5 (.n 5 h6 (.z 40 (.z 42 (.z 44 (.y 46 (.y 48 (.y 50 (.y 52 (.y 54 (.z 56 (.y 57 (.z 59 (.z 62 (.z 64 (.z 66 (.z 68 (.z 70 (.z 72 (.z 74 (.z 76 (.z 78 (.z 79 (.z 81 (.z 90 (.z 92 (.z 94 (.z 96 (.z 98 (.z 101 (.y 109 (.y 111 (.y 113 (.y 115 (.y 117 (.y 119 (.z 121 (.z 123 (.z 125 (.z 127 (.z 129 (.r 130 [] [] f41 (.g h6 (.f h5 (.g h6 (.f h5 (.g h7 (.z 131 (.y 133 (.z 134 (.y 136 (.z 137 (.r 147 [] [] f47 (.n 5 h8 (.z 152 (.z 154 (.z 156 (.z 158 (.z 160 (.r 161 [] [] f53 (.n 2 h8 (.n 2 h9 (.m 5 h5 (.g h9 (.f h5 (.g h9 (.m 8 h10 (.z 162 (.z 165 (.z 168 (.z 170 (.y 172 (.y 174 (.y 176 (.y 178 (.y 180 (.z 182 (.y 183 (.z 185 (.y 188 (.y 190 (.y 192 (.y 194 (.y 196 (.y 198 (.y 210 (.y 213 .nil))))))))))))))))))))))))))))))))))))))))))))))))))))))))))))))))))))))))))))))))))))))))))))))))))))
           ·try simp only [if_neg h10]
            by_cases h11 : (a0.f0 == 1) = true
            ·try simp only [if_pos h11]
             by_cases h12 : (decide (a0.f3 > 9999)) = true
             ·try simp only [if_pos h12]
              exact cp (by kernel_rfl) (.r 11 [] [] f0 (.r 35 [] [] f1 (.n 3 h0 (.m 5 h1 (.g h0 (.f h1 (.g h0 (.n 3 h2 (.n 5 h3 (.g h2 (.g h3 (.g h2 (.n 6 h4 (.m 6 h5 (.n 5 h6 (.z 40 (.z 42 (.z 44 (.y 46 (.y 48 (.y 50 (.y 52 (.y 54 (.z 56 (.y 57 (.z 59 (.z 62 (.z 64 (.z 66 (.z 68 (.z 70 (.z 72 (.z 74 (.z 76 (.z 78 (.z 79 (.z 81 (.z 90 (.z 92 (.z 94 (.z 96 (.z 98 (.z 101 (.y 109 (.y 111 (.y 113 (.y 115 (.y 117 (.y 119 (.z 121 (.z 123 (.z 125 (.z 127 (.z 129 (.r 130 [] [] f41 (.g h6 (.f h5 (.g h6 (.f h5 (.g h7 (.z 131 (.y 133 (.z 134 (.y 136 (.z 137 (.r 147 [] [] f47 (.n 5 h8 (.z 152 (.z 154 (.z 156 (.z 158 (.z 160 (.r 161 [] [] f53 (.n 2 h8 (.n 2 h9 (.m 5 h5 (.g h9 (.f h5 (.g h9 (.n 6 h10 (.m 5 h11 (.g h10 (.f h11 (.g h10 (.f h12 (.z 162 (.z 165 (.z 168 (.z 170 (.y 172 (.y 174 (.y 176 (.y 178 (.y 180 (.z 182 (.y 183 (.z 185 (.z 188 (.z 190 (.z 192 (.z 194 (.z 196 (.z 198 (.y 200 (.y 202 (.y 204 (.y 206 (.y 208 (.z 210 (.y 211 (.z 213 (.y 214 .nil))))))))))))))))))))))))))))))))))))))))))))))))))))))))))))))))))))))))))))))))))))))))))))))))))))))))))))))))
             ·try simp only [if_neg h12]
              exact cp (by kernel_rfl) (.r 11 [] [] f0 (.r 35 [] [] f1 (.n 3 h0 (.m 5 h1 (.g h0 (.f h1 (.g h0 (.n 3 h2 (.n 5 h3 (.g h2 (.g h3 (.g h2 (.n 6 h4 (.m 6 h5 (.n 5 h6 (.z 40 (.z 42 (.z 44 (.y 46 (.y 48 (.y 50 (.y 52 (.y 54 (.z 56 (.y 57 (.z 59 (.z 62 (.z 64 (.z 66 (.z 68 (.z 70 (.z 72 (.z 74 (.z 76 (.z 78 (.z 79 (.z 81 (.z 90 (.z 92 (.z 94 (.z 96 (.z 98 (.z 101 (.y 109 (.y 111 (.y 113 (.y 115 (.y 117 (.y 119 (.z 121 (.z 123 (.z 125 (.z 127 (.z 129 (.r 130 [] [] f41 (.g h6 (.f h5 (.g h6 (.f h5 (.g h7 (.z 131 (.y 133 (.z 134 (.y 136 (.z 137 (.r 147 [] [] f47 (.n 5 h8 (.z 152 (.z 154 (.z 156 (.z 158 (.z 160 (.r 161 [] [] f53 (.n 2 h8 (.n 2 h9 (.m 5 h5 (.g h9 (.f h5 (.g h9 (.n 6 h10 (.m 5 h11 (.g h10 (.f h11 (.g h10 (.g h12 (.z 162 (.z 165 (.z 168 (.z 170 (.y 172 (.y 174 (.y 176 (.y 178 (.y 180 (.z 182 (.y 183 (.z 185 (.z 188 (.z 190 (.z 192 (.z 194 (.z 196 (.z 198 (.y 200 (.y 202 (.y 204 (.y 206 (.y 208 (.z 210 (.y 211 (.z 213 (.z 214 .nil))))))))))))))))))))))))))))))))))))))))))))))))))))))))))))))))))))))))))))))))))))))))))))))))))))))))))))))))
            ·try simp only [if_neg h11]
             exact cp (by kernel_rfl) (.r 11 [] [] f0 (.r 35 [] [] f1 (.n 3 h0 (.m 5 h1 (.g h0 (.f h1 (.g h0 (.n 3 h2 (.n 5 h3 (.g h2 (.g h3 (.g h2 (.n 6 h4 (.m 6 h5 (.n 5 h6 (.z 40 (.z 42 (.z 44 (.y 46 (.y 48 (.y 50 (.y 52 (.y 54 (.z 56 (.y 57 (.z 59 (.z 62 (.z 64 (.z 66 (.z 68 (.z 70 (.z 72 (.z 74 (.z 76 (.z 78 (.z 79 (.z 81 (.z 90 (.z 92 (.z 94 (.z 96 (.z 98 (.z 101 (.y 109 (.y 111 (.y 113 (.y 115 (.y 117 (.y 119 (.z 121 (.z 123 (.z 125 (.z 127 (.z 129 (.r 130 [] [] f41 (.g h6 (.f h5 (.g h6 (.f h5 (.g h7 (.z 131 (.y 133 (.z 134 (.y 136 (.z 137 (.r 147 [] [] f47 (.n 5 h8 (.z 152 (.z 154 (.z 156 (.z 158 (.z 160 (.r 161 [] [] f53 (.n 2 h8 (.n 2 h9 (.m 5 h5 (.g h9 (.f h5 (.g h9 (.n 6 h10 (.n 5 h11 (.g h10 (.g h11 (.g h10 (.z 162 (.z 165 (.z 168 (.z 170 (.y 172 (.y 174 (.y 176 (.y 178 (.y 180 (.z 182 (.y 183 (.z 185 (.z 188 (.z 190 (.z 192 (.z 194 (.z 196 (.z 198 (.z 200 (.z 202 (.z 204 (.z 206 (.z 208 (.z 210 (.z 211 (.z 213 .nil))))))))))))))))))))))))))))))))))))))))))))))))))))))))))))))))))))))))))))))))))))))))))))))))))))))))))))))
      ·try simp only [if_neg h5]
       have f38 := e115 (a0 := a0.f2)
       by_cases h6 : (!(m113 a0.f2 0 2147483646)) = true
       ·try simp only [if_pos h6]
        exact cp (by kernel_rfl) (.r 11 [] [] f0 (.r 35 [] [] f1 (.n 3 h0 (.m 5 h1 (.g h0 (.f h1 (.g h0 (.n 3 h2 (.n 5 h3 (.g h2 (.g h3 (.g h2 (.n 6 h4 (.n 8 h5 (.z 40 (.z 42 (.z 44 (.y 46 (.y 48 (.y 50 (.y 52 (.y 54 (.z 56 (.y 57 (.z 59 (.z 62 (.z 64 (.z 66 (.z 68 (.z 70 (.z 72 (.z 74 (.z 76 (.z 78 (.z 79 (.z 81 (.z 90 (.z 92 (.z 94 (.z 96 (.z 98 (.z 101 (.z 109 (.z 111 (.z 113 (.z 115 (.z 117 (.z 119 (.z 133 (.z 136 (.r 147 [] [] f38 (.m 7 h6 (.y 152 (.y 154 (.y 156 (.y 158 (.y 160 (.y 162 (.y 165 .nil)))))))))))))))))))))))))))))))))))))))))))))))))))))))))))
       ·try simp only [if_neg h6]
        have f44 := e75 (a0 := a0.f3)
        by_cases h7 : (!(m113 a0.f3 0 1000000)) = true
        ·try simp only [if_pos h7]
         exact cp (by kernel_rfl) (.r 11 [] [] f0 (.r 35 [] [] f1 (.n 3 h0 (.m 5 h1 (.g h0 (.f h1 (.g h0 (.n 3 h2 (.n 5 h3 (.g h2 (.g h3 (.g h2 (.n 6 h4 (.n 8 h5 (.z 40 (.z 42 (.z 44 (.y 46 (.y 48 (.y 50 (.y 52 (.y 54 (.z 56 (.y 57 (.z 59 (.z 62 (.z 64 (.z 66 (.z 68 (.z 70 (.z 72 (.z 74 (.z 76 (.z 78 (.z 79 (.z 81 (.z 90 (.z 92 (.z 94 (.z 96 (.z 98 (.z 101 (.z 109 (.z 111 (.z 113 (.z 115 (.z 117 (.z 119 (.z 133 (.z 136 (.r 147 [] [] f38 (.n 5 h6 (.z 152 (.z 154 (.z 156 (.z 158 (.z 160 (.r 161 [] [] f44 (.n 2 h6 (.m 4 h7 (.z 162 (.z 165 (.y 168 (.y 170 (.y 182 (.y 185 .nil))))))))))))))))))))))))))))))))))))))))))))))))))))))))))))))))))
        ·try simp only [if_neg h7]
         by_cases h8 : (a0.f0 == 1) = true
         ·try simp only [if_pos h8]
          by_cases h9 : (decide (a0.f3 > 9999)) = true
          ·try simp only [if_pos h9]
           exact cp (by kernel_rfl) (.r 11 [] [] f0 (.r 35 [] [] f1 (.n 3 h0 (.m 5 h1 (.g h0 (.f h1 (.g h0 (.n 3 h2 (.n 5 h3 (.g h2 (.g h3 (.g h2 (.n 6 h4 (.n 8 h5 (.z 40 (.z 42 (.z 44 (.y 46 (.y 48 (.y 50 (.y 52 (.y 54 (.z 56 (.y 57 (.z 59 (.z 62 (.z 64 (.z 66 (.z 68 (.z 70 (.z 72 (.z 74 (.z 76 (.z 78 (.z 79 (.z 81 (.z 90 (.z 92 (.z 94 (.z 96 (.z 98 (.z 101 (.z 109 (.z 111 (.z 113 (.z 115 (.z 117 (.z 119 (.z 133 (.z 136 (.r 147 [] [] f38 (.n 5 h6 (.z 152 (.z 154 (.z 156 (.z 158 (.z 160 (.r 161 [] [] f44 (.n 2 h6 (.n 2 h7 (.n 5 h5 (.g h7 (.g h5 (.g h7 (.m 6 h8 (.f h9 (.z 162 (.z 165 (.z 168 (.z 170 (.z 172 (.z 174 (.z 176 (.z 178 (.z 180 (.z 182 (.z 183 (.z 185 (.y 200 (.y 202 (.y 204 (.y 206 (.y 208 (.y 211 (.y 214 .nil)))))))))))))))))))))))))))))))))))))))))))))))))))))))))))))))))))))))))))))))))))))
          ·try simp only [if_neg h9]
           exact cp (by kernel_rfl) (.r 11 [] [] f0 (.r 35 [] [] f1 (.n 3 h0 (.m 5 h1 (.g h0 (.f h1 (.g h0 (.n 3 h2 (.n 5 h3 (.g h2 (.g h3 (.g h2 (.n 6 h4 (.n 8 h5 (.z 40 (.z 42 (.z 44 (.y 46 (.y 48 (.y 50 (.y 52 (.y 54 (.z 56 (.y 57 (.z 59 (.z 62 (.z 64 (.z 66 (.z 68 (.z 70 (.z 72 (.z 74 (.z 76 (.z 78 (.z 79 (.z 81 (.z 90 (.z 92 (.z 94 (.z 96 (.z 98 (.z 101 (.z 109 (.z 111 (.z 113 (.z 115 (.z 117 (.z 119 (.z 133 (.z 136 (.r 147 [] [] f38 (.n 5 h6 (.z 152 (.z 154 (.z 156 (.z 158 (.z 160 (.r 161 [] [] f44 (.n 2 h6 (.n 2 h7 (.n 5 h5 (.g h7 (.g h5 (.g h7 (.m 6 h8 (.g h9 (.z 162 (.z 165 (.z 168 (.z 170 (.z 172 (.z 174 (.z 176 (.z 178 (.z 180 (.z 182 (.z 183 (.z 185 (.y 200 (.y 202 (.y 204 (.y 206 (.y 208 (.y 211 (.z 214 .nil)))))))))))))))))))))))))))))))))))))))))))))))))))))))))))))))))))))))))))))))))))))
         ·try simp only [if_neg h8]
          exact cp (by kernel_rfl) (.r 11 [] [] f0 (.r 35 [] [] f1 (.n 3 h0 (.m 5 h1 (.g h0 (.f h1 (.g h0 (.n 3 h2 (.n 5 h3 (.g h2 (.g h3 (.g h2 (.n 6 h4 (.n 8 h5 (.z 40 (.z 42 (.z 44 (.y 46 (.y 48 (.y 50 (.y 52 (.y 54 (.z 56 (.y 57 (.z 59 (.z 62 (.z 64 (.z 66 (.z 68 (.z 70 (.z 72 (.z 74 (.z 76 (.z 78 (.z 79 (.z 81 (.z 90 (.z 92 (.z 94 (.z 96 (.z 98 (.z 101 (.z 109 (.z 111 (.z 113 (.z 115 (.z 117 (.z 119 (.z 133 (.z 136 (.r 147 [] [] f38 (.n 5 h6 (.z 152 (.z 154 (.z 156 (.z 158 (.z 160 (.r 161 [] [] f44 (.n 2 h6 (.n 2 h7 (.n 5 h5 (.g h7 (.g h5 (.g h7 (.n 6 h8 (.z 162 (.z 165 (.z 168 (.z 170 (.z 172 (.z 174 (.z 176 (.z 178 (.z 180 (.z 182 (.z 183 (.z 185 (.z 200 (.z 202 (.z 204 (.z 206 (.z 208 (.z 211 .nil)))))))))))))))))))))))))))))))))))))))))))))))))))))))))))))))))))))))))))))))))))
  ·try simp only [if_neg h1]
   by_cases h2 : (!(m112_1 a0.f0)) = true
   ·try simp only [if_pos h2]
    by_cases h3 : (a0.f2 != 0) = true
    ·try simp only [if_pos h3]
     exact cp (by kernel_rfl) (.r 11 [] [] f0 (.r 35 [] [] f1 (.n 3 h0 (.n 5 h1 (.g h0 (.g h1 (.g h0 (.m 6 h2 (.m 5 h3 (.z 40 (.z 42 (.z 44 (.z 46 (.z 48 (.z 50 (.z 52 (.z 54 (.z 56 (.z 57 (.z 59 (.y 68 (.y 70 (.y 72 (.y 74 (.y 76 (.y 79 (.y 84 (.y 86 (.y 88 (.y 100 (.y 103 .nil)))))))))))))))))))))))))))))))
    ·try simp only [if_neg h3]
     by_cases h4 : (!(m112_2 a0.f0)) = true
     ·try simp only [if_pos h4]
      by_cases h5 : (a0.f3 != 0) = true
      ·try simp only [if_pos h5]
       exact cp (by kernel_rfl) (.r 11 [] [] f0 (.r 35 [] [] f1 (.n 3 h0 (.n 5 h1 (.g h0 (.g h1 (.g h0 (.m 6 h2 (.n 3 h3 (.m 5 h4 (.g h3 (.f h4 (.g h3 (.f h5 (.z 40 (.z 42 (.z 44 (.z 46 (.z 48 (.z 50 (.z 52 (.z 54 (.z 56 (.z 57 (.z 59 (.y 68 (.y 70 (.y 72 (.y 74 (.y 76 (.y 79 (.z 84 (.z 86 (.z 88 (.y 90 (.y 92 (.y 94 (.y 96 (.y 98 (.z 100 (.y 101 (.z 103 (.y 104 .nil)))))))))))))))))))))))))))))))))))))))))))
      ·try simp only [if_neg h5]
       by_cases h6 : (m112_0 a0.f0) = true
       ·try simp only [if_pos h6]
        by_cases h7 : (a0.f1.toList == (⟨#[]⟩ : ByteArray).toList) = true
        ·try simp only [if_pos h7]
         exact cp (by kernel_rfl) (.r 11 [] [] f0 (.r 35 [] [] f1 (.n 3 h0 (.n 5 h1 (.g h0 (.g h1 (.g h0 (.m 6 h2 (.n 3 h3 (.m 5 h4 (.g h3 (.f h4 (.g h3 (.g h5 (.m 6 h6 (.m 6 h7 (.f h6 (.f h7 (.f h6 (.z 40 (.z 42 (.z 44 (.z 46 (.z 48 (.z 50 (.z 52 (.z 54 (.z 56 (.z 57 (.z 59 (.y 68 (.y 70 (.y 72 (.y 74 (.y 76 (.y 79 (.z 84 (.z 86 (.z 88 (.y 90 (.y 92 (.y 94 (.y 96 (.y 98 (.z 100 (.y 101 (.z 103 (.z 104 (.y 109 (.y 111 (.y 113 (.y 115 (.y 117 (.y 119 (.y 121 (.y 123 (.y 125 (.y 127 (.y 129 (.y 131 (.y 133 (.y 134 (.y 136 .nil)))))))))))))))))))))))))))))))))))))))))))))))))))))))))))))))
        ·try simp only [if_neg h7]
         have f42 := e114 (a0 := a0.f1) (by with_reducible assumption)
         by_cases h8 : (!(m114 a0.f1)) = true
         ·try simp only [if_pos h8]
          exact cp (by kernel_rfl) (.r 11 [] [] f0 (.r 35 [] [] f1 (.n 3 h0 (.n 5 h1 (.g h0 (.g h1 (.g h0 (.m 6 h2 (.n 3 h3 (.m 5 h4 (.g h3 (.f h4 (.g h3 (.g h5 (.m 6 h6 (.n 5 h7 (.z 40 (.z 42 (.z 44 (.z 46 (.z 48 (.z 50 (.z 52 (.z 54 (.z 56 (.z 57 (.z 59 (.y 68 (.y 70 (.y 72 (.y 74 (.y 76 (.y 79 (.z 84 (.z 86 (.z 88 (.y 90 (.y 92 (.y 94 (.y 96 (.y 98 (.z 100 (.y 101 (.z 103 (.z 104 (.y 109 (.y 111 (.y 113 (.y 115 (.y 117 (.y 119 (.z 121 (.z 123 (.z 125 (.z 127 (.z 129 (.r 130 [] [] f42 (.g h7 (.f h6 (.g h7 (.f h6 (.f h8 (.z 131 (.y 133 (.z 134 (.y 136 (.y 137 .nil)))))))))))))))))))))))))))))))))))))))))))))))))))))))))))))))))))
         ·try simp only [if_neg h8]
          have f48 := e115 (a0 := a0.f2)
          by_cases h9 : (!(m113 a0.f2 0 2147483646)) = true
          ·try simp only [if_pos h9]
           exact cp (by kernel_rfl) (.r 11 [] [] f0 (.r 35 [] [] f1 (.n 3 h0 (.n 5 h1 (.g h0 (.g h1 (.g h0 (.m 6 h2 (.n 3 h3 (.m 5 h4 (.g h3 (.f h4 (.g h3 (.g h5 (.m 6 h6 (.n 5 h7 (.z 40 (.z 42 (.z 44 (.z 46 (.z 48 (.z 50 (.z 52 (.z 54 (.z 56 (.z 57 (.z 59 (.y 68 (.y 70 (.y 72 (.y 74 (.y 76 (.y 79 (.z 84 (.z 86 (.z 88 (.y 90 (.y 92 (.y 94 (.y 96 (.y 98 (.z 100 (.y 101 (.z 103 (.z 104 (.y 109 (.y 111 (.y 113 (.y 115 (.y 117 (.y 119 (.z 121 (.z 123 (.z 125 (.z 127 (.z 129 (.r 130 [] [] f42 (.g h7 (.f h6 (.g h7 (.f h6 (.g h8 (.z 131 (.y 133 (.z 134 (.y 136 (.z 137 (.r 147 [] [] f48 (.m 7 h9 (.y 152 (.y 154 (.y 156 (.y 158 (.y 160 (.y 162 (.y 165 .nil))))))))))))))))))))))))))))))))))))))))))))))))))))))))))))))))))))))))))))
          ·try simp only [if_neg h9]
           have f54 := e75 (a0 := a0.f3)
           by_cases h10 : (!(m113 a0.f3 0 1000000)) = true
           ·try simp only [if_pos h10]
            exact cp (by kernel_rfl) (.r 11 [] [] f0 (.r 35 [] [] f1 (.n 3 h0 (.n 5 h1 (.g h0 (.g h1 (.g h0 (.m 6 h2 (.n 3 h3 (.m 5 h4 (.g h3 (.f h4 (.g h3 (.g h5 (.m 6 h6 (.n 5 h7 (.z 40 (.z 42 (.z 44 (.z 46 (.z 48 (.z 50 (.z 52 (.z 54 (.z 56 (.z 57 (.z 59 (.y 68 (.y 70 (.y 72 (.y 74 (.y 76 (.y 79 (.z 84 (.z 86 (.z 88 (.y 90 (.y 92 (.y 94 (.y 96 (.y 98 (.z 100 (.y 101 (.z 103 (.z 104 (.y 109 (.y 111 (.y 113 (.y 115 (.y 117 (.y 119 (.z 121 (.z 123 (.z 125 (.z 127 (.z 129 (.r 130 [] [] f42 (.g h7 (.f h6 (.g h7 (.f h6 (.g h8 (.z 131 (.y 133 (.z 134 (.y 136 (.z 137 (.r 147 [] [] f48 (.n 5 h9 (.z 152 (.z 154 (.z 156 (.z 158 (.z 160 (.r 161 [] [] f54 (.n 2 h9 (.m 4 h10 (.z 162 (.z 165 (.y 168 (.y 170 (.y 182 (.y 185 .nil)))))))))))))))))))))))))))))))))))))))))))))))))))))))))))))))))))))))))))))))))))
           ·try simp only [if_neg h10]
            by_cases h11 : (decide (a0.f3 < 1)) = true
            ·try simp only [if_pos h11]
             exact cp (by kernel_rfl) (.r 11 [] [] f0 (.r 35 [] [] f1 (.n 3 h0 (.n 5 h1 (.g h0 (.g h1 (.g h0 (.m 6 h2 (.n 3 h3 (.m 5 h4 (.g h3 (.f h4 (.g h3 (.g h5 (.m 6 h6 (.n 5 h7 (.z 40 (.z 42 (.z 44 (.z 46 (.z 48 (.z 50 (.z 52 (.z 54 (.z 56 (.z 57 (.z 59 (.y 68 (.y 70 (.y 72 (.y 74 (.y 76 (.y 79 (.z 84 (.z 86 (.z 88 (.y 90 (.y 92 (.y 94 (.y 96 (.y 98 (.z 100 (.y 101 (.z 103 (.z 104 (.y 109 (.y 111 (.y 113 (.y 115 (.y 117 (.y 119 (.z 121 (.z 123 (.z 125 (.z 127 (.z 129 (.r 130 [] [] f42 (.g h7 (.f h6 (.g h7 (.f h6 (.g h8 (.z 131 (.y 133 (.z 134 (.y 136 (.z 137 (.r 147 [] [] f48 (.n 5 h9 (.z 152 (.z 154 (.z 156 (.z 158 (.z 160 (.r 161 [] [] f54 (.n 2 h9 (.n 2 h10 (.m 5 h6 (.g h10 (.f h6 (.g h10 (.m 8 h11 (.z 162 (.z 165 (.z 168 (.z 170 (.y 172 (.y 174 (.y 176 (.y 178 (.y 180 (.z 182 (.y 183 (.z 185 (.y 188 (.y 190 (.y 192 (.y 194 (.y 196 (.y 198 (.y 210 (.y 213 .nil))))))))))))))))))))))))))))))))))))))))))))))))))))))))))))))))))))))))))))))))))))))))))))))))))))))
            ·try simp only [if_neg h11]
             by_cases h12 : (a0.f0 == 1) = true
             ·try simp only [if_pos h12]
              by_cases h13 : (decide (a0.f3 > 9999)) = true
              ·try simp only [if_pos h13]
               exact cp (by kernel_rfl) (.r 11 [] [] f0 (.r 35 [] [] f1 (.n 3 h0 (.n 5 h1 (.g h0 (.g h1 (.g h0 (.m 6 h2 (.n 3 h3 (.m 5 h4 (.g h3 (.f h4 (.g h3 (.g h5 (.m 6 h6 (.n 5 h7 (.z 40 (.z 42 (.z 44 (.z 46 (.z 48 (.z 50 (.z 52 (.z 54 (.z 56 (.z 57 (.z 59 (.y 68 (.y 70 (.y 72 (.y 74 (.y 76 (.y 79 (.z 84 (.z 86 (.z 88 (.y 90 (.y 92 (.y 94 (.y 96 (.y 98 (.z 100 (.y 101 (.z 103 (.z 104 (.y 109 (.y 111 (.y 113 (.y 115 (.y 117 (.y 119 (.z 121 (.z 123 (.z 125 (.z 127 (.z 129 (.r 130 [] [] f42 (.g h7 (.f h6 (.g h7 (.f h6 (.g h8 (.z 131 (.y 133 (.z 134 (.y 136 (.z 137 (.r 147 [] [] f48 (.n 5 h9 (.z 152 (.z 154 (.z 156 (.z 158 (.z 160 (.r 161 [] [] f54 (.n 2 h9 (.n 2 h10 (.m 5 h6 (.g h10 (.f h6 (.g h10 (.n 6 h11 (.m 5 h12 (.g h11 (.f h12 (.g h11 (.f h13 (.z 162 (.z 165 (.z 168 (.z 170 (.y 172 (.y 174 (.y 176 (.y 178 (.y 180 (.z 182 (.y 183 (.z 185 (.z 188 (.z 190 (.z 192 (.z 194 (.z 196 (.z 198 (.y 200 (.y 202 (.y 204 (.y 206 (.y 208 (.z 210 (.y 211 (.z 213 (.y 214 .nil))))))))))))))))))))))))))))))))))))))))))))))))))))))))))))))))))))))))))))))))))))))))))))))))))))))))))))))))))
              ·try simp only [if_neg h13]
               exact cp (by kernel_rfl) (.r 11 [] [] f0 (.r 35 [] [] f1 (.n 3 h0 (.n 5 h1 (.g h0 (.g h1 (.g h0 (.m 6 h2 (.n 3 h3 (.m 5 h4 (.g h3 (.f h4 (.g h3 (.g h5 (.m 6 h6 (.n 5 h7 (.z 40 (.z 42 (.z 44 (.z 46 (.z 48 (.z 50 (.z 52 (.z 54 (.z 56 (.z 57 (.z 59 (.y 68 (.y 70 (.y 72 (.y 74 (.y 76 (.y 79 (.z 84 (.z 86 (.z 88 (.y 90 (.y 92 (.y 94 (.y 96 (.y 98 (.z 100 (.y 101 (.z 103 (.z 104 (.y 109 (.y 111 (.y 113 (.y 115 (.y 117 (.y 119 (.z 121 (.z 123 (.z 125 (.z 127 (.z 129 (.r 130 [] [] f42 (.g h7 (.f h6 (.g h7 (.f h6 (.g h8 (.z 131 (.y 133 (.z 134 (.y 136 (.z 137 (.r 147 [] [] f48 (.n 5 h9 (.z 152 (.z 154 (.z 156 (.z 158 (.z 160 (.r 161 [] [] f54 (.n 2 h9 (.n 2 h10 (.m 5 h6 (.g h10 (.f h6 (.g h10 (.n 6 h11 (.m 5 h12 (.g h11 (.f h12 (.g h11 (.g h13 (.z 162 (.z 165 (.z 168 (.z 170 (.y 172 (.y 174 (.y 176 (.y 178 (.y 180 (.z 182 (.y 183 (.z 185 (.z 188 (.z 190 (.z 192 (.z 194 (.z 196 (.z 198 (.y 200 (.y 202 (.y 204 (.y 206 (.y 208 (.z 210 (.y 211 (.z 213 (.z 214 .nil))))))))))))))))))))))))))))))))))))))))))))))))))))))))))))))))))))))))))))))))))))))))))))))))))))))))))))))))))
             ·try simp only [if_neg h12]
              exact cp (by kernel_rfl) (.r 11 [] [] f0 (.r 35 [] [] f1 (.n 3 h0 (.n 5 h1 (.g h0 (.g h1 (.g h0 (.m 6 h2 (.n 3 h3 (.m 5 h4 (.g h3 (.f h4 (.g h3 (.g h5 (.m 6 h6 (.n 5 h7 (.z 40 (.z 42 (.z 44 (.z 46 (.z 48 (.z 50 (.z 52 (.z 54 (.z 56 (.z 57 (.z 59 (.y 68 (.y 70 (.y 72 (.y 74 (.y 76 (.y 79 (.z 84 (.z 86 (.z 88 (.y 90 (.y 92 (.y 94 (.y 96 (.y 98 (.z 100 (.y 101 (.z 103 (.z 104 (.y 109 (.y 111 (.y 113 (.y 115 (.y 117 (.y 119 (.z 121 (.z 123 (.z 125 (.z 127 (.z 129 (.r 130 [] [] f42 (.g h7 (.f h6 (.g h7 (.f h6 (.g h8 (.z 131 (.y 133 (.z 134 (.y 136 (.z 137 (.r 147 [] [] f48 (.n 5 h9 (.z 152 (.z 154 (.z 156 (.z 158 (.z 160 (.r 161 [] [] f54 (.n 2 h9 (.n 2 h10 (.m 5 h6 (.g h10 (.f h6 (.g h10 (.n 6 h11 (.n 5 h12 (.g h11 (.g h12 (.g h11 (.z 162 (.z 165 (.z 168 (.z 170 (.y 172 (.y 174 (.y 176 (.y 178 (.y 180 (.z 182 (.y 183 (.z 185 (.z 188 (.z 190 (.z 192 (.z 194 (.z 196 (.z 198 (.z 200 (.z 202 (.z 204 (.z 206 (.z 208 (.z 210 (.z 211 (.z 213 .nil))))))))))))))))))))))))))))))))))))))))))))))))))))))))))))))))))))))))))))))))))))))))))))))))))))))))))))))))
       ·try simp only [if_neg h6]
        have f39 := e115 (a0 := a0.f2)
        by_cases h7 : (!(m113 a0.f2 0 2147483646)) = true
        ·try simp only [if_pos h7]
         exact cp (by kernel_rfl) (.r 11 [] [] f0 (.r 35 [] [] f1 (.n 3 h0 (.n 5 h1 (.g h0 (.g h1 (.g h0 (.m 6 h2 (.n 3 h3 (.m 5 h4 (.g h3 (.f h4 (.g h3 (.g h5 (.n 8 h6 (.z 40 (.z 42 (.z 44 (.z 46 (.z 48 (.z 50 (.z 52 (.z 54 (.z 56 (.z 57 (.z 59 (.y 68 (.y 70 (.y 72 (.y 74 (.y 76 (.y 79 (.z 84 (.z 86 (.z 88 (.y 90 (.y 92 (.y 94 (.y 96 (.y 98 (.z 100 (.y 101 (.z 103 (.z 104 (.z 109 (.z 111 (.z 113 (.z 115 (.z 117 (.z 119 (.z 133 (.z 136 (.r 147 [] [] f39 (.m 7 h7 (.y 152 (.y 154 (.y 156 (.y 158 (.y 160 (.y 162 (.y 165 .nil)))))))))))))))))))))))))))))))))))))))))))))))))))))))))))))
        ·try simp only [if_neg h7]
         have f45 := e75 (a0 := a0.f3)
         by_cases h8 : (!(m113 a0.f3 0 1000000)) = true
         ·try simp only [if_pos h8]
          exact cp (by kernel_rfl) (.r 11 [] [] f0 (.r 35 [] [] f1 (.n 3 h0 (.n 5 h1 (.g h0 (.g h1 (.g h0 (.m 6 h2 (.n 3 h3 (.m 5 h4 (.g h3 (.f h4 (.g h3 (.g h5 (.n 8 h6 (.z 40 (.z 42 (.z 44 (.z 46 (.z 48 (.z 50 (.z 52 (.z 54 (.z 56 (.z 57 (.z 59 (.y 68 (.y 70 (.y 72 (.y 74 (.y 76 (.y 79 (.z 84 (.z 86 (.z 88 (.y 90 (.y 92 (.y 94 (.y 96 (.y 98 (.z 100 (.y 101 (.z 103 (.z 104 (.z 109 (.z 111 (.z 113 (.z 115 (.z 117 (.z 119 (.z 133 (.z 136 (.r 147 [] [] f39 (.n 5 h7 (.z 152 (.z 154 (.z 156 (.z 158 (.z 160 (.r 161 [] [] f45 (.n 2 h7 (.m 4 h8 (.z 162 (.z 165 (.y 168 (.y 170 (.y 182 (.y 185 .nil))))))))))))))))))))))))))))))))))))))))))))))))))))))))))))))))))))
         ·try simp only [if_neg h8]
          by_cases h9 : (a0.f0 == 1) = true
          ·try simp only [if_pos h9]
           by_cases h10 : (decide (a0.f3 > 9999)) = true
           ·try simp only [if_pos h10]
            exact cp (by kernel_rfl) (.r 11 [] [] f0 (.r 35 [] [] f1 (.n 3 h0 (.n 5 h1 (.g h0 (.g h1 (.g h0 (.m 6 h2 (.n 3 h3 (.m 5 h4 (.g h3 (.f h4 (.g h3 (.g h5 (.n 8 h6 (.z 40 (.z 42 (.z 44 (.z 46 (.z 48 (.z 50 (.z 52 (.z 54 (.z 56 (.z 57 (.z 59 (.y 68 (.y 70 (.y 72 (.y 74 (.y 76 (.y 79 (.z 84 (.z 86 (.z 88 (.y 90 (.y 92 (.y 94 (.y 96 (.y 98 (.z 100 (.y 101 (.z 103 (.z 104 (.z 109 (.z 111 (.z 113 (.z 115 (.z 117 (.z 119 (.z 133 (.z 136 (.r 147 [] [] f39 (.n 5 h7 (.z 152 (.z 154 (.z 156 (.z 158 (.z 160 (.r 161 [] [] f45 (.n 2 h7 (.n 2 h8 (.n 5 h6 (.g h8 (.g h6 (.g h8 (.m 6 h9 (.f h10 (.z 162 (.z 165 (.z 168 (.z 170 (.z 172 (.z 174 (.z 176 (.z 178 (.z 180 (.z 182 (.z 183 (.z 185 (.y 200 (.y 202 (.y 204 (.y 206 (.y 208 (.y 211 (.y 214 .nil)))))))))))))))))))))))))))))))))))))))))))))))))))))))))))))))))))))))))))))))))))))))
           ·try simp only [if_neg h10]
            exact cp (by kernel_rfl) (.r 11 [] [] f0 (.r 35 [] [] f1 (.n 3 h0 (.n 5 h1 (.g h0 (.g h1 (.g h0 (.m 6 h2 (.n 3 h3 (.m 5 h4 (.g h3 (.f h4 (.g h3 (.g h5 (.n 8 h6 (.z 40 (.z 42 (.z 44 (.z 46 (.z 48 (.z 50 (.z 52 (.z 54 (.z 56 (.z 57 (.z 59 (.y 68 (.y 70 (.y 72 (.y 74 (.y 76 (.y 79 (.z 84 (.z 86 (.z 88 (.y 90 (.y 92 (.y 94 (.y 96 (.y 98 (.z 100 (.y 101 (.z 103 (.z 104 (.z 109 (.z 111 (.z 113 (.z 115 (.z 117 (.z 119 (.z 133 (.z 136 (.r 147 [] [] f39 (.n 5 h7 (.z 152 (.z 154 (.z 156 (.z 158 (.z 160 (.r 161 [] [] f45 (.n 2 h7 (.n 2 h8 (.n 5 h6 (.g h8 (.g h6 (.g h8 (.m 6 h9 (.g h10 (.z 162 (.z 165 (.z 168 (.z 170 (.z 172 (.z 174 (.z 176 (.z 178 (.z 180 (.z 182 (.z 183 (.z 185 (.y 200 (.y 202 (.y 204 (.y 206 (.y 208 (.y 211 (.z 214 .nil)))))))))))))))))))))))))))))))))))))))))))))))))))))))))))))))))))))))))))))))))))))))
          ·try simp only [if_neg h9]
           exact cp (by kernel_rfl) (.r 11 [] [] f0 (.r 35 [] [] f1 (.n 3 h0 (.n 5 h1 (.g h0 (.g h1 (.g h0 (.m 6 h2 (.n 3 h3 (.m 5 h4 (.g h3 (.f h4 (.g h3 (.g h5 (.n 8 h6 (.z 40 (.z 42 (.z 44 (.z 46 (.z 48 (.z 50 (.z 52 (.z 54 (.z 56 (.z 57 (.z 59 (.y 68 (.y 70 (.y 72 (.y 74 (.y 76 (.y 79 (.z 84 (.z 86 (.z 88 (.y 90 (.y 92 (.y 94 (.y 96 (.y 98 (.z 100 (.y 101 (.z 103 (.z 104 (.z 109 (.z 111 (.z 113 (.z 115 (.z 117 (.z 119 (.z 133 (.z 136 (.r 147 [] [] f39 (.n 5 h7 (.z 152 (.z 154 (.z 156 (.z 158 (.z 160 (.r 161 [] [] f45 (.n 2 h7 (.n 2 h8 (.n 5 h6 (.g h8 (.g h6 (.g h8 (.n 6 h9 (.z 162 (.z 165 (.z 168 (.z 170 (.z 172 (.z 174 (.z 176 (.z 178 (.z 180 (.z 182 (.z 183 (.z 185 (.z 200 (.z 202 (.z 204 (.z 206 (.z 208 (.z 211 .nil)))))))))))))))))))))))))))))))))))))))))))))))))))))))))))))))))))))))))))))))))))))
     ·try simp only [if_neg h4]
      by_cases h5 : (m112_0 a0.f0) = true
      ·try simp only [if_pos h5]
       by_cases h6 : (a0.f1.toList == (⟨#[]⟩ : ByteArray).toList) = true
       ·try simp only [if_pos h6]
        exact cp (by kernel_rfl) (.r 11 [] [] f0 (.r 35 [] [] f1 (.n 3 h0 (.n 5 h1 (.g h0 (.g h1 (.g h0 (.m 6 h2 (.n 3 h3 (.n 5 h4 (.g h3 (.g h4 (.g h3 (.m 6 h5 (.m 6 h6 (.f h5 (.f h6 (.f h5 (.z 40 (.z 42 (.z 44 (.z 46 (.z 48 (.z 50 (.z 52 (.z 54 (.z 56 (.z 57 (.z 59 (.y 68 (.y 70 (.y 72 (.y 74 (.y 76 (.y 79 (.z 84 (.z 86 (.z 88 (.z 90 (.z 92 (.z 94 (.z 96 (.z 98 (.z 100 (.z 101 (.z 103 (.y 109 (.y 111 (.y 113 (.y 115 (.y 117 (.y 119 (.y 121 (.y 123 (.y 125 (.y 127 (.y 129 (.y 131 (.y 133 (.y 134 (.y 136 .nil)))))))))))))))))))))))))))))))))))))))))))))))))))))))))))))
       ·try simp only [if_neg h6]
        have f41 := e114 (a0 := a0.f1) (by with_reducible assumption)
        by_cases h7 : (!(m114 a0.f1)) = true
        ·try simp only [if_pos h7]
         exact cp (by kernel_rfl) (.r 11 [] [] f0 (.r 35 [] [] f1 (.n 3 h0 (.n 5 h1 (.g h0 (.g h1 (.g h0 (.m 6 h2 (.n 3 h3 (.n 5 h4 (.g h3 (.g h4 (.g h3 (.m 6 h5 (.n 5 h6 (.z 40 (.z 42 (.z 44 (.z 46 (.z 48 (.z 50 (.z 52 (.z 54 (.z 56 (.z 57 (.z 59 (.y 68 (.y 70 (.y 72 (.y 74 (.y 76 (.y 79 (.z 84 (.z 86 (.z 88 (.z 90 (.z 92 (.z 94 (.z 96 (.z 98 (.z 100 (.z 101 (.z 103 (.y 109 (.y 111 (.y 113 (.y 115 (.y 117 (.y 119 (.z 121 (.z 123 (.z 125 (.z 127 (.z 129 (.r 130 [] [] f41 (.g h6 (.f h5 (.g h6 (.f h5 (.f h7 (.z 131 (.y 133 (.z 134 (.y 136 (.y 137 .nil)))))))))))))))))))))))))))))))))))))))))))))))))))))))))))))))))
        ·try simp only [if_neg h7]
         have f47 := e115 (a0 := a0.f2)
         by_cases h8 : (!(m113 a0.f2 0 2147483646)) = true
         ·try simp only [if_pos h8]
          exact cp (by kernel_rfl) (.r 11 [] [] f0 (.r 35 [] [] f1 (.n 3 h0 (.n 5 h1 (.g h0 (.g h1 (.g h0 (.m 6 h2 (.n 3 h3 (.n 5 h4 (.g h3 (.g h4 (.g h3 (.m 6 h5 (.n 5 h6 (.z 40 (.z 42 (.z 44 (.z 46 (.z 48 (.z 50 (.z 52 (.z 54 (.z 56 (.z 57 (.z 59 (.y 68 (.y 70 (.y 72 (.y 74 (.y 76 (.y 79 (.z 84 (.z 86 (.z 88 (.z 90 (.z 92 (.z 94 (.z 96 (.z 98 (.z 100 (.z 101 (.z 103 (.y 109 (.y 111 (.y 113 (.y 115 (.y 117 (.y 119 (.z 121 (.z 123 (.z 125 (.z 127 (.z 129 (.r 130 [] [] f41 (.g h6 (.f h5 (.g h6 (.f h5 (.g h7 (.z 131 (.y 133 (.z 134 (.y 136 (.z 137 (.r 147 [] [] f47 (.m 7 h8 (.y 152 (.y 154 (.y 156 (.y 158 (.y 160 (.y 162 (.y 165 .nil))))))))))))))))))))))))))))))))))))))))))))))))))))))))))))))))))))))))))
         ·try simp only [if_neg h8]
          have f53 := e75 (a0 := a0.f3)
          by_cases h9 : (!(m113 a0.f3 0 1000000)) = true
          ·try simp only [if_pos h9]
           exact cp (by kernel_rfl) (.r 11 [] [] f0 (.r 35 [] [] f1 (.n 3 h0 (.n 5 h1 (.g h0 (.g h1 (.g h0 (.m 6 h2 (.n 3 h3 (.n 5 h4 (.g h3 (.g h4 (.g h3 (.m 6 h5 (.n 5 h6 (.z 40 (.z 42 (.z 44 (.z 46 (.z 48 (.z 50 (.z 52 (.z 54 (.z 56 (.z 57 (.z 59 (.y 68 (.y 70 (.y 72 (.y 74 (.y 76 (.y 79 (.z 84 (.z 86 (.z 88 (.z 90 (.z 92 (.z 94 (.z 96 (.z 98 (.z 100 (.z 101 (.z 103 (.y 109 (.y 111 (.y 113 (.y 115 (.y 117 (.y 119 (.z 121 (.z 123 (.z 125 (.z 127 (.z 129 (.r 130 [] [] f41 (.g h6 (.f h5 (.g h6 (.f h5 (.g h7 (.z 131 (.y 133 (.z 134 (.y 136 (.z 137 (.r 147 [] [] f47 (.n 5 h8 (.z 152 (.z 154 (.z 156 (.z 158 (.z 160 (.r 161 [] [] f53 (.n 2 h8 (.m 4 h9 (.z 162 (.z 165 (.y 168 (.y 170 (.y 182 (.y 185 .nil)))))))))))))))))))))))))))))))))))))))))))))))))))))))))))))))))))))))))))))))))
          ·try simp only [if_neg h9]
           by_cases h10 : (decide (a0.f3 < 1)) = true
           ·try simp only [if_pos h10]
            exact cp (by kernel_rfl) (.r 11 [] [] f0 (.r 35 [] [] f1 (.n 3 h0 (.n 5 h1 (.g h0 (.g h1 (.g h0 (.m 6 h2 (.n 3 h3 (.n 5 h4 (.g h3 (.g h4 (.g h3 (.m 6 h5 (.n 5 h6 (.z 40 (.z 42 (.z 44 (.z 46 (.z 48 (.z 50 (.z 52 (.z 54 (.z 56 (.z 57 (.z 59 (.y 68 (.y 70 (.y 72 (.y 74 (.y 76 (.y 79 (.z 84 (.z 86 (.z 88 (.z 90 (.z 92 (.z 94 (.z 96 (.z 98 (.z 100 (.z 101 (.z 103 (.y 109 (.y 111 (.y 113 (.y 115 (.y 117 (.y 119 (.z 121 (.z 123 (.z 125 (.z 127 (.z 129 (.r 130 [] [] f41 (.g h6 (.f h5 (.g h6 (.f h5 (.g h7 (.z 131 (.y 133 (.z 134 (.y 136 (.z 137 (.r 147 [] [] f47 (.n 5 h8 (.z 152 (.z 154 (.z 156 (.z 158 (.z 160 (.r 161 [] [] f53 (.n 2 h8 (.n 2 h9 (.m 5 h5 (.g h9 (.f h5 (.g h9 (.m 8 h10 (.z 162 (.z 165 (.z 168 (.z 170 (.y 172 (.y 174 (.y 176 (.y 178 (.y 180 (.z 182 (.y 183 (.z 185 (.y 188 (.y 190 (.y 192 (.y 194 (.y 196 (.y 198 (.y 210 (.y 213 .nil))))))))))))))))))))))))))))))))))))))))))))))))))))))))))))))))))))))))))))))))))))))))))))))))))))
           ·try simp only [if_neg h10]
            by_cases h11 : (a0.f0 == 1) = true
            ·try simp only [if_pos h11]
             by_cases h12 : (decide (a0.f3 > 9999)) = true
             ·try simp only [if_pos h12]
              exact cp (by kernel_rfl) (.r 11 [] [] f0 (.r 35 [] [] f1 (.n 3 h0 (.n 5 h1 (.g h0 (.g h1 (.g h0 (.m 6 h2 (.n 3 h3 (.n 5 h4 (.g h3 (.g h4 (.g h3 (.m 6 h5 (.n 5 h6 (.z 40 (.z 42 (.z 44 (.z 46 (.z 48 (.z 50 (.z 52 (.z 54 (.z 56 (.z 57 (.z 59 (.y 68 (.y 70 (.y 72 (.y 74 (.y 76 (.y 79 (.z 84 (.z 86 (.z 88 (.z 90 (.z 92 (.z 94 (.z 96 (.z 98 (.z 100 (.z 101 (.z 103 (.y 109 (.y 111 (.y 113 (.y 115 (.y 117 (.y 119 (.z 121 (.z 123 (.z 125 (.z 127 (.z 129 (.r 130 [] [] f41 (.g h6 (.f h5 (.g h6 (.f h5 (.g h7 (.z 131 (.y 133 (.z 134 (.y 136 (.z 137 (.r 147 [] [] f47 (.n 5 h8 (.z 152 (.z 154 (.z 156 (.z 158 (.z 160 (.r 161 [] [] f53 (.n 2 h8 (.n 2 h9 (.m 5 h5 (.g h9 (.f h5 (.g h9 (.n 6 h10 (.m 5 h11 (.g h10 (.f h11 (.g h10 (.f h12 (.z 162 (.z 165 (.z 168 (.z 170 (.y 172 (.y 174 (.y 176 (.y 178 (.y 180 (.z 182 (.y 183 (.z 185 (.z 188 (.z 190 (.z 192 (.z 194 (.z 196 (.z 198 (.y 200 (.y 202 (.y 204 (.y 206 (.y 208 (.z 210 (.y 211 (.z 213 (.y 214 .nil))))))))))))))))))))))))))))))))))))))))))))))))))))))))))))))))))))))))))))))))))))))))))))))))))))))))))))))))
             ·try simp only [if_neg h12]
              exact cp (by kernel_rfl) (.r 11 [] [] f0 (.r 35 [] [] f1 (.n 3 h0 (.n 5 h1 (.g h0 (.g h1 (.g h0 (.m 6 h2 (.n 3 h3 (.n 5 h4 (.g h3 (.g h4 (.g h3 (.m 6 h5 (.n 5 h6 (.z 40 (.z 42 (.z 44 (.z 46 (.z 48 (.z 50 (.z 52 (.z 54 (.z 56 (.z 57 (.z 59 (.y 68 (.y 70 (.y 72 (.y 74 (.y 76 (.y 79 (.z 84 (.z 86 (.z 88 (.z 90 (.z 92 (.z 94 (.z 96 (.z 98 (.z 100 (.z 101 (.z 103 (.y 109 (.y 111 (.y 113 (.y 115 (.y 117 (.y 119 (.z 121 (.z 123 (.z 125 (.z 127 (.z 129 (.r 130 [] [] f41 (.g h6 (.f h5 (.g h6 (.f h5 (.g h7 (.z 131 (.y 133 (.z 134 (.y 136 (.z 137 (.r 147 [] [] f47 (.n 5 h8 (.z 152 (.z 154 (.z 156 (.z 158 (.z 160 (.r 161 [] [] f53 (.n 2 h8 (.n 2 h9 (.m 5 h5 (.g h9 (.f h5 (.g h9 (.n 6 h10 (.m 5 h11 (.g h10 (.f h11 (.g h10 (.g h12 (.z 162 (.z 165 (.z 168 (.z 170 (.y 172 (.y 174 (.y 176 (.y 178 (.y 180 (.z 182 (.y 183 (.z 185 (.z 188 (.z 190 (.z 192 (.z 194 (.z 196 (.z 198 (.y 200 (.y 202 (.y 204 (.y 206 (.y 208 (.z 210 (.y 211 (.z 213 (.z 214 .nil))))))))))))))))))))))))))))))))))))))))))))))))))))))))))))))))))))))))))))))))))))))))))))))))))))))))))))))))
            ·try simp only [if_neg h11]
             exact cp (by kernel_rfl) (.r 11 [] [] f0 (.r 35 [] [] f1 (.n 3 h0 (.n 5 h1 (.g h0 (.g h1 (.g h0 (.m 6 h2 (.n 3 h3 (.n 5 h4 (.g h3 (.g h4 (.g h3 (.m 6 h5 (.n 5 h6 (.z 40 (.z 42 (.z 44 (.z 46 (.z 48 (.z 50 (.z 52 (.z 54 (.z 56 (.z 57 (.z 59 (.y 68 (.y 70 (.y 72 (.y 74 (.y 76 (.y 79 (.z 84 (.z 86 (.z 88 (.z 90 (.z 92 (.z 94 (.z 96 (.z 98 (.z 100 (.z 101 (.z 103 (.y 109 (.y 111 (.y 113 (.y 115 (.y 117 (.y 119 (.z 121 (.z 123 (.z 125 (.z 127 (.z 129 (.r 130 [] [] f41 (.g h6 (.f h5 (.g h6 (.f h5 (.g h7 (.z 131 (.y 133 (.z 134 (.y 136 (.z 137 (.r 147 [] [] f47 (.n 5 h8 (.z 152 (.z 154 (.z 156 (.z 158 (.z 160 (.r 161 [] [] f53 (.n 2 h8 (.n 2 h9 (.m 5 h5 (.g h9 (.f h5 (.g h9 (.n 6 h10 (.n 5 h11 (.g h10 (.g h11 (.g h10 (.z 162 (.z 165 (.z 168 (.z 170 (.y 172 (.y 174 (.y 176 (.y 178 (.y 180 (.z 182 (.y 183 (.z 185 (.z 188 (.z 190 (.z 192 (.z 194 (.z 196 (.z 198 (.z 200 (.z 202 (.z 204 (.z 206 (.z 208 (.z 210 (.z 211 (.z 213 .nil))))))))))))))))))))))))))))))))))))))))))))))))))))))))))))))))))))))))))))))))))))))))))))))))))))))))))))))
      ·try simp only [if_neg h5]
       have f38 := e115 (a0 := a0.f2)
       by_cases h6 : (!(m113 a0.f2 0 2147483646)) = true
       ·try simp only [if_pos h6]
        exact cp (by kernel_rfl) (.r 11 [] [] f0 (.r 35 [] [] f1 (.n 3 h0 (.n 5 h1 (.g h0 (.g h1 (.g h0 (.m 6 h2 (.n 3 h3 (.n 5 h4 (.g h3 (.g h4 (.g h3 (.n 8 h5 (.z 40 (.z 42 (.z 44 (.z 46 (.z 48 (.z 50 (.z 52 (.z 54 (.z 56 (.z 57 (.z 59 (.y 68 (.y 70 (.y 72 (.y 74 (.y 76 (.y 79 (.z 84 (.z 86 (.z 88 (.z 90 (.z 92 (.z 94 (.z 96 (.z 98 (.z 100 (.z 101 (.z 103 (.z 109 (.z 111 (.z 113 (.z 115 (.z 117 (.z 119 (.z 133 (.z 136 (.r 147 [] [] f38 (.m 7 h6 (.y 152 (.y 154 (.y 156 (.y 158 (.y 160 (.y 162 (.y 165 .nil)))))))))))))))))))))))))))))))))))))))))))))))))))))))))))
       ·try simp only [if_neg h6]
        have f44 := e75 (a0 := a0.f3)
        by_cases h7 : (!(m113 a0.f3 0 1000000)) = true
        ·try simp only [if_pos h7]
         exact cp (by kernel_rfl) (.r 11 [] [] f0 (.r 35 [] [] f1 (.n 3 h0 (.n 5 h1 (.g h0 (.g h1 (.g h0 (.m 6 h2 (.n 3 h3 (.n 5 h4 (.g h3 (.g h4 (.g h3 (.n 8 h5 (.z 40 (.z 42 (.z 44 (.z 46 (.z 48 (.z 50 (.z 52 (.z 54 (.z 56 (.z 57 (.z 59 (.y 68 (.y 70 (.y 72 (.y 74 (.y 76 (.y 79 (.z 84 (.z 86 (.z 88 (.z 90 (.z 92 (.z 94 (.z 96 (.z 98 (.z 100 (.z 101 (.z 103 (.z 109 (.z 111 (.z 113 (.z 115 (.z 117 (.z 119 (.z 133 (.z 136 (.r 147 [] [] f38 (.n 5 h6 (.z 152 (.z 154 (.z 156 (.z 158 (.z 160 (.r 161 [] [] f44 (.n 2 h6 (.m 4 h7 (.z 162 (.z 165 (.y 168 (.y 170 (.y 182 (.y 185 .nil))))))))))))))))))))))))))))))))))))))))))))))))))))))))))))))))))
        ·try simp only [if_neg h7]
         by_cases h8 : (a0.f0 == 1) = true
         ·try simp only [if_pos h8]
          by_cases h9 : (decide (a0.f3 > 9999)) = true
          ·try simp only [if_pos h9]
           exact cp (by kernel_rfl) (.r 11 [] [] f0 (.r 35 [] [] f1 (.n 3 h0 (.n 5 h1 (.g h0 (.g h1 (.g h0 (.m 6 h2 (.n 3 h3 (.n 5 h4 (.g h3 (.g h4 (.g h3 (.n 8 h5 (.z 40 (.z 42 (.z 44 (.z 46 (.z 48 (.z 50 (.z 52 (.z 54 (.z 56 (.z 57 (.z 59 (.y 68 (.y 70 (.y 72 (.y 74 (.y 76 (.y 79 (.z 84 (.z 86 (.z 88 (.z 90 (.z 92 (.z 94 (.z 96 (.z 98 (.z 100 (.z 101 (.z 103 (.z 109 (.z 111 (.z 113 (.z 115 (.z 117 (.z 119 (.z 133 (.z 136 (.r 147 [] [] f38 (.n 5 h6 (.z 152 (.z 154 (.z 156 (.z 158 (.z 160 (.r 161 [] [] f44 (.n 2 h6 (.n 2 h7 (.n 5 h5 (.g h7 (.g h5 (.g h7 (.m 6 h8 (.f h9 (.z 162 (.z 165 (.z 168 (.z 170 (.z 172 (.z 174 (.z 176 (.z 178 (.z 180 (.z 182 (.z 183 (.z 185 (.y 200 (.y 202 (.y 204 (.y 206 (.y 208 (.y 211 (.y 214 .nil)))))))))))))))))))))))))))))))))))))))))))))))))))))))))))))))))))))))))))))))))))))
          ·try simp only [if_neg h9]
           exact cp (by kernel_rfl) (.r 11 [] [] f0 (.r 35 [] [] f1 (.n 3 h0 (.n 5 h1 (.g h0 (.g h1 (.g h0 (.m 6 h2 (.n 3 h3 (.n 5 h4 (.g h3 (.g h4 (.g h3 (.n 8 h5 (.z 40 (.z 42 (.z 44 (.z 46 (.z 48 (.z 50 (.z 52 (.z 54 (.z 56 (.z 57 (.z 59 (.y 68 (.y 70 (.y 72 (.y 74 (.y 76 (.y 79 (.z 84 (.z 86 (.z 88 (.z 90 (.z 92 (.z 94 (.z 96 (.z 98 (.z 100 (.z 101 (.z 103 (.z 109 (.z 111 (.z 113 (.z 115 (.z 117 (.z 119 (.z 133 (.z 136 (.r 147 [] [] f38 (.n 5 h6 (.z 152 (.z 154 (.z 156 (.z 158 (.z 160 (.r 161 [] [] f44 (.n 2 h6 (.n 2 h7 (.n 5 h5 (.g h7 (.g h5 (.g h7 (.m 6 h8 (.g h9 (.z 162 (.z 165 (.z 168 (.z 170 (.z 172 (.z 174 (.z 176 (.z 178 (.z 180 (.z 182 (.z 183 (.z 185 (.y 200 (.y 202 (.y 204 (.y 206 (.y 208 (.y 211 (.z 214 .nil)))))))))))))))))))))))))))))))))))))))))))))))))))))))))))))))))))))))))))))))))))))
         ·try simp only [if_neg h8]
          exact cp (by kernel_rfl) (.r 11 [] [] f0 (.r 35 [] [] f1 (.n 3 h0 (.n 5 h1 (.g h0 (.g h1 (.g h0 (.m 6 h2 (.n 3 h3 (.n 5 h4 (.g h3 (.g h4 (.g h3 (.n 8 h5 (.z 40 (.z 42 (.z 44 (.z 46 (.z 48 (.z 50 (.z 52 (.z 54 (.z 56 (.z 57 (.z 59 (.y 68 (.y 70 (.y 72 (.y 74 (.y 76 (.y 79 (.z 84 (.z 86 (.z 88 (.z 90 (.z 92 (.z 94 (.z 96 (.z 98 (.z 100 (.z 101 (.z 103 (.z 109 (.z 111 (.z 113 (.z 115 (.z 117 (.z 119 (.z 133 (.z 136 (.r 147 [] [] f38 (.n 5 h6 (.z 152 (.z 154 (.z 156 (.z 158 (.z 160 (.r 161 [] [] f44 (.n 2 h6 (.n 2 h7 (.n 5 h5 (.g h7 (.g h5 (.g h7 (.n 6 h8 (.z 162 (.z 165 (.z 168 (.z 170 (.z 172 (.z 174 (.z 176 (.z 178 (.z 180 (.z 182 (.z 183 (.z 185 (.z 200 (.z 202 (.z 204 (.z 206 (.z 208 (.z 211 .nil)))))))))))))))))))))))))))))))))))))))))))))))))))))))))))))))))))))))))))))))))))
   ·try simp only [if_neg h2]
    by_cases h3 : (!(m112_2 a0.f0)) = true
    ·try simp only [if_pos h3]
     by_cases h4 : (a0.f3 != 0) = true
     ·try simp only [if_pos h4]
      exact cp (by kernel_rfl) (.r 11 [] [] f0 (.r 35 [] [] f1 (.n 3 h0 (.n 5 h1 (.g h0 (.g h1 (.g h0 (.n 6 h2 (.m 6 h3 (.f h4 (.z 40 (.z 42 (.z 44 (.z 46 (.z 48 (.z 50 (.z 52 (.z 54 (.z 56 (.z 57 (.z 59 (.z 68 (.z 70 (.z 72 (.z 74 (.z 76 (.z 79 (.y 90 (.y 92 (.y 94 (.y 96 (.y 98 (.y 101 (.y 104 .nil))))))))))))))))))))))))))))))))))
     ·try simp only [if_neg h4]
      by_cases h5 : (m112_0 a0.f0) = true
      ·try simp only [if_pos h5]
       by_cases h6 : (a0.f1.toList == (⟨#[]⟩ : ByteArray).toList) = true
       ·try simp only [if_pos h6]
        exact cp (by kernel_rfl) (.r 11 [] [] f0 (.r 35 [] [] f1 (.n 3 h0 (.n 5 h1 (.g h0 (.g h1 (.g h0 (.n 6 h2 (.m 6 h3 (.g h4 (.m 6 h5 (.m 6 h6 (.f h5 (.f h6 (.f h5 (.z 40 (.z 42 (.z 44 (.z 46 (.z 48 (.z 50 (.z 52 (.z 54 (.z 56 (.z 57 (.z 59 (.z 68 (.z 70 (.z 72 (.z 74 (.z 76 (.z 79 (.y 90 (.y 92 (.y 94 (.y 96 (.y 98 (.y 101 (.z 104 (.y 109 (.y 111 (.y 113 (.y 115 (.y 117 (.y 119 (.y 121 (.y 123 (.y 125 (.y 127 (.y 129 (.y 131 (.y 133 (.y 134 (.y 136 .nil))))))))))))))))))))))))))))))))))))))))))))))))))))))
       ·try simp only [if_neg h6]
        have f37 := e114 (a0 := a0.f1) (by with_reducible assumption)
        by_cases h7 : (!(m114 a0.f1)) = true
        ·try simp only [if_pos h7]
         exact cp (by kernel_rfl) (.r 11 [] [] f0 (.r 35 [] [] f1 (.n 3 h0 (.n 5 h1 (.g h0 (.g h1 (.g h0 (.n 6 h2 (.m 6 h3 (.g h4 (.m 6 h5 (.n 5 h6 (.z 40 (.z 42 (.z 44 (.z 46 (.z 48 (.z 50 (.z 52 (.z 54 (.z 56 (.z 57 (.z 59 (.z 68 (.z 70 (.z 72 (.z 74 (.z 76 (.z 79 (.y 90 (.y 92 (.y 94 (.y 96 (.y 98 (.y 101 (.z 104 (.y 109 (.y 111 (.y 113 (.y 115 (.y 117 (.y 119 (.z 121 (.z 123 (.z 125 (.z 127 (.z 129 (.r 130 [] [] f37 (.g h6 (.f h5 (.g h6 (.f h5 (.f h7 (.z 131 (.y 133 (.z 134 (.y 136 (.y 137 .nil))))))))))))))))))))))))))))))))))))))))))))))))))))))))))
        ·try simp only [if_neg h7]
         have f43 := e115 (a0 := a0.f2)
         by_cases h8 : (!(m113 a0.f2 0 2147483646)) = true
         ·try simp only [if_pos h8]
          exact cp (by kernel_rfl) (.r 11 [] [] f0 (.r 35 [] [] f1 (.n 3 h0 (.n 5 h1 (.g h0 (.g h1 (.g h0 (.n 6 h2 (.m 6 h3 (.g h4 (.m 6 h5 (.n 5 h6 (.z 40 (.z 42 (.z 44 (.z 46 (.z 48 (.z 50 (.z 52 (.z 54 (.z 56 (.z 57 (.z 59 (.z 68 (.z 70 (.z 72 (.z 74 (.z 76 (.z 79 (.y 90 (.y 92 (.y 94 (.y 96 (.y 98 (.y 101 (.z 104 (.y 109 (.y 111 (.y 113 (.y 115 (.y 117 (.y 119 (.z 121 (.z 123 (.z 125 (.z 127 (.z 129 (.r 130 [] [] f37 (.g h6 (.f h5 (.g h6 (.f h5 (.g h7 (.z 131 (.y 133 (.z 134 (.y 136 (.z 137 (.r 147 [] [] f43 (.m 7 h8 (.y 152 (.y 154 (.y 156 (.y 158 (.y 160 (.y 162 (.y 165 .nil)))))))))))))))))))))))))))))))))))))))))))))))))))))))))))))))))))
         ·try simp only [if_neg h8]
          have f49 := e75 (a0 := a0.f3)
          by_cases h9 : (!(m113 a0.f3 0 1000000)) = true
          ·try simp only [if_pos h9]
           exact cp (by kernel_rfl) (.r 11 [] [] f0 (.r 35 [] [] f1 (.n 3 h0 (.n 5 h1 (.g h0 (.g h1 (.g h0 (.n 6 h2 (.m 6 h3 (.g h4 (.m 6 h5 (.n 5 h6 (.z 40 (.z 42 (.z 44 (.z 46 (.z 48 (.z 50 (.z 52 (.z 54 (.z 56 (.z 57 (.z 59 (.z 68 (.z 70 (.z 72 (.z 74 (.z 76 (.z 79 (.y 90 (.y 92 (.y 94 (.y 96 (.y 98 (.y 101 (.z 104 (.y 109 (.y 111 (.y 113 (.y 115 (.y 117 (.y 119 (.z 121 (.z 123 (.z 125 (.z 127 (.z 129 (.r 130 [] [] f37 (.g h6 (.f h5 (.g h6 (.f h5 (.g h7 (.z 131 (.y 133 (.z 134 (.y 136 (.z 137 (.r 147 [] [] f43 (.n 5 h8 (.z 152 (.z 154 (.z 156 (.z 158 (.z 160 (.r 161 [] [] f49 (.n 2 h8 (.m 4 h9 (.z 162 (.z 165 (.y 168 (.y 170 (.y 182 (.y 185 .nil))))))))))))))))))))))))))))))))))))))))))))))))))))))))))))))))))))))))))
          ·try simp only [if_neg h9]
           by_cases h10 : (decide (a0.f3 < 1)) = true
           ·try simp only [if_pos h10]
            exact cp (by kernel_rfl) (.r 11 [] [] f0 (.r 35 [] [] f1 (.n 3 h0 (.n 5 h1 (.g h0 (.g h1 (.g h0 (.n 6 h2 (.m 6 h3 (.g h4 (.m 6 h5 (.n 5 h6 (.z 40 (.z 42 (.z 44 (.z 46 (.z 48 (.z 50 (.z 52 (.z 54 (.z 56 (.z 57 (.z 59 (.z 68 (.z 70 (.z 72 (.z 74 (.z 76 (.z 79 (.y 90 (.y 92 (.y 94 (.y 96 (.y 98 (.y 101 (.z 104 (.y 109 (.y 111 (.y 113 (.y 115 (.y 117 (.y 119 (.z 121 (.z 123 (.z 125 (.z 127 (.z 129 (.r 130 [] [] f37 (.g h6 (.f h5 (.g h6 (.f h5 (.g h7 (.z 131 (.y 133 (.z 134 (.y 136 (.z 137 (.r 147 [] [] f43 (.n 5 h8 (.z 152 (.z 154 (.z 156 (.z 158 (.z 160 (.r 161 [] [] f49 (.n 2 h8 (.n 2 h9 (.m 5 h5 (.g h9 (.f h5 (.g h9 (.m 8 h10 (.z 162 (.z 165 (.z 168 (.z 170 (.y 172 (.y 174 (.y 176 (.y 178 (.y 180 (.z 182 (.y 183 (.z 185 (.y 188 (.y 190 (.y 192 (.y 194 (.y 196 (.y 198 (.y 210 (.y 213 .nil)))))))))))))))))))))))))))))))))))))))))))))))))))))))))))))))))))))))))))))))))))))))))))))
           ·try simp only [if_neg h10]
            by_cases h11 : (a0.f0 == 1) = true
            ·try simp only [if_pos h11]
             by_cases h12 : (decide (a0.f3 > 9999)) = true
             ·try simp only [if_pos h12]
              exact cp (by kernel_rfl) (.r 11 [] [] f0 (.r 35 [] [] f1 (.n 3 h0 (.n 5 h1 (.g h0 (.g h1 (.g h0 (.n 6 h2 (.m 6 h3 (.g h4 (.m 6 h5 (.n 5 h6 (.z 40 (.z 42 (.z 44 (.z 46 (.z 48 (.z 50 (.z 52 (.z 54 (.z 56 (.z 57 (.z 59 (.z 68 (.z 70 (.z 72 (.z 74 (.z 76 (.z 79 (.y 90 (.y 92 (.y 94 (.y 96 (.y 98 (.y 101 (.z 104 (.y 109 (.y 111 (.y 113 (.y 115 (.y 117 (.y 119 (.z 121 (.z 123 (.z 125 (.z 127 (.z 129 (.r 130 [] [] f37 (.g h6 (.f h5 (.g h6 (.f h5 (.g h7 (.z 131 (.y 133 (.z 134 (.y 136 (.z 137 (.r 147 [] [] f43 (.n 5 h8 (.z 152 (.z 154 (.z 156 (.z 158 (.z 160 (.r 161 [] [] f49 (.n 2 h8 (.n 2 h9 (.m 5 h5 (.g h9 (.f h5 (.g h9 (.n 6 h10 (.m 5 h11 (.g h10 (.f h11 (.g h10 (.f h12 (.z 162 (.z 165 (.z 168 (.z 170 (.y 172 (.y 174 (.y 176 (.y 178 (.y 180 (.z 182 (.y 183 (.z 185 (.z 188 (.z 190 (.z 192 (.z 194 (.z 196 (.z 198 (.y 200 (.y 202 (.y 204 (.y 206 (.y 208 (.z 210 (.y 211 (.z 213 (.y 214 .nil)))))))))))))))))))))))))))))))))))))))))))))))))))))))))))))))))))))))))))))))))))))))))))))))))))))))))
             ·try simp only [if_neg h12]
              exact cp (by kernel_rfl) (.r 11 [] [] f0 (.r 35 [] [] f1 (.n 3 h0 (.n 5 h1 (.g h0 (.g h1 (.g h0 (.n 6 h2 (.m 6 h3 (.g h4 (.m 6 h5 (.n 5 h6 (.z 40 (.z 42 (.z 44 (.z 46 (.z 48 (.z 50 (.z 52 (.z 54 (.z 56 (.z 57 (.z 59 (.z 68 (.z 70 (.z 72 (.z 74 (.z 76 (.z 79 (.y 90 (.y 92 (.y 94 (.y 96 (.y 98 (.y 101 (.z 104 (.y 109 (.y 111 (.y 113 (.y 115 (.y 117 (.y 119 (.z 121 (.z 123 (.z 125 (.z 127 (.z 129 (.r 130 [] [] f37 (.g h6 (.f h5 (.g h6 (.f h5 (.g h7 (.z 131 (.y 133 (.z 134 (.y 136 (.z 137 (.r 147 [] [] f43 (.n 5 h8 (.z 152 (.z 154 (.z 156 (.z 158 (.z 160 (.r 161 [] [] f49 (.n 2 h8 (.n 2 h9 (.m 5 h5 (.g h9 (.f h5 (.g h9 (.n 6 h10 (.m 5 h11 (.g h10 (.f h11 (.g h10 (.g h12 (.z 162 (.z 165 (.z 168 (.z 170 (.y 172 (.y 174 (.y 176 (.y 178 (.y 180 (.z 182 (.y 183 (.z 185 (.z 188 (.z 190 (.z 192 (.z 194 (.z 196 (.z 198 (.y 200 (.y 202 (.y 204 (.y 206 (.y 208 (.z 210 (.y 211 (.z 213 (.z 214 .nil)))))))))))))))))))))))))))))))))))))))))))))))))))))))))))))))))))))))))))))))))))))))))))))))))))))))))
            ·try simp only [if_neg h11]
             exact cp (by kernel_rfl) (.r 11 [] [] f0 (.r 35 [] [] f1 (.n 3 h0 (.n 5 h1 (.g h0 (.g h1 (.g h0 (.n 6 h2 (.m 6 h3 (.g h4 (.m 6 h5 (.n 5 h6 (.z 40 (.z 42 (.z 44 (.z 46 (.z 48 (.z 50 (.z 52 (.z 54 (.z 56 (.z 57 (.z 59 (.z 68 (.z 70 (.z 72 (.z 74 (.z 76 (.z 79 (.y 90 (.y 92 (.y 94 (.y 96 (.y 98 (.y 101 (.z 104 (.y 109 (.y 111 (.y 113 (.y 115 (.y 117 (.y 119 (.z 121 (.z 123 (.z 125 (.z 127 (.z 129 (.r 130 [] [] f37 (.g h6 (.f h5 (.g h6 (.f h5 (.g h7 (.z 131 (.y 133 (.z 134 (.y 136 (.z 137 (.r 147 [] [] f43 (.n 5 h8 (.z 152 (.z 154 (.z 156 (.z 158 (.z 160 (.r 161 [] [] f49 (.n 2 h8 (.n 2 h9 (.m 5 h5 (.g h9 (.f h5 (.g h9 (.n 6 h10 (.n 5 h11 (.g h10 (.g h11 (.g h10 (.z 162 (.z 165 (.z 168 (.z 170 (.y 172 (.y 174 (.y 176 (.y 178 (.y 180 (.z 182 (.y 183 (.z 185 (.z 188 (.z 190 (.z 192 (.z 194 (.z 196 (.z 198 (.z 200 (.z 202 (.z 204 (.z 206 (.z 208 (.z 210 (.z 211 (.z 213 .nil)))))))))))))))))))))))))))))))))))))))))))))))))))))))))))))))))))))))))))))))))))))))))))))))))))))))
      ·try simp only [if_neg h5]
       have f34 := e115 (a0 := a0.f2)
       by_cases h6 : (!(m113 a0.f2 0 2147483646)) = true
       ·try simp only [if_pos h6]
        exact cp (by kernel_rfl) (.r 11 [] [] f0 (.r 35 [] [] f1 (.n 3 h0 (.n 5 h1 (.g h0 (.g h1 (.g h0 (.n 6 h2 (.m 6 h3 (.g h4 (.n 8 h5 (.z 40 (.z 42 (.z 44 (.z 46 (.z 48 (.z 50 (.z 52 (.z 54 (.z 56 (.z 57 (.z 59 (.z 68 (.z 70 (.z 72 (.z 74 (.z 76 (.z 79 (.y 90 (.y 92 (.y 94 (.y 96 (.y 98 (.y 101 (.z 104 (.z 109 (.z 111 (.z 113 (.z 115 (.z 117 (.z 119 (.z 133 (.z 136 (.r 147 [] [] f34 (.m 7 h6 (.y 152 (.y 154 (.y 156 (.y 158 (.y 160 (.y 162 (.y 165 .nil))))))))))))))))))))))))))))))))))))))))))))))))))))
       ·try simp only [if_neg h6]
        have f40 := e75 (a0 := a0.f3)
        by_cases h7 : (!(m113 a0.f3 0 1000000)) = true
        ·try simp only [if_pos h7]
         exact cp (by kernel_rfl) (.r 11 [] [] f0 (.r 35 [] [] f1 (.n 3 h0 (.n 5 h1 (.g h0 (.g h1 (.g h0 (.n 6 h2 (.m 6 h3 (.g h4 (.n 8 h5 (.z 40 (.z 42 (.z 44 (.z 46 (.z 48 (.z 50 (.z 52 (.z 54 (.z 56 (.z 57 (.z 59 (.z 68 (.z 70 (.z 72 (.z 74 (.z 76 (.z 79 (.y 90 (.y 92 (.y 94 (.y 96 (.y 98 (.y 101 (.z 104 (.z 109 (.z 111 (.z 113 (.z 115 (.z 117 (.z 119 (.z 133 (.z 136 (.r 147 [] [] f34 (.n 5 h6 (.z 152 (.z 154 (.z 156 (.z 158 (.z 160 (.r 161 [] [] f40 (.n 2 h6 (.m 4 h7 (.z 162 (.z 165 (.y 168 (.y 170 (.y 182 (.y 185 .nil)))))))))))))))))))))))))))))))))))))))))))))))))))))))))))
        ·try simp only [if_neg h7]
         by_cases h8 : (a0.f0 == 1) = true
         ·try simp only [if_pos h8]
          by_cases h9 : (decide (a0.f3 > 9999)) = true
          ·try simp only [if_pos h9]
           exact cp (by kernel_rfl) (.r 11 [] [] f0 (.r 35 [] [] f1 (.n 3 h0 (.n 5 h1 (.g h0 (.g h1 (.g h0 (.n 6 h2 (.m 6 h3 (.g h4 (.n 8 h5 (.z 40 (.z 42 (.z 44 (.z 46 (.z 48 (.z 50 (.z 52 (.z 54 (.z 56 (.z 57 (.z 59 (.z 68 (.z 70 (.z 72 (.z 74 (.z 76 (.z 79 (.y 90 (.y 92 (.y 94 (.y 96 (.y 98 (.y 101 (.z 104 (.z 109 (.z 111 (.z 113 (.z 115 (.z 117 (.z 119 (.z 133 (.z 136 (.r 147 [] [] f34 (.n 5 h6 (.z 152 (.z 154 (.z 156 (.z 158 (.z 160 (.r 161 [] [] f40 (.n 2 h6 (.n 2 h7 (.n 5 h5 (.g h7 (.g h5 (.g h7 (.m 6 h8 (.f h9 (.z 162 (.z 165 (.z 168 (.z 170 (.z 172 (.z 174 (.z 176 (.z 178 (.z 180 (.z 182 (.z 183 (.z 185 (.y 200 (.y 202 (.y 204 (.y 206 (.y 208 (.y 211 (.y 214 .nil))))))))))))))))))))))))))))))))))))))))))))))))))))))))))))))))))))))))))))))
          ·try simp only [if_neg h9]
           exact cp (by kernel_rfl) (.r 11 [] [] f0 (.r 35 [] [] f1 (.n 3 h0 (.n 5 h1 (.g h0 (.g h1 (.g h0 (.n 6 h2 (.m 6 h3 (.g h4 (.n 8 h5 (.z 40 (.z 42 (.z 44 (.z 46 (.z 48 (.z 50 (.z 52 (.z 54 (.z 56 (.z 57 (.z 59 (.z 68 (.z 70 (.z 72 (.z 74 (.z 76 (.z 79 (.y 90 (.y 92 (.y 94 (.y 96 (.y 98 (.y 101 (.z 104 (.z 109 (.z 111 (.z 113 (.z 115 (.z 117 (.z 119 (.z 133 (.z 136 (.r 147 [] [] f34 (.n 5 h6 (.z 152 (.z 154 (.z 156 (.z 158 (.z 160 (.r 161 [] [] f40 (.n 2 h6 (.n 2 h7 (.n 5 h5 (.g h7 (.g h5 (.g h7 (.m 6 h8 (.g h9 (.z 162 (.z 165 (.z 168 (.z 170 (.z 172 (.z 174 (.z 176 (.z 178 (.z 180 (.z 182 (.z 183 (.z 185 (.y 200 (.y 202 (.y 204 (.y 206 (.y 208 (.y 211 (.z 214 .nil))))))))))))))))))))))))))))))))))))))))))))))))))))))))))))))))))))))))))))))
         ·try simp only [if_neg h8]
          exact cp (by kernel_rfl) (.r 11 [] [] f0 (.r 35 [] [] f1 (.n 3 h0 (.n 5 h1 (.g h0 (.g h1 (.g h0 (.n 6 h2 (.m 6 h3 (.g h4 (.n 8 h5 (.z 40 (.z 42 (.z 44 (.z 46 (.z 48 (.z 50 (.z 52 (.z 54 (.z 56 (.z 57 (.z 59 (.z 68 (.z 70 (.z 72 (.z 74 (.z 76 (.z 79 (.y 90 (.y 92 (.y 94 (.y 96 (.y 98 (.y 101 (.z 104 (.z 109 (.z 111 (.z 113 (.z 115 (.z 117 (.z 119 (.z 133 (.z 136 (.r 147 [] [] f34 (.n 5 h6 (.z 152 (.z 154 (.z 156 (.z 158 (.z 160 (.r 161 [] [] f40 (.n 2 h6 (.n 2 h7 (.n 5 h5 (.g h7 (.g h5 (.g h7 (.n 6 h8 (.z 162 (.z 165 (.z 168 (.z 170 (.z 172 (.z 174 (.z 176 (.z 178 (.z 180 (.z 182 (.z 183 (.z 185 (.z 200 (.z 202 (.z 204 (.z 206 (.z 208 (.z 211 .nil))))))))))))))))))))))))))))))))))))))))))))))))))))))))))))))))))))))))))))
    ·try simp only [if_neg h3]
     by_cases h4 : (m112_0 a0.f0) = true
     ·try simp only [if_pos h4]
      by_cases h5 : (a0.f1.toList == (⟨#[]⟩ : ByteArray).toList) = true
      ·try simp only [if_pos h5]
       exact cp (by kernel_rfl) (.r 11 [] [] f0 (.r 35 [] [] f1 (.n 3 h0 (.n 5 h1 (.g h0 (.g h1 (.g h0 (.n 6 h2 (.n 6 h3 (.m 6 h4 (.m 6 h5 (.f h4 (.f h5 (.f h4 (.z 40 (.z 42 (.z 44 (.z 46 (.z 48 (.z 50 (.z 52 (.z 54 (.z 56 (.z 57 (.z 59 (.z 68 (.z 70 (.z 72 (.z 74 (.z 76 (.z 79 (.z 90 (.z 92 (.z 94 (.z 96 (.z 98 (.z 101 (.y 109 (.y 111 (.y 113 (.y 115 (.y 117 (.y 119 (.y 121 (.y 123 (.y 125 (.y 127 (.y 129 (.y 131 (.y 133 (.y 134 (.y 136 .nil))))))))))))))))))))))))))))))))))))))))))))))))))))
      ·try simp only [if_neg h5]
       have f36 := e114 (a0 := a0.f1) (by with_reducible assumption)
       by_cases h6 : (!(m114 a0.f1)) = true
       ·try simp only [if_pos h6]
        exact cp (by kernel_rfl) (.r 11 [] [] f0 (.r 35 [] [] f1 (.n 3 h0 (.n 5 h1 (.g h0 (.g h1 (.g h0 (.n 6 h2 (.n 6 h3 (.m 6 h4 (.n 5 h5 (.z 40 (.z 42 (.z 44 (.z 46 (.z 48 (.z 50 (.z 52 (.z 54 (.z 56 (.z 57 (.z 59 (.z 68 (.z 70 (.z 72 (.z 74 (.z 76 (.z 79 (.z 90 (.z 92 (.z 94 (.z 96 (.z 98 (.z 101 (.y 109 (.y 111 (.y 113 (.y 115 (.y 117 (.y 119 (.z 121 (.z 123 (.z 125 (.z 127 (.z 129 (.r 130 [] [] f36 (.g h5 (.f h4 (.g h5 (.f h4 (.f h6 (.z 131 (.y 133 (.z 134 (.y 136 (.y 137 .nil))))))))))))))))))))))))))))))))))))))))))))))))))))))))
       ·try simp only [if_neg h6]
        have f42 := e115 (a0 := a0.f2)
        by_cases h7 : (!(m113 a0.f2 0 2147483646)) = true
        ·try simp only [if_pos h7]
         exact cp (by kernel_rfl) (.r 11 [] [] f0 (.r 35 [] [] f1 (.n 3 h0 (.n 5 h1 (.g h0 (.g h1 (.g h0 (.n 6 h2 (.n 6 h3 (.m 6 h4 (.n 5 h5 (.z 40 (.z 42 (.z 44 (.z 46 (.z 48 (.z 50 (.z 52 (.z 54 (.z 56 (.z 57 (.z 59 (.z 68 (.z 70 (.z 72 (.z 74 (.z 76 (.z 79 (.z 90 (.z 92 (.z 94 (.z 96 (.z 98 (.z 101 (.y 109 (.y 111 (.y 113 (.y 115 (.y 117 (.y 119 (.z 121 (.z 123 (.z 125 (.z 127 (.z 129 (.r 130 [] [] f36 (.g h5 (.f h4 (.g h5 (.f h4 (.g h6 (.z 131 (.y 133 (.z 134 (.y 136 (.z 137 (.r 147 [] [] f42 (.m 7 h7 (.y 152 (.y 154 (.y 156 (.y 158 (.y 160 (.y 162 (.y 165 .nil)))))))))))))))))))))))))))))))))))))))))))))))))))))))))))))))))
        ·try simp only [if_neg h7]
         have f48 := e75 (a0 := a0.f3)
         by_cases h8 : (!(m113 a0.f3 0 1000000)) = true
         ·try simp only [if_pos h8]
          exact cp (by kernel_rfl) (.r 11 [] [] f0 (.r 35 [] [] f1 (.n 3 h0 (.n 5 h1 (.g h0 (.g h1 (.g h0 (.n 6 h2 (.n 6 h3 (.m 6 h4 (.n 5 h5 (.z 40 (.z 42 (.z 44 (.z 46 (.z 48 (.z 50 (.z 52 (.z 54 (.z 56 (.z 57 (.z 59 (.z 68 (.z 70 (.z 72 (.z 74 (.z 76 (.z 79 (.z 90 (.z 92 (.z 94 (.z 96 (.z 98 (.z 101 (.y 109 (.y 111 (.y 113 (.y 115 (.y 117 (.y 119 (.z 121 (.z 123 (.z 125 (.z 127 (.z 129 (.r 130 [] [] f36 (.g h5 (.f h4 (.g h5 (.f h4 (.g h6 (.z 131 (.y 133 (.z 134 (.y 136 (.z 137 (.r 147 [] [] f42 (.n 5 h7 (.z 152 (.z 154 (.z 156 (.z 158 (.z 160 (.r 161 [] [] f48 (.n 2 h7 (.m 4 h8 (.z 162 (.z 165 (.y 168 (.y 170 (.y 182 (.y 185 .nil))))))))))))))))))))))))))))))))))))))))))))))))))))))))))))))))))))))))
         ·try simp only [if_neg h8]
          by_cases h9 : (decide (a0.f3 < 1)) = true
          ·try simp only [if_pos h9]
           exact cp (by kernel_rfl) (.r 11 [] [] f0 (.r 35 [] [] f1 (.n 3 h0 (.n 5 h1 (.g h0 (.g h1 (.g h0 (.n 6 h2 (.n 6 h3 (.m 6 h4 (.n 5 h5 (.z 40 (.z 42 (.z 44 (.z 46 (.z 48 (.z 50 (.z 52 (.z 54 (.z 56 (.z 57 (.z 59 (.z 68 (.z 70 (.z 72 (.z 74 (.z 76 (.z 79 (.z 90 (.z 92 (.z 94 (.z 96 (.z 98 (.z 101 (.y 109 (.y 111 (.y 113 (.y 115 (.y 117 (.y 119 (.z 121 (.z 123 (.z 125 (.z 127 (.z 129 (.r 130 [] [] f36 (.g h5 (.f h4 (.g h5 (.f h4 (.g h6 (.z 131 (.y 133 (.z 134 (.y 136 (.z 137 (.r 147 [] [] f42 (.n 5 h7 (.z 152 (.z 154 (.z 156 (.z 158 (.z 160 (.r 161 [] [] f48 (.n 2 h7 (.n 2 h8 (.m 5 h4 (.g h8 (.f h4 (.g h8 (.m 8 h9 (.z 162 (.z 165 (.z 168 (.z 170 (.y 172 (.y 174 (.y 176 (.y 178 (.y 180 (.z 182 (.y 183 (.z 185 (.y 188 (.y 190 (.y 192 (.y 194 (.y 196 (.y 198 (.y 210 (.y 213 .nil)))))))))))))))))))))))))))))))))))))))))))))))))))))))))))))))))))))))))))))))))))))))))))
          ·try simp only [if_neg h9]
           by_cases h10 : (a0.f0 == 1) = true
           ·try simp only [if_pos h10]
            by_cases h11 : (decide (a0.f3 > 9999)) = true
            ·try simp only [if_pos h11]
             exact cp (by kernel_rfl) (.r 11 [] [] f0 (.r 35 [] [] f1 (.n 3 h0 (.n 5 h1 (.g h0 (.g h1 (.g h0 (.n 6 h2 (.n 6 h3 (.m 6 h4 (.n 5 h5 (.z 40 (.z 42 (.z 44 (.z 46 (.z 48 (.z 50 (.z 52 (.z 54 (.z 56 (.z 57 (.z 59 (.z 68 (.z 70 (.z 72 (.z 74 (.z 76 (.z 79 (.z 90 (.z 92 (.z 94 (.z 96 (.z 98 (.z 101 (.y 109 (.y 111 (.y 113 (.y 115 (.y 117 (.y 119 (.z 121 (.z 123 (.z 125 (.z 127 (.z 129 (.r 130 [] [] f36 (.g h5 (.f h4 (.g h5 (.f h4 (.g h6 (.z 131 (.y 133 (.z 134 (.y 136 (.z 137 (.r 147 [] [] f42 (.n 5 h7 (.z 152 (.z 154 (.z 156 (.z 158 (.z 160 (.r 161 [] [] f48 (.n 2 h7 (.n 2 h8 (.m 5 h4 (.g h8 (.f h4 (.g h8 (.n 6 h9 (.m 5 h10 (.g h9 (.f h10 (.g h9 (.f h11 (.z 162 (.z 165 (.z 168 (.z 170 (.y 172 (.y 174 (.y 176 (.y 178 (.y 180 (.z 182 (.y 183 (.z 185 (.z 188 (.z 190 (.z 192 (.z 194 (.z 196 (.z 198 (.y 200 (.y 202 (.y 204 (.y 206 (.y 208 (.z 210 (.y 211 (.z 213 (.y 214 .nil)))))))))))))))))))))))))))))))))))))))))))))))))))))))))))))))))))))))))))))))))))))))))))))))))))))))
            ·try simp only [if_neg h11]
             exact cp (by kernel_rfl) (.r 11 [] [] f0 (.r 35 [] [] f1 (.n 3 h0 (.n 5 h1 (.g h0 (.g h1 (.g h0 (.n 6 h2 (.n 6 h3 (.m 6 h4 (.n 5 h5 (.z 40 (.z 42 (.z 44 (.z 46 (.z 48 (.z 50 (.z 52 (.z 54 (.z 56 (.z 57 (.z 59 (.z 68 (.z 70 (.z 72 (.z 74 (.z 76 (.z 79 (.z 90 (.z 92 (.z 94 (.z 96 (.z 98 (.z 101 (.y 109 (.y 111 (.y 113 (.y 115 (.y 117 (.y 119 (.z 121 (.z 123 (.z 125 (.z 127 (.z 129 (.r 130 [] [] f36 (.g h5 (.f h4 (.g h5 (.f h4 (.g h6 (.z 131 (.y 133 (.z 134 (.y 136 (.z 137 (.r 147 [] [] f42 (.n 5 h7 (.z 152 (.z 154 (.z 156 (.z 158 (.z 160 (.r 161 [] [] f48 (.n 2 h7 (.n 2 h8 (.m 5 h4 (.g h8 (.f h4 (.g h8 (.n 6 h9 (.m 5 h10 (.g h9 (.f h10 (.g h9 (.g h11 (.z 162 (.z 165 (.z 168 (.z 170 (.y 172 (.y 174 (.y 176 (.y 178 (.y 180 (.z 182 (.y 183 (.z 185 (.z 188 (.z 190 (.z 192 (.z 194 (.z 196 (.z 198 (.y 200 (.y 202 (.y 204 (.y 206 (.y 208 (.z 210 (.y 211 (.z 213 (.z 214 .nil)))))))))))))))))))))))))))))))))))))))))))))))))))))))))))))))))))))))))))))))))))))))))))))))))))))))
           ·try simp only [if_neg h10]
            exact cp (by kernel_rfl) (.r 11 [] [] f0 (.r 35 [] [] f1 (.n 3 h0 (.n 5 h1 (.g h0 (.g h1 (.g h0 (.n 6 h2 (.n 6 h3 (.m 6 h4 (.n 5 h5 (.z 40 (.z 42 (.z 44 (.z 46 (.z 48 (.z 50 (.z 52 (.z 54 (.z 56 (.z 57 (.z 59 (.z 68 (.z 70 (.z 72 (.z 74 (.z 76 (.z 79 (.z 90 (.z 92 (.z 94 (.z 96 (.z 98 (.z 101 (.y 109 (.y 111 (.y 113 (.y 115 (.y 117 (.y 119 (.z 121 (.z 123 (.z 125 (.z 127 (.z 129 (.r 130 [] [] f36 (.g h5 (.f h4 (.g h5 (.f h4 (.g h6 (.z 131 (.y 133 (.z 134 (.y 136 (.z 137 (.r 147 [] [] f42 (.n 5 h7 (.z 152 (.z 154 (.z 156 (.z 158 (.z 160 (.r 161 [] [] f48 (.n 2 h7 (.n 2 h8 (.m 5 h4 (.g h8 (.f h4 (.g h8 (.n 6 h9 (.n 5 h10 (.g h9 (.g h10 (.g h9 (.z 162 (.z 165 (.z 168 (.z 170 (.y 172 (.y 174 (.y 176 (.y 178 (.y 180 (.z 182 (.y 183 (.z 185 (.z 188 (.z 190 (.z 192 (.z 194 (.z 196 (.z 198 (.z 200 (.z 202 (.z 204 (.z 206 (.z 208 (.z 210 (.z 211 (.z 213 .nil)))))))))))))))))))))))))))))))))))))))))))))))))))))))))))))))))))))))))))))))))))))))))))))))))))))
     ·try simp only [if_neg h4]
      have f33 := e115 (a0 := a0.f2)
      by_cases h5 : (!(m113 a0.f2 0 2147483646)) = true
      ·try simp only [if_pos h5]
       exact cp (by kernel_rfl) (.r 11 [] [] f0 (.r 35 [] [] f1 (.n 3 h0 (.n 5 h1 (.g h0 (.g h1 (.g h0 (.n 6 h2 (.n 6 h3 (.n 8 h4 (.z 40 (.z 42 (.z 44 (.z 46 (.z 48 (.z 50 (.z 52 (.z 54 (.z 56 (.z 57 (.z 59 (.z 68 (.z 70 (.z 72 (.z 74 (.z 76 (.z 79 (.z 90 (.z 92 (.z 94 (.z 96 (.z 98 (.z 101 (.z 109 (.z 111 (.z 113 (.z 115 (.z 117 (.z 119 (.z 133 (.z 136 (.r 147 [] [] f33 (.m 7 h5 (.y 152 (.y 154 (.y 156 (.y 158 (.y 160 (.y 162 (.y 165 .nil))))))))))))))))))))))))))))))))))))))))))))))))))
      ·try simp only [if_neg h5]
       have f39 := e75 (a0 := a0.f3)
       by_cases h6 : (!(m113 a0.f3 0 1000000)) = true
       ·try simp only [if_pos h6]
        exact cp (by kernel_rfl) (.r 11 [] [] f0 (.r 35 [] [] f1 (.n 3 h0 (.n 5 h1 (.g h0 (.g h1 (.g h0 (.n 6 h2 (.n 6 h3 (.n 8 h4 (.z 40 (.z 42 (.z 44 (.z 46 (.z 48 (.z 50 (.z 52 (.z 54 (.z 56 (.z 57 (.z 59 (.z 68 (.z 70 (.z 72 (.z 74 (.z 76 (.z 79 (.z 90 (.z 92 (.z 94 (.z 96 (.z 98 (.z 101 (.z 109 (.z 111 (.z 113 (.z 115 (.z 117 (.z 119 (.z 133 (.z 136 (.r 147 [] [] f33 (.n 5 h5 (.z 152 (.z 154 (.z 156 (.z 158 (.z 160 (.r 161 [] [] f39 (.n 2 h5 (.m 4 h6 (.z 162 (.z 165 (.y 168 (.y 170 (.y 182 (.y 185 .nil)))))))))))))))))))))))))))))))))))))))))))))))))))))))))
       ·try simp only [if_neg h6]
        by_cases h7 : (a0.f0 == 1) = true
        ·try simp only [if_pos h7]
         by_cases h8 : (decide (a0.f3 > 9999)) = true
         ·try simp only [if_pos h8]
          exact cp (by kernel_rfl) (.r 11 [] [] f0 (.r 35 [] [] f1 (.n 3 h0 (.n 5 h1 (.g h0 (.g h1 (.g h0 (.n 6 h2 (.n 6 h3 (.n 8 h4 (.z 40 (.z 42 (.z 44 (.z 46 (.z 48 (.z 50 (.z 52 (.z 54 (.z 56 (.z 57 (.z 59 (.z 68 (.z 70 (.z 72 (.z 74 (.z 76 (.z 79 (.z 90 (.z 92 (.z 94 (.z 96 (.z 98 (.z 101 (.z 109 (.z 111 (.z 113 (.z 115 (.z 117 (.z 119 (.z 133 (.z 136 (.r 147 [] [] f33 (.n 5 h5 (.z 152 (.z 154 (.z 156 (.z 158 (.z 160 (.r 161 [] [] f39 (.n 2 h5 (.n 2 h6 (.n 5 h4 (.g h6 (.g h4 (.g h6 (.m 6 h7 (.f h8 (.z 162 (.z 165 (.z 168 (.z 170 (.z 172 (.z 174 (.z 176 (.z 178 (.z 180 (.z 182 (.z 183 (.z 185 (.y 200 (.y 202 (.y 204 (.y 206 (.y 208 (.y 211 (.y 214 .nil))))))))))))))))))))))))))))))))))))))))))))))))))))))))))))))))))))))))))))
         ·try simp only [if_neg h8]
          exact cp (by kernel_rfl) (.r 11 [] [] f0 (.r 35 [] [] f1 (.n 3 h0 (.n 5 h1 (.g h0 (.g h1 (.g h0 (.n 6 h2 (.n 6 h3 (.n 8 h4 (.z 40 (.z 42 (.z 44 (.z 46 (.z 48 (.z 50 (.z 52 (.z 54 (.z 56 (.z 57 (.z 59 (.z 68 (.z 70 (.z 72 (.z 74 (.z 76 (.z 79 (.z 90 (.z 92 (.z 94 (.z 96 (.z 98 (.z 101 (.z 109 (.z 111 (.z 113 (.z 115 (.z 117 (.z 119 (.z 133 (.z 136 (.r 147 [] [] f33 (.n 5 h5 (.z 152 (.z 154 (.z 156 (.z 158 (.z 160 (.r 161 [] [] f39 (.n 2 h5 (.n 2 h6 (.n 5 h4 (.g h6 (.g h4 (.g h6 (.m 6 h7 (.g h8 (.z 162 (.z 165 (.z 168 (.z 170 (.z 172 (.z 174 (.z 176 (.z 178 (.z 180 (.z 182 (.z 183 (.z 185 (.y 200 (.y 202 (.y 204 (.y 206 (.y 208 (.y 211 (.z 214 .nil))))))))))))))))))))))))))))))))))))))))))))))))))))))))))))))))))))))))))))
        ·try simp only [if_neg h7]
         exact cp (by kernel_rfl) (.r 11 [] [] f0 (.r 35 [] [] f1 (.n 3 h0 (.n 5 h1 (.g h0 (.g h1 (.g h0 (.n 6 h2 (.n 6 h3 (.n 8 h4 (.z 40 (.z 42 (.z 44 (.z 46 (.z 48 (.z 50 (.z 52 (.z 54 (.z 56 (.z 57 (.z 59 (.z 68 (.z 70 (.z 72 (.z 74 (.z 76 (.z 79 (.z 90 (.z 92 (.z 94 (.z 96 (.z 98 (.z 101 (.z 109 (.z 111 (.z 113 (.z 115 (.z 117 (.z 119 (.z 133 (.z 136 (.r 147 [] [] f33 (.n 5 h5 (.z 152 (.z 154 (.z 156 (.z 158 (.z 160 (.r 161 [] [] f39 (.n 2 h5 (.n 2 h6 (.n 5 h4 (.g h6 (.g h4 (.g h6 (.n 6 h7 (.z 162 (.z 165 (.z 168 (.z 170 (.z 172 (.z 174 (.z 176 (.z 178 (.z 180 (.z 182 (.z 183 (.z 185 (.z 200 (.z 202 (.z 204 (.z 206 (.z 208 (.z 211 .nil))))))))))))))))))))))))))))))))))))))))))))))))))))))))))))))))))))))))))
theorem fault_len62 {a : K_isii} (h : ¬ ((m62 a) != 0) = true) : ByteArray.size a.f1 ≤ 12 := by
 by_cases h1 : (a.f1.toList == (⟨#[]⟩ : ByteArray).toList) = true
 ·rw [ba_eq] at h1
  simp only [decide_eq_true_eq] at h1
  rw [h1]; decide
 ·by_cases h2 : m114 a.f1 = true
  ·exact arg_len114 h2
  ·exfalso
   apply h
   have e1 : (!(a.f1.toList == (⟨#[]⟩ : ByteArray).toList)) = true := by simpa using h1
   have e2 : (!(m114 a.f1)) = true := by simpa using h2
   unfold m62
   simp only [if_pos e1, if_pos e2, if_neg h1]
   cases h3 : m112_0 a.f0 <;> simp only [Bool.not_true, Bool.not_false, Bool.false_eq_true, if_true, if_false] <;> (repeat' split) <;> first | rfl | simp_all
def m68 (a0 : K_LyEi) : Int :=
 if (decide (((length (map b_y a0.f0)) : Int) > 1200)) = true then 2 else
 if (!(m113 a0.f1 0 ((length (map b_y a0.f0)) : Int))) = true then 3 else
  0
theorem e68 {l0 : Nat} {a0 : K_LyEi} : Ev F X (.call 68 [(.bptr l0 [(.sl (map b_y a0.f0)), (.val (.int .i64 a0.f1))])] [] [] [(.one (.val (.int .i64 (m68 a0))))]) := by
 unfold m68
 by_cases h0 : (decide (((length (map b_y a0.f0)) : Int) > 1200)) = true
 ·try simp only [if_pos h0]
  exact cp (by kernel_rfl) (.f h0 (.y 14 .nil))
 ·try simp only [if_neg h0]
  have f1 := e113 (a0 := a0.f1) (a1 := 0) (a2 := ((length (map b_y a0.f0)) : Int))
  by_cases h1 : (!(m113 a0.f1 0 ((length (map b_y a0.f0)) : Int))) = true
  ·try simp only [if_pos h1]
   exact cp (by kernel_rfl) (.g h0 (.z 14 (.r 34 [] [] f1 (.f h1 (.y 37 .nil)))))
  ·try simp only [if_neg h1]
   exact cp (by kernel_rfl) (.g h0 (.z 14 (.r 34 [] [] f1 (.g h1 (.z 37 .nil)))))
theorem disk_len68 {a : K_LyEi} (h : ¬ ((m68 a) != 0) = true) : length a.f0 ≤ 1200 := by
 have h2 : m68 a = 0 := by simpa using h
 unfold m68 at h2
 split at h2
 ·cases h2
 ·rename_i h3
  simp only [decide_eq_true_eq, length_map] at h3
  omega
def m116 (a0 : Int) : (List Int) :=
 [(IntKind.wrap .u8 ((Int.fdiv a0 (2 ^ (min (Int.toNat 24) (IntKind.bits .i64)))))), (IntKind.wrap .u8 ((Int.fdiv a0 (2 ^ (min (Int.toNat 16) (IntKind.bits .i64)))))), (IntKind.wrap .u8 ((Int.fdiv a0 (2 ^ (min (Int.toNat 8) (IntKind.bits .i64)))))), (IntKind.wrap .u8 (a0))]
theorem e116 {a0 : Int} : Ev F X (.call 116 [(.one (.val (.int .i64 a0)))] [] [] [(.one (.own 1 (map d_y (m116 a0))))]) := by
 have f0 : 0 ≤ (24 : Int) := (by omega)
 have f1 : 0 ≤ (16 : Int) := (by omega)
 have f2 : 0 ≤ (8 : Int) := (by omega)
 have f5 : pureR [[(.val (.int .u8 (IntKind.wrap .u8 ((Int.fdiv a0 (2 ^ (min (Int.toNat 24) (IntKind.bits .i64))))))))], [(.val (.int .u8 (IntKind.wrap .u8 ((Int.fdiv a0 (2 ^ (min (Int.toNat 16) (IntKind.bits .i64))))))))], [(.val (.int .u8 (IntKind.wrap .u8 ((Int.fdiv a0 (2 ^ (min (Int.toNat 8) (IntKind.bits .i64))))))))], [(.val (.int .u8 (IntKind.wrap .u8 (a0))))]] = true := (by simp only [List.drop_zero, tbr, tsi, ly_y, ly0_y, ← List.map_append, List.take_length, List.cons_append, List.nil_append, append_assoc, toBR_y, fullR_y, pureR_y, copy_y, ints_y]; done)
 exact cp (by kernel_rfl) (.f f0 (.f f1 (.f f2 (.e 0 (.e 4 (.f f5 .nil))))))
theorem four_len (a : Int) : length (m116 a) = 4 := rfl
inductive O117_0 where
 | k0 (w0 : Int) (w1 : Int) (w2 : Bool)
def r117_0 (a0 : (List Int)) : List Int → Int → Int → O117_0
 | x0 :: y0, i, v0 =>
  (r117_0 a0 y0 (i + 1) (Int.tmod (w64 ((w64 ((w64 (v0 * 33)) + (w64 (x0)))) + 1)) 2147483647))
 | [], i, v0 => (O117_0.k0 v0 i (decide (i < ((length (map b_y a0)) : Int))))
def h117_0 (l0_0 : Nat) (a0 : (List Int)) (i : Int) (v0 : Int) : St := ⟨[(0, (.one (.bor l0_0 (map b_y a0)))), (3, (.one (.val (.int .i64 v0)))), (4, (.one (.val (.int .i64 i))))], []⟩
def ex117_0 : O117_0 → VX.Exit
 | .k0 _ _ _ => (.exit 0)
def fin117_0 (l0_0 : Nat) (a0 : (List Int)) : O117_0 → St
 | .k0 w0 w1 w2 => ⟨[(0, (.one (.bor l0_0 (map b_y a0)))), (3, (.one (.val (.int .i64 w0)))), (4, (.one (.val (.int .i64 w1)))), (8, (.one (.val (.bool w2))))], []⟩
theorem t117_0 {l0_0 : Nat} {a0 : (List Int)} (hy0 : length a0 * 1 ≤ 140737488351232) : ∀ (y0 : List Int) (p : List Int) (v0 : Int), p ++ y0 = a0 → Ev F X (.code l117_0 (h117_0 l0_0 a0 (length p : Int) v0) (ex117_0 (r117_0 a0 y0 (length p : Int) v0)) (fin117_0 l0_0 a0 (r117_0 a0 y0 (length p : Int) v0)))
 | [], p, v0, hp0 => by
  have hc : ¬ (decide ((length p : Int) < ((length (map b_y a0)) : Int))) = true := by
   rw [← hp0]; simp only [length_map, length_set, length_append, length_replicate, length_cons, length_nil, decide_eq_true_eq]; omega
  have st := ch b117_0 [(8, .b false)] (h117_0 l0_0 a0 (length p : Int) v0) (fin117_0 l0_0 a0 (.k0 v0 (length p : Int) (decide ((length p : Int) < ((length (map b_y a0)) : Int))))) (.exit 0) 9 [(decide ((length p : Int) < ((length (map b_y a0)) : Int))) = false] (by kernel_rfl) ⟨(nt hc), trivial⟩
  exact .loopX st (show ((.exit 0) : VX.Exit) ≠ .normal from by simp)
 | x0 :: y0, p, v0, hp0 => by
  have hc : (decide ((length p : Int) < ((length (map b_y a0)) : Int))) = true := lt1 hp0
  have Hx0 : (a0)[Int.toNat (length p : Int)]? = some x0 := by
   rw [← hp0, Int.toNat_natCast]; simp
  have hlen : length (a0) = length p + length y0 + 1 := by rw [← hp0]; simp; omega
  have hw : w64 ((length p : Int) + 1) = (length p : Int) + 1 := wrap64 (by omega)
  simp only [r117_0]
  have st := ch b117_0 [(8, .b true), (18, .row [(.val (.int .u8 x0))])] (h117_0 l0_0 a0 (length p : Int) v0) ⟨[(0, (.one (.bor l0_0 (map b_y a0)))), (3, (.oi (Int.tmod (w64 ((w64 ((w64 (v0 * 33)) + (w64 (x0)))) + 1)) 2147483647))), (4, (.oi (w64 ((length p : Int) + 1))))], []⟩ .normal 37 [(decide ((length p : Int) < ((length (map b_y a0)) : Int))) = true, 0 ≤ (length p : Int), (map b_y a0)[(Int.toNat (length p : Int))]? = some [(.val (.int .u8 x0))], True, True, (2147483647 : Int) ≠ 0, True] (by kernel_rfl) ⟨hc, (by omega), (by rw [getElem?_map, Hx0]; rfl), trivial, trivial, (by omega), trivial, trivial⟩
  have ih := t117_0 (l0_0 := l0_0) (a0 := a0) hy0 y0 (p ++ [x0]) (Int.tmod (w64 ((w64 ((w64 (v0 * 33)) + (w64 (x0)))) + 1)) 2147483647) (by rw [append_assoc]; exact hp0)
  rw [show ((p ++ [x0]).length : Int) = (p.length : Int) + 1 from by simp] at ih
  replace st := to_ (s' := h117_0 l0_0 a0 ((length p : Int) + 1) (Int.tmod (w64 ((w64 ((w64 (v0 * 33)) + (w64 (x0)))) + 1)) 2147483647)) st (by unfold h117_0; simp only [hw]; done)
  exact .loopN st ih
def m117 (a0 : (List Int)) : Int :=
 (match r117_0 a0 a0 0 5381 with | .k0 w0_0 w1_0 w2_0 => w0_0)
theorem e117 {l0_0 : Nat} {a0 : (List Int)} (hy0 : length a0 * 1 ≤ 140737488351232) : Ev F X (.call 117 [(.one (.bor l0_0 (map b_y a0)))] [] [] [(.one (.val (.int .i64 (m117 a0))))]) := by
 unfold m117
 cases h0 : r117_0 a0 a0 0 5381 with
 | k0 w0_0 w1_0 w2_0 =>
  try dsimp only
  have f0 : (⟨[(0, (.one (.bor l0_0 (map b_y a0)))), (3, (.oi 5381)), (4, (.oi 0))], []⟩ : St) = h117_0 l0_0 a0 0 5381 := (by rfl)
  have f1 : Ev F X (.code l117_0 (h117_0 l0_0 a0 0 5381) (.exit 0) ⟨[(0, (.one (.bor l0_0 (map b_y a0)))), (3, (.oi w0_0)), (4, (.oi w1_0)), (8, (.one (.val (.bool w2_0))))], []⟩) := (by have t : Ev F X (.code l117_0 (h117_0 l0_0 a0 0 5381) (ex117_0 (r117_0 a0 a0 0 5381)) (fin117_0 l0_0 a0 (r117_0 a0 a0 0 5381))) := t117_0 (l0_0 := l0_0) (a0 := a0) (by assumption) a0 [] 5381 rfl; rw [h0] at t; exact t)
  exact cp (by kernel_rfl) (.f f0 (.f f1 (.h 6 (.loop (h117_0 l0_0 a0 0 5381) (.exit 0) ⟨[(0, (.one (.bor l0_0 (map b_y a0)))), (3, (.oi w0_0)), (4, (.oi w1_0)), (8, (.one (.val (.bool w2_0))))], []⟩) .nil)))
end Go.Proofs.YtdnopbpdiineiaaDoor.AppendEntry
