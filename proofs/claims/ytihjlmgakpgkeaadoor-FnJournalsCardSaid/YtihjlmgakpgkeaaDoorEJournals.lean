/- What the functions compute. -/
import Derived.Test.YtihjlmgakpgkeaaDoorEJournalsF
import Derived.KernelRfl
namespace Go.Proofs.YtihjlmgakpgkeaaDoor.Journals
open Go Go.Proofs.YtihjlmgakpgkeaaDoor.V
set_option linter.unusedVariables false
set_option linter.unusedSimpArgs false
set_option maxRecDepth 20000
open Go.IntKind (wrap)
open Int (toNat)
open List (length_replicate length_map length_set length_append length_cons length_nil length_take length_drop take_of_length_le map_take map_drop map_set append_assoc getElem?_map map length take drop getD set)
attribute [local simp] strInts_len byteRows_len toBR_y fullR_y pureR_y lenB_y lenD_y fromBR_y copy_y toBR_LyE fullR_LyE pureR_LyE lenB_LyE lenD_LyE toBR_b fullR_b pureR_b lenB_b lenD_b fromBR_b copy_b toBR_isii fullR_isii pureR_isii lenB_isii lenD_isii fromBR_isii copy_isii toBR_iiLisiiE fullR_iiLisiiE pureR_iiLisiiE lenB_iiLisiiE lenD_iiLisiiE toBR_LyEi fullR_LyEi pureR_LyEi lenB_LyEi lenD_LyEi toBR_iLyEi fullR_iLyEi pureR_iLyEi lenB_iLyEi lenD_iLyEi toBR_iLyE fullR_iLyE pureR_iLyE lenB_iLyE lenD_iLyE toBR_i fullR_i pureR_i lenB_i lenD_i fromBR_i copy_i toBR_s fullR_s pureR_s lenB_s lenD_s fromBR_s copy_s toBR_LiE fullR_LiE pureR_LiE lenB_LiE lenD_LiE toBR_si fullR_si pureR_si lenB_si lenD_si fromBR_si copy_si toBR_R fullR_R pureR_R lenB_R lenD_R toBR_C fullR_C pureR_C lenB_C lenD_C toBR_B fullR_B pureR_B lenB_B lenD_B toBR_LsiE fullR_LsiE pureR_LsiE lenB_LsiE lenD_LsiE toBR_LLyEE fullR_LLyEE pureR_LLyEE lenB_LLyEE lenD_LLyEE toBR_LisiiE fullR_LisiiE pureR_LisiiE lenB_LisiiE lenD_LisiiE toBR_Q fullR_Q pureR_Q lenB_Q lenD_Q
def m4 (a0:(List Int)):Bool:=
  if(m6 a0)=true then true else
  if(((m22 (m20_1 a0)).f0) !=((m23 (m20_1 a0)).f0))=true then false else
    if((m24 (m20_1 a0)) !=(m69 (m20_1 a0)))=true then false else
      if (((m22 (m20_1 a0)).f0) == 0) = true then (if (((length (map d_isii ((m19 ((m22 (m20_1 a0)).f1)).f2))) : Int) != 1) = true then false else
          if(!((((getD ((m19 ((m22 (m20_1 a0)).f1)).f2) 0 (K_isii.mk 0 (⟨#[]⟩:ByteArray) 0 0)).f0)==((m20_1 a0).f0)) &&((((getD ((m19 ((m22 (m20_1 a0)).f1)).f2) 0 (K_isii.mk 0 (⟨#[]⟩:ByteArray) 0 0)).f1).toList==((m20_1 a0).f1).toList) &&((((getD ((m19 ((m22 (m20_1 a0)).f1)).f2) 0 (K_isii.mk 0 (⟨#[]⟩:ByteArray) 0 0)).f2)==((m20_1 a0).f2)) &&((((getD ((m19 ((m22 (m20_1 a0)).f1)).f2) 0 (K_isii.mk 0 (⟨#[]⟩:ByteArray) 0 0)).f3)==((m20_1 a0).f3)) && true)))))=true then false else
            if(((m19 ((m22 (m20_1 a0)).f1)).f1) !=((length (map d_y ((m22 (m20_1 a0)).f1))):Int))=true then false else
              if(((m21 (m20_0 a0) (m20_1 a0)).f0) !=((m26 (m20_0 a0) (m20_1 a0)).f0))=true then false else
                if (((m21 (m20_0 a0) (m20_1 a0)).f0) == 0) = true then (if (!((bytesOf ((m21 (m20_0 a0) (m20_1 a0)).f1)).toList == ((bytesOf ((m20_0 a0).f0)) ++ (bytesOf ((m22 (m20_1 a0)).f1))).toList)) = true then false else
                    if(((m19 ((m62 (m38 a0)).f0)).f0) !=0)=true then(((m27 ((m62 (m38 a0)).f0)).f0)==((m19 ((m62 (m38 a0)).f0)).f0)) else
                      (match r4_0 a0 ((m19 ((m62 (m38 a0)).f0)).f2) 0 ([]) with | .k0 w0_88 w1_88 w2_88=>(if(decide (((m19 ((m62 (m38 a0)).f0)).f1) < 0))=true then false else if(decide (((m19 ((m62 (m38 a0)).f0)).f1) >((length (map d_y ((m62 (m38 a0)).f0))):Int)))=true then false else if(!((bytesOf w0_88).toList==(bytesOf (take (toNat ((m19 ((m62 (m38 a0)).f0)).f1) - toNat 0) (drop 0 ((m62 (m38 a0)).f0)))).toList))=true then false else if(((m19 (take (toNat (m28 a0 3 (wrap .i64 (((m19 ((m62 (m38 a0)).f0)).f1)+1))) - toNat 0) (drop 0 ((m62 (m38 a0)).f0)))).f0) !=0)=true then false else if(decide (((length (map d_isii ((m19 (take (toNat (m28 a0 3 (wrap .i64 (((m19 ((m62 (m38 a0)).f0)).f1)+1))) - toNat 0) (drop 0 ((m62 (m38 a0)).f0)))).f2))):Int) >((length (map d_isii ((m19 ((m62 (m38 a0)).f0)).f2))):Int)))=true then false else(match r4_1 a0 ((m19 (take (toNat (m28 a0 3 (wrap .i64 (((m19 ((m62 (m38 a0)).f0)).f1)+1))) - toNat 0) (drop 0 ((m62 (m38 a0)).f0)))).f2) ((m19 ((m62 (m38 a0)).f0)).f2) 0 with | .k0 w0_118 w1_118=>(if(decide (((m19 (take (toNat (m28 a0 3 (wrap .i64 (((m19 ((m62 (m38 a0)).f0)).f1)+1))) - toNat 0) (drop 0 ((m62 (m38 a0)).f0)))).f1)≤(m28 a0 3 (wrap .i64 (((m19 ((m62 (m38 a0)).f0)).f1)+1)))))=true then(((length (map d_isii ((m19 ((m62 (m38 a0)).f0)).f2))):Int)==((length (map d_isii ((m27 ((m62 (m38 a0)).f0)).f2))):Int)) else false) | .k1=>false)))) else
                  if(((m19 ((m62 (m38 a0)).f0)).f0) !=0)=true then(((m27 ((m62 (m38 a0)).f0)).f0)==((m19 ((m62 (m38 a0)).f0)).f0)) else
                    (match r4_0 a0 ((m19 ((m62 (m38 a0)).f0)).f2) 0 ([]) with | .k0 w0_84 w1_84 w2_84=>(if(decide (((m19 ((m62 (m38 a0)).f0)).f1) < 0))=true then false else if(decide (((m19 ((m62 (m38 a0)).f0)).f1) >((length (map d_y ((m62 (m38 a0)).f0))):Int)))=true then false else if(!((bytesOf w0_84).toList==(bytesOf (take (toNat ((m19 ((m62 (m38 a0)).f0)).f1) - toNat 0) (drop 0 ((m62 (m38 a0)).f0)))).toList))=true then false else if(((m19 (take (toNat (m28 a0 3 (wrap .i64 (((m19 ((m62 (m38 a0)).f0)).f1)+1))) - toNat 0) (drop 0 ((m62 (m38 a0)).f0)))).f0) !=0)=true then false else if(decide (((length (map d_isii ((m19 (take (toNat (m28 a0 3 (wrap .i64 (((m19 ((m62 (m38 a0)).f0)).f1)+1))) - toNat 0) (drop 0 ((m62 (m38 a0)).f0)))).f2))):Int) >((length (map d_isii ((m19 ((m62 (m38 a0)).f0)).f2))):Int)))=true then false else(match r4_1 a0 ((m19 (take (toNat (m28 a0 3 (wrap .i64 (((m19 ((m62 (m38 a0)).f0)).f1)+1))) - toNat 0) (drop 0 ((m62 (m38 a0)).f0)))).f2) ((m19 ((m62 (m38 a0)).f0)).f2) 0 with | .k0 w0_114 w1_114=>(if(decide (((m19 (take (toNat (m28 a0 3 (wrap .i64 (((m19 ((m62 (m38 a0)).f0)).f1)+1))) - toNat 0) (drop 0 ((m62 (m38 a0)).f0)))).f1)≤(m28 a0 3 (wrap .i64 (((m19 ((m62 (m38 a0)).f0)).f1)+1)))))=true then(((length (map d_isii ((m19 ((m62 (m38 a0)).f0)).f2))):Int)==((length (map d_isii ((m27 ((m62 (m38 a0)).f0)).f2))):Int)) else false) | .k1=>false)))) else
        if(((m21 (m20_0 a0) (m20_1 a0)).f0) !=((m26 (m20_0 a0) (m20_1 a0)).f0))=true then false else
          if (((m21 (m20_0 a0) (m20_1 a0)).f0) == 0) = true then (if (!((bytesOf ((m21 (m20_0 a0) (m20_1 a0)).f1)).toList == ((bytesOf ((m20_0 a0).f0)) ++ (bytesOf ((m22 (m20_1 a0)).f1))).toList)) = true then false else
              if(((m19 ((m62 (m38 a0)).f0)).f0) !=0)=true then(((m27 ((m62 (m38 a0)).f0)).f0)==((m19 ((m62 (m38 a0)).f0)).f0)) else
                (match r4_0 a0 ((m19 ((m62 (m38 a0)).f0)).f2) 0 ([]) with | .k0 w0_58 w1_58 w2_58=>(if(decide (((m19 ((m62 (m38 a0)).f0)).f1) < 0))=true then false else if(decide (((m19 ((m62 (m38 a0)).f0)).f1) >((length (map d_y ((m62 (m38 a0)).f0))):Int)))=true then false else if(!((bytesOf w0_58).toList==(bytesOf (take (toNat ((m19 ((m62 (m38 a0)).f0)).f1) - toNat 0) (drop 0 ((m62 (m38 a0)).f0)))).toList))=true then false else if(((m19 (take (toNat (m28 a0 3 (wrap .i64 (((m19 ((m62 (m38 a0)).f0)).f1)+1))) - toNat 0) (drop 0 ((m62 (m38 a0)).f0)))).f0) !=0)=true then false else if(decide (((length (map d_isii ((m19 (take (toNat (m28 a0 3 (wrap .i64 (((m19 ((m62 (m38 a0)).f0)).f1)+1))) - toNat 0) (drop 0 ((m62 (m38 a0)).f0)))).f2))):Int) >((length (map d_isii ((m19 ((m62 (m38 a0)).f0)).f2))):Int)))=true then false else(match r4_1 a0 ((m19 (take (toNat (m28 a0 3 (wrap .i64 (((m19 ((m62 (m38 a0)).f0)).f1)+1))) - toNat 0) (drop 0 ((m62 (m38 a0)).f0)))).f2) ((m19 ((m62 (m38 a0)).f0)).f2) 0 with | .k0 w0_88 w1_88=>(if(decide (((m19 (take (toNat (m28 a0 3 (wrap .i64 (((m19 ((m62 (m38 a0)).f0)).f1)+1))) - toNat 0) (drop 0 ((m62 (m38 a0)).f0)))).f1)≤(m28 a0 3 (wrap .i64 (((m19 ((m62 (m38 a0)).f0)).f1)+1)))))=true then(((length (map d_isii ((m19 ((m62 (m38 a0)).f0)).f2))):Int)==((length (map d_isii ((m27 ((m62 (m38 a0)).f0)).f2))):Int)) else false) | .k1=>false)))) else
            if(((m19 ((m62 (m38 a0)).f0)).f0) !=0)=true then(((m27 ((m62 (m38 a0)).f0)).f0)==((m19 ((m62 (m38 a0)).f0)).f0)) else
              (match r4_0 a0 ((m19 ((m62 (m38 a0)).f0)).f2) 0 ([]) with | .k0 w0_54 w1_54 w2_54=>(if(decide (((m19 ((m62 (m38 a0)).f0)).f1) < 0))=true then false else if(decide (((m19 ((m62 (m38 a0)).f0)).f1) >((length (map d_y ((m62 (m38 a0)).f0))):Int)))=true then false else if(!((bytesOf w0_54).toList==(bytesOf (take (toNat ((m19 ((m62 (m38 a0)).f0)).f1) - toNat 0) (drop 0 ((m62 (m38 a0)).f0)))).toList))=true then false else if(((m19 (take (toNat (m28 a0 3 (wrap .i64 (((m19 ((m62 (m38 a0)).f0)).f1)+1))) - toNat 0) (drop 0 ((m62 (m38 a0)).f0)))).f0) !=0)=true then false else if(decide (((length (map d_isii ((m19 (take (toNat (m28 a0 3 (wrap .i64 (((m19 ((m62 (m38 a0)).f0)).f1)+1))) - toNat 0) (drop 0 ((m62 (m38 a0)).f0)))).f2))):Int) >((length (map d_isii ((m19 ((m62 (m38 a0)).f0)).f2))):Int)))=true then false else(match r4_1 a0 ((m19 (take (toNat (m28 a0 3 (wrap .i64 (((m19 ((m62 (m38 a0)).f0)).f1)+1))) - toNat 0) (drop 0 ((m62 (m38 a0)).f0)))).f2) ((m19 ((m62 (m38 a0)).f0)).f2) 0 with | .k0 w0_84 w1_84=>(if(decide (((m19 (take (toNat (m28 a0 3 (wrap .i64 (((m19 ((m62 (m38 a0)).f0)).f1)+1))) - toNat 0) (drop 0 ((m62 (m38 a0)).f0)))).f1)≤(m28 a0 3 (wrap .i64 (((m19 ((m62 (m38 a0)).f0)).f1)+1)))))=true then(((length (map d_isii ((m19 ((m62 (m38 a0)).f0)).f2))):Int)==((length (map d_isii ((m27 ((m62 (m38 a0)).f0)).f2))):Int)) else false) | .k1=>false)))
set_option maxHeartbeats 8000000 in
theorem e4 {l0_0:Nat} {a0:(List Int)} (hy0:∀z∈a0,(0:Int)≤z∧z≤255) (hy1:length a0≤140737488351232):Ev F X (.call 4 [(.one (.bor l0_0 (map b_y a0)))] [] [] [(.one (.val (.bool (m4 a0))))]):=by
  unfold m4
  have P0 {hs q} (r:PS F X hs q):=(PS.r 5 [] [] (e6 (l0_0:=(l0_0+1)) (a0:=a0)) r)
  by_cases h0:(m6 a0)=true
  · try simp only[if_pos h0]
    exact cp ya (P0 (.f h0 (T 6 .nil)))
  try simp only[if_neg h0]
  have P1 {hs q} (r:PS F X hs q):=(P0 (N h0 (U 6 (.r 10 [] [] (e18 (l0_0:=(l0_0+1)) (a0:=a0) yc yc) (ln_y ((m62 (m38 a0)).f0) (.r 16 [] [(map b_y ((m62 (m38 a0)).f0))] (e19 (l0_0:=0) (a0:=((m62 (m38 a0)).f0)) yx yc) (pe 0 (pe (length (map d_isii ((m19 ((m62 (m38 a0)).f0)).f2))) (.r 24 [] [] (e20 (l0_0:=(l0_0+1)) (a0:=a0) yc yc) (pe 0 (pe (length (map d_y ((m20_0 a0).f0))) (ln_y ((m20_0 a0).f0) (.r 44 [] [(map b_y ((m20_0 a0).f0))] (e21 (l0_0:=0) (a0:=(m20_0 a0)) (a1:=(m20_1 a0)) yW) (pe 0 (pe (length (map d_y ((m21 (m20_0 a0) (m20_1 a0)).f1))) (.r 52 [] [] (e22 (a0:=(m20_1 a0))) (pe 0 (pe (length (map d_y ((m22 (m20_1 a0)).f1))) (.r 64 [] [] (e23 (a0:=(m20_1 a0)) yW) r)))))))))))))))))))
  by_cases h1:(((m22 (m20_1 a0)).f0) !=((m23 (m20_1 a0)).f0))=true
  · try simp only[if_pos h1]
    exact cp ya (P1 (.f h1 (.f h1 (.f h1 (.f h1 (.f h1 (.f h1 (T 71 (T 73 (T 75 (T 77 (T 79 (T 82 .nil)))))))))))))
  try simp only[if_neg h1]
  have P2 {hs q} (r:PS F X hs q):=(P1 (N h1 (N h1 (U 71 (U 73 (.r 74 [] [] (e24 (a0:=(m20_1 a0))) (N h1 (N h1 (U 75 (U 77 (.r 78 [] [] (e25 (a0:=(m20_1 a0)) yW) (N h1 (N h1 (U 79 (U 82 r)))))))))))))))
  by_cases h2:((m24 (m20_1 a0)) !=(m69 (m20_1 a0)))=true
  · try simp only[if_pos h2]
    exact cp ya (P2 (.f h2 (.f h2 (.f h2 (.f h2 (.f h2 (.f h2 (T 85 (T 87 (T 89 (T 91 (T 145 (T 148 .nil)))))))))))))
  try simp only[if_neg h2]
  have P3 {hs q} (r:PS F X hs q):=(P2 (N h2 (N h2 (N h2 (N h2 (U 85 (U 87 (U 89 (U 91 r)))))))))
  by_cases h3:(((m22 (m20_1 a0)).f0)==0)=true
  · try simp only[if_pos h3]
    have P4 {hs q} (r:PS F X hs q):=(P3 (.f h3 (.f h3 (.f h3 (ln_y ((m22 (m20_1 a0)).f1) (T 93 (T 95 (T 97 (.r 98 [] [(map b_y ((m22 (m20_1 a0)).f1))] (e19 (l0_0:=0) (a0:=((m22 (m20_1 a0)).f1)) (by exact pkb _) yay) (.f h3 (.f h3 (.f h3 (.f h3 (T 99 (T 101 (T 103 (T 105 r)))))))))))))))))
    by_cases h4:(((length (map d_isii ((m19 ((m22 (m20_1 a0)).f1)).f2))):Int) !=1)=true
    · try simp only[if_pos h4]
      exact cp ya (P4 (.f h4 (.f h4 (.f h4 (.f h4 (.f h4 (.f h4 (.f h4 (.f h4 (.f h3 (.f h4 (.f h3 (.f h3 (N h2 (.f h3 (N h2 (T 107 (T 109 (T 111 (T 113 (T 115 (T 117 (T 119 (T 121 (T 123 (T 124 (T 125 (T 143 (U 145 (T 146 (U 148 .nil)))))))))))))))))))))))))))))))
    try simp only[if_neg h4]
    have f54:0+(length (map d_isii ((m19 ((m22 (m20_1 a0)).f1)).f2)))≤(length (map d_isii ((m19 ((m22 (m20_1 a0)).f1)).f2))):=yb
    have f55:0≤(0:Int)∧(0:Int) <((length (map d_isii ((m19 ((m22 (m20_1 a0)).f1)).f2))):Int):=(by exact is1 ‹_›)
    have P5 {hs q} (r:PS F X hs q):=(P4 (N h4 (N h4 (N h4 (ln_y ((m22 (m20_1 a0)).f1) (U 107 (U 109 (U 111 (.r 112 [] [(map b_y ((m22 (m20_1 a0)).f1))] (e19 (l0_0:=0) (a0:=((m22 (m20_1 a0)).f1)) (by exact pkb _) yay) (N h4 (N h4 (.f f54 (.f f55 (N h4 (.f (mp_ d_isii (getD_at ((m19 ((m22 (m20_1 a0)).f1)).f2) 0 (K_isii.mk 0 (⟨#[]⟩:ByteArray) 0 0) (by exact is1n ‹_›))) (N h4 (N h4 (.f h3 (N h4 (.f h3 (U 113 (U 115 (U 117 (.h 118 (.rowD (d_isii (getD ((m19 ((m22 (m20_1 a0)).f1)).f2) 0 (K_isii.mk 0 (⟨#[]⟩:ByteArray) 0 0)))) (U 119 (U 121 (T 123 (U 124 (T 125 r)))))))))))))))))))))))))))))
    by_cases h5:(!((((getD ((m19 ((m22 (m20_1 a0)).f1)).f2) 0 (K_isii.mk 0 (⟨#[]⟩:ByteArray) 0 0)).f0)==((m20_1 a0).f0)) &&((((getD ((m19 ((m22 (m20_1 a0)).f1)).f2) 0 (K_isii.mk 0 (⟨#[]⟩:ByteArray) 0 0)).f1).toList==((m20_1 a0).f1).toList) &&((((getD ((m19 ((m22 (m20_1 a0)).f1)).f2) 0 (K_isii.mk 0 (⟨#[]⟩:ByteArray) 0 0)).f2)==((m20_1 a0).f2)) &&((((getD ((m19 ((m22 (m20_1 a0)).f1)).f2) 0 (K_isii.mk 0 (⟨#[]⟩:ByteArray) 0 0)).f3)==((m20_1 a0).f3)) && true)))))=true
    · try simp only[if_pos h5]
      exact cp ya (P5 (.f h5 (.f h5 (.f h5 (.f h5 (.f h5 (.f h5 (.f h5 (.f h5 (.f h3 (.f h5 (N h2 (.f h3 (N h2 (T 127 (T 129 (T 131 (T 133 (T 135 (T 137 (T 139 (T 141 (T 143 (T 144 (U 145 (T 146 (U 148 .nil)))))))))))))))))))))))))))
    try simp only[if_neg h5]
    have P6 {hs q} (r:PS F X hs q):=(P5 (N h5 (N h5 (N h5 (ln_y ((m22 (m20_1 a0)).f1) (U 127 (U 129 (U 131 (.r 132 [] [(map b_y ((m22 (m20_1 a0)).f1))] (e19 (l0_0:=0) (a0:=((m22 (m20_1 a0)).f1)) (by exact pkb _) yay) (N h5 (N h5 (N h5 (N h5 (N h5 (.f h3 (N h5 (N h2 (.f h3 (N h2 (U 133 (U 135 (U 137 (U 139 (U 141 (T 143 (U 144 (U 145 (T 146 (U 148 r)))))))))))))))))))))))))))))
    by_cases h6:(((m19 ((m22 (m20_1 a0)).f1)).f1) !=((length (map d_y ((m22 (m20_1 a0)).f1))):Int))=true
    · try simp only[if_pos h6]
      exact cp ya (P6 (.f h6 (.f h6 (.f h6 (.f h6 (.f h6 (.f h6 (.f h6 (.f h6 (T 151 (T 153 (T 155 (T 157 (T 159 (T 161 (T 163 (T 166 .nil)))))))))))))))))
    try simp only[if_neg h6]
    have P7 {hs q} (r:PS F X hs q):=(P6 (N h6 (N h6 (N h6 (N h6 (N h6 (ln_y ((m20_0 a0).f0) (U 151 (U 153 (U 155 (U 157 (U 159 (.r 160 [] [(map b_y ((m20_0 a0).f0))] (e26 (l0_0:=0) (a0:=(m20_0 a0)) (a1:=(m20_1 a0)) yW yW) (N h6 (N h6 (N h6 (U 161 (U 163 (U 166 r)))))))))))))))))))
    by_cases h7:(((m21 (m20_0 a0) (m20_1 a0)).f0) !=((m26 (m20_0 a0) (m20_1 a0)).f0))=true
    · try simp only[if_pos h7]
      exact cp ya (P7 (.f h7 (.f h7 (.f h7 (.f h7 (.f h7 (.f h7 (T 169 (T 171 (T 173 (T 175 (T 201 (T 204 .nil)))))))))))))
    try simp only[if_neg h7]
    have P8 {hs q} (r:PS F X hs q):=(P7 (N h7 (N h7 (N h7 (N h7 (U 169 (U 171 (U 173 (U 175 r)))))))))
    by_cases h8:(((m21 (m20_0 a0) (m20_1 a0)).f0)==0)=true
    · try simp only[if_pos h8]
      have f100:0+(length (map d_y ((m21 (m20_0 a0) (m20_1 a0)).f1)))≤(length (map d_y ((m21 (m20_0 a0) (m20_1 a0)).f1))):=yb
      have f101:rowsInts .u8 (take (length (map d_y ((m21 (m20_0 a0) (m20_1 a0)).f1))) (drop 0 (map d_y ((m21 (m20_0 a0) (m20_1 a0)).f1))))=some ((m21 (m20_0 a0) (m20_1 a0)).f1):=yd
      have f105:0+(length (map d_y ((m20_0 a0).f0)))≤(length (map d_y ((m20_0 a0).f0))):=yb
      have f106:rowsInts .u8 (take (length (map d_y ((m20_0 a0).f0))) (drop 0 (map d_y ((m20_0 a0).f0))))=some ((m20_0 a0).f0):=yd
      have f110:0+(length (map d_y ((m22 (m20_1 a0)).f1)))≤(length (map d_y ((m22 (m20_1 a0)).f1))):=yb
      have f111:rowsInts .u8 (take (length (map d_y ((m22 (m20_1 a0)).f1))) (drop 0 (map d_y ((m22 (m20_1 a0)).f1))))=some ((m22 (m20_1 a0)).f1):=yd
      have f113:ByteArray.size (bytesOf ((m20_0 a0).f0))+ByteArray.size (bytesOf ((m22 (m20_1 a0)).f1))≤9223372036854775807:=yao
      have P9 {hs q} (r:PS F X hs q):=(P8 (.f h8 (.f h8 (.f h8 (.f h8 (.f f100 (.f f101 (.f h8 (.f h8 (.f h8 (.f f105 (.f f106 (.f h8 (.f h8 (.f h8 (.f f110 (.f f111 (.f h8 (.f f113 (.f h8 (N h7 (.f h8 (N h7 (T 177 (T 179 (T 181 (T 183 (.h 184 (.ints ((m21 (m20_0 a0) (m20_1 a0)).f1)) (T 185 (T 187 (T 189 (.h 190 (.ints ((m20_0 a0).f0)) (T 191 (T 193 (T 195 (.h 196 (.ints ((m22 (m20_1 a0)).f1)) (T 197 (T 199 (U 201 (T 202 (U 204 r)))))))))))))))))))))))))))))))))))))))))
      by_cases h9:(!((bytesOf ((m21 (m20_0 a0) (m20_1 a0)).f1)).toList==((bytesOf ((m20_0 a0).f0))++(bytesOf ((m22 (m20_1 a0)).f1))).toList))=true
      · try simp only[if_pos h9]
        exact cp ya (P9 (.f h9 (T 205 .nil)))
      try simp only[if_neg h9]
      have P10 {hs q} (r:PS F X hs q):=(P9 (N h9 (U 205 r)))
      by_cases h10:(((m19 ((m62 (m38 a0)).f0)).f0) !=0)=true
      · try simp only[if_pos h10]
        exact cp ya (P10 (.f h10 (ln_y ((m62 (m38 a0)).f0) (T 212 (.r 216 [] [(map b_y ((m62 (m38 a0)).f0))] (e27 (l0_0:=0) (a0:=((m62 (m38 a0)).f0)) yx yc) .nil)))))
      try simp only[if_neg h10]
      have P11 {hs q} (r:PS F X hs q):=(P10 (N h10 (U 212 r)))
      cases h11:r4_0 a0 ((m19 ((m62 (m38 a0)).f0)).f2) 0 ([]) with
      |k0 w0_88 w1_88 w2_88=>
        try dsimp only
        have f120:(⟨[(0,(.one (.bor l0_0 (map b_y a0)))),(3,(.one (.ref ⟨(3,0,0),[],0,(length (map d_y ((m62 (m38 a0)).f0)))⟩))),(4,(.ptr ⟨(4,0,0),[],0,0,3⟩)),(9,(.one (.ref ⟨(9,0,0),[],0,0⟩))),(10,(.oi 0))],[((3,0,0),.live ⟨1,(map d_y ((m62 (m38 a0)).f0)),[]⟩),((4,0,0),.live ⟨3,[(d_iiLisiiE (m19 ((m62 (m38 a0)).f0)))],[]⟩),((9,0,0),.live ⟨1,[],[]⟩)]⟩:St)=h4_0 l0_0 a0 0 ([]):=yv
        have P12 {hs q} (r:PS F X hs q):=(P11 (.f f120 (.f (ev_ (e:=ex4_0) (g:=(fin4_0 l0_0 a0)) h11 (t4_0 (l0_0:=l0_0) (a0:=a0) (by assumption) (by assumption) ((m19 ((m62 (m38 a0)).f0)).f2) [] ([]) rfl yX)) (.h 219 (.loop (h4_0 l0_0 a0 0 ([])) (.exit 0) ⟨[(0,(.one (.bor l0_0 (map b_y a0)))),(3,(.one (.ref ⟨(3,0,0),[],0,(length (map d_y ((m62 (m38 a0)).f0)))⟩))),(4,(.ptr ⟨(4,0,0),[],0,0,3⟩)),(9,(.one (.ref ⟨(9,0,0),[],0,(length (map d_y w0_88))⟩))),(10,(.oi w1_88)),(118,(.one (.val (.bool w2_88))))],[((3,0,0),.live ⟨1,(map d_y ((m62 (m38 a0)).f0)),[]⟩),((4,0,0),.live ⟨3,[(d_iiLisiiE (m19 ((m62 (m38 a0)).f0)))],[]⟩),((9,0,0),.live ⟨1,(map d_y w0_88),[]⟩)]⟩) r))))
        by_cases h12:(decide (((m19 ((m62 (m38 a0)).f0)).f1) < 0))=true
        · try simp only[if_pos h12]
          exact cp ya (P12 (.f h12 (.f h12 (.f h12 (.f h12 (.f h12 (.f h12 (T 228 (T 230 (T 232 (T 234 (T 236 (T 239 .nil)))))))))))))
        try simp only[if_neg h12]
        have P13 {hs q} (r:PS F X hs q):=(P12 (N h12 (N h12 (N h12 (N h12 (N h12 (N h12 (U 228 (U 230 (U 232 (U 234 (U 236 (U 239 r)))))))))))))
        by_cases h13:(decide (((m19 ((m62 (m38 a0)).f0)).f1) >((length (map d_y ((m62 (m38 a0)).f0))):Int)))=true
        · try simp only[if_pos h13]
          exact cp ya (P13 (.f h13 (.f h13 (.f h13 (.f h13 (.f h13 (.f h13 (.f h13 (.f h13 (.f h13 (T 242 (T 244 (T 246 (T 248 (T 250 (T 252 (T 254 (T 256 (T 259 .nil)))))))))))))))))))
        try simp only[if_neg h13]
        have f130:0+(length (map d_y w0_88))≤(length (map d_y w0_88)):=yb
        have f131:rowsInts .u8 (take (length (map d_y w0_88)) (drop 0 (map d_y w0_88)))=some w0_88:=yd
        have f136:0+(length (map d_y ((m62 (m38 a0)).f0)))≤(length (map d_y ((m62 (m38 a0)).f0))):=yb
        have f137:0≤(0:Int)∧(0:Int)≤((m19 ((m62 (m38 a0)).f0)).f1)∧((m19 ((m62 (m38 a0)).f0)).f1)≤((length (map d_y ((m62 (m38 a0)).f0))):Int):=yai
        have f139:0+(toNat ((m19 ((m62 (m38 a0)).f0)).f1) - toNat 0)≤(length (map d_y ((m62 (m38 a0)).f0))):=yc
        have f140:rowsInts .u8 (take (toNat ((m19 ((m62 (m38 a0)).f0)).f1) - toNat 0) (drop 0 (map d_y ((m62 (m38 a0)).f0))))=some (take (toNat ((m19 ((m62 (m38 a0)).f0)).f1) - toNat 0) (drop 0 ((m62 (m38 a0)).f0))):=yac
        have P14 {hs q} (r:PS F X hs q):=(P13 (N h13 (N h13 (.f f130 (.f f131 (N h13 (N h13 (N h13 (N h13 (.f f136 (.f f137 (N h13 (.f f139 (.f f140 (N h13 (N h13 (U 242 (U 244 (.h 245 (.ints w0_88) (U 246 (U 248 (U 250 (U 252 (U 254 (.h 255 (.ints (take (toNat ((m19 ((m62 (m38 a0)).f0)).f1) - toNat 0) (drop 0 ((m62 (m38 a0)).f0)))) (U 256 (U 259 r)))))))))))))))))))))))))))
        by_cases h14:(!((bytesOf w0_88).toList==(bytesOf (take (toNat ((m19 ((m62 (m38 a0)).f0)).f1) - toNat 0) (drop 0 ((m62 (m38 a0)).f0)))).toList))=true
        · try simp only[if_pos h14]
          exact cp ya (P14 (.f h14 (T 260 .nil)))
        try simp only[if_neg h14]
        have f147:0≤(0:Int)∧(0:Int)≤(m28 a0 3 (wrap .i64 (((m19 ((m62 (m38 a0)).f0)).f1)+1)))∧(m28 a0 3 (wrap .i64 (((m19 ((m62 (m38 a0)).f0)).f1)+1)))≤((length (map d_y ((m62 (m38 a0)).f0))):Int):=yaf
        have f148:0+(toNat (m28 a0 3 (wrap .i64 (((m19 ((m62 (m38 a0)).f0)).f1)+1))) - toNat 0)≤(length (map d_y ((m62 (m38 a0)).f0))):=yc
        have f149:fullR (take (toNat (m28 a0 3 (wrap .i64 (((m19 ((m62 (m38 a0)).f0)).f1)+1))) - toNat 0) (drop 0 (map d_y ((m62 (m38 a0)).f0))))=true:=(ft_y _ _ _)
        have f150:toBR (take (toNat (m28 a0 3 (wrap .i64 (((m19 ((m62 (m38 a0)).f0)).f1)+1))) - toNat 0) (drop 0 (map d_y ((m62 (m38 a0)).f0))))=(map b_y (take (toNat (m28 a0 3 (wrap .i64 (((m19 ((m62 (m38 a0)).f0)).f1)+1))) - toNat 0) (drop 0 ((m62 (m38 a0)).f0)))):=(by exact tbt_y _ _ _)
        have P15 {hs q} (r:PS F X hs q):=(P14 (N h14 (.f trivial (U 260 (.r 270 [] [] (e28 (l0_0:=(l0_0+1)) (a0:=a0) (a1:=3) (a2:=(wrap .i64 (((m19 ((m62 (m38 a0)).f0)).f1)+1))) yc yc yc yc) (.f f136 (.f f147 (.f f148 (.f f149 (.f f150 (.r 280 [] [(map b_y (take (toNat (m28 a0 3 (wrap .i64 (((m19 ((m62 (m38 a0)).f0)).f1)+1))) - toNat 0) (drop 0 ((m62 (m38 a0)).f0))))] (e19 (l0_0:=0) (a0:=(take (toNat (m28 a0 3 (wrap .i64 (((m19 ((m62 (m38 a0)).f0)).f1)+1))) - toNat 0) (drop 0 ((m62 (m38 a0)).f0)))) yV yE) (pe 0 (pe (length (map d_isii ((m19 (take (toNat (m28 a0 3 (wrap .i64 (((m19 ((m62 (m38 a0)).f0)).f1)+1))) - toNat 0) (drop 0 ((m62 (m38 a0)).f0)))).f2))) r)))))))))))))
        by_cases h15:(((m19 (take (toNat (m28 a0 3 (wrap .i64 (((m19 ((m62 (m38 a0)).f0)).f1)+1))) - toNat 0) (drop 0 ((m62 (m38 a0)).f0)))).f0) !=0)=true
        · try simp only[if_pos h15]
          exact cp ya (P15 (.f h15 (.f h15 (.f h15 (.f h15 (.f h15 (.f h15 (.f h15 (.f h15 (T 293 (T 295 (T 297 (T 299 (T 301 (T 303 (T 305 (T 308 .nil)))))))))))))))))
        try simp only[if_neg h15]
        have P16 {hs q} (r:PS F X hs q):=(P15 (N h15 (N h15 (N h15 (N h15 (N h15 (N h15 (N h15 (N h15 (U 293 (U 295 (U 297 (U 299 (U 301 (U 303 (U 305 (U 308 r)))))))))))))))))
        by_cases h16:(decide (((length (map d_isii ((m19 (take (toNat (m28 a0 3 (wrap .i64 (((m19 ((m62 (m38 a0)).f0)).f1)+1))) - toNat 0) (drop 0 ((m62 (m38 a0)).f0)))).f2))):Int) >((length (map d_isii ((m19 ((m62 (m38 a0)).f0)).f2))):Int)))=true
        · try simp only[if_pos h16]
          exact cp ya (P16 (.f h16 (T 309 .nil)))
        try simp only[if_neg h16]
        cases h17:r4_1 a0 ((m19 (take (toNat (m28 a0 3 (wrap .i64 (((m19 ((m62 (m38 a0)).f0)).f1)+1))) - toNat 0) (drop 0 ((m62 (m38 a0)).f0)))).f2) ((m19 ((m62 (m38 a0)).f0)).f2) 0 with
        |k0 w0_118 w1_118=>
          try dsimp only
          have f163:(⟨[(3,(.one (.ref ⟨(3,0,0),[],0,(length (map d_y ((m62 (m38 a0)).f0)))⟩))),(4,(.ptr ⟨(4,0,0),[],0,0,3⟩)),(11,(.oi (m28 a0 3 (wrap .i64 (((m19 ((m62 (m38 a0)).f0)).f1)+1))))),(12,(.ptr ⟨(12,0,0),[],0,0,3⟩)),(13,(.oi 0))],[((3,0,0),.live ⟨1,(map d_y ((m62 (m38 a0)).f0)),[]⟩),((4,0,0),.live ⟨3,[(d_iiLisiiE (m19 ((m62 (m38 a0)).f0)))],[]⟩),((12,0,0),.live ⟨3,[(d_iiLisiiE (m19 (take (toNat (m28 a0 3 (wrap .i64 (((m19 ((m62 (m38 a0)).f0)).f1)+1))) - toNat 0) (drop 0 ((m62 (m38 a0)).f0)))))],[]⟩)]⟩:St)=h4_1 l0_0 a0 0 :=yv
          have P18 {hs q} (r:PS F X hs q):=(P16 (N h16 (.f f163 (.f (ev_ (e:=ex4_1) (g:=(fin4_1 l0_0 a0)) h17 (t4_1 (l0_0:=l0_0) (a0:=a0) (by assumption) (by assumption) ((m19 (take (toNat (m28 a0 3 (wrap .i64 (((m19 ((m62 (m38 a0)).f0)).f1)+1))) - toNat 0) (drop 0 ((m62 (m38 a0)).f0)))).f2) ((m19 ((m62 (m38 a0)).f0)).f2) [] []  rfl rfl rfl yal)) (U 309 (.h 312 (.loop (h4_1 l0_0 a0 0) (.exit 2) ⟨[(3,(.one (.ref ⟨(3,0,0),[],0,(length (map d_y ((m62 (m38 a0)).f0)))⟩))),(4,(.ptr ⟨(4,0,0),[],0,0,3⟩)),(11,(.oi (m28 a0 3 (wrap .i64 (((m19 ((m62 (m38 a0)).f0)).f1)+1))))),(12,(.ptr ⟨(12,0,0),[],0,0,3⟩)),(13,(.oi w0_118)),(175,(.one (.val (.bool w1_118))))],[((3,0,0),.live ⟨1,(map d_y ((m62 (m38 a0)).f0)),[]⟩),((4,0,0),.live ⟨3,[(d_iiLisiiE (m19 ((m62 (m38 a0)).f0)))],[]⟩),((12,0,0),.live ⟨3,[(d_iiLisiiE (m19 (take (toNat (m28 a0 3 (wrap .i64 (((m19 ((m62 (m38 a0)).f0)).f1)+1))) - toNat 0) (drop 0 ((m62 (m38 a0)).f0)))))],[]⟩)]⟩) r))))))
          by_cases h18:(decide (((m19 (take (toNat (m28 a0 3 (wrap .i64 (((m19 ((m62 (m38 a0)).f0)).f1)+1))) - toNat 0) (drop 0 ((m62 (m38 a0)).f0)))).f1)≤(m28 a0 3 (wrap .i64 (((m19 ((m62 (m38 a0)).f0)).f1)+1)))))=true
          · try simp only[if_pos h18]
            exact cp ya (P18 (.f h18 (.f h18 (.f h18 (.f h18 (.f h18 (ln_y ((m62 (m38 a0)).f0) (T 323 (T 325 (T 327 (T 329 (T 331 (.r 332 [] [(map b_y ((m62 (m38 a0)).f0))] (e27 (l0_0:=0) (a0:=((m62 (m38 a0)).f0)) yx yc) (.f h18 (.f h18 (.f h18 (.f h18 (T 333 (T 335 (T 337 (T 340 .nil)))))))))))))))))))))
          try simp only[if_neg h18]
          exact cp ya (P18 (N h18 (N h18 (N h18 (N h18 (N h18 (N h18 (N h18 (N h18 (N h18 (U 323 (U 325 (U 327 (U 329 (U 331 (U 333 (U 335 (U 337 (U 340 .nil)))))))))))))))))))
        |k1=>
          try dsimp only
          have f163:(⟨[(3,(.one (.ref ⟨(3,0,0),[],0,(length (map d_y ((m62 (m38 a0)).f0)))⟩))),(4,(.ptr ⟨(4,0,0),[],0,0,3⟩)),(11,(.oi (m28 a0 3 (wrap .i64 (((m19 ((m62 (m38 a0)).f0)).f1)+1))))),(12,(.ptr ⟨(12,0,0),[],0,0,3⟩)),(13,(.oi 0))],[((3,0,0),.live ⟨1,(map d_y ((m62 (m38 a0)).f0)),[]⟩),((4,0,0),.live ⟨3,[(d_iiLisiiE (m19 ((m62 (m38 a0)).f0)))],[]⟩),((12,0,0),.live ⟨3,[(d_iiLisiiE (m19 (take (toNat (m28 a0 3 (wrap .i64 (((m19 ((m62 (m38 a0)).f0)).f1)+1))) - toNat 0) (drop 0 ((m62 (m38 a0)).f0)))))],[]⟩)]⟩:St)=h4_1 l0_0 a0 0 :=yv
          exact cp ya (P16 (N h16 (.f f163 (.f (ev_ (e:=ex4_1) (g:=(fin4_1 l0_0 a0)) h17 (t4_1 (l0_0:=l0_0) (a0:=a0) (by assumption) (by assumption) ((m19 (take (toNat (m28 a0 3 (wrap .i64 (((m19 ((m62 (m38 a0)).f0)).f1)+1))) - toNat 0) (drop 0 ((m62 (m38 a0)).f0)))).f2) ((m19 ((m62 (m38 a0)).f0)).f2) [] []  rfl rfl rfl yal)) (U 309 (.h 312 (.loop (h4_1 l0_0 a0 0) .ret ⟨[(2,(.one (.val (.bool false))))],[]⟩) .nil))))))
    try simp only[if_neg h8]
    have P9 {hs q} (r:PS F X hs q):=(P8 (N h8 (N h8 (N h8 (N h8 (N h8 (N h8 (N h8 (N h8 (N h8 (N h8 (N h8 (N h8 (N h7 (N h8 (N h7 (U 177 (U 179 (U 181 (U 183 (U 185 (U 187 (U 189 (U 191 (U 193 (U 195 (U 197 (U 199 (U 201 (U 202 (U 204 r)))))))))))))))))))))))))))))))
    by_cases h9:(((m19 ((m62 (m38 a0)).f0)).f0) !=0)=true
    · try simp only[if_pos h9]
      exact cp ya (P9 (.f h9 (ln_y ((m62 (m38 a0)).f0) (T 212 (.r 216 [] [(map b_y ((m62 (m38 a0)).f0))] (e27 (l0_0:=0) (a0:=((m62 (m38 a0)).f0)) yx yc) .nil)))))
    try simp only[if_neg h9]
    have P10 {hs q} (r:PS F X hs q):=(P9 (N h9 (U 212 r)))
    cases h10:r4_0 a0 ((m19 ((m62 (m38 a0)).f0)).f2) 0 ([]) with
    |k0 w0_84 w1_84 w2_84=>
      try dsimp only
      have f112:(⟨[(0,(.one (.bor l0_0 (map b_y a0)))),(3,(.one (.ref ⟨(3,0,0),[],0,(length (map d_y ((m62 (m38 a0)).f0)))⟩))),(4,(.ptr ⟨(4,0,0),[],0,0,3⟩)),(9,(.one (.ref ⟨(9,0,0),[],0,0⟩))),(10,(.oi 0))],[((3,0,0),.live ⟨1,(map d_y ((m62 (m38 a0)).f0)),[]⟩),((4,0,0),.live ⟨3,[(d_iiLisiiE (m19 ((m62 (m38 a0)).f0)))],[]⟩),((9,0,0),.live ⟨1,[],[]⟩)]⟩:St)=h4_0 l0_0 a0 0 ([]):=yv
      have P11 {hs q} (r:PS F X hs q):=(P10 (.f f112 (.f (ev_ (e:=ex4_0) (g:=(fin4_0 l0_0 a0)) h10 (t4_0 (l0_0:=l0_0) (a0:=a0) (by assumption) (by assumption) ((m19 ((m62 (m38 a0)).f0)).f2) [] ([]) rfl yX)) (.h 219 (.loop (h4_0 l0_0 a0 0 ([])) (.exit 0) ⟨[(0,(.one (.bor l0_0 (map b_y a0)))),(3,(.one (.ref ⟨(3,0,0),[],0,(length (map d_y ((m62 (m38 a0)).f0)))⟩))),(4,(.ptr ⟨(4,0,0),[],0,0,3⟩)),(9,(.one (.ref ⟨(9,0,0),[],0,(length (map d_y w0_84))⟩))),(10,(.oi w1_84)),(118,(.one (.val (.bool w2_84))))],[((3,0,0),.live ⟨1,(map d_y ((m62 (m38 a0)).f0)),[]⟩),((4,0,0),.live ⟨3,[(d_iiLisiiE (m19 ((m62 (m38 a0)).f0)))],[]⟩),((9,0,0),.live ⟨1,(map d_y w0_84),[]⟩)]⟩) r))))
      by_cases h11:(decide (((m19 ((m62 (m38 a0)).f0)).f1) < 0))=true
      · try simp only[if_pos h11]
        exact cp ya (P11 (.f h11 (.f h11 (.f h11 (.f h11 (.f h11 (.f h11 (T 228 (T 230 (T 232 (T 234 (T 236 (T 239 .nil)))))))))))))
      try simp only[if_neg h11]
      have P12 {hs q} (r:PS F X hs q):=(P11 (N h11 (N h11 (N h11 (N h11 (N h11 (N h11 (U 228 (U 230 (U 232 (U 234 (U 236 (U 239 r)))))))))))))
      by_cases h12:(decide (((m19 ((m62 (m38 a0)).f0)).f1) >((length (map d_y ((m62 (m38 a0)).f0))):Int)))=true
      · try simp only[if_pos h12]
        exact cp ya (P12 (.f h12 (.f h12 (.f h12 (.f h12 (.f h12 (.f h12 (.f h12 (.f h12 (.f h12 (T 242 (T 244 (T 246 (T 248 (T 250 (T 252 (T 254 (T 256 (T 259 .nil)))))))))))))))))))
      try simp only[if_neg h12]
      have f122:0+(length (map d_y w0_84))≤(length (map d_y w0_84)):=yb
      have f123:rowsInts .u8 (take (length (map d_y w0_84)) (drop 0 (map d_y w0_84)))=some w0_84:=yd
      have f128:0+(length (map d_y ((m62 (m38 a0)).f0)))≤(length (map d_y ((m62 (m38 a0)).f0))):=yb
      have f129:0≤(0:Int)∧(0:Int)≤((m19 ((m62 (m38 a0)).f0)).f1)∧((m19 ((m62 (m38 a0)).f0)).f1)≤((length (map d_y ((m62 (m38 a0)).f0))):Int):=yai
      have f131:0+(toNat ((m19 ((m62 (m38 a0)).f0)).f1) - toNat 0)≤(length (map d_y ((m62 (m38 a0)).f0))):=yc
      have f132:rowsInts .u8 (take (toNat ((m19 ((m62 (m38 a0)).f0)).f1) - toNat 0) (drop 0 (map d_y ((m62 (m38 a0)).f0))))=some (take (toNat ((m19 ((m62 (m38 a0)).f0)).f1) - toNat 0) (drop 0 ((m62 (m38 a0)).f0))):=yac
      have P13 {hs q} (r:PS F X hs q):=(P12 (N h12 (N h12 (.f f122 (.f f123 (N h12 (N h12 (N h12 (N h12 (.f f128 (.f f129 (N h12 (.f f131 (.f f132 (N h12 (N h12 (U 242 (U 244 (.h 245 (.ints w0_84) (U 246 (U 248 (U 250 (U 252 (U 254 (.h 255 (.ints (take (toNat ((m19 ((m62 (m38 a0)).f0)).f1) - toNat 0) (drop 0 ((m62 (m38 a0)).f0)))) (U 256 (U 259 r)))))))))))))))))))))))))))
      by_cases h13:(!((bytesOf w0_84).toList==(bytesOf (take (toNat ((m19 ((m62 (m38 a0)).f0)).f1) - toNat 0) (drop 0 ((m62 (m38 a0)).f0)))).toList))=true
      · try simp only[if_pos h13]
        exact cp ya (P13 (.f h13 (T 260 .nil)))
      try simp only[if_neg h13]
      have f139:0≤(0:Int)∧(0:Int)≤(m28 a0 3 (wrap .i64 (((m19 ((m62 (m38 a0)).f0)).f1)+1)))∧(m28 a0 3 (wrap .i64 (((m19 ((m62 (m38 a0)).f0)).f1)+1)))≤((length (map d_y ((m62 (m38 a0)).f0))):Int):=yaf
      have f140:0+(toNat (m28 a0 3 (wrap .i64 (((m19 ((m62 (m38 a0)).f0)).f1)+1))) - toNat 0)≤(length (map d_y ((m62 (m38 a0)).f0))):=yc
      have f141:fullR (take (toNat (m28 a0 3 (wrap .i64 (((m19 ((m62 (m38 a0)).f0)).f1)+1))) - toNat 0) (drop 0 (map d_y ((m62 (m38 a0)).f0))))=true:=(ft_y _ _ _)
      have f142:toBR (take (toNat (m28 a0 3 (wrap .i64 (((m19 ((m62 (m38 a0)).f0)).f1)+1))) - toNat 0) (drop 0 (map d_y ((m62 (m38 a0)).f0))))=(map b_y (take (toNat (m28 a0 3 (wrap .i64 (((m19 ((m62 (m38 a0)).f0)).f1)+1))) - toNat 0) (drop 0 ((m62 (m38 a0)).f0)))):=(by exact tbt_y _ _ _)
      have P14 {hs q} (r:PS F X hs q):=(P13 (N h13 (.f trivial (U 260 (.r 270 [] [] (e28 (l0_0:=(l0_0+1)) (a0:=a0) (a1:=3) (a2:=(wrap .i64 (((m19 ((m62 (m38 a0)).f0)).f1)+1))) yc yc yc yc) (.f f128 (.f f139 (.f f140 (.f f141 (.f f142 (.r 280 [] [(map b_y (take (toNat (m28 a0 3 (wrap .i64 (((m19 ((m62 (m38 a0)).f0)).f1)+1))) - toNat 0) (drop 0 ((m62 (m38 a0)).f0))))] (e19 (l0_0:=0) (a0:=(take (toNat (m28 a0 3 (wrap .i64 (((m19 ((m62 (m38 a0)).f0)).f1)+1))) - toNat 0) (drop 0 ((m62 (m38 a0)).f0)))) yV yE) (pe 0 (pe (length (map d_isii ((m19 (take (toNat (m28 a0 3 (wrap .i64 (((m19 ((m62 (m38 a0)).f0)).f1)+1))) - toNat 0) (drop 0 ((m62 (m38 a0)).f0)))).f2))) r)))))))))))))
      by_cases h14:(((m19 (take (toNat (m28 a0 3 (wrap .i64 (((m19 ((m62 (m38 a0)).f0)).f1)+1))) - toNat 0) (drop 0 ((m62 (m38 a0)).f0)))).f0) !=0)=true
      · try simp only[if_pos h14]
        exact cp ya (P14 (.f h14 (.f h14 (.f h14 (.f h14 (.f h14 (.f h14 (.f h14 (.f h14 (T 293 (T 295 (T 297 (T 299 (T 301 (T 303 (T 305 (T 308 .nil)))))))))))))))))
      try simp only[if_neg h14]
      have P15 {hs q} (r:PS F X hs q):=(P14 (N h14 (N h14 (N h14 (N h14 (N h14 (N h14 (N h14 (N h14 (U 293 (U 295 (U 297 (U 299 (U 301 (U 303 (U 305 (U 308 r)))))))))))))))))
      by_cases h15:(decide (((length (map d_isii ((m19 (take (toNat (m28 a0 3 (wrap .i64 (((m19 ((m62 (m38 a0)).f0)).f1)+1))) - toNat 0) (drop 0 ((m62 (m38 a0)).f0)))).f2))):Int) >((length (map d_isii ((m19 ((m62 (m38 a0)).f0)).f2))):Int)))=true
      · try simp only[if_pos h15]
        exact cp ya (P15 (.f h15 (T 309 .nil)))
      try simp only[if_neg h15]
      cases h16:r4_1 a0 ((m19 (take (toNat (m28 a0 3 (wrap .i64 (((m19 ((m62 (m38 a0)).f0)).f1)+1))) - toNat 0) (drop 0 ((m62 (m38 a0)).f0)))).f2) ((m19 ((m62 (m38 a0)).f0)).f2) 0 with
      |k0 w0_114 w1_114=>
        try dsimp only
        have f155:(⟨[(3,(.one (.ref ⟨(3,0,0),[],0,(length (map d_y ((m62 (m38 a0)).f0)))⟩))),(4,(.ptr ⟨(4,0,0),[],0,0,3⟩)),(11,(.oi (m28 a0 3 (wrap .i64 (((m19 ((m62 (m38 a0)).f0)).f1)+1))))),(12,(.ptr ⟨(12,0,0),[],0,0,3⟩)),(13,(.oi 0))],[((3,0,0),.live ⟨1,(map d_y ((m62 (m38 a0)).f0)),[]⟩),((4,0,0),.live ⟨3,[(d_iiLisiiE (m19 ((m62 (m38 a0)).f0)))],[]⟩),((12,0,0),.live ⟨3,[(d_iiLisiiE (m19 (take (toNat (m28 a0 3 (wrap .i64 (((m19 ((m62 (m38 a0)).f0)).f1)+1))) - toNat 0) (drop 0 ((m62 (m38 a0)).f0)))))],[]⟩)]⟩:St)=h4_1 l0_0 a0 0 :=yv
        have P17 {hs q} (r:PS F X hs q):=(P15 (N h15 (.f f155 (.f (ev_ (e:=ex4_1) (g:=(fin4_1 l0_0 a0)) h16 (t4_1 (l0_0:=l0_0) (a0:=a0) (by assumption) (by assumption) ((m19 (take (toNat (m28 a0 3 (wrap .i64 (((m19 ((m62 (m38 a0)).f0)).f1)+1))) - toNat 0) (drop 0 ((m62 (m38 a0)).f0)))).f2) ((m19 ((m62 (m38 a0)).f0)).f2) [] []  rfl rfl rfl yal)) (U 309 (.h 312 (.loop (h4_1 l0_0 a0 0) (.exit 2) ⟨[(3,(.one (.ref ⟨(3,0,0),[],0,(length (map d_y ((m62 (m38 a0)).f0)))⟩))),(4,(.ptr ⟨(4,0,0),[],0,0,3⟩)),(11,(.oi (m28 a0 3 (wrap .i64 (((m19 ((m62 (m38 a0)).f0)).f1)+1))))),(12,(.ptr ⟨(12,0,0),[],0,0,3⟩)),(13,(.oi w0_114)),(175,(.one (.val (.bool w1_114))))],[((3,0,0),.live ⟨1,(map d_y ((m62 (m38 a0)).f0)),[]⟩),((4,0,0),.live ⟨3,[(d_iiLisiiE (m19 ((m62 (m38 a0)).f0)))],[]⟩),((12,0,0),.live ⟨3,[(d_iiLisiiE (m19 (take (toNat (m28 a0 3 (wrap .i64 (((m19 ((m62 (m38 a0)).f0)).f1)+1))) - toNat 0) (drop 0 ((m62 (m38 a0)).f0)))))],[]⟩)]⟩) r))))))
        by_cases h17:(decide (((m19 (take (toNat (m28 a0 3 (wrap .i64 (((m19 ((m62 (m38 a0)).f0)).f1)+1))) - toNat 0) (drop 0 ((m62 (m38 a0)).f0)))).f1)≤(m28 a0 3 (wrap .i64 (((m19 ((m62 (m38 a0)).f0)).f1)+1)))))=true
        · try simp only[if_pos h17]
          exact cp ya (P17 (.f h17 (.f h17 (.f h17 (.f h17 (.f h17 (ln_y ((m62 (m38 a0)).f0) (T 323 (T 325 (T 327 (T 329 (T 331 (.r 332 [] [(map b_y ((m62 (m38 a0)).f0))] (e27 (l0_0:=0) (a0:=((m62 (m38 a0)).f0)) yx yc) (.f h17 (.f h17 (.f h17 (.f h17 (T 333 (T 335 (T 337 (T 340 .nil)))))))))))))))))))))
        try simp only[if_neg h17]
        exact cp ya (P17 (N h17 (N h17 (N h17 (N h17 (N h17 (N h17 (N h17 (N h17 (N h17 (U 323 (U 325 (U 327 (U 329 (U 331 (U 333 (U 335 (U 337 (U 340 .nil)))))))))))))))))))
      |k1=>
        try dsimp only
        have f155:(⟨[(3,(.one (.ref ⟨(3,0,0),[],0,(length (map d_y ((m62 (m38 a0)).f0)))⟩))),(4,(.ptr ⟨(4,0,0),[],0,0,3⟩)),(11,(.oi (m28 a0 3 (wrap .i64 (((m19 ((m62 (m38 a0)).f0)).f1)+1))))),(12,(.ptr ⟨(12,0,0),[],0,0,3⟩)),(13,(.oi 0))],[((3,0,0),.live ⟨1,(map d_y ((m62 (m38 a0)).f0)),[]⟩),((4,0,0),.live ⟨3,[(d_iiLisiiE (m19 ((m62 (m38 a0)).f0)))],[]⟩),((12,0,0),.live ⟨3,[(d_iiLisiiE (m19 (take (toNat (m28 a0 3 (wrap .i64 (((m19 ((m62 (m38 a0)).f0)).f1)+1))) - toNat 0) (drop 0 ((m62 (m38 a0)).f0)))))],[]⟩)]⟩:St)=h4_1 l0_0 a0 0 :=yv
        exact cp ya (P15 (N h15 (.f f155 (.f (ev_ (e:=ex4_1) (g:=(fin4_1 l0_0 a0)) h16 (t4_1 (l0_0:=l0_0) (a0:=a0) (by assumption) (by assumption) ((m19 (take (toNat (m28 a0 3 (wrap .i64 (((m19 ((m62 (m38 a0)).f0)).f1)+1))) - toNat 0) (drop 0 ((m62 (m38 a0)).f0)))).f2) ((m19 ((m62 (m38 a0)).f0)).f2) [] []  rfl rfl rfl yal)) (U 309 (.h 312 (.loop (h4_1 l0_0 a0 0) .ret ⟨[(2,(.one (.val (.bool false))))],[]⟩) .nil))))))
  try simp only[if_neg h3]
  have P4 {hs q} (r:PS F X hs q):=(P3 (N h3 (N h3 (N h3 (N h3 (N h3 (N h3 (N h3 (N h3 (N h3 (N h3 (N h2 (N h3 (N h2 (ln_y ((m20_0 a0).f0) (U 93 (U 95 (U 97 (U 99 (U 101 (U 103 (U 105 (U 123 (U 125 (U 143 (U 145 (U 146 (U 148 (.r 160 [] [(map b_y ((m20_0 a0).f0))] (e26 (l0_0:=0) (a0:=(m20_0 a0)) (a1:=(m20_1 a0)) yW yW) r)))))))))))))))))))))))))))))
  by_cases h4:(((m21 (m20_0 a0) (m20_1 a0)).f0) !=((m26 (m20_0 a0) (m20_1 a0)).f0))=true
  · try simp only[if_pos h4]
    exact cp ya (P4 (.f h4 (.f h4 (.f h4 (.f h4 (.f h4 (.f h4 (T 169 (T 171 (T 173 (T 175 (T 201 (T 204 .nil)))))))))))))
  try simp only[if_neg h4]
  have P5 {hs q} (r:PS F X hs q):=(P4 (N h4 (N h4 (N h4 (N h4 (U 169 (U 171 (U 173 (U 175 r)))))))))
  by_cases h5:(((m21 (m20_0 a0) (m20_1 a0)).f0)==0)=true
  · try simp only[if_pos h5]
    have f59:0+(length (map d_y ((m21 (m20_0 a0) (m20_1 a0)).f1)))≤(length (map d_y ((m21 (m20_0 a0) (m20_1 a0)).f1))):=yb
    have f60:rowsInts .u8 (take (length (map d_y ((m21 (m20_0 a0) (m20_1 a0)).f1))) (drop 0 (map d_y ((m21 (m20_0 a0) (m20_1 a0)).f1))))=some ((m21 (m20_0 a0) (m20_1 a0)).f1):=yd
    have f64:0+(length (map d_y ((m20_0 a0).f0)))≤(length (map d_y ((m20_0 a0).f0))):=yb
    have f65:rowsInts .u8 (take (length (map d_y ((m20_0 a0).f0))) (drop 0 (map d_y ((m20_0 a0).f0))))=some ((m20_0 a0).f0):=yd
    have f69:0+(length (map d_y ((m22 (m20_1 a0)).f1)))≤(length (map d_y ((m22 (m20_1 a0)).f1))):=yb
    have f70:rowsInts .u8 (take (length (map d_y ((m22 (m20_1 a0)).f1))) (drop 0 (map d_y ((m22 (m20_1 a0)).f1))))=some ((m22 (m20_1 a0)).f1):=yd
    have f72:ByteArray.size (bytesOf ((m20_0 a0).f0))+ByteArray.size (bytesOf ((m22 (m20_1 a0)).f1))≤9223372036854775807:=yao
    have P6 {hs q} (r:PS F X hs q):=(P5 (.f h5 (.f h5 (.f h5 (.f h5 (.f f59 (.f f60 (.f h5 (.f h5 (.f h5 (.f f64 (.f f65 (.f h5 (.f h5 (.f h5 (.f f69 (.f f70 (.f h5 (.f f72 (.f h5 (N h4 (.f h5 (N h4 (T 177 (T 179 (T 181 (T 183 (.h 184 (.ints ((m21 (m20_0 a0) (m20_1 a0)).f1)) (T 185 (T 187 (T 189 (.h 190 (.ints ((m20_0 a0).f0)) (T 191 (T 193 (T 195 (.h 196 (.ints ((m22 (m20_1 a0)).f1)) (T 197 (T 199 (U 201 (T 202 (U 204 r)))))))))))))))))))))))))))))))))))))))))
    by_cases h6:(!((bytesOf ((m21 (m20_0 a0) (m20_1 a0)).f1)).toList==((bytesOf ((m20_0 a0).f0))++(bytesOf ((m22 (m20_1 a0)).f1))).toList))=true
    · try simp only[if_pos h6]
      exact cp ya (P6 (.f h6 (T 205 .nil)))
    try simp only[if_neg h6]
    have P7 {hs q} (r:PS F X hs q):=(P6 (N h6 (U 205 r)))
    by_cases h7:(((m19 ((m62 (m38 a0)).f0)).f0) !=0)=true
    · try simp only[if_pos h7]
      exact cp ya (P7 (.f h7 (ln_y ((m62 (m38 a0)).f0) (T 212 (.r 216 [] [(map b_y ((m62 (m38 a0)).f0))] (e27 (l0_0:=0) (a0:=((m62 (m38 a0)).f0)) yx yc) .nil)))))
    try simp only[if_neg h7]
    have P8 {hs q} (r:PS F X hs q):=(P7 (N h7 (U 212 r)))
    cases h8:r4_0 a0 ((m19 ((m62 (m38 a0)).f0)).f2) 0 ([]) with
    |k0 w0_58 w1_58 w2_58=>
      try dsimp only
      have f79:(⟨[(0,(.one (.bor l0_0 (map b_y a0)))),(3,(.one (.ref ⟨(3,0,0),[],0,(length (map d_y ((m62 (m38 a0)).f0)))⟩))),(4,(.ptr ⟨(4,0,0),[],0,0,3⟩)),(9,(.one (.ref ⟨(9,0,0),[],0,0⟩))),(10,(.oi 0))],[((3,0,0),.live ⟨1,(map d_y ((m62 (m38 a0)).f0)),[]⟩),((4,0,0),.live ⟨3,[(d_iiLisiiE (m19 ((m62 (m38 a0)).f0)))],[]⟩),((9,0,0),.live ⟨1,[],[]⟩)]⟩:St)=h4_0 l0_0 a0 0 ([]):=yv
      have P9 {hs q} (r:PS F X hs q):=(P8 (.f f79 (.f (ev_ (e:=ex4_0) (g:=(fin4_0 l0_0 a0)) h8 (t4_0 (l0_0:=l0_0) (a0:=a0) (by assumption) (by assumption) ((m19 ((m62 (m38 a0)).f0)).f2) [] ([]) rfl yX)) (.h 219 (.loop (h4_0 l0_0 a0 0 ([])) (.exit 0) ⟨[(0,(.one (.bor l0_0 (map b_y a0)))),(3,(.one (.ref ⟨(3,0,0),[],0,(length (map d_y ((m62 (m38 a0)).f0)))⟩))),(4,(.ptr ⟨(4,0,0),[],0,0,3⟩)),(9,(.one (.ref ⟨(9,0,0),[],0,(length (map d_y w0_58))⟩))),(10,(.oi w1_58)),(118,(.one (.val (.bool w2_58))))],[((3,0,0),.live ⟨1,(map d_y ((m62 (m38 a0)).f0)),[]⟩),((4,0,0),.live ⟨3,[(d_iiLisiiE (m19 ((m62 (m38 a0)).f0)))],[]⟩),((9,0,0),.live ⟨1,(map d_y w0_58),[]⟩)]⟩) r))))
      by_cases h9:(decide (((m19 ((m62 (m38 a0)).f0)).f1) < 0))=true
      · try simp only[if_pos h9]
        exact cp ya (P9 (.f h9 (.f h9 (.f h9 (.f h9 (.f h9 (.f h9 (T 228 (T 230 (T 232 (T 234 (T 236 (T 239 .nil)))))))))))))
      try simp only[if_neg h9]
      have P10 {hs q} (r:PS F X hs q):=(P9 (N h9 (N h9 (N h9 (N h9 (N h9 (N h9 (U 228 (U 230 (U 232 (U 234 (U 236 (U 239 r)))))))))))))
      by_cases h10:(decide (((m19 ((m62 (m38 a0)).f0)).f1) >((length (map d_y ((m62 (m38 a0)).f0))):Int)))=true
      · try simp only[if_pos h10]
        exact cp ya (P10 (.f h10 (.f h10 (.f h10 (.f h10 (.f h10 (.f h10 (.f h10 (.f h10 (.f h10 (T 242 (T 244 (T 246 (T 248 (T 250 (T 252 (T 254 (T 256 (T 259 .nil)))))))))))))))))))
      try simp only[if_neg h10]
      have f89:0+(length (map d_y w0_58))≤(length (map d_y w0_58)):=yb
      have f90:rowsInts .u8 (take (length (map d_y w0_58)) (drop 0 (map d_y w0_58)))=some w0_58:=yd
      have f95:0+(length (map d_y ((m62 (m38 a0)).f0)))≤(length (map d_y ((m62 (m38 a0)).f0))):=yb
      have f96:0≤(0:Int)∧(0:Int)≤((m19 ((m62 (m38 a0)).f0)).f1)∧((m19 ((m62 (m38 a0)).f0)).f1)≤((length (map d_y ((m62 (m38 a0)).f0))):Int):=yai
      have f98:0+(toNat ((m19 ((m62 (m38 a0)).f0)).f1) - toNat 0)≤(length (map d_y ((m62 (m38 a0)).f0))):=yc
      have f99:rowsInts .u8 (take (toNat ((m19 ((m62 (m38 a0)).f0)).f1) - toNat 0) (drop 0 (map d_y ((m62 (m38 a0)).f0))))=some (take (toNat ((m19 ((m62 (m38 a0)).f0)).f1) - toNat 0) (drop 0 ((m62 (m38 a0)).f0))):=yac
      have P11 {hs q} (r:PS F X hs q):=(P10 (N h10 (N h10 (.f f89 (.f f90 (N h10 (N h10 (N h10 (N h10 (.f f95 (.f f96 (N h10 (.f f98 (.f f99 (N h10 (N h10 (U 242 (U 244 (.h 245 (.ints w0_58) (U 246 (U 248 (U 250 (U 252 (U 254 (.h 255 (.ints (take (toNat ((m19 ((m62 (m38 a0)).f0)).f1) - toNat 0) (drop 0 ((m62 (m38 a0)).f0)))) (U 256 (U 259 r)))))))))))))))))))))))))))
      by_cases h11:(!((bytesOf w0_58).toList==(bytesOf (take (toNat ((m19 ((m62 (m38 a0)).f0)).f1) - toNat 0) (drop 0 ((m62 (m38 a0)).f0)))).toList))=true
      · try simp only[if_pos h11]
        exact cp ya (P11 (.f h11 (T 260 .nil)))
      try simp only[if_neg h11]
      have f106:0≤(0:Int)∧(0:Int)≤(m28 a0 3 (wrap .i64 (((m19 ((m62 (m38 a0)).f0)).f1)+1)))∧(m28 a0 3 (wrap .i64 (((m19 ((m62 (m38 a0)).f0)).f1)+1)))≤((length (map d_y ((m62 (m38 a0)).f0))):Int):=yaf
      have f107:0+(toNat (m28 a0 3 (wrap .i64 (((m19 ((m62 (m38 a0)).f0)).f1)+1))) - toNat 0)≤(length (map d_y ((m62 (m38 a0)).f0))):=yc
      have f108:fullR (take (toNat (m28 a0 3 (wrap .i64 (((m19 ((m62 (m38 a0)).f0)).f1)+1))) - toNat 0) (drop 0 (map d_y ((m62 (m38 a0)).f0))))=true:=(ft_y _ _ _)
      have f109:toBR (take (toNat (m28 a0 3 (wrap .i64 (((m19 ((m62 (m38 a0)).f0)).f1)+1))) - toNat 0) (drop 0 (map d_y ((m62 (m38 a0)).f0))))=(map b_y (take (toNat (m28 a0 3 (wrap .i64 (((m19 ((m62 (m38 a0)).f0)).f1)+1))) - toNat 0) (drop 0 ((m62 (m38 a0)).f0)))):=(by exact tbt_y _ _ _)
      have P12 {hs q} (r:PS F X hs q):=(P11 (N h11 (.f trivial (U 260 (.r 270 [] [] (e28 (l0_0:=(l0_0+1)) (a0:=a0) (a1:=3) (a2:=(wrap .i64 (((m19 ((m62 (m38 a0)).f0)).f1)+1))) yc yc yc yc) (.f f95 (.f f106 (.f f107 (.f f108 (.f f109 (.r 280 [] [(map b_y (take (toNat (m28 a0 3 (wrap .i64 (((m19 ((m62 (m38 a0)).f0)).f1)+1))) - toNat 0) (drop 0 ((m62 (m38 a0)).f0))))] (e19 (l0_0:=0) (a0:=(take (toNat (m28 a0 3 (wrap .i64 (((m19 ((m62 (m38 a0)).f0)).f1)+1))) - toNat 0) (drop 0 ((m62 (m38 a0)).f0)))) yV yE) (pe 0 (pe (length (map d_isii ((m19 (take (toNat (m28 a0 3 (wrap .i64 (((m19 ((m62 (m38 a0)).f0)).f1)+1))) - toNat 0) (drop 0 ((m62 (m38 a0)).f0)))).f2))) r)))))))))))))
      by_cases h12:(((m19 (take (toNat (m28 a0 3 (wrap .i64 (((m19 ((m62 (m38 a0)).f0)).f1)+1))) - toNat 0) (drop 0 ((m62 (m38 a0)).f0)))).f0) !=0)=true
      · try simp only[if_pos h12]
        exact cp ya (P12 (.f h12 (.f h12 (.f h12 (.f h12 (.f h12 (.f h12 (.f h12 (.f h12 (T 293 (T 295 (T 297 (T 299 (T 301 (T 303 (T 305 (T 308 .nil)))))))))))))))))
      try simp only[if_neg h12]
      have P13 {hs q} (r:PS F X hs q):=(P12 (N h12 (N h12 (N h12 (N h12 (N h12 (N h12 (N h12 (N h12 (U 293 (U 295 (U 297 (U 299 (U 301 (U 303 (U 305 (U 308 r)))))))))))))))))
      by_cases h13:(decide (((length (map d_isii ((m19 (take (toNat (m28 a0 3 (wrap .i64 (((m19 ((m62 (m38 a0)).f0)).f1)+1))) - toNat 0) (drop 0 ((m62 (m38 a0)).f0)))).f2))):Int) >((length (map d_isii ((m19 ((m62 (m38 a0)).f0)).f2))):Int)))=true
      · try simp only[if_pos h13]
        exact cp ya (P13 (.f h13 (T 309 .nil)))
      try simp only[if_neg h13]
      cases h14:r4_1 a0 ((m19 (take (toNat (m28 a0 3 (wrap .i64 (((m19 ((m62 (m38 a0)).f0)).f1)+1))) - toNat 0) (drop 0 ((m62 (m38 a0)).f0)))).f2) ((m19 ((m62 (m38 a0)).f0)).f2) 0 with
      |k0 w0_88 w1_88=>
        try dsimp only
        have f122:(⟨[(3,(.one (.ref ⟨(3,0,0),[],0,(length (map d_y ((m62 (m38 a0)).f0)))⟩))),(4,(.ptr ⟨(4,0,0),[],0,0,3⟩)),(11,(.oi (m28 a0 3 (wrap .i64 (((m19 ((m62 (m38 a0)).f0)).f1)+1))))),(12,(.ptr ⟨(12,0,0),[],0,0,3⟩)),(13,(.oi 0))],[((3,0,0),.live ⟨1,(map d_y ((m62 (m38 a0)).f0)),[]⟩),((4,0,0),.live ⟨3,[(d_iiLisiiE (m19 ((m62 (m38 a0)).f0)))],[]⟩),((12,0,0),.live ⟨3,[(d_iiLisiiE (m19 (take (toNat (m28 a0 3 (wrap .i64 (((m19 ((m62 (m38 a0)).f0)).f1)+1))) - toNat 0) (drop 0 ((m62 (m38 a0)).f0)))))],[]⟩)]⟩:St)=h4_1 l0_0 a0 0 :=yv
        have P15 {hs q} (r:PS F X hs q):=(P13 (N h13 (.f f122 (.f (ev_ (e:=ex4_1) (g:=(fin4_1 l0_0 a0)) h14 (t4_1 (l0_0:=l0_0) (a0:=a0) (by assumption) (by assumption) ((m19 (take (toNat (m28 a0 3 (wrap .i64 (((m19 ((m62 (m38 a0)).f0)).f1)+1))) - toNat 0) (drop 0 ((m62 (m38 a0)).f0)))).f2) ((m19 ((m62 (m38 a0)).f0)).f2) [] []  rfl rfl rfl yal)) (U 309 (.h 312 (.loop (h4_1 l0_0 a0 0) (.exit 2) ⟨[(3,(.one (.ref ⟨(3,0,0),[],0,(length (map d_y ((m62 (m38 a0)).f0)))⟩))),(4,(.ptr ⟨(4,0,0),[],0,0,3⟩)),(11,(.oi (m28 a0 3 (wrap .i64 (((m19 ((m62 (m38 a0)).f0)).f1)+1))))),(12,(.ptr ⟨(12,0,0),[],0,0,3⟩)),(13,(.oi w0_88)),(175,(.one (.val (.bool w1_88))))],[((3,0,0),.live ⟨1,(map d_y ((m62 (m38 a0)).f0)),[]⟩),((4,0,0),.live ⟨3,[(d_iiLisiiE (m19 ((m62 (m38 a0)).f0)))],[]⟩),((12,0,0),.live ⟨3,[(d_iiLisiiE (m19 (take (toNat (m28 a0 3 (wrap .i64 (((m19 ((m62 (m38 a0)).f0)).f1)+1))) - toNat 0) (drop 0 ((m62 (m38 a0)).f0)))))],[]⟩)]⟩) r))))))
        by_cases h15:(decide (((m19 (take (toNat (m28 a0 3 (wrap .i64 (((m19 ((m62 (m38 a0)).f0)).f1)+1))) - toNat 0) (drop 0 ((m62 (m38 a0)).f0)))).f1)≤(m28 a0 3 (wrap .i64 (((m19 ((m62 (m38 a0)).f0)).f1)+1)))))=true
        · try simp only[if_pos h15]
          exact cp ya (P15 (.f h15 (.f h15 (.f h15 (.f h15 (.f h15 (ln_y ((m62 (m38 a0)).f0) (T 323 (T 325 (T 327 (T 329 (T 331 (.r 332 [] [(map b_y ((m62 (m38 a0)).f0))] (e27 (l0_0:=0) (a0:=((m62 (m38 a0)).f0)) yx yc) (.f h15 (.f h15 (.f h15 (.f h15 (T 333 (T 335 (T 337 (T 340 .nil)))))))))))))))))))))
        try simp only[if_neg h15]
        exact cp ya (P15 (N h15 (N h15 (N h15 (N h15 (N h15 (N h15 (N h15 (N h15 (N h15 (U 323 (U 325 (U 327 (U 329 (U 331 (U 333 (U 335 (U 337 (U 340 .nil)))))))))))))))))))
      |k1=>
        try dsimp only
        have f122:(⟨[(3,(.one (.ref ⟨(3,0,0),[],0,(length (map d_y ((m62 (m38 a0)).f0)))⟩))),(4,(.ptr ⟨(4,0,0),[],0,0,3⟩)),(11,(.oi (m28 a0 3 (wrap .i64 (((m19 ((m62 (m38 a0)).f0)).f1)+1))))),(12,(.ptr ⟨(12,0,0),[],0,0,3⟩)),(13,(.oi 0))],[((3,0,0),.live ⟨1,(map d_y ((m62 (m38 a0)).f0)),[]⟩),((4,0,0),.live ⟨3,[(d_iiLisiiE (m19 ((m62 (m38 a0)).f0)))],[]⟩),((12,0,0),.live ⟨3,[(d_iiLisiiE (m19 (take (toNat (m28 a0 3 (wrap .i64 (((m19 ((m62 (m38 a0)).f0)).f1)+1))) - toNat 0) (drop 0 ((m62 (m38 a0)).f0)))))],[]⟩)]⟩:St)=h4_1 l0_0 a0 0 :=yv
        exact cp ya (P13 (N h13 (.f f122 (.f (ev_ (e:=ex4_1) (g:=(fin4_1 l0_0 a0)) h14 (t4_1 (l0_0:=l0_0) (a0:=a0) (by assumption) (by assumption) ((m19 (take (toNat (m28 a0 3 (wrap .i64 (((m19 ((m62 (m38 a0)).f0)).f1)+1))) - toNat 0) (drop 0 ((m62 (m38 a0)).f0)))).f2) ((m19 ((m62 (m38 a0)).f0)).f2) [] []  rfl rfl rfl yal)) (U 309 (.h 312 (.loop (h4_1 l0_0 a0 0) .ret ⟨[(2,(.one (.val (.bool false))))],[]⟩) .nil))))))
  try simp only[if_neg h5]
  have P6 {hs q} (r:PS F X hs q):=(P5 (N h5 (N h5 (N h5 (N h5 (N h5 (N h5 (N h5 (N h5 (N h5 (N h5 (N h5 (N h5 (N h4 (N h5 (N h4 (U 177 (U 179 (U 181 (U 183 (U 185 (U 187 (U 189 (U 191 (U 193 (U 195 (U 197 (U 199 (U 201 (U 202 (U 204 r)))))))))))))))))))))))))))))))
  by_cases h6:(((m19 ((m62 (m38 a0)).f0)).f0) !=0)=true
  · try simp only[if_pos h6]
    exact cp ya (P6 (.f h6 (ln_y ((m62 (m38 a0)).f0) (T 212 (.r 216 [] [(map b_y ((m62 (m38 a0)).f0))] (e27 (l0_0:=0) (a0:=((m62 (m38 a0)).f0)) yx yc) .nil)))))
  try simp only[if_neg h6]
  have P7 {hs q} (r:PS F X hs q):=(P6 (N h6 (U 212 r)))
  cases h7:r4_0 a0 ((m19 ((m62 (m38 a0)).f0)).f2) 0 ([]) with
  |k0 w0_54 w1_54 w2_54=>
    try dsimp only
    have f71:(⟨[(0,(.one (.bor l0_0 (map b_y a0)))),(3,(.one (.ref ⟨(3,0,0),[],0,(length (map d_y ((m62 (m38 a0)).f0)))⟩))),(4,(.ptr ⟨(4,0,0),[],0,0,3⟩)),(9,(.one (.ref ⟨(9,0,0),[],0,0⟩))),(10,(.oi 0))],[((3,0,0),.live ⟨1,(map d_y ((m62 (m38 a0)).f0)),[]⟩),((4,0,0),.live ⟨3,[(d_iiLisiiE (m19 ((m62 (m38 a0)).f0)))],[]⟩),((9,0,0),.live ⟨1,[],[]⟩)]⟩:St)=h4_0 l0_0 a0 0 ([]):=yv
    have P8 {hs q} (r:PS F X hs q):=(P7 (.f f71 (.f (ev_ (e:=ex4_0) (g:=(fin4_0 l0_0 a0)) h7 (t4_0 (l0_0:=l0_0) (a0:=a0) (by assumption) (by assumption) ((m19 ((m62 (m38 a0)).f0)).f2) [] ([]) rfl yX)) (.h 219 (.loop (h4_0 l0_0 a0 0 ([])) (.exit 0) ⟨[(0,(.one (.bor l0_0 (map b_y a0)))),(3,(.one (.ref ⟨(3,0,0),[],0,(length (map d_y ((m62 (m38 a0)).f0)))⟩))),(4,(.ptr ⟨(4,0,0),[],0,0,3⟩)),(9,(.one (.ref ⟨(9,0,0),[],0,(length (map d_y w0_54))⟩))),(10,(.oi w1_54)),(118,(.one (.val (.bool w2_54))))],[((3,0,0),.live ⟨1,(map d_y ((m62 (m38 a0)).f0)),[]⟩),((4,0,0),.live ⟨3,[(d_iiLisiiE (m19 ((m62 (m38 a0)).f0)))],[]⟩),((9,0,0),.live ⟨1,(map d_y w0_54),[]⟩)]⟩) r))))
    by_cases h8:(decide (((m19 ((m62 (m38 a0)).f0)).f1) < 0))=true
    · try simp only[if_pos h8]
      exact cp ya (P8 (.f h8 (.f h8 (.f h8 (.f h8 (.f h8 (.f h8 (T 228 (T 230 (T 232 (T 234 (T 236 (T 239 .nil)))))))))))))
    try simp only[if_neg h8]
    have P9 {hs q} (r:PS F X hs q):=(P8 (N h8 (N h8 (N h8 (N h8 (N h8 (N h8 (U 228 (U 230 (U 232 (U 234 (U 236 (U 239 r)))))))))))))
    by_cases h9:(decide (((m19 ((m62 (m38 a0)).f0)).f1) >((length (map d_y ((m62 (m38 a0)).f0))):Int)))=true
    · try simp only[if_pos h9]
      exact cp ya (P9 (.f h9 (.f h9 (.f h9 (.f h9 (.f h9 (.f h9 (.f h9 (.f h9 (.f h9 (T 242 (T 244 (T 246 (T 248 (T 250 (T 252 (T 254 (T 256 (T 259 .nil)))))))))))))))))))
    try simp only[if_neg h9]
    have f81:0+(length (map d_y w0_54))≤(length (map d_y w0_54)):=yb
    have f82:rowsInts .u8 (take (length (map d_y w0_54)) (drop 0 (map d_y w0_54)))=some w0_54:=yd
    have f87:0+(length (map d_y ((m62 (m38 a0)).f0)))≤(length (map d_y ((m62 (m38 a0)).f0))):=yb
    have f88:0≤(0:Int)∧(0:Int)≤((m19 ((m62 (m38 a0)).f0)).f1)∧((m19 ((m62 (m38 a0)).f0)).f1)≤((length (map d_y ((m62 (m38 a0)).f0))):Int):=yai
    have f90:0+(toNat ((m19 ((m62 (m38 a0)).f0)).f1) - toNat 0)≤(length (map d_y ((m62 (m38 a0)).f0))):=yc
    have f91:rowsInts .u8 (take (toNat ((m19 ((m62 (m38 a0)).f0)).f1) - toNat 0) (drop 0 (map d_y ((m62 (m38 a0)).f0))))=some (take (toNat ((m19 ((m62 (m38 a0)).f0)).f1) - toNat 0) (drop 0 ((m62 (m38 a0)).f0))):=yac
    have P10 {hs q} (r:PS F X hs q):=(P9 (N h9 (N h9 (.f f81 (.f f82 (N h9 (N h9 (N h9 (N h9 (.f f87 (.f f88 (N h9 (.f f90 (.f f91 (N h9 (N h9 (U 242 (U 244 (.h 245 (.ints w0_54) (U 246 (U 248 (U 250 (U 252 (U 254 (.h 255 (.ints (take (toNat ((m19 ((m62 (m38 a0)).f0)).f1) - toNat 0) (drop 0 ((m62 (m38 a0)).f0)))) (U 256 (U 259 r)))))))))))))))))))))))))))
    by_cases h10:(!((bytesOf w0_54).toList==(bytesOf (take (toNat ((m19 ((m62 (m38 a0)).f0)).f1) - toNat 0) (drop 0 ((m62 (m38 a0)).f0)))).toList))=true
    · try simp only[if_pos h10]
      exact cp ya (P10 (.f h10 (T 260 .nil)))
    try simp only[if_neg h10]
    have f98:0≤(0:Int)∧(0:Int)≤(m28 a0 3 (wrap .i64 (((m19 ((m62 (m38 a0)).f0)).f1)+1)))∧(m28 a0 3 (wrap .i64 (((m19 ((m62 (m38 a0)).f0)).f1)+1)))≤((length (map d_y ((m62 (m38 a0)).f0))):Int):=yaf
    have f99:0+(toNat (m28 a0 3 (wrap .i64 (((m19 ((m62 (m38 a0)).f0)).f1)+1))) - toNat 0)≤(length (map d_y ((m62 (m38 a0)).f0))):=yc
    have f100:fullR (take (toNat (m28 a0 3 (wrap .i64 (((m19 ((m62 (m38 a0)).f0)).f1)+1))) - toNat 0) (drop 0 (map d_y ((m62 (m38 a0)).f0))))=true:=(ft_y _ _ _)
    have f101:toBR (take (toNat (m28 a0 3 (wrap .i64 (((m19 ((m62 (m38 a0)).f0)).f1)+1))) - toNat 0) (drop 0 (map d_y ((m62 (m38 a0)).f0))))=(map b_y (take (toNat (m28 a0 3 (wrap .i64 (((m19 ((m62 (m38 a0)).f0)).f1)+1))) - toNat 0) (drop 0 ((m62 (m38 a0)).f0)))):=(by exact tbt_y _ _ _)
    have P11 {hs q} (r:PS F X hs q):=(P10 (N h10 (.f trivial (U 260 (.r 270 [] [] (e28 (l0_0:=(l0_0+1)) (a0:=a0) (a1:=3) (a2:=(wrap .i64 (((m19 ((m62 (m38 a0)).f0)).f1)+1))) yc yc yc yc) (.f f87 (.f f98 (.f f99 (.f f100 (.f f101 (.r 280 [] [(map b_y (take (toNat (m28 a0 3 (wrap .i64 (((m19 ((m62 (m38 a0)).f0)).f1)+1))) - toNat 0) (drop 0 ((m62 (m38 a0)).f0))))] (e19 (l0_0:=0) (a0:=(take (toNat (m28 a0 3 (wrap .i64 (((m19 ((m62 (m38 a0)).f0)).f1)+1))) - toNat 0) (drop 0 ((m62 (m38 a0)).f0)))) yV yE) (pe 0 (pe (length (map d_isii ((m19 (take (toNat (m28 a0 3 (wrap .i64 (((m19 ((m62 (m38 a0)).f0)).f1)+1))) - toNat 0) (drop 0 ((m62 (m38 a0)).f0)))).f2))) r)))))))))))))
    by_cases h11:(((m19 (take (toNat (m28 a0 3 (wrap .i64 (((m19 ((m62 (m38 a0)).f0)).f1)+1))) - toNat 0) (drop 0 ((m62 (m38 a0)).f0)))).f0) !=0)=true
    · try simp only[if_pos h11]
      exact cp ya (P11 (.f h11 (.f h11 (.f h11 (.f h11 (.f h11 (.f h11 (.f h11 (.f h11 (T 293 (T 295 (T 297 (T 299 (T 301 (T 303 (T 305 (T 308 .nil)))))))))))))))))
    try simp only[if_neg h11]
    have P12 {hs q} (r:PS F X hs q):=(P11 (N h11 (N h11 (N h11 (N h11 (N h11 (N h11 (N h11 (N h11 (U 293 (U 295 (U 297 (U 299 (U 301 (U 303 (U 305 (U 308 r)))))))))))))))))
    by_cases h12:(decide (((length (map d_isii ((m19 (take (toNat (m28 a0 3 (wrap .i64 (((m19 ((m62 (m38 a0)).f0)).f1)+1))) - toNat 0) (drop 0 ((m62 (m38 a0)).f0)))).f2))):Int) >((length (map d_isii ((m19 ((m62 (m38 a0)).f0)).f2))):Int)))=true
    · try simp only[if_pos h12]
      exact cp ya (P12 (.f h12 (T 309 .nil)))
    try simp only[if_neg h12]
    cases h13:r4_1 a0 ((m19 (take (toNat (m28 a0 3 (wrap .i64 (((m19 ((m62 (m38 a0)).f0)).f1)+1))) - toNat 0) (drop 0 ((m62 (m38 a0)).f0)))).f2) ((m19 ((m62 (m38 a0)).f0)).f2) 0 with
    |k0 w0_84 w1_84=>
      try dsimp only
      have f114:(⟨[(3,(.one (.ref ⟨(3,0,0),[],0,(length (map d_y ((m62 (m38 a0)).f0)))⟩))),(4,(.ptr ⟨(4,0,0),[],0,0,3⟩)),(11,(.oi (m28 a0 3 (wrap .i64 (((m19 ((m62 (m38 a0)).f0)).f1)+1))))),(12,(.ptr ⟨(12,0,0),[],0,0,3⟩)),(13,(.oi 0))],[((3,0,0),.live ⟨1,(map d_y ((m62 (m38 a0)).f0)),[]⟩),((4,0,0),.live ⟨3,[(d_iiLisiiE (m19 ((m62 (m38 a0)).f0)))],[]⟩),((12,0,0),.live ⟨3,[(d_iiLisiiE (m19 (take (toNat (m28 a0 3 (wrap .i64 (((m19 ((m62 (m38 a0)).f0)).f1)+1))) - toNat 0) (drop 0 ((m62 (m38 a0)).f0)))))],[]⟩)]⟩:St)=h4_1 l0_0 a0 0 :=yv
      have P14 {hs q} (r:PS F X hs q):=(P12 (N h12 (.f f114 (.f (ev_ (e:=ex4_1) (g:=(fin4_1 l0_0 a0)) h13 (t4_1 (l0_0:=l0_0) (a0:=a0) (by assumption) (by assumption) ((m19 (take (toNat (m28 a0 3 (wrap .i64 (((m19 ((m62 (m38 a0)).f0)).f1)+1))) - toNat 0) (drop 0 ((m62 (m38 a0)).f0)))).f2) ((m19 ((m62 (m38 a0)).f0)).f2) [] []  rfl rfl rfl yal)) (U 309 (.h 312 (.loop (h4_1 l0_0 a0 0) (.exit 2) ⟨[(3,(.one (.ref ⟨(3,0,0),[],0,(length (map d_y ((m62 (m38 a0)).f0)))⟩))),(4,(.ptr ⟨(4,0,0),[],0,0,3⟩)),(11,(.oi (m28 a0 3 (wrap .i64 (((m19 ((m62 (m38 a0)).f0)).f1)+1))))),(12,(.ptr ⟨(12,0,0),[],0,0,3⟩)),(13,(.oi w0_84)),(175,(.one (.val (.bool w1_84))))],[((3,0,0),.live ⟨1,(map d_y ((m62 (m38 a0)).f0)),[]⟩),((4,0,0),.live ⟨3,[(d_iiLisiiE (m19 ((m62 (m38 a0)).f0)))],[]⟩),((12,0,0),.live ⟨3,[(d_iiLisiiE (m19 (take (toNat (m28 a0 3 (wrap .i64 (((m19 ((m62 (m38 a0)).f0)).f1)+1))) - toNat 0) (drop 0 ((m62 (m38 a0)).f0)))))],[]⟩)]⟩) r))))))
      by_cases h14:(decide (((m19 (take (toNat (m28 a0 3 (wrap .i64 (((m19 ((m62 (m38 a0)).f0)).f1)+1))) - toNat 0) (drop 0 ((m62 (m38 a0)).f0)))).f1)≤(m28 a0 3 (wrap .i64 (((m19 ((m62 (m38 a0)).f0)).f1)+1)))))=true
      · try simp only[if_pos h14]
        exact cp ya (P14 (.f h14 (.f h14 (.f h14 (.f h14 (.f h14 (ln_y ((m62 (m38 a0)).f0) (T 323 (T 325 (T 327 (T 329 (T 331 (.r 332 [] [(map b_y ((m62 (m38 a0)).f0))] (e27 (l0_0:=0) (a0:=((m62 (m38 a0)).f0)) yx yc) (.f h14 (.f h14 (.f h14 (.f h14 (T 333 (T 335 (T 337 (T 340 .nil)))))))))))))))))))))
      try simp only[if_neg h14]
      exact cp ya (P14 (N h14 (N h14 (N h14 (N h14 (N h14 (N h14 (N h14 (N h14 (N h14 (U 323 (U 325 (U 327 (U 329 (U 331 (U 333 (U 335 (U 337 (U 340 .nil)))))))))))))))))))
    |k1=>
      try dsimp only
      have f114:(⟨[(3,(.one (.ref ⟨(3,0,0),[],0,(length (map d_y ((m62 (m38 a0)).f0)))⟩))),(4,(.ptr ⟨(4,0,0),[],0,0,3⟩)),(11,(.oi (m28 a0 3 (wrap .i64 (((m19 ((m62 (m38 a0)).f0)).f1)+1))))),(12,(.ptr ⟨(12,0,0),[],0,0,3⟩)),(13,(.oi 0))],[((3,0,0),.live ⟨1,(map d_y ((m62 (m38 a0)).f0)),[]⟩),((4,0,0),.live ⟨3,[(d_iiLisiiE (m19 ((m62 (m38 a0)).f0)))],[]⟩),((12,0,0),.live ⟨3,[(d_iiLisiiE (m19 (take (toNat (m28 a0 3 (wrap .i64 (((m19 ((m62 (m38 a0)).f0)).f1)+1))) - toNat 0) (drop 0 ((m62 (m38 a0)).f0)))))],[]⟩)]⟩:St)=h4_1 l0_0 a0 0 :=yv
      exact cp ya (P12 (N h12 (.f f114 (.f (ev_ (e:=ex4_1) (g:=(fin4_1 l0_0 a0)) h13 (t4_1 (l0_0:=l0_0) (a0:=a0) (by assumption) (by assumption) ((m19 (take (toNat (m28 a0 3 (wrap .i64 (((m19 ((m62 (m38 a0)).f0)).f1)+1))) - toNat 0) (drop 0 ((m62 (m38 a0)).f0)))).f2) ((m19 ((m62 (m38 a0)).f0)).f2) [] []  rfl rfl rfl yal)) (U 309 (.h 312 (.loop (h4_1 l0_0 a0 0) .ret ⟨[(2,(.one (.val (.bool false))))],[]⟩) .nil))))))
theorem X_ok (f:FuncId) (args:List SV) (objs:List (V.Id × VObj)) (rs:List Ret) (h:X f args objs rs):CallOK Tryd.prog f args objs [] [] rs:=by
  rcases h with⟨rfl,rfl,h⟩
  · obtain⟨s,c,h1,h2,h3,rfl,rfl⟩:=h
    exact trim_ok s c h1 h2 h3
end Go.Proofs.YtihjlmgakpgkeaaDoor.Journals
