/- What the functions compute. -/
import Derived.Test.YtihjlmgakpgkeaaDoorEPaysC
import Derived.KernelRfl
namespace Go.Proofs.YtihjlmgakpgkeaaDoor.Pays
open Go Go.Proofs.YtihjlmgakpgkeaaDoor.V
set_option linter.unusedVariables false
set_option linter.unusedSimpArgs false
set_option maxRecDepth 20000
open Go.IntKind (wrap)
open Int (toNat)
open List (length_replicate length_map length_set length_append length_cons length_nil length_take length_drop take_of_length_le map_take map_drop map_set append_assoc getElem?_map map length take drop getD set)
attribute [local simp] strInts_len byteRows_len toBR_y fullR_y pureR_y lenB_y lenD_y fromBR_y copy_y toBR_LyE fullR_LyE pureR_LyE lenB_LyE lenD_LyE toBR_b fullR_b pureR_b lenB_b lenD_b fromBR_b copy_b toBR_si fullR_si pureR_si lenB_si lenD_si fromBR_si copy_si toBR_R fullR_R pureR_R lenB_R lenD_R toBR_B fullR_B pureR_B lenB_B lenD_B toBR_s fullR_s pureR_s lenB_s lenD_s fromBR_s copy_s toBR_i fullR_i pureR_i lenB_i lenD_i fromBR_i copy_i toBR_C fullR_C pureR_C lenB_C lenD_C toBR_ii fullR_ii pureR_ii lenB_ii lenD_ii fromBR_ii copy_ii toBR_LyEi fullR_LyEi pureR_LyEi lenB_LyEi lenD_LyEi toBR_LiE fullR_LiE pureR_LiE lenB_LiE lenD_LiE toBR_LsiE fullR_LsiE pureR_LsiE lenB_LsiE lenD_LsiE toBR_iLsiE fullR_iLsiE pureR_iLsiE lenB_iLsiE lenD_iLsiE toBR_Q fullR_Q pureR_Q lenB_Q lenD_Q
/-! loop.example/g00539/spec.DrawPayWorker -/
def m7_0 (a0:(List Int)):K_B:=
  (m39 (m38 a0))
def m7_1 (a0:(List Int)):ByteArray:=
  (m40 (K_LyEi.mk ((m38 a0).f0) ((o39_0 (m38 a0)).f1)))
def m7_2 (a0:(List Int)):Int:=
  (m41 (K_LyEi.mk ((m38 a0).f0) ((o40_0 (K_LyEi.mk ((m38 a0).f0) ((o39_0 (m38 a0)).f1))).f1)) [1,5,0,1000000])
theorem e7 {l0_0:Nat} {a0:(List Int)} (hy0:∀z∈a0,(0:Int)≤z∧z≤255) (hy1:length a0≤140737488351232):Ev F X (.call 7 [(.one (.bor l0_0 (map b_y a0)))] [] [] [(.agg (d_B (m7_0 a0))),(.one (.val (.string (m7_1 a0)))),(.one (.val (.int .i64 (m7_2 a0))))]):=by
  have f0:Ev F X (.call 38 [(.one (.bor (l0_0+1) (map b_y a0)))] [] [] [(.ptr [(.bor l0_0 (map b_y ((m38 a0).f0))),(.i ((m38 a0).f1))])]):=(e38 (a0:=a0))
  have f1:Ev F X (.call 39 [(.ptr ⟨(0,0,0),[],0,0,2⟩)] [((0,0,0),⟨2,[[(.bor (l0_0+1) (map b_y ((m38 a0).f0))),(.i ((m38 a0).f1))]],[]⟩)] [[[(.bor l0_0 (map b_y ((m38 a0).f0))),(.i ((o39_0 (m38 a0)).f1))]]] [(.agg (d_B (m39 (m38 a0))))]):=(e39 (a0:=(m38 a0)) (by (repeat (first | with_reducible refine sm39 ?_ rfl | with_reducible refine sm90 ?_ rfl | with_reducible refine sm89 ?_ rfl | with_reducible refine sm136 ?_ rfl | with_reducible refine sm41 _ ?_ rfl | with_reducible refine sm48 _ ?_ rfl | with_reducible refine sm40 ?_ rfl)); exact S_le (S_src a0 (by assumption) (by assumption)) (by omega)))
  have f2:Ev F X (.call 40 [(.ptr ⟨(0,0,0),[],0,0,2⟩)] [((0,0,0),⟨2,[[(.bor (l0_0+1) (map b_y ((m38 a0).f0))),(.i ((o39_0 (m38 a0)).f1))]],[]⟩)] [[[(.bor l0_0 (map b_y ((m38 a0).f0))),(.i ((o40_0 (K_LyEi.mk ((m38 a0).f0) ((o39_0 (m38 a0)).f1))).f1))]]] [(.one (.val (.string (m40 (K_LyEi.mk ((m38 a0).f0) ((o39_0 (m38 a0)).f1))))))]):=(e40 (a0:=(K_LyEi.mk ((m38 a0).f0) ((o39_0 (m38 a0)).f1))) (by (repeat (first | with_reducible refine sm39 ?_ rfl | with_reducible refine sm90 ?_ rfl | with_reducible refine sm89 ?_ rfl | with_reducible refine sm136 ?_ rfl | with_reducible refine sm41 _ ?_ rfl | with_reducible refine sm48 _ ?_ rfl | with_reducible refine sm40 ?_ rfl)); exact S_le (S_src a0 (by assumption) (by assumption)) (by omega)))
  have f3:4≤4:=(by omega)
  have f4:fullR (take 4 (drop 0 [[(.val (.int .i64 1))],[(.val (.int .i64 5))],[(.val (.int .i64 0))],[(.val (.int .i64 1000000))]]))=true:=(by trivial)
  have f5:toBR (take 4 (drop 0 [[(.val (.int .i64 1))],[(.val (.int .i64 5))],[(.val (.int .i64 0))],[(.val (.int .i64 1000000))]]))=[[(.val (.int .i64 1))],[(.val (.int .i64 5))],[(.val (.int .i64 0))],[(.val (.int .i64 1000000))]]:=(by trivial)
  have f6:Ev F X (.call 41 [(.ptr ⟨(0,0,0),[],0,0,2⟩),(.one (.bor 0 [[(.i 1)],[(.i 5)],[(.i 0)],[(.i 1000000)]]))] [((0,0,0),⟨2,[[(.bor (l0_0+1) (map b_y ((m38 a0).f0))),(.i ((o40_0 (K_LyEi.mk ((m38 a0).f0) ((o39_0 (m38 a0)).f1))).f1))]],[]⟩)] [[[(.bor l0_0 (map b_y ((m38 a0).f0))),(.i ((o41_0 (K_LyEi.mk ((m38 a0).f0) ((o40_0 (K_LyEi.mk ((m38 a0).f0) ((o39_0 (m38 a0)).f1))).f1)) [1,5,0,1000000]).f1))]]] [(.oi (m41 (K_LyEi.mk ((m38 a0).f0) ((o40_0 (K_LyEi.mk ((m38 a0).f0) ((o39_0 (m38 a0)).f1))).f1)) [1,5,0,1000000]))]):=(e41 (a0:=(K_LyEi.mk ((m38 a0).f0) ((o40_0 (K_LyEi.mk ((m38 a0).f0) ((o39_0 (m38 a0)).f1))).f1))) (a1:=[1,5,0,1000000]) (by (repeat (first | with_reducible refine sm39 ?_ rfl | with_reducible refine sm90 ?_ rfl | with_reducible refine sm89 ?_ rfl | with_reducible refine sm136 ?_ rfl | with_reducible refine sm41 _ ?_ rfl | with_reducible refine sm48 _ ?_ rfl | with_reducible refine sm40 ?_ rfl)); exact S_le (S_src a0 (by assumption) (by assumption)) (by omega)) (by simp; done) (by simp; done))
  exact cp (by kernel_rfl) (.r 9 [] [] f0 (.r 15 [false] [] f1 (.r 19 [false] [] f2 (.f f3 (.f f4 (.f f5 (.r 25 [false] [[[(.val (.int .i64 1))],[(.val (.int .i64 5))],[(.val (.int .i64 0))],[(.val (.int .i64 1000000))]]] f6 (pe 0 (pe (length (map d_si ((m39 (m38 a0)).f2))) (pe 0 (pe (length (map d_R ((m39 (m38 a0)).f3))) (pe 0 (pe (length (map d_si ((m39 (m38 a0)).f4))) (.f (pureR_si ((m39 (m38 a0)).f2)) (.f (pureR_R ((m39 (m38 a0)).f3)) (.f (pureR_si ((m39 (m38 a0)).f4)) .nil))))))))))))))))
/-! loop.example/g00539/impl.in -/
def m45 (a0:Int) (a1:Int) (a2:Int):Bool:=
  if(decide (a0≥a1))=true then(decide (a0≤a2)) else
  false
theorem e45 {a0:Int} {a1:Int} {a2:Int}:Ev F X (.call 45 [(.one (.val (.int .i64 a0))),(.one (.val (.int .i64 a1))),(.one (.val (.int .i64 a2)))] [] [] [(.one (.val (.bool (m45 a0 a1 a2))))]):=by
  unfold m45
  by_cases h0:(decide (a0≥a1))=true
  · try simp only[if_pos h0]
    exact cp (by kernel_rfl) (.f h0 (.f h0 (.f h0 (.f h0 (.h 10 (.b true) (.h 12 (.b true) (.h 14 (.b true) (.h 17 (.b true) .nil))))))))
  · try simp only[if_neg h0]
    exact cp (by kernel_rfl) (.f (nt h0) (.f (nt h0) (.f (nt h0) (.f (nt h0) (.h 10 (.b false) (.h 12 (.b false) (.h 14 (.b false) (.h 17 (.b false) .nil))))))))
theorem jn45 {a b c:Int} (h:¬(!(m45 a b c))=true):b≤a∧a≤c:=by
  simp only[Bool.not_eq_true',Bool.not_eq_false] at h
  unfold m45 at h; split at h<;>simp_all<;>omega
/-! loop.example/g00539/impl.isAmount -/
def m46 (a0:Int):Bool:=
  (m45 a0 0 1000000)
theorem e46 {a0:Int}:Ev F X (.call 46 [(.one (.val (.int .i64 a0)))] [] [] [(.one (.val (.bool (m45 a0 0 1000000))))]):=by
  exact cp (by kernel_rfl) (.r 5 [] [] (e45 (a0:=a0) (a1:=0) (a2:=1000000)) .nil)
/-! loop.example/g00539/impl.sizesOk -/
def m54 (a0:Int) (a1:Int):Bool:=
  if(m45 a0 1 12)=true then(m45 a1 0 1000) else
  false
theorem e54 {a0:Int} {a1:Int}:Ev F X (.call 54 [(.one (.val (.int .i64 a0))),(.one (.val (.int .i64 a1)))] [] [] [(.one (.val (.bool (m54 a0 a1))))]):=by
  unfold m54
  by_cases h0:(m45 a0 1 12)=true
  · try simp only[if_pos h0]
    exact cp (by kernel_rfl) (.r 5 [] [] (e45 (a0:=a0) (a1:=1) (a2:=12)) (.f h0 (.f h0 (.h 8 (.b true) (.h 10 (.b true) (.r 11 [] [] (e45 (a0:=a1) (a1:=0) (a2:=1000)) (.f h0 (.h 13 (.b true) .nil))))))))
  · try simp only[if_neg h0]
    exact cp (by kernel_rfl) (.r 5 [] [] (e45 (a0:=a0) (a1:=1) (a2:=12)) (.f (nt h0) (.f (nt h0) (.f (nt h0) (.h 8 (.b false) (.h 10 (.b false) (.h 13 (.b false) .nil)))))))
/-! strings.Trim -/
theorem e141 {a0 a1:ByteArray} (hy0:ByteArray.size a0≤9223372036854775807) (hy1:ByteArray.size a1 < 4294967281) (hy2:asciiB a1=true):Ev F X (.call 141 [(.one (.val (.string a0))),(.one (.val (.string a1)))] [] [] [(.one (.val (.string (trimB a0 a1))))]):=
  .ext (.inr (⟨rfl,rfl,(⟨a0,a1,hy0,hy1,hy2,rfl,rfl⟩)⟩)) rfl
/-! loop.example/g00539/impl.argOk -/
def m119 (a0:ByteArray):Bool:=
  if(decide ((ByteArray.size a0:Int)≤12))=true then((trimB a0 (⟨#[97,98,99,100,101,102,103,104,105,106,107,108,109,110,111,112,113,114,115,116,117,118,119,120,121,122,65,66,67,68,69,70,71,72,73,74,75,76,77,78,79,80,81,82,83,84,85,86,87,88,89,90,48,49,50,51,52,53,54,55,56,57]⟩:ByteArray)).toList==(⟨#[]⟩:ByteArray).toList) else
  false
theorem e119 {a0:ByteArray}:Ev F X (.call 119 [(.one (.val (.string a0)))] [] [] [(.one (.val (.bool (m119 a0))))]):=by
  unfold m119
  by_cases h0:(decide ((ByteArray.size a0:Int)≤12))=true
  · try simp only[if_pos h0]
    have f2:Ev F X (.call 141 [(.one (.val (.string a0))),(.one (.val (.string (⟨#[97,98,99,100,101,102,103,104,105,106,107,108,109,110,111,112,113,114,115,116,117,118,119,120,121,122,65,66,67,68,69,70,71,72,73,74,75,76,77,78,79,80,81,82,83,84,85,86,87,88,89,90,48,49,50,51,52,53,54,55,56,57]⟩:ByteArray))))] [] [] [(.one (.val (.string (trimB a0 (⟨#[97,98,99,100,101,102,103,104,105,106,107,108,109,110,111,112,113,114,115,116,117,118,119,120,121,122,65,66,67,68,69,70,71,72,73,74,75,76,77,78,79,80,81,82,83,84,85,86,87,88,89,90,48,49,50,51,52,53,54,55,56,57]⟩:ByteArray)))))]):=(e141 (a0:=a0) (a1:=(⟨#[97,98,99,100,101,102,103,104,105,106,107,108,109,110,111,112,113,114,115,116,117,118,119,120,121,122,65,66,67,68,69,70,71,72,73,74,75,76,77,78,79,80,81,82,83,84,85,86,87,88,89,90,48,49,50,51,52,53,54,55,56,57]⟩:ByteArray)) (by simp only[decide_eq_true_eq] at*; omega) (by decide) (by decide))
    exact cp (by kernel_rfl) (.f h0 (.f h0 (.h 10 (.b true) (.h 12 (.b true) (.r 13 [] [] f2 (.f h0 (.f h0 (.h 14 (.b true) (.h 17 (.b true) .nil)))))))))
  · try simp only[if_neg h0]
    exact cp (by kernel_rfl) (.f (nt h0) (.f (nt h0) (.f (nt h0) (.f (nt h0) (.h 10 (.b false) (.h 12 (.b false) (.h 14 (.b false) (.h 17 (.b false) .nil))))))))
/-! loop.example/g00539/impl.workerOk -/
def m71 (a0:ByteArray):Bool:=
  if(!(a0.toList==(⟨#[]⟩:ByteArray).toList))=true then(m119 a0) else
  false
theorem e71 {a0:ByteArray}:Ev F X (.call 71 [(.one (.val (.string a0)))] [] [] [(.one (.val (.bool (m71 a0))))]):=by
  unfold m71
  by_cases h0:(!(a0.toList==(⟨#[]⟩:ByteArray).toList))=true
  · try simp only[if_pos h0]
    exact cp (by kernel_rfl) (.f h0 (.f h0 (.h 8 (.b true) (.h 10 (.b true) (.r 11 [] [] (e119 (a0:=a0)) (.f h0 (.h 13 (.b true) .nil)))))))
  · try simp only[if_neg h0]
    exact cp (by kernel_rfl) (.f (nt h0) (.f (nt h0) (.f (nt h0) (.h 8 (.b false) (.h 10 (.b false) (.h 13 (.b false) .nil))))))
/-! loop 55_0 -/
inductive O55_0 where
  |k0 (w0:Int) (w1:Bool)
  |k1
  |k2
def r55_0 (a0:(List K_si)):List K_si→Int→O55_0
  |x0::y0,i=>
    if(!(m71 x0.f0))=true then(O55_0.k1) else
    if(!(m45 x0.f1 1 9999))=true then(O55_0.k2) else
      (r55_0 a0 y0 (i+1))
  |[],i=>(O55_0.k0 i (decide (i <((length (map b_si a0)):Int))))
def h55_0 (l0_0:Nat) (a0:(List K_si)) (i:Int) :St:=⟨[(8,(.one (.bor l0_0 (map b_si a0)))),(9,(.one (.val (.int .i64 ((length (map b_si a0)):Int))))),(10,(.one (.val (.int .i64 i))))],[]⟩
def ex55_0:O55_0→VX.Exit
  |.k0 _ _=>(.exit 0)
  |.k1=>.ret
  |.k2=>.ret
def fin55_0 (l0_0:Nat) (a0:(List K_si)):O55_0→St
  |.k0 w0 w1=>⟨[(8,(.one (.bor l0_0 (map b_si a0)))),(9,(.one (.val (.int .i64 ((length (map b_si a0)):Int))))),(10,(.one (.val (.int .i64 w0)))),(11,(.one (.val (.bool w1))))],[]⟩
  |.k1=>⟨[(2,(.one (.val (.int .i64 5))))],[]⟩
  |.k2=>⟨[(2,(.one (.val (.int .i64 3))))],[]⟩
theorem t55_0 {l0_0:Nat} {a0:(List K_si)} (hy0:length a0*24≤140737488351232):∀(y0:List K_si) (p:List K_si),p++y0=a0→Ev F X (.code l55_0 (h55_0 l0_0 a0 (length p:Int)) (ex55_0 (r55_0 a0 y0 (length p:Int))) (fin55_0 l0_0 a0 (r55_0 a0 y0 (length p:Int))))
  |[],p,hp0=>by
    have hc:¬(decide ((length p:Int) <((length (map b_si a0)):Int)))=true:=by
      rw[← hp0]; simp only[length_map,length_set,length_append,length_replicate,length_cons,length_nil,decide_eq_true_eq]; omega
    have st:=ch b55_0 (h55_0 l0_0 a0 (length p:Int)) ⟨[(8,(.one (.bor l0_0 (map b_si a0)))),(9,(.oi ((length (map b_si a0)):Int))),(10,(.oi (length p:Int))),(11,(.one (.val (.bool (decide ((length p:Int) <((length (map b_si a0)):Int)))))))],[]⟩ (.exit 0) 3 (by kernel_rfl) (.f (nt hc) (.h 2 (.b false) .nil))
    rw[show (⟨[(8,(.one (.bor l0_0 (map b_si a0)))),(9,(.oi ((length (map b_si a0)):Int))),(10,(.oi (length p:Int))),(11,(.one (.val (.bool (decide ((length p:Int) <((length (map b_si a0)):Int)))))))],[]⟩:St)=fin55_0 l0_0 a0 (.k0 (length p:Int) (decide ((length p:Int) <((length (map b_si a0)):Int)))) from(by rfl)] at st
    exact .loopX st (show ((.exit 0):VX.Exit)≠.normal from by simp)
  |x0::y0,p,hp0=>by
    have hc:(decide ((length p:Int) <((length (map b_si a0)):Int)))=true:=by
      rw[← hp0]; simp only[length_map,length_set,length_append,length_replicate,length_cons,length_nil,decide_eq_true_eq]; omega
    have Hx0:(a0)[toNat (length p:Int)]?=some x0:=by
      rw[← hp0,Int.toNat_natCast]; simp
    have hlen:length (a0)=length p+length y0+1:=by rw[← hp0]; simp; omega
    have hw:wrap .i64 ((length p:Int)+1)=(length p:Int)+1:=wrap64 (by omega)
    simp only[r55_0]
    have f1:0≤(length p:Int):=(by omega)
    have f2:(map b_si a0)[(toNat (length p:Int))]?=some (b_si x0):=(by rw[getElem?_map,Hx0]; rfl)
    have P1 {hs q} (r:PS F X hs q):=(PS.f hc (.f f1 (.f f2 (.h 2 (.b true) (.h 4 (.row (b_si x0)) (.r 16 [] [] (e71 (a0:=x0.f0)) r))))))
    by_cases h_1:(!(m71 x0.f0))=true
    · try simp only[if_pos h_1]
      have st:=ch b55_0 (h55_0 l0_0 a0 (length p:Int)) ⟨[(2,(.oi 5))],[]⟩ .ret 24 (by kernel_rfl) (P1 (.f h_1 (.h 21 (.b true) .nil)))
      rw[show (⟨[(2,(.oi 5))],[]⟩:St)=fin55_0 l0_0 a0 (.k1) from(by rfl)] at st
      exact .loopX st (show (.ret:VX.Exit)≠.normal from by simp)
    · try simp only[if_neg h_1]
      have P2 {hs q} (r:PS F X hs q):=(P1 (.f (nt h_1) (.h 21 (.b false) (.r 27 [] [] (e45 (a0:=x0.f1) (a1:=1) (a2:=9999)) r))))
      by_cases h_2:(!(m45 x0.f1 1 9999))=true
      · try simp only[if_pos h_2]
        have st:=ch b55_0 (h55_0 l0_0 a0 (length p:Int)) ⟨[(2,(.oi 3))],[]⟩ .ret 35 (by kernel_rfl) (P2 (.f h_2 (.h 32 (.b true) .nil)))
        rw[show (⟨[(2,(.oi 3))],[]⟩:St)=fin55_0 l0_0 a0 (.k2) from(by rfl)] at st
        exact .loopX st (show (.ret:VX.Exit)≠.normal from by simp)
      · try simp only[if_neg h_2]
        have st:=ch b55_0 (h55_0 l0_0 a0 (length p:Int)) ⟨[(8,(.one (.bor l0_0 (map b_si a0)))),(9,(.oi ((length (map b_si a0)):Int))),(10,(.oi (wrap .i64 ((length p:Int)+1))))],[]⟩ .normal 37 (by kernel_rfl) (P2 (.f (nt h_2) (.f trivial (.h 32 (.b false) .nil))))
        have ih:=t55_0 (l0_0:=l0_0) (a0:=a0) hy0 y0 (p++ [x0]) (by rw[append_assoc]; exact hp0)
        rw[show ((p++ [x0]).length:Int)=(p.length:Int)+1 from by simp] at ih
        rw[show (⟨[(8,(.one (.bor l0_0 (map b_si a0)))),(9,(.oi ((length (map b_si a0)):Int))),(10,(.oi (wrap .i64 ((length p:Int)+1))))],[]⟩:St)=h55_0 l0_0 a0 ((length p:Int)+1)  from(by unfold h55_0; simp only[hw]; done)] at st
        exact .loopN st ih
/-! loop.example/g00539/impl.WindowFault -/
def m55 (a0:(List K_si)):Int:=
  if(decide (((length (map b_si a0)):Int) > 12))=true then 2 else
  (match r55_0 a0 a0 0 with | .k0 w0_1 w1_1=>0 | .k1=>5 | .k2=>3)
theorem e55 {l0_0:Nat} {a0:(List K_si)} (hy0:length a0*24≤140737488351232):Ev F X (.call 55 [(.one (.bor l0_0 (map b_si a0)))] [] [] [(.one (.val (.int .i64 (m55 a0))))]):=by
  unfold m55
  by_cases h0:(decide (((length (map b_si a0)):Int) > 12))=true
  · try simp only[if_pos h0]
    exact cp (by kernel_rfl) (.f h0 (.h 8 (.b true) .nil))
  · try simp only[if_neg h0]
    cases h1:r55_0 a0 a0 0 with
    |k0 w0_1 w1_1=>
      try dsimp only
      have f1:(⟨[(8,(.one (.bor l0_0 (map b_si a0)))),(9,(.oi ((length (map b_si a0)):Int))),(10,(.oi 0))],[]⟩:St)=h55_0 l0_0 a0 0 :=(by rfl)
      have f2:Ev F X (.code l55_0 (h55_0 l0_0 a0 0) (.exit 0) ⟨[(8,(.one (.bor l0_0 (map b_si a0)))),(9,(.oi ((length (map b_si a0)):Int))),(10,(.oi w0_1)),(11,(.one (.val (.bool w1_1))))],[]⟩):=(by have t:Ev F X (.code l55_0 (h55_0 l0_0 a0 0) (ex55_0 (r55_0 a0 a0 0)) (fin55_0 l0_0 a0 (r55_0 a0 a0 0))):=t55_0 (l0_0:=l0_0) (a0:=a0) (by assumption) a0 []  rfl; rw[h1] at t; exact t)
      exact cp (by kernel_rfl) (.f (nt h0) (.f f1 (.f f2 (.h 8 (.b false) (.h 15 (.loop (h55_0 l0_0 a0 0) (.exit 0) ⟨[(8,(.one (.bor l0_0 (map b_si a0)))),(9,(.one (.val (.int .i64 ((length (map b_si a0)):Int))))),(10,(.one (.val (.int .i64 w0_1)))),(11,(.one (.val (.bool w1_1))))],[]⟩) .nil)))))
    |k1=>
      try dsimp only
      have f1:(⟨[(8,(.one (.bor l0_0 (map b_si a0)))),(9,(.oi ((length (map b_si a0)):Int))),(10,(.oi 0))],[]⟩:St)=h55_0 l0_0 a0 0 :=(by rfl)
      have f2:Ev F X (.code l55_0 (h55_0 l0_0 a0 0) .ret ⟨[(2,(.oi 5))],[]⟩):=(by have t:Ev F X (.code l55_0 (h55_0 l0_0 a0 0) (ex55_0 (r55_0 a0 a0 0)) (fin55_0 l0_0 a0 (r55_0 a0 a0 0))):=t55_0 (l0_0:=l0_0) (a0:=a0) (by assumption) a0 []  rfl; rw[h1] at t; exact t)
      exact cp (by kernel_rfl) (.f (nt h0) (.f f1 (.f f2 (.h 8 (.b false) (.h 15 (.loop (h55_0 l0_0 a0 0) .ret ⟨[(2,(.one (.val (.int .i64 5))))],[]⟩) .nil)))))
    |k2=>
      try dsimp only
      have f1:(⟨[(8,(.one (.bor l0_0 (map b_si a0)))),(9,(.oi ((length (map b_si a0)):Int))),(10,(.oi 0))],[]⟩:St)=h55_0 l0_0 a0 0 :=(by rfl)
      have f2:Ev F X (.code l55_0 (h55_0 l0_0 a0 0) .ret ⟨[(2,(.oi 3))],[]⟩):=(by have t:Ev F X (.code l55_0 (h55_0 l0_0 a0 0) (ex55_0 (r55_0 a0 a0 0)) (fin55_0 l0_0 a0 (r55_0 a0 a0 0))):=t55_0 (l0_0:=l0_0) (a0:=a0) (by assumption) a0 []  rfl; rw[h1] at t; exact t)
      exact cp (by kernel_rfl) (.f (nt h0) (.f f1 (.f f2 (.h 8 (.b false) (.h 15 (.loop (h55_0 l0_0 a0 0) .ret ⟨[(2,(.one (.val (.int .i64 3))))],[]⟩) .nil)))))
theorem len12_55 (a:List K_si) (h:¬((m55 a) !=0)=true):length a≤12:=by
  unfold m55 at h
  split at h
  · simp at h
  · rename_i h2
    simp only[decide_eq_true_eq,length_map] at h2
    omega
theorem wok_r55 (a:List K_si):∀(l:List K_si) (i:Int),(match r55_0 a l i with | .k0 .. =>(0:Int) | .k1=>5 | .k2=>3)=0→∀z∈l,1≤z.f1∧z.f1≤9999
  |[],i,_,x,hx=>by cases hx
  |y::l,i,h,x,hx=>by
    simp only[r55_0] at h
    by_cases h1:(!(m71 y.f0))=true
    · simp[h1] at h
    · by_cases h2:(!(m45 y.f1 1 9999))=true
      · simp[h1,h2] at h
      · simp only[if_neg h1,if_neg h2] at h
        rcases List.mem_cons.1 hx with rfl | hx
        · exact jn45 h2
        · exact wok_r55 a l (i+1) h x hx
theorem wok55 (a:List K_si) (h:¬((m55 a) !=0)=true):∀z∈a,1≤z.f1∧z.f1≤9999:=by
  have h2:m55 a=0:=by simpa using h
  unfold m55 at h2
  split at h2
  · cases h2
  · exact wok_r55 a a 0 h2
/-! loop.example/g00539/impl.weightAt$1 -/
def m1009300 (a0:K_si) (a101001:ByteArray):Bool:=
  (a0.f0.toList==a101001.toList)
theorem e1009300 {a0:K_si} {l101000:Nat} {a101001:ByteArray}:Ev F X (.call 93 [(.agg [(.val (.string a0.f0)),(.val (.int .i64 a0.f1))]),(.bptr l101000 [(.val (.string a101001))])] [] [] [(.one (.val (.bool (a0.f0.toList==a101001.toList))))]):=by
  exact cp (by kernel_rfl) .nil
/-! loop 1009200_0 -/
inductive O1009200_0 where
  |k0 (w0:Int) (w1:Bool)
  |k1 (w0:Int)
def r1009200_0 (a0:(List K_si)) (a2001:ByteArray):List K_si→Int→O1009200_0
  |x0::y0,i=>
    if(x0.f0.toList==a2001.toList)=true then(O1009200_0.k1 i) else
    (r1009200_0 a0 a2001 y0 (i+1))
  |[],i=>(O1009200_0.k0 i (decide (i <((length (map b_si a0)):Int))))
def h1009200_0 (l0_0:Nat) (l2000:Nat) (a0:(List K_si)) (a2001:ByteArray) (i:Int) :St:=⟨[(0,(.one (.bor l0_0 (map b_si a0)))),(1,(.clo 93 [] [(.bptr l2000 [(.val (.string a2001))])])),(7,(.one (.val (.int .i64 ((length (map b_si a0)):Int))))),(8,(.one (.val (.int .i64 i))))],[]⟩
def ex1009200_0:O1009200_0→VX.Exit
  |.k0 _ _=>(.exit 0)
  |.k1 _=>.ret
def fin1009200_0 (l0_0:Nat) (l2000:Nat) (a0:(List K_si)) (a2001:ByteArray):O1009200_0→St
  |.k0 w0 w1=>⟨[(0,(.one (.bor l0_0 (map b_si a0)))),(1,(.clo 93 [] [(.bptr l2000 [(.val (.string a2001))])])),(7,(.one (.val (.int .i64 ((length (map b_si a0)):Int))))),(8,(.one (.val (.int .i64 w0)))),(9,(.one (.val (.bool w1))))],[]⟩
  |.k1 w0=>⟨[(4,(.one (.val (.int .i64 w0))))],[]⟩
theorem t1009200_0 {l0_0:Nat} {l2000:Nat} {a0:(List K_si)} {a2001:ByteArray} (hy0:length a0*24≤140737488351232):∀(y0:List K_si) (p:List K_si),p++y0=a0→Ev F X (.code l92_0 (h1009200_0 l0_0 l2000 a0 a2001 (length p:Int)) (ex1009200_0 (r1009200_0 a0 a2001 y0 (length p:Int))) (fin1009200_0 l0_0 l2000 a0 a2001 (r1009200_0 a0 a2001 y0 (length p:Int))))
  |[],p,hp0=>by
    have hc:¬(decide ((length p:Int) <((length (map b_si a0)):Int)))=true:=by
      rw[← hp0]; simp only[length_map,length_set,length_append,length_replicate,length_cons,length_nil,decide_eq_true_eq]; omega
    have st:=ch b92_0 (h1009200_0 l0_0 l2000 a0 a2001 (length p:Int)) ⟨[(0,(.one (.bor l0_0 (map b_si a0)))),(1,(.clo 93 [] [(.bptr l2000 [(.val (.string a2001))])])),(7,(.oi ((length (map b_si a0)):Int))),(8,(.oi (length p:Int))),(9,(.one (.val (.bool (decide ((length p:Int) <((length (map b_si a0)):Int)))))))],[]⟩ (.exit 0) 3 (by kernel_rfl) (.f (nt hc) (.h 2 (.b false) .nil))
    rw[show (⟨[(0,(.one (.bor l0_0 (map b_si a0)))),(1,(.clo 93 [] [(.bptr l2000 [(.val (.string a2001))])])),(7,(.oi ((length (map b_si a0)):Int))),(8,(.oi (length p:Int))),(9,(.one (.val (.bool (decide ((length p:Int) <((length (map b_si a0)):Int)))))))],[]⟩:St)=fin1009200_0 l0_0 l2000 a0 a2001 (.k0 (length p:Int) (decide ((length p:Int) <((length (map b_si a0)):Int)))) from(by rfl)] at st
    exact .loopX st (show ((.exit 0):VX.Exit)≠.normal from by simp)
  |x0::y0,p,hp0=>by
    have hc:(decide ((length p:Int) <((length (map b_si a0)):Int)))=true:=by
      rw[← hp0]; simp only[length_map,length_set,length_append,length_replicate,length_cons,length_nil,decide_eq_true_eq]; omega
    have Hx0:(a0)[toNat (length p:Int)]?=some x0:=by
      rw[← hp0,Int.toNat_natCast]; simp
    have hlen:length (a0)=length p+length y0+1:=by rw[← hp0]; simp; omega
    have hw:wrap .i64 ((length p:Int)+1)=(length p:Int)+1:=wrap64 (by omega)
    simp only[r1009200_0]
    have f1:0≤(length p:Int):=(by omega)
    have f2:(map b_si a0)[(toNat (length p:Int))]?=some (b_si x0):=(by rw[getElem?_map,Hx0]; rfl)
    have P1 {hs q} (r:PS F X hs q):=(PS.f hc (.f f1 (.f f2 (.h 2 (.b true) (.h 14 (.row (b_si x0)) (.r 18 [] [] (e1009300 (l101000:=(l2000+1)) (a0:=x0) (a101001:=a2001)) r))))))
    by_cases h_1:(x0.f0.toList==a2001.toList)=true
    · try simp only[if_pos h_1]
      have st:=ch b92_0 (h1009200_0 l0_0 l2000 a0 a2001 (length p:Int)) ⟨[(4,(.oi (length p:Int)))],[]⟩ .ret 24 (by kernel_rfl) (P1 (.f h_1 (.h 19 (.b true) .nil)))
      rw[show (⟨[(4,(.oi (length p:Int)))],[]⟩:St)=fin1009200_0 l0_0 l2000 a0 a2001 (.k1 (length p:Int)) from(by rfl)] at st
      exact .loopX st (show (.ret:VX.Exit)≠.normal from by simp)
    · try simp only[if_neg h_1]
      have st:=ch b92_0 (h1009200_0 l0_0 l2000 a0 a2001 (length p:Int)) ⟨[(0,(.one (.bor l0_0 (map b_si a0)))),(1,(.clo 93 [] [(.bptr l2000 [(.val (.string a2001))])])),(7,(.oi ((length (map b_si a0)):Int))),(8,(.oi (wrap .i64 ((length p:Int)+1))))],[]⟩ .normal 24 (by kernel_rfl) (P1 (.f (nt h_1) (.f trivial (.h 19 (.b false) .nil))))
      have ih:=t1009200_0 (l0_0:=l0_0) (l2000:=l2000) (a0:=a0) (a2001:=a2001) hy0 y0 (p++ [x0]) (by rw[append_assoc]; exact hp0)
      rw[show ((p++ [x0]).length:Int)=(p.length:Int)+1 from by simp] at ih
      rw[show (⟨[(0,(.one (.bor l0_0 (map b_si a0)))),(1,(.clo 93 [] [(.bptr l2000 [(.val (.string a2001))])])),(7,(.oi ((length (map b_si a0)):Int))),(8,(.oi (wrap .i64 ((length p:Int)+1))))],[]⟩:St)=h1009200_0 l0_0 l2000 a0 a2001 ((length p:Int)+1)  from(by unfold h1009200_0; simp only[hw]; done)] at st
      exact .loopN st ih
/-! slices.IndexFunc[[]loop.example/g00539/impl.Weight,loop.example/g00539/impl.Weight] -/
def m1009200 (a0:(List K_si)) (a2001:ByteArray):Int:=
  (match r1009200_0 a0 a2001 a0 0 with | .k0 w0_0 w1_0=>(-1) | .k1 w0_0=>w0_0)
theorem e1009200 {l0_0:Nat} {a0:(List K_si)} {l2000:Nat} {a2001:ByteArray} (hy0:length a0*24≤140737488351232):Ev F X (.call 92 [(.one (.bor l0_0 (map b_si a0))),(.clo 93 [] [(.bptr l2000 [(.val (.string a2001))])])] [] [] [(.one (.val (.int .i64 (m1009200 a0 a2001))))]):=by
  unfold m1009200
  cases h0:r1009200_0 a0 a2001 a0 0 with
  |k0 w0_0 w1_0=>
    try dsimp only
    have f0:(⟨[(0,(.one (.bor l0_0 (map b_si a0)))),(1,(.clo 93 [] [(.bptr l2000 [(.val (.string a2001))])])),(7,(.oi ((length (map b_si a0)):Int))),(8,(.oi 0))],[]⟩:St)=h1009200_0 l0_0 l2000 a0 a2001 0 :=(by rfl)
    have f1:Ev F X (.code l92_0 (h1009200_0 l0_0 l2000 a0 a2001 0) (.exit 0) ⟨[(0,(.one (.bor l0_0 (map b_si a0)))),(1,(.clo 93 [] [(.bptr l2000 [(.val (.string a2001))])])),(7,(.oi ((length (map b_si a0)):Int))),(8,(.oi w0_0)),(9,(.one (.val (.bool w1_0))))],[]⟩):=(by have t:Ev F X (.code l92_0 (h1009200_0 l0_0 l2000 a0 a2001 0) (ex1009200_0 (r1009200_0 a0 a2001 a0 0)) (fin1009200_0 l0_0 l2000 a0 a2001 (r1009200_0 a0 a2001 a0 0))):=t1009200_0 (l0_0:=l0_0) (l2000:=l2000) (a0:=a0) (a2001:=a2001) (by assumption) a0 []  rfl; rw[h0] at t; exact t)
    exact cp (by kernel_rfl) (.f f0 (.f f1 (.h 8 (.loop (h1009200_0 l0_0 l2000 a0 a2001 0) (.exit 0) ⟨[(0,(.one (.bor l0_0 (map b_si a0)))),(1,(.clo 93 [] [(.bptr l2000 [(.val (.string a2001))])])),(7,(.one (.val (.int .i64 ((length (map b_si a0)):Int))))),(8,(.one (.val (.int .i64 w0_0)))),(9,(.one (.val (.bool w1_0))))],[]⟩) .nil)))
  |k1 w0_0=>
    try dsimp only
    have f0:(⟨[(0,(.one (.bor l0_0 (map b_si a0)))),(1,(.clo 93 [] [(.bptr l2000 [(.val (.string a2001))])])),(7,(.oi ((length (map b_si a0)):Int))),(8,(.oi 0))],[]⟩:St)=h1009200_0 l0_0 l2000 a0 a2001 0 :=(by rfl)
    have f1:Ev F X (.code l92_0 (h1009200_0 l0_0 l2000 a0 a2001 0) .ret ⟨[(4,(.oi w0_0))],[]⟩):=(by have t:Ev F X (.code l92_0 (h1009200_0 l0_0 l2000 a0 a2001 0) (ex1009200_0 (r1009200_0 a0 a2001 a0 0)) (fin1009200_0 l0_0 l2000 a0 a2001 (r1009200_0 a0 a2001 a0 0))):=t1009200_0 (l0_0:=l0_0) (l2000:=l2000) (a0:=a0) (a2001:=a2001) (by assumption) a0 []  rfl; rw[h0] at t; exact t)
    exact cp (by kernel_rfl) (.f f0 (.f f1 (.h 8 (.loop (h1009200_0 l0_0 l2000 a0 a2001 0) .ret ⟨[(4,(.one (.val (.int .i64 w0_0))))],[]⟩) .nil)))
theorem ixr1009200_0 (a0:(List K_si)) (a2001:ByteArray):∀(l:List K_si) (i:Int),(∃(w0:_) (w1:_),r1009200_0 a0 a2001 l i=.k0 w0 w1)∨(∃w,r1009200_0 a0 a2001 l i=.k1 w∧i≤w∧w < i+l.length)
  |[],i=>.inl ⟨i,(decide (i <((length (map b_si a0)):Int))),rfl⟩
  |x::l,i=>by
    have ih:=ixr1009200_0 a0 a2001 l (i+1)
    simp only[r1009200_0]
    (repeat' split)
    all_goals first
      |exact .inr ⟨i,rfl,by omega,by simp only[length_cons]; omega⟩
      | (rcases ih with ⟨w0, w1, h⟩ | ⟨w, h, h1, h2⟩
         · exact .inl ⟨w0,w1,h⟩
         · exact .inr ⟨w,h,by omega,by simp only[length_cons]; omega⟩)
theorem ix1009200 (a0:(List K_si)) (a2001:ByteArray): -1≤m1009200 a0 a2001∧m1009200 a0 a2001 <(length a0:Int):=by
  unfold m1009200
  rcases ixr1009200_0 a0 a2001 a0 0 with⟨w0,w1,h⟩ |⟨w,h,h1,h2⟩<;>simp only[h]<;>omega
/-! loop.example/g00539/impl.weightAt -/
def m47 (a0:(List K_si)) (a1:ByteArray):Int:=
  (m1009200 a0 a1)
theorem e47 {l0_0:Nat} {a0:(List K_si)} {a1:ByteArray} (hy0:length a0*24≤140737488351232):Ev F X (.call 47 [(.one (.bor l0_0 (map b_si a0))),(.one (.val (.string a1)))] [] [] [(.one (.val (.int .i64 (m1009200 a0 a1))))]):=by
  have f0:fullL [(.val (.string a1))]=true:=(by trivial)
  have f1:Ev F X (.call 92 [(.one (.bor (l0_0+1) (map b_si a0))),(.clo 93 [] [(.bptr 0 [(.val (.string a1))])])] [] [] [(.oi (m1009200 a0 a1))]):=(e1009200 (a0:=a0) (a2001:=a1) (by with_reducible assumption))
  exact cp (by kernel_rfl) (.f f0 (.r 9 [] [] f1 .nil))
/-! loop 57_0 -/
inductive O57_0 where
  |k0 (w0:Int) (w1:Bool)
  |k1
def r57_0 (a0:(List K_si)):List K_si→Int→O57_0
  |x0::y0,i=>
    if(!(m71 x0.f0))=true then(O57_0.k1) else
    if(!(m45 x0.f1 0 1000000))=true then(O57_0.k1) else
      if(decide ((m1009200 (take (toNat i) a0) x0.f0)≥0))=true then(O57_0.k1) else
        (r57_0 a0 y0 (i+1))
  |[],i=>(O57_0.k0 i (decide (i <((length (map b_si a0)):Int))))
def h57_0 (l0_0:Nat) (a0:(List K_si)) (a1:Int) (i:Int) :St:=⟨[(0,(.one (.bor l0_0 (map b_si a0)))),(1,(.one (.val (.int .i64 a1)))),(7,(.one (.bor l0_0 (map b_si a0)))),(8,(.one (.val (.int .i64 ((length (map b_si a0)):Int))))),(9,(.one (.val (.int .i64 i))))],[]⟩
def ex57_0:O57_0→VX.Exit
  |.k0 _ _=>(.exit 0)
  |.k1=>.ret
def fin57_0 (l0_0:Nat) (a0:(List K_si)) (a1:Int):O57_0→St
  |.k0 w0 w1=>⟨[(0,(.one (.bor l0_0 (map b_si a0)))),(1,(.one (.val (.int .i64 a1)))),(7,(.one (.bor l0_0 (map b_si a0)))),(8,(.one (.val (.int .i64 ((length (map b_si a0)):Int))))),(9,(.one (.val (.int .i64 w0)))),(10,(.one (.val (.bool w1))))],[]⟩
  |.k1=>⟨[(4,(.one (.val (.bool false))))],[]⟩
theorem t57_0 {l0_0:Nat} {a0:(List K_si)} {a1:Int} (hy0:length a0*24≤140737488351232):∀(y0:List K_si) (p:List K_si),p++y0=a0→Ev F X (.code l57_0 (h57_0 l0_0 a0 a1 (length p:Int)) (ex57_0 (r57_0 a0 y0 (length p:Int))) (fin57_0 l0_0 a0 a1 (r57_0 a0 y0 (length p:Int))))
  |[],p,hp0=>by
    have hc:¬(decide ((length p:Int) <((length (map b_si a0)):Int)))=true:=by
      rw[← hp0]; simp only[length_map,length_set,length_append,length_replicate,length_cons,length_nil,decide_eq_true_eq]; omega
    have st:=ch b57_0 (h57_0 l0_0 a0 a1 (length p:Int)) ⟨[(0,(.one (.bor l0_0 (map b_si a0)))),(1,(.oi a1)),(7,(.one (.bor l0_0 (map b_si a0)))),(8,(.oi ((length (map b_si a0)):Int))),(9,(.oi (length p:Int))),(10,(.one (.val (.bool (decide ((length p:Int) <((length (map b_si a0)):Int)))))))],[]⟩ (.exit 0) 3 (by kernel_rfl) (.f (nt hc) (.h 2 (.b false) .nil))
    rw[show (⟨[(0,(.one (.bor l0_0 (map b_si a0)))),(1,(.oi a1)),(7,(.one (.bor l0_0 (map b_si a0)))),(8,(.oi ((length (map b_si a0)):Int))),(9,(.oi (length p:Int))),(10,(.one (.val (.bool (decide ((length p:Int) <((length (map b_si a0)):Int)))))))],[]⟩:St)=fin57_0 l0_0 a0 a1 (.k0 (length p:Int) (decide ((length p:Int) <((length (map b_si a0)):Int)))) from(by rfl)] at st
    exact .loopX st (show ((.exit 0):VX.Exit)≠.normal from by simp)
  |x0::y0,p,hp0=>by
    have hc:(decide ((length p:Int) <((length (map b_si a0)):Int)))=true:=by
      rw[← hp0]; simp only[length_map,length_set,length_append,length_replicate,length_cons,length_nil,decide_eq_true_eq]; omega
    have Hx0:(a0)[toNat (length p:Int)]?=some x0:=by
      rw[← hp0,Int.toNat_natCast]; simp
    have hlen:length (a0)=length p+length y0+1:=by rw[← hp0]; simp; omega
    have hw:wrap .i64 ((length p:Int)+1)=(length p:Int)+1:=wrap64 (by omega)
    simp only[r57_0]
    have f1:0≤(length p:Int):=(by omega)
    have f2:(map b_si a0)[(toNat (length p:Int))]?=some (b_si x0):=(by rw[getElem?_map,Hx0]; rfl)
    have P1 {hs q} (r:PS F X hs q):=(PS.f hc (.f f1 (.f f2 (.h 2 (.b true) (.h 6 (.row (b_si x0)) (.r 20 [] [] (e71 (a0:=x0.f0)) r))))))
    by_cases h_1:(!(m71 x0.f0))=true
    · try simp only[if_pos h_1]
      have st:=ch b57_0 (h57_0 l0_0 a0 a1 (length p:Int)) ⟨[(4,(.one (.val (.bool false))))],[]⟩ .ret 56 (by kernel_rfl) (P1 (.f h_1 (.f h_1 (.f h_1 (.f h_1 (.f h_1 (.h 25 (.b true) (.h 27 (.b true) (.h 29 (.b true) (.h 31 (.b true) (.h 34 (.b true) .nil)))))))))))
      rw[show (⟨[(4,(.one (.val (.bool false))))],[]⟩:St)=fin57_0 l0_0 a0 a1 (.k1) from(by rfl)] at st
      exact .loopX st (show (.ret:VX.Exit)≠.normal from by simp)
    · try simp only[if_neg h_1]
      have P2 {hs q} (r:PS F X hs q):=(P1 (.f (nt h_1) (.f (nt h_1) (.f (nt h_1) (.h 25 (.b false) (.h 27 (.b false) (.h 29 (.b false) (.r 30 [] [] (e46 (a0:=x0.f1)) (.f (nt h_1) (.f (nt h_1) (.h 31 (.b false) (.h 34 (.b false) r))))))))))))
      by_cases h_2:(!(m45 x0.f1 0 1000000))=true
      · try simp only[if_pos h_2]
        have st:=ch b57_0 (h57_0 l0_0 a0 a1 (length p:Int)) ⟨[(4,(.one (.val (.bool false))))],[]⟩ .ret 56 (by kernel_rfl) (P2 (.f h_2 (.f h_2 (.f h_2 (.f h_2 (.f h_2 (.f h_2 (.f h_2 (.f h_2 (.h 37 (.b true) (.h 39 (.b true) (.h 41 (.b true) (.h 43 (.b true) (.h 45 (.b true) (.h 47 (.b true) (.h 49 (.b true) (.h 52 (.b true) .nil)))))))))))))))))
        rw[show (⟨[(4,(.one (.val (.bool false))))],[]⟩:St)=fin57_0 l0_0 a0 a1 (.k1) from(by rfl)] at st
        exact .loopX st (show (.ret:VX.Exit)≠.normal from by simp)
      · try simp only[if_neg h_2]
        have f13:(0≤(0:Int)∧(0:Int)≤(length p:Int)∧(length p:Int)≤((length (map b_si a0)):Int))∧∀r∈((map b_si a0):List (List B)),r.length=2:=(by refine⟨?_,lenB_si _⟩; simp only[length_map,length_set,length_append,length_replicate,length_cons,length_nil]; omega)
        have f17:Ev F X (.call 47 [(.one (.bor (l0_0+1) (take (toNat (length p:Int) - toNat 0) (drop 0 (map b_si a0))))),(.one (.val (.string x0.f0)))] [] [] [(.oi (m1009200 (take (toNat (length p:Int)) a0) x0.f0))]):=(by rw[show (take (toNat (length p:Int) - toNat 0) (drop 0 (map b_si a0)))=(map b_si (take (toNat (length p:Int)) a0)) from by first | rfl |(simp[map_take,map_drop]; done) |(simp[byteRows_eq,map_take,map_drop]; done) |(simp[*,map_take,map_drop]; done) |(rw[take_of_length_le (by simp only[length_drop,length_take,length_map,Int.toNat_natCast]; omega)]; simp only[← map_drop,← map_take])]; exact(e47 (l0_0:=(l0_0+1)) (a0:=(take (toNat (length p:Int)) a0)) (a1:=x0.f0) (by simp only[length_take]; omega)))
        have P3 {hs q} (r:PS F X hs q):=(P2 (.f (nt h_2) (.f (nt h_2) (.f (nt h_2) (.f f13 (.f (nt h_2) (.f (nt h_2) (.f (nt h_2) (.h 37 (.b false) (.h 39 (.b false) (.h 41 (.b false) (.h 43 (.b false) (.h 45 (.b false) (.h 47 (.b false) (.r 48 [] [] f17 (.f (nt h_2) (.f (nt h_2) (.h 49 (.b false) (.h 52 (.b false) r)))))))))))))))))))
        by_cases h_3:(decide ((m1009200 (take (toNat (length p:Int)) a0) x0.f0)≥0))=true
        · try simp only[if_pos h_3]
          have st:=ch b57_0 (h57_0 l0_0 a0 a1 (length p:Int)) ⟨[(4,(.one (.val (.bool false))))],[]⟩ .ret 56 (by kernel_rfl) (P3 (.f h_3 (.h 53 (.b true) .nil)))
          rw[show (⟨[(4,(.one (.val (.bool false))))],[]⟩:St)=fin57_0 l0_0 a0 a1 (.k1) from(by rfl)] at st
          exact .loopX st (show (.ret:VX.Exit)≠.normal from by simp)
        · try simp only[if_neg h_3]
          have st:=ch b57_0 (h57_0 l0_0 a0 a1 (length p:Int)) ⟨[(0,(.one (.bor l0_0 (map b_si a0)))),(1,(.oi a1)),(7,(.one (.bor l0_0 (map b_si a0)))),(8,(.oi ((length (map b_si a0)):Int))),(9,(.oi (wrap .i64 ((length p:Int)+1))))],[]⟩ .normal 58 (by kernel_rfl) (P3 (.f (nt h_3) (.f trivial (.h 53 (.b false) .nil))))
          have ih:=t57_0 (l0_0:=l0_0) (a0:=a0) (a1:=a1) hy0 y0 (p++ [x0]) (by rw[append_assoc]; exact hp0)
          rw[show ((p++ [x0]).length:Int)=(p.length:Int)+1 from by simp] at ih
          rw[show (⟨[(0,(.one (.bor l0_0 (map b_si a0)))),(1,(.oi a1)),(7,(.one (.bor l0_0 (map b_si a0)))),(8,(.oi ((length (map b_si a0)):Int))),(9,(.oi (wrap .i64 ((length p:Int)+1))))],[]⟩:St)=h57_0 l0_0 a0 a1 ((length p:Int)+1)  from(by unfold h57_0; simp only[hw]; done)] at st
          exact .loopN st ih
/-! loop.example/g00539/impl.owedOk -/
def m57 (a0:(List K_si)) (a1:Int):Bool:=
  (match r57_0 a0 a0 0 with | .k0 w0_0 w1_0=>(decide (((length (map b_si a0)):Int)≤a1)) | .k1=>false)
theorem e57 {l0_0:Nat} {a0:(List K_si)} {a1:Int} (hy0:length a0*24≤140737488351232):Ev F X (.call 57 [(.one (.bor l0_0 (map b_si a0))),(.one (.val (.int .i64 a1)))] [] [] [(.one (.val (.bool (m57 a0 a1))))]):=by
  unfold m57
  cases h0:r57_0 a0 a0 0 with
  |k0 w0_0 w1_0=>
    try dsimp only
    have f0:(⟨[(0,(.one (.bor l0_0 (map b_si a0)))),(1,(.oi a1)),(7,(.one (.bor l0_0 (map b_si a0)))),(8,(.oi ((length (map b_si a0)):Int))),(9,(.oi 0))],[]⟩:St)=h57_0 l0_0 a0 a1 0 :=(by rfl)
    have f1:Ev F X (.code l57_0 (h57_0 l0_0 a0 a1 0) (.exit 0) ⟨[(0,(.one (.bor l0_0 (map b_si a0)))),(1,(.oi a1)),(7,(.one (.bor l0_0 (map b_si a0)))),(8,(.oi ((length (map b_si a0)):Int))),(9,(.oi w0_0)),(10,(.one (.val (.bool w1_0))))],[]⟩):=(by have t:Ev F X (.code l57_0 (h57_0 l0_0 a0 a1 0) (ex57_0 (r57_0 a0 a0 0)) (fin57_0 l0_0 a0 a1 (r57_0 a0 a0 0))):=t57_0 (l0_0:=l0_0) (a0:=a0) (a1:=a1) (by assumption) a0 []  rfl; rw[h0] at t; exact t)
    exact cp (by kernel_rfl) (.f f0 (.f f1 (.h 8 (.loop (h57_0 l0_0 a0 a1 0) (.exit 0) ⟨[(0,(.one (.bor l0_0 (map b_si a0)))),(1,(.one (.val (.int .i64 a1)))),(7,(.one (.bor l0_0 (map b_si a0)))),(8,(.one (.val (.int .i64 ((length (map b_si a0)):Int))))),(9,(.one (.val (.int .i64 w0_0)))),(10,(.one (.val (.bool w1_0))))],[]⟩) .nil)))
  |k1=>
    try dsimp only
    have f0:(⟨[(0,(.one (.bor l0_0 (map b_si a0)))),(1,(.oi a1)),(7,(.one (.bor l0_0 (map b_si a0)))),(8,(.oi ((length (map b_si a0)):Int))),(9,(.oi 0))],[]⟩:St)=h57_0 l0_0 a0 a1 0 :=(by rfl)
    have f1:Ev F X (.code l57_0 (h57_0 l0_0 a0 a1 0) .ret ⟨[(4,(.one (.val (.bool false))))],[]⟩):=(by have t:Ev F X (.code l57_0 (h57_0 l0_0 a0 a1 0) (ex57_0 (r57_0 a0 a0 0)) (fin57_0 l0_0 a0 a1 (r57_0 a0 a0 0))):=t57_0 (l0_0:=l0_0) (a0:=a0) (a1:=a1) (by assumption) a0 []  rfl; rw[h0] at t; exact t)
    exact cp (by kernel_rfl) (.f f0 (.f f1 (.h 8 (.loop (h57_0 l0_0 a0 a1 0) .ret ⟨[(4,(.one (.val (.bool false))))],[]⟩) .nil)))
/-! loop 58_0 -/
inductive O58_0 where
  |k0 (w0:Int) (w1:Int) (w2:Bool)
def r58_0 (a0:(List K_si)):List K_si→Int→Int→O58_0
  |x0::y0,i,v0=>
    (r58_0 a0 y0 (i+1) (wrap .i64 (v0+x0.f1)))
  |[],i,v0=>(O58_0.k0 v0 i (decide (i <((length (map b_si a0)):Int))))
def h58_0 (l0_0:Nat) (a0:(List K_si)) (i:Int) (v0:Int):St:=⟨[(3,(.one (.val (.int .i64 v0)))),(6,(.one (.bor l0_0 (map b_si a0)))),(7,(.one (.val (.int .i64 ((length (map b_si a0)):Int))))),(8,(.one (.val (.int .i64 i))))],[]⟩
def ex58_0:O58_0→VX.Exit
  |.k0 _ _ _=>(.exit 0)
def fin58_0 (l0_0:Nat) (a0:(List K_si)):O58_0→St
  |.k0 w0 w1 w2=>⟨[(3,(.one (.val (.int .i64 w0)))),(6,(.one (.bor l0_0 (map b_si a0)))),(7,(.one (.val (.int .i64 ((length (map b_si a0)):Int))))),(8,(.one (.val (.int .i64 w1)))),(9,(.one (.val (.bool w2))))],[]⟩
theorem t58_0 {l0_0:Nat} {a0:(List K_si)} (hy0:length a0*24≤140737488351232):∀(y0:List K_si) (p:List K_si) (v0:Int),p++y0=a0→Ev F X (.code l58_0 (h58_0 l0_0 a0 (length p:Int) v0) (ex58_0 (r58_0 a0 y0 (length p:Int) v0)) (fin58_0 l0_0 a0 (r58_0 a0 y0 (length p:Int) v0)))
  |[],p,v0,hp0=>by
    have hc:¬(decide ((length p:Int) <((length (map b_si a0)):Int)))=true:=by
      rw[← hp0]; simp only[length_map,length_set,length_append,length_replicate,length_cons,length_nil,decide_eq_true_eq]; omega
    have st:=ch b58_0 (h58_0 l0_0 a0 (length p:Int) v0) ⟨[(3,(.oi v0)),(6,(.one (.bor l0_0 (map b_si a0)))),(7,(.oi ((length (map b_si a0)):Int))),(8,(.oi (length p:Int))),(9,(.one (.val (.bool (decide ((length p:Int) <((length (map b_si a0)):Int)))))))],[]⟩ (.exit 0) 3 (by kernel_rfl) (.f (nt hc) (.h 2 (.b false) .nil))
    rw[show (⟨[(3,(.oi v0)),(6,(.one (.bor l0_0 (map b_si a0)))),(7,(.oi ((length (map b_si a0)):Int))),(8,(.oi (length p:Int))),(9,(.one (.val (.bool (decide ((length p:Int) <((length (map b_si a0)):Int)))))))],[]⟩:St)=fin58_0 l0_0 a0 (.k0 v0 (length p:Int) (decide ((length p:Int) <((length (map b_si a0)):Int)))) from(by rfl)] at st
    exact .loopX st (show ((.exit 0):VX.Exit)≠.normal from by simp)
  |x0::y0,p,v0,hp0=>by
    have hc:(decide ((length p:Int) <((length (map b_si a0)):Int)))=true:=by
      rw[← hp0]; simp only[length_map,length_set,length_append,length_replicate,length_cons,length_nil,decide_eq_true_eq]; omega
    have Hx0:(a0)[toNat (length p:Int)]?=some x0:=by
      rw[← hp0,Int.toNat_natCast]; simp
    have hlen:length (a0)=length p+length y0+1:=by rw[← hp0]; simp; omega
    have hw:wrap .i64 ((length p:Int)+1)=(length p:Int)+1:=wrap64 (by omega)
    simp only[r58_0]
    have f1:0≤(length p:Int):=(by omega)
    have f2:(map b_si a0)[(toNat (length p:Int))]?=some (b_si x0):=(by rw[getElem?_map,Hx0]; rfl)
    have st:=ch b58_0 (h58_0 l0_0 a0 (length p:Int) v0) ⟨[(3,(.oi (wrap .i64 (v0+x0.f1)))),(6,(.one (.bor l0_0 (map b_si a0)))),(7,(.oi ((length (map b_si a0)):Int))),(8,(.oi (wrap .i64 ((length p:Int)+1))))],[]⟩ .normal 25 (by kernel_rfl) (.f hc (.f f1 (.f f2 (.f trivial (.f trivial (.h 2 (.b true) (.h 4 (.row (b_si x0)) .nil)))))))
    have ih:=t58_0 (l0_0:=l0_0) (a0:=a0) hy0 y0 (p++ [x0]) (wrap .i64 (v0+x0.f1)) (by rw[append_assoc]; exact hp0)
    rw[show ((p++ [x0]).length:Int)=(p.length:Int)+1 from by simp] at ih
    rw[show (⟨[(3,(.oi (wrap .i64 (v0+x0.f1)))),(6,(.one (.bor l0_0 (map b_si a0)))),(7,(.oi ((length (map b_si a0)):Int))),(8,(.oi (wrap .i64 ((length p:Int)+1))))],[]⟩:St)=h58_0 l0_0 a0 ((length p:Int)+1) (wrap .i64 (v0+x0.f1)) from(by unfold h58_0; simp only[hw]; done)] at st
    exact .loopN st ih
/-! loop.example/g00539/impl.amounts -/
def m58 (a0:(List K_si)):Int:=
  (match r58_0 a0 a0 0 0 with | .k0 w0_0 w1_0 w2_0=>w0_0)
theorem e58 {l0_0:Nat} {a0:(List K_si)} (hy0:length a0*24≤140737488351232):Ev F X (.call 58 [(.one (.bor l0_0 (map b_si a0)))] [] [] [(.one (.val (.int .i64 (m58 a0))))]):=by
  unfold m58
  cases h0:r58_0 a0 a0 0 0 with
  |k0 w0_0 w1_0 w2_0=>
    try dsimp only
    have f0:(⟨[(3,(.oi 0)),(6,(.one (.bor l0_0 (map b_si a0)))),(7,(.oi ((length (map b_si a0)):Int))),(8,(.oi 0))],[]⟩:St)=h58_0 l0_0 a0 0 0:=(by rfl)
    have f1:Ev F X (.code l58_0 (h58_0 l0_0 a0 0 0) (.exit 0) ⟨[(3,(.oi w0_0)),(6,(.one (.bor l0_0 (map b_si a0)))),(7,(.oi ((length (map b_si a0)):Int))),(8,(.oi w1_0)),(9,(.one (.val (.bool w2_0))))],[]⟩):=(by have t:Ev F X (.code l58_0 (h58_0 l0_0 a0 0 0) (ex58_0 (r58_0 a0 a0 0 0)) (fin58_0 l0_0 a0 (r58_0 a0 a0 0 0))):=t58_0 (l0_0:=l0_0) (a0:=a0) (by assumption) a0 [] 0 rfl; rw[h0] at t; exact t)
    exact cp (by kernel_rfl) (.f f0 (.f f1 (.h 10 (.loop (h58_0 l0_0 a0 0 0) (.exit 0) ⟨[(3,(.one (.val (.int .i64 w0_0)))),(6,(.one (.bor l0_0 (map b_si a0)))),(7,(.one (.val (.int .i64 ((length (map b_si a0)):Int))))),(8,(.one (.val (.int .i64 w1_0)))),(9,(.one (.val (.bool w2_0))))],[]⟩) .nil)))
theorem tot_r58 (a:List K_si):∀(l:List K_si) (i v:Int),(∀z∈l,1≤z.f1∧z.f1≤119988)→0≤v→v+119988*l.length≤1000000000→∃w j b,r58_0 a l i v=.k0 w j b∧v+l.length≤w∧w≤v+119988*l.length
  |[],i,v,_,_,_=>⟨v,_,_,rfl,by simp,by simp⟩
  |x::l,i,v,h,h0,hb=>by
    have hx:=h x (List.mem_cons_self ..)
    simp only[length_cons] at hb
    simp only[r58_0]
    rw[wrap64 (by omega)]
    obtain⟨w,j,b,e,h1,h2⟩:=tot_r58 a l (i+1) (v+x.f1) (fun z hz=>h z (List.mem_cons_of_mem _ hz)) (by omega) (by omega)
    exact⟨w,j,b,e,by simp only[length_cons]; omega,by simp only[length_cons]; omega⟩
theorem tot_58 (a:List K_si) (h:∀z∈a,1≤z.f1∧z.f1≤119988) (hl:a.length≤12):(a.length:Int)≤m58 a∧m58 a≤119988*a.length:=by
  obtain⟨w,j,b,e,h1,h2⟩:=tot_r58 a a 0 0 h (by omega) (by omega)
  unfold m58
  rw[e]; simp only[]; omega
/-! loop.example/g00539/impl.isSum -/
def m72 (a0:Int):Bool:=
  (m45 a0 0 2147483646)
theorem e72 {a0:Int}:Ev F X (.call 72 [(.one (.val (.int .i64 a0)))] [] [] [(.one (.val (.bool (m45 a0 0 2147483646))))]):=by
  exact cp (by kernel_rfl) (.r 5 [] [] (e45 (a0:=a0) (a1:=0) (a2:=2147483646)) .nil)
/-! loop.example/g00539/impl.rewardAt$1 -/
def m1012900 (a0:K_R) (a101001:Int):Bool:=
  (a0.f0==a101001)
theorem e1012900 {l0_3:Nat} {a0:K_R} {l101000:Nat} {a101001:Int}:Ev F X (.call 129 [(.agg (k_R l0_3 a0)),(.bptr l101000 [(.val (.int .i64 a101001))])] [] [] [(.one (.val (.bool (a0.f0==a101001))))]):=by
  exact cp (by kernel_rfl) .nil
/-! loop 1012800_0 -/
inductive O1012800_0 where
  |k0 (w0:Int) (w1:Bool)
  |k1 (w0:Int)
def r1012800_0 (a0:(List K_R)) (a2001:Int):List K_R→Int→O1012800_0
  |x0::y0,i=>
    if(x0.f0==a2001)=true then(O1012800_0.k1 i) else
    (r1012800_0 a0 a2001 y0 (i+1))
  |[],i=>(O1012800_0.k0 i (decide (i <((length (map b_R a0)):Int))))
def h1012800_0 (l0_0:Nat) (l2000:Nat) (a0:(List K_R)) (a2001:Int) (i:Int) :St:=⟨[(0,(.one (.bor l0_0 (map b_R a0)))),(1,(.clo 129 [] [(.bptr l2000 [(.val (.int .i64 a2001))])])),(7,(.one (.val (.int .i64 ((length (map b_R a0)):Int))))),(8,(.one (.val (.int .i64 i))))],[]⟩
def ex1012800_0:O1012800_0→VX.Exit
  |.k0 _ _=>(.exit 0)
  |.k1 _=>.ret
def fin1012800_0 (l0_0:Nat) (l2000:Nat) (a0:(List K_R)) (a2001:Int):O1012800_0→St
  |.k0 w0 w1=>⟨[(0,(.one (.bor l0_0 (map b_R a0)))),(1,(.clo 129 [] [(.bptr l2000 [(.val (.int .i64 a2001))])])),(7,(.one (.val (.int .i64 ((length (map b_R a0)):Int))))),(8,(.one (.val (.int .i64 w0)))),(9,(.one (.val (.bool w1))))],[]⟩
  |.k1 w0=>⟨[(4,(.one (.val (.int .i64 w0))))],[]⟩
theorem t1012800_0 {l0_0:Nat} {l2000:Nat} {a0:(List K_R)} {a2001:Int} (hy0:length a0*56≤140737488351232) (hy1:∀z∈a0,ok_R z):∀(y0:List K_R) (p:List K_R),p++y0=a0→Ev F X (.code l128_0 (h1012800_0 l0_0 l2000 a0 a2001 (length p:Int)) (ex1012800_0 (r1012800_0 a0 a2001 y0 (length p:Int))) (fin1012800_0 l0_0 l2000 a0 a2001 (r1012800_0 a0 a2001 y0 (length p:Int))))
  |[],p,hp0=>by
    have hc:¬(decide ((length p:Int) <((length (map b_R a0)):Int)))=true:=by
      rw[← hp0]; simp only[length_map,length_set,length_append,length_replicate,length_cons,length_nil,decide_eq_true_eq]; omega
    have st:=ch b128_0 (h1012800_0 l0_0 l2000 a0 a2001 (length p:Int)) ⟨[(0,(.one (.bor l0_0 (map b_R a0)))),(1,(.clo 129 [] [(.bptr l2000 [(.i a2001)])])),(7,(.oi ((length (map b_R a0)):Int))),(8,(.oi (length p:Int))),(9,(.one (.val (.bool (decide ((length p:Int) <((length (map b_R a0)):Int)))))))],[]⟩ (.exit 0) 3 (by kernel_rfl) (.f (nt hc) (.h 2 (.b false) .nil))
    rw[show (⟨[(0,(.one (.bor l0_0 (map b_R a0)))),(1,(.clo 129 [] [(.bptr l2000 [(.i a2001)])])),(7,(.oi ((length (map b_R a0)):Int))),(8,(.oi (length p:Int))),(9,(.one (.val (.bool (decide ((length p:Int) <((length (map b_R a0)):Int)))))))],[]⟩:St)=fin1012800_0 l0_0 l2000 a0 a2001 (.k0 (length p:Int) (decide ((length p:Int) <((length (map b_R a0)):Int)))) from(by rfl)] at st
    exact .loopX st (show ((.exit 0):VX.Exit)≠.normal from by simp)
  |x0::y0,p,hp0=>by
    have hc:(decide ((length p:Int) <((length (map b_R a0)):Int)))=true:=by
      rw[← hp0]; simp only[length_map,length_set,length_append,length_replicate,length_cons,length_nil,decide_eq_true_eq]; omega
    have Hx0:(a0)[toNat (length p:Int)]?=some x0:=by
      rw[← hp0,Int.toNat_natCast]; simp
    have Mx0_0:=hy1 x0 (List.mem_of_getElem? Hx0)
    have hlen:length (a0)=length p+length y0+1:=by rw[← hp0]; simp; omega
    have hw:wrap .i64 ((length p:Int)+1)=(length p:Int)+1:=wrap64 (by omega)
    simp only[r1012800_0]
    have f1:0≤(length p:Int):=(by omega)
    have f2:(map b_R a0)[(toNat (length p:Int))]?=some (b_R x0):=(by rw[getElem?_map,Hx0]; rfl)
    have P1 {hs q} (r:PS F X hs q):=(PS.f hc (.f f1 (.f f2 (.h 2 (.b true) (.h 14 (.row (b_R x0)) (.r 18 [] [] (e1012900 (l0_3:=(l0_0+1)) (l101000:=(l2000+1)) (a0:=x0) (a101001:=a2001)) r))))))
    by_cases h_1:(x0.f0==a2001)=true
    · try simp only[if_pos h_1]
      have st:=ch b128_0 (h1012800_0 l0_0 l2000 a0 a2001 (length p:Int)) ⟨[(4,(.oi (length p:Int)))],[]⟩ .ret 24 (by kernel_rfl) (P1 (.f h_1 (.h 19 (.b true) .nil)))
      rw[show (⟨[(4,(.oi (length p:Int)))],[]⟩:St)=fin1012800_0 l0_0 l2000 a0 a2001 (.k1 (length p:Int)) from(by rfl)] at st
      exact .loopX st (show (.ret:VX.Exit)≠.normal from by simp)
    · try simp only[if_neg h_1]
      have st:=ch b128_0 (h1012800_0 l0_0 l2000 a0 a2001 (length p:Int)) ⟨[(0,(.one (.bor l0_0 (map b_R a0)))),(1,(.clo 129 [] [(.bptr l2000 [(.i a2001)])])),(7,(.oi ((length (map b_R a0)):Int))),(8,(.oi (wrap .i64 ((length p:Int)+1))))],[]⟩ .normal 24 (by kernel_rfl) (P1 (.f (nt h_1) (.f trivial (.h 19 (.b false) .nil))))
      have ih:=t1012800_0 (l0_0:=l0_0) (l2000:=l2000) (a0:=a0) (a2001:=a2001) hy0 hy1 y0 (p++ [x0]) (by rw[append_assoc]; exact hp0)
      rw[show ((p++ [x0]).length:Int)=(p.length:Int)+1 from by simp] at ih
      rw[show (⟨[(0,(.one (.bor l0_0 (map b_R a0)))),(1,(.clo 129 [] [(.bptr l2000 [(.i a2001)])])),(7,(.oi ((length (map b_R a0)):Int))),(8,(.oi (wrap .i64 ((length p:Int)+1))))],[]⟩:St)=h1012800_0 l0_0 l2000 a0 a2001 ((length p:Int)+1)  from(by unfold h1012800_0; simp only[hw]; done)] at st
      exact .loopN st ih
/-! slices.IndexFunc[[]loop.example/g00539/impl.Reward,loop.example/g00539/impl.Reward] -/
def m1012800 (a0:(List K_R)) (a2001:Int):Int:=
  (match r1012800_0 a0 a2001 a0 0 with | .k0 w0_0 w1_0=>(-1) | .k1 w0_0=>w0_0)
theorem e1012800 {l0_0:Nat} {a0:(List K_R)} {l2000:Nat} {a2001:Int} (hy0:length a0*56≤140737488351232) (hy1:∀z∈a0,ok_R z):Ev F X (.call 128 [(.one (.bor l0_0 (map b_R a0))),(.clo 129 [] [(.bptr l2000 [(.val (.int .i64 a2001))])])] [] [] [(.one (.val (.int .i64 (m1012800 a0 a2001))))]):=by
  unfold m1012800
  cases h0:r1012800_0 a0 a2001 a0 0 with
  |k0 w0_0 w1_0=>
    try dsimp only
    have f0:(⟨[(0,(.one (.bor l0_0 (map b_R a0)))),(1,(.clo 129 [] [(.bptr l2000 [(.i a2001)])])),(7,(.oi ((length (map b_R a0)):Int))),(8,(.oi 0))],[]⟩:St)=h1012800_0 l0_0 l2000 a0 a2001 0 :=(by rfl)
    have f1:Ev F X (.code l128_0 (h1012800_0 l0_0 l2000 a0 a2001 0) (.exit 0) ⟨[(0,(.one (.bor l0_0 (map b_R a0)))),(1,(.clo 129 [] [(.bptr l2000 [(.i a2001)])])),(7,(.oi ((length (map b_R a0)):Int))),(8,(.oi w0_0)),(9,(.one (.val (.bool w1_0))))],[]⟩):=(by have t:Ev F X (.code l128_0 (h1012800_0 l0_0 l2000 a0 a2001 0) (ex1012800_0 (r1012800_0 a0 a2001 a0 0)) (fin1012800_0 l0_0 l2000 a0 a2001 (r1012800_0 a0 a2001 a0 0))):=t1012800_0 (l0_0:=l0_0) (l2000:=l2000) (a0:=a0) (a2001:=a2001) (by assumption) (by assumption) a0 []  rfl; rw[h0] at t; exact t)
    exact cp (by kernel_rfl) (.f f0 (.f f1 (.h 8 (.loop (h1012800_0 l0_0 l2000 a0 a2001 0) (.exit 0) ⟨[(0,(.one (.bor l0_0 (map b_R a0)))),(1,(.clo 129 [] [(.bptr l2000 [(.val (.int .i64 a2001))])])),(7,(.one (.val (.int .i64 ((length (map b_R a0)):Int))))),(8,(.one (.val (.int .i64 w0_0)))),(9,(.one (.val (.bool w1_0))))],[]⟩) .nil)))
  |k1 w0_0=>
    try dsimp only
    have f0:(⟨[(0,(.one (.bor l0_0 (map b_R a0)))),(1,(.clo 129 [] [(.bptr l2000 [(.i a2001)])])),(7,(.oi ((length (map b_R a0)):Int))),(8,(.oi 0))],[]⟩:St)=h1012800_0 l0_0 l2000 a0 a2001 0 :=(by rfl)
    have f1:Ev F X (.code l128_0 (h1012800_0 l0_0 l2000 a0 a2001 0) .ret ⟨[(4,(.oi w0_0))],[]⟩):=(by have t:Ev F X (.code l128_0 (h1012800_0 l0_0 l2000 a0 a2001 0) (ex1012800_0 (r1012800_0 a0 a2001 a0 0)) (fin1012800_0 l0_0 l2000 a0 a2001 (r1012800_0 a0 a2001 a0 0))):=t1012800_0 (l0_0:=l0_0) (l2000:=l2000) (a0:=a0) (a2001:=a2001) (by assumption) (by assumption) a0 []  rfl; rw[h0] at t; exact t)
    exact cp (by kernel_rfl) (.f f0 (.f f1 (.h 8 (.loop (h1012800_0 l0_0 l2000 a0 a2001 0) .ret ⟨[(4,(.one (.val (.int .i64 w0_0))))],[]⟩) .nil)))
theorem ixr1012800_0 (a0:(List K_R)) (a2001:Int):∀(l:List K_R) (i:Int),(∃(w0:_) (w1:_),r1012800_0 a0 a2001 l i=.k0 w0 w1)∨(∃w,r1012800_0 a0 a2001 l i=.k1 w∧i≤w∧w < i+l.length)
  |[],i=>.inl ⟨i,(decide (i <((length (map b_R a0)):Int))),rfl⟩
  |x::l,i=>by
    have ih:=ixr1012800_0 a0 a2001 l (i+1)
    simp only[r1012800_0]
    (repeat' split)
    all_goals first
      |exact .inr ⟨i,rfl,by omega,by simp only[length_cons]; omega⟩
      | (rcases ih with ⟨w0, w1, h⟩ | ⟨w, h, h1, h2⟩
         · exact .inl ⟨w0,w1,h⟩
         · exact .inr ⟨w,h,by omega,by simp only[length_cons]; omega⟩)
theorem ix1012800 (a0:(List K_R)) (a2001:Int): -1≤m1012800 a0 a2001∧m1012800 a0 a2001 <(length a0:Int):=by
  unfold m1012800
  rcases ixr1012800_0 a0 a2001 a0 0 with⟨w0,w1,h⟩ |⟨w,h,h1,h2⟩<;>simp only[h]<;>omega
/-! loop.example/g00539/impl.rewardAt -/
def m82 (a0:(List K_R)) (a1:Int):Int:=
  (m1012800 a0 a1)
theorem e82 {l0_0:Nat} {a0:(List K_R)} {a1:Int} (hy0:length a0*56≤140737488351232) (hy1:∀z∈a0,ok_R z):Ev F X (.call 82 [(.one (.bor l0_0 (map b_R a0))),(.one (.val (.int .i64 a1)))] [] [] [(.one (.val (.int .i64 (m1012800 a0 a1))))]):=by
  have f0:fullL [(.val (.int .i64 a1))]=true:=(by trivial)
  have f1:Ev F X (.call 128 [(.one (.bor (l0_0+1) (map b_R a0))),(.clo 129 [] [(.bptr 0 [(.i a1)])])] [] [] [(.oi (m1012800 a0 a1))]):=(e1012800 (a0:=a0) (a2001:=a1) (by with_reducible assumption) (by with_reducible assumption))
  exact cp (by kernel_rfl) (.f f0 (.r 9 [] [] f1 .nil))
/-! loop.example/g00539/impl.rewardFault -/
def m56 (a0:K_R) (a1:(List K_R)):Int:=
  if(!(m45 a0.f0 0 2147483646))=true then 3 else
  if(!(m45 a0.f1 0 1000000))=true then 3 else
    if(!(m45 a0.f2 0 1000000))=true then 3 else
      if(!(m45 a0.f4 1 3))=true then 3 else
        if(!(m57 a0.f3 12))=true then 1 else
          if((wrap .i64 ((m58 a0.f3)+a0.f2)) !=a0.f1)=true then 1 else
            if(decide ((m1012800 a1 a0.f0)≥0))=true then 6 else
              0
theorem e56 {l0_3:Nat} {a0:K_R} {l1_0:Nat} {a1:(List K_R)} (hy0:length a0.f3*24≤140737488351232) (hy1:length a1*56≤140737488351232) (hy2:∀z∈a1,ok_R z):Ev F X (.call 56 [(.agg (k_R l0_3 a0)),(.one (.bor l1_0 (map b_R a1)))] [] [] [(.one (.val (.int .i64 (m56 a0 a1))))]):=by
  unfold m56
  have P0 {hs q} (r:PS F X hs q):=(PS.r 9 [] [] (e72 (a0:=a0.f0)) r)
  by_cases h0:(!(m45 a0.f0 0 2147483646))=true
  · try simp only[if_pos h0]
    exact cp (by kernel_rfl) (P0 (.f h0 (.f h0 (.f h0 (.f h0 (.f h0 (.h 14 (.b true) (.h 16 (.b true) (.h 18 (.b true) (.h 20 (.b true) (.h 23 (.b true) .nil)))))))))))
  · try simp only[if_neg h0]
    have P1 {hs q} (r:PS F X hs q):=(P0 (.f (nt h0) (.f (nt h0) (.f (nt h0) (.h 14 (.b false) (.h 16 (.b false) (.h 18 (.b false) (.r 19 [] [] (e46 (a0:=a0.f1)) (.f (nt h0) (.f (nt h0) (.h 20 (.b false) (.h 23 (.b false) r))))))))))))
    by_cases h1:(!(m45 a0.f1 0 1000000))=true
    · try simp only[if_pos h1]
      exact cp (by kernel_rfl) (P1 (.f h1 (.f h1 (.f h1 (.f h1 (.f h1 (.h 26 (.b true) (.h 28 (.b true) (.h 30 (.b true) (.h 32 (.b true) (.h 35 (.b true) .nil)))))))))))
    · try simp only[if_neg h1]
      have P2 {hs q} (r:PS F X hs q):=(P1 (.f (nt h1) (.f (nt h1) (.f (nt h1) (.h 26 (.b false) (.h 28 (.b false) (.h 30 (.b false) (.r 31 [] [] (e46 (a0:=a0.f2)) (.f (nt h1) (.f (nt h1) (.h 32 (.b false) (.h 35 (.b false) r))))))))))))
      by_cases h2:(!(m45 a0.f2 0 1000000))=true
      · try simp only[if_pos h2]
        exact cp (by kernel_rfl) (P2 (.f h2 (.f h2 (.f h2 (.f h2 (.f h2 (.h 38 (.b true) (.h 40 (.b true) (.h 42 (.b true) (.h 44 (.b true) (.h 47 (.b true) .nil)))))))))))
      · try simp only[if_neg h2]
        have P3 {hs q} (r:PS F X hs q):=(P2 (.f (nt h2) (.f (nt h2) (.f (nt h2) (.h 38 (.b false) (.h 40 (.b false) (.h 42 (.b false) (.r 43 [] [] (e45 (a0:=a0.f4) (a1:=1) (a2:=3)) (.f (nt h2) (.f (nt h2) (.h 44 (.b false) (.h 47 (.b false) r))))))))))))
        by_cases h3:(!(m45 a0.f4 1 3))=true
        · try simp only[if_pos h3]
          exact cp (by kernel_rfl) (P3 (.f h3 (.h 50 (.b true) .nil)))
        · try simp only[if_neg h3]
          have P4 {hs q} (r:PS F X hs q):=(P3 (.f (nt h3) (.h 50 (.b false) (.r 56 [] [] (e57 (l0_0:=(l0_3+1)) (a0:=a0.f3) (a1:=12) (by with_reducible assumption)) r))))
          by_cases h4:(!(m57 a0.f3 12))=true
          · try simp only[if_pos h4]
            exact cp (by kernel_rfl) (P4 (.f h4 (.f h4 (.f h4 (.f h4 (.f h4 (.f h4 (.f h4 (.f h4 (.f h4 (.f h4 (.h 61 (.b true) (.h 63 (.b true) (.h 65 (.b true) (.h 67 (.b true) (.h 69 (.b true) (.h 71 (.b true) (.h 73 (.b true) (.h 75 (.b true) (.h 77 (.b true) (.h 80 (.b true) .nil)))))))))))))))))))))
          · try simp only[if_neg h4]
            have P5 {hs q} (r:PS F X hs q):=(P4 (.f (nt h4) (.f (nt h4) (.f (nt h4) (.h 61 (.b false) (.h 63 (.b false) (.h 65 (.b false) (.r 66 [] [] (e58 (l0_0:=(l0_3+1)) (a0:=a0.f3) (by with_reducible assumption)) (.f (nt h4) (.f (nt h4) (.f (nt h4) (.f trivial (.f (nt h4) (.f (nt h4) (.f (nt h4) (.f (nt h4) (.h 67 (.b false) (.h 69 (.b false) (.h 71 (.b false) (.h 73 (.b false) (.h 75 (.b false) (.h 77 (.b false) (.h 80 (.b false) r)))))))))))))))))))))))
            by_cases h5:((wrap .i64 ((m58 a0.f3)+a0.f2)) !=a0.f1)=true
            · try simp only[if_pos h5]
              exact cp (by kernel_rfl) (P5 (.f h5 (.h 83 (.b true) .nil)))
            · try simp only[if_neg h5]
              have P6 {hs q} (r:PS F X hs q):=(P5 (.f (nt h5) (.h 83 (.b false) (.r 91 [] [] (e82 (l0_0:=(l1_0+1)) (a0:=a1) (a1:=a0.f0) (by with_reducible assumption) (by with_reducible assumption)) r))))
              by_cases h6:(decide ((m1012800 a1 a0.f0)≥0))=true
              · try simp only[if_pos h6]
                exact cp (by kernel_rfl) (P6 (.f h6 (.h 96 (.b true) .nil)))
              · try simp only[if_neg h6]
                exact cp (by kernel_rfl) (P6 (.f (nt h6) (.h 96 (.b false) .nil)))
/-! loop 59_0 -/
inductive O59_0 where
  |k0 (w0:Int) (w1:Int) (w2:Bool)
def r59_0 (a0:(List K_R)) (a1:Int):List K_R→Int→Int→O59_0
  |x0::y0,i,v1=>
    if(a1==0)=true then(r59_0 a0 a1 y0 (i+1) (wrap .i64 (v1+x0.f1))) else
    if(x0.f4==a1)=true then(r59_0 a0 a1 y0 (i+1) (wrap .i64 (v1+x0.f1))) else
      (r59_0 a0 a1 y0 (i+1) v1)
  |[],i,v1=>(O59_0.k0 v1 i (decide (i <((length (map b_R a0)):Int))))
def h59_0 (l0_0:Nat) (a0:(List K_R)) (a1:Int) (i:Int) (v1:Int):St:=⟨[(1,(.one (.val (.int .i64 a1)))),(5,(.one (.val (.int .i64 v1)))),(8,(.one (.bor l0_0 (map b_R a0)))),(9,(.one (.val (.int .i64 ((length (map b_R a0)):Int))))),(10,(.one (.val (.int .i64 i))))],[]⟩
def ex59_0:O59_0→VX.Exit
  |.k0 _ _ _=>(.exit 0)
def fin59_0 (l0_0:Nat) (a0:(List K_R)) (a1:Int):O59_0→St
  |.k0 w0 w1 w2=>⟨[(1,(.one (.val (.int .i64 a1)))),(5,(.one (.val (.int .i64 w0)))),(8,(.one (.bor l0_0 (map b_R a0)))),(9,(.one (.val (.int .i64 ((length (map b_R a0)):Int))))),(10,(.one (.val (.int .i64 w1)))),(11,(.one (.val (.bool w2))))],[]⟩
theorem t59_0 {l0_0:Nat} {a0:(List K_R)} {a1:Int} (hy0:length a0*56≤140737488351232) (hy1:∀z∈a0,ok_R z):∀(y0:List K_R) (p:List K_R) (v1:Int),p++y0=a0→Ev F X (.code l59_0 (h59_0 l0_0 a0 a1 (length p:Int) v1) (ex59_0 (r59_0 a0 a1 y0 (length p:Int) v1)) (fin59_0 l0_0 a0 a1 (r59_0 a0 a1 y0 (length p:Int) v1)))
  |[],p,v1,hp0=>by
    have hc:¬(decide ((length p:Int) <((length (map b_R a0)):Int)))=true:=by
      rw[← hp0]; simp only[length_map,length_set,length_append,length_replicate,length_cons,length_nil,decide_eq_true_eq]; omega
    have st:=ch b59_0 (h59_0 l0_0 a0 a1 (length p:Int) v1) ⟨[(1,(.oi a1)),(5,(.oi v1)),(8,(.one (.bor l0_0 (map b_R a0)))),(9,(.oi ((length (map b_R a0)):Int))),(10,(.oi (length p:Int))),(11,(.one (.val (.bool (decide ((length p:Int) <((length (map b_R a0)):Int)))))))],[]⟩ (.exit 0) 3 (by kernel_rfl) (.f (nt hc) (.h 2 (.b false) .nil))
    rw[show (⟨[(1,(.oi a1)),(5,(.oi v1)),(8,(.one (.bor l0_0 (map b_R a0)))),(9,(.oi ((length (map b_R a0)):Int))),(10,(.oi (length p:Int))),(11,(.one (.val (.bool (decide ((length p:Int) <((length (map b_R a0)):Int)))))))],[]⟩:St)=fin59_0 l0_0 a0 a1 (.k0 v1 (length p:Int) (decide ((length p:Int) <((length (map b_R a0)):Int)))) from(by rfl)] at st
    exact .loopX st (show ((.exit 0):VX.Exit)≠.normal from by simp)
  |x0::y0,p,v1,hp0=>by
    have hc:(decide ((length p:Int) <((length (map b_R a0)):Int)))=true:=by
      rw[← hp0]; simp only[length_map,length_set,length_append,length_replicate,length_cons,length_nil,decide_eq_true_eq]; omega
    have Hx0:(a0)[toNat (length p:Int)]?=some x0:=by
      rw[← hp0,Int.toNat_natCast]; simp
    have Mx0_0:=hy1 x0 (List.mem_of_getElem? Hx0)
    have hlen:length (a0)=length p+length y0+1:=by rw[← hp0]; simp; omega
    have hw:wrap .i64 ((length p:Int)+1)=(length p:Int)+1:=wrap64 (by omega)
    simp only[r59_0]
    have f1:0≤(length p:Int):=(by omega)
    have f2:(map b_R a0)[(toNat (length p:Int))]?=some (b_R x0):=(by rw[getElem?_map,Hx0]; rfl)
    have P1 {hs q} (r:PS F X hs q):=(PS.f hc (.f f1 (.f f2 (.h 2 (.b true) (.h 4 (.row (b_R x0)) r)))))
    by_cases h_1:(a1==0)=true
    · try simp only[if_pos h_1]
      have st:=ch b59_0 (h59_0 l0_0 a0 a1 (length p:Int) v1) ⟨[(1,(.oi a1)),(5,(.oi (wrap .i64 (v1+x0.f1)))),(8,(.one (.bor l0_0 (map b_R a0)))),(9,(.oi ((length (map b_R a0)):Int))),(10,(.oi (wrap .i64 ((length p:Int)+1))))],[]⟩ .normal 42 (by kernel_rfl) (P1 (.f h_1 (.f h_1 (.f h_1 (.f h_1 (.f h_1 (.f trivial (.f trivial (.h 17 (.b true) (.h 19 (.b true) (.h 21 (.b true) (.h 23 (.b true) (.h 26 (.b true) .nil)))))))))))))
      have ih:=t59_0 (l0_0:=l0_0) (a0:=a0) (a1:=a1) hy0 hy1 y0 (p++ [x0]) (wrap .i64 (v1+x0.f1)) (by rw[append_assoc]; exact hp0)
      rw[show ((p++ [x0]).length:Int)=(p.length:Int)+1 from by simp] at ih
      rw[show (⟨[(1,(.oi a1)),(5,(.oi (wrap .i64 (v1+x0.f1)))),(8,(.one (.bor l0_0 (map b_R a0)))),(9,(.oi ((length (map b_R a0)):Int))),(10,(.oi (wrap .i64 ((length p:Int)+1))))],[]⟩:St)=h59_0 l0_0 a0 a1 ((length p:Int)+1) (wrap .i64 (v1+x0.f1)) from(by unfold h59_0; simp only[hw]; done)] at st
      exact .loopN st ih
    · try simp only[if_neg h_1]
      have P2 {hs q} (r:PS F X hs q):=(P1 (.f (nt h_1) (.f (nt h_1) (.f (nt h_1) (.f (nt h_1) (.f (nt h_1) (.h 17 (.b false) (.h 19 (.b false) (.h 21 (.b false) (.h 23 (.b false) (.h 26 (.b false) r)))))))))))
      by_cases h_2:(x0.f4==a1)=true
      · try simp only[if_pos h_2]
        have st:=ch b59_0 (h59_0 l0_0 a0 a1 (length p:Int) v1) ⟨[(1,(.oi a1)),(5,(.oi (wrap .i64 (v1+x0.f1)))),(8,(.one (.bor l0_0 (map b_R a0)))),(9,(.oi ((length (map b_R a0)):Int))),(10,(.oi (wrap .i64 ((length p:Int)+1))))],[]⟩ .normal 42 (by kernel_rfl) (P2 (.f h_2 (.f trivial (.f trivial (.h 27 (.b true) .nil)))))
        have ih:=t59_0 (l0_0:=l0_0) (a0:=a0) (a1:=a1) hy0 hy1 y0 (p++ [x0]) (wrap .i64 (v1+x0.f1)) (by rw[append_assoc]; exact hp0)
        rw[show ((p++ [x0]).length:Int)=(p.length:Int)+1 from by simp] at ih
        rw[show (⟨[(1,(.oi a1)),(5,(.oi (wrap .i64 (v1+x0.f1)))),(8,(.one (.bor l0_0 (map b_R a0)))),(9,(.oi ((length (map b_R a0)):Int))),(10,(.oi (wrap .i64 ((length p:Int)+1))))],[]⟩:St)=h59_0 l0_0 a0 a1 ((length p:Int)+1) (wrap .i64 (v1+x0.f1)) from(by unfold h59_0; simp only[hw]; done)] at st
        exact .loopN st ih
      · try simp only[if_neg h_2]
        have st:=ch b59_0 (h59_0 l0_0 a0 a1 (length p:Int) v1) ⟨[(1,(.oi a1)),(5,(.oi v1)),(8,(.one (.bor l0_0 (map b_R a0)))),(9,(.oi ((length (map b_R a0)):Int))),(10,(.oi (wrap .i64 ((length p:Int)+1))))],[]⟩ .normal 32 (by kernel_rfl) (P2 (.f (nt h_2) (.f trivial (.h 27 (.b false) .nil))))
        have ih:=t59_0 (l0_0:=l0_0) (a0:=a0) (a1:=a1) hy0 hy1 y0 (p++ [x0]) v1 (by rw[append_assoc]; exact hp0)
        rw[show ((p++ [x0]).length:Int)=(p.length:Int)+1 from by simp] at ih
        rw[show (⟨[(1,(.oi a1)),(5,(.oi v1)),(8,(.one (.bor l0_0 (map b_R a0)))),(9,(.oi ((length (map b_R a0)):Int))),(10,(.oi (wrap .i64 ((length p:Int)+1))))],[]⟩:St)=h59_0 l0_0 a0 a1 ((length p:Int)+1) v1 from(by unfold h59_0; simp only[hw]; done)] at st
        exact .loopN st ih
/-! loop.example/g00539/impl.totals -/
def m59 (a0:(List K_R)) (a1:Int):Int:=
  (match r59_0 a0 a1 a0 0 0 with | .k0 w0_0 w1_0 w2_0=>w0_0)
theorem e59 {l0_0:Nat} {a0:(List K_R)} {a1:Int} (hy0:length a0*56≤140737488351232) (hy1:∀z∈a0,ok_R z):Ev F X (.call 59 [(.one (.bor l0_0 (map b_R a0))),(.one (.val (.int .i64 a1)))] [] [] [(.one (.val (.int .i64 (m59 a0 a1))))]):=by
  unfold m59
  cases h0:r59_0 a0 a1 a0 0 0 with
  |k0 w0_0 w1_0 w2_0=>
    try dsimp only
    have f0:(⟨[(1,(.oi a1)),(5,(.oi 0)),(8,(.one (.bor l0_0 (map b_R a0)))),(9,(.oi ((length (map b_R a0)):Int))),(10,(.oi 0))],[]⟩:St)=h59_0 l0_0 a0 a1 0 0:=(by rfl)
    have f1:Ev F X (.code l59_0 (h59_0 l0_0 a0 a1 0 0) (.exit 0) ⟨[(1,(.oi a1)),(5,(.oi w0_0)),(8,(.one (.bor l0_0 (map b_R a0)))),(9,(.oi ((length (map b_R a0)):Int))),(10,(.oi w1_0)),(11,(.one (.val (.bool w2_0))))],[]⟩):=(by have t:Ev F X (.code l59_0 (h59_0 l0_0 a0 a1 0 0) (ex59_0 (r59_0 a0 a1 a0 0 0)) (fin59_0 l0_0 a0 a1 (r59_0 a0 a1 a0 0 0))):=t59_0 (l0_0:=l0_0) (a0:=a0) (a1:=a1) (by assumption) (by assumption) a0 [] 0 rfl; rw[h0] at t; exact t)
    exact cp (by kernel_rfl) (.f f0 (.f f1 (.h 10 (.loop (h59_0 l0_0 a0 a1 0 0) (.exit 0) ⟨[(1,(.one (.val (.int .i64 a1)))),(5,(.one (.val (.int .i64 w0_0)))),(8,(.one (.bor l0_0 (map b_R a0)))),(9,(.one (.val (.int .i64 ((length (map b_R a0)):Int))))),(10,(.one (.val (.int .i64 w1_0)))),(11,(.one (.val (.bool w2_0))))],[]⟩) .nil)))
/-! loop 13_0 -/
inductive O13_0 where
  |k0 (w0:Int) (w1:Bool)
  |k1 (w0:Int)
def r13_0 (a0:K_B):List K_R→Int→O13_0
  |x0::y0,i=>
    if((m56 x0 (take (toNat i) a0.f3)) !=0)=true then(O13_0.k1 (m56 x0 (take (toNat i) a0.f3))) else
    (r13_0 a0 y0 (i+1))
  |[],i=>(O13_0.k0 i (decide (i <((length (map b_R a0.f3)):Int))))
def h13_0 (l0_2:Nat) (l0_3:Nat) (l0_4:Nat) (a0:K_B) (i:Int) :St:=⟨[(1,(.ptr ⟨(1,0,0),[],0,0,8⟩)),(56,(.one (.bor l0_3 (map b_R a0.f3)))),(57,(.one (.val (.int .i64 ((length (map b_R a0.f3)):Int))))),(58,(.one (.val (.int .i64 i))))],[((1,0,0),.live ⟨8,[[(.val (.int .i64 a0.f0)),(.val (.int .i64 a0.f1)),(.bor l0_2 (map b_si a0.f2)),(.bor l0_3 (map b_R a0.f3)),(.bor l0_4 (map b_si a0.f4)),(.val (.int .i64 a0.f5)),(.val (.int .i64 a0.f6)),(.val (.int .i64 a0.f7))]],[]⟩)]⟩
def ex13_0:O13_0→VX.Exit
  |.k0 _ _=>(.exit 0)
  |.k1 _=>.ret
def fin13_0 (l0_2:Nat) (l0_3:Nat) (l0_4:Nat) (a0:K_B):O13_0→St
  |.k0 w0 w1=>⟨[(1,(.ptr ⟨(1,0,0),[],0,0,8⟩)),(56,(.one (.bor l0_3 (map b_R a0.f3)))),(57,(.one (.val (.int .i64 ((length (map b_R a0.f3)):Int))))),(58,(.one (.val (.int .i64 w0)))),(59,(.one (.val (.bool w1))))],[((1,0,0),.live ⟨8,[[(.val (.int .i64 a0.f0)),(.val (.int .i64 a0.f1)),(.bor l0_2 (map b_si a0.f2)),(.bor l0_3 (map b_R a0.f3)),(.bor l0_4 (map b_si a0.f4)),(.val (.int .i64 a0.f5)),(.val (.int .i64 a0.f6)),(.val (.int .i64 a0.f7))]],[]⟩)]⟩
  |.k1 w0=>⟨[(2,(.one (.val (.int .i64 w0))))],[]⟩
theorem t13_0 {l0_2:Nat} {l0_3:Nat} {l0_4:Nat} {a0:K_B} (hy0:length a0.f2*24≤140737488351232) (hy1:length a0.f3*56≤140737488351232) (hy2:∀z∈a0.f3,ok_R z) (hy3:length a0.f4*24≤140737488351232):∀(y0:List K_R) (p:List K_R),p++y0=a0.f3→Ev F X (.code l13_0 (h13_0 l0_2 l0_3 l0_4 a0 (length p:Int)) (ex13_0 (r13_0 a0 y0 (length p:Int))) (fin13_0 l0_2 l0_3 l0_4 a0 (r13_0 a0 y0 (length p:Int))))
  |[],p,hp0=>by
    have hc:¬(decide ((length p:Int) <((length (map b_R a0.f3)):Int)))=true:=by
      rw[← hp0]; simp only[length_map,length_set,length_append,length_replicate,length_cons,length_nil,decide_eq_true_eq]; omega
    have st:=ch b13_0 (h13_0 l0_2 l0_3 l0_4 a0 (length p:Int)) ⟨[(1,(.ptr ⟨(1,0,0),[],0,0,8⟩)),(56,(.one (.bor l0_3 (map b_R a0.f3)))),(57,(.oi ((length (map b_R a0.f3)):Int))),(58,(.oi (length p:Int))),(59,(.one (.val (.bool (decide ((length p:Int) <((length (map b_R a0.f3)):Int)))))))],[((1,0,0),.live ⟨8,[[(.i a0.f0),(.i a0.f1),(.bor l0_2 (map b_si a0.f2)),(.bor l0_3 (map b_R a0.f3)),(.bor l0_4 (map b_si a0.f4)),(.i a0.f5),(.i a0.f6),(.i a0.f7)]],[]⟩)]⟩ (.exit 0) 3 (by kernel_rfl) (.f (nt hc) (.h 2 (.b false) .nil))
    rw[show (⟨[(1,(.ptr ⟨(1,0,0),[],0,0,8⟩)),(56,(.one (.bor l0_3 (map b_R a0.f3)))),(57,(.oi ((length (map b_R a0.f3)):Int))),(58,(.oi (length p:Int))),(59,(.one (.val (.bool (decide ((length p:Int) <((length (map b_R a0.f3)):Int)))))))],[((1,0,0),.live ⟨8,[[(.i a0.f0),(.i a0.f1),(.bor l0_2 (map b_si a0.f2)),(.bor l0_3 (map b_R a0.f3)),(.bor l0_4 (map b_si a0.f4)),(.i a0.f5),(.i a0.f6),(.i a0.f7)]],[]⟩)]⟩:St)=fin13_0 l0_2 l0_3 l0_4 a0 (.k0 (length p:Int) (decide ((length p:Int) <((length (map b_R a0.f3)):Int)))) from(by rfl)] at st
    exact .loopX st (show ((.exit 0):VX.Exit)≠.normal from by simp)
  |x0::y0,p,hp0=>by
    have hc:(decide ((length p:Int) <((length (map b_R a0.f3)):Int)))=true:=by
      rw[← hp0]; simp only[length_map,length_set,length_append,length_replicate,length_cons,length_nil,decide_eq_true_eq]; omega
    have Hx0:(a0.f3)[toNat (length p:Int)]?=some x0:=by
      rw[← hp0,Int.toNat_natCast]; simp
    have Mx0_0:=hy2 x0 (List.mem_of_getElem? Hx0)
    have hlen:length (a0.f3)=length p+length y0+1:=by rw[← hp0]; simp; omega
    have hw:wrap .i64 ((length p:Int)+1)=(length p:Int)+1:=wrap64 (by omega)
    simp only[r13_0]
    have f1:0≤(length p:Int):=(by omega)
    have f2:(map b_R a0.f3)[(toNat (length p:Int))]?=some (b_R x0):=(by rw[getElem?_map,Hx0]; rfl)
    have f3:(0≤(0:Int)∧(0:Int)≤(length p:Int)∧(length p:Int)≤((length (map b_R a0.f3)):Int))∧∀r∈((map b_R a0.f3):List (List B)),r.length=5:=(by refine⟨?_,lenB_R _⟩; simp only[length_map,length_set,length_append,length_replicate,length_cons,length_nil]; omega)
    have f4:Ev F X (.call 56 [(.agg (k_R (l0_3+1) x0)),(.one (.bor (l0_3+1) (take (toNat (length p:Int) - toNat 0) (drop 0 (map b_R a0.f3)))))] [] [] [(.oi (m56 x0 (take (toNat (length p:Int)) a0.f3)))]):=(by rw[show (take (toNat (length p:Int) - toNat 0) (drop 0 (map b_R a0.f3)))=(map b_R (take (toNat (length p:Int)) a0.f3)) from by first | rfl |(simp[map_take,map_drop]; done) |(simp[byteRows_eq,map_take,map_drop]; done) |(simp[*,map_take,map_drop]; done) |(rw[take_of_length_le (by simp only[length_drop,length_take,length_map,Int.toNat_natCast]; omega)]; simp only[← map_drop,← map_take])]; exact(e56 (l0_3:=(l0_3+1)) (l1_0:=(l0_3+1)) (a0:=x0) (a1:=(take (toNat (length p:Int)) a0.f3)) (by assumption) (by simp only[length_take]; omega) (by intro z hz; exact(by assumption:∀z∈_,ok_R z) z (List.mem_of_mem_take hz))))
    have P1 {hs q} (r:PS F X hs q):=(PS.f hc (.f f1 (.f f2 (.f f3 (.h 2 (.b true) (.h 6 (.row (b_R x0)) (.r 26 [] [] f4 r)))))))
    by_cases h_1:((m56 x0 (take (toNat (length p:Int)) a0.f3)) !=0)=true
    · try simp only[if_pos h_1]
      have st:=ch b13_0 (h13_0 l0_2 l0_3 l0_4 a0 (length p:Int)) ⟨[(2,(.oi (m56 x0 (take (toNat (length p:Int)) a0.f3))))],[]⟩ .ret 38 (by kernel_rfl) (P1 (.f h_1 (.h 33 (.b true) .nil)))
      rw[show (⟨[(2,(.oi (m56 x0 (take (toNat (length p:Int)) a0.f3))))],[]⟩:St)=fin13_0 l0_2 l0_3 l0_4 a0 (.k1 (m56 x0 (take (toNat (length p:Int)) a0.f3))) from(by rfl)] at st
      exact .loopX st (show (.ret:VX.Exit)≠.normal from by simp)
    · try simp only[if_neg h_1]
      have st:=ch b13_0 (h13_0 l0_2 l0_3 l0_4 a0 (length p:Int)) ⟨[(1,(.ptr ⟨(1,0,0),[],0,0,8⟩)),(56,(.one (.bor l0_3 (map b_R a0.f3)))),(57,(.oi ((length (map b_R a0.f3)):Int))),(58,(.oi (wrap .i64 ((length p:Int)+1))))],[((1,0,0),.live ⟨8,[[(.i a0.f0),(.i a0.f1),(.bor l0_2 (map b_si a0.f2)),(.bor l0_3 (map b_R a0.f3)),(.bor l0_4 (map b_si a0.f4)),(.i a0.f5),(.i a0.f6),(.i a0.f7)]],[]⟩)]⟩ .normal 38 (by kernel_rfl) (P1 (.f (nt h_1) (.f trivial (.h 33 (.b false) .nil))))
      have ih:=t13_0 (l0_2:=l0_2) (l0_3:=l0_3) (l0_4:=l0_4) (a0:=a0) hy0 hy1 hy2 hy3 y0 (p++ [x0]) (by rw[append_assoc]; exact hp0)
      rw[show ((p++ [x0]).length:Int)=(p.length:Int)+1 from by simp] at ih
      rw[show (⟨[(1,(.ptr ⟨(1,0,0),[],0,0,8⟩)),(56,(.one (.bor l0_3 (map b_R a0.f3)))),(57,(.oi ((length (map b_R a0.f3)):Int))),(58,(.oi (wrap .i64 ((length p:Int)+1))))],[((1,0,0),.live ⟨8,[[(.i a0.f0),(.i a0.f1),(.bor l0_2 (map b_si a0.f2)),(.bor l0_3 (map b_R a0.f3)),(.bor l0_4 (map b_si a0.f4)),(.i a0.f5),(.i a0.f6),(.i a0.f7)]],[]⟩)]⟩:St)=h13_0 l0_2 l0_3 l0_4 a0 ((length p:Int)+1)  from(by unfold h13_0; simp only[hw]; done)] at st
      exact .loopN st ih
/-! loop.example/g00539/impl.LedgerFault -/
def m13 (a0:K_B):Int:=
  if(!(m54 a0.f0 a0.f1))=true then 3 else
  if(!(m45 a0.f5 0 1000000))=true then 3 else
    if(!(m45 a0.f6 0 1000000))=true then 3 else
      if(!(m45 a0.f7 0 1000000))=true then 3 else
        if((m55 a0.f2) !=0)=true then(m55 a0.f2) else
          if(decide (((length (map b_si a0.f2)):Int) > a0.f0))=true then 2 else
            if(decide (((length (map b_R a0.f3)):Int) > 6))=true then 2 else
              if(decide (((length (map b_si a0.f4)):Int) > 8))=true then 2 else
                (match r13_0 a0 a0.f3 0 with | .k0 w0_33 w1_33=>(if(!(m57 a0.f4 8))=true then 1 else if((wrap .i64 ((wrap .i64 ((m58 a0.f4)+a0.f6))+a0.f5)) !=(wrap .i64 ((m59 a0.f3 2)+a0.f7)))=true then 7 else if(!(m45 (m59 a0.f3 0) 0 1000000))=true then 7 else 0) | .k1 w0_33=>w0_33)
theorem e13 {l0_2:Nat} {l0_3:Nat} {l0_4:Nat} {a0:K_B} (hy0:length a0.f2*24≤140737488351232) (hy1:length a0.f3*56≤140737488351232) (hy2:∀z∈a0.f3,ok_R z) (hy3:length a0.f4*24≤140737488351232):Ev F X (.call 13 [(.agg (k_B l0_2 l0_3 l0_4 a0))] [] [] [(.one (.val (.int .i64 (m13 a0))))]):=by
  unfold m13
  have P0 {hs q} (r:PS F X hs q):=(PS.r 13 [] [] (e54 (a0:=a0.f0) (a1:=a0.f1)) r)
  by_cases h0:(!(m54 a0.f0 a0.f1))=true
  · try simp only[if_pos h0]
    exact cp (by kernel_rfl) (P0 (.f h0 (.f h0 (.f h0 (.f h0 (.f h0 (.h 18 (.b true) (.h 20 (.b true) (.h 22 (.b true) (.h 24 (.b true) (.h 27 (.b true) .nil)))))))))))
  · try simp only[if_neg h0]
    have P1 {hs q} (r:PS F X hs q):=(P0 (.f (nt h0) (.f (nt h0) (.f (nt h0) (.h 18 (.b false) (.h 20 (.b false) (.h 22 (.b false) (.r 23 [] [] (e46 (a0:=a0.f5)) (.f (nt h0) (.f (nt h0) (.h 24 (.b false) (.h 27 (.b false) r))))))))))))
    by_cases h1:(!(m45 a0.f5 0 1000000))=true
    · try simp only[if_pos h1]
      exact cp (by kernel_rfl) (P1 (.f h1 (.f h1 (.f h1 (.f h1 (.f h1 (.h 30 (.b true) (.h 32 (.b true) (.h 34 (.b true) (.h 36 (.b true) (.h 39 (.b true) .nil)))))))))))
    · try simp only[if_neg h1]
      have P2 {hs q} (r:PS F X hs q):=(P1 (.f (nt h1) (.f (nt h1) (.f (nt h1) (.h 30 (.b false) (.h 32 (.b false) (.h 34 (.b false) (.r 35 [] [] (e46 (a0:=a0.f6)) (.f (nt h1) (.f (nt h1) (.h 36 (.b false) (.h 39 (.b false) r))))))))))))
      by_cases h2:(!(m45 a0.f6 0 1000000))=true
      · try simp only[if_pos h2]
        exact cp (by kernel_rfl) (P2 (.f h2 (.f h2 (.f h2 (.f h2 (.f h2 (.h 42 (.b true) (.h 44 (.b true) (.h 46 (.b true) (.h 48 (.b true) (.h 51 (.b true) .nil)))))))))))
      · try simp only[if_neg h2]
        have P3 {hs q} (r:PS F X hs q):=(P2 (.f (nt h2) (.f (nt h2) (.f (nt h2) (.h 42 (.b false) (.h 44 (.b false) (.h 46 (.b false) (.r 47 [] [] (e46 (a0:=a0.f7)) (.f (nt h2) (.f (nt h2) (.h 48 (.b false) (.h 51 (.b false) r))))))))))))
        by_cases h3:(!(m45 a0.f7 0 1000000))=true
        · try simp only[if_pos h3]
          exact cp (by kernel_rfl) (P3 (.f h3 (.h 52 (.b true) .nil)))
        · try simp only[if_neg h3]
          have P4 {hs q} (r:PS F X hs q):=(P3 (.f (nt h3) (.h 52 (.b false) (.r 58 [] [] (e55 (l0_0:=(l0_2+1)) (a0:=a0.f2) (by with_reducible assumption)) r))))
          by_cases h4:((m55 a0.f2) !=0)=true
          · try simp only[if_pos h4]
            exact cp (by kernel_rfl) (P4 (.f h4 (.h 65 (.b true) .nil)))
          · try simp only[if_neg h4]
            have P5 {hs q} (r:PS F X hs q):=(P4 (.f (nt h4) (.h 65 (.b false) r)))
            by_cases h5:(decide (((length (map b_si a0.f2)):Int) > a0.f0))=true
            · try simp only[if_pos h5]
              exact cp (by kernel_rfl) (P5 (.f h5 (.f h5 (.f h5 (.f h5 (.f h5 (.h 80 (.b true) (.h 82 (.b true) (.h 84 (.b true) (.h 86 (.b true) (.h 89 (.b true) .nil)))))))))))
            · try simp only[if_neg h5]
              have P6 {hs q} (r:PS F X hs q):=(P5 (.f (nt h5) (.f (nt h5) (.f (nt h5) (.f (nt h5) (.f (nt h5) (.h 80 (.b false) (.h 82 (.b false) (.h 84 (.b false) (.h 86 (.b false) (.h 89 (.b false) r)))))))))))
              by_cases h6:(decide (((length (map b_R a0.f3)):Int) > 6))=true
              · try simp only[if_pos h6]
                exact cp (by kernel_rfl) (P6 (.f h6 (.f h6 (.f h6 (.f h6 (.f h6 (.h 92 (.b true) (.h 94 (.b true) (.h 96 (.b true) (.h 98 (.b true) (.h 101 (.b true) .nil)))))))))))
              · try simp only[if_neg h6]
                have P7 {hs q} (r:PS F X hs q):=(P6 (.f (nt h6) (.f (nt h6) (.f (nt h6) (.f (nt h6) (.f (nt h6) (.h 92 (.b false) (.h 94 (.b false) (.h 96 (.b false) (.h 98 (.b false) (.h 101 (.b false) r)))))))))))
                by_cases h7:(decide (((length (map b_si a0.f4)):Int) > 8))=true
                · try simp only[if_pos h7]
                  exact cp (by kernel_rfl) (P7 (.f h7 (.h 102 (.b true) .nil)))
                · try simp only[if_neg h7]
                  have P8 {hs q} (r:PS F X hs q):=(P7 (.f (nt h7) (.h 102 (.b false) r)))
                  cases h8:r13_0 a0 a0.f3 0 with
                  |k0 w0_33 w1_33=>
                    try dsimp only
                    have f33:(⟨[(1,(.ptr ⟨(1,0,0),[],0,0,8⟩)),(56,(.one (.bor l0_3 (map b_R a0.f3)))),(57,(.oi ((length (map b_R a0.f3)):Int))),(58,(.oi 0))],[((1,0,0),.live ⟨8,[[(.i a0.f0),(.i a0.f1),(.bor l0_2 (map b_si a0.f2)),(.bor l0_3 (map b_R a0.f3)),(.bor l0_4 (map b_si a0.f4)),(.i a0.f5),(.i a0.f6),(.i a0.f7)]],[]⟩)]⟩:St)=h13_0 l0_2 l0_3 l0_4 a0 0 :=(by rfl)
                    have f34:Ev F X (.code l13_0 (h13_0 l0_2 l0_3 l0_4 a0 0) (.exit 0) ⟨[(1,(.ptr ⟨(1,0,0),[],0,0,8⟩)),(56,(.one (.bor l0_3 (map b_R a0.f3)))),(57,(.oi ((length (map b_R a0.f3)):Int))),(58,(.oi w0_33)),(59,(.one (.val (.bool w1_33))))],[((1,0,0),.live ⟨8,[[(.i a0.f0),(.i a0.f1),(.bor l0_2 (map b_si a0.f2)),(.bor l0_3 (map b_R a0.f3)),(.bor l0_4 (map b_si a0.f4)),(.i a0.f5),(.i a0.f6),(.i a0.f7)]],[]⟩)]⟩):=(by have t:Ev F X (.code l13_0 (h13_0 l0_2 l0_3 l0_4 a0 0) (ex13_0 (r13_0 a0 a0.f3 0)) (fin13_0 l0_2 l0_3 l0_4 a0 (r13_0 a0 a0.f3 0))):=t13_0 (l0_2:=l0_2) (l0_3:=l0_3) (l0_4:=l0_4) (a0:=a0) (by assumption) (by assumption) (by assumption) (by assumption) a0.f3 []  rfl; rw[h8] at t; exact t)
                    have P9 {hs q} (r:PS F X hs q):=(P8 (.f f33 (.f f34 (.h 111 (.loop (h13_0 l0_2 l0_3 l0_4 a0 0) (.exit 0) ⟨[(1,(.ptr ⟨(1,0,0),[],0,0,8⟩)),(56,(.one (.bor l0_3 (map b_R a0.f3)))),(57,(.one (.val (.int .i64 ((length (map b_R a0.f3)):Int))))),(58,(.one (.val (.int .i64 w0_33)))),(59,(.one (.val (.bool w1_33))))],[((1,0,0),.live ⟨8,[[(.val (.int .i64 a0.f0)),(.val (.int .i64 a0.f1)),(.bor l0_2 (map b_si a0.f2)),(.bor l0_3 (map b_R a0.f3)),(.bor l0_4 (map b_si a0.f4)),(.val (.int .i64 a0.f5)),(.val (.int .i64 a0.f6)),(.val (.int .i64 a0.f7))]],[]⟩)]⟩) (.r 117 [] [] (e57 (l0_0:=(l0_4+1)) (a0:=a0.f4) (a1:=8) (by with_reducible assumption)) r)))))
                    by_cases h9:(!(m57 a0.f4 8))=true
                    · try simp only[if_pos h9]
                      exact cp (by kernel_rfl) (P9 (.f h9 (.h 122 (.b true) .nil)))
                    · try simp only[if_neg h9]
                      have P10 {hs q} (r:PS F X hs q):=(P9 (.f (nt h9) (.h 122 (.b false) (.r 128 [] [] (e58 (l0_0:=(l0_4+1)) (a0:=a0.f4) (by with_reducible assumption)) (.f trivial (.f trivial (.r 146 [] [] (e59 (l0_0:=(l0_3+1)) (a0:=a0.f3) (a1:=2) (by with_reducible assumption) (by with_reducible assumption)) (.f trivial r))))))))
                      by_cases h10:((wrap .i64 ((wrap .i64 ((m58 a0.f4)+a0.f6))+a0.f5)) !=(wrap .i64 ((m59 a0.f3 2)+a0.f7)))=true
                      · try simp only[if_pos h10]
                        exact cp (by kernel_rfl) (P10 (.f h10 (.f h10 (.f h10 (.f h10 (.f h10 (.f h10 (.h 157 (.b true) (.h 159 (.b true) (.h 161 (.b true) (.h 163 (.b true) (.h 165 (.b true) (.h 168 (.b true) .nil)))))))))))))
                      · try simp only[if_neg h10]
                        have P11 {hs q} (r:PS F X hs q):=(P10 (.f (nt h10) (.f (nt h10) (.f (nt h10) (.h 157 (.b false) (.h 159 (.b false) (.h 161 (.b false) (.r 162 [] [] (e59 (l0_0:=(l0_3+1)) (a0:=a0.f3) (a1:=0) (by with_reducible assumption) (by with_reducible assumption)) (.f (nt h10) (.h 163 (.b false) (.r 164 [] [] (e46 (a0:=(m59 a0.f3 0))) (.f (nt h10) (.f (nt h10) (.h 165 (.b false) (.h 168 (.b false) r)))))))))))))))
                        by_cases h11:(!(m45 (m59 a0.f3 0) 0 1000000))=true
                        · try simp only[if_pos h11]
                          exact cp (by kernel_rfl) (P11 (.f h11 (.h 171 (.b true) .nil)))
                        · try simp only[if_neg h11]
                          exact cp (by kernel_rfl) (P11 (.f (nt h11) (.h 171 (.b false) .nil)))
                  |k1 w0_33=>
                    try dsimp only
                    have f33:(⟨[(1,(.ptr ⟨(1,0,0),[],0,0,8⟩)),(56,(.one (.bor l0_3 (map b_R a0.f3)))),(57,(.oi ((length (map b_R a0.f3)):Int))),(58,(.oi 0))],[((1,0,0),.live ⟨8,[[(.i a0.f0),(.i a0.f1),(.bor l0_2 (map b_si a0.f2)),(.bor l0_3 (map b_R a0.f3)),(.bor l0_4 (map b_si a0.f4)),(.i a0.f5),(.i a0.f6),(.i a0.f7)]],[]⟩)]⟩:St)=h13_0 l0_2 l0_3 l0_4 a0 0 :=(by rfl)
                    have f34:Ev F X (.code l13_0 (h13_0 l0_2 l0_3 l0_4 a0 0) .ret ⟨[(2,(.oi w0_33))],[]⟩):=(by have t:Ev F X (.code l13_0 (h13_0 l0_2 l0_3 l0_4 a0 0) (ex13_0 (r13_0 a0 a0.f3 0)) (fin13_0 l0_2 l0_3 l0_4 a0 (r13_0 a0 a0.f3 0))):=t13_0 (l0_2:=l0_2) (l0_3:=l0_3) (l0_4:=l0_4) (a0:=a0) (by assumption) (by assumption) (by assumption) (by assumption) a0.f3 []  rfl; rw[h8] at t; exact t)
                    exact cp (by kernel_rfl) (P8 (.f f33 (.f f34 (.h 111 (.loop (h13_0 l0_2 l0_3 l0_4 a0 0) .ret ⟨[(2,(.one (.val (.int .i64 w0_33))))],[]⟩) .nil))))
theorem ow13 {a:List K_si} {k:Int} (h:m57 a k=true):(a.length:Int)≤k:=by
  unfold m57 at h
  split at h
  · simpa using h
  · cases h
theorem rl56 {x:K_R} {a:List K_R} (h:m56 x a=0):x.f3.length≤12:=by
  unfold m56 at h
  by_cases c:m57 x.f3 12=true
  · have:=ow13 c; omega
  · exfalso
    have c:m57 x.f3 12=false:=by simpa using c
    simp only[c,Bool.not_false,if_true] at h
    (repeat' split at h)<;>simp at h
theorem rz13 (a0:K_B):∀(l:List K_R) (i:Int),((∃u v,r13_0 a0 l i=.k0 u v)∧∀z∈l,z.f3.length≤12)∨(∃w,r13_0 a0 l i=.k1 w∧w≠0)
  |[],i=>.inl ⟨⟨_,_,rfl⟩,fun z hz=>by cases hz⟩
  |x::l,i=>by
    have ih:=rz13 a0 l (i+1)
    simp only[r13_0]
    by_cases c:((m56 x (take (toNat i) a0.f3)) !=0)=true
    · rw[if_pos c]; exact .inr ⟨_,rfl,by simpa using c⟩
    · rw[if_neg c]
      rcases ih with⟨h1,h2⟩ | h
      · refine .inl ⟨h1,fun z hz=>?_⟩
        rcases List.mem_cons.1 hz with rfl | hz
        · exact rl56 (by simpa using c)
        · exact h2 z hz
      · exact .inr h
theorem fs13 {a0:K_B} (h:¬((m13 a0) !=0)=true):a0.f2.length≤12∧a0.f3.length≤6∧(∀z∈a0.f3,z.f3.length≤12)∧a0.f4.length≤8:=by
  have h:m13 a0=0:=by simpa using h
  unfold m13 at h
  split at h
  · cases h
  split at h
  · cases h
  split at h
  · cases h
  split at h
  · cases h
  split at h
  · rename_i h2; rw[h] at h2; simp at h2
  rename_i h2
  split at h
  · cases h
  split at h
  · cases h
  rename_i h4
  split at h
  · cases h
  rename_i h5
  simp only[length_map,decide_eq_true_eq] at h4 h5
  rcases rz13 a0 a0.f3 0 with⟨_,hz⟩ |⟨w,hw,hn⟩
  · exact⟨len12_55 _ h2,by omega,hz,by omega⟩
  · rw[hw] at h; exact absurd h hn
/-! slices.Clone[[]loop.example/g00539/impl.Weight,loop.example/g00539/impl.Weight] -/
theorem e94 {a0:List K_si} {l0:Nat} (hy0:length a0*24≤70368744177664):Ev F X (.call 94 [(.one (.bor l0 (map b_si a0)))] [] [] [(.one (.own 2 (map d_si a0)))]):=by
  refine .ext (.inl ⟨rfl,rfl,?_⟩) rfl
  have e:fromBR l0 (map b_si a0)=map d_si a0:=by first | exact fromBR_si .. | simp[fromBR_si]
  refine⟨l0,_,rfl,by rw[e],by rw[e]; simpa using hy0,by rw[e]; exact lenD_si _,by rw[e]; first | exact pureR_si _ | simp[pureR_si]⟩
/-! loop 91_0 -/
inductive O91_0 where
  |k0 (w0:List K_R) (w1:Int) (w2:Bool)
def r91_0 (a0:K_B):List K_R→Int→List K_R→O91_0
  |x0::y0,i,v0=>
    (r91_0 a0 y0 (i+1) (v0++([x0])))
  |[],i,v0=>(O91_0.k0 v0 i (decide (i <((length (map b_R a0.f3)):Int))))
def h91_0 (l0_2:Nat) (l0_3:Nat) (l0_4:Nat) (a0:K_B) (i:Int) (v0:List K_R):St:=⟨[(1,(.ptr ⟨(1,0,0),[],0,0,8⟩)),(2,(.ptr ⟨(2,0,0),[],0,0,8⟩)),(3,(.one (.ref ⟨(3,0,0),[],0,(length (map d_R v0))⟩))),(16,(.one (.bor l0_3 (map b_R a0.f3)))),(17,(.one (.val (.int .i64 ((length (map b_R a0.f3)):Int))))),(18,(.one (.val (.int .i64 i))))],[((1,0,0),.live ⟨8,[[(.val (.int .i64 a0.f0)),(.val (.int .i64 a0.f1)),(.own 2 (map d_si a0.f2)),(.bor l0_3 (map b_R a0.f3)),(.own 2 (map d_si a0.f4)),(.val (.int .i64 a0.f5)),(.val (.int .i64 a0.f6)),(.val (.int .i64 a0.f7))]],[]⟩),((2,0,0),.live ⟨8,[[(.val (.int .i64 0)),(.val (.int .i64 0)),(.own 2 []),(.own 5 []),(.own 2 []),(.val (.int .i64 0)),(.val (.int .i64 0)),(.val (.int .i64 0))]],[]⟩),((3,0,0),.live ⟨5,(map d_R v0),[]⟩)]⟩
def ex91_0:O91_0→VX.Exit
  |.k0 _ _ _=>(.exit 0)
def fin91_0 (l0_2:Nat) (l0_3:Nat) (l0_4:Nat) (a0:K_B):O91_0→St
  |.k0 w0 w1 w2=>⟨[(1,(.ptr ⟨(1,0,0),[],0,0,8⟩)),(2,(.ptr ⟨(2,0,0),[],0,0,8⟩)),(3,(.one (.ref ⟨(3,0,0),[],0,(length (map d_R w0))⟩))),(16,(.one (.bor l0_3 (map b_R a0.f3)))),(17,(.one (.val (.int .i64 ((length (map b_R a0.f3)):Int))))),(18,(.one (.val (.int .i64 w1)))),(19,(.one (.val (.bool w2))))],[((1,0,0),.live ⟨8,[[(.val (.int .i64 a0.f0)),(.val (.int .i64 a0.f1)),(.own 2 (map d_si a0.f2)),(.bor l0_3 (map b_R a0.f3)),(.own 2 (map d_si a0.f4)),(.val (.int .i64 a0.f5)),(.val (.int .i64 a0.f6)),(.val (.int .i64 a0.f7))]],[]⟩),((2,0,0),.live ⟨8,[[(.val (.int .i64 0)),(.val (.int .i64 0)),(.own 2 []),(.own 5 []),(.own 2 []),(.val (.int .i64 0)),(.val (.int .i64 0)),(.val (.int .i64 0))]],[]⟩),((3,0,0),.live ⟨5,(map d_R w0),[]⟩)]⟩
theorem t91_0 {l0_2:Nat} {l0_3:Nat} {l0_4:Nat} {a0:K_B} (hy0:length a0.f2≤100) (hy1:length a0.f3≤100) (hy2:∀z∈a0.f3,length z.f3≤100) (hy3:length a0.f4≤100) (hy4:∀z∈a0.f3,ok_R z):∀(y0:List K_R) (p:List K_R) (v0:List K_R),p++y0=a0.f3→(length v0+length y0)*56≤70368744177664→Ev F X (.code l91_0 (h91_0 l0_2 l0_3 l0_4 a0 (length p:Int) v0) (ex91_0 (r91_0 a0 y0 (length p:Int) v0)) (fin91_0 l0_2 l0_3 l0_4 a0 (r91_0 a0 y0 (length p:Int) v0)))
  |[],p,v0,hp0,hi0=>by
    have hc:¬(decide ((length p:Int) <((length (map b_R a0.f3)):Int)))=true:=by
      rw[← hp0]; simp only[length_map,length_set,length_append,length_replicate,length_cons,length_nil,decide_eq_true_eq]; omega
    have hj0:=hi0; try simp only[length_map,length_set,length_append,length_replicate,length_cons,length_nil,Int.toNat_natCast] at hj0
    have st:=ch b91_0 (h91_0 l0_2 l0_3 l0_4 a0 (length p:Int) v0) ⟨[(1,(.ptr ⟨(1,0,0),[],0,0,8⟩)),(2,(.ptr ⟨(2,0,0),[],0,0,8⟩)),(3,(.one (.ref ⟨(3,0,0),[],0,(length (map d_R v0))⟩))),(16,(.one (.bor l0_3 (map b_R a0.f3)))),(17,(.oi ((length (map b_R a0.f3)):Int))),(18,(.oi (length p:Int))),(19,(.one (.val (.bool (decide ((length p:Int) <((length (map b_R a0.f3)):Int)))))))],[((1,0,0),.live ⟨8,[[(.i a0.f0),(.i a0.f1),(.own 2 (map d_si a0.f2)),(.bor l0_3 (map b_R a0.f3)),(.own 2 (map d_si a0.f4)),(.i a0.f5),(.i a0.f6),(.i a0.f7)]],[]⟩),((2,0,0),.live ⟨8,[[(.i 0),(.i 0),(.own 2 []),(.own 5 []),(.own 2 []),(.i 0),(.i 0),(.i 0)]],[]⟩),((3,0,0),.live ⟨5,(map d_R v0),[]⟩)]⟩ (.exit 0) 3 (by kernel_rfl) (.f (nt hc) (.h 2 (.b false) .nil))
    rw[show (⟨[(1,(.ptr ⟨(1,0,0),[],0,0,8⟩)),(2,(.ptr ⟨(2,0,0),[],0,0,8⟩)),(3,(.one (.ref ⟨(3,0,0),[],0,(length (map d_R v0))⟩))),(16,(.one (.bor l0_3 (map b_R a0.f3)))),(17,(.oi ((length (map b_R a0.f3)):Int))),(18,(.oi (length p:Int))),(19,(.one (.val (.bool (decide ((length p:Int) <((length (map b_R a0.f3)):Int)))))))],[((1,0,0),.live ⟨8,[[(.i a0.f0),(.i a0.f1),(.own 2 (map d_si a0.f2)),(.bor l0_3 (map b_R a0.f3)),(.own 2 (map d_si a0.f4)),(.i a0.f5),(.i a0.f6),(.i a0.f7)]],[]⟩),((2,0,0),.live ⟨8,[[(.i 0),(.i 0),(.own 2 []),(.own 5 []),(.own 2 []),(.i 0),(.i 0),(.i 0)]],[]⟩),((3,0,0),.live ⟨5,(map d_R v0),[]⟩)]⟩:St)=fin91_0 l0_2 l0_3 l0_4 a0 (.k0 v0 (length p:Int) (decide ((length p:Int) <((length (map b_R a0.f3)):Int)))) from(by rfl)] at st
    exact .loopX st (show ((.exit 0):VX.Exit)≠.normal from by simp)
  |x0::y0,p,v0,hp0,hi0=>by
    have hc:(decide ((length p:Int) <((length (map b_R a0.f3)):Int)))=true:=by
      rw[← hp0]; simp only[length_map,length_set,length_append,length_replicate,length_cons,length_nil,decide_eq_true_eq]; omega
    have Hx0:(a0.f3)[toNat (length p:Int)]?=some x0:=by
      rw[← hp0,Int.toNat_natCast]; simp
    have Nx0_2:=hy2 x0 (List.mem_of_getElem? Hx0)
    have Mx0_0:=hy4 x0 (List.mem_of_getElem? Hx0)
    have hlen:length (a0.f3)=length p+length y0+1:=by rw[← hp0]; simp; omega
    have hw:wrap .i64 ((length p:Int)+1)=(length p:Int)+1:=wrap64 (by omega)
    have hj0:=hi0; try simp only[length_map,length_set,length_append,length_replicate,length_cons,length_nil,Int.toNat_natCast] at hj0
    simp only[r91_0]
    have f1:0≤(length p:Int):=(by omega)
    have f2:(map b_R a0.f3)[(toNat (length p:Int))]?=some [(.val (.int .i64 x0.f0)),(.val (.int .i64 x0.f1)),(.val (.int .i64 x0.f2)),(.sl (map b_si x0.f3)),(.val (.int .i64 x0.f4))]:=(by rw[getElem?_map,Hx0]; rfl)
    have f3:Ev F X (.call 94 [(.one (.bor (l0_3+1) (map b_si x0.f3)))] [] [] [(.one (.own 2 (map d_si x0.f3)))]):=(e94 (a0:=x0.f3) (by omega))
    have f8:0+(length (map d_R v0))≤(length (map d_R v0)):=(by omega)
    have f9:1≤1:=(by omega)
    have f10:((take 1 (drop 0 [[(.val (.int .i64 x0.f0)),(.val (.int .i64 x0.f1)),(.val (.int .i64 x0.f2)),(.own 2 (map d_si x0.f3)),(.val (.int .i64 x0.f4))]])).all fun x=>x.all copyable)=false:=(by trivial)
    have f13:(length ((take (length (map d_R v0)) (drop 0 (map d_R v0)))++([[(.val (.int .i64 x0.f0)),(.val (.int .i64 x0.f1)),(.val (.int .i64 x0.f2)),(.own 2 (map d_si x0.f3)),(.val (.int .i64 x0.f4))]]:List (List D))))*56≤70368744177664:=(by simp only[length_map,length_append,length_cons,length_nil,length_take,length_drop]; omega)
    have f14:∀r∈([[(.val (.int .i64 x0.f0)),(.val (.int .i64 x0.f1)),(.val (.int .i64 x0.f2)),(.own 2 (map d_si x0.f3)),(.val (.int .i64 x0.f4))]]:List (List D)),r.length=5:=(by simp; done)
    have f15:((take (length (map d_R v0)) (drop 0 (map d_R v0)))++([[(.val (.int .i64 x0.f0)),(.val (.int .i64 x0.f1)),(.val (.int .i64 x0.f2)),(.own 2 (map d_si x0.f3)),(.val (.int .i64 x0.f4))]]:List (List D)))=(map d_R (v0++([x0]))):=(by simp[byteRows_eq,ints_y,take_of_length_le,d_y,d_LyE,d_b,d_si,d_R,d_B,d_s,d_i,d_C,d_ii,d_LyEi,d_LiE,d_LsiE,d_iLsiE,d_Q,fromBR_y,fromBR_b,fromBR_si,fromBR_s,fromBR_i,fromBR_ii]; done)
    have st:=ch b91_0 (h91_0 l0_2 l0_3 l0_4 a0 (length p:Int) v0) ⟨[(1,(.ptr ⟨(1,0,0),[],0,0,8⟩)),(2,(.ptr ⟨(2,0,0),[],0,0,8⟩)),(3,(.one (.ref ⟨(3,0,0),[],0,(length ((take (length (map d_R v0)) (drop 0 (map d_R v0)))++([[(.i x0.f0),(.i x0.f1),(.i x0.f2),(.own 2 (map d_si x0.f3)),(.i x0.f4)]]:List (List D))))⟩))),(16,(.one (.bor l0_3 (map b_R a0.f3)))),(17,(.oi ((length (map b_R a0.f3)):Int))),(18,(.oi (wrap .i64 ((length p:Int)+1))))],[((1,0,0),.live ⟨8,[[(.i a0.f0),(.i a0.f1),(.own 2 (map d_si a0.f2)),(.bor l0_3 (map b_R a0.f3)),(.own 2 (map d_si a0.f4)),(.i a0.f5),(.i a0.f6),(.i a0.f7)]],[]⟩),((2,0,0),.live ⟨8,[[(.i 0),(.i 0),(.own 2 []),(.own 5 []),(.own 2 []),(.i 0),(.i 0),(.i 0)]],[]⟩),((3,0,0),.live ⟨5,(map d_R (v0++([x0]))),[]⟩)]⟩ .normal 36 (by kernel_rfl) (.f hc (.f f1 (.f f2 (.h 2 (.b true) (.h 4 (.row [(.i x0.f0),(.i x0.f1),(.i x0.f2),(.sl (map b_si x0.f3)),(.i x0.f4)]) (.r 16 [] [] f3 (pe 0 (pe (length (map d_si x0.f3)) (pe 0 (pe (length (map d_si x0.f3)) (.f f8 (.f f9 (.f f10 (pe 0 (pe 1 (.f f13 (.f f14 (.f f15 (.f trivial (.h 28 (.b false) (.h 31 (.norm (3,0,0) (map d_R (v0++([x0])))) .nil)))))))))))))))))))))
    have ih:=t91_0 (l0_2:=l0_2) (l0_3:=l0_3) (l0_4:=l0_4) (a0:=a0) hy0 hy1 hy2 hy3 hy4 y0 (p++ [x0]) (v0++([x0])) (by rw[append_assoc]; exact hp0) (by simp only[length_map,length_set,length_append,length_replicate,length_cons,length_nil]; omega)
    rw[show ((p++ [x0]).length:Int)=(p.length:Int)+1 from by simp] at ih
    rw[show (⟨[(1,(.ptr ⟨(1,0,0),[],0,0,8⟩)),(2,(.ptr ⟨(2,0,0),[],0,0,8⟩)),(3,(.one (.ref ⟨(3,0,0),[],0,(length ((take (length (map d_R v0)) (drop 0 (map d_R v0)))++([[(.i x0.f0),(.i x0.f1),(.i x0.f2),(.own 2 (map d_si x0.f3)),(.i x0.f4)]]:List (List D))))⟩))),(16,(.one (.bor l0_3 (map b_R a0.f3)))),(17,(.oi ((length (map b_R a0.f3)):Int))),(18,(.oi (wrap .i64 ((length p:Int)+1))))],[((1,0,0),.live ⟨8,[[(.i a0.f0),(.i a0.f1),(.own 2 (map d_si a0.f2)),(.bor l0_3 (map b_R a0.f3)),(.own 2 (map d_si a0.f4)),(.i a0.f5),(.i a0.f6),(.i a0.f7)]],[]⟩),((2,0,0),.live ⟨8,[[(.i 0),(.i 0),(.own 2 []),(.own 5 []),(.own 2 []),(.i 0),(.i 0),(.i 0)]],[]⟩),((3,0,0),.live ⟨5,(map d_R (v0++([x0]))),[]⟩)]⟩:St)=h91_0 l0_2 l0_3 l0_4 a0 ((length p:Int)+1) (v0++([x0])) from(by unfold h91_0; simp[hw,byteRows_eq,ints_y,take_of_length_le,d_y,d_LyE,d_b,d_si,d_R,d_B,d_s,d_i,d_C,d_ii,d_LyEi,d_LiE,d_LsiE,d_iLsiE,d_Q,fromBR_y,fromBR_b,fromBR_si,fromBR_s,fromBR_i,fromBR_ii]; done)] at st
    exact .loopN st ih
def post91_0 (n0:Nat):O91_0→Prop
  |.k0 w0 _ _=>length w0=n0
theorem z91_0 {a0:K_B}:∀(y0:List K_R) (i:Int) (v0:List K_R),post91_0 (length v0+length y0) (r91_0 a0 y0 i v0)
  |[],i,v0=>by
    first | trivial |(simp only[post91_0,length_nil,Nat.add_zero]; done) |(simp[post91_0]; done)
  |x0::y0,i,v0=>by
    simp only[r91_0]
    have z:=z91_0 (a0:=a0) y0 (i+1) (v0++([x0]))
    rw[show (length v0+length (x0::y0))=(length (v0++([x0]))+length y0) from by first | omega |(simp only[length_map,length_set,length_append,length_replicate,length_cons,length_nil]; done) |(simp only[length_map,length_set,length_append,length_replicate,length_cons,length_nil]; omega)]
    exact z
/-! loop.example/g00539/impl.cloneLedger -/
def m91 (a0:K_B):K_B:=
  (match r91_0 a0 a0.f3 0 ([]) with | .k0 w0_2 w1_2 w2_2=>(K_B.mk a0.f0 a0.f1 a0.f2 w0_2 a0.f4 a0.f5 a0.f6 a0.f7))
theorem e91 {l0_2:Nat} {l0_3:Nat} {l0_4:Nat} {a0:K_B} (hy0:length a0.f2≤100) (hy1:length a0.f3≤100) (hy2:∀z∈a0.f3,length z.f3≤100) (hy3:length a0.f4≤100) (hy4:∀z∈a0.f3,ok_R z):Ev F X (.call 91 [(.agg (k_B l0_2 l0_3 l0_4 a0))] [] [] [(.agg (d_B (m91 a0)))]):=by
  unfold m91
  have f0:Ev F X (.call 94 [(.one (.bor (l0_2+1) (map b_si a0.f2)))] [] [] [(.one (.own 2 (map d_si a0.f2)))]):=(e94 (a0:=a0.f2) (by omega))
  have f1:Ev F X (.call 94 [(.one (.bor (l0_4+1) (map b_si a0.f4)))] [] [] [(.one (.own 2 (map d_si a0.f4)))]):=(e94 (a0:=a0.f4) (by omega))
  cases h0:r91_0 a0 a0.f3 0 ([]) with
  |k0 w0_2 w1_2 w2_2=>
    try dsimp only
    have zh0:=z91_0 (a0:=a0) a0.f3 0 ([]); rw[h0] at zh0; simp only[post91_0,length_map,length_set,length_append,length_replicate,length_cons,length_nil,Int.toNat_natCast] at zh0
    have f6:(⟨[(1,(.ptr ⟨(1,0,0),[],0,0,8⟩)),(2,(.ptr ⟨(2,0,0),[],0,0,8⟩)),(3,(.one (.ref ⟨(3,0,0),[],0,0⟩))),(16,(.one (.bor l0_3 (map b_R a0.f3)))),(17,(.oi ((length (map b_R a0.f3)):Int))),(18,(.oi 0))],[((1,0,0),.live ⟨8,[[(.i a0.f0),(.i a0.f1),(.own 2 (map d_si a0.f2)),(.bor l0_3 (map b_R a0.f3)),(.own 2 (map d_si a0.f4)),(.i a0.f5),(.i a0.f6),(.i a0.f7)]],[]⟩),((2,0,0),.live ⟨8,[[(.i 0),(.i 0),(.own 2 []),(.own 5 []),(.own 2 []),(.i 0),(.i 0),(.i 0)]],[]⟩),((3,0,0),.live ⟨5,[],[]⟩)]⟩:St)=h91_0 l0_2 l0_3 l0_4 a0 0 ([]):=(by rfl)
    have f7:Ev F X (.code l91_0 (h91_0 l0_2 l0_3 l0_4 a0 0 ([])) (.exit 0) ⟨[(1,(.ptr ⟨(1,0,0),[],0,0,8⟩)),(2,(.ptr ⟨(2,0,0),[],0,0,8⟩)),(3,(.one (.ref ⟨(3,0,0),[],0,(length (map d_R w0_2))⟩))),(16,(.one (.bor l0_3 (map b_R a0.f3)))),(17,(.oi ((length (map b_R a0.f3)):Int))),(18,(.oi w1_2)),(19,(.one (.val (.bool w2_2))))],[((1,0,0),.live ⟨8,[[(.i a0.f0),(.i a0.f1),(.own 2 (map d_si a0.f2)),(.bor l0_3 (map b_R a0.f3)),(.own 2 (map d_si a0.f4)),(.i a0.f5),(.i a0.f6),(.i a0.f7)]],[]⟩),((2,0,0),.live ⟨8,[[(.i 0),(.i 0),(.own 2 []),(.own 5 []),(.own 2 []),(.i 0),(.i 0),(.i 0)]],[]⟩),((3,0,0),.live ⟨5,(map d_R w0_2),[]⟩)]⟩):=(by have t:Ev F X (.code l91_0 (h91_0 l0_2 l0_3 l0_4 a0 0 ([])) (ex91_0 (r91_0 a0 a0.f3 0 ([]))) (fin91_0 l0_2 l0_3 l0_4 a0 (r91_0 a0 a0.f3 0 ([])))):=t91_0 (l0_2:=l0_2) (l0_3:=l0_3) (l0_4:=l0_4) (a0:=a0) (by assumption) (by assumption) (by assumption) (by assumption) (by assumption) a0.f3 [] ([]) rfl (by simp only[length_map,length_set,length_append,length_replicate,length_cons,length_nil]; omega); rw[h0] at t; exact t)
    exact cp (by kernel_rfl) (.r 9 [] [] f0 (.r 15 [] [] f1 (pe 0 (pe (length (map d_si a0.f2)) (pe 0 (pe (length (map d_si a0.f4)) (.f f6 (.f f7 (pe 0 (pe (length (map d_R w0_2)) (pe 0 (pe (length (map d_si a0.f2)) (pe 0 (pe (length (map d_R w0_2)) (pe 0 (pe (length (map d_si a0.f4)) (.f (pureR_si a0.f2) (.f (pureR_R w0_2) (.f (pureR_si a0.f4) (.h 36 (.loop (h91_0 l0_2 l0_3 l0_4 a0 0 ([])) (.exit 0) ⟨[(1,(.ptr ⟨(1,0,0),[],0,0,8⟩)),(2,(.ptr ⟨(2,0,0),[],0,0,8⟩)),(3,(.one (.ref ⟨(3,0,0),[],0,(length (map d_R w0_2))⟩))),(16,(.one (.bor l0_3 (map b_R a0.f3)))),(17,(.one (.val (.int .i64 ((length (map b_R a0.f3)):Int))))),(18,(.one (.val (.int .i64 w1_2)))),(19,(.one (.val (.bool w2_2))))],[((1,0,0),.live ⟨8,[[(.val (.int .i64 a0.f0)),(.val (.int .i64 a0.f1)),(.own 2 (map d_si a0.f2)),(.bor l0_3 (map b_R a0.f3)),(.own 2 (map d_si a0.f4)),(.val (.int .i64 a0.f5)),(.val (.int .i64 a0.f6)),(.val (.int .i64 a0.f7))]],[]⟩),((2,0,0),.live ⟨8,[[(.val (.int .i64 0)),(.val (.int .i64 0)),(.own 2 []),(.own 5 []),(.own 2 []),(.val (.int .i64 0)),(.val (.int .i64 0)),(.val (.int .i64 0))]],[]⟩),((3,0,0),.live ⟨5,(map d_R w0_2),[]⟩)]⟩) .nil))))))))))))))))))))
theorem cl91 (a0:K_B):∀(l:List K_R) (i:Int) (v:List K_R),∃j b,r91_0 a0 l i v=.k0 (v++l) j b
  |[],i,v=>⟨_,_,by rw[List.append_nil]; rfl⟩
  |x::l,i,v=>by
    obtain⟨j,b,h⟩:=cl91 a0 l (i+1) (v++ [x])
    refine⟨j,b,?_⟩
    simp only[r91_0]
    rw[show v++x::l=(v++ [x])++l by simp,← h]
theorem cp91 (a0:K_B):m91 a0=a0:=by
  unfold m91
  obtain⟨j,b,h⟩:=cl91 a0 a0.f3 0 []
  rw[h]; rfl
/-! loop 44_0 -/
inductive O44_0 where
  |k0 (w0:Int) (w1:Int) (w2:Bool)
def r44_0 (a0:(List K_si)) (a1:ByteArray):List K_si→Int→Int→O44_0
  |x0::y0,i,v1=>
    if(x0.f0.toList==a1.toList)=true then(r44_0 a0 a1 y0 (i+1) (wrap .i64 (v1+x0.f1))) else
    (r44_0 a0 a1 y0 (i+1) v1)
  |[],i,v1=>(O44_0.k0 v1 i (decide (i <((length (map b_si a0)):Int))))
def h44_0 (l0_0:Nat) (a0:(List K_si)) (a1:ByteArray) (i:Int) (v1:Int):St:=⟨[(1,(.one (.val (.string a1)))),(5,(.one (.val (.int .i64 v1)))),(8,(.one (.bor l0_0 (map b_si a0)))),(9,(.one (.val (.int .i64 ((length (map b_si a0)):Int))))),(10,(.one (.val (.int .i64 i))))],[]⟩
def ex44_0:O44_0→VX.Exit
  |.k0 _ _ _=>(.exit 0)
def fin44_0 (l0_0:Nat) (a0:(List K_si)) (a1:ByteArray):O44_0→St
  |.k0 w0 w1 w2=>⟨[(1,(.one (.val (.string a1)))),(5,(.one (.val (.int .i64 w0)))),(8,(.one (.bor l0_0 (map b_si a0)))),(9,(.one (.val (.int .i64 ((length (map b_si a0)):Int))))),(10,(.one (.val (.int .i64 w1)))),(11,(.one (.val (.bool w2))))],[]⟩
theorem t44_0 {l0_0:Nat} {a0:(List K_si)} {a1:ByteArray} (hy0:length a0*24≤140737488351232):∀(y0:List K_si) (p:List K_si) (v1:Int),p++y0=a0→Ev F X (.code l44_0 (h44_0 l0_0 a0 a1 (length p:Int) v1) (ex44_0 (r44_0 a0 a1 y0 (length p:Int) v1)) (fin44_0 l0_0 a0 a1 (r44_0 a0 a1 y0 (length p:Int) v1)))
  |[],p,v1,hp0=>by
    have hc:¬(decide ((length p:Int) <((length (map b_si a0)):Int)))=true:=by
      rw[← hp0]; simp only[length_map,length_set,length_append,length_replicate,length_cons,length_nil,decide_eq_true_eq]; omega
    have st:=ch b44_0 (h44_0 l0_0 a0 a1 (length p:Int) v1) ⟨[(1,(.one (.val (.string a1)))),(5,(.oi v1)),(8,(.one (.bor l0_0 (map b_si a0)))),(9,(.oi ((length (map b_si a0)):Int))),(10,(.oi (length p:Int))),(11,(.one (.val (.bool (decide ((length p:Int) <((length (map b_si a0)):Int)))))))],[]⟩ (.exit 0) 3 (by kernel_rfl) (.f (nt hc) (.h 2 (.b false) .nil))
    rw[show (⟨[(1,(.one (.val (.string a1)))),(5,(.oi v1)),(8,(.one (.bor l0_0 (map b_si a0)))),(9,(.oi ((length (map b_si a0)):Int))),(10,(.oi (length p:Int))),(11,(.one (.val (.bool (decide ((length p:Int) <((length (map b_si a0)):Int)))))))],[]⟩:St)=fin44_0 l0_0 a0 a1 (.k0 v1 (length p:Int) (decide ((length p:Int) <((length (map b_si a0)):Int)))) from(by rfl)] at st
    exact .loopX st (show ((.exit 0):VX.Exit)≠.normal from by simp)
  |x0::y0,p,v1,hp0=>by
    have hc:(decide ((length p:Int) <((length (map b_si a0)):Int)))=true:=by
      rw[← hp0]; simp only[length_map,length_set,length_append,length_replicate,length_cons,length_nil,decide_eq_true_eq]; omega
    have Hx0:(a0)[toNat (length p:Int)]?=some x0:=by
      rw[← hp0,Int.toNat_natCast]; simp
    have hlen:length (a0)=length p+length y0+1:=by rw[← hp0]; simp; omega
    have hw:wrap .i64 ((length p:Int)+1)=(length p:Int)+1:=wrap64 (by omega)
    simp only[r44_0]
    have f1:0≤(length p:Int):=(by omega)
    have f2:(map b_si a0)[(toNat (length p:Int))]?=some (b_si x0):=(by rw[getElem?_map,Hx0]; rfl)
    have P1 {hs q} (r:PS F X hs q):=(PS.f hc (.f f1 (.f f2 (.h 2 (.b true) (.h 4 (.row (b_si x0)) r)))))
    by_cases h_1:(x0.f0.toList==a1.toList)=true
    · try simp only[if_pos h_1]
      have st:=ch b44_0 (h44_0 l0_0 a0 a1 (length p:Int) v1) ⟨[(1,(.one (.val (.string a1)))),(5,(.oi (wrap .i64 (v1+x0.f1)))),(8,(.one (.bor l0_0 (map b_si a0)))),(9,(.oi ((length (map b_si a0)):Int))),(10,(.oi (wrap .i64 ((length p:Int)+1))))],[]⟩ .normal 34 (by kernel_rfl) (P1 (.f h_1 (.f trivial (.f trivial (.h 19 (.b true) .nil)))))
      have ih:=t44_0 (l0_0:=l0_0) (a0:=a0) (a1:=a1) hy0 y0 (p++ [x0]) (wrap .i64 (v1+x0.f1)) (by rw[append_assoc]; exact hp0)
      rw[show ((p++ [x0]).length:Int)=(p.length:Int)+1 from by simp] at ih
      rw[show (⟨[(1,(.one (.val (.string a1)))),(5,(.oi (wrap .i64 (v1+x0.f1)))),(8,(.one (.bor l0_0 (map b_si a0)))),(9,(.oi ((length (map b_si a0)):Int))),(10,(.oi (wrap .i64 ((length p:Int)+1))))],[]⟩:St)=h44_0 l0_0 a0 a1 ((length p:Int)+1) (wrap .i64 (v1+x0.f1)) from(by unfold h44_0; simp only[hw]; done)] at st
      exact .loopN st ih
    · try simp only[if_neg h_1]
      have st:=ch b44_0 (h44_0 l0_0 a0 a1 (length p:Int) v1) ⟨[(1,(.one (.val (.string a1)))),(5,(.oi v1)),(8,(.one (.bor l0_0 (map b_si a0)))),(9,(.oi ((length (map b_si a0)):Int))),(10,(.oi (wrap .i64 ((length p:Int)+1))))],[]⟩ .normal 24 (by kernel_rfl) (P1 (.f (nt h_1) (.f trivial (.h 19 (.b false) .nil))))
      have ih:=t44_0 (l0_0:=l0_0) (a0:=a0) (a1:=a1) hy0 y0 (p++ [x0]) v1 (by rw[append_assoc]; exact hp0)
      rw[show ((p++ [x0]).length:Int)=(p.length:Int)+1 from by simp] at ih
      rw[show (⟨[(1,(.one (.val (.string a1)))),(5,(.oi v1)),(8,(.one (.bor l0_0 (map b_si a0)))),(9,(.oi ((length (map b_si a0)):Int))),(10,(.oi (wrap .i64 ((length p:Int)+1))))],[]⟩:St)=h44_0 l0_0 a0 a1 ((length p:Int)+1) v1 from(by unfold h44_0; simp only[hw]; done)] at st
      exact .loopN st ih
/-! loop.example/g00539/impl.amountOf -/
def m44 (a0:(List K_si)) (a1:ByteArray):Int:=
  (match r44_0 a0 a1 a0 0 0 with | .k0 w0_0 w1_0 w2_0=>w0_0)
theorem e44 {l0_0:Nat} {a0:(List K_si)} {a1:ByteArray} (hy0:length a0*24≤140737488351232):Ev F X (.call 44 [(.one (.bor l0_0 (map b_si a0))),(.one (.val (.string a1)))] [] [] [(.one (.val (.int .i64 (m44 a0 a1))))]):=by
  unfold m44
  cases h0:r44_0 a0 a1 a0 0 0 with
  |k0 w0_0 w1_0 w2_0=>
    try dsimp only
    have f0:(⟨[(1,(.one (.val (.string a1)))),(5,(.oi 0)),(8,(.one (.bor l0_0 (map b_si a0)))),(9,(.oi ((length (map b_si a0)):Int))),(10,(.oi 0))],[]⟩:St)=h44_0 l0_0 a0 a1 0 0:=(by rfl)
    have f1:Ev F X (.code l44_0 (h44_0 l0_0 a0 a1 0 0) (.exit 0) ⟨[(1,(.one (.val (.string a1)))),(5,(.oi w0_0)),(8,(.one (.bor l0_0 (map b_si a0)))),(9,(.oi ((length (map b_si a0)):Int))),(10,(.oi w1_0)),(11,(.one (.val (.bool w2_0))))],[]⟩):=(by have t:Ev F X (.code l44_0 (h44_0 l0_0 a0 a1 0 0) (ex44_0 (r44_0 a0 a1 a0 0 0)) (fin44_0 l0_0 a0 a1 (r44_0 a0 a1 a0 0 0))):=t44_0 (l0_0:=l0_0) (a0:=a0) (a1:=a1) (by assumption) a0 [] 0 rfl; rw[h0] at t; exact t)
    exact cp (by kernel_rfl) (.f f0 (.f f1 (.h 10 (.loop (h44_0 l0_0 a0 a1 0 0) (.exit 0) ⟨[(1,(.one (.val (.string a1)))),(5,(.one (.val (.int .i64 w0_0)))),(8,(.one (.bor l0_0 (map b_si a0)))),(9,(.one (.val (.int .i64 ((length (map b_si a0)):Int))))),(10,(.one (.val (.int .i64 w1_0)))),(11,(.one (.val (.bool w2_0))))],[]⟩) .nil)))
theorem al44 (a:List K_si) (w:ByteArray):∀(l:List K_si) (i j v:Int),(match r44_0 a w l i v with | .k0 z _ _=>z)=v∨(∃z,r1009200_0 a w l j=.k1 z∧j≤z)
  |[],i,j,v=>.inl rfl
  |y::l,i,j,v=>by
    have ih:=al44 a w l (i+1) (j+1) v
    simp only[r44_0,r1009200_0]
    by_cases c:(y.f0.toList==w.toList)=true
    · simp only[if_pos c]; exact .inr ⟨_,rfl,Int.le_refl _⟩
    · simp only[if_neg c]
      rcases ih with h |⟨z,h1,h2⟩
      · exact .inl h
      · exact .inr ⟨z,h1,by omega⟩
theorem am44 {a:List K_si} {w:ByteArray} (h:¬((m44 a w)==0)=true):0≤m1009200 a w:=by
  rcases al44 a w a 0 0 0 with h1 |⟨z,h1,h2⟩
  · exact absurd (show ((m44 a w)==0)=true by rw[show m44 a w=0 from h1]; rfl) h
  · unfold m1009200; rw[h1]; exact h2
/-! loop.example/g00539/impl.PayWorker$1 -/
def o1004300_0 (a0:K_B) (a101001:ByteArray) (a102001:Int):K_B:=
  if((m44 a0.f4 a101001)==0)=true then a0 else
  if(!(m45 a102001 1 (m44 a0.f4 a101001)))=true then a0 else
    if(!(m45 (wrap .i64 (a0.f5+a102001)) 0 1000000))=true then a0 else
      (K_B.mk a0.f0 a0.f1 a0.f2 a0.f3 (set a0.f4 (toNat (m1009200 a0.f4 a101001)) (K_si.mk ((getD a0.f4 (toNat (m1009200 a0.f4 a101001)) (K_si.mk (⟨#[]⟩:ByteArray) 0)).f0) (wrap .i64 (((getD a0.f4 (toNat (m1009200 a0.f4 a101001)) (K_si.mk (⟨#[]⟩:ByteArray) 0)).f1) - a102001)))) (wrap .i64 (a0.f5+a102001)) a0.f6 a0.f7)
def m1004300 (a0:K_B) (a101001:ByteArray) (a102001:Int):Int:=
  if((m44 a0.f4 a101001)==0)=true then 4 else
  if(!(m45 a102001 1 (m44 a0.f4 a101001)))=true then 3 else
    if(!(m45 (wrap .i64 (a0.f5+a102001)) 0 1000000))=true then 7 else
      0
theorem e1004300 {a0:K_B} {l101000:Nat} {a101001:ByteArray} {l102000:Nat} {a102001:Int} (hy0:length a0.f2≤100) (hy1:length a0.f3≤100) (hy2:∀z∈a0.f3,length z.f3≤100) (hy3:length a0.f4≤100) (hy4:∀z∈a0.f3,ok_R z):Ev F X (.call 43 [(.ptr ⟨(0,0,0),[],0,0,8⟩),(.bptr l101000 [(.val (.string a101001))]),(.bptr l102000 [(.val (.int .i64 a102001))])] [((0,0,0),⟨8,[(d_B a0)],[]⟩)] [[(d_B (o1004300_0 a0 a101001 a102001))]] [(.one (.val (.int .i64 (m1004300 a0 a101001 a102001))))]):=by
  unfold m1004300 o1004300_0
  have P0 {hs q} (r:PS F X hs q):=(ln_si a0.f4 (.r 13 [] [(map b_si a0.f4)] (e44 (l0_0:=0) (a0:=a0.f4) (a1:=a101001) (by omega)) r))
  by_cases h0:((m44 a0.f4 a101001)==0)=true
  · try simp only[if_pos h0]
    exact cq [false] (by kernel_rfl) (P0 (.f h0 (.f (pureR_si a0.f2) (.f (pureR_R a0.f3) (.f (pureR_si a0.f4) (.h 22 (.b true) .nil))))))
  · try simp only[if_neg h0]
    have P1 {hs q} (r:PS F X hs q):=(P0 (.f (nt h0) (.h 22 (.b false) (.r 28 [] [] (e45 (a0:=a102001) (a1:=1) (a2:=(m44 a0.f4 a101001))) r))))
    by_cases h1:(!(m45 a102001 1 (m44 a0.f4 a101001)))=true
    · try simp only[if_pos h1]
      exact cq [false] (by kernel_rfl) (P1 (.f h1 (.f (pureR_si a0.f2) (.f (pureR_R a0.f3) (.f (pureR_si a0.f4) (.h 33 (.b true) .nil))))))
    · try simp only[if_neg h1]
      have P2 {hs q} (r:PS F X hs q):=(P1 (.f (nt h1) (.f trivial (.h 33 (.b false) (.r 47 [] [] (e46 (a0:=(wrap .i64 (a0.f5+a102001)))) r)))))
      by_cases h2:(!(m45 (wrap .i64 (a0.f5+a102001)) 0 1000000))=true
      · try simp only[if_pos h2]
        exact cq [false] (by kernel_rfl) (P2 (.f h2 (.f (pureR_si a0.f2) (.f (pureR_R a0.f3) (.f (pureR_si a0.f4) (.h 52 (.b true) .nil))))))
      · try simp only[if_neg h2]
        have f14:0+(length (map d_si a0.f4))≤(length (map d_si a0.f4)):=(by omega)
        have f15:0≤(m1009200 a0.f4 a101001)∧(m1009200 a0.f4 a101001) <((length (map d_si a0.f4)):Int):=(by have q:=ix1009200 a0.f4 a101001; have q2:=am44 (a:=a0.f4) (w:=a101001) (by with_reducible assumption); simp only[decide_eq_true_eq,length_map] at*; omega)
        have f16:(map d_si a0.f4)[(0+(toNat (m1009200 a0.f4 a101001)))]?=some (d_si (getD a0.f4 (toNat (m1009200 a0.f4 a101001)) (K_si.mk (⟨#[]⟩:ByteArray) 0))):=(by rw[Nat.zero_add,getElem?_map,getD_at a0.f4 (toNat (m1009200 a0.f4 a101001)) (K_si.mk (⟨#[]⟩:ByteArray) 0) (by first | exact True.intro | with_reducible rfl | with_reducible assumption | omega |(have q:=ix1009200 a0.f4 a101001; have q2:=am44 (a:=a0.f4) (w:=a101001) (by with_reducible assumption); simp only[decide_eq_true_eq,length_map] at*; omega) |(have q:=ix1009200 a0.f4 a101001; simp only[decide_eq_true_eq,length_map] at*; omega) |(unfold m1009200;(repeat' split)<;>simp_all<;>omega) |(simp only[decide_eq_true_eq] at*; omega) |(simp only[length_map]; omega) |(simp; omega) |(simp[take_of_length_le]; done) | assumption | trivial |(simp[*,byteRows_eq,ints_y]; done))]; rfl)
        have f20:([[(.val (.int .i64 a0.f0)),(.val (.int .i64 a0.f1)),(.own 2 (map d_si a0.f2)),(.own 5 (map d_R a0.f3)),(.own 2 (set (map d_si a0.f4) (0+(toNat (m1009200 a0.f4 a101001))) [(.val (.string ((getD a0.f4 (toNat (m1009200 a0.f4 a101001)) (K_si.mk (⟨#[]⟩:ByteArray) 0)).f0))),(.val (.int .i64 (wrap .i64 (((getD a0.f4 (toNat (m1009200 a0.f4 a101001)) (K_si.mk (⟨#[]⟩:ByteArray) 0)).f1) - a102001))))])),(.val (.int .i64 a0.f5)),(.val (.int .i64 a0.f6)),(.val (.int .i64 a0.f7))]]:List (List D))=[[(.val (.int .i64 a0.f0)),(.val (.int .i64 a0.f1)),(.own 2 (map d_si a0.f2)),(.own 5 (map d_R a0.f3)),(.own 2 (map d_si (set a0.f4 (toNat (m1009200 a0.f4 a101001)) (K_si.mk ((getD a0.f4 (toNat (m1009200 a0.f4 a101001)) (K_si.mk (⟨#[]⟩:ByteArray) 0)).f0) (wrap .i64 (((getD a0.f4 (toNat (m1009200 a0.f4 a101001)) (K_si.mk (⟨#[]⟩:ByteArray) 0)).f1) - a102001)))))),(.val (.int .i64 a0.f5)),(.val (.int .i64 a0.f6)),(.val (.int .i64 a0.f7))]]:=(by simp[byteRows_eq,ints_y,take_of_length_le,d_y,d_LyE,d_b,d_si,d_R,d_B,d_s,d_i,d_C,d_ii,d_LyEi,d_LiE,d_LsiE,d_iLsiE,d_Q,fromBR_y,fromBR_b,fromBR_si,fromBR_s,fromBR_i,fromBR_ii]; done)
        exact cq [false] (by kernel_rfl) (P2 (.f (nt h2) (ln_si a0.f4 (.h 52 (.b false) (.r 72 [] [(map b_si a0.f4)] (e47 (l0_0:=0) (a0:=a0.f4) (a1:=a101001) (by omega)) (.f f14 (.f f15 (.f f16 (.f f14 (.f f15 (.f f16 (.f f20 (.f trivial (.f (pureR_si a0.f2) (.f (pureR_R a0.f3) (.f (pureR_si (set a0.f4 (toNat (m1009200 a0.f4 a101001)) (K_si.mk ((getD a0.f4 (toNat (m1009200 a0.f4 a101001)) (K_si.mk (⟨#[]⟩:ByteArray) 0)).f0) (wrap .i64 (((getD a0.f4 (toNat (m1009200 a0.f4 a101001)) (K_si.mk (⟨#[]⟩:ByteArray) 0)).f1) - a102001))))) (.h 78 (.rowD (d_si (getD a0.f4 (toNat (m1009200 a0.f4 a101001)) (K_si.mk (⟨#[]⟩:ByteArray) 0)))) (.h 88 (.rowD (d_si (getD a0.f4 (toNat (m1009200 a0.f4 a101001)) (K_si.mk (⟨#[]⟩:ByteArray) 0)))) (.h 89 (.norm (0,0,0) [[(.val (.int .i64 a0.f0)),(.val (.int .i64 a0.f1)),(.own 2 (map d_si a0.f2)),(.own 5 (map d_R a0.f3)),(.own 2 (map d_si (set a0.f4 (toNat (m1009200 a0.f4 a101001)) (K_si.mk ((getD a0.f4 (toNat (m1009200 a0.f4 a101001)) (K_si.mk (⟨#[]⟩:ByteArray) 0)).f0) (wrap .i64 (((getD a0.f4 (toNat (m1009200 a0.f4 a101001)) (K_si.mk (⟨#[]⟩:ByteArray) 0)).f1) - a102001)))))),(.val (.int .i64 a0.f5)),(.val (.int .i64 a0.f6)),(.val (.int .i64 a0.f7))]]) .nil)))))))))))))))))))
/-! loop.example/g00539/impl.changed -/
def m1004200 (a0:K_B) (a2001:ByteArray) (a2003:Int):K_C:=
  if((m13 a0) !=0)=true then(K_C.mk (m13 a0) 0 0 0 [] [] [] 0 0 0) else
  if((m1004300 (m91 a0) a2001 a2003) !=0)=true then(K_C.mk (m1004300 (m91 a0) a2001 a2003) 0 0 0 [] [] [] 0 0 0) else
    (K_C.mk 0 0 ((o1004300_0 (m91 a0) a2001 a2003).f0) ((o1004300_0 (m91 a0) a2001 a2003).f1) ((o1004300_0 (m91 a0) a2001 a2003).f2) ((o1004300_0 (m91 a0) a2001 a2003).f3) ((o1004300_0 (m91 a0) a2001 a2003).f4) ((o1004300_0 (m91 a0) a2001 a2003).f5) ((o1004300_0 (m91 a0) a2001 a2003).f6) ((o1004300_0 (m91 a0) a2001 a2003).f7))
theorem e1004200 {l0_2:Nat} {l0_3:Nat} {l0_4:Nat} {a0:K_B} {l2000:Nat} {a2001:ByteArray} {l2002:Nat} {a2003:Int} (hy0:length a0.f2*24≤140737488351232) (hy1:length a0.f3*56≤140737488351232) (hy2:∀z∈a0.f3,ok_R z) (hy3:length a0.f4*24≤140737488351232):Ev F X (.call 42 [(.agg (k_B l0_2 l0_3 l0_4 a0)),(.clo 43 [] [(.bptr l2000 [(.val (.string a2001))]),(.bptr l2002 [(.val (.int .i64 a2003))])])] [] [] [(.agg (d_C (m1004200 a0 a2001 a2003)))]):=by
  unfold m1004200
  have P0 {hs q} (r:PS F X hs q):=(PS.r 7 [] [] (e13 (l0_2:=(l0_2+1)) (l0_3:=(l0_3+1)) (l0_4:=(l0_4+1)) (a0:=a0) (by with_reducible assumption) (by with_reducible assumption) (by with_reducible assumption) (by with_reducible assumption)) r)
  by_cases h0:((m13 a0) !=0)=true
  · try simp only[if_pos h0]
    have f2:pureR []=true:=(by trivial)
    exact cp (by kernel_rfl) (P0 (.f h0 (.f f2 (.f f2 (.f f2 (.h 14 (.b true) .nil))))))
  · try simp only[if_neg h0]
    have P1 {hs q} (r:PS F X hs q):=(P0 (.f (nt h0) (.h 14 (.b false) (.r 18 [] [] (e91 (l0_2:=(l0_2+1)) (l0_3:=(l0_3+1)) (l0_4:=(l0_4+1)) (a0:=a0) (by have q:=fs13 (a0:=a0) (by with_reducible assumption); omega) (by have q:=fs13 (a0:=a0) (by with_reducible assumption); omega) (by have q:=fs13 (a0:=a0) (by with_reducible assumption); intro z hz; have q2:=q.2.2.1 z hz; omega) (by have q:=fs13 (a0:=a0) (by with_reducible assumption); omega) (by with_reducible assumption)) (pe 0 (pe (length (map d_si ((m91 a0).f2))) (pe 0 (pe (length (map d_R ((m91 a0).f3))) (pe 0 (pe (length (map d_si ((m91 a0).f4))) (.f (pureR_si ((m91 a0).f2)) (.f (pureR_R ((m91 a0).f3)) (.f (pureR_si ((m91 a0).f4)) (.r 26 [false] [] (e1004300 (l101000:=(l2000+1)) (l102000:=(l2002+1)) (a0:=(m91 a0)) (a101001:=a2001) (a102001:=a2003) (by rw[cp91]; have q:=fs13 (a0:=a0) (by with_reducible assumption); omega) (by rw[cp91]; have q:=fs13 (a0:=a0) (by with_reducible assumption); omega) (by rw[cp91]; have q:=fs13 (a0:=a0) (by with_reducible assumption); intro z hz; have q2:=q.2.2.1 z hz; omega) (by rw[cp91]; have q:=fs13 (a0:=a0) (by with_reducible assumption); omega) (by rw[cp91]; assumption)) r))))))))))))))
    by_cases h1:((m1004300 (m91 a0) a2001 a2003) !=0)=true
    · try simp only[if_pos h1]
      have f14:pureR []=true:=(by trivial)
      exact cp (by kernel_rfl) (P1 (.f h1 (.f f14 (.f f14 (.f f14 (.h 33 (.b true) .nil))))))
    · try simp only[if_neg h1]
      exact cp (by kernel_rfl) (P1 (.f (nt h1) (pe 0 (pe (length (map d_si ((o1004300_0 (m91 a0) a2001 a2003).f2))) (pe 0 (pe (length (map d_R ((o1004300_0 (m91 a0) a2001 a2003).f3))) (pe 0 (pe (length (map d_si ((o1004300_0 (m91 a0) a2001 a2003).f4))) (.f (pureR_si ((o1004300_0 (m91 a0) a2001 a2003).f2)) (.f (pureR_R ((o1004300_0 (m91 a0) a2001 a2003).f3)) (.f (pureR_si ((o1004300_0 (m91 a0) a2001 a2003).f4)) (.h 33 (.b false) .nil))))))))))))
theorem okm1004200 (a0:K_B) (a2001:ByteArray) (a2003:Int):ok_C (m1004200 a0 a2001 a2003):=by
  unfold m1004200
  split
  · simp[ok_LyE,ok_R,ok_B,ok_C,ok_LyEi,ok_LiE,ok_LsiE,ok_iLsiE,ok_Q]
  · rename_i h
    obtain⟨q1,q2,q3,q4⟩:=fs13 h
    simp only[cp91]
    split
    · simp[ok_LyE,ok_R,ok_B,ok_C,ok_LyEi,ok_LiE,ok_LsiE,ok_iLsiE,ok_Q]
    · unfold o1004300_0
      (repeat' split)<;>simp only[ok_LyE,ok_R,ok_B,ok_C,ok_LyEi,ok_LiE,ok_LsiE,ok_iLsiE,ok_Q]<;>first |(refine⟨?_,?_,?_,?_⟩<;>(simp; done)) |(refine⟨?_,?_,?_,?_⟩<;>first | omega |(simp only[length_set,length_append,length_cons,length_nil,length_take,length_drop]; omega) | exact oall q3 | exact oset q3 (oget q3 _) | exact oset q3 (by simp) | exact oapp q3 (by simp))
/-! loop.example/g00539/impl.PayWorker -/
def m8 (a0:K_B) (a1:ByteArray) (a2:Int):K_C:=
  (m1004200 a0 a1 a2)
theorem e8 {l0_2:Nat} {l0_3:Nat} {l0_4:Nat} {a0:K_B} {a1:ByteArray} {a2:Int} (hy0:length a0.f2*24≤140737488351232) (hy1:length a0.f3*56≤140737488351232) (hy2:∀z∈a0.f3,ok_R z) (hy3:length a0.f4*24≤140737488351232):Ev F X (.call 8 [(.agg (k_B l0_2 l0_3 l0_4 a0)),(.one (.val (.string a1))),(.one (.val (.int .i64 a2)))] [] [] [(.agg (d_C (m1004200 a0 a1 a2)))]):=by
  have f0:fullL [(.val (.string a1))]=true:=(by trivial)
  have f1:fullL [(.val (.int .i64 a2))]=true:=(by assumption)
  have f2:Ev F X (.call 42 [(.agg (k_B (l0_2+1) (l0_3+1) (l0_4+1) a0)),(.clo 43 [] [(.bptr 0 [(.val (.string a1))]),(.bptr 0 [(.i a2)])])] [] [] [(.agg (d_C (m1004200 a0 a1 a2)))]):=(e1004200 (a0:=a0) (a2001:=a1) (a2003:=a2) (by with_reducible assumption) (by with_reducible assumption) (by with_reducible assumption) (by with_reducible assumption))
  exact cp (by kernel_rfl) (.f f0 (.f f1 (.r 13 [] [] f2 (pe 0 (pe (length (map d_si ((m1004200 a0 a1 a2).f4))) (pe 0 (pe (length (map d_R ((m1004200 a0 a1 a2).f5))) (pe 0 (pe (length (map d_si ((m1004200 a0 a1 a2).f6))) (.f (pureR_si ((m1004200 a0 a1 a2).f4)) (.f (pureR_R ((m1004200 a0 a1 a2).f5)) (.f (pureR_si ((m1004200 a0 a1 a2).f6)) .nil))))))))))))
/-! loop.example/g00539/spec.DrawCreditShare -/
def m9_0 (a0:(List Int)):K_B:=
  (m39 (m38 a0))
def m9_1 (a0:(List Int)):K_si:=
  (K_si.mk (getD ([(⟨#[98,111,98]⟩:ByteArray),(⟨#[97,110,110]⟩:ByteArray),(⟨#[]⟩:ByteArray)]) (toNat (m48 (K_LyEi.mk ((m38 a0).f0) ((o39_0 (m38 a0)).f1)) 3)) (⟨#[]⟩:ByteArray)) (m41 (K_LyEi.mk ((m38 a0).f0) ((o48_0 (K_LyEi.mk ((m38 a0).f0) ((o39_0 (m38 a0)).f1)) 3).f1)) [1,5,0]))
theorem e9 {l0_0:Nat} {a0:(List Int)} (hy0:∀z∈a0,(0:Int)≤z∧z≤255) (hy1:length a0≤140737488351232):Ev F X (.call 9 [(.one (.bor l0_0 (map b_y a0)))] [] [] [(.agg (d_B (m9_0 a0))),(.agg [(.val (.string ((m9_1 a0).f0))),(.val (.int .i64 ((m9_1 a0).f1)))])]):=by
  have f0:Ev F X (.call 38 [(.one (.bor (l0_0+1) (map b_y a0)))] [] [] [(.ptr [(.bor l0_0 (map b_y ((m38 a0).f0))),(.i ((m38 a0).f1))])]):=(e38 (a0:=a0))
  have f1:Ev F X (.call 39 [(.ptr ⟨(0,0,0),[],0,0,2⟩)] [((0,0,0),⟨2,[[(.bor (l0_0+1) (map b_y ((m38 a0).f0))),(.i ((m38 a0).f1))]],[]⟩)] [[[(.bor l0_0 (map b_y ((m38 a0).f0))),(.i ((o39_0 (m38 a0)).f1))]]] [(.agg (d_B (m39 (m38 a0))))]):=(e39 (a0:=(m38 a0)) (by (repeat (first | with_reducible refine sm39 ?_ rfl | with_reducible refine sm90 ?_ rfl | with_reducible refine sm89 ?_ rfl | with_reducible refine sm136 ?_ rfl | with_reducible refine sm41 _ ?_ rfl | with_reducible refine sm48 _ ?_ rfl | with_reducible refine sm40 ?_ rfl)); exact S_le (S_src a0 (by assumption) (by assumption)) (by omega)))
  have f2:Ev F X (.call 48 [(.ptr ⟨(0,0,0),[],0,0,2⟩),(.oi 3)] [((0,0,0),⟨2,[[(.bor (l0_0+1) (map b_y ((m38 a0).f0))),(.i ((o39_0 (m38 a0)).f1))]],[]⟩)] [[[(.bor l0_0 (map b_y ((m38 a0).f0))),(.i ((o48_0 (K_LyEi.mk ((m38 a0).f0) ((o39_0 (m38 a0)).f1)) 3).f1))]]] [(.oi (m48 (K_LyEi.mk ((m38 a0).f0) ((o39_0 (m38 a0)).f1)) 3))]):=(e48 (a0:=(K_LyEi.mk ((m38 a0).f0) ((o39_0 (m38 a0)).f1))) (a1:=3) (by (repeat (first | with_reducible refine sm39 ?_ rfl | with_reducible refine sm90 ?_ rfl | with_reducible refine sm89 ?_ rfl | with_reducible refine sm136 ?_ rfl | with_reducible refine sm41 _ ?_ rfl | with_reducible refine sm48 _ ?_ rfl | with_reducible refine sm40 ?_ rfl)); exact S_le (S_src a0 (by assumption) (by assumption)) (by omega)))
  have f3:3≤3:=(by omega)
  have f4:0≤(m48 (K_LyEi.mk ((m38 a0).f0) ((o39_0 (m38 a0)).f1)) 3)∧(m48 (K_LyEi.mk ((m38 a0).f0) ((o39_0 (m38 a0)).f1)) 3) <(3:Int):=(by exact rng _ _ (by (repeat (first | with_reducible refine sm39 ?_ rfl | with_reducible refine sm90 ?_ rfl | with_reducible refine sm89 ?_ rfl | with_reducible refine sm136 ?_ rfl | with_reducible refine sm41 _ ?_ rfl | with_reducible refine sm48 _ ?_ rfl | with_reducible refine sm40 ?_ rfl)); exact S_le (S_src a0 (by assumption) (by assumption)) (by omega)) (by omega) (by omega))
  have f5:([[(.val (.string (⟨#[98,111,98]⟩:ByteArray)))],[(.val (.string (⟨#[97,110,110]⟩:ByteArray)))],[(.val (.string (⟨#[]⟩:ByteArray)))]]:List (List D))[(0+(toNat (m48 (K_LyEi.mk ((m38 a0).f0) ((o39_0 (m38 a0)).f1)) 3)))]?=some [(.val (.string (getD ([(⟨#[98,111,98]⟩:ByteArray),(⟨#[97,110,110]⟩:ByteArray),(⟨#[]⟩:ByteArray)]) (toNat (m48 (K_LyEi.mk ((m38 a0).f0) ((o39_0 (m38 a0)).f1)) 3)) (⟨#[]⟩:ByteArray))))]:=(show (map d_s [(⟨#[98,111,98]⟩:ByteArray),(⟨#[97,110,110]⟩:ByteArray),(⟨#[]⟩:ByteArray)])[(0+(toNat (m48 (K_LyEi.mk ((m38 a0).f0) ((o39_0 (m38 a0)).f1)) 3)))]?=some [(.val (.string (getD ([(⟨#[98,111,98]⟩:ByteArray),(⟨#[97,110,110]⟩:ByteArray),(⟨#[]⟩:ByteArray)]) (toNat (m48 (K_LyEi.mk ((m38 a0).f0) ((o39_0 (m38 a0)).f1)) 3)) (⟨#[]⟩:ByteArray))))] from(by rw[Nat.zero_add,getElem?_map,getD_at ([(⟨#[98,111,98]⟩:ByteArray),(⟨#[97,110,110]⟩:ByteArray),(⟨#[]⟩:ByteArray)]) (toNat (m48 (K_LyEi.mk ((m38 a0).f0) ((o39_0 (m38 a0)).f1)) 3)) (⟨#[]⟩:ByteArray) (by first | exact True.intro | with_reducible rfl | with_reducible assumption | omega |((repeat (first | with_reducible refine sm39 ?_ rfl | with_reducible refine sm90 ?_ rfl | with_reducible refine sm89 ?_ rfl | with_reducible refine sm136 ?_ rfl | with_reducible refine sm41 _ ?_ rfl | with_reducible refine sm48 _ ?_ rfl | with_reducible refine sm40 ?_ rfl)); exact S_le (S_src a0 (by assumption) (by assumption)) (by omega)) |(simp; done) |(exact rng _ _ (by (repeat (first | with_reducible refine sm39 ?_ rfl | with_reducible refine sm90 ?_ rfl | with_reducible refine sm89 ?_ rfl | with_reducible refine sm136 ?_ rfl | with_reducible refine sm41 _ ?_ rfl | with_reducible refine sm48 _ ?_ rfl | with_reducible refine sm40 ?_ rfl)); exact S_le (S_src a0 (by assumption) (by assumption)) (by omega)) (by omega) (by omega)) |(unfold m48 m38;(repeat' split)<;>simp_all<;>omega) |(simp only[decide_eq_true_eq] at*; omega) |(simp only[length_cons,length_nil]; omega) |(simp; omega) |(simp[take_of_length_le]; done) | assumption | trivial |(simp[*,byteRows_eq,ints_y]; done))]; rfl))
  have f7:fullR (take 3 (drop 0 [[(.val (.int .i64 1))],[(.val (.int .i64 5))],[(.val (.int .i64 0))]]))=true:=(by trivial)
  have f8:toBR (take 3 (drop 0 [[(.val (.int .i64 1))],[(.val (.int .i64 5))],[(.val (.int .i64 0))]]))=[[(.val (.int .i64 1))],[(.val (.int .i64 5))],[(.val (.int .i64 0))]]:=(by trivial)
  have f9:Ev F X (.call 41 [(.ptr ⟨(0,0,0),[],0,0,2⟩),(.one (.bor 0 [[(.i 1)],[(.i 5)],[(.i 0)]]))] [((0,0,0),⟨2,[[(.bor (l0_0+1) (map b_y ((m38 a0).f0))),(.i ((o48_0 (K_LyEi.mk ((m38 a0).f0) ((o39_0 (m38 a0)).f1)) 3).f1))]],[]⟩)] [[[(.bor l0_0 (map b_y ((m38 a0).f0))),(.i ((o41_0 (K_LyEi.mk ((m38 a0).f0) ((o48_0 (K_LyEi.mk ((m38 a0).f0) ((o39_0 (m38 a0)).f1)) 3).f1)) [1,5,0]).f1))]]] [(.oi (m41 (K_LyEi.mk ((m38 a0).f0) ((o48_0 (K_LyEi.mk ((m38 a0).f0) ((o39_0 (m38 a0)).f1)) 3).f1)) [1,5,0]))]):=(e41 (a0:=(K_LyEi.mk ((m38 a0).f0) ((o48_0 (K_LyEi.mk ((m38 a0).f0) ((o39_0 (m38 a0)).f1)) 3).f1))) (a1:=[1,5,0]) (by (repeat (first | with_reducible refine sm39 ?_ rfl | with_reducible refine sm90 ?_ rfl | with_reducible refine sm89 ?_ rfl | with_reducible refine sm136 ?_ rfl | with_reducible refine sm41 _ ?_ rfl | with_reducible refine sm48 _ ?_ rfl | with_reducible refine sm40 ?_ rfl)); exact S_le (S_src a0 (by assumption) (by assumption)) (by omega)) (by simp; done) (by simp; done))
  exact cp (by kernel_rfl) (.r 7 [] [] f0 (.r 13 [false] [] f1 (.r 19 [false] [] f2 (.f f3 (.f f4 (.f f5 (.f f3 (.f f7 (.f f8 (.h 23 (.rowD [(.val (.string (getD ([(⟨#[98,111,98]⟩:ByteArray),(⟨#[97,110,110]⟩:ByteArray),(⟨#[]⟩:ByteArray)]) (toNat (m48 (K_LyEi.mk ((m38 a0).f0) ((o39_0 (m38 a0)).f1)) 3)) (⟨#[]⟩:ByteArray))))]) (.r 29 [false] [[[(.val (.int .i64 1))],[(.val (.int .i64 5))],[(.val (.int .i64 0))]]] f9 (pe 0 (pe (length (map d_si ((m39 (m38 a0)).f2))) (pe 0 (pe (length (map d_R ((m39 (m38 a0)).f3))) (pe 0 (pe (length (map d_si ((m39 (m38 a0)).f4))) (.f (pureR_si ((m39 (m38 a0)).f2)) (.f (pureR_R ((m39 (m38 a0)).f3)) (.f (pureR_si ((m39 (m38 a0)).f4)) .nil))))))))))))))))))))
/-! loop.example/g00539/impl.PushWeight -/
def m50 (a0:(List K_si)) (a1:K_si) (a2:Int):K_iLsiE:=
  if((m55 a0) !=0)=true then(K_iLsiE.mk (m55 a0) []) else
  if((m55 [a1]) !=0)=true then(K_iLsiE.mk (m55 [a1]) []) else
    if(!(m45 a2 1 12))=true then(K_iLsiE.mk 3 []) else
      (K_iLsiE.mk 0 (take (toNat ((length ((take (length (map d_si a0)) (drop 0 (map d_si a0)))++([[(.val (.string a1.f0)),(.val (.int .i64 a1.f1))]]:List (List D)))):Int) - toNat (vmax (wrap .i64 (((length ((take (length (map d_si a0)) (drop 0 (map d_si a0)))++([[(.val (.string a1.f0)),(.val (.int .i64 a1.f1))]]:List (List D)))):Int) - a2)) 0)) (drop (0+(toNat (vmax (wrap .i64 (((length ((take (length (map d_si a0)) (drop 0 (map d_si a0)))++([[(.val (.string a1.f0)),(.val (.int .i64 a1.f1))]]:List (List D)))):Int) - a2)) 0))) (a0++([a1])))))
theorem e50 {l0_0:Nat} {a0:(List K_si)} {a1:K_si} {a2:Int} (hy0:length a0*24≤140737488351232):Ev F X (.call 50 [(.one (.bor l0_0 (map b_si a0))),(.agg [(.val (.string a1.f0)),(.val (.int .i64 a1.f1))]),(.one (.val (.int .i64 a2)))] [] [] [(.agg (d_iLsiE (m50 a0 a1 a2)))]):=by
  unfold m50
  have P0 {hs q} (r:PS F X hs q):=(PS.r 7 [] [] (e55 (l0_0:=(l0_0+1)) (a0:=a0) (by with_reducible assumption)) r)
  by_cases h0:((m55 a0) !=0)=true
  · try simp only[if_pos h0]
    have f2:pureR []=true:=(by trivial)
    exact cp (by kernel_rfl) (P0 (.f h0 (.f f2 (.h 14 (.b true) .nil))))
  · try simp only[if_neg h0]
    have f2:1≤1:=(by omega)
    have f3:fullR (take 1 (drop 0 [[(.val (.string a1.f0)),(.val (.int .i64 a1.f1))]]))=true:=(by trivial)
    have f4:toBR (take 1 (drop 0 [[(.val (.string a1.f0)),(.val (.int .i64 a1.f1))]]))=[[(.val (.string a1.f0)),(.val (.int .i64 a1.f1))]]:=(by trivial)
    have P1 {hs q} (r:PS F X hs q):=(P0 (.f (nt h0) (.f f2 (.f f3 (.f f4 (.h 14 (.b false) (.r 20 [] [[[(.val (.string a1.f0)),(.val (.int .i64 a1.f1))]]] (e55 (l0_0:=0) (a0:=[a1]) (by have q1:=len12_55 a0 (by with_reducible assumption); simp only[length_map,length_append,length_cons,length_nil,length_take,length_drop,Nat.sub_zero,Nat.min_self]; omega)) r)))))))
    by_cases h1:((m55 [a1]) !=0)=true
    · try simp only[if_pos h1]
      have f7:pureR []=true:=(by assumption)
      exact cp (by kernel_rfl) (P1 (.f h1 (.f f7 (.h 27 (.b true) .nil))))
    · try simp only[if_neg h1]
      have P2 {hs q} (r:PS F X hs q):=(P1 (.f (nt h1) (.h 27 (.b false) (.r 31 [] [] (e45 (a0:=a2) (a1:=1) (a2:=12)) r))))
      by_cases h2:(!(m45 a2 1 12))=true
      · try simp only[if_pos h2]
        have f9:pureR []=true:=(by assumption)
        exact cp (by kernel_rfl) (P2 (.f h2 (.f f9 (.h 34 (.b true) .nil))))
      · try simp only[if_neg h2]
        have f9:Ev F X (.call 94 [(.one (.bor (l0_0+1) (map b_si a0)))] [] [] [(.one (.own 2 (map d_si a0)))]):=(e94 (a0:=a0) (by have q:=len12_55 a0 (by assumption); omega))
        have f10:0+(length (map d_si a0))≤(length (map d_si a0)):=(by omega)
        have f12:((take 1 (drop 0 [[(.val (.string a1.f0)),(.val (.int .i64 a1.f1))]])).all fun x=>x.all copyable)=true:=(by assumption)
        have f13:(length ((take (length (map d_si a0)) (drop 0 (map d_si a0)))++([[(.val (.string a1.f0)),(.val (.int .i64 a1.f1))]]:List (List D))))*24≤70368744177664:=(by have q1:=len12_55 a0 (by with_reducible assumption); simp only[length_map,length_append,length_cons,length_nil,length_take,length_drop,Nat.sub_zero,Nat.min_self]; omega)
        have f14:∀r∈([[(.val (.string a1.f0)),(.val (.int .i64 a1.f1))]]:List (List D)),r.length=2:=(by simp; done)
        have f15:((take (length (map d_si a0)) (drop 0 (map d_si a0)))++([[(.val (.string a1.f0)),(.val (.int .i64 a1.f1))]]:List (List D)))=(map d_si (a0++([a1]))):=(by simp[byteRows_eq,ints_y,take_of_length_le,d_y,d_LyE,d_b,d_si,d_R,d_B,d_s,d_i,d_C,d_ii,d_LyEi,d_LiE,d_LsiE,d_iLsiE,d_Q,fromBR_y,fromBR_b,fromBR_si,fromBR_s,fromBR_i,fromBR_ii]; done)
        have f16:0+(length ((take (length (map d_si a0)) (drop 0 (map d_si a0)))++([[(.val (.string a1.f0)),(.val (.int .i64 a1.f1))]]:List (List D))))≤(length (map d_si (a0++([a1])))):=(by simp only[List.drop_zero,tbr,tsi,ly_y,ly0_y,← List.map_append,List.take_length,List.cons_append,List.nil_append,append_assoc]; simp only[length_map,length_append,length_cons,length_nil,strInts_len]; omega)
        have f17:0≤(vmax (wrap .i64 (((length ((take (length (map d_si a0)) (drop 0 (map d_si a0)))++([[(.val (.string a1.f0)),(.val (.int .i64 a1.f1))]]:List (List D)))):Int) - a2)) 0)∧(vmax (wrap .i64 (((length ((take (length (map d_si a0)) (drop 0 (map d_si a0)))++([[(.val (.string a1.f0)),(.val (.int .i64 a1.f1))]]:List (List D)))):Int) - a2)) 0)≤((length ((take (length (map d_si a0)) (drop 0 (map d_si a0)))++([[(.val (.string a1.f0)),(.val (.int .i64 a1.f1))]]:List (List D)))):Int)∧((length ((take (length (map d_si a0)) (drop 0 (map d_si a0)))++([[(.val (.string a1.f0)),(.val (.int .i64 a1.f1))]]:List (List D)))):Int)≤((length ((take (length (map d_si a0)) (drop 0 (map d_si a0)))++([[(.val (.string a1.f0)),(.val (.int .i64 a1.f1))]]:List (List D)))):Int):=(by have q1:=len12_55 a0 (by with_reducible assumption); have q2:=jn45 (a:=a2) (b:=1) (c:=12) (by with_reducible assumption); simp only[length_map,length_append,length_cons,length_nil,length_take,length_drop,Nat.sub_zero,Nat.min_self]; rw[wrap64 (by omega)]; unfold vmax; split<;>omega)
        have f18:(0+(toNat (vmax (wrap .i64 (((length ((take (length (map d_si a0)) (drop 0 (map d_si a0)))++([[(.val (.string a1.f0)),(.val (.int .i64 a1.f1))]]:List (List D)))):Int) - a2)) 0)))+(toNat ((length ((take (length (map d_si a0)) (drop 0 (map d_si a0)))++([[(.val (.string a1.f0)),(.val (.int .i64 a1.f1))]]:List (List D)))):Int) - toNat (vmax (wrap .i64 (((length ((take (length (map d_si a0)) (drop 0 (map d_si a0)))++([[(.val (.string a1.f0)),(.val (.int .i64 a1.f1))]]:List (List D)))):Int) - a2)) 0))≤(length (map d_si (a0++([a1])))):=(by omega)
        have f19:fullR (take (toNat ((length ((take (length (map d_si a0)) (drop 0 (map d_si a0)))++([[(.val (.string a1.f0)),(.val (.int .i64 a1.f1))]]:List (List D)))):Int) - toNat (vmax (wrap .i64 (((length ((take (length (map d_si a0)) (drop 0 (map d_si a0)))++([[(.val (.string a1.f0)),(.val (.int .i64 a1.f1))]]:List (List D)))):Int) - a2)) 0)) (drop (0+(toNat (vmax (wrap .i64 (((length ((take (length (map d_si a0)) (drop 0 (map d_si a0)))++([[(.val (.string a1.f0)),(.val (.int .i64 a1.f1))]]:List (List D)))):Int) - a2)) 0))) (map d_si (a0++([a1])))))=true:=(ft_si _ _ _)
        have f20:toBR (take (toNat ((length ((take (length (map d_si a0)) (drop 0 (map d_si a0)))++([[(.val (.string a1.f0)),(.val (.int .i64 a1.f1))]]:List (List D)))):Int) - toNat (vmax (wrap .i64 (((length ((take (length (map d_si a0)) (drop 0 (map d_si a0)))++([[(.val (.string a1.f0)),(.val (.int .i64 a1.f1))]]:List (List D)))):Int) - a2)) 0)) (drop (0+(toNat (vmax (wrap .i64 (((length ((take (length (map d_si a0)) (drop 0 (map d_si a0)))++([[(.val (.string a1.f0)),(.val (.int .i64 a1.f1))]]:List (List D)))):Int) - a2)) 0))) (map d_si (a0++([a1])))))=(map b_si (take (toNat ((length ((take (length (map d_si a0)) (drop 0 (map d_si a0)))++([[(.val (.string a1.f0)),(.val (.int .i64 a1.f1))]]:List (List D)))):Int) - toNat (vmax (wrap .i64 (((length ((take (length (map d_si a0)) (drop 0 (map d_si a0)))++([[(.val (.string a1.f0)),(.val (.int .i64 a1.f1))]]:List (List D)))):Int) - a2)) 0)) (drop (0+(toNat (vmax (wrap .i64 (((length ((take (length (map d_si a0)) (drop 0 (map d_si a0)))++([[(.val (.string a1.f0)),(.val (.int .i64 a1.f1))]]:List (List D)))):Int) - a2)) 0))) (a0++([a1]))))):=(by exact tbt_si _ _ _)
        have f21:Ev F X (.call 94 [(.one (.bor 0 (map b_si (take (toNat ((length ((take (length (map d_si a0)) (drop 0 (map d_si a0)))++([[(.val (.string a1.f0)),(.i a1.f1)]]:List (List D)))):Int) - toNat (vmax (wrap .i64 (((length ((take (length (map d_si a0)) (drop 0 (map d_si a0)))++([[(.val (.string a1.f0)),(.i a1.f1)]]:List (List D)))):Int) - a2)) 0)) (drop (0+(toNat (vmax (wrap .i64 (((length ((take (length (map d_si a0)) (drop 0 (map d_si a0)))++([[(.val (.string a1.f0)),(.i a1.f1)]]:List (List D)))):Int) - a2)) 0))) (a0++([a1])))))))] [] [] [(.one (.own 2 (map d_si (take (toNat ((length ((take (length (map d_si a0)) (drop 0 (map d_si a0)))++([[(.val (.string a1.f0)),(.i a1.f1)]]:List (List D)))):Int) - toNat (vmax (wrap .i64 (((length ((take (length (map d_si a0)) (drop 0 (map d_si a0)))++([[(.val (.string a1.f0)),(.i a1.f1)]]:List (List D)))):Int) - a2)) 0)) (drop (0+(toNat (vmax (wrap .i64 (((length ((take (length (map d_si a0)) (drop 0 (map d_si a0)))++([[(.val (.string a1.f0)),(.i a1.f1)]]:List (List D)))):Int) - a2)) 0))) (a0++([a1])))))))]):=(e94 (a0:=_) (by have q1:=len12_55 a0 (by with_reducible assumption); simp only[length_map,length_append,length_cons,length_nil,length_take,length_drop,Nat.sub_zero,Nat.min_self]; omega))
        exact cp (by kernel_rfl) (P2 (.f (nt h2) (.h 34 (.b false) (.r 38 [] [] f9 (.f f10 (.f f2 (.f f12 (.f f13 (.f f14 (.f f15 (.f f16 (.f f17 (.f f18 (.f f19 (.f f20 (.h 44 (.b true) (.h 47 (.norm (9,0,0) (map d_si (a0++([a1])))) (.r 63 [] [(map b_si (take (toNat ((length ((take (length (map d_si a0)) (drop 0 (map d_si a0)))++([[(.val (.string a1.f0)),(.val (.int .i64 a1.f1))]]:List (List D)))):Int) - toNat (vmax (wrap .i64 (((length ((take (length (map d_si a0)) (drop 0 (map d_si a0)))++([[(.val (.string a1.f0)),(.val (.int .i64 a1.f1))]]:List (List D)))):Int) - a2)) 0)) (drop (0+(toNat (vmax (wrap .i64 (((length ((take (length (map d_si a0)) (drop 0 (map d_si a0)))++([[(.val (.string a1.f0)),(.val (.int .i64 a1.f1))]]:List (List D)))):Int) - a2)) 0))) (a0++([a1])))))] f21 (pe 0 (pe (length (map d_si (take (toNat ((length ((take (length (map d_si a0)) (drop 0 (map d_si a0)))++([[(.val (.string a1.f0)),(.val (.int .i64 a1.f1))]]:List (List D)))):Int) - toNat (vmax (wrap .i64 (((length ((take (length (map d_si a0)) (drop 0 (map d_si a0)))++([[(.val (.string a1.f0)),(.val (.int .i64 a1.f1))]]:List (List D)))):Int) - a2)) 0)) (drop (0+(toNat (vmax (wrap .i64 (((length ((take (length (map d_si a0)) (drop 0 (map d_si a0)))++([[(.val (.string a1.f0)),(.val (.int .i64 a1.f1))]]:List (List D)))):Int) - a2)) 0))) (a0++([a1])))))) (.f (pureR_si (take (toNat ((length ((take (length (map d_si a0)) (drop 0 (map d_si a0)))++([[(.val (.string a1.f0)),(.val (.int .i64 a1.f1))]]:List (List D)))):Int) - toNat (vmax (wrap .i64 (((length ((take (length (map d_si a0)) (drop 0 (map d_si a0)))++([[(.val (.string a1.f0)),(.val (.int .i64 a1.f1))]]:List (List D)))):Int) - a2)) 0)) (drop (0+(toNat (vmax (wrap .i64 (((length ((take (length (map d_si a0)) (drop 0 (map d_si a0)))++([[(.val (.string a1.f0)),(.val (.int .i64 a1.f1))]]:List (List D)))):Int) - a2)) 0))) (a0++([a1]))))) .nil)))))))))))))))))))))
theorem okm50 (a0:(List K_si)) (a1:K_si) (a2:Int):ok_iLsiE (m50 a0 a1 a2):=by
  unfold m50
  split
  · simp[ok_LyE,ok_R,ok_B,ok_C,ok_LyEi,ok_LiE,ok_LsiE,ok_iLsiE,ok_Q]
  · split
    · simp[ok_LyE,ok_R,ok_B,ok_C,ok_LyEi,ok_LiE,ok_LsiE,ok_iLsiE,ok_Q]
    · split
      · simp[ok_LyE,ok_R,ok_B,ok_C,ok_LyEi,ok_LiE,ok_LsiE,ok_iLsiE,ok_Q]
      · have q1:=len12_55 a0 (by assumption)
        simp only[ok_LyE,ok_R,ok_B,ok_C,ok_LyEi,ok_LiE,ok_LsiE,ok_iLsiE,ok_Q,length_take,length_drop,length_append,length_cons,length_nil]; omega
end Go.Proofs.YtihjlmgakpgkeaaDoor.Pays
