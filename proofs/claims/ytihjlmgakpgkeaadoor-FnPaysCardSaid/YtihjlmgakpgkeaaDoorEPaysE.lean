/- What the functions compute. -/
import Derived.Test.YtihjlmgakpgkeaaDoorEPaysD
import Derived.KernelRfl
namespace Go.Proofs.YtihjlmgakpgkeaaDoor.Pays
open Go Go.Proofs.YtihjlmgakpgkeaaDoor.V
set_option linter.unusedVariables false
set_option linter.unusedSimpArgs false
set_option maxRecDepth 20000
open Go.IntKind (wrap)
open Int (toNat)
open List (length_replicate length_map length_set length_append length_cons length_nil length_take length_drop take_of_length_le map_take map_drop map_set append_assoc getElem?_map map length take drop getD set)
attribute [local simp] strInts_len byteRows_len toBR_y fullR_y pureR_y lenB_y lenD_y fromBR_y copy_y toBR_LyE fullR_LyE pureR_LyE lenB_LyE lenD_LyE toBR_b fullR_b pureR_b lenB_b lenD_b fromBR_b copy_b toBR_si fullR_si pureR_si lenB_si lenD_si fromBR_si copy_si toBR_R fullR_R pureR_R lenB_R lenD_R toBR_B fullR_B pureR_B lenB_B lenD_B toBR_s fullR_s pureR_s lenB_s lenD_s fromBR_s copy_s toBR_i fullR_i pureR_i lenB_i lenD_i fromBR_i copy_i toBR_C fullR_C pureR_C lenB_C lenD_C toBR_ii fullR_ii pureR_ii lenB_ii lenD_ii fromBR_ii copy_ii toBR_LyEi fullR_LyEi pureR_LyEi lenB_LyEi lenD_LyEi toBR_LiE fullR_LiE pureR_LiE lenB_LiE lenD_LiE toBR_LsiE fullR_LsiE pureR_LsiE lenB_LsiE lenD_LsiE toBR_iLsiE fullR_iLsiE pureR_iLsiE lenB_iLsiE lenD_iLsiE toBR_Q fullR_Q pureR_Q lenB_Q lenD_Q
/-! loop.example/g00539/impl.CreditShare$1 -/
def o1004900_0 (a0:K_B) (a101001:ByteArray) (a101002:Int):K_B:=
  (K_B.mk a0.f0 a0.f1 ((m50 a0.f2 (K_si.mk a101001 a101002) a0.f0).f1) a0.f3 a0.f4 a0.f5 a0.f6 a0.f7)
def m1004900 (a0:K_B) (a101001:ByteArray) (a101002:Int):Int:=
  ((m50 a0.f2 (K_si.mk a101001 a101002) a0.f0).f0)
theorem e1004900 {a0:K_B} {l101000:Nat} {a101001:ByteArray} {a101002:Int} (hy0:length a0.f2≤100) (hy1:length a0.f3≤100) (hy2:∀z∈a0.f3,length z.f3≤100) (hy3:length a0.f4≤100) (hy4:∀z∈a0.f3,ok_R z):Ev F X (.call 49 [(.ptr ⟨(0,0,0),[],0,0,8⟩),(.bptr l101000 [(.val (.string a101001)),(.val (.int .i64 a101002))])] [((0,0,0),⟨8,[(d_B a0)],[]⟩)] [[(d_B (o1004900_0 a0 a101001 a101002))]] [(.one (.val (.int .i64 (m1004900 a0 a101001 a101002))))]):=by
  exact cq [false] (by kernel_rfl) (ln_si a0.f2 (.r 21 [] [(map b_si a0.f2)] (e50 (l0_0:=0) (a0:=a0.f2) (a1:=(K_si.mk a101001 a101002)) (a2:=a0.f0) (by omega)) (pe 0 (pe (length (map d_si ((m50 a0.f2 (K_si.mk a101001 a101002) a0.f0).f1))) (pe 0 (pe (length (map d_si ((m50 a0.f2 (K_si.mk a101001 a101002) a0.f0).f1))) (.f (pureR_si ((m50 a0.f2 (K_si.mk a101001 a101002) a0.f0).f1)) (.f (pureR_R a0.f3) (.f (pureR_si a0.f4) .nil)))))))))
/-! loop.example/g00539/impl.changed -/
def m1004201 (a0:K_B) (a2001:ByteArray) (a2002:Int):K_C:=
  if((m13 a0) !=0)=true then(K_C.mk (m13 a0) 0 0 0 [] [] [] 0 0 0) else
  if((m1004900 (m91 a0) a2001 a2002) !=0)=true then(K_C.mk (m1004900 (m91 a0) a2001 a2002) 0 0 0 [] [] [] 0 0 0) else
    (K_C.mk 0 0 ((o1004900_0 (m91 a0) a2001 a2002).f0) ((o1004900_0 (m91 a0) a2001 a2002).f1) ((o1004900_0 (m91 a0) a2001 a2002).f2) ((o1004900_0 (m91 a0) a2001 a2002).f3) ((o1004900_0 (m91 a0) a2001 a2002).f4) ((o1004900_0 (m91 a0) a2001 a2002).f5) ((o1004900_0 (m91 a0) a2001 a2002).f6) ((o1004900_0 (m91 a0) a2001 a2002).f7))
theorem e1004201 {l0_2:Nat} {l0_3:Nat} {l0_4:Nat} {a0:K_B} {l2000:Nat} {a2001:ByteArray} {a2002:Int} (hy0:length a0.f2*24≤140737488351232) (hy1:length a0.f3*56≤140737488351232) (hy2:∀z∈a0.f3,ok_R z) (hy3:length a0.f4*24≤140737488351232):Ev F X (.call 42 [(.agg (k_B l0_2 l0_3 l0_4 a0)),(.clo 49 [] [(.bptr l2000 [(.val (.string a2001)),(.val (.int .i64 a2002))])])] [] [] [(.agg (d_C (m1004201 a0 a2001 a2002)))]):=by
  unfold m1004201
  have P0 {hs q} (r:PS F X hs q):=(PS.r 7 [] [] (e13 (l0_2:=(l0_2+1)) (l0_3:=(l0_3+1)) (l0_4:=(l0_4+1)) (a0:=a0) (by with_reducible assumption) (by with_reducible assumption) (by with_reducible assumption) (by with_reducible assumption)) r)
  by_cases h0:((m13 a0) !=0)=true
  · try simp only[if_pos h0]
    have f2:pureR []=true:=(by trivial)
    exact cp (by kernel_rfl) (P0 (.f h0 (.f f2 (.f f2 (.f f2 (.h 14 (.b true) .nil))))))
  · try simp only[if_neg h0]
    have P1 {hs q} (r:PS F X hs q):=(P0 (.f (nt h0) (.h 14 (.b false) (.r 18 [] [] (e91 (l0_2:=(l0_2+1)) (l0_3:=(l0_3+1)) (l0_4:=(l0_4+1)) (a0:=a0) (by have q:=fs13 (a0:=a0) (by with_reducible assumption); omega) (by have q:=fs13 (a0:=a0) (by with_reducible assumption); omega) (by have q:=fs13 (a0:=a0) (by with_reducible assumption); intro z hz; have q2:=q.2.2.1 z hz; omega) (by have q:=fs13 (a0:=a0) (by with_reducible assumption); omega) (by with_reducible assumption)) (pe 0 (pe (length (map d_si ((m91 a0).f2))) (pe 0 (pe (length (map d_R ((m91 a0).f3))) (pe 0 (pe (length (map d_si ((m91 a0).f4))) (.f (pureR_si ((m91 a0).f2)) (.f (pureR_R ((m91 a0).f3)) (.f (pureR_si ((m91 a0).f4)) (.r 26 [false] [] (e1004900 (l101000:=(l2000+1)) (a0:=(m91 a0)) (a101001:=a2001) (a101002:=a2002) (by rw[cp91]; have q:=fs13 (a0:=a0) (by with_reducible assumption); omega) (by rw[cp91]; have q:=fs13 (a0:=a0) (by with_reducible assumption); omega) (by rw[cp91]; have q:=fs13 (a0:=a0) (by with_reducible assumption); intro z hz; have q2:=q.2.2.1 z hz; omega) (by rw[cp91]; have q:=fs13 (a0:=a0) (by with_reducible assumption); omega) (by rw[cp91]; assumption)) r))))))))))))))
    by_cases h1:((m1004900 (m91 a0) a2001 a2002) !=0)=true
    · try simp only[if_pos h1]
      have f14:pureR []=true:=(by trivial)
      exact cp (by kernel_rfl) (P1 (.f h1 (.f f14 (.f f14 (.f f14 (.h 33 (.b true) .nil))))))
    · try simp only[if_neg h1]
      exact cp (by kernel_rfl) (P1 (.f (nt h1) (pe 0 (pe (length (map d_si ((o1004900_0 (m91 a0) a2001 a2002).f2))) (pe 0 (pe (length (map d_R ((o1004900_0 (m91 a0) a2001 a2002).f3))) (pe 0 (pe (length (map d_si ((o1004900_0 (m91 a0) a2001 a2002).f4))) (.f (pureR_si ((o1004900_0 (m91 a0) a2001 a2002).f2)) (.f (pureR_R ((o1004900_0 (m91 a0) a2001 a2002).f3)) (.f (pureR_si ((o1004900_0 (m91 a0) a2001 a2002).f4)) (.h 33 (.b false) .nil))))))))))))
theorem okm1004201 (a0:K_B) (a2001:ByteArray) (a2002:Int):ok_C (m1004201 a0 a2001 a2002):=by
  unfold m1004201
  split
  · simp[ok_LyE,ok_R,ok_B,ok_C,ok_LyEi,ok_LiE,ok_LsiE,ok_iLsiE,ok_Q]
  · rename_i h
    obtain⟨q1,q2,q3,q4⟩:=fs13 h
    simp only[cp91]
    split
    · simp[ok_LyE,ok_R,ok_B,ok_C,ok_LyEi,ok_LiE,ok_LsiE,ok_iLsiE,ok_Q]
    · unfold o1004900_0
      (repeat' split)<;>simp only[ok_LyE,ok_R,ok_B,ok_C,ok_LyEi,ok_LiE,ok_LsiE,ok_iLsiE,ok_Q]<;>first |(refine⟨?_,?_,?_,?_⟩<;>(simp; done)) |(refine⟨?_,?_,?_,?_⟩<;>first | omega | exact(okm50 _ _ _) |(simp only[length_set,length_append,length_cons,length_nil,length_take,length_drop]; omega) | exact oall q3 | exact oset q3 (oget q3 _) | exact oset q3 (by simp) | exact oapp q3 (by simp))
/-! loop.example/g00539/impl.CreditShare -/
def m10 (a0:K_B) (a1:K_si):K_C:=
  (m1004201 a0 a1.f0 a1.f1)
theorem e10 {l0_2:Nat} {l0_3:Nat} {l0_4:Nat} {a0:K_B} {a1:K_si} (hy0:length a0.f2*24≤140737488351232) (hy1:length a0.f3*56≤140737488351232) (hy2:∀z∈a0.f3,ok_R z) (hy3:length a0.f4*24≤140737488351232):Ev F X (.call 10 [(.agg (k_B l0_2 l0_3 l0_4 a0)),(.agg [(.val (.string a1.f0)),(.val (.int .i64 a1.f1))])] [] [] [(.agg (d_C (m1004201 a0 a1.f0 a1.f1)))]):=by
  have f0:fullL [(.val (.string a1.f0)),(.val (.int .i64 a1.f1))]=true:=(by trivial)
  have f1:Ev F X (.call 42 [(.agg (k_B (l0_2+1) (l0_3+1) (l0_4+1) a0)),(.clo 49 [] [(.bptr 0 [(.val (.string a1.f0)),(.i a1.f1)])])] [] [] [(.agg (d_C (m1004201 a0 a1.f0 a1.f1)))]):=(e1004201 (a0:=a0) (a2001:=a1.f0) (a2002:=a1.f1) (by with_reducible assumption) (by with_reducible assumption) (by with_reducible assumption) (by with_reducible assumption))
  exact cp (by kernel_rfl) (.f f0 (.r 11 [] [] f1 (pe 0 (pe (length (map d_si ((m1004201 a0 a1.f0 a1.f1).f4))) (pe 0 (pe (length (map d_R ((m1004201 a0 a1.f0 a1.f1).f5))) (pe 0 (pe (length (map d_si ((m1004201 a0 a1.f0 a1.f1).f6))) (.f (pureR_si ((m1004201 a0 a1.f0 a1.f1).f4)) (.f (pureR_R ((m1004201 a0 a1.f0 a1.f1).f5)) (.f (pureR_si ((m1004201 a0 a1.f0 a1.f1).f6)) .nil)))))))))))
/-! loop.example/g00539/spec.DrawDueOf -/
def m11_0 (a0:(List Int)):K_B:=
  (m39 (m38 a0))
def m11_1 (a0:(List Int)):ByteArray:=
  (m40 (K_LyEi.mk ((m38 a0).f0) ((o39_0 (m38 a0)).f1)))
theorem e11 {l0_0:Nat} {a0:(List Int)} (hy0:∀z∈a0,(0:Int)≤z∧z≤255) (hy1:length a0≤140737488351232):Ev F X (.call 11 [(.one (.bor l0_0 (map b_y a0)))] [] [] [(.agg (d_B (m39 (m38 a0)))),(.one (.val (.string (m40 (K_LyEi.mk ((m38 a0).f0) ((o39_0 (m38 a0)).f1))))))]):=by
  have f0:Ev F X (.call 38 [(.one (.bor (l0_0+1) (map b_y a0)))] [] [] [(.ptr [(.bor l0_0 (map b_y ((m38 a0).f0))),(.i ((m38 a0).f1))])]):=(e38 (a0:=a0))
  have f1:Ev F X (.call 39 [(.ptr ⟨(0,0,0),[],0,0,2⟩)] [((0,0,0),⟨2,[[(.bor (l0_0+1) (map b_y ((m38 a0).f0))),(.i ((m38 a0).f1))]],[]⟩)] [[[(.bor l0_0 (map b_y ((m38 a0).f0))),(.i ((o39_0 (m38 a0)).f1))]]] [(.agg (d_B (m39 (m38 a0))))]):=(e39 (a0:=(m38 a0)) (by (repeat (first | with_reducible refine sm39 ?_ rfl | with_reducible refine sm90 ?_ rfl | with_reducible refine sm89 ?_ rfl | with_reducible refine sm136 ?_ rfl | with_reducible refine sm41 _ ?_ rfl | with_reducible refine sm48 _ ?_ rfl | with_reducible refine sm40 ?_ rfl)); exact S_le (S_src a0 (by assumption) (by assumption)) (by omega)))
  have f2:Ev F X (.call 40 [(.ptr ⟨(0,0,0),[],0,0,2⟩)] [((0,0,0),⟨2,[[(.bor (l0_0+1) (map b_y ((m38 a0).f0))),(.i ((o39_0 (m38 a0)).f1))]],[]⟩)] [[[(.bor l0_0 (map b_y ((m38 a0).f0))),(.i ((o40_0 (K_LyEi.mk ((m38 a0).f0) ((o39_0 (m38 a0)).f1))).f1))]]] [(.one (.val (.string (m40 (K_LyEi.mk ((m38 a0).f0) ((o39_0 (m38 a0)).f1))))))]):=(e40 (a0:=(K_LyEi.mk ((m38 a0).f0) ((o39_0 (m38 a0)).f1))) (by (repeat (first | with_reducible refine sm39 ?_ rfl | with_reducible refine sm90 ?_ rfl | with_reducible refine sm89 ?_ rfl | with_reducible refine sm136 ?_ rfl | with_reducible refine sm41 _ ?_ rfl | with_reducible refine sm48 _ ?_ rfl | with_reducible refine sm40 ?_ rfl)); exact S_le (S_src a0 (by assumption) (by assumption)) (by omega)))
  exact cp (by kernel_rfl) (.r 7 [] [] f0 (.r 13 [false] [] f1 (.r 17 [false] [] f2 (pe 0 (pe (length (map d_si ((m39 (m38 a0)).f2))) (pe 0 (pe (length (map d_R ((m39 (m38 a0)).f3))) (pe 0 (pe (length (map d_si ((m39 (m38 a0)).f4))) (.f (pureR_si ((m39 (m38 a0)).f2)) (.f (pureR_R ((m39 (m38 a0)).f3)) (.f (pureR_si ((m39 (m38 a0)).f4)) .nil))))))))))))
/-! loop.example/g00539/spec.l14Ranges -/
def m95 (a0:K_B):Bool:=
  if (m105 a0.f0 1 12) = true then (if (m105 a0.f1 0 1000) = true then (if (m105 a0.f5 0 1000000) = true then (if (m105 a0.f6 0 1000000) = true then (m105 a0.f7 0 1000000) else
        false) else
      false) else
    false) else
  false
theorem e95 {l0:Nat} {a0:K_B}:Ev F X (.call 95 [(.bptr l0 (b_B a0))] [] [] [(.one (.val (.bool (m95 a0))))]):=by
  unfold m95
  have P0 {hs q} (r:PS F X hs q):=(PS.r 11 [] [] (e105 (a0:=a0.f0) (a1:=1) (a2:=12)) r)
  by_cases h0:(m105 a0.f0 1 12)=true
  · try simp only[if_pos h0]
    have P1 {hs q} (r:PS F X hs q):=(P0 (.f h0 (.f h0 (.f h0 (.f h0 (.f h0 (.h 14 (.b true) (.h 16 (.b true) (.h 18 (.b true) (.h 20 (.b true) (.h 22 (.b true) (.r 23 [] [] (e105 (a0:=a0.f1) (a1:=0) (a2:=1000)) (.f h0 (.h 25 (.b true) r))))))))))))))
    by_cases h1:(m105 a0.f1 0 1000)=true
    · try simp only[if_pos h1]
      have P2 {hs q} (r:PS F X hs q):=(P1 (.f h1 (.f h1 (.f h1 (.f h1 (.f h1 (.h 28 (.b true) (.h 30 (.b true) (.h 32 (.b true) (.h 34 (.b true) (.h 36 (.b true) (.r 37 [] [] (e101 (a0:=a0.f5)) (.f h1 (.h 39 (.b true) r))))))))))))))
      by_cases h2:(m105 a0.f5 0 1000000)=true
      · try simp only[if_pos h2]
        have P3 {hs q} (r:PS F X hs q):=(P2 (.f h2 (.f h2 (.f h2 (.f h2 (.f h2 (.h 42 (.b true) (.h 44 (.b true) (.h 46 (.b true) (.h 48 (.b true) (.h 50 (.b true) (.r 51 [] [] (e101 (a0:=a0.f6)) (.f h2 (.h 53 (.b true) r))))))))))))))
        by_cases h3:(m105 a0.f6 0 1000000)=true
        · try simp only[if_pos h3]
          exact cp (by kernel_rfl) (P3 (.f h3 (.f h3 (.f h3 (.f h3 (.f h3 (.h 56 (.b true) (.h 58 (.b true) (.h 60 (.b true) (.h 62 (.b true) (.h 64 (.b true) (.r 65 [] [] (e101 (a0:=a0.f7)) (.f h3 (.h 67 (.b true) .nil))))))))))))))
        · try simp only[if_neg h3]
          exact cp (by kernel_rfl) (P3 (.f (nt h3) (.f (nt h3) (.f (nt h3) (.f (nt h3) (.f (nt h3) (.f (nt h3) (.h 56 (.b false) (.h 58 (.b false) (.h 60 (.b false) (.h 62 (.b false) (.h 64 (.b false) (.h 67 (.b false) .nil)))))))))))))
      · try simp only[if_neg h2]
        exact cp (by kernel_rfl) (P2 (.f (nt h2) (.f (nt h2) (.f (nt h2) (.f (nt h2) (.f (nt h2) (.f (nt h2) (.h 42 (.b false) (.h 44 (.b false) (.h 46 (.b false) (.h 48 (.b false) (.h 50 (.b false) (.h 53 (.b false) .nil)))))))))))))
    · try simp only[if_neg h1]
      exact cp (by kernel_rfl) (P1 (.f (nt h1) (.f (nt h1) (.f (nt h1) (.f (nt h1) (.f (nt h1) (.f (nt h1) (.h 28 (.b false) (.h 30 (.b false) (.h 32 (.b false) (.h 34 (.b false) (.h 36 (.b false) (.h 39 (.b false) .nil)))))))))))))
  · try simp only[if_neg h0]
    exact cp (by kernel_rfl) (P0 (.f (nt h0) (.f (nt h0) (.f (nt h0) (.f (nt h0) (.f (nt h0) (.f (nt h0) (.h 14 (.b false) (.h 16 (.b false) (.h 18 (.b false) (.h 20 (.b false) (.h 22 (.b false) (.h 25 (.b false) .nil)))))))))))))
/-! loop 96_0 -/
inductive O96_0 where
  |k0 (w0:Int) (w1:Bool)
  |k1 (w0:Int)
def r96_0 (a0:(List K_si)):List K_si→Int→O96_0
  |x0::y0,i=>
    if((m102 x0) !=0)=true then(O96_0.k1 (m102 x0)) else
    (r96_0 a0 y0 (i+1))
  |[],i=>(O96_0.k0 i (decide (i <((length (map b_si a0)):Int))))
def h96_0 (l0_0:Nat) (a0:(List K_si)) (i:Int) :St:=⟨[(0,(.one (.bor l0_0 (map b_si a0)))),(3,(.one (.val (.int .i64 i))))],[]⟩
def ex96_0:O96_0→VX.Exit
  |.k0 _ _=>(.exit 0)
  |.k1 _=>.ret
def fin96_0 (l0_0:Nat) (a0:(List K_si)):O96_0→St
  |.k0 w0 w1=>⟨[(0,(.one (.bor l0_0 (map b_si a0)))),(3,(.one (.val (.int .i64 w0)))),(11,(.one (.val (.bool w1))))],[]⟩
  |.k1 w0=>⟨[(2,(.one (.val (.int .i64 w0))))],[]⟩
theorem t96_0 {l0_0:Nat} {a0:(List K_si)} (hy0:length a0*24≤140737488351232) (hy1:∀z∈a0,os_si z):∀(y0:List K_si) (p:List K_si),p++y0=a0→Ev F X (.code l96_0 (h96_0 l0_0 a0 (length p:Int)) (ex96_0 (r96_0 a0 y0 (length p:Int))) (fin96_0 l0_0 a0 (r96_0 a0 y0 (length p:Int))))
  |[],p,hp0=>by
    have hc:¬(decide ((length p:Int) <((length (map b_si a0)):Int)))=true:=by
      rw[← hp0]; simp only[length_map,length_set,length_append,length_replicate,length_cons,length_nil,decide_eq_true_eq]; omega
    have st:=ch b96_0 (h96_0 l0_0 a0 (length p:Int)) ⟨[(0,(.one (.bor l0_0 (map b_si a0)))),(3,(.oi (length p:Int))),(11,(.one (.val (.bool (decide ((length p:Int) <((length (map b_si a0)):Int)))))))],[]⟩ (.exit 0) 9 (by kernel_rfl) (.f (nt hc) (.h 8 (.b false) .nil))
    rw[show (⟨[(0,(.one (.bor l0_0 (map b_si a0)))),(3,(.oi (length p:Int))),(11,(.one (.val (.bool (decide ((length p:Int) <((length (map b_si a0)):Int)))))))],[]⟩:St)=fin96_0 l0_0 a0 (.k0 (length p:Int) (decide ((length p:Int) <((length (map b_si a0)):Int)))) from(by rfl)] at st
    exact .loopX st (show ((.exit 0):VX.Exit)≠.normal from by simp)
  |x0::y0,p,hp0=>by
    have hc:(decide ((length p:Int) <((length (map b_si a0)):Int)))=true:=by
      rw[← hp0]; simp only[length_map,length_set,length_append,length_replicate,length_cons,length_nil,decide_eq_true_eq]; omega
    have Hx0:(a0)[toNat (length p:Int)]?=some x0:=by
      rw[← hp0,Int.toNat_natCast]; simp
    have Mx0_0:=hy1 x0 (List.mem_of_getElem? Hx0)
    have hlen:length (a0)=length p+length y0+1:=by rw[← hp0]; simp; omega
    have hw:wrap .i64 ((length p:Int)+1)=(length p:Int)+1:=wrap64 (by omega)
    simp only[r96_0]
    have f1:0≤(length p:Int):=(by omega)
    have f2:(map b_si a0)[(toNat (length p:Int))]?=some (b_si x0):=(by rw[getElem?_map,Hx0]; rfl)
    have P1 {hs q} (r:PS F X hs q):=(PS.f hc (.f f1 (.f f2 (.h 8 (.b true) (.h 14 (.row (b_si x0)) (.r 16 [] [] (e102 (l0:=(l0_0+1)) (a0:=x0) (by assumption)) r))))))
    by_cases h_1:((m102 x0) !=0)=true
    · try simp only[if_pos h_1]
      have st:=ch b96_0 (h96_0 l0_0 a0 (length p:Int)) ⟨[(2,(.oi (m102 x0)))],[]⟩ .ret 28 (by kernel_rfl) (P1 (.f h_1 (.h 23 (.b true) .nil)))
      rw[show (⟨[(2,(.oi (m102 x0)))],[]⟩:St)=fin96_0 l0_0 a0 (.k1 (m102 x0)) from(by rfl)] at st
      exact .loopX st (show (.ret:VX.Exit)≠.normal from by simp)
    · try simp only[if_neg h_1]
      have st:=ch b96_0 (h96_0 l0_0 a0 (length p:Int)) ⟨[(0,(.one (.bor l0_0 (map b_si a0)))),(3,(.oi (wrap .i64 ((length p:Int)+1))))],[]⟩ .normal 30 (by kernel_rfl) (P1 (.f (nt h_1) (.f trivial (.h 23 (.b false) .nil))))
      have ih:=t96_0 (l0_0:=l0_0) (a0:=a0) hy0 hy1 y0 (p++ [x0]) (by rw[append_assoc]; exact hp0)
      rw[show ((p++ [x0]).length:Int)=(p.length:Int)+1 from by simp] at ih
      rw[show (⟨[(0,(.one (.bor l0_0 (map b_si a0)))),(3,(.oi (wrap .i64 ((length p:Int)+1))))],[]⟩:St)=h96_0 l0_0 a0 ((length p:Int)+1)  from(by unfold h96_0; simp only[hw]; done)] at st
      exact .loopN st ih
/-! loop.example/g00539/spec.l13Fault -/
def m96 (a0:(List K_si)):Int:=
  if(decide (((length (map b_si a0)):Int) > 12))=true then 2 else
  (match r96_0 a0 a0 0 with | .k0 w0_1 w1_1=>0 | .k1 w0_1=>w0_1)
theorem e96 {l0_0:Nat} {a0:(List K_si)} (hy0:length a0*24≤140737488351232) (hy1:∀z∈a0,os_si z):Ev F X (.call 96 [(.one (.bor l0_0 (map b_si a0)))] [] [] [(.one (.val (.int .i64 (m96 a0))))]):=by
  unfold m96
  by_cases h0:(decide (((length (map b_si a0)):Int) > 12))=true
  · try simp only[if_pos h0]
    exact cp (by kernel_rfl) (.f h0 (.h 8 (.b true) .nil))
  · try simp only[if_neg h0]
    cases h1:r96_0 a0 a0 0 with
    |k0 w0_1 w1_1=>
      try dsimp only
      have f1:(⟨[(0,(.one (.bor l0_0 (map b_si a0)))),(3,(.oi 0))],[]⟩:St)=h96_0 l0_0 a0 0 :=(by rfl)
      have f2:Ev F X (.code l96_0 (h96_0 l0_0 a0 0) (.exit 0) ⟨[(0,(.one (.bor l0_0 (map b_si a0)))),(3,(.oi w0_1)),(11,(.one (.val (.bool w1_1))))],[]⟩):=(by have t:Ev F X (.code l96_0 (h96_0 l0_0 a0 0) (ex96_0 (r96_0 a0 a0 0)) (fin96_0 l0_0 a0 (r96_0 a0 a0 0))):=t96_0 (l0_0:=l0_0) (a0:=a0) (by assumption) (by assumption) a0 []  rfl; rw[h1] at t; exact t)
      exact cp (by kernel_rfl) (.f (nt h0) (.f f1 (.f f2 (.h 8 (.b false) (.h 11 (.loop (h96_0 l0_0 a0 0) (.exit 0) ⟨[(0,(.one (.bor l0_0 (map b_si a0)))),(3,(.one (.val (.int .i64 w0_1)))),(11,(.one (.val (.bool w1_1))))],[]⟩) .nil)))))
    |k1 w0_1=>
      try dsimp only
      have f1:(⟨[(0,(.one (.bor l0_0 (map b_si a0)))),(3,(.oi 0))],[]⟩:St)=h96_0 l0_0 a0 0 :=(by rfl)
      have f2:Ev F X (.code l96_0 (h96_0 l0_0 a0 0) .ret ⟨[(2,(.oi w0_1))],[]⟩):=(by have t:Ev F X (.code l96_0 (h96_0 l0_0 a0 0) (ex96_0 (r96_0 a0 a0 0)) (fin96_0 l0_0 a0 (r96_0 a0 a0 0))):=t96_0 (l0_0:=l0_0) (a0:=a0) (by assumption) (by assumption) a0 []  rfl; rw[h1] at t; exact t)
      exact cp (by kernel_rfl) (.f (nt h0) (.f f1 (.f f2 (.h 8 (.b false) (.h 11 (.loop (h96_0 l0_0 a0 0) .ret ⟨[(2,(.one (.val (.int .i64 w0_1))))],[]⟩) .nil)))))
theorem len12_96 (a:List K_si) (h:¬((m96 a) !=0)=true):length a≤12:=by
  unfold m96 at h
  split at h
  · simp at h
  · rename_i h2
    simp only[decide_eq_true_eq,length_map] at h2
    omega
theorem wok_r96 (a:List K_si):∀(l:List K_si) (i:Int),(match r96_0 a l i with | .k0 .. =>(0:Int) | .k1 w=>w)=0→∀z∈l,1≤z.f1∧z.f1≤9999
  |[],i,_,x,hx=>by cases hx
  |y::l,i,h,x,hx=>by
    simp only[r96_0] at h
    by_cases h1:((m102 y) !=0)=true
    · simp only[if_pos h1] at h; simp[h] at h1
    · simp only[if_neg h1] at h
      rcases List.mem_cons.1 hx with rfl | hx
      · have h2:m102 x=0:=by simpa using h1
        unfold m102 at h2
        split at h2
        · cases h2
        · split at h2
          · cases h2
          · split at h2
            · cases h2
            · exact jn105 (by assumption)
      · exact wok_r96 a l (i+1) h x hx
theorem wok96 (a:List K_si) (h:¬((m96 a) !=0)=true):∀z∈a,1≤z.f1∧z.f1≤9999:=by
  have h2:m96 a=0:=by simpa using h
  unfold m96 at h2
  split at h2
  · cases h2
  · exact wok_r96 a a 0 h2
/-! loop 98_0 -/
inductive O98_0 where
  |k0 (w0:Int) (w1:Bool)
  |k1
def r98_0 (a0:(List K_si)):List K_si→Int→O98_0
  |x0::y0,i=>
    if(x0.f0.toList==(⟨#[]⟩:ByteArray).toList)=true then(O98_0.k1) else
    if(!(m115 x0.f0))=true then(O98_0.k1) else
      if(!(m105 x0.f1 0 1000000))=true then(O98_0.k1) else
        if((m60 a0 x0.f0) !=i)=true then(O98_0.k1) else
          (r98_0 a0 y0 (i+1))
  |[],i=>(O98_0.k0 i (decide (i <((length (map b_si a0)):Int))))
def h98_0 (l0_0:Nat) (a0:(List K_si)) (i:Int) :St:=⟨[(0,(.one (.bor l0_0 (map b_si a0)))),(3,(.one (.val (.int .i64 i))))],[]⟩
def ex98_0:O98_0→VX.Exit
  |.k0 _ _=>(.exit 0)
  |.k1=>.ret
def fin98_0 (l0_0:Nat) (a0:(List K_si)):O98_0→St
  |.k0 w0 w1=>⟨[(0,(.one (.bor l0_0 (map b_si a0)))),(3,(.one (.val (.int .i64 w0)))),(7,(.one (.val (.bool w1))))],[]⟩
  |.k1=>⟨[(2,(.one (.val (.bool false))))],[]⟩
theorem t98_0 {l0_0:Nat} {a0:(List K_si)} (hy0:length a0*24≤140737488351232) (hy1:∀z∈a0,os_si z):∀(y0:List K_si) (p:List K_si),p++y0=a0→Ev F X (.code l98_0 (h98_0 l0_0 a0 (length p:Int)) (ex98_0 (r98_0 a0 y0 (length p:Int))) (fin98_0 l0_0 a0 (r98_0 a0 y0 (length p:Int))))
  |[],p,hp0=>by
    have hc:¬(decide ((length p:Int) <((length (map b_si a0)):Int)))=true:=by
      rw[← hp0]; simp only[length_map,length_set,length_append,length_replicate,length_cons,length_nil,decide_eq_true_eq]; omega
    have st:=ch b98_0 (h98_0 l0_0 a0 (length p:Int)) ⟨[(0,(.one (.bor l0_0 (map b_si a0)))),(3,(.oi (length p:Int))),(7,(.one (.val (.bool (decide ((length p:Int) <((length (map b_si a0)):Int)))))))],[]⟩ (.exit 0) 9 (by kernel_rfl) (.f (nt hc) (.h 8 (.b false) .nil))
    rw[show (⟨[(0,(.one (.bor l0_0 (map b_si a0)))),(3,(.oi (length p:Int))),(7,(.one (.val (.bool (decide ((length p:Int) <((length (map b_si a0)):Int)))))))],[]⟩:St)=fin98_0 l0_0 a0 (.k0 (length p:Int) (decide ((length p:Int) <((length (map b_si a0)):Int)))) from(by rfl)] at st
    exact .loopX st (show ((.exit 0):VX.Exit)≠.normal from by simp)
  |x0::y0,p,hp0=>by
    have hc:(decide ((length p:Int) <((length (map b_si a0)):Int)))=true:=by
      rw[← hp0]; simp only[length_map,length_set,length_append,length_replicate,length_cons,length_nil,decide_eq_true_eq]; omega
    have Hx0:(a0)[toNat (length p:Int)]?=some x0:=by
      rw[← hp0,Int.toNat_natCast]; simp
    have Mx0_0:=hy1 x0 (List.mem_of_getElem? Hx0)
    have hlen:length (a0)=length p+length y0+1:=by rw[← hp0]; simp; omega
    have hw:wrap .i64 ((length p:Int)+1)=(length p:Int)+1:=wrap64 (by omega)
    simp only[r98_0]
    have f1:0≤(length p:Int):=(by omega)
    have f2:(map b_si a0)[(toNat (length p:Int))]?=some (b_si x0):=(by rw[getElem?_map,Hx0]; rfl)
    have P1 {hs q} (r:PS F X hs q):=(PS.f hc (.f f1 (.f f2 (.h 8 (.b true) (.h 14 (.row (b_si x0)) r)))))
    by_cases h_1:(x0.f0.toList==(⟨#[]⟩:ByteArray).toList)=true
    · try simp only[if_pos h_1]
      have st:=ch b98_0 (h98_0 l0_0 a0 (length p:Int)) ⟨[(2,(.one (.val (.bool false))))],[]⟩ .ret 82 (by kernel_rfl) (P1 (.f h_1 (.f h_1 (.f h_1 (.f h_1 (.f h_1 (.f h_1 (.f h_1 (.f h_1 (.h 23 (.b true) (.h 25 (.b true) (.h 27 (.b true) (.h 29 (.b true) (.h 31 (.b true) (.h 33 (.b true) (.h 35 (.b true) (.h 38 (.b true) .nil)))))))))))))))))
      rw[show (⟨[(2,(.one (.val (.bool false))))],[]⟩:St)=fin98_0 l0_0 a0 (.k1) from(by rfl)] at st
      exact .loopX st (show (.ret:VX.Exit)≠.normal from by simp)
    · try simp only[if_neg h_1]
      have P2 {hs q} (r:PS F X hs q):=(P1 (.f (nt h_1) (.f (nt h_1) (.f (nt h_1) (.f f1 (.f f2 (.f (nt h_1) (.f (nt h_1) (.f (nt h_1) (.h 23 (.b false) (.h 25 (.b false) (.h 27 (.b false) (.h 28 (.row (b_si x0)) (.h 29 (.b false) (.h 31 (.b false) (.h 33 (.b false) (.r 34 [] [] (e115 (a0:=x0.f0) (by assumption)) (.f (nt h_1) (.f (nt h_1) (.h 35 (.b false) (.h 38 (.b false) r)))))))))))))))))))))
      by_cases h_2:(!(m115 x0.f0))=true
      · try simp only[if_pos h_2]
        have st:=ch b98_0 (h98_0 l0_0 a0 (length p:Int)) ⟨[(2,(.one (.val (.bool false))))],[]⟩ .ret 82 (by kernel_rfl) (P2 (.f h_2 (.f h_2 (.f h_2 (.f h_2 (.f h_2 (.f h_2 (.f h_2 (.f h_2 (.h 41 (.b true) (.h 43 (.b true) (.h 45 (.b true) (.h 47 (.b true) (.h 49 (.b true) (.h 51 (.b true) (.h 53 (.b true) (.h 56 (.b true) .nil)))))))))))))))))
        rw[show (⟨[(2,(.one (.val (.bool false))))],[]⟩:St)=fin98_0 l0_0 a0 (.k1) from(by rfl)] at st
        exact .loopX st (show (.ret:VX.Exit)≠.normal from by simp)
      · try simp only[if_neg h_2]
        have P3 {hs q} (r:PS F X hs q):=(P2 (.f (nt h_2) (.f (nt h_2) (.f (nt h_2) (.f f1 (.f f2 (.f (nt h_2) (.f (nt h_2) (.f (nt h_2) (.h 41 (.b false) (.h 43 (.b false) (.h 45 (.b false) (.h 46 (.row (b_si x0)) (.h 47 (.b false) (.h 49 (.b false) (.h 51 (.b false) (.r 52 [] [] (e101 (a0:=x0.f1)) (.f (nt h_2) (.f (nt h_2) (.h 53 (.b false) (.h 56 (.b false) r)))))))))))))))))))))
        by_cases h_3:(!(m105 x0.f1 0 1000000))=true
        · try simp only[if_pos h_3]
          have st:=ch b98_0 (h98_0 l0_0 a0 (length p:Int)) ⟨[(2,(.one (.val (.bool false))))],[]⟩ .ret 82 (by kernel_rfl) (P3 (.f h_3 (.f h_3 (.f h_3 (.f h_3 (.f h_3 (.f h_3 (.f h_3 (.f h_3 (.f h_3 (.f h_3 (.h 59 (.b true) (.h 61 (.b true) (.h 63 (.b true) (.h 65 (.b true) (.h 67 (.b true) (.h 69 (.b true) (.h 71 (.b true) (.h 73 (.b true) (.h 75 (.b true) (.h 78 (.b true) .nil)))))))))))))))))))))
          rw[show (⟨[(2,(.one (.val (.bool false))))],[]⟩:St)=fin98_0 l0_0 a0 (.k1) from(by rfl)] at st
          exact .loopX st (show (.ret:VX.Exit)≠.normal from by simp)
        · try simp only[if_neg h_3]
          have P4 {hs q} (r:PS F X hs q):=(P3 (.f (nt h_3) (.f (nt h_3) (.f (nt h_3) (.f (nt h_3) (.f f1 (.f f2 (.f (nt h_3) (.f (nt h_3) (.f (nt h_3) (.h 59 (.b false) (.h 61 (.b false) (.h 63 (.b false) (.h 65 (.b false) (.h 66 (.row (b_si x0)) (.h 67 (.b false) (.h 69 (.b false) (.h 71 (.b false) (.r 72 [] [] (e60 (l0_0:=(l0_0+1)) (a0:=a0) (a1:=x0.f0) (by with_reducible assumption)) (.f (nt h_3) (.f (nt h_3) (.f (nt h_3) (.h 73 (.b false) (.h 75 (.b false) (.h 78 (.b false) r)))))))))))))))))))))))))
          by_cases h_4:((m60 a0 x0.f0) !=(length p:Int))=true
          · try simp only[if_pos h_4]
            have st:=ch b98_0 (h98_0 l0_0 a0 (length p:Int)) ⟨[(2,(.one (.val (.bool false))))],[]⟩ .ret 82 (by kernel_rfl) (P4 (.f h_4 (.h 79 (.b true) .nil)))
            rw[show (⟨[(2,(.one (.val (.bool false))))],[]⟩:St)=fin98_0 l0_0 a0 (.k1) from(by rfl)] at st
            exact .loopX st (show (.ret:VX.Exit)≠.normal from by simp)
          · try simp only[if_neg h_4]
            have st:=ch b98_0 (h98_0 l0_0 a0 (length p:Int)) ⟨[(0,(.one (.bor l0_0 (map b_si a0)))),(3,(.oi (wrap .i64 ((length p:Int)+1))))],[]⟩ .normal 86 (by kernel_rfl) (P4 (.f (nt h_4) (.f trivial (.h 79 (.b false) .nil))))
            have ih:=t98_0 (l0_0:=l0_0) (a0:=a0) hy0 hy1 y0 (p++ [x0]) (by rw[append_assoc]; exact hp0)
            rw[show ((p++ [x0]).length:Int)=(p.length:Int)+1 from by simp] at ih
            rw[show (⟨[(0,(.one (.bor l0_0 (map b_si a0)))),(3,(.oi (wrap .i64 ((length p:Int)+1))))],[]⟩:St)=h98_0 l0_0 a0 ((length p:Int)+1)  from(by unfold h98_0; simp only[hw]; done)] at st
            exact .loopN st ih
/-! loop.example/g00539/spec.l14Parts -/
def m98 (a0:(List K_si)):Bool:=
  (match r98_0 a0 a0 0 with | .k0 w0_0 w1_0=>true | .k1=>false)
theorem e98 {l0_0:Nat} {a0:(List K_si)} (hy0:length a0*24≤140737488351232) (hy1:∀z∈a0,os_si z):Ev F X (.call 98 [(.one (.bor l0_0 (map b_si a0)))] [] [] [(.one (.val (.bool (m98 a0))))]):=by
  unfold m98
  cases h0:r98_0 a0 a0 0 with
  |k0 w0_0 w1_0=>
    try dsimp only
    have f0:(⟨[(0,(.one (.bor l0_0 (map b_si a0)))),(3,(.oi 0))],[]⟩:St)=h98_0 l0_0 a0 0 :=(by rfl)
    have f1:Ev F X (.code l98_0 (h98_0 l0_0 a0 0) (.exit 0) ⟨[(0,(.one (.bor l0_0 (map b_si a0)))),(3,(.oi w0_0)),(7,(.one (.val (.bool w1_0))))],[]⟩):=(by have t:Ev F X (.code l98_0 (h98_0 l0_0 a0 0) (ex98_0 (r98_0 a0 a0 0)) (fin98_0 l0_0 a0 (r98_0 a0 a0 0))):=t98_0 (l0_0:=l0_0) (a0:=a0) (by assumption) (by assumption) a0 []  rfl; rw[h0] at t; exact t)
    exact cp (by kernel_rfl) (.f f0 (.f f1 (.h 4 (.loop (h98_0 l0_0 a0 0) (.exit 0) ⟨[(0,(.one (.bor l0_0 (map b_si a0)))),(3,(.one (.val (.int .i64 w0_0)))),(7,(.one (.val (.bool w1_0))))],[]⟩) .nil)))
  |k1=>
    try dsimp only
    have f0:(⟨[(0,(.one (.bor l0_0 (map b_si a0)))),(3,(.oi 0))],[]⟩:St)=h98_0 l0_0 a0 0 :=(by rfl)
    have f1:Ev F X (.code l98_0 (h98_0 l0_0 a0 0) .ret ⟨[(2,(.one (.val (.bool false))))],[]⟩):=(by have t:Ev F X (.code l98_0 (h98_0 l0_0 a0 0) (ex98_0 (r98_0 a0 a0 0)) (fin98_0 l0_0 a0 (r98_0 a0 a0 0))):=t98_0 (l0_0:=l0_0) (a0:=a0) (by assumption) (by assumption) a0 []  rfl; rw[h0] at t; exact t)
    exact cp (by kernel_rfl) (.f f0 (.f f1 (.h 4 (.loop (h98_0 l0_0 a0 0) .ret ⟨[(2,(.one (.val (.bool false))))],[]⟩) .nil)))
/-! loop.example/g00539/spec.l14Reward -/
def m97 (a0:(List K_R)) (a1:Int):Int:=
  if(!(m105 ((getD a0 (toNat a1) (K_R.mk 0 0 0 [] 0)).f0) 0 2147483646))=true then 3 else
  if(!(m105 ((getD a0 (toNat a1) (K_R.mk 0 0 0 [] 0)).f1) 0 1000000))=true then 3 else
    if(!(m105 ((getD a0 (toNat a1) (K_R.mk 0 0 0 [] 0)).f2) 0 1000000))=true then 3 else
      if(!(m105 ((getD a0 (toNat a1) (K_R.mk 0 0 0 [] 0)).f4) 1 3))=true then 3 else
        if(decide (((length (map b_si ((getD a0 (toNat a1) (K_R.mk 0 0 0 [] 0)).f3))):Int) > 12))=true then 1 else
          if(!(m98 ((getD a0 (toNat a1) (K_R.mk 0 0 0 [] 0)).f3)))=true then 1 else
            if((wrap .i64 ((m99 ((getD a0 (toNat a1) (K_R.mk 0 0 0 [] 0)).f3))+((getD a0 (toNat a1) (K_R.mk 0 0 0 [] 0)).f2))) !=((getD a0 (toNat a1) (K_R.mk 0 0 0 [] 0)).f1))=true then 1 else
              if(decide ((m124 (take (toNat a1) a0) ((getD a0 (toNat a1) (K_R.mk 0 0 0 [] 0)).f0))≥0))=true then 6 else
                0
theorem e97 {l0_0:Nat} {a0:(List K_R)} {a1:Int} (hy0:length a0*56≤140737488351232) (hy1:∀z∈a0,os_R z) (hy2:0≤a1) (hy3:a1 <(length a0:Int)):Ev F X (.call 97 [(.one (.bor l0_0 (map b_R a0))),(.one (.val (.int .i64 a1)))] [] [] [(.one (.val (.int .i64 (m97 a0 a1))))]):=by
  unfold m97
  have f0:0≤a1:=(by with_reducible assumption)
  have f1:(map b_R a0)[(toNat a1)]?=some (b_R (getD a0 (toNat a1) (K_R.mk 0 0 0 [] 0))):=(by rw[getElem?_map,getD_at a0 (toNat a1) (K_R.mk 0 0 0 [] 0) (by first | exact True.intro | with_reducible rfl | with_reducible assumption | omega |(simp only[decide_eq_true_eq] at*; omega) |(simp only[length_map]; omega) |(simp; omega) |(simp[take_of_length_le]; done) | assumption | trivial |(simp[*,byteRows_eq,ints_y]; done))]; rfl)
  have P0 {hs q} (r:PS F X hs q):=(PS.f f0 (.f f1 (.h 7 (.row (b_R (getD a0 (toNat a1) (K_R.mk 0 0 0 [] 0)))) (.r 19 [] [] (e116 (a0:=((getD a0 (toNat a1) (K_R.mk 0 0 0 [] 0)).f0))) r))))
  by_cases h0:(!(m105 ((getD a0 (toNat a1) (K_R.mk 0 0 0 [] 0)).f0) 0 2147483646))=true
  · try simp only[if_pos h0]
    exact cp (by kernel_rfl) (P0 (.f h0 (.f h0 (.f h0 (.f h0 (.f h0 (.f h0 (.f h0 (.h 24 (.b true) (.h 26 (.b true) (.h 28 (.b true) (.h 30 (.b true) (.h 32 (.b true) (.h 34 (.b true) (.h 37 (.b true) .nil)))))))))))))))
  · try simp only[if_neg h0]
    have P1 {hs q} (r:PS F X hs q):=(P0 (.f (nt h0) (.f (nt h0) (.f (nt h0) (.f (nt h0) (.f (nt h0) (.h 24 (.b false) (.h 26 (.b false) (.h 28 (.b false) (.h 30 (.b false) (.h 32 (.b false) (.r 33 [] [] (e101 (a0:=((getD a0 (toNat a1) (K_R.mk 0 0 0 [] 0)).f1))) (.f (nt h0) (.f (nt h0) (.h 34 (.b false) (.h 37 (.b false) r))))))))))))))))
    by_cases h1:(!(m105 ((getD a0 (toNat a1) (K_R.mk 0 0 0 [] 0)).f1) 0 1000000))=true
    · try simp only[if_pos h1]
      exact cp (by kernel_rfl) (P1 (.f h1 (.f h1 (.f h1 (.f h1 (.f h1 (.f h1 (.f h1 (.h 40 (.b true) (.h 42 (.b true) (.h 44 (.b true) (.h 46 (.b true) (.h 48 (.b true) (.h 50 (.b true) (.h 53 (.b true) .nil)))))))))))))))
    · try simp only[if_neg h1]
      have P2 {hs q} (r:PS F X hs q):=(P1 (.f (nt h1) (.f (nt h1) (.f (nt h1) (.f (nt h1) (.f (nt h1) (.h 40 (.b false) (.h 42 (.b false) (.h 44 (.b false) (.h 46 (.b false) (.h 48 (.b false) (.r 49 [] [] (e101 (a0:=((getD a0 (toNat a1) (K_R.mk 0 0 0 [] 0)).f2))) (.f (nt h1) (.f (nt h1) (.h 50 (.b false) (.h 53 (.b false) r))))))))))))))))
      by_cases h2:(!(m105 ((getD a0 (toNat a1) (K_R.mk 0 0 0 [] 0)).f2) 0 1000000))=true
      · try simp only[if_pos h2]
        exact cp (by kernel_rfl) (P2 (.f h2 (.f h2 (.f h2 (.f h2 (.f h2 (.f h2 (.f h2 (.h 56 (.b true) (.h 58 (.b true) (.h 60 (.b true) (.h 62 (.b true) (.h 64 (.b true) (.h 66 (.b true) (.h 69 (.b true) .nil)))))))))))))))
      · try simp only[if_neg h2]
        have P3 {hs q} (r:PS F X hs q):=(P2 (.f (nt h2) (.f (nt h2) (.f (nt h2) (.f (nt h2) (.f (nt h2) (.h 56 (.b false) (.h 58 (.b false) (.h 60 (.b false) (.h 62 (.b false) (.h 64 (.b false) (.r 65 [] [] (e105 (a0:=((getD a0 (toNat a1) (K_R.mk 0 0 0 [] 0)).f4)) (a1:=1) (a2:=3)) (.f (nt h2) (.f (nt h2) (.h 66 (.b false) (.h 69 (.b false) r))))))))))))))))
        by_cases h3:(!(m105 ((getD a0 (toNat a1) (K_R.mk 0 0 0 [] 0)).f4) 1 3))=true
        · try simp only[if_pos h3]
          exact cp (by kernel_rfl) (P3 (.f h3 (.h 70 (.b true) .nil)))
        · try simp only[if_neg h3]
          have P4 {hs q} (r:PS F X hs q):=(P3 (.f (nt h3) (.h 70 (.b false) r)))
          by_cases h4:(decide (((length (map b_si ((getD a0 (toNat a1) (K_R.mk 0 0 0 [] 0)).f3))):Int) > 12))=true
          · try simp only[if_pos h4]
            exact cp (by kernel_rfl) (P4 (.f h4 (.f h4 (.f h4 (.f h4 (.f h4 (.f h4 (.f h4 (.h 85 (.b true) (.h 87 (.b true) (.h 89 (.b true) (.h 91 (.b true) (.h 93 (.b true) (.h 95 (.b true) (.h 98 (.b true) .nil)))))))))))))))
          · try simp only[if_neg h4]
            have P5 {hs q} (r:PS F X hs q):=(P4 (.f (nt h4) (.f (nt h4) (.f (nt h4) (.f (nt h4) (.f (nt h4) (.h 85 (.b false) (.h 87 (.b false) (.h 89 (.b false) (.h 91 (.b false) (.h 93 (.b false) (.r 94 [] [] (e98 (l0_0:=(l0_0+1)) (a0:=((getD a0 (toNat a1) (K_R.mk 0 0 0 [] 0)).f3)) (by have q:=gos_R (l:=a0) (by first | assumption |(intro z hz; exact(by assumption:∀z∈_,os_R z) z (List.mem_of_mem_take hz))) (toNat a1) (K_R.mk 0 0 0 [] 0) (by simp[os_R,ByteArray.size]); first | exact q | exact q.1 | exact q.2 | exact q.2.1 | exact q.2.2 | exact Nat.le_trans q (by decide) | exact Nat.le_trans q.1 (by decide) |(have q1:=q.1; simp only[length_map]; omega)) (by have q:=gos_R (l:=a0) (by first | assumption |(intro z hz; exact(by assumption:∀z∈_,os_R z) z (List.mem_of_mem_take hz))) (toNat a1) (K_R.mk 0 0 0 [] 0) (by simp[os_R,ByteArray.size]); first | exact q | exact q.1 | exact q.2 | exact q.2.1 | exact q.2.2 | exact Nat.le_trans q (by decide) | exact Nat.le_trans q.1 (by decide) |(have q1:=q.1; simp only[length_map]; omega))) (.f (nt h4) (.f (nt h4) (.h 95 (.b false) (.h 98 (.b false) r))))))))))))))))
            by_cases h5:(!(m98 ((getD a0 (toNat a1) (K_R.mk 0 0 0 [] 0)).f3)))=true
            · try simp only[if_pos h5]
              exact cp (by kernel_rfl) (P5 (.f h5 (.f h5 (.f h5 (.f h5 (.f h5 (.f h5 (.f h5 (.f h5 (.f h5 (.f h5 (.f h5 (.f h5 (.f h5 (.f h5 (.f h5 (.f h5 (.h 101 (.b true) (.h 103 (.b true) (.h 105 (.b true) (.h 107 (.b true) (.h 109 (.b true) (.h 111 (.b true) (.h 113 (.b true) (.h 115 (.b true) (.h 117 (.b true) (.h 119 (.b true) (.h 121 (.b true) (.h 123 (.b true) (.h 125 (.b true) (.h 127 (.b true) (.h 129 (.b true) (.h 132 (.b true) .nil)))))))))))))))))))))))))))))))))
            · try simp only[if_neg h5]
              have P6 {hs q} (r:PS F X hs q):=(P5 (.f (nt h5) (.f (nt h5) (.f (nt h5) (.f (nt h5) (.f (nt h5) (.h 101 (.b false) (.h 103 (.b false) (.h 105 (.b false) (.h 107 (.b false) (.h 109 (.b false) (.r 110 [] [] (e99 (l0_0:=(l0_0+1)) (a0:=((getD a0 (toNat a1) (K_R.mk 0 0 0 [] 0)).f3)) (by have q:=gos_R (l:=a0) (by first | assumption |(intro z hz; exact(by assumption:∀z∈_,os_R z) z (List.mem_of_mem_take hz))) (toNat a1) (K_R.mk 0 0 0 [] 0) (by simp[os_R,ByteArray.size]); first | exact q | exact q.1 | exact q.2 | exact q.2.1 | exact q.2.2 | exact Nat.le_trans q (by decide) | exact Nat.le_trans q.1 (by decide) |(have q1:=q.1; simp only[length_map]; omega))) (.f (nt h5) (.f (nt h5) (.f (nt h5) (.f (nt h5) (.f (nt h5) (.f trivial (.f (nt h5) (.f (nt h5) (.f (nt h5) (.f (nt h5) (.f (nt h5) (.f (nt h5) (.h 111 (.b false) (.h 113 (.b false) (.h 115 (.b false) (.h 117 (.b false) (.h 119 (.b false) (.h 121 (.b false) (.h 123 (.b false) (.h 125 (.b false) (.h 127 (.b false) (.h 129 (.b false) (.h 132 (.b false) r)))))))))))))))))))))))))))))))))))
              by_cases h6:((wrap .i64 ((m99 ((getD a0 (toNat a1) (K_R.mk 0 0 0 [] 0)).f3))+((getD a0 (toNat a1) (K_R.mk 0 0 0 [] 0)).f2))) !=((getD a0 (toNat a1) (K_R.mk 0 0 0 [] 0)).f1))=true
              · try simp only[if_pos h6]
                exact cp (by kernel_rfl) (P6 (.f h6 (.h 133 (.b true) .nil)))
              · try simp only[if_neg h6]
                have f55:(0≤(0:Int)∧(0:Int)≤a1∧a1≤((length (map b_R a0)):Int))∧∀r∈((map b_R a0):List (List B)),r.length=5:=(by refine⟨?_,lenB_R _⟩; simp only[length_map,length_set,length_append,length_replicate,length_cons,length_nil]; omega)
                have f56:Ev F X (.call 124 [(.one (.bor (l0_0+1) (take (toNat a1 - toNat 0) (drop 0 (map b_R a0))))),(.oi ((getD a0 (toNat a1) (K_R.mk 0 0 0 [] 0)).f0))] [] [] [(.oi (m124 (take (toNat a1) a0) ((getD a0 (toNat a1) (K_R.mk 0 0 0 [] 0)).f0)))]):=(by rw[show (take (toNat a1 - toNat 0) (drop 0 (map b_R a0)))=(map b_R (take (toNat a1) a0)) from by first | rfl |(simp[map_take,map_drop]; done) |(simp[byteRows_eq,map_take,map_drop]; done) |(simp[*,map_take,map_drop]; done) |(rw[take_of_length_le (by simp only[length_drop,length_take,length_map,Int.toNat_natCast]; omega)]; simp only[← map_drop,← map_take])]; exact(e124 (l0_0:=(l0_0+1)) (a0:=(take (toNat a1) a0)) (a1:=((getD a0 (toNat a1) (K_R.mk 0 0 0 [] 0)).f0)) (by simp only[length_take]; omega) (by intro z hz; exact os_ok_R z ((by assumption:∀z∈_,os_R z) z (List.mem_of_mem_take hz)))))
                by_cases h7:(decide ((m124 (take (toNat a1) a0) ((getD a0 (toNat a1) (K_R.mk 0 0 0 [] 0)).f0))≥0))=true
                · try simp only[if_pos h7]
                  exact cp (by kernel_rfl) (P6 (.f (nt h6) (.f f55 (.h 133 (.b false) (.r 149 [] [] f56 (.f h7 (.h 152 (.b true) .nil)))))))
                · try simp only[if_neg h7]
                  exact cp (by kernel_rfl) (P6 (.f (nt h6) (.f f55 (.h 133 (.b false) (.r 149 [] [] f56 (.f (nt h7) (.h 152 (.b false) .nil)))))))
/-! loop 51_0 -/
inductive O51_0 where
  |k0 (w0:Int) (w1:Bool)
  |k1 (w0:Int)
def r51_0 (a0:K_B):List K_R→Int→O51_0
  |x0::y0,i=>
    if((m97 a0.f3 i) !=0)=true then(O51_0.k1 (m97 a0.f3 i)) else
    (r51_0 a0 y0 (i+1))
  |[],i=>(O51_0.k0 i (decide (i <((length (map b_R a0.f3)):Int))))
def h51_0 (l0:Nat) (a0:K_B) (i:Int) :St:=⟨[(0,(.bptr l0 (b_B a0))),(4,(.one (.val (.int .i64 i))))],[]⟩
def ex51_0:O51_0→VX.Exit
  |.k0 _ _=>(.exit 0)
  |.k1 _=>.ret
def fin51_0 (l0:Nat) (a0:K_B):O51_0→St
  |.k0 w0 w1=>⟨[(0,(.bptr l0 (b_B a0))),(4,(.one (.val (.int .i64 w0)))),(49,(.one (.val (.bool w1))))],[]⟩
  |.k1 w0=>⟨[(2,(.one (.val (.int .i64 w0))))],[]⟩
theorem t51_0 {l0:Nat} {a0:K_B} (hy0:length a0.f2*24≤140737488351232) (hy1:∀z∈a0.f2,os_si z) (hy2:length a0.f3*56≤140737488351232) (hy3:∀z∈a0.f3,os_R z) (hy4:length a0.f4*24≤140737488351232) (hy5:∀z∈a0.f4,os_si z):∀(y0:List K_R) (p:List K_R),p++y0=a0.f3→Ev F X (.code l51_0 (h51_0 l0 a0 (length p:Int)) (ex51_0 (r51_0 a0 y0 (length p:Int))) (fin51_0 l0 a0 (r51_0 a0 y0 (length p:Int))))
  |[],p,hp0=>by
    have hc:¬(decide ((length p:Int) <((length (map b_R a0.f3)):Int)))=true:=by
      rw[← hp0]; simp only[length_map,length_set,length_append,length_replicate,length_cons,length_nil,decide_eq_true_eq]; omega
    have st:=ch b51_0 (h51_0 l0 a0 (length p:Int)) ⟨[(0,(.bptr l0 (b_B a0))),(4,(.oi (length p:Int))),(49,(.one (.val (.bool (decide ((length p:Int) <((length (map b_R a0.f3)):Int)))))))],[]⟩ (.exit 0) 15 (by kernel_rfl) (.f (nt hc) (.h 14 (.b false) .nil))
    rw[show (⟨[(0,(.bptr l0 (b_B a0))),(4,(.oi (length p:Int))),(49,(.one (.val (.bool (decide ((length p:Int) <((length (map b_R a0.f3)):Int)))))))],[]⟩:St)=fin51_0 l0 a0 (.k0 (length p:Int) (decide ((length p:Int) <((length (map b_R a0.f3)):Int)))) from(by rfl)] at st
    exact .loopX st (show ((.exit 0):VX.Exit)≠.normal from by simp)
  |x0::y0,p,hp0=>by
    have hc:(decide ((length p:Int) <((length (map b_R a0.f3)):Int)))=true:=by
      rw[← hp0]; simp only[length_map,length_set,length_append,length_replicate,length_cons,length_nil,decide_eq_true_eq]; omega
    have Hx0:(a0.f3)[toNat (length p:Int)]?=some x0:=by
      rw[← hp0,Int.toNat_natCast]; simp
    obtain⟨Mx0_0,Mx0_1⟩:=hy3 x0 (List.mem_of_getElem? Hx0)
    have hlen:length (a0.f3)=length p+length y0+1:=by rw[← hp0]; simp; omega
    have hw:wrap .i64 ((length p:Int)+1)=(length p:Int)+1:=wrap64 (by omega)
    simp only[r51_0]
    have P1 {hs q} (r:PS F X hs q):=(PS.f hc (.h 14 (.b true) (.r 26 [] [] (e97 (l0_0:=(l0+1)) (a0:=a0.f3) (a1:=(length p:Int)) (by with_reducible assumption) (by with_reducible assumption) (by omega) (by omega)) r)))
    by_cases h_1:((m97 a0.f3 (length p:Int)) !=0)=true
    · try simp only[if_pos h_1]
      have st:=ch b51_0 (h51_0 l0 a0 (length p:Int)) ⟨[(2,(.oi (m97 a0.f3 (length p:Int))))],[]⟩ .ret 38 (by kernel_rfl) (P1 (.f h_1 (.h 33 (.b true) .nil)))
      rw[show (⟨[(2,(.oi (m97 a0.f3 (length p:Int))))],[]⟩:St)=fin51_0 l0 a0 (.k1 (m97 a0.f3 (length p:Int))) from(by rfl)] at st
      exact .loopX st (show (.ret:VX.Exit)≠.normal from by simp)
    · try simp only[if_neg h_1]
      have st:=ch b51_0 (h51_0 l0 a0 (length p:Int)) ⟨[(0,(.bptr l0 (b_B a0))),(4,(.oi (wrap .i64 ((length p:Int)+1))))],[]⟩ .normal 40 (by kernel_rfl) (P1 (.f (nt h_1) (.f trivial (.h 33 (.b false) .nil))))
      have ih:=t51_0 (l0:=l0) (a0:=a0) hy0 hy1 hy2 hy3 hy4 hy5 y0 (p++ [x0]) (by rw[append_assoc]; exact hp0)
      rw[show ((p++ [x0]).length:Int)=(p.length:Int)+1 from by simp] at ih
      rw[show (⟨[(0,(.bptr l0 (b_B a0))),(4,(.oi (wrap .i64 ((length p:Int)+1))))],[]⟩:St)=h51_0 l0 a0 ((length p:Int)+1)  from(by unfold h51_0; simp only[hw]; done)] at st
      exact .loopN st ih
/-! loop.example/g00539/spec.l14Fault -/
def m51 (a0:K_B):Int:=
  if(!(m95 a0))=true then 3 else
  if((m96 a0.f2) !=0)=true then(m96 a0.f2) else
    if(decide (((length (map b_si a0.f2)):Int) > a0.f0))=true then 2 else
      if(decide (((length (map b_R a0.f3)):Int) > 6))=true then 2 else
        if(decide (((length (map b_si a0.f4)):Int) > 8))=true then 2 else
          (match r51_0 a0 a0.f3 0 with | .k0 w0_19 w1_19=>(if(!(m98 a0.f4))=true then 1 else if((wrap .i64 ((wrap .i64 ((m99 a0.f4)+a0.f6))+a0.f5)) !=(wrap .i64 ((m100 a0.f3 true)+a0.f7)))=true then 7 else if(!(m105 (m100 a0.f3 false) 0 1000000))=true then 7 else 0) | .k1 w0_19=>w0_19)
theorem e51 {l0:Nat} {a0:K_B} (hy0:length a0.f2*24≤140737488351232) (hy1:∀z∈a0.f2,os_si z) (hy2:length a0.f3*56≤140737488351232) (hy3:∀z∈a0.f3,os_R z) (hy4:length a0.f4*24≤140737488351232) (hy5:∀z∈a0.f4,os_si z):Ev F X (.call 51 [(.bptr l0 (b_B a0))] [] [] [(.one (.val (.int .i64 (m51 a0))))]):=by
  unfold m51
  have P0 {hs q} (r:PS F X hs q):=(PS.r 5 [] [] (e95 (l0:=(l0+1)) (a0:=a0)) r)
  by_cases h0:(!(m95 a0))=true
  · try simp only[if_pos h0]
    exact cp (by kernel_rfl) (P0 (.f h0 (.h 8 (.b true) .nil)))
  · try simp only[if_neg h0]
    have P1 {hs q} (r:PS F X hs q):=(P0 (.f (nt h0) (.h 8 (.b false) (.r 18 [] [] (e96 (l0_0:=(l0+1)) (a0:=a0.f2) (by with_reducible assumption) (by with_reducible assumption)) r))))
    by_cases h1:((m96 a0.f2) !=0)=true
    · try simp only[if_pos h1]
      exact cp (by kernel_rfl) (P1 (.f h1 (.h 25 (.b true) .nil)))
    · try simp only[if_neg h1]
      have P2 {hs q} (r:PS F X hs q):=(P1 (.f (nt h1) (.h 25 (.b false) r)))
      by_cases h2:(decide (((length (map b_si a0.f2)):Int) > a0.f0))=true
      · try simp only[if_pos h2]
        exact cp (by kernel_rfl) (P2 (.f h2 (.f h2 (.f h2 (.f h2 (.f h2 (.f h2 (.f h2 (.h 48 (.b true) (.h 50 (.b true) (.h 52 (.b true) (.h 54 (.b true) (.h 56 (.b true) (.h 58 (.b true) (.h 61 (.b true) .nil)))))))))))))))
      · try simp only[if_neg h2]
        have P3 {hs q} (r:PS F X hs q):=(P2 (.f (nt h2) (.f (nt h2) (.f (nt h2) (.f (nt h2) (.f (nt h2) (.f (nt h2) (.f (nt h2) (.h 48 (.b false) (.h 50 (.b false) (.h 52 (.b false) (.h 54 (.b false) (.h 56 (.b false) (.h 58 (.b false) (.h 61 (.b false) r)))))))))))))))
        by_cases h3:(decide (((length (map b_R a0.f3)):Int) > 6))=true
        · try simp only[if_pos h3]
          exact cp (by kernel_rfl) (P3 (.f h3 (.f h3 (.f h3 (.f h3 (.f h3 (.f h3 (.f h3 (.h 64 (.b true) (.h 66 (.b true) (.h 68 (.b true) (.h 70 (.b true) (.h 72 (.b true) (.h 74 (.b true) (.h 77 (.b true) .nil)))))))))))))))
        · try simp only[if_neg h3]
          have P4 {hs q} (r:PS F X hs q):=(P3 (.f (nt h3) (.f (nt h3) (.f (nt h3) (.f (nt h3) (.f (nt h3) (.f (nt h3) (.f (nt h3) (.h 64 (.b false) (.h 66 (.b false) (.h 68 (.b false) (.h 70 (.b false) (.h 72 (.b false) (.h 74 (.b false) (.h 77 (.b false) r)))))))))))))))
          by_cases h4:(decide (((length (map b_si a0.f4)):Int) > 8))=true
          · try simp only[if_pos h4]
            exact cp (by kernel_rfl) (P4 (.f h4 (.h 78 (.b true) .nil)))
          · try simp only[if_neg h4]
            have P5 {hs q} (r:PS F X hs q):=(P4 (.f (nt h4) (.h 78 (.b false) r)))
            cases h5:r51_0 a0 a0.f3 0 with
            |k0 w0_19 w1_19=>
              try dsimp only
              have f19:(⟨[(0,(.bptr l0 (b_B a0))),(4,(.oi 0))],[]⟩:St)=h51_0 l0 a0 0 :=(by rfl)
              have f20:Ev F X (.code l51_0 (h51_0 l0 a0 0) (.exit 0) ⟨[(0,(.bptr l0 (b_B a0))),(4,(.oi w0_19)),(49,(.one (.val (.bool w1_19))))],[]⟩):=(by have t:Ev F X (.code l51_0 (h51_0 l0 a0 0) (ex51_0 (r51_0 a0 a0.f3 0)) (fin51_0 l0 a0 (r51_0 a0 a0.f3 0))):=t51_0 (l0:=l0) (a0:=a0) (by assumption) (by assumption) (by assumption) (by assumption) (by assumption) (by assumption) a0.f3 []  rfl; rw[h5] at t; exact t)
              have P6 {hs q} (r:PS F X hs q):=(P5 (.f f19 (.f f20 (.h 81 (.loop (h51_0 l0 a0 0) (.exit 0) ⟨[(0,(.bptr l0 (b_B a0))),(4,(.one (.val (.int .i64 w0_19)))),(49,(.one (.val (.bool w1_19))))],[]⟩) (.r 91 [] [] (e98 (l0_0:=(l0+1)) (a0:=a0.f4) (by with_reducible assumption) (by with_reducible assumption)) r)))))
              by_cases h6:(!(m98 a0.f4))=true
              · try simp only[if_pos h6]
                exact cp (by kernel_rfl) (P6 (.f h6 (.h 94 (.b true) .nil)))
              · try simp only[if_neg h6]
                have P7 {hs q} (r:PS F X hs q):=(P6 (.f (nt h6) (.h 94 (.b false) (.r 104 [] [] (e99 (l0_0:=(l0+1)) (a0:=a0.f4) (by with_reducible assumption)) (.f trivial (.f trivial (.r 134 [] [] (e100 (l0_0:=(l0+1)) (a0:=a0.f3) (a1:=true) (by with_reducible assumption) (by intro z hz; exact os_ok_R z ((by assumption:∀z∈a0.f3,os_R z) z hz))) (.f trivial r))))))))
                by_cases h7:((wrap .i64 ((wrap .i64 ((m99 a0.f4)+a0.f6))+a0.f5)) !=(wrap .i64 ((m100 a0.f3 true)+a0.f7)))=true
                · try simp only[if_pos h7]
                  exact cp (by kernel_rfl) (P7 (.f h7 (.f h7 (.f h7 (.f h7 (.f h7 (.f h7 (.f h7 (.f h7 (.h 149 (.b true) (.h 151 (.b true) (.h 153 (.b true) (.h 155 (.b true) (.h 157 (.b true) (.h 159 (.b true) (.h 161 (.b true) (.h 164 (.b true) .nil)))))))))))))))))
                · try simp only[if_neg h7]
                  have P8 {hs q} (r:PS F X hs q):=(P7 (.f (nt h7) (.f (nt h7) (.f (nt h7) (.f (nt h7) (.f (nt h7) (.h 149 (.b false) (.h 151 (.b false) (.h 153 (.b false) (.h 155 (.b false) (.h 157 (.b false) (.r 158 [] [] (e100 (l0_0:=(l0+1)) (a0:=a0.f3) (a1:=false) (by with_reducible assumption) (by intro z hz; exact os_ok_R z ((by assumption:∀z∈a0.f3,os_R z) z hz))) (.f (nt h7) (.h 159 (.b false) (.r 160 [] [] (e101 (a0:=(m100 a0.f3 false))) (.f (nt h7) (.f (nt h7) (.h 161 (.b false) (.h 164 (.b false) r)))))))))))))))))))
                  by_cases h8:(!(m105 (m100 a0.f3 false) 0 1000000))=true
                  · try simp only[if_pos h8]
                    exact cp (by kernel_rfl) (P8 (.f h8 (.h 165 (.b true) .nil)))
                  · try simp only[if_neg h8]
                    exact cp (by kernel_rfl) (P8 (.f (nt h8) (.h 165 (.b false) .nil)))
            |k1 w0_19=>
              try dsimp only
              have f19:(⟨[(0,(.bptr l0 (b_B a0))),(4,(.oi 0))],[]⟩:St)=h51_0 l0 a0 0 :=(by rfl)
              have f20:Ev F X (.code l51_0 (h51_0 l0 a0 0) .ret ⟨[(2,(.oi w0_19))],[]⟩):=(by have t:Ev F X (.code l51_0 (h51_0 l0 a0 0) (ex51_0 (r51_0 a0 a0.f3 0)) (fin51_0 l0 a0 (r51_0 a0 a0.f3 0))):=t51_0 (l0:=l0) (a0:=a0) (by assumption) (by assumption) (by assumption) (by assumption) (by assumption) (by assumption) a0.f3 []  rfl; rw[h5] at t; exact t)
              exact cp (by kernel_rfl) (P5 (.f f19 (.f f20 (.h 81 (.loop (h51_0 l0 a0 0) .ret ⟨[(2,(.one (.val (.int .i64 w0_19))))],[]⟩) .nil))))
theorem rl97 {a:List K_R} {i:Int} (h:m97 a i=0):(getD a (toNat i) (K_R.mk 0 0 0 [] 0)).f3.length≤12:=by
  unfold m97 at h
  simp only[length_map] at h
  by_cases c:((getD a (toNat i) (K_R.mk 0 0 0 [] 0)).f3.length:Int) > 12
  · exfalso
    simp only[c,decide_true,if_true] at h
    (repeat' split at h)<;>simp at h
  · omega
theorem rz51 (a0:K_B):∀(l:List K_R) (i:Nat),((∃u v,r51_0 a0 l i=.k0 u v)∧∀j:Nat,j < l.length→m97 a0.f3 ((i+j:Nat):Int)=0)∨(∃w,r51_0 a0 l i=.k1 w∧w≠0)
  |[],i=>.inl ⟨⟨_,_,rfl⟩,fun j hj=>by simp at hj⟩
  |x::l,i=>by
    have ih:=rz51 a0 l (i+1)
    simp only[r51_0]
    by_cases c:((m97 a0.f3 (i:Int)) !=0)=true
    · rw[if_pos c]; exact .inr ⟨_,rfl,by simpa using c⟩
    · rw[if_neg c]
      rcases ih with⟨h1,h2⟩ | h
      · refine .inl ⟨h1,fun j hj=>?_⟩
        cases j with
        |zero=>simpa using c
        |succ j=>have:=h2 j (by simpa using hj); rw[← this]; congr 1; omega
      · exact .inr h
theorem fs51 {a0:K_B} (h:¬((m51 a0) !=0)=true):a0.f2.length≤12∧a0.f3.length≤6∧(∀z∈a0.f3,z.f3.length≤12)∧a0.f4.length≤8:=by
  have h:m51 a0=0:=by simpa using h
  unfold m51 at h
  split at h
  · cases h
  split at h
  · rename_i h2; rw[h] at h2; simp at h2
  rename_i h2
  split at h
  · cases h
  split at h
  · cases h
  rename_i h4
  split at h
  · cases h
  rename_i h5
  simp only[length_map,decide_eq_true_eq] at h4 h5
  rcases rz51 a0 a0.f3 0 with⟨_,hz⟩ |⟨w,hw,hn⟩
  · refine⟨len12_96 _ h2,by omega,fun z hz2=>?_,by omega⟩
    obtain⟨j,hj⟩:=List.getElem?_of_mem hz2
    have hlt:j < a0.f3.length:=by
      have:=List.getElem?_eq_some_iff.1 hj; exact this.1
    have:=rl97 (hz j hlt)
    rw[Nat.zero_add,Int.toNat_natCast,List.getD_eq_getElem?_getD,hj] at this
    exact this
  · rw[show ((0:Nat):Int)=0 from rfl] at hw
    rw[hw] at h; exact absurd h hn
theorem rg51 {a0:K_B} (h:¬((m51 a0) !=0)=true):1≤a0.f0∧a0.f0≤12:=by
  have h:m51 a0=0:=by simpa using h
  unfold m51 at h
  by_cases c:m95 a0=true
  · unfold m95 at c
    by_cases d:m105 a0.f0 1 12=true
    · unfold m105 at d
      split at d<;>simp_all<;>omega
    · rw[if_neg d] at c; cases c
  · rw[if_pos (by simpa using c)] at h; cases h
/-! loop.example/g00539/spec.CreditShare -/
def m12 (a0:K_B) (a1:K_si):K_C:=
  if((m51 a0) !=0)=true then(K_C.mk (m51 a0) 0 0 0 ([]) ([]) ([]) 0 0 0) else
  (m53 a0 a1)
theorem e12 {l0_2:Nat} {l0_3:Nat} {l0_4:Nat} {a0:K_B} {a1:K_si} (hy0:length a0.f2*24≤140737488351232) (hy1:∀z∈a0.f2,os_si z) (hy2:length a0.f3*56≤140737488351232) (hy3:∀z∈a0.f3,os_R z) (hy4:length a0.f4*24≤140737488351232) (hy5:∀z∈a0.f4,os_si z) (hy6:ByteArray.size a1.f0≤140737488351232):Ev F X (.call 12 [(.agg (k_B l0_2 l0_3 l0_4 a0)),(.agg [(.val (.string a1.f0)),(.val (.int .i64 a1.f1))])] [] [] [(.agg (d_C (m12 a0 a1)))]):=by
  unfold m12
  have f0:fullL [(.val (.int .i64 a0.f0)),(.val (.int .i64 a0.f1)),(.bor l0_2 (map b_si a0.f2)),(.bor l0_3 (map b_R a0.f3)),(.bor l0_4 (map b_si a0.f4)),(.val (.int .i64 a0.f5)),(.val (.int .i64 a0.f6)),(.val (.int .i64 a0.f7))]=true:=(by trivial)
  have P0 {hs q} (r:PS F X hs q):=(PS.f f0 (.r 7 [] [] (e51 (l0:=0) (a0:=a0) (by with_reducible assumption) (by with_reducible assumption) (by with_reducible assumption) (by with_reducible assumption) (by with_reducible assumption) (by with_reducible assumption)) r))
  by_cases h0:((m51 a0) !=0)=true
  · try simp only[if_pos h0]
    exact cp (by kernel_rfl) (P0 (.f h0 (.h 14 (.b true) (.r 18 [] [] (e52 (a0:=(m51 a0))) (pe 0 (pe (length (map d_si ([]))) (pe 0 (pe (length (map d_R ([]))) (pe 0 (pe (length (map d_si ([]))) (.f (pureR_si ([])) (.f (pureR_R ([])) (.f (pureR_si ([])) .nil)))))))))))))
  · try simp only[if_neg h0]
    exact cp (by kernel_rfl) (P0 (.f (nt h0) (.h 14 (.b false) (.r 20 [] [] (e53 (l0_2:=(l0_2+1)) (l0_3:=(l0_3+1)) (l0_4:=(l0_4+1)) (a0:=a0) (a1:=a1) (by have q:=fs51 (a0:=a0) (by with_reducible assumption); omega) (by have q:=fs51 (a0:=a0) (by with_reducible assumption); omega) (by have q:=fs51 (a0:=a0) (by with_reducible assumption); intro z hz; have q2:=q.2.2.1 z hz; omega) (by have q:=fs51 (a0:=a0) (by with_reducible assumption); omega) (by intro z hz; exact os_ok_R z ((by assumption:∀z∈a0.f3,os_R z) z hz)) (by with_reducible assumption) (by have q:=rg51 (a0:=a0) (by with_reducible assumption); omega) (by have q:=rg51 (a0:=a0) (by with_reducible assumption); omega)) (pe 0 (pe (length (map d_si ((m53 a0 a1).f4))) (pe 0 (pe (length (map d_R ((m53 a0 a1).f5))) (pe 0 (pe (length (map d_si ((m53 a0 a1).f6))) (.f (pureR_si ((m53 a0 a1).f4)) (.f (pureR_R ((m53 a0 a1).f5)) (.f (pureR_si ((m53 a0 a1).f6)) .nil)))))))))))))
theorem okm12 (a0:K_B) (a1:K_si):ok_C (m12 a0 a1):=by
  unfold m12
  split
  · simp[ok_LyE,ok_R,ok_B,ok_C,ok_LyEi,ok_LiE,ok_LsiE,ok_iLsiE,ok_Q]
  · rename_i h
    obtain⟨q1,q2,q3,q4⟩:=fs51 h
    unfold m53
    simp only[cp103]
    (repeat' split)<;>simp only[ok_LyE,ok_R,ok_B,ok_C,ok_LyEi,ok_LiE,ok_LsiE,ok_iLsiE,ok_Q]<;>first |(refine⟨?_,?_,?_,?_⟩<;>(simp; done)) |(refine⟨?_,?_,?_,?_⟩<;>first | omega |(rw[push_104 _ _ _ (by have q:=rg51 h; omega)]; simp only[length_drop,length_append,length_cons,length_nil]; omega) |(simp only[length_set,length_append,length_cons,length_nil,length_take,length_drop]; omega) | exact oall q3 | exact oset q3 (oget q3 _) | exact oset q3 (by simp) | exact oapp q3 (by simp))
/-! loop 14_0 -/
inductive O14_0 where
  |k0 (w0:Int) (w1:Int) (w2:Bool)
def r14_0 (a0:K_B):List K_si→Int→Int→O14_0
  |x0::y0,i,v0=>
    (r14_0 a0 y0 (i+1) (wrap .i64 (v0+x0.f1)))
  |[],i,v0=>(O14_0.k0 v0 i (decide (i <((length (map b_si a0.f4)):Int))))
def h14_0 (l0_2:Nat) (l0_3:Nat) (l0_4:Nat) (a0:K_B) (i:Int) (v0:Int):St:=⟨[(1,(.ptr ⟨(1,0,0),[],0,0,8⟩)),(3,(.one (.val (.int .i64 v0)))),(4,(.one (.val (.int .i64 i))))],[((1,0,0),.live ⟨8,[[(.val (.int .i64 a0.f0)),(.val (.int .i64 a0.f1)),(.bor l0_2 (map b_si a0.f2)),(.bor l0_3 (map b_R a0.f3)),(.bor l0_4 (map b_si a0.f4)),(.val (.int .i64 a0.f5)),(.val (.int .i64 a0.f6)),(.val (.int .i64 a0.f7))]],[]⟩)]⟩
def ex14_0:O14_0→VX.Exit
  |.k0 _ _ _=>(.exit 0)
def fin14_0 (l0_2:Nat) (l0_3:Nat) (l0_4:Nat) (a0:K_B):O14_0→St
  |.k0 w0 w1 w2=>⟨[(1,(.ptr ⟨(1,0,0),[],0,0,8⟩)),(3,(.one (.val (.int .i64 w0)))),(4,(.one (.val (.int .i64 w1)))),(9,(.one (.val (.bool w2))))],[((1,0,0),.live ⟨8,[[(.val (.int .i64 a0.f0)),(.val (.int .i64 a0.f1)),(.bor l0_2 (map b_si a0.f2)),(.bor l0_3 (map b_R a0.f3)),(.bor l0_4 (map b_si a0.f4)),(.val (.int .i64 a0.f5)),(.val (.int .i64 a0.f6)),(.val (.int .i64 a0.f7))]],[]⟩)]⟩
theorem t14_0 {l0_2:Nat} {l0_3:Nat} {l0_4:Nat} {a0:K_B} (hy0:length a0.f2*24≤140737488351232) (hy1:length a0.f3*56≤140737488351232) (hy2:∀z∈a0.f3,ok_R z) (hy3:length a0.f4*24≤140737488351232):∀(y0:List K_si) (p:List K_si) (v0:Int),p++y0=a0.f4→Ev F X (.code l14_0 (h14_0 l0_2 l0_3 l0_4 a0 (length p:Int) v0) (ex14_0 (r14_0 a0 y0 (length p:Int) v0)) (fin14_0 l0_2 l0_3 l0_4 a0 (r14_0 a0 y0 (length p:Int) v0)))
  |[],p,v0,hp0=>by
    have hc:¬(decide ((length p:Int) <((length (map b_si a0.f4)):Int)))=true:=by
      rw[← hp0]; simp only[length_map,length_set,length_append,length_replicate,length_cons,length_nil,decide_eq_true_eq]; omega
    have st:=ch b14_0 (h14_0 l0_2 l0_3 l0_4 a0 (length p:Int) v0) ⟨[(1,(.ptr ⟨(1,0,0),[],0,0,8⟩)),(3,(.oi v0)),(4,(.oi (length p:Int))),(9,(.one (.val (.bool (decide ((length p:Int) <((length (map b_si a0.f4)):Int)))))))],[((1,0,0),.live ⟨8,[[(.i a0.f0),(.i a0.f1),(.bor l0_2 (map b_si a0.f2)),(.bor l0_3 (map b_R a0.f3)),(.bor l0_4 (map b_si a0.f4)),(.i a0.f5),(.i a0.f6),(.i a0.f7)]],[]⟩)]⟩ (.exit 0) 11 (by kernel_rfl) (.f (nt hc) (.h 10 (.b false) .nil))
    rw[show (⟨[(1,(.ptr ⟨(1,0,0),[],0,0,8⟩)),(3,(.oi v0)),(4,(.oi (length p:Int))),(9,(.one (.val (.bool (decide ((length p:Int) <((length (map b_si a0.f4)):Int)))))))],[((1,0,0),.live ⟨8,[[(.i a0.f0),(.i a0.f1),(.bor l0_2 (map b_si a0.f2)),(.bor l0_3 (map b_R a0.f3)),(.bor l0_4 (map b_si a0.f4)),(.i a0.f5),(.i a0.f6),(.i a0.f7)]],[]⟩)]⟩:St)=fin14_0 l0_2 l0_3 l0_4 a0 (.k0 v0 (length p:Int) (decide ((length p:Int) <((length (map b_si a0.f4)):Int)))) from(by rfl)] at st
    exact .loopX st (show ((.exit 0):VX.Exit)≠.normal from by simp)
  |x0::y0,p,v0,hp0=>by
    have hc:(decide ((length p:Int) <((length (map b_si a0.f4)):Int)))=true:=by
      rw[← hp0]; simp only[length_map,length_set,length_append,length_replicate,length_cons,length_nil,decide_eq_true_eq]; omega
    have Hx0:(a0.f4)[toNat (length p:Int)]?=some x0:=by
      rw[← hp0,Int.toNat_natCast]; simp
    have hlen:length (a0.f4)=length p+length y0+1:=by rw[← hp0]; simp; omega
    have hw:wrap .i64 ((length p:Int)+1)=(length p:Int)+1:=wrap64 (by omega)
    simp only[r14_0]
    have f1:0≤(length p:Int):=(by omega)
    have f2:(map b_si a0.f4)[(toNat (length p:Int))]?=some (b_si x0):=(by rw[getElem?_map,Hx0]; rfl)
    have st:=ch b14_0 (h14_0 l0_2 l0_3 l0_4 a0 (length p:Int) v0) ⟨[(1,(.ptr ⟨(1,0,0),[],0,0,8⟩)),(3,(.oi (wrap .i64 (v0+x0.f1)))),(4,(.oi (wrap .i64 ((length p:Int)+1))))],[((1,0,0),.live ⟨8,[[(.i a0.f0),(.i a0.f1),(.bor l0_2 (map b_si a0.f2)),(.bor l0_3 (map b_R a0.f3)),(.bor l0_4 (map b_si a0.f4)),(.i a0.f5),(.i a0.f6),(.i a0.f7)]],[]⟩)]⟩ .normal 35 (by kernel_rfl) (.f hc (.f f1 (.f f2 (.f trivial (.f trivial (.h 10 (.b true) (.h 20 (.row (b_si x0)) .nil)))))))
    have ih:=t14_0 (l0_2:=l0_2) (l0_3:=l0_3) (l0_4:=l0_4) (a0:=a0) hy0 hy1 hy2 hy3 y0 (p++ [x0]) (wrap .i64 (v0+x0.f1)) (by rw[append_assoc]; exact hp0)
    rw[show ((p++ [x0]).length:Int)=(p.length:Int)+1 from by simp] at ih
    rw[show (⟨[(1,(.ptr ⟨(1,0,0),[],0,0,8⟩)),(3,(.oi (wrap .i64 (v0+x0.f1)))),(4,(.oi (wrap .i64 ((length p:Int)+1))))],[((1,0,0),.live ⟨8,[[(.i a0.f0),(.i a0.f1),(.bor l0_2 (map b_si a0.f2)),(.bor l0_3 (map b_R a0.f3)),(.bor l0_4 (map b_si a0.f4)),(.i a0.f5),(.i a0.f6),(.i a0.f7)]],[]⟩)]⟩:St)=h14_0 l0_2 l0_3 l0_4 a0 ((length p:Int)+1) (wrap .i64 (v0+x0.f1)) from(by unfold h14_0; simp only[hw]; done)] at st
    exact .loopN st ih
/-! loop.example/g00539/laws.lwDues -/
def m14 (a0:K_B):Int:=
  (match r14_0 a0 a0.f4 0 0 with | .k0 w0_0 w1_0 w2_0=>w0_0)
theorem e14 {l0_2:Nat} {l0_3:Nat} {l0_4:Nat} {a0:K_B} (hy0:length a0.f2*24≤140737488351232) (hy1:length a0.f3*56≤140737488351232) (hy2:∀z∈a0.f3,ok_R z) (hy3:length a0.f4*24≤140737488351232):Ev F X (.call 14 [(.agg (k_B l0_2 l0_3 l0_4 a0))] [] [] [(.one (.val (.int .i64 (m14 a0))))]):=by
  unfold m14
  cases h0:r14_0 a0 a0.f4 0 0 with
  |k0 w0_0 w1_0 w2_0=>
    try dsimp only
    have f0:(⟨[(1,(.ptr ⟨(1,0,0),[],0,0,8⟩)),(3,(.oi 0)),(4,(.oi 0))],[((1,0,0),.live ⟨8,[[(.i a0.f0),(.i a0.f1),(.bor l0_2 (map b_si a0.f2)),(.bor l0_3 (map b_R a0.f3)),(.bor l0_4 (map b_si a0.f4)),(.i a0.f5),(.i a0.f6),(.i a0.f7)]],[]⟩)]⟩:St)=h14_0 l0_2 l0_3 l0_4 a0 0 0:=(by rfl)
    have f1:Ev F X (.code l14_0 (h14_0 l0_2 l0_3 l0_4 a0 0 0) (.exit 0) ⟨[(1,(.ptr ⟨(1,0,0),[],0,0,8⟩)),(3,(.oi w0_0)),(4,(.oi w1_0)),(9,(.one (.val (.bool w2_0))))],[((1,0,0),.live ⟨8,[[(.i a0.f0),(.i a0.f1),(.bor l0_2 (map b_si a0.f2)),(.bor l0_3 (map b_R a0.f3)),(.bor l0_4 (map b_si a0.f4)),(.i a0.f5),(.i a0.f6),(.i a0.f7)]],[]⟩)]⟩):=(by have t:Ev F X (.code l14_0 (h14_0 l0_2 l0_3 l0_4 a0 0 0) (ex14_0 (r14_0 a0 a0.f4 0 0)) (fin14_0 l0_2 l0_3 l0_4 a0 (r14_0 a0 a0.f4 0 0))):=t14_0 (l0_2:=l0_2) (l0_3:=l0_3) (l0_4:=l0_4) (a0:=a0) (by assumption) (by assumption) (by assumption) (by assumption) a0.f4 [] 0 rfl; rw[h0] at t; exact t)
    exact cp (by kernel_rfl) (.f f0 (.f f1 (.h 8 (.loop (h14_0 l0_2 l0_3 l0_4 a0 0 0) (.exit 0) ⟨[(1,(.ptr ⟨(1,0,0),[],0,0,8⟩)),(3,(.one (.val (.int .i64 w0_0)))),(4,(.one (.val (.int .i64 w1_0)))),(9,(.one (.val (.bool w2_0))))],[((1,0,0),.live ⟨8,[[(.val (.int .i64 a0.f0)),(.val (.int .i64 a0.f1)),(.bor l0_2 (map b_si a0.f2)),(.bor l0_3 (map b_R a0.f3)),(.bor l0_4 (map b_si a0.f4)),(.val (.int .i64 a0.f5)),(.val (.int .i64 a0.f6)),(.val (.int .i64 a0.f7))]],[]⟩)]⟩) .nil)))
/-! loop.example/g00539/impl.DueOf -/
def m15 (a0:K_B) (a1:ByteArray):K_ii:=
  if((m13 a0) !=0)=true then(K_ii.mk (m13 a0) 0) else
  (K_ii.mk 0 (m44 a0.f4 a1))
theorem e15 {l0_2:Nat} {l0_3:Nat} {l0_4:Nat} {a0:K_B} {a1:ByteArray} (hy0:length a0.f2*24≤140737488351232) (hy1:length a0.f3*56≤140737488351232) (hy2:∀z∈a0.f3,ok_R z) (hy3:length a0.f4*24≤140737488351232):Ev F X (.call 15 [(.agg (k_B l0_2 l0_3 l0_4 a0)),(.one (.val (.string a1)))] [] [] [(.agg [(.val (.int .i64 ((m15 a0 a1).f0))),(.val (.int .i64 ((m15 a0 a1).f1)))])]):=by
  unfold m15
  have P0 {hs q} (r:PS F X hs q):=(PS.r 7 [] [] (e13 (l0_2:=(l0_2+1)) (l0_3:=(l0_3+1)) (l0_4:=(l0_4+1)) (a0:=a0) (by with_reducible assumption) (by with_reducible assumption) (by with_reducible assumption) (by with_reducible assumption)) r)
  by_cases h0:((m13 a0) !=0)=true
  · try simp only[if_pos h0]
    exact cp (by kernel_rfl) (P0 (.f h0 (.h 14 (.b true) .nil)))
  · try simp only[if_neg h0]
    exact cp (by kernel_rfl) (P0 (.f (nt h0) (.h 14 (.b false) (.r 22 [] [] (e44 (l0_0:=(l0_4+1)) (a0:=a0.f4) (a1:=a1) (by with_reducible assumption)) .nil))))
/-! loop.example/g00539/spec.DueOf -/
def m16 (a0:K_B) (a1:ByteArray):K_ii:=
  if((m51 a0) !=0)=true then(K_ii.mk (m51 a0) 0) else
  if(decide ((m60 a0.f4 a1) < 0))=true then(K_ii.mk 0 0) else
    (K_ii.mk 0 ((getD a0.f4 (toNat (m60 a0.f4 a1)) (K_si.mk (⟨#[]⟩:ByteArray) 0)).f1))
theorem e16 {l0_2:Nat} {l0_3:Nat} {l0_4:Nat} {a0:K_B} {a1:ByteArray} (hy0:length a0.f2*24≤140737488351232) (hy1:∀z∈a0.f2,os_si z) (hy2:length a0.f3*56≤140737488351232) (hy3:∀z∈a0.f3,os_R z) (hy4:length a0.f4*24≤140737488351232) (hy5:∀z∈a0.f4,os_si z) (hy6:ByteArray.size a1≤140737488351232):Ev F X (.call 16 [(.agg (k_B l0_2 l0_3 l0_4 a0)),(.one (.val (.string a1)))] [] [] [(.agg [(.val (.int .i64 ((m16 a0 a1).f0))),(.val (.int .i64 ((m16 a0 a1).f1)))])]):=by
  unfold m16
  have f0:fullL [(.val (.int .i64 a0.f0)),(.val (.int .i64 a0.f1)),(.bor l0_2 (map b_si a0.f2)),(.bor l0_3 (map b_R a0.f3)),(.bor l0_4 (map b_si a0.f4)),(.val (.int .i64 a0.f5)),(.val (.int .i64 a0.f6)),(.val (.int .i64 a0.f7))]=true:=(by trivial)
  have P0 {hs q} (r:PS F X hs q):=(PS.f f0 (.r 5 [] [] (e51 (l0:=0) (a0:=a0) (by with_reducible assumption) (by with_reducible assumption) (by with_reducible assumption) (by with_reducible assumption) (by with_reducible assumption) (by with_reducible assumption)) r))
  by_cases h0:((m51 a0) !=0)=true
  · try simp only[if_pos h0]
    exact cp (by kernel_rfl) (P0 (.f h0 (.h 12 (.b true) .nil)))
  · try simp only[if_neg h0]
    have P1 {hs q} (r:PS F X hs q):=(P0 (.f (nt h0) (.h 12 (.b false) (.r 20 [] [] (e60 (l0_0:=(l0_4+1)) (a0:=a0.f4) (a1:=a1) (by with_reducible assumption)) r))))
    by_cases h1:(decide ((m60 a0.f4 a1) < 0))=true
    · try simp only[if_pos h1]
      exact cp (by kernel_rfl) (P1 (.f h1 (.h 27 (.b true) .nil)))
    · try simp only[if_neg h1]
      have f5:0≤(m60 a0.f4 a1):=(by have q:=ix60 a0.f4 a1; simp only[decide_eq_true_eq,length_map] at*; omega)
      have f6:(map b_si a0.f4)[(toNat (m60 a0.f4 a1))]?=some (b_si (getD a0.f4 (toNat (m60 a0.f4 a1)) (K_si.mk (⟨#[]⟩:ByteArray) 0))):=(by rw[getElem?_map,getD_at a0.f4 (toNat (m60 a0.f4 a1)) (K_si.mk (⟨#[]⟩:ByteArray) 0) (by first | exact True.intro | with_reducible rfl | with_reducible assumption | omega |(have q:=ix60 a0.f4 a1; simp only[decide_eq_true_eq,length_map] at*; omega) |(unfold m60;(repeat' split)<;>simp_all<;>omega) |(simp only[decide_eq_true_eq] at*; omega) |(simp only[length_map]; omega) |(simp; omega) |(simp[take_of_length_le]; done) | assumption | trivial |(simp[*,byteRows_eq,ints_y]; done))]; rfl)
      exact cp (by kernel_rfl) (P1 (.f (nt h1) (.f f5 (.f f6 (.h 27 (.b false) (.h 35 (.row (b_si (getD a0.f4 (toNat (m60 a0.f4 a1)) (K_si.mk (⟨#[]⟩:ByteArray) 0)))) .nil))))))
/-! loop.example/g00539/spec.PayWorker -/
def m17 (a0:K_B) (a1:ByteArray) (a2:Int):K_C:=
  if((m51 a0) !=0)=true then(K_C.mk (m51 a0) 0 0 0 ([]) ([]) ([]) 0 0 0) else
  (m61 a0 a1 a2)
theorem e17 {l0_2:Nat} {l0_3:Nat} {l0_4:Nat} {a0:K_B} {a1:ByteArray} {a2:Int} (hy0:length a0.f2*24≤140737488351232) (hy1:∀z∈a0.f2,os_si z) (hy2:length a0.f3*56≤140737488351232) (hy3:∀z∈a0.f3,os_R z) (hy4:length a0.f4*24≤140737488351232) (hy5:∀z∈a0.f4,os_si z) (hy6:ByteArray.size a1≤140737488351232):Ev F X (.call 17 [(.agg (k_B l0_2 l0_3 l0_4 a0)),(.one (.val (.string a1))),(.one (.val (.int .i64 a2)))] [] [] [(.agg (d_C (m17 a0 a1 a2)))]):=by
  unfold m17
  have f0:fullL [(.val (.int .i64 a0.f0)),(.val (.int .i64 a0.f1)),(.bor l0_2 (map b_si a0.f2)),(.bor l0_3 (map b_R a0.f3)),(.bor l0_4 (map b_si a0.f4)),(.val (.int .i64 a0.f5)),(.val (.int .i64 a0.f6)),(.val (.int .i64 a0.f7))]=true:=(by trivial)
  have P0 {hs q} (r:PS F X hs q):=(PS.f f0 (.r 5 [] [] (e51 (l0:=0) (a0:=a0) (by with_reducible assumption) (by with_reducible assumption) (by with_reducible assumption) (by with_reducible assumption) (by with_reducible assumption) (by with_reducible assumption)) r))
  by_cases h0:((m51 a0) !=0)=true
  · try simp only[if_pos h0]
    exact cp (by kernel_rfl) (P0 (.f h0 (.h 12 (.b true) (.r 16 [] [] (e52 (a0:=(m51 a0))) (pe 0 (pe (length (map d_si ([]))) (pe 0 (pe (length (map d_R ([]))) (pe 0 (pe (length (map d_si ([]))) (.f (pureR_si ([])) (.f (pureR_R ([])) (.f (pureR_si ([])) .nil)))))))))))))
  · try simp only[if_neg h0]
    exact cp (by kernel_rfl) (P0 (.f (nt h0) (.h 12 (.b false) (.r 20 [] [] (e61 (l0_2:=(l0_2+1)) (l0_3:=(l0_3+1)) (l0_4:=(l0_4+1)) (a0:=a0) (a1:=a1) (a2:=a2) (by have q:=fs51 (a0:=a0) (by with_reducible assumption); omega) (by have q:=fs51 (a0:=a0) (by with_reducible assumption); omega) (by have q:=fs51 (a0:=a0) (by with_reducible assumption); intro z hz; have q2:=q.2.2.1 z hz; omega) (by have q:=fs51 (a0:=a0) (by with_reducible assumption); omega) (by intro z hz; exact os_ok_R z ((by assumption:∀z∈a0.f3,os_R z) z hz))) (pe 0 (pe (length (map d_si ((m61 a0 a1 a2).f4))) (pe 0 (pe (length (map d_R ((m61 a0 a1 a2).f5))) (pe 0 (pe (length (map d_si ((m61 a0 a1 a2).f6))) (.f (pureR_si ((m61 a0 a1 a2).f4)) (.f (pureR_R ((m61 a0 a1 a2).f5)) (.f (pureR_si ((m61 a0 a1 a2).f6)) .nil)))))))))))))
theorem okm17 (a0:K_B) (a1:ByteArray) (a2:Int):ok_C (m17 a0 a1 a2):=by
  unfold m17
  split
  · simp[ok_LyE,ok_R,ok_B,ok_C,ok_LyEi,ok_LiE,ok_LsiE,ok_iLsiE,ok_Q]
  · rename_i h
    obtain⟨q1,q2,q3,q4⟩:=fs51 h
    unfold m61
    simp only[cp103]
    (repeat' split)<;>simp only[ok_LyE,ok_R,ok_B,ok_C,ok_LyEi,ok_LiE,ok_LsiE,ok_iLsiE,ok_Q]<;>first |(refine⟨?_,?_,?_,?_⟩<;>(simp; done)) |(refine⟨?_,?_,?_,?_⟩<;>first | omega |(simp only[length_set,length_append,length_cons,length_nil,length_take,length_drop]; omega) | exact oall q3 | exact oset q3 (oget q3 _) | exact oset q3 (by simp) | exact oapp q3 (by simp))
end Go.Proofs.YtihjlmgakpgkeaaDoor.Pays
