/- What the functions compute. -/
import Derived.Test.YtihjlmgakpgkeaaDoorEJournalsB
import Derived.KernelRfl
namespace Go.Proofs.YtihjlmgakpgkeaaDoor.Journals
open Go Go.Proofs.YtihjlmgakpgkeaaDoor.V
set_option linter.unusedVariables false
set_option linter.unusedSimpArgs false
set_option maxRecDepth 20000
open Go.IntKind (wrap)
open Int (toNat)
open List (length_replicate length_map length_set length_append length_cons length_nil length_take length_drop take_of_length_le map_take map_drop map_set append_assoc getElem?_map map length take drop getD set)
attribute [local simp] strInts_len byteRows_len toBR_y fullR_y pureR_y lenB_y lenD_y fromBR_y copy_y toBR_LyE fullR_LyE pureR_LyE lenB_LyE lenD_LyE toBR_b fullR_b pureR_b lenB_b lenD_b fromBR_b copy_b toBR_isii fullR_isii pureR_isii lenB_isii lenD_isii fromBR_isii copy_isii toBR_iiLisiiE fullR_iiLisiiE pureR_iiLisiiE lenB_iiLisiiE lenD_iiLisiiE toBR_LyEi fullR_LyEi pureR_LyEi lenB_LyEi lenD_LyEi toBR_iLyEi fullR_iLyEi pureR_iLyEi lenB_iLyEi lenD_iLyEi toBR_iLyE fullR_iLyE pureR_iLyE lenB_iLyE lenD_iLyE toBR_i fullR_i pureR_i lenB_i lenD_i fromBR_i copy_i toBR_s fullR_s pureR_s lenB_s lenD_s fromBR_s copy_s toBR_LiE fullR_LiE pureR_LiE lenB_LiE lenD_LiE toBR_si fullR_si pureR_si lenB_si lenD_si fromBR_si copy_si toBR_R fullR_R pureR_R lenB_R lenD_R toBR_C fullR_C pureR_C lenB_C lenD_C toBR_B fullR_B pureR_B lenB_B lenD_B toBR_LsiE fullR_LsiE pureR_LsiE lenB_LsiE lenD_LsiE toBR_LLyEE fullR_LLyEE pureR_LLyEE lenB_LLyEE lenD_LLyEE toBR_LisiiE fullR_LisiiE pureR_LisiiE lenB_LisiiE lenD_LisiiE toBR_Q fullR_Q pureR_Q lenB_Q lenD_Q
def m152 (a0:Int) (a1:(List K_si)):(List K_si):=
  (match r152_0 a0 a1 (m157 a1) 0 ([]) ([]) a0 with | .k0 w0_2 w1_2 w2_2 w3_2 w4_2=>(match r152_1 w1_2 (toNat w2_2) w2_2 w0_2 w1_2 with | .k0 w0_3 w1_3 w2_3 w3_3=>w0_3))
theorem e152 {a0:Int} {l1_0:Nat} {a1:(List K_si)} (hy0:0≤a0) (hy1:a0≤1000000) (hy2:0 < length a1) (hy3:length a1≤12) (hy4:∀z∈a1,1≤z.f1∧z.f1≤9999):Ev F X (.call 152 [(.one (.val (.int .i64 a0))),(.one (.bor l1_0 (map b_si a1)))] [] [] [(.one (.own 2 (map d_si (m152 a0 a1))))]):=by
  unfold m152
  cases h0:r152_0 a0 a1 (m157 a1) 0 ([]) ([]) a0 with
  |k0 w0_2 w1_2 w2_2 w3_2 w4_2=>
    try dsimp only
    have zh0:=z152_0 (a0:=a0) (a1:=a1) (m157 a1) 0 ([]) ([]) a0; rw[h0] at zh0; simp only[post152_0,length_map,length_set,length_append,length_replicate,length_cons,length_nil,Int.toNat_natCast] at zh0; have qh0:=left_152 a0 a1 _ _ _ _ _ yb _ _ _ _ _ h0
    have f5:(⟨[(0,(.oi a0)),(5,(.one (.ref ⟨(5,0,0),[],0,(length (map d_si (m157 a1)))⟩))),(6,(.oi (m99 (m157 a1)))),(7,(.one (.ref ⟨(7,0,0),[],0,0⟩))),(8,(.one (.ref ⟨(8,0,0),[],0,0⟩))),(9,(.oi a0)),(10,(.oi 0))],[((5,0,0),.live ⟨2,(map d_si (m157 a1)),[]⟩),((7,0,0),.live ⟨2,[],[]⟩),((8,0,0),.live ⟨1,[],[]⟩)]⟩:St)=h152_0 l1_0 a0 a1 0 ([]) ([]) a0:=yv
    cases h1:r152_1 w1_2 (toNat w2_2) w2_2 w0_2 w1_2 with
    |k0 w0_3 w1_3 w2_3 w3_3=>
      try dsimp only
      have zh1:=z152_1 (c1_152_1:=w1_2) (toNat w2_2) w2_2 w0_2 w1_2; rw[h1] at zh1; simp only[post152_1,length_map,length_set,length_append,length_replicate,length_cons,length_nil,Int.toNat_natCast] at zh1
      have f7:(clean [7,8,9,18,19,45,57] ⟨[(0,(.oi a0)),(5,(.one (.ref ⟨(5,0,0),[],0,(length (map d_si (m157 a1)))⟩))),(6,(.oi (m99 (m157 a1)))),(7,(.one (.ref ⟨(7,0,0),[],0,(length (map d_si w0_2))⟩))),(8,(.one (.ref ⟨(8,0,0),[],0,(length (map d_i w1_2))⟩))),(9,(.oi w2_2)),(10,(.oi w3_2)),(24,(.one (.val (.bool w4_2))))],[((5,0,0),.live ⟨2,(map d_si (m157 a1)),[]⟩),((7,0,0),.live ⟨2,(map d_si w0_2),[]⟩),((8,0,0),.live ⟨1,(map d_i w1_2),[]⟩)]⟩:St)=h152_1 l1_0 a0 a1 w0_2 w1_2 w2_2 w2_2 w0_2 w1_2:=yv
      have f10:(length (map d_si w0_2))=(length (map d_si w0_3)):=yp
      exact cp ya (.r 5 [] [] (e157 (l0_0:=(l1_0+1)) (a0:=a1) yb) (ln_si (m157 a1) (.r 11 [] [(map b_si (m157 a1))] (e99 (l0_0:=0) (a0:=(m157 a1)) yp) (.f f5 (.f (ev_ (e:=ex152_0) (g:=(fin152_0 l1_0 a0 a1)) h0 (t152_0 (l1_0:=l1_0) (a0:=a0) (a1:=a1) (by assumption) (by assumption) (by assumption) (by assumption) (by assumption) (m157 a1) [] ([]) ([]) a0 rfl yu yu)) (.f f7 (.f (ev_ (e:=ex152_1) (g:=(fin152_1 l1_0 a0 a1 w0_2 w1_2 w2_2)) h1 (t152_1 (l1_0:=l1_0) (a0:=a0) (a1:=a1) (c0_152_1:=w0_2) (c1_152_1:=w1_2) (c2_152_1:=w2_2) (by assumption) (by assumption) (by assumption) (by assumption) (by assumption) yp yp _ w2_2 w0_2 w1_2 yb yaE yaE yb yb yu yu)) (pe 0 (.f f10 (.f (pureR_si w0_3) (.h 28 (.loop (h152_0 l1_0 a0 a1 0 ([]) ([]) a0) (.exit 0) ⟨[(0,(.oi a0)),(5,(.one (.ref ⟨(5,0,0),[],0,(length (map d_si (m157 a1)))⟩))),(6,(.oi (m99 (m157 a1)))),(7,(.one (.ref ⟨(7,0,0),[],0,(length (map d_si w0_2))⟩))),(8,(.one (.ref ⟨(8,0,0),[],0,(length (map d_i w1_2))⟩))),(9,(.oi w2_2)),(10,(.oi w3_2)),(24,(.one (.val (.bool w4_2))))],[((5,0,0),.live ⟨2,(map d_si (m157 a1)),[]⟩),((7,0,0),.live ⟨2,(map d_si w0_2),[]⟩),((8,0,0),.live ⟨1,(map d_i w1_2),[]⟩)]⟩) (.h 29 (.loopd [7,8,9,18,19,45,57] (h152_1 l1_0 a0 a1 w0_2 w1_2 w2_2 w2_2 w0_2 w1_2) (.exit 2) ⟨[(7,(.one (.ref ⟨(7,0,0),[],0,(length (map d_si w0_2))⟩))),(8,(.one (.ref ⟨(8,0,0),[],0,(length (map d_i w1_2))⟩))),(9,(.oi w2_3)),(62,(.one (.val (.bool w3_3))))],[((7,0,0),.live ⟨2,(map d_si w0_3),[]⟩),((8,0,0),.live ⟨1,(map d_i w1_3),[]⟩)]⟩) .nil))))))))))))
theorem dlen152 (t:Int) (a:List K_si):length (m152 t a)=length (m157 a):=by
  have z:=z152_0 (a0:=t) (a1:=a) (m157 a) 0 [] [] t
  unfold m152
  cases hr:r152_0 t a (m157 a) 0 [] [] t with
  |k0 w0 w1 w2 w3 w4=>
    rw[hr] at z
    have z1:=z152_1 (c1_152_1:=w1) (toNat w2) w2 w0 w1
    simp only[]
    cases hr1:r152_1 w1 (toNat w2) w2 w0 w1 with
    |k0 u0 u1 u2 u3=>
      rw[hr1] at z1
      simp only[post152_0,post152_1,length_nil,Nat.zero_add] at z z1
      simp only[]
      omega
theorem psz_0 (t:Int) (a:List K_si):∀(l:List K_si) (i:Int) (v:List K_si) (u:List Int) (k:Int),(∀z∈l,ByteArray.size z.f0≤3)→(∀z∈v,ByteArray.size z.f0≤3)→∀w0 w1 w2 w3 w4,r152_0 t a l i v u k=.k0 w0 w1 w2 w3 w4→∀z∈w0,ByteArray.size z.f0≤3
  |[],i,v,u,k,_,hv,w0,w1,w2,w3,w4,e=>by
    simp only[r152_0] at e
    injection e with e0 e1 e2 e3 e4
    subst e0; exact hv
  |x::l,i,v,u,k,hl,hv,w0,w1,w2,w3,w4,e=>by
    simp only[r152_0] at e
    exact psz_0 t a l _ _ _ _ (fun z hz=>hl z (List.mem_cons_of_mem _ hz)) yat w0 w1 w2 w3 w4 e
theorem psz_1 (c:List Int):∀(n:Nat) (i:Int) (v:List K_si) (u:List Int),(∀z∈v,ByteArray.size z.f0≤3)→∀w0 w1 w2 w3,r152_1 c n i v u=.k0 w0 w1 w2 w3→∀z∈w0,ByteArray.size z.f0≤3
  |0,i,v,u,hv,w0,w1,w2,w3,e=>by
    simp only[r152_1] at e
    injection e with e0 e1 e2 e3
    subst e0; exact hv
  |n+1,i,v,u,hv,w0,w1,w2,w3,e=>by
    simp only[r152_1] at e
    exact psz_1 c n _ _ _ yaB w0 w1 w2 w3 e
theorem psz (t:Int) {a:List K_si} (h:∀z∈a,ByteArray.size z.f0≤3):∀z∈m152 t a,ByteArray.size z.f0≤3:=by
  unfold m152
  cases e:r152_0 t a (m157 a) 0 [] [] t with
  |k0 w0 w1 w2 w3 w4=>
    simp only[]
    cases e1:r152_1 w1 (toNat w2) w2 w0 w1 with
    |k0 u0 u1 u2 u3=>
      exact psz_1 w1 _ _ w0 w1 (psz_0 t a _ _ [] [] t (msz h) (fun z hz=>by cases hz) w0 w1 w2 w3 w4 e) u0 u1 u2 u3 e1
def m143 (a0:K_B) (a1:Int) (a2:Int):K_C:=
  if(!(m105 a1 0 2147483646))=true then(K_C.mk 3 0 0 0 ([]) ([]) ([]) 0 0 0) else
  if(!(m105 a2 0 1000000))=true then(K_C.mk 3 0 0 0 ([]) ([]) ([]) 0 0 0) else
    if(decide ((m124 a0.f3 a1)≥0))=true then(K_C.mk 6 0 0 0 ([]) ([]) ([]) 0 0 0) else
      if(decide (((length (map b_R a0.f3)):Int)≥6))=true then(K_C.mk 10 0 0 0 ([]) ([]) ([]) 0 0 0) else
        if(!(m105 (wrap .i64 ((m100 a0.f3 false)+a2)) 0 1000000))=true then(K_C.mk 7 0 0 0 ([]) ([]) ([]) 0 0 0) else
          if(decide (((length (map b_si a0.f2)):Int) > 0))=true then(K_C.mk 0 (wrap .i64 (Int.tdiv (wrap .i64 (a2*a0.f1)) 1000)) ((m103 a0).f0) ((m103 a0).f1) ((m103 a0).f2) (((m103 a0).f3)++([(K_R.mk a1 a2 (wrap .i64 (Int.tdiv (wrap .i64 (a2*a0.f1)) 1000)) (m152 (wrap .i64 (a2 - (wrap .i64 (Int.tdiv (wrap .i64 (a2*a0.f1)) 1000)))) a0.f2) 1)])) ((m103 a0).f4) ((m103 a0).f5) ((m103 a0).f6) ((m103 a0).f7)) else
            (K_C.mk 0 a2 ((m103 a0).f0) ((m103 a0).f1) ((m103 a0).f2) (((m103 a0).f3)++([(K_R.mk a1 a2 a2 [] 1)])) ((m103 a0).f4) ((m103 a0).f5) ((m103 a0).f6) ((m103 a0).f7))
theorem e143 {l0_2:Nat} {l0_3:Nat} {l0_4:Nat} {a0:K_B} {a1:Int} {a2:Int} (hy0:length a0.f2≤100) (hy1:length a0.f3≤100) (hy2:∀z∈a0.f3,length z.f3≤100) (hy3:length a0.f4≤100) (hy4:∀z∈a0.f3,ok_R z) (hy5:length a0.f2≤12) (hy6:∀z∈a0.f2,1≤z.f1∧z.f1≤9999) (hy7:0≤a0.f1∧a0.f1≤1000):Ev F X (.call 143 [(.agg (k_B l0_2 l0_3 l0_4 a0)),(.one (.val (.int .i64 a1))),(.one (.val (.int .i64 a2)))] [] [] [(.agg (d_C (m143 a0 a1 a2)))]):=by
  unfold m143
  have P0 {hs q} (r:PS F X hs q):=(PS.r 7 [] [] (e116 (a0:=a1)) r)
  by_cases h0:(!(m105 a1 0 2147483646))=true
  · try simp only[if_pos h0]
    exact cp ya (P0 (.f h0 (.f h0 (.f h0 (.f h0 (T 12 (T 14 (T 16 (T 19 (.r 22 [] [] (e52 (a0:=3)) (p3 ([]) ([]) ([]) (.f (pureR_si ([])) (.f (pureR_R ([])) (.f (pureR_si ([])) .nil))))))))))))))
  try simp only[if_neg h0]
  have P1 {hs q} (r:PS F X hs q):=(P0 (N h0 (N h0 (U 12 (U 14 (.r 15 [] [] (e101 (a0:=a2)) (N h0 (N h0 (U 16 (U 19 r))))))))))
  by_cases h1:(!(m105 a2 0 1000000))=true
  · try simp only[if_pos h1]
    exact cp ya (P1 (.f h1 (T 20 (.r 22 [] [] (e52 (a0:=3)) (p3 ([]) ([]) ([]) (.f (pureR_si ([])) (.f (pureR_R ([])) (.f (pureR_si ([])) .nil))))))))
  try simp only[if_neg h1]
  have P2 {hs q} (r:PS F X hs q):=(P1 (N h1 (U 20 (.r 28 [] [] (e124 (l0_0:=(l0_3+1)) (a0:=a0.f3) (a1:=a1) yb ‹_›) r))))
  by_cases h2:(decide ((m124 a0.f3 a1)≥0))=true
  · try simp only[if_pos h2]
    exact cp ya (P2 (.f h2 (T 31 (.r 33 [] [] (e52 (a0:=6)) (p3 ([]) ([]) ([]) (.f (pureR_si ([])) (.f (pureR_R ([])) (.f (pureR_si ([])) .nil))))))))
  try simp only[if_neg h2]
  have P3 {hs q} (r:PS F X hs q):=(P2 (N h2 (U 31 r)))
  by_cases h3:(decide (((length (map b_R a0.f3)):Int)≥6))=true
  · try simp only[if_pos h3]
    exact cp ya (P3 (.f h3 (T 40 (.r 42 [] [] (e52 (a0:=10)) (p3 ([]) ([]) ([]) (.f (pureR_si ([])) (.f (pureR_R ([])) (.f (pureR_si ([])) .nil))))))))
  try simp only[if_neg h3]
  have P4 {hs q} (r:PS F X hs q):=(P3 (N h3 (U 40 (.r 46 [] [] (e100 (l0_0:=(l0_3+1)) (a0:=a0.f3) (a1:=false) yb ‹_›) (.f trivial (.r 52 [] [] (e101 (a0:=(wrap .i64 ((m100 a0.f3 false)+a2)))) r))))))
  by_cases h4:(!(m105 (wrap .i64 ((m100 a0.f3 false)+a2)) 0 1000000))=true
  · try simp only[if_pos h4]
    exact cp ya (P4 (.f h4 (T 55 (.r 57 [] [] (e52 (a0:=7)) (p3 ([]) ([]) ([]) (.f (pureR_si ([])) (.f (pureR_R ([])) (.f (pureR_si ([])) .nil))))))))
  try simp only[if_neg h4]
  by_cases h5:(decide (((length (map b_si a0.f2)):Int) > 0))=true
  · try simp only[if_pos h5]
    have f15:(1000:Int)≠0:=yb
    have f28:0+(length (map d_R ((m103 a0).f3)))≤(length (map d_R ((m103 a0).f3))):=yb
    have f29:1≤1:=yb
    have f30:((take 1 (drop 0 [[(.i a1),(.i a2),(.i (wrap .i64 (Int.tdiv (wrap .i64 (a2*a0.f1)) 1000))),(.own 2 (map d_si (m152 (wrap .i64 (a2 - (wrap .i64 (Int.tdiv (wrap .i64 (a2*a0.f1)) 1000)))) a0.f2))),(.i 1)]])).all fun x=>x.all copyable)=false:=yA
    have f33:(length ((take (length (map d_R ((m103 a0).f3))) (drop 0 (map d_R ((m103 a0).f3))))++([[(.i a1),(.i a2),(.i (wrap .i64 (Int.tdiv (wrap .i64 (a2*a0.f1)) 1000))),(.own 2 (map d_si (m152 (wrap .i64 (a2 - (wrap .i64 (Int.tdiv (wrap .i64 (a2*a0.f1)) 1000)))) a0.f2))),(.i 1)]]:List (List D))))*56≤70368744177664:=yah
    have f34:∀r∈([[(.i a1),(.i a2),(.i (wrap .i64 (Int.tdiv (wrap .i64 (a2*a0.f1)) 1000))),(.own 2 (map d_si (m152 (wrap .i64 (a2 - (wrap .i64 (Int.tdiv (wrap .i64 (a2*a0.f1)) 1000)))) a0.f2))),(.i 1)]]:List (List D)),r.length=5:=(by unfold m152;(repeat' split)<;>simp_all<;>omega)
    have f37:([[(.i ((m103 a0).f0)),(.i ((m103 a0).f1)),(.own 2 (map d_si ((m103 a0).f2))),(.own 5 ((take (length (map d_R ((m103 a0).f3))) (drop 0 (map d_R ((m103 a0).f3))))++([[(.i a1),(.i a2),(.i (wrap .i64 (Int.tdiv (wrap .i64 (a2*a0.f1)) 1000))),(.own 2 (map d_si (m152 (wrap .i64 (a2 - (wrap .i64 (Int.tdiv (wrap .i64 (a2*a0.f1)) 1000)))) a0.f2))),(.i 1)]]:List (List D)))),(.own 2 (map d_si ((m103 a0).f4))),(.i ((m103 a0).f5)),(.i ((m103 a0).f6)),(.i ((m103 a0).f7))]]:List (List D))=[[(.i ((m103 a0).f0)),(.i ((m103 a0).f1)),(.own 2 (map d_si ((m103 a0).f2))),(.own 5 (map d_R (((m103 a0).f3)++([(K_R.mk a1 a2 (wrap .i64 (Int.tdiv (wrap .i64 (a2*a0.f1)) 1000)) (m152 (wrap .i64 (a2 - (wrap .i64 (Int.tdiv (wrap .i64 (a2*a0.f1)) 1000)))) a0.f2) 1)])))),(.own 2 (map d_si ((m103 a0).f4))),(.i ((m103 a0).f5)),(.i ((m103 a0).f6)),(.i ((m103 a0).f7))]]:=yN
    exact cp ya (P4 (N h4 (.f h5 (.f f15 (U 55 (T 76 (.r 104 [] [] (e152 (l1_0:=(l0_2+1)) (a0:=(wrap .i64 (a2 - (wrap .i64 (Int.tdiv (wrap .i64 (a2*a0.f1)) 1000))))) (a1:=a0.f2) yS yS yI ‹_› ‹_›) (pe 0 (pe (length (map d_si (m152 (wrap .i64 (a2 - (wrap .i64 (Int.tdiv (wrap .i64 (a2*a0.f1)) 1000)))) a0.f2))) (.r 112 [] [] (e103 (l0_2:=(l0_2+1)) (l0_3:=(l0_3+1)) (l0_4:=(l0_4+1)) (a0:=a0) ‹_› ‹_› ‹_› ‹_› ‹_›) (p3 ((m103 a0).f2) ((m103 a0).f3) ((m103 a0).f4) (pe 0 (pe (length (map d_si (m152 (wrap .i64 (a2 - (wrap .i64 (Int.tdiv (wrap .i64 (a2*a0.f1)) 1000)))) a0.f2))) (.f f28 (.f f29 (.f f30 (pe 0 (pe 1 (.f f33 (.f f34 (pe 0 (pe (length ((take (length (map d_R ((m103 a0).f3))) (drop 0 (map d_R ((m103 a0).f3))))++([[(.i a1),(.i a2),(.i (wrap .i64 (Int.tdiv (wrap .i64 (a2*a0.f1)) 1000))),(.own 2 (map d_si (m152 (wrap .i64 (a2 - (wrap .i64 (Int.tdiv (wrap .i64 (a2*a0.f1)) 1000)))) a0.f2))),(.i 1)]]:List (List D)))) (.f f37 (p3 ((m103 a0).f2) (((m103 a0).f3)++([(K_R.mk a1 a2 (wrap .i64 (Int.tdiv (wrap .i64 (a2*a0.f1)) 1000)) (m152 (wrap .i64 (a2 - (wrap .i64 (Int.tdiv (wrap .i64 (a2*a0.f1)) 1000)))) a0.f2) 1)])) ((m103 a0).f4) (.f (pureR_si ((m103 a0).f2)) (.f (pureR_R (((m103 a0).f3)++([(K_R.mk a1 a2 (wrap .i64 (Int.tdiv (wrap .i64 (a2*a0.f1)) 1000)) (m152 (wrap .i64 (a2 - (wrap .i64 (Int.tdiv (wrap .i64 (a2*a0.f1)) 1000)))) a0.f2) 1)]))) (.f (pureR_si ((m103 a0).f4)) (U 126 (.h 131 (.norm (8,0,0) [[(.i ((m103 a0).f0)),(.i ((m103 a0).f1)),(.own 2 (map d_si ((m103 a0).f2))),(.own 5 (map d_R (((m103 a0).f3)++([(K_R.mk a1 a2 (wrap .i64 (Int.tdiv (wrap .i64 (a2*a0.f1)) 1000)) (m152 (wrap .i64 (a2 - (wrap .i64 (Int.tdiv (wrap .i64 (a2*a0.f1)) 1000)))) a0.f2) 1)])))),(.own 2 (map d_si ((m103 a0).f4))),(.i ((m103 a0).f5)),(.i ((m103 a0).f6)),(.i ((m103 a0).f7))]]) .nil)))))))))))))))))))))))))))))
  try simp only[if_neg h5]
  have f24:0+(length (map d_R ((m103 a0).f3)))≤(length (map d_R ((m103 a0).f3))):=yb
  have f25:1≤1:=yb
  have f26:((take 1 (drop 0 [[(.i a1),(.i a2),(.i a2),(.own 2 []),(.i 1)]])).all fun x=>x.all copyable)=false:=yA
  have f29:(length ((take (length (map d_R ((m103 a0).f3))) (drop 0 (map d_R ((m103 a0).f3))))++([[(.i a1),(.i a2),(.i a2),(.own 2 []),(.i 1)]]:List (List D))))*56≤70368744177664:=yah
  have f30:∀r∈([[(.i a1),(.i a2),(.i a2),(.own 2 []),(.i 1)]]:List (List D)),r.length=5:=yag
  have f33:([[(.i ((m103 a0).f0)),(.i ((m103 a0).f1)),(.own 2 (map d_si ((m103 a0).f2))),(.own 5 ((take (length (map d_R ((m103 a0).f3))) (drop 0 (map d_R ((m103 a0).f3))))++([[(.i a1),(.i a2),(.i a2),(.own 2 []),(.i 1)]]:List (List D)))),(.own 2 (map d_si ((m103 a0).f4))),(.i ((m103 a0).f5)),(.i ((m103 a0).f6)),(.i ((m103 a0).f7))]]:List (List D))=[[(.i ((m103 a0).f0)),(.i ((m103 a0).f1)),(.own 2 (map d_si ((m103 a0).f2))),(.own 5 (map d_R (((m103 a0).f3)++([(K_R.mk a1 a2 a2 [] 1)])))),(.own 2 (map d_si ((m103 a0).f4))),(.i ((m103 a0).f5)),(.i ((m103 a0).f6)),(.i ((m103 a0).f7))]]:=yN
  exact cp ya (P4 (N h4 (N h5 (U 55 (U 76 (.r 80 [] [] (e103 (l0_2:=(l0_2+1)) (l0_3:=(l0_3+1)) (l0_4:=(l0_4+1)) (a0:=a0) ‹_› ‹_› ‹_› ‹_› ‹_›) (p3 ((m103 a0).f2) ((m103 a0).f3) ((m103 a0).f4) (pe 0 (pe 0 (.f f24 (.f f25 (.f f26 (pe 0 (pe 1 (.f f29 (.f f30 (pe 0 (pe (length ((take (length (map d_R ((m103 a0).f3))) (drop 0 (map d_R ((m103 a0).f3))))++([[(.i a1),(.i a2),(.i a2),(.own 2 []),(.i 1)]]:List (List D)))) (.f f33 (p3 ((m103 a0).f2) (((m103 a0).f3)++([(K_R.mk a1 a2 a2 [] 1)])) ((m103 a0).f4) (.f (pureR_si ((m103 a0).f2)) (.f (pureR_R (((m103 a0).f3)++([(K_R.mk a1 a2 a2 [] 1)]))) (.f (pureR_si ((m103 a0).f4)) (U 94 (.h 99 (.norm (8,0,0) [[(.i ((m103 a0).f0)),(.i ((m103 a0).f1)),(.own 2 (map d_si ((m103 a0).f2))),(.own 5 (map d_R (((m103 a0).f3)++([(K_R.mk a1 a2 a2 [] 1)])))),(.own 2 (map d_si ((m103 a0).f4))),(.i ((m103 a0).f5)),(.i ((m103 a0).f6)),(.i ((m103 a0).f7))]]) .nil)))))))))))))))))))))))))
theorem foG {a:K_B} {i t:Int} (h:GL a) (hc:¬((m143 a i t).f0 !=0)=true):GL (K_B.mk (m143 a i t).f2 (m143 a i t).f3 (m143 a i t).f4 (m143 a i t).f5 (m143 a i t).f6 (m143 a i t).f7 (m143 a i t).f8 (m143 a i t).f9):=by
  obtain⟨h1,h2,h3,h4,h5⟩:=h
  generalize hr:m143 a i t=r at hc⊢
  unfold m143 at hr
  simp only[cp103] at hr
  (repeat' split at hr)<;>subst hr<;>first
    |(exfalso; simp at hc; done)
    | (refine ⟨h1, h2, h3, ?_, h5⟩
       simp only[length_map,decide_eq_true_eq] at*
       refine gr_le (gr_app (n:=5) ⟨by omega,h4.2⟩ ?_) yam
       first | exact⟨by simp,fun z hz=>by cases hz⟩ | exact⟨by simp only[]; rw[dlen152]; exact Nat.le_trans (mlen_157 _) h3.1,psz _ h3.2.2⟩)
def m144 (a0:K_B) (a1:Int):K_C:=
  if(decide ((m124 a0.f3 a1) < 0))=true then(K_C.mk 4 0 0 0 ([]) ([]) ([]) 0 0 0) else
  if(((getD a0.f3 (toNat (m124 a0.f3 a1)) (K_R.mk 0 0 0 [] 0)).f4)==3)=true then(K_C.mk 9 0 0 0 ([]) ([]) ([]) 0 0 0) else
    if (((getD a0.f3 (toNat (m124 a0.f3 a1)) (K_R.mk 0 0 0 [] 0)).f4) == 2) = true then (if (!(m105 (wrap .i64 (a0.f7 + ((getD a0.f3 (toNat (m124 a0.f3 a1)) (K_R.mk 0 0 0 [] 0)).f1))) 0 1000000)) = true then (K_C.mk 7 0 0 0 ([]) ([]) ([]) 0 0 0) else
        (K_C.mk 0 0 ((m103 a0).f0) ((m103 a0).f1) ((m103 a0).f2) (set ((m103 a0).f3) (toNat (m124 a0.f3 a1)) (K_R.mk ((getD ((m103 a0).f3) (toNat (m124 a0.f3 a1)) (K_R.mk 0 0 0 [] 0)).f0) ((getD ((m103 a0).f3) (toNat (m124 a0.f3 a1)) (K_R.mk 0 0 0 [] 0)).f1) ((getD ((m103 a0).f3) (toNat (m124 a0.f3 a1)) (K_R.mk 0 0 0 [] 0)).f2) ((getD ((m103 a0).f3) (toNat (m124 a0.f3 a1)) (K_R.mk 0 0 0 [] 0)).f3) 3)) ((m103 a0).f4) ((m103 a0).f5) ((m103 a0).f6) (wrap .i64 (a0.f7+((getD a0.f3 (toNat (m124 a0.f3 a1)) (K_R.mk 0 0 0 [] 0)).f1))))) else
      if(!(m105 ((m103 a0).f7) 0 1000000))=true then(K_C.mk 7 0 0 0 ([]) ([]) ([]) 0 0 0) else
        (K_C.mk 0 0 ((m103 a0).f0) ((m103 a0).f1) ((m103 a0).f2) (set ((m103 a0).f3) (toNat (m124 a0.f3 a1)) (K_R.mk ((getD ((m103 a0).f3) (toNat (m124 a0.f3 a1)) (K_R.mk 0 0 0 [] 0)).f0) ((getD ((m103 a0).f3) (toNat (m124 a0.f3 a1)) (K_R.mk 0 0 0 [] 0)).f1) ((getD ((m103 a0).f3) (toNat (m124 a0.f3 a1)) (K_R.mk 0 0 0 [] 0)).f2) ((getD ((m103 a0).f3) (toNat (m124 a0.f3 a1)) (K_R.mk 0 0 0 [] 0)).f3) 3)) ((m103 a0).f4) ((m103 a0).f5) ((m103 a0).f6) ((m103 a0).f7))
theorem e144 {l0_2:Nat} {l0_3:Nat} {l0_4:Nat} {a0:K_B} {a1:Int} (hy0:length a0.f2≤100) (hy1:length a0.f3≤100) (hy2:∀z∈a0.f3,length z.f3≤100) (hy3:length a0.f4≤100) (hy4:∀z∈a0.f3,ok_R z):Ev F X (.call 144 [(.agg (k_B l0_2 l0_3 l0_4 a0)),(.one (.val (.int .i64 a1)))] [] [] [(.agg (d_C (m144 a0 a1)))]):=by
  unfold m144
  have P0 {hs q} (r:PS F X hs q):=(PS.r 11 [] [] (e124 (l0_0:=(l0_3+1)) (a0:=a0.f3) (a1:=a1) yb ‹_›) r)
  by_cases h0:(decide ((m124 a0.f3 a1) < 0))=true
  · try simp only[if_pos h0]
    exact cp ya (P0 (.f h0 (T 18 (.r 20 [] [] (e52 (a0:=4)) (p3 ([]) ([]) ([]) (.f (pureR_si ([])) (.f (pureR_R ([])) (.f (pureR_si ([])) .nil))))))))
  try simp only[if_neg h0]
  have f2:0≤(m124 a0.f3 a1):=yR
  have P1 {hs q} (r:PS F X hs q):=(P0 (N h0 (.f f2 (.f (mp_ b_R (getD_at a0.f3 (toNat (m124 a0.f3 a1)) (K_R.mk 0 0 0 [] 0) yR)) (U 18 (.h 26 (.row (b_R (getD a0.f3 (toNat (m124 a0.f3 a1)) (K_R.mk 0 0 0 [] 0)))) r))))))
  by_cases h1:(((getD a0.f3 (toNat (m124 a0.f3 a1)) (K_R.mk 0 0 0 [] 0)).f4)==3)=true
  · try simp only[if_pos h1]
    exact cp ya (P1 (.f h1 (T 39 (.r 41 [] [] (e52 (a0:=9)) (p3 ([]) ([]) ([]) (.f (pureR_si ([])) (.f (pureR_R ([])) (.f (pureR_si ([])) .nil))))))))
  try simp only[if_neg h1]
  have P2 {hs q} (r:PS F X hs q):=(P1 (N h1 (U 39 (.r 43 [] [] (e103 (l0_2:=(l0_2+1)) (l0_3:=(l0_3+1)) (l0_4:=(l0_4+1)) (a0:=a0) ‹_› ‹_› ‹_› ‹_› ‹_›) (p3 ((m103 a0).f2) ((m103 a0).f3) ((m103 a0).f4) r)))))
  by_cases h2:(((getD a0.f3 (toNat (m124 a0.f3 a1)) (K_R.mk 0 0 0 [] 0)).f4)==2)=true
  · try simp only[if_pos h2]
    have P3 {hs q} (r:PS F X hs q):=(P2 (.f h2 (.f trivial (T 58 (.r 82 [] [] (e101 (a0:=(wrap .i64 (a0.f7+((getD a0.f3 (toNat (m124 a0.f3 a1)) (K_R.mk 0 0 0 [] 0)).f1))))) r)))))
    by_cases h3:(!(m105 (wrap .i64 (a0.f7+((getD a0.f3 (toNat (m124 a0.f3 a1)) (K_R.mk 0 0 0 [] 0)).f1))) 0 1000000))=true
    · try simp only[if_pos h3]
      exact cp ya (P3 (.f h3 (T 85 (.r 87 [] [] (e52 (a0:=7)) (p3 ([]) ([]) ([]) (.f (pureR_si ([])) (.f (pureR_R ([])) (.f (pureR_si ([])) .nil))))))))
    try simp only[if_neg h3]
    have f16:0+(length (map d_R ((m103 a0).f3)))≤(length (map d_R ((m103 a0).f3))):=yb
    have f17:0≤(m124 a0.f3 a1)∧(m124 a0.f3 a1) <((length (map d_R ((m103 a0).f3))):Int):=yz
    have f19:([[(.i ((m103 a0).f0)),(.i ((m103 a0).f1)),(.own 2 (map d_si ((m103 a0).f2))),(.own 5 (set (map d_R ((m103 a0).f3)) (0+(toNat (m124 a0.f3 a1))) [(.i ((getD ((m103 a0).f3) (toNat (m124 a0.f3 a1)) (K_R.mk 0 0 0 [] 0)).f0)),(.i ((getD ((m103 a0).f3) (toNat (m124 a0.f3 a1)) (K_R.mk 0 0 0 [] 0)).f1)),(.i ((getD ((m103 a0).f3) (toNat (m124 a0.f3 a1)) (K_R.mk 0 0 0 [] 0)).f2)),(.own 2 (map d_si ((getD ((m103 a0).f3) (toNat (m124 a0.f3 a1)) (K_R.mk 0 0 0 [] 0)).f3))),(.i 3)])),(.own 2 (map d_si ((m103 a0).f4))),(.i ((m103 a0).f5)),(.i ((m103 a0).f6)),(.i (wrap .i64 (a0.f7+((getD a0.f3 (toNat (m124 a0.f3 a1)) (K_R.mk 0 0 0 [] 0)).f1))))]]:List (List D))=[[(.i ((m103 a0).f0)),(.i ((m103 a0).f1)),(.own 2 (map d_si ((m103 a0).f2))),(.own 5 (map d_R (set ((m103 a0).f3) (toNat (m124 a0.f3 a1)) (K_R.mk ((getD ((m103 a0).f3) (toNat (m124 a0.f3 a1)) (K_R.mk 0 0 0 [] 0)).f0) ((getD ((m103 a0).f3) (toNat (m124 a0.f3 a1)) (K_R.mk 0 0 0 [] 0)).f1) ((getD ((m103 a0).f3) (toNat (m124 a0.f3 a1)) (K_R.mk 0 0 0 [] 0)).f2) ((getD ((m103 a0).f3) (toNat (m124 a0.f3 a1)) (K_R.mk 0 0 0 [] 0)).f3) 3)))),(.own 2 (map d_si ((m103 a0).f4))),(.i ((m103 a0).f5)),(.i ((m103 a0).f6)),(.i (wrap .i64 (a0.f7+((getD a0.f3 (toNat (m124 a0.f3 a1)) (K_R.mk 0 0 0 [] 0)).f1))))]]:=yN
    exact cp ya (P3 (N h3 (.f f16 (.f f17 (.f (mz_ d_R (getD_at ((m103 a0).f3) (toNat (m124 a0.f3 a1)) (K_R.mk 0 0 0 [] 0) yz)) (.f f19 (p3 ((m103 a0).f2) (set ((m103 a0).f3) (toNat (m124 a0.f3 a1)) (K_R.mk ((getD ((m103 a0).f3) (toNat (m124 a0.f3 a1)) (K_R.mk 0 0 0 [] 0)).f0) ((getD ((m103 a0).f3) (toNat (m124 a0.f3 a1)) (K_R.mk 0 0 0 [] 0)).f1) ((getD ((m103 a0).f3) (toNat (m124 a0.f3 a1)) (K_R.mk 0 0 0 [] 0)).f2) ((getD ((m103 a0).f3) (toNat (m124 a0.f3 a1)) (K_R.mk 0 0 0 [] 0)).f3) 3)) ((m103 a0).f4) (.f (pureR_si ((m103 a0).f2)) (.f (pureR_R (set ((m103 a0).f3) (toNat (m124 a0.f3 a1)) (K_R.mk ((getD ((m103 a0).f3) (toNat (m124 a0.f3 a1)) (K_R.mk 0 0 0 [] 0)).f0) ((getD ((m103 a0).f3) (toNat (m124 a0.f3 a1)) (K_R.mk 0 0 0 [] 0)).f1) ((getD ((m103 a0).f3) (toNat (m124 a0.f3 a1)) (K_R.mk 0 0 0 [] 0)).f2) ((getD ((m103 a0).f3) (toNat (m124 a0.f3 a1)) (K_R.mk 0 0 0 [] 0)).f3) 3))) (.f (pureR_si ((m103 a0).f4)) (U 85 (.h 97 (.rowD (d_R (getD ((m103 a0).f3) (toNat (m124 a0.f3 a1)) (K_R.mk 0 0 0 [] 0)))) (.h 98 (.norm (7,0,0) [[(.i ((m103 a0).f0)),(.i ((m103 a0).f1)),(.own 2 (map d_si ((m103 a0).f2))),(.own 5 (map d_R (set ((m103 a0).f3) (toNat (m124 a0.f3 a1)) (K_R.mk ((getD ((m103 a0).f3) (toNat (m124 a0.f3 a1)) (K_R.mk 0 0 0 [] 0)).f0) ((getD ((m103 a0).f3) (toNat (m124 a0.f3 a1)) (K_R.mk 0 0 0 [] 0)).f1) ((getD ((m103 a0).f3) (toNat (m124 a0.f3 a1)) (K_R.mk 0 0 0 [] 0)).f2) ((getD ((m103 a0).f3) (toNat (m124 a0.f3 a1)) (K_R.mk 0 0 0 [] 0)).f3) 3)))),(.own 2 (map d_si ((m103 a0).f4))),(.i ((m103 a0).f5)),(.i ((m103 a0).f6)),(.i (wrap .i64 (a0.f7+((getD a0.f3 (toNat (m124 a0.f3 a1)) (K_R.mk 0 0 0 [] 0)).f1))))]]) .nil)))))))))))))
  try simp only[if_neg h2]
  have P3 {hs q} (r:PS F X hs q):=(P2 (N h2 (U 58 (.r 64 [] [] (e101 (a0:=((m103 a0).f7))) r))))
  by_cases h3:(!(m105 ((m103 a0).f7) 0 1000000))=true
  · try simp only[if_pos h3]
    exact cp ya (P3 (.f h3 (T 67 (.r 69 [] [] (e52 (a0:=7)) (p3 ([]) ([]) ([]) (.f (pureR_si ([])) (.f (pureR_R ([])) (.f (pureR_si ([])) .nil))))))))
  try simp only[if_neg h3]
  have f15:0+(length (map d_R ((m103 a0).f3)))≤(length (map d_R ((m103 a0).f3))):=yb
  have f16:0≤(m124 a0.f3 a1)∧(m124 a0.f3 a1) <((length (map d_R ((m103 a0).f3))):Int):=yz
  have f18:([[(.i ((m103 a0).f0)),(.i ((m103 a0).f1)),(.own 2 (map d_si ((m103 a0).f2))),(.own 5 (set (map d_R ((m103 a0).f3)) (0+(toNat (m124 a0.f3 a1))) [(.i ((getD ((m103 a0).f3) (toNat (m124 a0.f3 a1)) (K_R.mk 0 0 0 [] 0)).f0)),(.i ((getD ((m103 a0).f3) (toNat (m124 a0.f3 a1)) (K_R.mk 0 0 0 [] 0)).f1)),(.i ((getD ((m103 a0).f3) (toNat (m124 a0.f3 a1)) (K_R.mk 0 0 0 [] 0)).f2)),(.own 2 (map d_si ((getD ((m103 a0).f3) (toNat (m124 a0.f3 a1)) (K_R.mk 0 0 0 [] 0)).f3))),(.i 3)])),(.own 2 (map d_si ((m103 a0).f4))),(.i ((m103 a0).f5)),(.i ((m103 a0).f6)),(.i ((m103 a0).f7))]]:List (List D))=[[(.i ((m103 a0).f0)),(.i ((m103 a0).f1)),(.own 2 (map d_si ((m103 a0).f2))),(.own 5 (map d_R (set ((m103 a0).f3) (toNat (m124 a0.f3 a1)) (K_R.mk ((getD ((m103 a0).f3) (toNat (m124 a0.f3 a1)) (K_R.mk 0 0 0 [] 0)).f0) ((getD ((m103 a0).f3) (toNat (m124 a0.f3 a1)) (K_R.mk 0 0 0 [] 0)).f1) ((getD ((m103 a0).f3) (toNat (m124 a0.f3 a1)) (K_R.mk 0 0 0 [] 0)).f2) ((getD ((m103 a0).f3) (toNat (m124 a0.f3 a1)) (K_R.mk 0 0 0 [] 0)).f3) 3)))),(.own 2 (map d_si ((m103 a0).f4))),(.i ((m103 a0).f5)),(.i ((m103 a0).f6)),(.i ((m103 a0).f7))]]:=yN
  exact cp ya (P3 (N h3 (.f f15 (.f f16 (.f (mz_ d_R (getD_at ((m103 a0).f3) (toNat (m124 a0.f3 a1)) (K_R.mk 0 0 0 [] 0) yz)) (.f f18 (p3 ((m103 a0).f2) (set ((m103 a0).f3) (toNat (m124 a0.f3 a1)) (K_R.mk ((getD ((m103 a0).f3) (toNat (m124 a0.f3 a1)) (K_R.mk 0 0 0 [] 0)).f0) ((getD ((m103 a0).f3) (toNat (m124 a0.f3 a1)) (K_R.mk 0 0 0 [] 0)).f1) ((getD ((m103 a0).f3) (toNat (m124 a0.f3 a1)) (K_R.mk 0 0 0 [] 0)).f2) ((getD ((m103 a0).f3) (toNat (m124 a0.f3 a1)) (K_R.mk 0 0 0 [] 0)).f3) 3)) ((m103 a0).f4) (.f (pureR_si ((m103 a0).f2)) (.f (pureR_R (set ((m103 a0).f3) (toNat (m124 a0.f3 a1)) (K_R.mk ((getD ((m103 a0).f3) (toNat (m124 a0.f3 a1)) (K_R.mk 0 0 0 [] 0)).f0) ((getD ((m103 a0).f3) (toNat (m124 a0.f3 a1)) (K_R.mk 0 0 0 [] 0)).f1) ((getD ((m103 a0).f3) (toNat (m124 a0.f3 a1)) (K_R.mk 0 0 0 [] 0)).f2) ((getD ((m103 a0).f3) (toNat (m124 a0.f3 a1)) (K_R.mk 0 0 0 [] 0)).f3) 3))) (.f (pureR_si ((m103 a0).f4)) (U 67 (.h 79 (.rowD (d_R (getD ((m103 a0).f3) (toNat (m124 a0.f3 a1)) (K_R.mk 0 0 0 [] 0)))) (.h 80 (.norm (7,0,0) [[(.i ((m103 a0).f0)),(.i ((m103 a0).f1)),(.own 2 (map d_si ((m103 a0).f2))),(.own 5 (map d_R (set ((m103 a0).f3) (toNat (m124 a0.f3 a1)) (K_R.mk ((getD ((m103 a0).f3) (toNat (m124 a0.f3 a1)) (K_R.mk 0 0 0 [] 0)).f0) ((getD ((m103 a0).f3) (toNat (m124 a0.f3 a1)) (K_R.mk 0 0 0 [] 0)).f1) ((getD ((m103 a0).f3) (toNat (m124 a0.f3 a1)) (K_R.mk 0 0 0 [] 0)).f2) ((getD ((m103 a0).f3) (toNat (m124 a0.f3 a1)) (K_R.mk 0 0 0 [] 0)).f3) 3)))),(.own 2 (map d_si ((m103 a0).f4))),(.i ((m103 a0).f5)),(.i ((m103 a0).f6)),(.i ((m103 a0).f7))]]) .nil)))))))))))))
theorem loG {a:K_B} {i:Int} (h:GL a) (hc:¬((m144 a i).f0 !=0)=true):GL (K_B.mk (m144 a i).f2 (m144 a i).f3 (m144 a i).f4 (m144 a i).f5 (m144 a i).f6 (m144 a i).f7 (m144 a i).f8 (m144 a i).f9):=by
  obtain⟨h1,h2,h3,h4,h5⟩:=h
  generalize hr:m144 a i=r at hc⊢
  unfold m144 at hr
  simp only[cp103] at hr
  (repeat' split at hr)<;>subst hr<;>first
    |(exfalso; simp at hc; done)
    |exact⟨h1,h2,h3,gr_set h4 (gr_get h4 _),h5⟩
def m138 (a0:K_B) (a1:K_isii):K_C:=
  if(a1.f0==1)=true then(m53 a0 (K_si.mk a1.f1 a1.f3)) else
  if(a1.f0==2)=true then(K_C.mk ((m143 a0 a1.f2 a1.f3).f0) 0 ((m143 a0 a1.f2 a1.f3).f2) ((m143 a0 a1.f2 a1.f3).f3) ((m143 a0 a1.f2 a1.f3).f4) ((m143 a0 a1.f2 a1.f3).f5) ((m143 a0 a1.f2 a1.f3).f6) ((m143 a0 a1.f2 a1.f3).f7) ((m143 a0 a1.f2 a1.f3).f8) ((m143 a0 a1.f2 a1.f3).f9)) else
    if(a1.f0==3)=true then(m78 a0 a1.f2) else
      if(a1.f0==4)=true then(m144 a0 a1.f2) else
        (m61 a0 a1.f1 a1.f3)
theorem e138 {l0_2:Nat} {l0_3:Nat} {l0_4:Nat} {a0:K_B} {l1:Nat} {a1:K_isii} (hy0:GL a0) (hy1:ByteArray.size a1.f1≤3):Ev F X (.call 138 [(.agg (k_B l0_2 l0_3 l0_4 a0)),(.bptr l1 [(.val (.int .i64 a1.f0)),(.val (.string a1.f1)),(.val (.int .i64 a1.f2)),(.val (.int .i64 a1.f3))])] [] [] [(.agg (d_C (m138 a0 a1)))]):=by
  unfold m138
  by_cases h0:(a1.f0==1)=true
  · try simp only[if_pos h0]
    exact cp ya (.f h0 (T 16 (.r 38 [] [] (e53 (l0_2:=(l0_2+1)) (l0_3:=(l0_3+1)) (l0_4:=(l0_4+1)) (a0:=a0) (a1:=(K_si.mk a1.f1 a1.f3)) yy yy yaz yy yaA yaD yy yy) (p3 ((m53 a0 (K_si.mk a1.f1 a1.f3)).f4) ((m53 a0 (K_si.mk a1.f1 a1.f3)).f5) ((m53 a0 (K_si.mk a1.f1 a1.f3)).f6) (.f (pureR_si ((m53 a0 (K_si.mk a1.f1 a1.f3)).f4)) (.f (pureR_R ((m53 a0 (K_si.mk a1.f1 a1.f3)).f5)) (.f (pureR_si ((m53 a0 (K_si.mk a1.f1 a1.f3)).f6)) .nil)))))))
  try simp only[if_neg h0]
  have P1 {hs q} (r:PS F X hs q):=(PS.f (nt h0) (U 16 r))
  by_cases h1:(a1.f0==2)=true
  · try simp only[if_pos h1]
    exact cp ya (P1 (.f h1 (T 21 (.r 41 [] [] (e143 (l0_2:=(l0_2+1)) (l0_3:=(l0_3+1)) (l0_4:=(l0_4+1)) (a0:=a0) (a1:=a1.f2) (a2:=a1.f3) yy yy yaz yy yaA yy (by exact glw ‹_›) yy) (p3 ((m143 a0 a1.f2 a1.f3).f4) ((m143 a0 a1.f2 a1.f3).f5) ((m143 a0 a1.f2 a1.f3).f6) (p3 ((m143 a0 a1.f2 a1.f3).f4) ((m143 a0 a1.f2 a1.f3).f5) ((m143 a0 a1.f2 a1.f3).f6) (.f (pureR_si ((m143 a0 a1.f2 a1.f3).f4)) (.f (pureR_R ((m143 a0 a1.f2 a1.f3).f5)) (.f (pureR_si ((m143 a0 a1.f2 a1.f3).f6)) .nil)))))))))
  try simp only[if_neg h1]
  by_cases h2:(a1.f0==3)=true
  · try simp only[if_pos h2]
    exact cp ya (P1 (N h1 (.f h2 (U 21 (T 26 (.r 38 [] [] (e78 (l0_2:=(l0_2+1)) (l0_3:=(l0_3+1)) (l0_4:=(l0_4+1)) (a0:=a0) (a1:=a1.f2) yy yy yaz yy yaA) (p3 ((m78 a0 a1.f2).f4) ((m78 a0 a1.f2).f5) ((m78 a0 a1.f2).f6) (.f (pureR_si ((m78 a0 a1.f2).f4)) (.f (pureR_R ((m78 a0 a1.f2).f5)) (.f (pureR_si ((m78 a0 a1.f2).f6)) .nil))))))))))
  try simp only[if_neg h2]
  by_cases h3:(a1.f0==4)=true
  · try simp only[if_pos h3]
    exact cp ya (P1 (N h1 (N h2 (.f h3 (U 21 (U 26 (T 31 (.r 43 [] [] (e144 (l0_2:=(l0_2+1)) (l0_3:=(l0_3+1)) (l0_4:=(l0_4+1)) (a0:=a0) (a1:=a1.f2) yy yy yaz yy yaA) (p3 ((m144 a0 a1.f2).f4) ((m144 a0 a1.f2).f5) ((m144 a0 a1.f2).f6) (.f (pureR_si ((m144 a0 a1.f2).f4)) (.f (pureR_R ((m144 a0 a1.f2).f5)) (.f (pureR_si ((m144 a0 a1.f2).f6)) .nil))))))))))))
  try simp only[if_neg h3]
  exact cp ya (P1 (N h1 (N h2 (N h3 (U 21 (U 26 (U 31 (.r 51 [] [] (e61 (l0_2:=(l0_2+1)) (l0_3:=(l0_3+1)) (l0_4:=(l0_4+1)) (a0:=a0) (a1:=a1.f1) (a2:=a1.f3) yy yy yaz yy yaA) (p3 ((m61 a0 a1.f1 a1.f3).f4) ((m61 a0 a1.f1 a1.f3).f5) ((m61 a0 a1.f1 a1.f3).f6) (.f (pureR_si ((m61 a0 a1.f1 a1.f3).f4)) (.f (pureR_R ((m61 a0 a1.f1 a1.f3).f5)) (.f (pureR_si ((m61 a0 a1.f1 a1.f3).f6)) .nil))))))))))))
theorem apG {a:K_B} {e:K_isii} (h:GL a) (hs:ByteArray.size e.f1≤3) (hc:((m138 a e).f0==0)=true):GL (K_B.mk (m138 a e).f2 (m138 a e).f3 (m138 a e).f4 (m138 a e).f5 (m138 a e).f6 (m138 a e).f7 (m138 a e).f8 (m138 a e).f9):=by
  have ng:∀ {x:Int},(x==0)=true→¬(x !=0)=true:=fun h=>by simpa using h
  unfold m138 at hc⊢
  by_cases c1:(e.f0==1)=true
  · simp only[if_pos c1] at hc⊢; exact crG h hs (ng hc)
  simp only[if_neg c1] at hc⊢
  by_cases c2:(e.f0==2)=true
  · simp only[if_pos c2] at hc⊢; exact foG h (ng hc)
  simp only[if_neg c2] at hc⊢
  by_cases c3:(e.f0==3)=true
  · simp only[if_pos c3] at hc⊢; exact riG h (ng hc)
  simp only[if_neg c3] at hc⊢
  by_cases c4:(e.f0==4)=true
  · simp only[if_pos c4] at hc⊢; exact loG h (ng hc)
  simp only[if_neg c4] at hc⊢
  exact paG h (ng hc)
inductive O106_0 where
  |k0 (w0:Int) (w1:Int) (w2:Int) (w3:List K_si) (w4:List K_R) (w5:List K_si) (w6:Int) (w7:Int) (w8:Int) (w9:List Int) (w10:Int) (w11:Int) (w12:Bool)
def r106_0 (a0:K_LyEi):Nat→Int→Int→Int→Int→List K_si→List K_R→List K_si→Int→Int→Int→List Int→Int→O106_0
  |n+1,i,v0,v1,v2,v3,v4,v5,v6,v7,v8,v9,v10=>
    if (((m138 (K_B.mk v1 v2 v3 v4 v5 v6 v7 v8) (m110 (K_LyEi.mk a0.f0 v0))).f0) == 0) = true then (if (m64 (K_LyEi.mk a0.f0 ((o110_0 (K_LyEi.mk a0.f0 v0)).f1)) 4) = true then (r106_0 a0 n (i - 1) ((o64_0 (K_LyEi.mk a0.f0 ((o110_0 (K_LyEi.mk a0.f0 v0)).f1)) 4).f1) ((m138 (K_B.mk v1 v2 v3 v4 v5 v6 v7 v8) (m110 (K_LyEi.mk a0.f0 v0))).f2) ((m138 (K_B.mk v1 v2 v3 v4 v5 v6 v7 v8) (m110 (K_LyEi.mk a0.f0 v0))).f3) ((m138 (K_B.mk v1 v2 v3 v4 v5 v6 v7 v8) (m110 (K_LyEi.mk a0.f0 v0))).f4) ((m138 (K_B.mk v1 v2 v3 v4 v5 v6 v7 v8) (m110 (K_LyEi.mk a0.f0 v0))).f5) ((m138 (K_B.mk v1 v2 v3 v4 v5 v6 v7 v8) (m110 (K_LyEi.mk a0.f0 v0))).f6) ((m138 (K_B.mk v1 v2 v3 v4 v5 v6 v7 v8) (m110 (K_LyEi.mk a0.f0 v0))).f7) ((m138 (K_B.mk v1 v2 v3 v4 v5 v6 v7 v8) (m110 (K_LyEi.mk a0.f0 v0))).f8) ((m138 (K_B.mk v1 v2 v3 v4 v5 v6 v7 v8) (m110 (K_LyEi.mk a0.f0 v0))).f9) ((m74_0 (K_LyEi.mk v9 v10) (m110 (K_LyEi.mk a0.f0 v0))).f0) ((length (map d_y ((m74_0 (K_LyEi.mk v9 v10) (m110 (K_LyEi.mk a0.f0 v0))).f0))) : Int)) else
      (r106_0 a0 n (i - 1) ((o64_0 (K_LyEi.mk a0.f0 ((o110_0 (K_LyEi.mk a0.f0 v0)).f1)) 4).f1) ((m138 (K_B.mk v1 v2 v3 v4 v5 v6 v7 v8) (m110 (K_LyEi.mk a0.f0 v0))).f2) ((m138 (K_B.mk v1 v2 v3 v4 v5 v6 v7 v8) (m110 (K_LyEi.mk a0.f0 v0))).f3) ((m138 (K_B.mk v1 v2 v3 v4 v5 v6 v7 v8) (m110 (K_LyEi.mk a0.f0 v0))).f4) ((m138 (K_B.mk v1 v2 v3 v4 v5 v6 v7 v8) (m110 (K_LyEi.mk a0.f0 v0))).f5) ((m138 (K_B.mk v1 v2 v3 v4 v5 v6 v7 v8) (m110 (K_LyEi.mk a0.f0 v0))).f6) ((m138 (K_B.mk v1 v2 v3 v4 v5 v6 v7 v8) (m110 (K_LyEi.mk a0.f0 v0))).f7) ((m138 (K_B.mk v1 v2 v3 v4 v5 v6 v7 v8) (m110 (K_LyEi.mk a0.f0 v0))).f8) ((m138 (K_B.mk v1 v2 v3 v4 v5 v6 v7 v8) (m110 (K_LyEi.mk a0.f0 v0))).f9) ((m74_0 (K_LyEi.mk v9 v10) (m110 (K_LyEi.mk a0.f0 v0))).f0) ((m74_0 (K_LyEi.mk v9 v10) (m110 (K_LyEi.mk a0.f0 v0))).f1))) else
    if(m64 (K_LyEi.mk a0.f0 ((o110_0 (K_LyEi.mk a0.f0 v0)).f1)) 4)=true then(r106_0 a0 n (i - 1) ((o64_0 (K_LyEi.mk a0.f0 ((o110_0 (K_LyEi.mk a0.f0 v0)).f1)) 4).f1) v1 v2 v3 v4 v5 v6 v7 v8 v9 ((length (map d_y v9)):Int)) else
      (r106_0 a0 n (i - 1) ((o64_0 (K_LyEi.mk a0.f0 ((o110_0 (K_LyEi.mk a0.f0 v0)).f1)) 4).f1) v1 v2 v3 v4 v5 v6 v7 v8 v9 v10)
  |0,i,v0,v1,v2,v3,v4,v5,v6,v7,v8,v9,v10=>(O106_0.k0 v0 v1 v2 v3 v4 v5 v6 v7 v8 v9 v10 i (decide (i > 0)))
def h106_0 (l0_0:Nat) (a0:K_LyEi) (a1:Int) (i:Int) (v0:Int) (v1:Int) (v2:Int) (v3:List K_si) (v4:List K_R) (v5:List K_si) (v6:Int) (v7:Int) (v8:Int) (v9:List Int) (v10:Int):St:=⟨[(0,(.ptr ⟨(0,0,0),[],0,0,2⟩)),(4,(.ptr ⟨(4,0,0),[],0,0,8⟩)),(5,(.ptr ⟨(5,0,0),[],0,0,2⟩)),(6,(.ptr ⟨(6,0,0),[],0,0,8⟩)),(7,(.ptr ⟨(7,0,0),[],0,0,2⟩)),(8,(.one (.val (.int .i64 i))))],[((0,0,0),.live ⟨2,[[(.bor (l0_0+1) (map b_y a0.f0)),(.val (.int .i64 v0))]],[]⟩),((4,0,0),.live ⟨8,[[(.val (.int .i64 0)),(.val (.int .i64 0)),(.own 2 []),(.own 5 []),(.own 2 []),(.val (.int .i64 0)),(.val (.int .i64 0)),(.val (.int .i64 0))]],[]⟩),((5,0,0),.live ⟨2,[[(.own 1 []),(.val (.int .i64 0))]],[]⟩),((6,0,0),.live ⟨8,[[(.val (.int .i64 v1)),(.val (.int .i64 v2)),(.own 2 (map d_si v3)),(.own 5 (map d_R v4)),(.own 2 (map d_si v5)),(.val (.int .i64 v6)),(.val (.int .i64 v7)),(.val (.int .i64 v8))]],[]⟩),((7,0,0),.live ⟨2,[[(.own 1 (map d_y v9)),(.val (.int .i64 v10))]],[]⟩)]⟩
def ex106_0:O106_0→VX.Exit
  |.k0 _ _ _ _ _ _ _ _ _ _ _ _ _=>(.exit 0)
def fin106_0 (l0_0:Nat) (a0:K_LyEi) (a1:Int):O106_0→St
  |.k0 w0 w1 w2 w3 w4 w5 w6 w7 w8 w9 w10 w11 w12=>⟨[(0,(.ptr ⟨(0,0,0),[],0,0,2⟩)),(4,(.ptr ⟨(4,0,0),[],0,0,8⟩)),(5,(.ptr ⟨(5,0,0),[],0,0,2⟩)),(6,(.ptr ⟨(6,0,0),[],0,0,8⟩)),(7,(.ptr ⟨(7,0,0),[],0,0,2⟩)),(8,(.one (.val (.int .i64 w11)))),(17,(.one (.val (.bool w12))))],[((0,0,0),.live ⟨2,[[(.bor (l0_0+1) (map b_y a0.f0)),(.val (.int .i64 w0))]],[]⟩),((4,0,0),.live ⟨8,[[(.val (.int .i64 0)),(.val (.int .i64 0)),(.own 2 []),(.own 5 []),(.own 2 []),(.val (.int .i64 0)),(.val (.int .i64 0)),(.val (.int .i64 0))]],[]⟩),((5,0,0),.live ⟨2,[[(.own 1 []),(.val (.int .i64 0))]],[]⟩),((6,0,0),.live ⟨8,[[(.val (.int .i64 w1)),(.val (.int .i64 w2)),(.own 2 (map d_si w3)),(.own 5 (map d_R w4)),(.own 2 (map d_si w5)),(.val (.int .i64 w6)),(.val (.int .i64 w7)),(.val (.int .i64 w8))]],[]⟩),((7,0,0),.live ⟨2,[[(.own 1 (map d_y w9)),(.val (.int .i64 w10))]],[]⟩)]⟩
theorem t106_0 {l0_0:Nat} {a0:K_LyEi} {a1:Int} (hy0:S a0 100) (hy1:1≤a1) (hy2:a1≤16):∀(n:Nat) (i:Int) (v0:Int) (v1:Int) (v2:Int) (v3:List K_si) (v4:List K_R) (v5:List K_si) (v6:Int) (v7:Int) (v8:Int) (v9:List Int) (v10:Int),n=toNat i→i≤9223372036854775807→S (K_LyEi.mk a0.f0 v0) (5*n+10)→GL (K_B.mk v1 v2 v3 v4 v5 v6 v7 v8)→length v9+20*n≤400→(∀z∈v9,(0:Int)≤z∧z≤255)→Ev F X (.code l106_0 (h106_0 l0_0 a0 a1 i v0 v1 v2 v3 v4 v5 v6 v7 v8 v9 v10) (ex106_0 (r106_0 a0 n i v0 v1 v2 v3 v4 v5 v6 v7 v8 v9 v10)) (fin106_0 l0_0 a0 a1 (r106_0 a0 n i v0 v1 v2 v3 v4 v5 v6 v7 v8 v9 v10)))
  |0,i,v0,v1,v2,v3,v4,v5,v6,v7,v8,v9,v10,hn,hi0,hi1,hi2,hi3,hi4=>by
    have hc:¬(decide (i > 0))=true:=by
      simp only[decide_eq_true_eq]; omega
    have st:=ch b106_0 (h106_0 l0_0 a0 a1 i v0 v1 v2 v3 v4 v5 v6 v7 v8 v9 v10) ⟨[(0,(.ptr ⟨(0,0,0),[],0,0,2⟩)),(4,(.ptr ⟨(4,0,0),[],0,0,8⟩)),(5,(.ptr ⟨(5,0,0),[],0,0,2⟩)),(6,(.ptr ⟨(6,0,0),[],0,0,8⟩)),(7,(.ptr ⟨(7,0,0),[],0,0,2⟩)),(8,(.oi i)),(17,(.one (.val (.bool (decide (i > 0))))))],[((0,0,0),.live ⟨2,[[(.bor (l0_0+1) (map b_y a0.f0)),(.i v0)]],[]⟩),((4,0,0),.live ⟨8,[[(.i 0),(.i 0),(.own 2 []),(.own 5 []),(.own 2 []),(.i 0),(.i 0),(.i 0)]],[]⟩),((5,0,0),.live ⟨2,[[(.own 1 []),(.i 0)]],[]⟩),((6,0,0),.live ⟨8,[[(.i v1),(.i v2),(.own 2 (map d_si v3)),(.own 5 (map d_R v4)),(.own 2 (map d_si v5)),(.i v6),(.i v7),(.i v8)]],[]⟩),((7,0,0),.live ⟨2,[[(.own 1 (map d_y v9)),(.i v10)]],[]⟩)]⟩ (.exit 0) 5 (by kernel_rfl) (.f (nt hc) (U 4 .nil))
    rw[show (⟨[(0,(.ptr ⟨(0,0,0),[],0,0,2⟩)),(4,(.ptr ⟨(4,0,0),[],0,0,8⟩)),(5,(.ptr ⟨(5,0,0),[],0,0,2⟩)),(6,(.ptr ⟨(6,0,0),[],0,0,8⟩)),(7,(.ptr ⟨(7,0,0),[],0,0,2⟩)),(8,(.oi i)),(17,(.one (.val (.bool (decide (i > 0))))))],[((0,0,0),.live ⟨2,[[(.bor (l0_0+1) (map b_y a0.f0)),(.i v0)]],[]⟩),((4,0,0),.live ⟨8,[[(.i 0),(.i 0),(.own 2 []),(.own 5 []),(.own 2 []),(.i 0),(.i 0),(.i 0)]],[]⟩),((5,0,0),.live ⟨2,[[(.own 1 []),(.i 0)]],[]⟩),((6,0,0),.live ⟨8,[[(.i v1),(.i v2),(.own 2 (map d_si v3)),(.own 5 (map d_R v4)),(.own 2 (map d_si v5)),(.i v6),(.i v7),(.i v8)]],[]⟩),((7,0,0),.live ⟨2,[[(.own 1 (map d_y v9)),(.i v10)]],[]⟩)]⟩:St)=fin106_0 l0_0 a0 a1 (.k0 v0 v1 v2 v3 v4 v5 v6 v7 v8 v9 v10 i (decide (i > 0))) from(by rfl)] at st
    exact .loopX st (show ((.exit 0):VX.Exit)≠.normal from by simp)
  |n+1,i,v0,v1,v2,v3,v4,v5,v6,v7,v8,v9,v10,hn,hi0,hi1,hi2,hi3,hi4=>by
    have hc:(decide (i > 0))=true:=by
      simp only[decide_eq_true_eq]; omega
    have hw:wrap .i64 (i - 1)=i - 1:=wrap64 (by omega)
    have hj0:=hi0; try simp only[LN,Int.toNat_natCast] at hj0
    have hj1:=hi1; try simp only[LN,Int.toNat_natCast] at hj1
    have hj2:=hi2; try simp only[LN,Int.toNat_natCast] at hj2
    have hj3:=hi3; try simp only[LN,Int.toNat_natCast] at hj3
    have hj4:=hi4; try simp only[LN,Int.toNat_natCast] at hj4
    simp only[r106_0]
    have f11:fullL [(.i ((m110 (K_LyEi.mk a0.f0 v0)).f0)),(.val (.string ((m110 (K_LyEi.mk a0.f0 v0)).f1))),(.i ((m110 (K_LyEi.mk a0.f0 v0)).f2)),(.i ((m110 (K_LyEi.mk a0.f0 v0)).f3))]=true:=(by trivial)
    have P1 {hs q} (r:PS F X hs q):=(PS.f hc (T 4 (.r 8 [false] [] (e110 (l0_0:=(l0_0+1)) (a0:=(K_LyEi.mk a0.f0 v0)) (by (repeat (first | with_reducible refine sm110 ?_ rfl | with_reducible refine sm64 _ ?_ rfl | with_reducible refine sm41 _ ?_ rfl | with_reducible refine sm48 _ ?_ rfl | with_reducible refine sm40 ?_ rfl)); exact S_le (by assumption) (by omega))) (l3 v3 v4 v5 (.f f11 (.r 16 [] [(map b_si v3),(map b_R v4),(map b_si v5)] (e138 (l0_2:=0) (l0_3:=0) (l0_4:=0) (l1:=0) (a0:=(K_B.mk v1 v2 v3 v4 v5 v6 v7 v8)) (a1:=(m110 (K_LyEi.mk a0.f0 v0))) (by with_reducible assumption) (by with_reducible refine Nat.le_trans (es110 _) ?_; decide)) (p3 ((m138 (K_B.mk v1 v2 v3 v4 v5 v6 v7 v8) (m110 (K_LyEi.mk a0.f0 v0))).f4) ((m138 (K_B.mk v1 v2 v3 v4 v5 v6 v7 v8) (m110 (K_LyEi.mk a0.f0 v0))).f5) ((m138 (K_B.mk v1 v2 v3 v4 v5 v6 v7 v8) (m110 (K_LyEi.mk a0.f0 v0))).f6) r)))))))
    by_cases h_1:(((m138 (K_B.mk v1 v2 v3 v4 v5 v6 v7 v8) (m110 (K_LyEi.mk a0.f0 v0))).f0)==0)=true
    · try simp only[if_pos h_1]
      have P2 {hs q} (r:PS F X hs q):=(P1 (.f h_1 (p3 ((m138 (K_B.mk v1 v2 v3 v4 v5 v6 v7 v8) (m110 (K_LyEi.mk a0.f0 v0))).f4) ((m138 (K_B.mk v1 v2 v3 v4 v5 v6 v7 v8) (m110 (K_LyEi.mk a0.f0 v0))).f5) ((m138 (K_B.mk v1 v2 v3 v4 v5 v6 v7 v8) (m110 (K_LyEi.mk a0.f0 v0))).f6) (ln_y v9 (.f f11 (T 27 (.r 37 [] [(map b_y v9)] (e74 (l0_0:=0) (l1:=0) (a0:=(K_LyEi.mk v9 v10)) (a1:=(m110 (K_LyEi.mk a0.f0 v0))) (by simp only[length_map,apl]; have q:=es110 (K_LyEi.mk a0.f0 v0); omega) (by with_reducible refine Nat.le_trans (es110 _) ?_; decide)) (pe 0 (pe (length (map d_y ((m74_0 (K_LyEi.mk v9 v10) (m110 (K_LyEi.mk a0.f0 v0))).f0))) (.r 49 [false] [] (e64 (l0_0:=(l0_0+1)) (a0:=(zz a0 (o110_0 (K_LyEi.mk a0.f0 v0)))) (a1:=4) (by (repeat (first | with_reducible refine sm110 ?_ rfl | with_reducible refine sm64 _ ?_ rfl | with_reducible refine sm41 _ ?_ rfl | with_reducible refine sm48 _ ?_ rfl | with_reducible refine sm40 ?_ rfl)); exact S_le (by assumption) (by omega))) r))))))))))
      by_cases h_2:(m64 (zz a0 (o110_0 (K_LyEi.mk a0.f0 v0))) 4)=true
      · try simp only[if_pos h_2]
        have st:=ch b106_0 (h106_0 l0_0 a0 a1 i v0 v1 v2 v3 v4 v5 v6 v7 v8 v9 v10) ⟨[(0,(.ptr ⟨(0,0,0),[],0,0,2⟩)),(4,(.ptr ⟨(4,0,0),[],0,0,8⟩)),(5,(.ptr ⟨(5,0,0),[],0,0,2⟩)),(6,(.ptr ⟨(6,0,0),[],0,0,8⟩)),(7,(.ptr ⟨(7,0,0),[],0,0,2⟩)),(8,(.oi (wrap .i64 (i - 1))))],[((0,0,0),.live ⟨2,[[(.bor (l0_0+1) (map b_y a0.f0)),(.i ((o64_0 (zz a0 (o110_0 (K_LyEi.mk a0.f0 v0))) 4).f1))]],[]⟩),((4,0,0),.live ⟨8,[[(.i 0),(.i 0),(.own 2 []),(.own 5 []),(.own 2 []),(.i 0),(.i 0),(.i 0)]],[]⟩),((5,0,0),.live ⟨2,[[(.own 1 []),(.i 0)]],[]⟩),((6,0,0),.live ⟨8,[[(.i ((m138 (K_B.mk v1 v2 v3 v4 v5 v6 v7 v8) (m110 (K_LyEi.mk a0.f0 v0))).f2)),(.i ((m138 (K_B.mk v1 v2 v3 v4 v5 v6 v7 v8) (m110 (K_LyEi.mk a0.f0 v0))).f3)),(.own 2 (map d_si ((m138 (K_B.mk v1 v2 v3 v4 v5 v6 v7 v8) (m110 (K_LyEi.mk a0.f0 v0))).f4))),(.own 5 (map d_R ((m138 (K_B.mk v1 v2 v3 v4 v5 v6 v7 v8) (m110 (K_LyEi.mk a0.f0 v0))).f5))),(.own 2 (map d_si ((m138 (K_B.mk v1 v2 v3 v4 v5 v6 v7 v8) (m110 (K_LyEi.mk a0.f0 v0))).f6))),(.i ((m138 (K_B.mk v1 v2 v3 v4 v5 v6 v7 v8) (m110 (K_LyEi.mk a0.f0 v0))).f7)),(.i ((m138 (K_B.mk v1 v2 v3 v4 v5 v6 v7 v8) (m110 (K_LyEi.mk a0.f0 v0))).f8)),(.i ((m138 (K_B.mk v1 v2 v3 v4 v5 v6 v7 v8) (m110 (K_LyEi.mk a0.f0 v0))).f9))]],[]⟩),((7,0,0),.live ⟨2,[[(.own 1 (map d_y ((m74_0 (K_LyEi.mk v9 v10) (m110 (K_LyEi.mk a0.f0 v0))).f0))),(.i ((length (map d_y ((m74_0 (K_LyEi.mk v9 v10) (m110 (K_LyEi.mk a0.f0 v0))).f0))):Int))]],[]⟩)]⟩ .normal 67 (by kernel_rfl) (P2 (.f h_2 (T 50 .nil)))
        have ih:=t106_0 (l0_0:=l0_0) (a0:=a0) (a1:=a1) hy0 hy1 hy2 n (i - 1) ((o64_0 (zz a0 (o110_0 (K_LyEi.mk a0.f0 v0))) 4).f1) ((m138 (K_B.mk v1 v2 v3 v4 v5 v6 v7 v8) (m110 (K_LyEi.mk a0.f0 v0))).f2) ((m138 (K_B.mk v1 v2 v3 v4 v5 v6 v7 v8) (m110 (K_LyEi.mk a0.f0 v0))).f3) ((m138 (K_B.mk v1 v2 v3 v4 v5 v6 v7 v8) (m110 (K_LyEi.mk a0.f0 v0))).f4) ((m138 (K_B.mk v1 v2 v3 v4 v5 v6 v7 v8) (m110 (K_LyEi.mk a0.f0 v0))).f5) ((m138 (K_B.mk v1 v2 v3 v4 v5 v6 v7 v8) (m110 (K_LyEi.mk a0.f0 v0))).f6) ((m138 (K_B.mk v1 v2 v3 v4 v5 v6 v7 v8) (m110 (K_LyEi.mk a0.f0 v0))).f7) ((m138 (K_B.mk v1 v2 v3 v4 v5 v6 v7 v8) (m110 (K_LyEi.mk a0.f0 v0))).f8) ((m138 (K_B.mk v1 v2 v3 v4 v5 v6 v7 v8) (m110 (K_LyEi.mk a0.f0 v0))).f9) ((m74_0 (K_LyEi.mk v9 v10) (m110 (K_LyEi.mk a0.f0 v0))).f0) ((length (map d_y ((m74_0 (K_LyEi.mk v9 v10) (m110 (K_LyEi.mk a0.f0 v0))).f0))):Int) (by omega) (by omega) (by (repeat (first | with_reducible refine sm110 ?_ rfl | with_reducible refine sm64 _ ?_ rfl | with_reducible refine sm41 _ ?_ rfl | with_reducible refine sm48 _ ?_ rfl | with_reducible refine sm40 ?_ rfl)); exact S_le (by assumption) (by omega)) (by exact apG (by with_reducible assumption) (es110 _) (by with_reducible assumption)) (by simp only[length_map,apl]; have q:=es110 (K_LyEi.mk a0.f0 v0); omega) (by exact apb _ _ (by with_reducible assumption))
        rw[show (⟨[(0,(.ptr ⟨(0,0,0),[],0,0,2⟩)),(4,(.ptr ⟨(4,0,0),[],0,0,8⟩)),(5,(.ptr ⟨(5,0,0),[],0,0,2⟩)),(6,(.ptr ⟨(6,0,0),[],0,0,8⟩)),(7,(.ptr ⟨(7,0,0),[],0,0,2⟩)),(8,(.oi (wrap .i64 (i - 1))))],[((0,0,0),.live ⟨2,[[(.bor (l0_0+1) (map b_y a0.f0)),(.i ((o64_0 (zz a0 (o110_0 (K_LyEi.mk a0.f0 v0))) 4).f1))]],[]⟩),((4,0,0),.live ⟨8,[[(.i 0),(.i 0),(.own 2 []),(.own 5 []),(.own 2 []),(.i 0),(.i 0),(.i 0)]],[]⟩),((5,0,0),.live ⟨2,[[(.own 1 []),(.i 0)]],[]⟩),((6,0,0),.live ⟨8,[[(.i ((m138 (K_B.mk v1 v2 v3 v4 v5 v6 v7 v8) (m110 (K_LyEi.mk a0.f0 v0))).f2)),(.i ((m138 (K_B.mk v1 v2 v3 v4 v5 v6 v7 v8) (m110 (K_LyEi.mk a0.f0 v0))).f3)),(.own 2 (map d_si ((m138 (K_B.mk v1 v2 v3 v4 v5 v6 v7 v8) (m110 (K_LyEi.mk a0.f0 v0))).f4))),(.own 5 (map d_R ((m138 (K_B.mk v1 v2 v3 v4 v5 v6 v7 v8) (m110 (K_LyEi.mk a0.f0 v0))).f5))),(.own 2 (map d_si ((m138 (K_B.mk v1 v2 v3 v4 v5 v6 v7 v8) (m110 (K_LyEi.mk a0.f0 v0))).f6))),(.i ((m138 (K_B.mk v1 v2 v3 v4 v5 v6 v7 v8) (m110 (K_LyEi.mk a0.f0 v0))).f7)),(.i ((m138 (K_B.mk v1 v2 v3 v4 v5 v6 v7 v8) (m110 (K_LyEi.mk a0.f0 v0))).f8)),(.i ((m138 (K_B.mk v1 v2 v3 v4 v5 v6 v7 v8) (m110 (K_LyEi.mk a0.f0 v0))).f9))]],[]⟩),((7,0,0),.live ⟨2,[[(.own 1 (map d_y ((m74_0 (K_LyEi.mk v9 v10) (m110 (K_LyEi.mk a0.f0 v0))).f0))),(.i ((length (map d_y ((m74_0 (K_LyEi.mk v9 v10) (m110 (K_LyEi.mk a0.f0 v0))).f0))):Int))]],[]⟩)]⟩:St)=h106_0 l0_0 a0 a1 (i - 1) ((o64_0 (zz a0 (o110_0 (K_LyEi.mk a0.f0 v0))) 4).f1) ((m138 (K_B.mk v1 v2 v3 v4 v5 v6 v7 v8) (m110 (K_LyEi.mk a0.f0 v0))).f2) ((m138 (K_B.mk v1 v2 v3 v4 v5 v6 v7 v8) (m110 (K_LyEi.mk a0.f0 v0))).f3) ((m138 (K_B.mk v1 v2 v3 v4 v5 v6 v7 v8) (m110 (K_LyEi.mk a0.f0 v0))).f4) ((m138 (K_B.mk v1 v2 v3 v4 v5 v6 v7 v8) (m110 (K_LyEi.mk a0.f0 v0))).f5) ((m138 (K_B.mk v1 v2 v3 v4 v5 v6 v7 v8) (m110 (K_LyEi.mk a0.f0 v0))).f6) ((m138 (K_B.mk v1 v2 v3 v4 v5 v6 v7 v8) (m110 (K_LyEi.mk a0.f0 v0))).f7) ((m138 (K_B.mk v1 v2 v3 v4 v5 v6 v7 v8) (m110 (K_LyEi.mk a0.f0 v0))).f8) ((m138 (K_B.mk v1 v2 v3 v4 v5 v6 v7 v8) (m110 (K_LyEi.mk a0.f0 v0))).f9) ((m74_0 (K_LyEi.mk v9 v10) (m110 (K_LyEi.mk a0.f0 v0))).f0) ((length (map d_y ((m74_0 (K_LyEi.mk v9 v10) (m110 (K_LyEi.mk a0.f0 v0))).f0))):Int) from(by unfold h106_0; simp only[hw]; done)] at st
        exact .loopN st ih
      try simp only[if_neg h_2]
      have st:=ch b106_0 (h106_0 l0_0 a0 a1 i v0 v1 v2 v3 v4 v5 v6 v7 v8 v9 v10) ⟨[(0,(.ptr ⟨(0,0,0),[],0,0,2⟩)),(4,(.ptr ⟨(4,0,0),[],0,0,8⟩)),(5,(.ptr ⟨(5,0,0),[],0,0,2⟩)),(6,(.ptr ⟨(6,0,0),[],0,0,8⟩)),(7,(.ptr ⟨(7,0,0),[],0,0,2⟩)),(8,(.oi (wrap .i64 (i - 1))))],[((0,0,0),.live ⟨2,[[(.bor (l0_0+1) (map b_y a0.f0)),(.i ((o64_0 (zz a0 (o110_0 (K_LyEi.mk a0.f0 v0))) 4).f1))]],[]⟩),((4,0,0),.live ⟨8,[[(.i 0),(.i 0),(.own 2 []),(.own 5 []),(.own 2 []),(.i 0),(.i 0),(.i 0)]],[]⟩),((5,0,0),.live ⟨2,[[(.own 1 []),(.i 0)]],[]⟩),((6,0,0),.live ⟨8,[[(.i ((m138 (K_B.mk v1 v2 v3 v4 v5 v6 v7 v8) (m110 (K_LyEi.mk a0.f0 v0))).f2)),(.i ((m138 (K_B.mk v1 v2 v3 v4 v5 v6 v7 v8) (m110 (K_LyEi.mk a0.f0 v0))).f3)),(.own 2 (map d_si ((m138 (K_B.mk v1 v2 v3 v4 v5 v6 v7 v8) (m110 (K_LyEi.mk a0.f0 v0))).f4))),(.own 5 (map d_R ((m138 (K_B.mk v1 v2 v3 v4 v5 v6 v7 v8) (m110 (K_LyEi.mk a0.f0 v0))).f5))),(.own 2 (map d_si ((m138 (K_B.mk v1 v2 v3 v4 v5 v6 v7 v8) (m110 (K_LyEi.mk a0.f0 v0))).f6))),(.i ((m138 (K_B.mk v1 v2 v3 v4 v5 v6 v7 v8) (m110 (K_LyEi.mk a0.f0 v0))).f7)),(.i ((m138 (K_B.mk v1 v2 v3 v4 v5 v6 v7 v8) (m110 (K_LyEi.mk a0.f0 v0))).f8)),(.i ((m138 (K_B.mk v1 v2 v3 v4 v5 v6 v7 v8) (m110 (K_LyEi.mk a0.f0 v0))).f9))]],[]⟩),((7,0,0),.live ⟨2,[[(.own 1 (map d_y ((m74_0 (K_LyEi.mk v9 v10) (m110 (K_LyEi.mk a0.f0 v0))).f0))),(.i ((m74_0 (K_LyEi.mk v9 v10) (m110 (K_LyEi.mk a0.f0 v0))).f1))]],[]⟩)]⟩ .normal 57 (by kernel_rfl) (P2 (.f (nt h_2) (U 50 .nil)))
      have ih:=t106_0 (l0_0:=l0_0) (a0:=a0) (a1:=a1) hy0 hy1 hy2 n (i - 1) ((o64_0 (zz a0 (o110_0 (K_LyEi.mk a0.f0 v0))) 4).f1) ((m138 (K_B.mk v1 v2 v3 v4 v5 v6 v7 v8) (m110 (K_LyEi.mk a0.f0 v0))).f2) ((m138 (K_B.mk v1 v2 v3 v4 v5 v6 v7 v8) (m110 (K_LyEi.mk a0.f0 v0))).f3) ((m138 (K_B.mk v1 v2 v3 v4 v5 v6 v7 v8) (m110 (K_LyEi.mk a0.f0 v0))).f4) ((m138 (K_B.mk v1 v2 v3 v4 v5 v6 v7 v8) (m110 (K_LyEi.mk a0.f0 v0))).f5) ((m138 (K_B.mk v1 v2 v3 v4 v5 v6 v7 v8) (m110 (K_LyEi.mk a0.f0 v0))).f6) ((m138 (K_B.mk v1 v2 v3 v4 v5 v6 v7 v8) (m110 (K_LyEi.mk a0.f0 v0))).f7) ((m138 (K_B.mk v1 v2 v3 v4 v5 v6 v7 v8) (m110 (K_LyEi.mk a0.f0 v0))).f8) ((m138 (K_B.mk v1 v2 v3 v4 v5 v6 v7 v8) (m110 (K_LyEi.mk a0.f0 v0))).f9) ((m74_0 (K_LyEi.mk v9 v10) (m110 (K_LyEi.mk a0.f0 v0))).f0) ((m74_0 (K_LyEi.mk v9 v10) (m110 (K_LyEi.mk a0.f0 v0))).f1) (by omega) (by omega) (by (repeat (first | with_reducible refine sm110 ?_ rfl | with_reducible refine sm64 _ ?_ rfl | with_reducible refine sm41 _ ?_ rfl | with_reducible refine sm48 _ ?_ rfl | with_reducible refine sm40 ?_ rfl)); exact S_le (by assumption) (by omega)) (by exact apG (by with_reducible assumption) (es110 _) (by with_reducible assumption)) (by simp only[length_map,apl]; have q:=es110 (K_LyEi.mk a0.f0 v0); omega) (by exact apb _ _ (by with_reducible assumption))
      rw[show (⟨[(0,(.ptr ⟨(0,0,0),[],0,0,2⟩)),(4,(.ptr ⟨(4,0,0),[],0,0,8⟩)),(5,(.ptr ⟨(5,0,0),[],0,0,2⟩)),(6,(.ptr ⟨(6,0,0),[],0,0,8⟩)),(7,(.ptr ⟨(7,0,0),[],0,0,2⟩)),(8,(.oi (wrap .i64 (i - 1))))],[((0,0,0),.live ⟨2,[[(.bor (l0_0+1) (map b_y a0.f0)),(.i ((o64_0 (zz a0 (o110_0 (K_LyEi.mk a0.f0 v0))) 4).f1))]],[]⟩),((4,0,0),.live ⟨8,[[(.i 0),(.i 0),(.own 2 []),(.own 5 []),(.own 2 []),(.i 0),(.i 0),(.i 0)]],[]⟩),((5,0,0),.live ⟨2,[[(.own 1 []),(.i 0)]],[]⟩),((6,0,0),.live ⟨8,[[(.i ((m138 (K_B.mk v1 v2 v3 v4 v5 v6 v7 v8) (m110 (K_LyEi.mk a0.f0 v0))).f2)),(.i ((m138 (K_B.mk v1 v2 v3 v4 v5 v6 v7 v8) (m110 (K_LyEi.mk a0.f0 v0))).f3)),(.own 2 (map d_si ((m138 (K_B.mk v1 v2 v3 v4 v5 v6 v7 v8) (m110 (K_LyEi.mk a0.f0 v0))).f4))),(.own 5 (map d_R ((m138 (K_B.mk v1 v2 v3 v4 v5 v6 v7 v8) (m110 (K_LyEi.mk a0.f0 v0))).f5))),(.own 2 (map d_si ((m138 (K_B.mk v1 v2 v3 v4 v5 v6 v7 v8) (m110 (K_LyEi.mk a0.f0 v0))).f6))),(.i ((m138 (K_B.mk v1 v2 v3 v4 v5 v6 v7 v8) (m110 (K_LyEi.mk a0.f0 v0))).f7)),(.i ((m138 (K_B.mk v1 v2 v3 v4 v5 v6 v7 v8) (m110 (K_LyEi.mk a0.f0 v0))).f8)),(.i ((m138 (K_B.mk v1 v2 v3 v4 v5 v6 v7 v8) (m110 (K_LyEi.mk a0.f0 v0))).f9))]],[]⟩),((7,0,0),.live ⟨2,[[(.own 1 (map d_y ((m74_0 (K_LyEi.mk v9 v10) (m110 (K_LyEi.mk a0.f0 v0))).f0))),(.i ((m74_0 (K_LyEi.mk v9 v10) (m110 (K_LyEi.mk a0.f0 v0))).f1))]],[]⟩)]⟩:St)=h106_0 l0_0 a0 a1 (i - 1) ((o64_0 (zz a0 (o110_0 (K_LyEi.mk a0.f0 v0))) 4).f1) ((m138 (K_B.mk v1 v2 v3 v4 v5 v6 v7 v8) (m110 (K_LyEi.mk a0.f0 v0))).f2) ((m138 (K_B.mk v1 v2 v3 v4 v5 v6 v7 v8) (m110 (K_LyEi.mk a0.f0 v0))).f3) ((m138 (K_B.mk v1 v2 v3 v4 v5 v6 v7 v8) (m110 (K_LyEi.mk a0.f0 v0))).f4) ((m138 (K_B.mk v1 v2 v3 v4 v5 v6 v7 v8) (m110 (K_LyEi.mk a0.f0 v0))).f5) ((m138 (K_B.mk v1 v2 v3 v4 v5 v6 v7 v8) (m110 (K_LyEi.mk a0.f0 v0))).f6) ((m138 (K_B.mk v1 v2 v3 v4 v5 v6 v7 v8) (m110 (K_LyEi.mk a0.f0 v0))).f7) ((m138 (K_B.mk v1 v2 v3 v4 v5 v6 v7 v8) (m110 (K_LyEi.mk a0.f0 v0))).f8) ((m138 (K_B.mk v1 v2 v3 v4 v5 v6 v7 v8) (m110 (K_LyEi.mk a0.f0 v0))).f9) ((m74_0 (K_LyEi.mk v9 v10) (m110 (K_LyEi.mk a0.f0 v0))).f0) ((m74_0 (K_LyEi.mk v9 v10) (m110 (K_LyEi.mk a0.f0 v0))).f1) from(by unfold h106_0; simp only[hw]; done)] at st
      exact .loopN st ih
    try simp only[if_neg h_1]
    have P2 {hs q} (r:PS F X hs q):=(P1 (.f (nt h_1) (U 27 (.r 31 [false] [] (e64 (l0_0:=(l0_0+1)) (a0:=(zz a0 (o110_0 (K_LyEi.mk a0.f0 v0)))) (a1:=4) (by (repeat (first | with_reducible refine sm110 ?_ rfl | with_reducible refine sm64 _ ?_ rfl | with_reducible refine sm41 _ ?_ rfl | with_reducible refine sm48 _ ?_ rfl | with_reducible refine sm40 ?_ rfl)); exact S_le (by assumption) (by omega))) r))))
    by_cases h_2:(m64 (zz a0 (o110_0 (K_LyEi.mk a0.f0 v0))) 4)=true
    · try simp only[if_pos h_2]
      have st:=ch b106_0 (h106_0 l0_0 a0 a1 i v0 v1 v2 v3 v4 v5 v6 v7 v8 v9 v10) ⟨[(0,(.ptr ⟨(0,0,0),[],0,0,2⟩)),(4,(.ptr ⟨(4,0,0),[],0,0,8⟩)),(5,(.ptr ⟨(5,0,0),[],0,0,2⟩)),(6,(.ptr ⟨(6,0,0),[],0,0,8⟩)),(7,(.ptr ⟨(7,0,0),[],0,0,2⟩)),(8,(.oi (wrap .i64 (i - 1))))],[((0,0,0),.live ⟨2,[[(.bor (l0_0+1) (map b_y a0.f0)),(.i ((o64_0 (zz a0 (o110_0 (K_LyEi.mk a0.f0 v0))) 4).f1))]],[]⟩),((4,0,0),.live ⟨8,[[(.i 0),(.i 0),(.own 2 []),(.own 5 []),(.own 2 []),(.i 0),(.i 0),(.i 0)]],[]⟩),((5,0,0),.live ⟨2,[[(.own 1 []),(.i 0)]],[]⟩),((6,0,0),.live ⟨8,[[(.i v1),(.i v2),(.own 2 (map d_si v3)),(.own 5 (map d_R v4)),(.own 2 (map d_si v5)),(.i v6),(.i v7),(.i v8)]],[]⟩),((7,0,0),.live ⟨2,[[(.own 1 (map d_y v9)),(.i ((length (map d_y v9)):Int))]],[]⟩)]⟩ .normal 49 (by kernel_rfl) (P2 (.f h_2 (T 32 .nil)))
      have ih:=t106_0 (l0_0:=l0_0) (a0:=a0) (a1:=a1) hy0 hy1 hy2 n (i - 1) ((o64_0 (zz a0 (o110_0 (K_LyEi.mk a0.f0 v0))) 4).f1) v1 v2 v3 v4 v5 v6 v7 v8 v9 ((length (map d_y v9)):Int) (by omega) (by omega) (by (repeat (first | with_reducible refine sm110 ?_ rfl | with_reducible refine sm64 _ ?_ rfl | with_reducible refine sm41 _ ?_ rfl | with_reducible refine sm48 _ ?_ rfl | with_reducible refine sm40 ?_ rfl)); exact S_le (by assumption) (by omega)) (by omega) (by omega) (by omega)
      rw[show (⟨[(0,(.ptr ⟨(0,0,0),[],0,0,2⟩)),(4,(.ptr ⟨(4,0,0),[],0,0,8⟩)),(5,(.ptr ⟨(5,0,0),[],0,0,2⟩)),(6,(.ptr ⟨(6,0,0),[],0,0,8⟩)),(7,(.ptr ⟨(7,0,0),[],0,0,2⟩)),(8,(.oi (wrap .i64 (i - 1))))],[((0,0,0),.live ⟨2,[[(.bor (l0_0+1) (map b_y a0.f0)),(.i ((o64_0 (zz a0 (o110_0 (K_LyEi.mk a0.f0 v0))) 4).f1))]],[]⟩),((4,0,0),.live ⟨8,[[(.i 0),(.i 0),(.own 2 []),(.own 5 []),(.own 2 []),(.i 0),(.i 0),(.i 0)]],[]⟩),((5,0,0),.live ⟨2,[[(.own 1 []),(.i 0)]],[]⟩),((6,0,0),.live ⟨8,[[(.i v1),(.i v2),(.own 2 (map d_si v3)),(.own 5 (map d_R v4)),(.own 2 (map d_si v5)),(.i v6),(.i v7),(.i v8)]],[]⟩),((7,0,0),.live ⟨2,[[(.own 1 (map d_y v9)),(.i ((length (map d_y v9)):Int))]],[]⟩)]⟩:St)=h106_0 l0_0 a0 a1 (i - 1) ((o64_0 (zz a0 (o110_0 (K_LyEi.mk a0.f0 v0))) 4).f1) v1 v2 v3 v4 v5 v6 v7 v8 v9 ((length (map d_y v9)):Int) from(by unfold h106_0; simp only[hw]; done)] at st
      exact .loopN st ih
    try simp only[if_neg h_2]
    have st:=ch b106_0 (h106_0 l0_0 a0 a1 i v0 v1 v2 v3 v4 v5 v6 v7 v8 v9 v10) ⟨[(0,(.ptr ⟨(0,0,0),[],0,0,2⟩)),(4,(.ptr ⟨(4,0,0),[],0,0,8⟩)),(5,(.ptr ⟨(5,0,0),[],0,0,2⟩)),(6,(.ptr ⟨(6,0,0),[],0,0,8⟩)),(7,(.ptr ⟨(7,0,0),[],0,0,2⟩)),(8,(.oi (wrap .i64 (i - 1))))],[((0,0,0),.live ⟨2,[[(.bor (l0_0+1) (map b_y a0.f0)),(.i ((o64_0 (zz a0 (o110_0 (K_LyEi.mk a0.f0 v0))) 4).f1))]],[]⟩),((4,0,0),.live ⟨8,[[(.i 0),(.i 0),(.own 2 []),(.own 5 []),(.own 2 []),(.i 0),(.i 0),(.i 0)]],[]⟩),((5,0,0),.live ⟨2,[[(.own 1 []),(.i 0)]],[]⟩),((6,0,0),.live ⟨8,[[(.i v1),(.i v2),(.own 2 (map d_si v3)),(.own 5 (map d_R v4)),(.own 2 (map d_si v5)),(.i v6),(.i v7),(.i v8)]],[]⟩),((7,0,0),.live ⟨2,[[(.own 1 (map d_y v9)),(.i v10)]],[]⟩)]⟩ .normal 39 (by kernel_rfl) (P2 (.f (nt h_2) (U 32 .nil)))
    have ih:=t106_0 (l0_0:=l0_0) (a0:=a0) (a1:=a1) hy0 hy1 hy2 n (i - 1) ((o64_0 (zz a0 (o110_0 (K_LyEi.mk a0.f0 v0))) 4).f1) v1 v2 v3 v4 v5 v6 v7 v8 v9 v10 (by omega) (by omega) (by (repeat (first | with_reducible refine sm110 ?_ rfl | with_reducible refine sm64 _ ?_ rfl | with_reducible refine sm41 _ ?_ rfl | with_reducible refine sm48 _ ?_ rfl | with_reducible refine sm40 ?_ rfl)); exact S_le (by assumption) (by omega)) (by omega) (by omega) (by omega)
    rw[show (⟨[(0,(.ptr ⟨(0,0,0),[],0,0,2⟩)),(4,(.ptr ⟨(4,0,0),[],0,0,8⟩)),(5,(.ptr ⟨(5,0,0),[],0,0,2⟩)),(6,(.ptr ⟨(6,0,0),[],0,0,8⟩)),(7,(.ptr ⟨(7,0,0),[],0,0,2⟩)),(8,(.oi (wrap .i64 (i - 1))))],[((0,0,0),.live ⟨2,[[(.bor (l0_0+1) (map b_y a0.f0)),(.i ((o64_0 (zz a0 (o110_0 (K_LyEi.mk a0.f0 v0))) 4).f1))]],[]⟩),((4,0,0),.live ⟨8,[[(.i 0),(.i 0),(.own 2 []),(.own 5 []),(.own 2 []),(.i 0),(.i 0),(.i 0)]],[]⟩),((5,0,0),.live ⟨2,[[(.own 1 []),(.i 0)]],[]⟩),((6,0,0),.live ⟨8,[[(.i v1),(.i v2),(.own 2 (map d_si v3)),(.own 5 (map d_R v4)),(.own 2 (map d_si v5)),(.i v6),(.i v7),(.i v8)]],[]⟩),((7,0,0),.live ⟨2,[[(.own 1 (map d_y v9)),(.i v10)]],[]⟩)]⟩:St)=h106_0 l0_0 a0 a1 (i - 1) ((o64_0 (zz a0 (o110_0 (K_LyEi.mk a0.f0 v0))) 4).f1) v1 v2 v3 v4 v5 v6 v7 v8 v9 v10 from(by unfold h106_0; simp only[hw]; done)] at st
    exact .loopN st ih
def o106_0 (a0:K_LyEi) (a1:Int):K_LyEi:=
  (match r106_0 a0 (toNat (m48 a0 a1)) (m48 a0 a1) ((o48_0 a0 a1).f1) 4 10 [] [] [] 0 0 0 [] 0 with | .k0 w0_1 w1_1 w2_1 w3_1 w4_1 w5_1 w6_1 w7_1 w8_1 w9_1 w10_1 w11_1 w12_1=>(K_LyEi.mk a0.f0 w0_1))
def m106_0 (a0:K_LyEi) (a1:Int):K_B:=
  (match r106_0 a0 (toNat (m48 a0 a1)) (m48 a0 a1) ((o48_0 a0 a1).f1) 4 10 [] [] [] 0 0 0 [] 0 with | .k0 w0_1 w1_1 w2_1 w3_1 w4_1 w5_1 w6_1 w7_1 w8_1 w9_1 w10_1 w11_1 w12_1=>(K_B.mk w1_1 w2_1 w3_1 w4_1 w5_1 w6_1 w7_1 w8_1))
def m106_1 (a0:K_LyEi) (a1:Int):K_LyEi:=
  (match r106_0 a0 (toNat (m48 a0 a1)) (m48 a0 a1) ((o48_0 a0 a1).f1) 4 10 [] [] [] 0 0 0 [] 0 with | .k0 w0_1 w1_1 w2_1 w3_1 w4_1 w5_1 w6_1 w7_1 w8_1 w9_1 w10_1 w11_1 w12_1=>(K_LyEi.mk w9_1 w10_1))
theorem e106 {l0_0:Nat} {a0:K_LyEi} {a1:Int} (hy0:S a0 100) (hy1:1≤a1) (hy2:a1≤16):Ev F X (.call 106 [(.ptr ⟨(0,0,0),[],0,0,2⟩),(.one (.val (.int .i64 a1)))] [((0,0,0),⟨2,[[(.bor (l0_0+1) (map b_y a0.f0)),(.val (.int .i64 a0.f1))]],[]⟩)] [[[(.bor l0_0 (map b_y a0.f0)),(.val (.int .i64 ((o106_0 a0 a1).f1)))]]] [(.agg (d_B (m106_0 a0 a1))),(.agg (d_LyEi (m106_1 a0 a1)))]):=by
  unfold m106_0 m106_1 o106_0
  cases h0:r106_0 a0 (toNat (m48 a0 a1)) (m48 a0 a1) ((o48_0 a0 a1).f1) 4 10 [] [] [] 0 0 0 [] 0 with
  |k0 w0_1 w1_1 w2_1 w3_1 w4_1 w5_1 w6_1 w7_1 w8_1 w9_1 w10_1 w11_1 w12_1=>
    try dsimp only
    have f1:(⟨[(0,(.ptr ⟨(0,0,0),[],0,0,2⟩)),(4,(.ptr ⟨(4,0,0),[],0,0,8⟩)),(5,(.ptr ⟨(5,0,0),[],0,0,2⟩)),(6,(.ptr ⟨(6,0,0),[],0,0,8⟩)),(7,(.ptr ⟨(7,0,0),[],0,0,2⟩)),(8,(.oi (m48 a0 a1)))],[((0,0,0),.live ⟨2,[[(.bor (l0_0+1) (map b_y a0.f0)),(.i ((o48_0 a0 a1).f1))]],[]⟩),((4,0,0),.live ⟨8,[[(.i 0),(.i 0),(.own 2 []),(.own 5 []),(.own 2 []),(.i 0),(.i 0),(.i 0)]],[]⟩),((5,0,0),.live ⟨2,[[(.own 1 []),(.i 0)]],[]⟩),((6,0,0),.live ⟨8,[[(.i 4),(.i 10),(.own 2 []),(.own 5 []),(.own 2 []),(.i 0),(.i 0),(.i 0)]],[]⟩),((7,0,0),.live ⟨2,[[(.own 1 []),(.i 0)]],[]⟩)]⟩:St)=h106_0 l0_0 a0 a1 (m48 a0 a1) ((o48_0 a0 a1).f1) 4 10 [] [] [] 0 0 0 [] 0:=(by rfl)
    exact cq [false] (by kernel_rfl) (.r 21 [false] [] (e48 (l0_0:=(l0_0+1)) (a0:=a0) (a1:=a1) (by (repeat (first | with_reducible refine sm110 ?_ rfl | with_reducible refine sm64 _ ?_ rfl | with_reducible refine sm41 _ ?_ rfl | with_reducible refine sm48 _ ?_ rfl | with_reducible refine sm40 ?_ rfl)); exact S_le (by assumption) (by omega))) (.f f1 (.f (ev_ (e:=ex106_0) (g:=(fin106_0 l0_0 a0 a1)) h0 (t106_0 (l0_0:=l0_0) (a0:=a0) (a1:=a1) (by assumption) (by assumption) (by assumption) _ (m48 a0 a1) ((o48_0 a0 a1).f1) 4 10 [] [] [] 0 0 0 [] 0 (by omega) (by have q:=rng a0 a1 (S_le hy0 (by omega)) (by omega) (by omega); omega) (by have q:=rng a0 a1 (S_le hy0 (by omega)) (by omega) (by omega); exact sm48 _ (S_le hy0 (by omega)) rfl) (by exact GL0) (by have q:=rng a0 a1 (S_le hy0 (by omega)) (by omega) (by omega); simp only[length_nil]; omega) (by intro z hz; cases hz))) (p3 w3_1 w4_1 w5_1 (pe 0 (pe (length (map d_y w9_1)) (.f (pureR_si w3_1) (.f (pureR_R w4_1) (.f (pureR_si w5_1) (.f (pureR_y w9_1) (.h 24 (.loop (h106_0 l0_0 a0 a1 (m48 a0 a1) ((o48_0 a0 a1).f1) 4 10 [] [] [] 0 0 0 [] 0) (.exit 0) ⟨[(0,(.ptr ⟨(0,0,0),[],0,0,2⟩)),(4,(.ptr ⟨(4,0,0),[],0,0,8⟩)),(5,(.ptr ⟨(5,0,0),[],0,0,2⟩)),(6,(.ptr ⟨(6,0,0),[],0,0,8⟩)),(7,(.ptr ⟨(7,0,0),[],0,0,2⟩)),(8,(.oi w11_1)),(17,(.one (.val (.bool w12_1))))],[((0,0,0),.live ⟨2,[[(.bor (l0_0+1) (map b_y a0.f0)),(.i w0_1)]],[]⟩),((4,0,0),.live ⟨8,[[(.i 0),(.i 0),(.own 2 []),(.own 5 []),(.own 2 []),(.i 0),(.i 0),(.i 0)]],[]⟩),((5,0,0),.live ⟨2,[[(.own 1 []),(.i 0)]],[]⟩),((6,0,0),.live ⟨8,[[(.i w1_1),(.i w2_1),(.own 2 (map d_si w3_1)),(.own 5 (map d_R w4_1)),(.own 2 (map d_si w5_1)),(.i w6_1),(.i w7_1),(.i w8_1)]],[]⟩),((7,0,0),.live ⟨2,[[(.own 1 (map d_y w9_1)),(.i w10_1)]],[]⟩)]⟩) .nil)))))))))))
theorem dv_r (a:K_LyEi):∀(n:Nat) (i v0 v1 v2:Int) (v3:List K_si) (v4:List K_R) (v5:List K_si) (v6 v7 v8:Int) (v9:List Int) (v10:Int) (m:Nat),S (K_LyEi.mk a.f0 v0) (5*n+m)→v9.length+20*n≤400→(∀z∈v9,(0:Int)≤z∧z≤255)→∀w0 w1 w2 w3 w4 w5 w6 w7 w8 w9 w10 w11 w12,r106_0 a n i v0 v1 v2 v3 v4 v5 v6 v7 v8 v9 v10=.k0 w0 w1 w2 w3 w4 w5 w6 w7 w8 w9 w10 w11 w12→S (K_LyEi.mk a.f0 w0) m∧w9.length≤400∧∀z∈w9,(0:Int)≤z∧z≤255
  |0,i,v0,v1,v2,v3,v4,v5,v6,v7,v8,v9,v10,m,h,hl,hb,w0,w1,w2,w3,w4,w5,w6,w7,w8,w9,w10,w11,w12,e=>by
    simp only[r106_0] at e
    injection e with e0 e1 e2 e3 e4 e5 e6 e7 e8 e9
    subst e0 e9
    exact⟨S_le h yb,by omega,hb⟩
  |n+1,i,v0,v1,v2,v3,v4,v5,v6,v7,v8,v9,v10,m,h,hl,hb,w0,w1,w2,w3,w4,w5,w6,w7,w8,w9,w10,w11,w12,e=>by
    simp only[r106_0] at e
    have hs:S (zz a (o64_0 (zz a (o110_0 (K_LyEi.mk a.f0 v0))) 4)) (5*n+m):=sm64 _ (sm110 (S_le h yb) rfl) rfl
    have hz:=es110 (K_LyEi.mk a.f0 v0)
    have hl2:((m74_0 (K_LyEi.mk v9 v10) (m110 (K_LyEi.mk a.f0 v0))).f0).length+20*n≤400:=by simp only[apl]; omega
    split at e
    · split at e
      · exact dv_r a n _ _ _ _ _ _ _ _ _ _ _ _ m hs hl2 (apb _ _ hb) w0 w1 w2 w3 w4 w5 w6 w7 w8 w9 w10 w11 w12 e
      exact dv_r a n _ _ _ _ _ _ _ _ _ _ _ _ m hs hl2 (apb _ _ hb) w0 w1 w2 w3 w4 w5 w6 w7 w8 w9 w10 w11 w12 e
    split at e
    · exact dv_r a n _ _ _ _ _ _ _ _ _ _ _ _ m hs yb hb w0 w1 w2 w3 w4 w5 w6 w7 w8 w9 w10 w11 w12 e
    exact dv_r a n _ _ _ _ _ _ _ _ _ _ _ _ m hs yb hb w0 w1 w2 w3 w4 w5 w6 w7 w8 w9 w10 w11 w12 e
theorem dvG {a:K_LyEi} {k:Int} {m:Nat} (h:S a (m+100)) (h1:1≤k) (h2:k≤16):S (o106_0 a k) m∧(m106_1 a k).f0.length≤400∧∀z∈(m106_1 a k).f0,(0:Int)≤z∧z≤255:=by
  have q:=rng a k (S_le h yb) h1 yb
  have hS:S (zz a (o48_0 a k)) (5*toNat (m48 a k)+m):=sm48 _ (S_le h yb) rfl
  unfold o106_0 m106_1
  cases e:r106_0 a (toNat (m48 a k)) (m48 a k) ((o48_0 a k).f1) 4 10 [] [] [] 0 0 0 [] 0 with
  |k0 w0 w1 w2 w3 w4 w5 w6 w7 w8 w9 w10 w11 w12=>exact dv_r a _ _ _ _ _ _ _ _ _ _ _ _ _ m hS (by simp only[length_nil]; omega) (fun z hz=>by cases hz) w0 w1 w2 w3 w4 w5 w6 w7 w8 w9 w10 w11 w12 e
theorem sm106 {a:K_LyEi} {k:Int} {n:Nat} {f:List Int} (h1:1≤k) (h2:k≤16) (h:S a (n+100)) (e:a.f0=f):S (K_LyEi.mk f ((o106_0 a k).f1)) n:=by
  have e2:(o106_0 a k).f0=a.f0:=by unfold o106_0; split; rfl
  rw[← e,← e2]; exact(dvG h h1 h2).1
inductive O107_0 where
  |k0 (w0:Int) (w1:List Int) (w2:Int) (w3:Bool)
def r107_0 (a0:K_LyEi):Nat→Int→Int→List Int→O107_0
  |n+1,i,v0,v1=>
    (r107_0 a0 n (i - 1) ((o48_0 (K_LyEi.mk a0.f0 v0) 256).f1) (v1++([(wrap .u8 ((m48 (K_LyEi.mk a0.f0 v0) 256)))])))
  |0,i,v0,v1=>(O107_0.k0 v0 v1 i (decide (i > 0)))
def h107_0 (l0_0:Nat) (a0:K_LyEi) (a1:Int) (i:Int) (v0:Int) (v1:List Int):St:=⟨[(0,(.ptr ⟨(0,0,0),[],0,0,2⟩)),(1,(.one (.val (.int .i64 i)))),(5,(.one (.ref ⟨(5,0,0),[],0,(length (map d_y v1))⟩)))],[((0,0,0),.live ⟨2,[[(.bor (l0_0+1) (map b_y a0.f0)),(.val (.int .i64 v0))]],[]⟩),((5,0,0),.live ⟨1,(map d_y v1),[]⟩)]⟩
def ex107_0:O107_0→VX.Exit
  |.k0 _ _ _ _=>(.exit 0)
def fin107_0 (l0_0:Nat) (a0:K_LyEi) (a1:Int):O107_0→St
  |.k0 w0 w1 w2 w3=>⟨[(0,(.ptr ⟨(0,0,0),[],0,0,2⟩)),(1,(.one (.val (.int .i64 w2)))),(5,(.one (.ref ⟨(5,0,0),[],0,(length (map d_y w1))⟩))),(8,(.one (.val (.bool w3))))],[((0,0,0),.live ⟨2,[[(.bor (l0_0+1) (map b_y a0.f0)),(.val (.int .i64 w0))]],[]⟩),((5,0,0),.live ⟨1,(map d_y w1),[]⟩)]⟩
theorem t107_0 {l0_0:Nat} {a0:K_LyEi} {a1:Int} (hy0:S a0 10) (hy1:0≤a1) (hy2:a1≤5):∀(n:Nat) (i:Int) (v0:Int) (v1:List Int),n=toNat i→(length v1+n)*1≤70368744177664→i≤9223372036854775807→S (K_LyEi.mk a0.f0 v0) (n+1)→(n:Int)≤5→Ev F X (.code l107_0 (h107_0 l0_0 a0 a1 i v0 v1) (ex107_0 (r107_0 a0 n i v0 v1)) (fin107_0 l0_0 a0 a1 (r107_0 a0 n i v0 v1)))
  |0,i,v0,v1,hn,hi0,hi1,hi2,hi3=>by
    have hc:¬(decide (i > 0))=true:=by
      simp only[decide_eq_true_eq]; omega
    have st:=ch b107_0 (h107_0 l0_0 a0 a1 i v0 v1) ⟨[(0,(.ptr ⟨(0,0,0),[],0,0,2⟩)),(1,(.oi i)),(5,(.one (.ref ⟨(5,0,0),[],0,(length (map d_y v1))⟩))),(8,(.one (.val (.bool (decide (i > 0))))))],[((0,0,0),.live ⟨2,[[(.bor (l0_0+1) (map b_y a0.f0)),(.i v0)]],[]⟩),((5,0,0),.live ⟨1,(map d_y v1),[]⟩)]⟩ (.exit 0) 5 (by kernel_rfl) (.f (nt hc) (U 4 .nil))
    rw[show (⟨[(0,(.ptr ⟨(0,0,0),[],0,0,2⟩)),(1,(.oi i)),(5,(.one (.ref ⟨(5,0,0),[],0,(length (map d_y v1))⟩))),(8,(.one (.val (.bool (decide (i > 0))))))],[((0,0,0),.live ⟨2,[[(.bor (l0_0+1) (map b_y a0.f0)),(.i v0)]],[]⟩),((5,0,0),.live ⟨1,(map d_y v1),[]⟩)]⟩:St)=fin107_0 l0_0 a0 a1 (.k0 v0 v1 i (decide (i > 0))) from(by rfl)] at st
    exact .loopX st (show ((.exit 0):VX.Exit)≠.normal from by simp)
  |n+1,i,v0,v1,hn,hi0,hi1,hi2,hi3=>by
    have hc:(decide (i > 0))=true:=by
      simp only[decide_eq_true_eq]; omega
    have hw:wrap .i64 (i - 1)=i - 1:=wrap64 (by omega)
    have hj0:=hi0; try simp only[LN,Int.toNat_natCast] at hj0
    have hj1:=hi1; try simp only[LN,Int.toNat_natCast] at hj1
    have hj2:=hi2; try simp only[LN,Int.toNat_natCast] at hj2
    have hj3:=hi3; try simp only[LN,Int.toNat_natCast] at hj3
    simp only[r107_0]
    have f2:0+(length (map d_y v1))≤(length (map d_y v1)):=(by omega)
    have f3:1≤1:=(by omega)
    have f4:((take 1 (drop 0 [[(.val (.int .u8 (wrap .u8 ((m48 (K_LyEi.mk a0.f0 v0) 256)))))]])).all fun x=>x.all copyable)=true:=(by trivial)
    have f5:(length ((take (length (map d_y v1)) (drop 0 (map d_y v1)))++([[(.val (.int .u8 (wrap .u8 ((m48 (K_LyEi.mk a0.f0 v0) 256)))))]]:List (List D))))*1≤70368744177664:=(by simp; omega)
    have f6:∀r∈([[(.val (.int .u8 (wrap .u8 ((m48 (K_LyEi.mk a0.f0 v0) 256)))))]]:List (List D)),r.length=1:=(by simp only[List.drop_zero,tbr,tsi,ly_y,ly0_y,← List.map_append,List.take_length,List.cons_append,List.nil_append,append_assoc]; exact lenD_y _)
    have f7:((take (length (map d_y v1)) (drop 0 (map d_y v1)))++([[(.val (.int .u8 (wrap .u8 ((m48 (K_LyEi.mk a0.f0 v0) 256)))))]]:List (List D)))=(map d_y (v1++([(wrap .u8 ((m48 (K_LyEi.mk a0.f0 v0) 256)))]))):=(by simp[take_of_length_le,d_y,four_len]; done)
    have st:=ch b107_0 (h107_0 l0_0 a0 a1 i v0 v1) ⟨[(0,(.ptr ⟨(0,0,0),[],0,0,2⟩)),(1,(.oi (wrap .i64 (i - 1)))),(5,(.one (.ref ⟨(5,0,0),[],0,(length ((take (length (map d_y v1)) (drop 0 (map d_y v1)))++([[(.val (.int .u8 (wrap .u8 ((m48 (K_LyEi.mk a0.f0 v0) 256)))))]]:List (List D))))⟩)))],[((0,0,0),.live ⟨2,[[(.bor (l0_0+1) (map b_y a0.f0)),(.i ((o48_0 (K_LyEi.mk a0.f0 v0) 256).f1))]],[]⟩),((5,0,0),.live ⟨1,(map d_y (v1++([(wrap .u8 ((m48 (K_LyEi.mk a0.f0 v0) 256)))]))),[]⟩)]⟩ .normal 26 (by kernel_rfl) (.f hc (T 4 (.r 10 [false] [] (e48 (l0_0:=(l0_0+1)) (a0:=(K_LyEi.mk a0.f0 v0)) (a1:=256) (by (repeat (first | with_reducible refine sm41 _ ?_ rfl | with_reducible refine sm48 _ ?_ rfl | with_reducible refine sm40 ?_ rfl)); exact S_le (by assumption) (by omega))) (.f f2 (.f f3 (.f f4 (.f f5 (.f f6 (.f f7 (T 16 (.h 19 (.norm (5,0,0) (map d_y (v1++([(wrap .u8 ((m48 (K_LyEi.mk a0.f0 v0) 256)))])))) .nil)))))))))))
    have ih:=t107_0 (l0_0:=l0_0) (a0:=a0) (a1:=a1) hy0 hy1 hy2 n (i - 1) ((o48_0 (K_LyEi.mk a0.f0 v0) 256).f1) (v1++([(wrap .u8 ((m48 (K_LyEi.mk a0.f0 v0) 256)))])) (by omega) (by simp only[LN]; omega) (by omega) (by (repeat (first | with_reducible refine sm41 _ ?_ rfl | with_reducible refine sm48 _ ?_ rfl | with_reducible refine sm40 ?_ rfl)); exact S_le (by assumption) (by omega)) (by omega)
    rw[show (⟨[(0,(.ptr ⟨(0,0,0),[],0,0,2⟩)),(1,(.oi (wrap .i64 (i - 1)))),(5,(.one (.ref ⟨(5,0,0),[],0,(length ((take (length (map d_y v1)) (drop 0 (map d_y v1)))++([[(.val (.int .u8 (wrap .u8 ((m48 (K_LyEi.mk a0.f0 v0) 256)))))]]:List (List D))))⟩)))],[((0,0,0),.live ⟨2,[[(.bor (l0_0+1) (map b_y a0.f0)),(.i ((o48_0 (K_LyEi.mk a0.f0 v0) 256).f1))]],[]⟩),((5,0,0),.live ⟨1,(map d_y (v1++([(wrap .u8 ((m48 (K_LyEi.mk a0.f0 v0) 256)))]))),[]⟩)]⟩:St)=h107_0 l0_0 a0 a1 (i - 1) ((o48_0 (K_LyEi.mk a0.f0 v0) 256).f1) (v1++([(wrap .u8 ((m48 (K_LyEi.mk a0.f0 v0) 256)))])) from(by unfold h107_0; simp[hw,take_of_length_le,d_y,four_len]; done)] at st
    exact .loopN st ih
def post107_0 (n0:Nat):O107_0→Prop
  |.k0 _ w1 _ _=>length w1=n0
theorem z107_0 {a0:K_LyEi}:∀(n:Nat) (i:Int) (v0:Int) (v1:List Int),post107_0 (length v1+n) (r107_0 a0 n i v0 v1)
  |0,i,v0,v1=>by
    first | trivial |(simp only[post107_0,length_nil,Nat.add_zero]; done) |(simp[post107_0]; done)
  |n+1,i,v0,v1=>by
    simp only[r107_0]
    have z:=z107_0 (a0:=a0) n (i - 1) ((o48_0 (K_LyEi.mk a0.f0 v0) 256).f1) (v1++([(wrap .u8 ((m48 (K_LyEi.mk a0.f0 v0) 256)))]))
    rw[show (length v1+(n+1))=(length (v1++([(wrap .u8 ((m48 (K_LyEi.mk a0.f0 v0) 256)))]))+n) from by first | omega |(simp only[LN]; done) |(simp only[LN]; omega)]
    exact z
def o107_0 (a0:K_LyEi) (a1:Int):K_LyEi:=
  (match r107_0 a0 (toNat a1) a1 a0.f1 ([]) with | .k0 w0_0 w1_0 w2_0 w3_0=>(K_LyEi.mk a0.f0 w0_0))
def m107 (a0:K_LyEi) (a1:Int):(List Int):=
  (match r107_0 a0 (toNat a1) a1 a0.f1 ([]) with | .k0 w0_0 w1_0 w2_0 w3_0=>w1_0)
theorem e107 {l0_0:Nat} {a0:K_LyEi} {a1:Int} (hy0:S a0 10) (hy1:0≤a1) (hy2:a1≤5):Ev F X (.call 107 [(.ptr ⟨(0,0,0),[],0,0,2⟩),(.one (.val (.int .i64 a1)))] [((0,0,0),⟨2,[[(.bor (l0_0+1) (map b_y a0.f0)),(.val (.int .i64 a0.f1))]],[]⟩)] [[[(.bor l0_0 (map b_y a0.f0)),(.val (.int .i64 ((o107_0 a0 a1).f1)))]]] [(.one (.own 1 (map d_y (m107 a0 a1))))]):=by
  unfold m107 o107_0
  cases h0:r107_0 a0 (toNat a1) a1 a0.f1 ([]) with
  |k0 w0_0 w1_0 w2_0 w3_0=>
    try dsimp only
    have zh0:=z107_0 (a0:=a0) (toNat a1) a1 a0.f1 ([]); rw[h0] at zh0; simp only[post107_0,length_map,length_set,length_append,length_replicate,length_cons,length_nil,Int.toNat_natCast] at zh0
    have f0:(⟨[(0,(.ptr ⟨(0,0,0),[],0,0,2⟩)),(1,(.oi a1)),(5,(.one (.ref ⟨(5,0,0),[],0,0⟩)))],[((0,0,0),.live ⟨2,[[(.bor (l0_0+1) (map b_y a0.f0)),(.i a0.f1)]],[]⟩),((5,0,0),.live ⟨1,[],[]⟩)]⟩:St)=h107_0 l0_0 a0 a1 a1 a0.f1 ([]):=(by rfl)
    exact cq [false] (by kernel_rfl) (.f f0 (.f (ev_ (e:=ex107_0) (g:=(fin107_0 l0_0 a0 a1)) h0 (t107_0 (l0_0:=l0_0) (a0:=a0) (a1:=a1) (by assumption) (by assumption) (by assumption) _ a1 a0.f1 ([]) (by omega) (by simp only[LN]; omega) (by omega) (by (repeat (first | with_reducible refine sm41 _ ?_ rfl | with_reducible refine sm48 _ ?_ rfl | with_reducible refine sm40 ?_ rfl)); exact S_le (by assumption) (by omega)) (by omega))) (pe 0 (pe (length (map d_y w1_0)) (.f (pureR_y w1_0) (.h 6 (.loop (h107_0 l0_0 a0 a1 a1 a0.f1 ([])) (.exit 0) ⟨[(0,(.ptr ⟨(0,0,0),[],0,0,2⟩)),(1,(.oi w2_0)),(5,(.one (.ref ⟨(5,0,0),[],0,(length (map d_y w1_0))⟩))),(8,(.one (.val (.bool w3_0))))],[((0,0,0),.live ⟨2,[[(.bor (l0_0+1) (map b_y a0.f0)),(.i w0_0)]],[]⟩),((5,0,0),.live ⟨1,(map d_y w1_0),[]⟩)]⟩) .nil))))))
theorem so_r (a:K_LyEi):∀(n:Nat) (i v0:Int) (v1:List Int) (m:Nat),S (K_LyEi.mk a.f0 v0) (n+m)→(∀z∈v1,(0:Int)≤z∧z≤255)→∃w0 w1 w2 w3,r107_0 a n i v0 v1=.k0 w0 w1 w2 w3∧S (K_LyEi.mk a.f0 w0) m∧(∀z∈w1,(0:Int)≤z∧z≤255)∧w1.length=v1.length+n
  |0,i,v0,v1,m,h,hv=>⟨_,_,_,_,rfl,S_le h yb,hv,rfl⟩
  |n+1,i,v0,v1,m,h,hv=>by
    simp only[r107_0]
    obtain ⟨w0, w1, w2, w3, e, h1, h2, h3⟩ := so_r a n (i - 1) ((o48_0 (K_LyEi.mk a.f0 v0) 256).f1) (v1 ++ [(wrap .u8 ((m48 (K_LyEi.mk a.f0 v0) 256)))]) m (sm48 256 (S_le h yb) rfl) (fun z hz => by
      rcases List.mem_append.1 hz with hz | hz
      · exact hv z hz
      rw[List.mem_singleton.1 hz]; exact u8_range _)
    exact⟨w0,w1,w2,w3,e,h1,h2,by simp at h3; omega⟩
theorem so_ok {a:K_LyEi} {k:Int} {m:Nat} (h:S a (toNat k+m)):S (o107_0 a k) m∧(∀z∈m107 a k,(0:Int)≤z∧z≤255)∧(m107 a k).length=toNat k:=by
  obtain⟨w0,w1,w2,w3,e,h1,h2,h3⟩:=so_r a (toNat k) k a.f1 [] m h (fun z hz=>by cases hz)
  unfold o107_0 m107
  rw[e]; exact⟨h1,h2,by simpa using h3⟩
theorem sm107 {a:K_LyEi} {k:Int} {n:Nat} {f:List Int} (hk:k≤5) (h:S a (n+5)) (e:a.f0=f):S (K_LyEi.mk f ((o107_0 a k).f1)) n:=by
  have e2:(o107_0 a k).f0=a.f0:=by unfold o107_0; split; rfl
  rw[← e,← e2]; exact(so_ok (m:=n) (S_le h yb)).1
theorem dk (a:K_LyEi) (h:S a 130):(m106_1 a 16).f0.length≤400∧(∀z∈(m106_1 a 16).f0,(0:Int)≤z∧z≤255)∧(0≤m48 (K_LyEi.mk a.f0 ((o48_0 (K_LyEi.mk a.f0 ((o106_0 a 16).f1)) 10).f1)) 5∧m48 (K_LyEi.mk a.f0 ((o48_0 (K_LyEi.mk a.f0 ((o106_0 a 16).f1)) 10).f1)) 5 < 5)∧S (K_LyEi.mk a.f0 ((o48_0 (K_LyEi.mk a.f0 ((o48_0 (K_LyEi.mk a.f0 ((o106_0 a 16).f1)) 10).f1)) 5).f1)) 25∧(0 <(m106_1 a 16).f0.length→0≤m48 (K_LyEi.mk a.f0 ((o48_0 (K_LyEi.mk a.f0 ((o106_0 a 16).f1)) 10).f1)) (((m106_1 a 16).f0.length:Nat):Int)∧m48 (K_LyEi.mk a.f0 ((o48_0 (K_LyEi.mk a.f0 ((o106_0 a 16).f1)) 10).f1)) (((m106_1 a 16).f0.length:Nat):Int) <(((m106_1 a 16).f0.length:Nat):Int))∧(m107 (K_LyEi.mk a.f0 ((o48_0 (K_LyEi.mk a.f0 ((o48_0 (K_LyEi.mk a.f0 ((o106_0 a 16).f1)) 10).f1)) 5).f1)) (m48 (K_LyEi.mk a.f0 ((o48_0 (K_LyEi.mk a.f0 ((o106_0 a 16).f1)) 10).f1)) 5)).length≤5:=by
  have q:=dvG (m:=30) (k:=16) (S_le h yb) yam yam
  have h2:S (zz a (o48_0 (zz a (o106_0 a 16)) 10)) 29:=sm48 _ (sm106 yam yam (S_le h yb) rfl) rfl
  have r5:=rng _ 5 (S_le h2 yb) yam yam
  have h3:S (zz a (o48_0 (zz a (o48_0 (zz a (o106_0 a 16)) 10)) 5)) 25:=sm48 _ (S_le h2 yb) rfl
  exact⟨q.2.1,q.2.2,r5,h3,fun hl=>rng _ _ (S_le h2 yb) yb (by have:=q.2.1; omega),by rw[(so_ok (a:=(zz a (o48_0 (zz a (o48_0 (zz a (o106_0 a 16)) 10)) 5))) (k:=m48 (zz a (o48_0 (zz a (o106_0 a 16)) 10)) 5) (m:=0) (S_le h3 yb)).2.2]; omega⟩
end Go.Proofs.YtihjlmgakpgkeaaDoor.Journals
