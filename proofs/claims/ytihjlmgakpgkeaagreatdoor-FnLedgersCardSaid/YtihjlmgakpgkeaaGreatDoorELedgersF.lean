/- What the functions compute. -/
import Derived.Test.YtihjlmgakpgkeaaGreatDoorELedgersE
import Derived.KernelRfl
namespace Go.Proofs.YtihjlmgakpgkeaaGreatDoor.Ledgers
open Go Go.Proofs.YtihjlmgakpgkeaaGreatDoor.V
set_option linter.unusedVariables false
set_option linter.unusedSimpArgs false
set_option maxRecDepth 20000
open Go.IntKind (wrap)
open Int (toNat)
open List (length_replicate length_map length_set length_append length_cons length_nil length_take length_drop take_of_length_le map_take map_drop map_set append_assoc getElem?_map map length take drop getD set)
attribute [local simp] strInts_len byteRows_len toBR_y fullR_y pureR_y lenB_y lenD_y fromBR_y copy_y toBR_LyE fullR_LyE pureR_LyE lenB_LyE lenD_LyE toBR_b fullR_b pureR_b lenB_b lenD_b fromBR_b copy_b toBR_si fullR_si pureR_si lenB_si lenD_si fromBR_si copy_si toBR_R fullR_R pureR_R lenB_R lenD_R toBR_B fullR_B pureR_B lenB_B lenD_B toBR_i fullR_i pureR_i lenB_i lenD_i fromBR_i copy_i toBR_C fullR_C pureR_C lenB_C lenD_C toBR_LyEi fullR_LyEi pureR_LyEi lenB_LyEi lenD_LyEi toBR_Q fullR_Q pureR_Q lenB_Q lenD_Q toBR_LiE fullR_LiE pureR_LiE lenB_LiE lenD_LiE toBR_LsiE fullR_LsiE pureR_LsiE lenB_LsiE lenD_LsiE toBR_s fullR_s pureR_s lenB_s lenD_s fromBR_s copy_s
def m15 (a0:K_B) (a1:Int) (a2:Int):K_C:=
  if((m36 a0) !=0)=true then(K_C.mk (m36 a0) 0 0 0 ([]) ([]) ([]) 0 0 0) else
  (K_C.mk ((m43 a0 a1 a2).f0) 0 ((m43 a0 a1 a2).f2) ((m43 a0 a1 a2).f3) ((m43 a0 a1 a2).f4) ((m43 a0 a1 a2).f5) ((m43 a0 a1 a2).f6) ((m43 a0 a1 a2).f7) ((m43 a0 a1 a2).f8) ((m43 a0 a1 a2).f9))
theorem e15 {l0_2:Nat} {l0_3:Nat} {l0_4:Nat} {a0:K_B} {a1:Int} {a2:Int} (hy0:length a0.f2*24≤140737488351232) (hy1:∀z∈a0.f2,os_si z) (hy2:length a0.f3*56≤140737488351232) (hy3:∀z∈a0.f3,os_R z) (hy4:length a0.f4*24≤140737488351232) (hy5:∀z∈a0.f4,os_si z):Ev F X (.call 15 [(.agg (k_B l0_2 l0_3 l0_4 a0)),(.one (.val (.int .i64 a1))),(.one (.val (.int .i64 a2)))] [] [] [(.agg (d_C (m15 a0 a1 a2)))]):=by
  unfold m15
  have f0:fullL [(.i a0.f0),(.i a0.f1),(.bor l0_2 (map b_si a0.f2)),(.bor l0_3 (map b_R a0.f3)),(.bor l0_4 (map b_si a0.f4)),(.i a0.f5),(.i a0.f6),(.i a0.f7)]=true:=yA
  have P0 {hs q} (r:PS F X hs q):=(PS.f f0 (.r 5 [] [] (e36 (l0:=0) (a0:=a0) ‹_› ‹_› ‹_› ‹_› ‹_› ‹_›) r))
  by_cases h0:((m36 a0) !=0)=true
  · try simp only[if_pos h0]
    exact cp ya (P0 (.f h0 (hT 12 (.r 16 [] [] (e37 (a0:=(m36 a0))) (p3 ([]) ([]) ([]) (.f (pureR_si ([])) (.f (pureR_R ([])) (.f (pureR_si ([])) .nil))))))))
  try simp only[if_neg h0]
  exact cp ya (P0 (N h0 (U 12 (.r 20 [] [] (e43 (l0_2:=(l0_2+1)) (l0_3:=(l0_3+1)) (l0_4:=(l0_4+1)) (a0:=a0) (a1:=a1) (a2:=a2) yS yS yal yS yX yS (by exact(fw36 ‹_›).1) (by exact(fw36 ‹_›).2)) (p3 ((m43 a0 a1 a2).f4) ((m43 a0 a1 a2).f5) ((m43 a0 a1 a2).f6) (p3 ((m43 a0 a1 a2).f4) ((m43 a0 a1 a2).f5) ((m43 a0 a1 a2).f6) (.f (pureR_si ((m43 a0 a1 a2).f4)) (.f (pureR_R ((m43 a0 a1 a2).f5)) (.f (pureR_si ((m43 a0 a1 a2).f6)) .nil)))))))))
inductive O16_0 where
  |k0 (w0:Int) (w1:Int) (w2:Bool)
def r16_0 (a0:K_B):List K_si→Int→Int→O16_0
  |x0::y0,i,v0=>
    (r16_0 a0 y0 (i+1) (wrap .i64 (v0+x0.f1)))
  |[],i,v0=>(O16_0.k0 v0 i (decide (i <((length (map b_si a0.f4)):Int))))
def h16_0 (l0_2:Nat) (l0_3:Nat) (l0_4:Nat) (a0:K_B) (i:Int) (v0:Int):St:=⟨[(1,(.ptr ⟨(1,0,0),[],0,0,8⟩)),(3,(.one (.val (.int .i64 v0)))),(4,(.one (.val (.int .i64 i))))],[((1,0,0),.live ⟨8,[[(.val (.int .i64 a0.f0)),(.val (.int .i64 a0.f1)),(.bor l0_2 (map b_si a0.f2)),(.bor l0_3 (map b_R a0.f3)),(.bor l0_4 (map b_si a0.f4)),(.val (.int .i64 a0.f5)),(.val (.int .i64 a0.f6)),(.val (.int .i64 a0.f7))]],[]⟩)]⟩
def ex16_0:O16_0→VX.Exit
  |.k0 _ _ _=>(.exit 0)
def fin16_0 (l0_2:Nat) (l0_3:Nat) (l0_4:Nat) (a0:K_B):O16_0→St
  |.k0 w0 w1 w2=>⟨[(1,(.ptr ⟨(1,0,0),[],0,0,8⟩)),(3,(.one (.val (.int .i64 w0)))),(4,(.one (.val (.int .i64 w1)))),(9,(.one (.val (.bool w2))))],[((1,0,0),.live ⟨8,[[(.val (.int .i64 a0.f0)),(.val (.int .i64 a0.f1)),(.bor l0_2 (map b_si a0.f2)),(.bor l0_3 (map b_R a0.f3)),(.bor l0_4 (map b_si a0.f4)),(.val (.int .i64 a0.f5)),(.val (.int .i64 a0.f6)),(.val (.int .i64 a0.f7))]],[]⟩)]⟩
theorem t16_0 {l0_2:Nat} {l0_3:Nat} {l0_4:Nat} {a0:K_B} (hy0:length a0.f2*24≤140737488351232) (hy1:length a0.f3*56≤140737488351232) (hy2:∀z∈a0.f3,ok_R z) (hy3:length a0.f4*24≤140737488351232):∀(y0:List K_si) (p:List K_si) (v0:Int),p++y0=a0.f4→Ev F X (.code l16_0 (h16_0 l0_2 l0_3 l0_4 a0 (length p:Int) v0) (ex16_0 (r16_0 a0 y0 (length p:Int) v0)) (fin16_0 l0_2 l0_3 l0_4 a0 (r16_0 a0 y0 (length p:Int) v0)))
  |[],p,v0,hp0=>by
    have hc:¬(decide ((length p:Int) <((length (map b_si a0.f4)):Int)))=true:=by
      rw[← hp0]; simp only[LN,decide_eq_true_eq]; omega
    have st:=ch b16_0 (h16_0 l0_2 l0_3 l0_4 a0 (length p:Int) v0) ⟨[(1,(.ptr ⟨(1,0,0),[],0,0,8⟩)),(3,(.oi v0)),(4,(.oi (length p:Int))),(9,(.one (.val (.bool (decide ((length p:Int) <((length (map b_si a0.f4)):Int)))))))],[((1,0,0),.live ⟨8,[[(.i a0.f0),(.i a0.f1),(.bor l0_2 (map b_si a0.f2)),(.bor l0_3 (map b_R a0.f3)),(.bor l0_4 (map b_si a0.f4)),(.i a0.f5),(.i a0.f6),(.i a0.f7)]],[]⟩)]⟩ (.exit 0) 11 (by kernel_rfl) (.f (nt hc) (U 10 .nil))
    rw[show (⟨[(1,(.ptr ⟨(1,0,0),[],0,0,8⟩)),(3,(.oi v0)),(4,(.oi (length p:Int))),(9,(.one (.val (.bool (decide ((length p:Int) <((length (map b_si a0.f4)):Int)))))))],[((1,0,0),.live ⟨8,[[(.i a0.f0),(.i a0.f1),(.bor l0_2 (map b_si a0.f2)),(.bor l0_3 (map b_R a0.f3)),(.bor l0_4 (map b_si a0.f4)),(.i a0.f5),(.i a0.f6),(.i a0.f7)]],[]⟩)]⟩:St)=fin16_0 l0_2 l0_3 l0_4 a0 (.k0 v0 (length p:Int) (decide ((length p:Int) <((length (map b_si a0.f4)):Int)))) from(by rfl)] at st
    exact .loopX st (show ((.exit 0):VX.Exit)≠.normal from by simp)
  |x0::y0,p,v0,hp0=>by
    have hc:(decide ((length p:Int) <((length (map b_si a0.f4)):Int)))=true:=by
      rw[← hp0]; simp only[LN,decide_eq_true_eq]; omega
    have Hx0:(a0.f4)[toNat (length p:Int)]?=some x0:=by
      rw[← hp0,Int.toNat_natCast]; simp
    have hlen:length (a0.f4)=length p+length y0+1:=by rw[← hp0]; simp; omega
    have hw:wrap .i64 ((length p:Int)+1)=(length p:Int)+1:=wrap64 (by omega)
    simp only[r16_0]
    have f1:0≤(length p:Int):=(by omega)
    have st:=ch b16_0 (h16_0 l0_2 l0_3 l0_4 a0 (length p:Int) v0) ⟨[(1,(.ptr ⟨(1,0,0),[],0,0,8⟩)),(3,(.oi (wrap .i64 (v0+x0.f1)))),(4,(.oi (wrap .i64 ((length p:Int)+1))))],[((1,0,0),.live ⟨8,[[(.i a0.f0),(.i a0.f1),(.bor l0_2 (map b_si a0.f2)),(.bor l0_3 (map b_R a0.f3)),(.bor l0_4 (map b_si a0.f4)),(.i a0.f5),(.i a0.f6),(.i a0.f7)]],[]⟩)]⟩ .normal 35 (by kernel_rfl) (.f hc (.f f1 (.f (mp_ b_si Hx0) (.f trivial (.f trivial (hT 10 (.h 20 (.row (b_si x0)) .nil)))))))
    have ih:=t16_0 (l0_2:=l0_2) (l0_3:=l0_3) (l0_4:=l0_4) (a0:=a0) hy0 hy1 hy2 hy3 y0 (p++ [x0]) (wrap .i64 (v0+x0.f1)) (by rw[append_assoc]; exact hp0)
    rw[show ((p++ [x0]).length:Int)=(p.length:Int)+1 from by simp] at ih
    rw[show (⟨[(1,(.ptr ⟨(1,0,0),[],0,0,8⟩)),(3,(.oi (wrap .i64 (v0+x0.f1)))),(4,(.oi (wrap .i64 ((length p:Int)+1))))],[((1,0,0),.live ⟨8,[[(.i a0.f0),(.i a0.f1),(.bor l0_2 (map b_si a0.f2)),(.bor l0_3 (map b_R a0.f3)),(.bor l0_4 (map b_si a0.f4)),(.i a0.f5),(.i a0.f6),(.i a0.f7)]],[]⟩)]⟩:St)=h16_0 l0_2 l0_3 l0_4 a0 ((length p:Int)+1) (wrap .i64 (v0+x0.f1)) from(by unfold h16_0; simp only[hw]; done)] at st
    exact .loopN st ih
def m16 (a0:K_B):Int:=
  (match r16_0 a0 a0.f4 0 0 with | .k0 w0_0 w1_0 w2_0=>w0_0)
theorem e16 {l0_2:Nat} {l0_3:Nat} {l0_4:Nat} {a0:K_B} (hy0:length a0.f2*24≤140737488351232) (hy1:length a0.f3*56≤140737488351232) (hy2:∀z∈a0.f3,ok_R z) (hy3:length a0.f4*24≤140737488351232):Ev F X (.call 16 [(.agg (k_B l0_2 l0_3 l0_4 a0))] [] [] [(.one (.val (.int .i64 (m16 a0))))]):=by
  unfold m16
  cases h0:r16_0 a0 a0.f4 0 0 with
  |k0 w0_0 w1_0 w2_0=>
    try dsimp only
    have f0:(⟨[(1,(.ptr ⟨(1,0,0),[],0,0,8⟩)),(3,(.oi 0)),(4,(.oi 0))],[((1,0,0),.live ⟨8,[[(.i a0.f0),(.i a0.f1),(.bor l0_2 (map b_si a0.f2)),(.bor l0_3 (map b_R a0.f3)),(.bor l0_4 (map b_si a0.f4)),(.i a0.f5),(.i a0.f6),(.i a0.f7)]],[]⟩)]⟩:St)=h16_0 l0_2 l0_3 l0_4 a0 0 0:=yu
    exact cp ya (.f f0 (.f (ev_ (e:=ex16_0) (g:=(fin16_0 l0_2 l0_3 l0_4 a0)) h0 (t16_0 (l0_2:=l0_2) (l0_3:=l0_3) (l0_4:=l0_4) (a0:=a0) (by assumption) (by assumption) (by assumption) (by assumption) a0.f4 [] 0 rfl)) (.h 8 (.loop (h16_0 l0_2 l0_3 l0_4 a0 0 0) (.exit 0) ⟨[(1,(.ptr ⟨(1,0,0),[],0,0,8⟩)),(3,(.oi w0_0)),(4,(.oi w1_0)),(9,(.one (.val (.bool w2_0))))],[((1,0,0),.live ⟨8,[[(.i a0.f0),(.i a0.f1),(.bor l0_2 (map b_si a0.f2)),(.bor l0_3 (map b_R a0.f3)),(.bor l0_4 (map b_si a0.f4)),(.i a0.f5),(.i a0.f6),(.i a0.f7)]],[]⟩)]⟩) .nil)))
def m17 (a0:Int) (a1:Int):K_C:=
  if(!(m44 (K_B.mk a0 a1 [] [] [] 0 0 0)))=true then(K_C.mk 3 0 0 0 [] [] [] 0 0 0) else
  (K_C.mk 0 0 a0 a1 [] [] [] 0 0 0)
theorem e17 {a0:Int} {a1:Int}:Ev F X (.call 17 [(.one (.val (.int .i64 a0))),(.one (.val (.int .i64 a1)))] [] [] [(.agg (d_C (m17 a0 a1)))]):=by
  unfold m17
  have f0:fullL [(.i a0),(.i a1),(.own 2 []),(.own 5 []),(.own 2 []),(.i 0),(.i 0),(.i 0)]=true:=yA
  have P0 {hs q} (r:PS F X hs q):=(PS.f f0 (.r 13 [] [] (e44 (l0:=0) (a0:=(K_B.mk a0 a1 [] [] [] 0 0 0))) r))
  by_cases h0:(!(m44 (K_B.mk a0 a1 [] [] [] 0 0 0)))=true
  · try simp only[if_pos h0]
    have f3:pureR []=true:=(by assumption)
    exact cp ya (P0 (.f h0 (.f f3 (.f f3 (.f f3 (hT 16 .nil))))))
  try simp only[if_neg h0]
  have f9:pureR []=true:=(by assumption)
  exact cp ya (P0 (N h0 (pe 0 (pe 0 (pe 0 (pe 0 (pe 0 (pe 0 (.f f9 (.f f9 (.f f9 (U 16 .nil))))))))))))
def m18 (a0:K_B) (a1:Int):K_C:=
  if((m36 a0) !=0)=true then(K_C.mk (m36 a0) 0 0 0 ([]) ([]) ([]) 0 0 0) else
  (m45 a0 a1)
theorem e18 {l0_2:Nat} {l0_3:Nat} {l0_4:Nat} {a0:K_B} {a1:Int} (hy0:length a0.f2*24≤140737488351232) (hy1:∀z∈a0.f2,os_si z) (hy2:length a0.f3*56≤140737488351232) (hy3:∀z∈a0.f3,os_R z) (hy4:length a0.f4*24≤140737488351232) (hy5:∀z∈a0.f4,os_si z):Ev F X (.call 18 [(.agg (k_B l0_2 l0_3 l0_4 a0)),(.one (.val (.int .i64 a1)))] [] [] [(.agg (d_C (m18 a0 a1)))]):=by
  unfold m18
  have f0:fullL [(.i a0.f0),(.i a0.f1),(.bor l0_2 (map b_si a0.f2)),(.bor l0_3 (map b_R a0.f3)),(.bor l0_4 (map b_si a0.f4)),(.i a0.f5),(.i a0.f6),(.i a0.f7)]=true:=yA
  have P0 {hs q} (r:PS F X hs q):=(PS.f f0 (.r 5 [] [] (e36 (l0:=0) (a0:=a0) ‹_› ‹_› ‹_› ‹_› ‹_› ‹_›) r))
  by_cases h0:((m36 a0) !=0)=true
  · try simp only[if_pos h0]
    exact cp ya (P0 (.f h0 (hT 12 (.r 16 [] [] (e37 (a0:=(m36 a0))) (p3 ([]) ([]) ([]) (.f (pureR_si ([])) (.f (pureR_R ([])) (.f (pureR_si ([])) .nil))))))))
  try simp only[if_neg h0]
  exact cp ya (P0 (N h0 (U 12 (.r 18 [] [] (e45 (l0_2:=(l0_2+1)) (l0_3:=(l0_3+1)) (l0_4:=(l0_4+1)) (a0:=a0) (a1:=a1) yS yS yal yS yX) (p3 ((m45 a0 a1).f4) ((m45 a0 a1).f5) ((m45 a0 a1).f6) (.f (pureR_si ((m45 a0 a1).f4)) (.f (pureR_R ((m45 a0 a1).f5)) (.f (pureR_si ((m45 a0 a1).f6)) .nil))))))))
theorem okm18 (a0:K_B) (a1:Int):ok_C (m18 a0 a1):=by
  unfold m18
  split
  · simp[ok_LyE,ok_R,ok_B,ok_C,ok_LyEi,ok_Q,ok_LiE,ok_LsiE]
  rename_i h
  obtain⟨q1,q2,q3,q4⟩:=fs36 h
  unfold m45
  simp only[cp68]
  (repeat' split)<;>simp only[ok_LyE,ok_R,ok_B,ok_C,ok_LyEi,ok_Q,ok_LiE,ok_LsiE]<;>first |(refine⟨?_,?_,?_,?_⟩<;>(simp; done)) |(refine⟨?_,?_,?_,?_⟩<;>first | omega | exact Nat.le_trans (Nat.mul_le_mul_right _ (ad8 _ _)) (by decide) |(simp only[length_set,length_append,length_cons,length_nil,length_take,length_drop]; omega) | exact oall q3 | exact oset q3 (oget q3 _) | exact oset q3 yax | exact oapp q3 yax)
theorem e19 {l0_2:Nat} {l0_3:Nat} {l0_4:Nat} {a0:K_B} (hy0:length a0.f2*24≤140737488351232) (hy1:∀z∈a0.f2,os_si z) (hy2:length a0.f3*56≤140737488351232) (hy3:∀z∈a0.f3,os_R z) (hy4:length a0.f4*24≤140737488351232) (hy5:∀z∈a0.f4,os_si z):Ev F X (.call 19 [(.agg (k_B l0_2 l0_3 l0_4 a0))] [] [] [(.one (.val (.int .i64 (m36 a0))))]):=by
  have f0:fullL [(.i a0.f0),(.i a0.f1),(.bor l0_2 (map b_si a0.f2)),(.bor l0_3 (map b_R a0.f3)),(.bor l0_4 (map b_si a0.f4)),(.i a0.f5),(.i a0.f6),(.i a0.f7)]=true:=yA
  exact cp ya (.f f0 (.r 5 [] [] (e36 (l0:=0) (a0:=a0) ‹_› ‹_› ‹_› ‹_› ‹_› ‹_›) .nil))
inductive O46_0 where
  |k0 (w0:Int) (w1:Bool)
  |k1
def r46_0 (a0:(List K_si)):List K_si→List K_si→Int→O46_0
  |x0::y0,x1::y1,i=>
    if(!((x0.f0.toList==x1.f0.toList) &&((x0.f1==x1.f1) && true)))=true then(O46_0.k1) else
    (r46_0 a0 y0 y1 (i+1))
  |_,_,i=>(O46_0.k0 i (decide (i <((length (map b_si a0)):Int))))
def h46_0 (l0_0:Nat) (l1_0:Nat) (a0:(List K_si)) (a1:(List K_si)) (i:Int) :St:=⟨[(0,(.one (.bor l0_0 (map b_si a0)))),(1,(.one (.bor l1_0 (map b_si a1)))),(12,(.one (.val (.int .i64 ((length (map b_si a0)):Int))))),(13,(.one (.val (.int .i64 i))))],[]⟩
def ex46_0:O46_0→VX.Exit
  |.k0 _ _=>(.exit 0)
  |.k1=>.ret
def fin46_0 (l0_0:Nat) (l1_0:Nat) (a0:(List K_si)) (a1:(List K_si)):O46_0→St
  |.k0 w0 w1=>⟨[(0,(.one (.bor l0_0 (map b_si a0)))),(1,(.one (.bor l1_0 (map b_si a1)))),(12,(.one (.val (.int .i64 ((length (map b_si a0)):Int))))),(13,(.one (.val (.int .i64 w0)))),(14,(.one (.val (.bool w1))))],[]⟩
  |.k1=>⟨[(4,(.one (.val (.bool false))))],[]⟩
theorem t46_0 {l0_0:Nat} {l1_0:Nat} {a0:(List K_si)} {a1:(List K_si)} (hy0:length a0*24≤140737488351232) (hy1:length a1*24≤140737488351232):∀(y0:List K_si) (y1:List K_si) (p:List K_si) (p_1:List K_si),p++y0=a0→p_1++y1=a1→length p=length p_1→length y0=length y1→Ev F X (.code l46_0 (h46_0 l0_0 l1_0 a0 a1 (length p:Int)) (ex46_0 (r46_0 a0 y0 y1 (length p:Int))) (fin46_0 l0_0 l1_0 a0 a1 (r46_0 a0 y0 y1 (length p:Int))))
  |[],[],p,p_1,hp0,hp1,hq1,hl1=>by
    have hc:¬(decide ((length p:Int) <((length (map b_si a0)):Int)))=true:=by
      rw[← hp0]; simp only[LN,decide_eq_true_eq]; omega
    have st:=ch b46_0 (h46_0 l0_0 l1_0 a0 a1 (length p:Int)) ⟨[(0,(.one (.bor l0_0 (map b_si a0)))),(1,(.one (.bor l1_0 (map b_si a1)))),(12,(.oi ((length (map b_si a0)):Int))),(13,(.oi (length p:Int))),(14,(.one (.val (.bool (decide ((length p:Int) <((length (map b_si a0)):Int)))))))],[]⟩ (.exit 0) 3 (by kernel_rfl) (.f (nt hc) (U 2 .nil))
    rw[show (⟨[(0,(.one (.bor l0_0 (map b_si a0)))),(1,(.one (.bor l1_0 (map b_si a1)))),(12,(.oi ((length (map b_si a0)):Int))),(13,(.oi (length p:Int))),(14,(.one (.val (.bool (decide ((length p:Int) <((length (map b_si a0)):Int)))))))],[]⟩:St)=fin46_0 l0_0 l1_0 a0 a1 (.k0 (length p:Int) (decide ((length p:Int) <((length (map b_si a0)):Int)))) from(by rfl)] at st
    exact .loopX st (show ((.exit 0):VX.Exit)≠.normal from by simp)
  |x0::y0,x1::y1,p,p_1,hp0,hp1,hq1,hl1=>by
    have hc:(decide ((length p:Int) <((length (map b_si a0)):Int)))=true:=by
      rw[← hp0]; simp only[LN,decide_eq_true_eq]; omega
    have Hx0:(a0)[toNat (length p:Int)]?=some x0:=by
      rw[← hp0,Int.toNat_natCast]; simp
    have Hx1:(a1)[toNat (length p:Int)]?=some x1:=by
      rw[← hp1,hq1,Int.toNat_natCast]; simp
    have hlen:length (a0)=length p+length y0+1:=by rw[← hp0]; simp; omega
    have hw:wrap .i64 ((length p:Int)+1)=(length p:Int)+1:=wrap64 (by omega)
    simp only[r46_0]
    have f1:0≤(length p:Int):=(by omega)
    have P1 {hs q} (r:PS F X hs q):=(PS.f hc (.f f1 (.f (mp_ b_si Hx0) (.f f1 (.f (mp_ b_si Hx1) (hT 2 (.h 12 (.row (b_si x0)) (.h 20 (.row (b_si x1)) r))))))))
    by_cases h_1:(!((x0.f0.toList==x1.f0.toList) &&((x0.f1==x1.f1) && true)))=true
    · try simp only[if_pos h_1]
      have st:=ch b46_0 (h46_0 l0_0 l1_0 a0 a1 (length p:Int)) ⟨[(4,(.one (.val (.bool false))))],[]⟩ .ret 28 (by kernel_rfl) (P1 (.f h_1 (hT 25 .nil)))
      rw[show (⟨[(4,(.one (.val (.bool false))))],[]⟩:St)=fin46_0 l0_0 l1_0 a0 a1 (.k1) from(by rfl)] at st
      exact .loopX st (show (.ret:VX.Exit)≠.normal from by simp)
    try simp only[if_neg h_1]
    have st:=ch b46_0 (h46_0 l0_0 l1_0 a0 a1 (length p:Int)) ⟨[(0,(.one (.bor l0_0 (map b_si a0)))),(1,(.one (.bor l1_0 (map b_si a1)))),(12,(.oi ((length (map b_si a0)):Int))),(13,(.oi (wrap .i64 ((length p:Int)+1))))],[]⟩ .normal 30 (by kernel_rfl) (P1 (.f (nt h_1) (.f trivial (U 25 .nil))))
    have ih:=t46_0 (l0_0:=l0_0) (l1_0:=l1_0) (a0:=a0) (a1:=a1) hy0 hy1 y0 y1 (p++ [x0]) (p_1++ [x1]) (by rw[append_assoc]; exact hp0) (by rw[append_assoc]; exact hp1) (by simp only[LN]; omega) (by simp only[LN] at hl1; omega)
    rw[show ((p++ [x0]).length:Int)=(p.length:Int)+1 from by simp] at ih
    rw[show (⟨[(0,(.one (.bor l0_0 (map b_si a0)))),(1,(.one (.bor l1_0 (map b_si a1)))),(12,(.oi ((length (map b_si a0)):Int))),(13,(.oi (wrap .i64 ((length p:Int)+1))))],[]⟩:St)=h46_0 l0_0 l1_0 a0 a1 ((length p:Int)+1)  from(by unfold h46_0; simp only[hw]; done)] at st
    exact .loopN st ih
def m46 (a0:(List K_si)) (a1:(List K_si)):Bool:=
  if(((length (map b_si a0)):Int) !=((length (map b_si a1)):Int))=true then false else
  (match r46_0 a0 a0 a1 0 with | .k0 w0_1 w1_1=>true | .k1=>false)
theorem e46 {l0_0:Nat} {a0:(List K_si)} {l1_0:Nat} {a1:(List K_si)} (hy0:length a0*24≤140737488351232) (hy1:length a1*24≤140737488351232):Ev F X (.call 46 [(.one (.bor l0_0 (map b_si a0))),(.one (.bor l1_0 (map b_si a1)))] [] [] [(.one (.val (.bool (m46 a0 a1))))]):=by
  unfold m46
  by_cases h0:(((length (map b_si a0)):Int) !=((length (map b_si a1)):Int))=true
  · try simp only[if_pos h0]
    exact cp ya (.f h0 (hT 12 .nil))
  try simp only[if_neg h0]
  cases h1:r46_0 a0 a0 a1 0 with
  |k0 w0_1 w1_1=>
    try dsimp only
    have f1:(⟨[(0,(.one (.bor l0_0 (map b_si a0)))),(1,(.one (.bor l1_0 (map b_si a1)))),(12,(.oi ((length (map b_si a0)):Int))),(13,(.oi 0))],[]⟩:St)=h46_0 l0_0 l1_0 a0 a1 0 :=yu
    exact cp ya (N h0 (.f f1 (.f (ev_ (e:=ex46_0) (g:=(fin46_0 l0_0 l1_0 a0 a1)) h1 (t46_0 (l0_0:=l0_0) (l1_0:=l1_0) (a0:=a0) (a1:=a1) (by assumption) (by assumption) a0 a1 [] []  rfl rfl rfl (by simp at*; omega))) (U 12 (.h 19 (.loop (h46_0 l0_0 l1_0 a0 a1 0) (.exit 0) ⟨[(0,(.one (.bor l0_0 (map b_si a0)))),(1,(.one (.bor l1_0 (map b_si a1)))),(12,(.oi ((length (map b_si a0)):Int))),(13,(.oi w0_1)),(14,(.one (.val (.bool w1_1))))],[]⟩) .nil)))))
  |k1=>
    try dsimp only
    have f1:(⟨[(0,(.one (.bor l0_0 (map b_si a0)))),(1,(.one (.bor l1_0 (map b_si a1)))),(12,(.oi ((length (map b_si a0)):Int))),(13,(.oi 0))],[]⟩:St)=h46_0 l0_0 l1_0 a0 a1 0 :=yu
    exact cp ya (N h0 (.f f1 (.f (ev_ (e:=ex46_0) (g:=(fin46_0 l0_0 l1_0 a0 a1)) h1 (t46_0 (l0_0:=l0_0) (l1_0:=l1_0) (a0:=a0) (a1:=a1) (by assumption) (by assumption) a0 a1 [] []  rfl rfl rfl (by simp at*; omega))) (U 12 (.h 19 (.loop (h46_0 l0_0 l1_0 a0 a1 0) .ret ⟨[(4,(.one (.val (.bool false))))],[]⟩) .nil)))))
theorem eqr46_0 (a0:(List K_si)):∀(l m:List K_si) (i:Int),l.length=m.length→(r46_0 a0 l m i=.k1∧l≠m)∨(∃w0 w1,r46_0 a0 l m i=.k0 w0 w1∧l=m)
  |[],[],i,_=>.inr ⟨_,_,rfl,rfl⟩
  |[],_::_,i,h=>by simp at h
  |_::_,[],i,h=>by simp at h
  |x::l,y::m,i,h=>by
    have ih:=eqr46_0 a0 l m (i+1) (by simpa using h)
    by_cases hxy:x=y
    · subst hxy
      have e:r46_0 a0 (x::l) (x::m) i=r46_0 a0 l m (i+1):=by simp[r46_0,ba_eq]
      rw[e]
      rcases ih with⟨h1,h2⟩ |⟨w0,w1,h1,h2⟩
      · exact .inl ⟨h1,by simp[h2]⟩
      exact .inr ⟨_,_,h1,by rw[h2]⟩
    have e:r46_0 a0 (x::l) (y::m) i=.k1:=by
      simp only[r46_0]
      first
        |((repeat' split)<;>simp_all [ba_eq]; done)
        |(cases x; cases y;(repeat' split)<;>simp_all [ba_eq])
    exact .inl ⟨e,by simp[hxy]⟩
open Classical in
theorem eqd46 (a b:(List K_si)):m46 a b=decide (a=b):=by
  rw[Bool.eq_iff_iff,decide_eq_true_eq]
  unfold m46
  by_cases hl:length a=length b
  · rcases eqr46_0 a a b 0 hl with⟨h1,h2⟩ |⟨w0,w1,h1,h2⟩
    · simp only[h1,length_map,hl]
      first
        |(simp[h2,ba_eq]; done)
        |(cases a; cases b; simp_all [ba_eq]; done)
        |(cases a; cases b;(repeat' split)<;>simp_all [ba_eq])
    simp only[h1,length_map,hl]
    first
      |(simp[h2,ba_eq]; done)
      |(cases a; cases b; simp_all [ba_eq]; done)
      |(cases a; cases b;(repeat' split)<;>simp_all [ba_eq])
  have hn:a≠b:=by rintro rfl; exact hl rfl
  simp only[length_map]
  first
    |(simp[hn,hl,ba_eq]; done)
    |((repeat' split)<;>simp_all [ba_eq]; done)
    |(simp[hn]; omega)
def m48 (a0:K_R) (a1:K_R):Bool:=
  if (a0.f0 == a1.f0) = true then (if (a0.f1 == a1.f1) = true then (if (a0.f2 == a1.f2) = true then (if (m46 a0.f3 a1.f3) = true then (a0.f4 == a1.f4) else
        false) else
      false) else
    false) else
  false
theorem e48 {l0_3:Nat} {a0:K_R} {l1_3:Nat} {a1:K_R} (hy0:length a0.f3*24≤140737488351232) (hy1:length a1.f3*24≤140737488351232):Ev F X (.call 48 [(.agg (k_R l0_3 a0)),(.agg (k_R l1_3 a1))] [] [] [(.one (.val (.bool (m48 a0 a1))))]):=by
  unfold m48
  by_cases h0:(a0.f0==a1.f0)=true
  · try simp only[if_pos h0]
    have P1 {hs q} (r:PS F X hs q):=(PS.f h0 (.f h0 (.f h0 (.f h0 (.f h0 (.f h0 (hT 18 (hT 20 (hT 22 (hT 24 (hT 26 (hT 29 r))))))))))))
    by_cases h1:(a0.f1==a1.f1)=true
    · try simp only[if_pos h1]
      have P2 {hs q} (r:PS F X hs q):=(P1 (.f h1 (.f h1 (.f h1 (.f h1 (.f h1 (.f h1 (hT 32 (hT 34 (hT 36 (hT 38 (hT 40 (hT 43 r)))))))))))))
      by_cases h2:(a0.f2==a1.f2)=true
      · try simp only[if_pos h2]
        have P3 {hs q} (r:PS F X hs q):=(P2 (.f h2 (.f h2 (.f h2 (.f h2 (.f h2 (hT 46 (hT 48 (hT 50 (hT 52 (hT 54 (.r 55 [] [] (e46 (l0_0:=(l0_3+1)) (l1_0:=(l1_3+1)) (a0:=a0.f3) (a1:=a1.f3) ‹_› ‹_›) (.f h2 (hT 57 r))))))))))))))
        by_cases h3:(m46 a0.f3 a1.f3)=true
        · try simp only[if_pos h3]
          exact cp ya (P3 (.f h3 (.f h3 (.f h3 (.f h3 (.f h3 (.f h3 (hT 60 (hT 62 (hT 64 (hT 66 (hT 68 (hT 71 .nil)))))))))))))
        try simp only[if_neg h3]
        exact cp ya (P3 (N h3 (N h3 (N h3 (N h3 (N h3 (N h3 (U 60 (U 62 (U 64 (U 66 (U 68 (U 71 .nil)))))))))))))
      try simp only[if_neg h2]
      exact cp ya (P2 (N h2 (N h2 (N h2 (N h2 (N h2 (N h2 (U 46 (U 48 (U 50 (U 52 (U 54 (U 57 .nil)))))))))))))
    try simp only[if_neg h1]
    exact cp ya (P1 (N h1 (N h1 (N h1 (N h1 (N h1 (N h1 (U 32 (U 34 (U 36 (U 38 (U 40 (U 43 .nil)))))))))))))
  try simp only[if_neg h0]
  exact cp ya (N h0 (N h0 (N h0 (N h0 (N h0 (N h0 (U 18 (U 20 (U 22 (U 24 (U 26 (U 29 .nil))))))))))))
open Classical in
theorem eqd48 (a b:K_R):m48 a b=decide (a=b):=by
  rw[Bool.eq_iff_iff,decide_eq_true_eq]
  constructor
  · intro h
    unfold m48 at h
    cases a; cases b
    (repeat' split at h)<;>simp_all [ba_eq,eqd46]
  rintro rfl
  simp[m48,ba_eq,eqd46]
inductive O1004700_0 where
  |k0 (w0:Int) (w1:Bool)
  |k1
def r1004700_0 (a0:(List K_R)):List K_R→List K_R→Int→O1004700_0
  |x0::y0,x1::y1,i=>
    if(!(m48 x0 x1))=true then(O1004700_0.k1) else
    (r1004700_0 a0 y0 y1 (i+1))
  |_,_,i=>(O1004700_0.k0 i (decide (i <((length (map b_R a0)):Int))))
def h1004700_0 (l0_0:Nat) (l1_0:Nat) (a0:(List K_R)) (a1:(List K_R)) (i:Int) :St:=⟨[(1,(.one (.bor l1_0 (map b_R a1)))),(2,(.clo 48 [] [])),(15,(.one (.bor l0_0 (map b_R a0)))),(16,(.one (.val (.int .i64 ((length (map b_R a0)):Int))))),(17,(.one (.val (.int .i64 i))))],[]⟩
def ex1004700_0:O1004700_0→VX.Exit
  |.k0 _ _=>(.exit 0)
  |.k1=>.ret
def fin1004700_0 (l0_0:Nat) (l1_0:Nat) (a0:(List K_R)) (a1:(List K_R)):O1004700_0→St
  |.k0 w0 w1=>⟨[(1,(.one (.bor l1_0 (map b_R a1)))),(2,(.clo 48 [] [])),(15,(.one (.bor l0_0 (map b_R a0)))),(16,(.one (.val (.int .i64 ((length (map b_R a0)):Int))))),(17,(.one (.val (.int .i64 w0)))),(18,(.one (.val (.bool w1))))],[]⟩
  |.k1=>⟨[(6,(.one (.val (.bool false))))],[]⟩
theorem t1004700_0 {l0_0:Nat} {l1_0:Nat} {a0:(List K_R)} {a1:(List K_R)} (hy0:length a0*56≤140737488351232) (hy1:∀z∈a0,ok_R z) (hy2:length a1*56≤140737488351232) (hy3:∀z∈a1,ok_R z):∀(y0:List K_R) (y1:List K_R) (p:List K_R) (p_1:List K_R),p++y0=a0→p_1++y1=a1→length p=length p_1→length y0=length y1→Ev F X (.code l47_0 (h1004700_0 l0_0 l1_0 a0 a1 (length p:Int)) (ex1004700_0 (r1004700_0 a0 y0 y1 (length p:Int))) (fin1004700_0 l0_0 l1_0 a0 a1 (r1004700_0 a0 y0 y1 (length p:Int))))
  |[],[],p,p_1,hp0,hp1,hq1,hl1=>by
    have hc:¬(decide ((length p:Int) <((length (map b_R a0)):Int)))=true:=by
      rw[← hp0]; simp only[LN,decide_eq_true_eq]; omega
    have st:=ch b47_0 (h1004700_0 l0_0 l1_0 a0 a1 (length p:Int)) ⟨[(1,(.one (.bor l1_0 (map b_R a1)))),(2,(.clo 48 [] [])),(15,(.one (.bor l0_0 (map b_R a0)))),(16,(.oi ((length (map b_R a0)):Int))),(17,(.oi (length p:Int))),(18,(.one (.val (.bool (decide ((length p:Int) <((length (map b_R a0)):Int)))))))],[]⟩ (.exit 0) 3 (by kernel_rfl) (.f (nt hc) (U 2 .nil))
    rw[show (⟨[(1,(.one (.bor l1_0 (map b_R a1)))),(2,(.clo 48 [] [])),(15,(.one (.bor l0_0 (map b_R a0)))),(16,(.oi ((length (map b_R a0)):Int))),(17,(.oi (length p:Int))),(18,(.one (.val (.bool (decide ((length p:Int) <((length (map b_R a0)):Int)))))))],[]⟩:St)=fin1004700_0 l0_0 l1_0 a0 a1 (.k0 (length p:Int) (decide ((length p:Int) <((length (map b_R a0)):Int)))) from(by rfl)] at st
    exact .loopX st (show ((.exit 0):VX.Exit)≠.normal from by simp)
  |x0::y0,x1::y1,p,p_1,hp0,hp1,hq1,hl1=>by
    have hc:(decide ((length p:Int) <((length (map b_R a0)):Int)))=true:=by
      rw[← hp0]; simp only[LN,decide_eq_true_eq]; omega
    have Hx0:(a0)[toNat (length p:Int)]?=some x0:=by
      rw[← hp0,Int.toNat_natCast]; simp
    have Hx1:(a1)[toNat (length p:Int)]?=some x1:=by
      rw[← hp1,hq1,Int.toNat_natCast]; simp
    have Mx0_0:=hy1 x0 (List.mem_of_getElem? Hx0)
    have Mx1_0:=hy3 x1 (List.mem_of_getElem? Hx1)
    have hlen:length (a0)=length p+length y0+1:=by rw[← hp0]; simp; omega
    have hw:wrap .i64 ((length p:Int)+1)=(length p:Int)+1:=wrap64 (by omega)
    simp only[r1004700_0]
    have f1:0≤(length p:Int):=(by omega)
    have P1 {hs q} (r:PS F X hs q):=(PS.f hc (.f f1 (.f (mp_ b_R Hx0) (.f f1 (.f (mp_ b_R Hx1) (hT 2 (.h 6 (.row (b_R x0)) (.h 20 (.row (b_R x1)) (.r 34 [] [] (e48 (l0_3:=(l0_0+1)) (l1_3:=(l1_0+1)) (a0:=x0) (a1:=x1) (by assumption) (by assumption)) r)))))))))
    by_cases h_1:(!(m48 x0 x1))=true
    · try simp only[if_pos h_1]
      have st:=ch b47_0 (h1004700_0 l0_0 l1_0 a0 a1 (length p:Int)) ⟨[(6,(.one (.val (.bool false))))],[]⟩ .ret 40 (by kernel_rfl) (P1 (.f h_1 (hT 37 .nil)))
      rw[show (⟨[(6,(.one (.val (.bool false))))],[]⟩:St)=fin1004700_0 l0_0 l1_0 a0 a1 (.k1) from(by rfl)] at st
      exact .loopX st (show (.ret:VX.Exit)≠.normal from by simp)
    try simp only[if_neg h_1]
    have st:=ch b47_0 (h1004700_0 l0_0 l1_0 a0 a1 (length p:Int)) ⟨[(1,(.one (.bor l1_0 (map b_R a1)))),(2,(.clo 48 [] [])),(15,(.one (.bor l0_0 (map b_R a0)))),(16,(.oi ((length (map b_R a0)):Int))),(17,(.oi (wrap .i64 ((length p:Int)+1))))],[]⟩ .normal 42 (by kernel_rfl) (P1 (.f (nt h_1) (.f trivial (U 37 .nil))))
    have ih:=t1004700_0 (l0_0:=l0_0) (l1_0:=l1_0) (a0:=a0) (a1:=a1) hy0 hy1 hy2 hy3 y0 y1 (p++ [x0]) (p_1++ [x1]) (by rw[append_assoc]; exact hp0) (by rw[append_assoc]; exact hp1) (by simp only[LN]; omega) (by simp only[LN] at hl1; omega)
    rw[show ((p++ [x0]).length:Int)=(p.length:Int)+1 from by simp] at ih
    rw[show (⟨[(1,(.one (.bor l1_0 (map b_R a1)))),(2,(.clo 48 [] [])),(15,(.one (.bor l0_0 (map b_R a0)))),(16,(.oi ((length (map b_R a0)):Int))),(17,(.oi (wrap .i64 ((length p:Int)+1))))],[]⟩:St)=h1004700_0 l0_0 l1_0 a0 a1 ((length p:Int)+1)  from(by unfold h1004700_0; simp only[hw]; done)] at st
    exact .loopN st ih
def m1004700 (a0:(List K_R)) (a1:(List K_R)):Bool:=
  if(((length (map b_R a0)):Int) !=((length (map b_R a1)):Int))=true then false else
  (match r1004700_0 a0 a0 a1 0 with | .k0 w0_1 w1_1=>true | .k1=>false)
theorem e1004700 {l0_0:Nat} {a0:(List K_R)} {l1_0:Nat} {a1:(List K_R)} (hy0:length a0*56≤140737488351232) (hy1:∀z∈a0,ok_R z) (hy2:length a1*56≤140737488351232) (hy3:∀z∈a1,ok_R z):Ev F X (.call 47 [(.one (.bor l0_0 (map b_R a0))),(.one (.bor l1_0 (map b_R a1))),(.clo 48 [] [])] [] [] [(.one (.val (.bool (m1004700 a0 a1))))]):=by
  unfold m1004700
  by_cases h0:(((length (map b_R a0)):Int) !=((length (map b_R a1)):Int))=true
  · try simp only[if_pos h0]
    exact cp ya (.f h0 (hT 12 .nil))
  try simp only[if_neg h0]
  cases h1:r1004700_0 a0 a0 a1 0 with
  |k0 w0_1 w1_1=>
    try dsimp only
    have f1:(⟨[(1,(.one (.bor l1_0 (map b_R a1)))),(2,(.clo 48 [] [])),(15,(.one (.bor l0_0 (map b_R a0)))),(16,(.oi ((length (map b_R a0)):Int))),(17,(.oi 0))],[]⟩:St)=h1004700_0 l0_0 l1_0 a0 a1 0 :=yu
    exact cp ya (N h0 (.f f1 (.f (ev_ (e:=ex1004700_0) (g:=(fin1004700_0 l0_0 l1_0 a0 a1)) h1 (t1004700_0 (l0_0:=l0_0) (l1_0:=l1_0) (a0:=a0) (a1:=a1) (by assumption) (by assumption) (by assumption) (by assumption) a0 a1 [] []  rfl rfl rfl (by simp at*; omega))) (U 12 (.h 19 (.loop (h1004700_0 l0_0 l1_0 a0 a1 0) (.exit 0) ⟨[(1,(.one (.bor l1_0 (map b_R a1)))),(2,(.clo 48 [] [])),(15,(.one (.bor l0_0 (map b_R a0)))),(16,(.oi ((length (map b_R a0)):Int))),(17,(.oi w0_1)),(18,(.one (.val (.bool w1_1))))],[]⟩) .nil)))))
  |k1=>
    try dsimp only
    have f1:(⟨[(1,(.one (.bor l1_0 (map b_R a1)))),(2,(.clo 48 [] [])),(15,(.one (.bor l0_0 (map b_R a0)))),(16,(.oi ((length (map b_R a0)):Int))),(17,(.oi 0))],[]⟩:St)=h1004700_0 l0_0 l1_0 a0 a1 0 :=yu
    exact cp ya (N h0 (.f f1 (.f (ev_ (e:=ex1004700_0) (g:=(fin1004700_0 l0_0 l1_0 a0 a1)) h1 (t1004700_0 (l0_0:=l0_0) (l1_0:=l1_0) (a0:=a0) (a1:=a1) (by assumption) (by assumption) (by assumption) (by assumption) a0 a1 [] []  rfl rfl rfl (by simp at*; omega))) (U 12 (.h 19 (.loop (h1004700_0 l0_0 l1_0 a0 a1 0) .ret ⟨[(6,(.one (.val (.bool false))))],[]⟩) .nil)))))
theorem eqr1004700_0 (a0:(List K_R)):∀(l m:List K_R) (i:Int),l.length=m.length→(r1004700_0 a0 l m i=.k1∧l≠m)∨(∃w0 w1,r1004700_0 a0 l m i=.k0 w0 w1∧l=m)
  |[],[],i,_=>.inr ⟨_,_,rfl,rfl⟩
  |[],_::_,i,h=>by simp at h
  |_::_,[],i,h=>by simp at h
  |x::l,y::m,i,h=>by
    have ih:=eqr1004700_0 a0 l m (i+1) (by simpa using h)
    by_cases hxy:x=y
    · subst hxy
      have e:r1004700_0 a0 (x::l) (x::m) i=r1004700_0 a0 l m (i+1):=by simp[r1004700_0,ba_eq,eqd48]
      rw[e]
      rcases ih with⟨h1,h2⟩ |⟨w0,w1,h1,h2⟩
      · exact .inl ⟨h1,by simp[h2]⟩
      exact .inr ⟨_,_,h1,by rw[h2]⟩
    have e:r1004700_0 a0 (x::l) (y::m) i=.k1:=by
      simp only[r1004700_0]
      first
        |((repeat' split)<;>simp_all [ba_eq,eqd48]; done)
        |(cases x; cases y;(repeat' split)<;>simp_all [ba_eq,eqd48])
    exact .inl ⟨e,by simp[hxy]⟩
open Classical in
theorem eqd1004700 (a b:(List K_R)):m1004700 a b=decide (a=b):=by
  rw[Bool.eq_iff_iff,decide_eq_true_eq]
  unfold m1004700
  by_cases hl:length a=length b
  · rcases eqr1004700_0 a a b 0 hl with⟨h1,h2⟩ |⟨w0,w1,h1,h2⟩
    · simp only[h1,length_map,hl]
      first
        |(simp[h2,ba_eq,eqd48]; done)
        |(cases a; cases b; simp_all [ba_eq,eqd48]; done)
        |(cases a; cases b;(repeat' split)<;>simp_all [ba_eq,eqd48])
    simp only[h1,length_map,hl]
    first
      |(simp[h2,ba_eq,eqd48]; done)
      |(cases a; cases b; simp_all [ba_eq,eqd48]; done)
      |(cases a; cases b;(repeat' split)<;>simp_all [ba_eq,eqd48])
  have hn:a≠b:=by rintro rfl; exact hl rfl
  simp only[length_map]
  first
    |(simp[hn,hl,ba_eq,eqd48]; done)
    |((repeat' split)<;>simp_all [ba_eq,eqd48]; done)
    |(simp[hn]; omega)
def m20 (a0:K_B) (a1:K_B):Bool:=
  if (a0.f0 == a1.f0) = true then (if (a0.f1 == a1.f1) = true then (if (a0.f5 == a1.f5) = true then (if (a0.f6 == a1.f6) = true then (if (a0.f7 == a1.f7) = true then (if (m46 a0.f2 a1.f2) = true then (if (m1004700 a0.f3 a1.f3) = true then (m46 a0.f4 a1.f4) else
              false) else
            false) else
          false) else
        false) else
      false) else
    false) else
  false
theorem e20 {l0_2:Nat} {l0_3:Nat} {l0_4:Nat} {a0:K_B} {l1_2:Nat} {l1_3:Nat} {l1_4:Nat} {a1:K_B} (hy0:length a0.f2*24≤140737488351232) (hy1:length a0.f3*56≤140737488351232) (hy2:∀z∈a0.f3,ok_R z) (hy3:length a0.f4*24≤140737488351232) (hy4:length a1.f2*24≤140737488351232) (hy5:length a1.f3*56≤140737488351232) (hy6:∀z∈a1.f3,ok_R z) (hy7:length a1.f4*24≤140737488351232):Ev F X (.call 20 [(.agg (k_B l0_2 l0_3 l0_4 a0)),(.agg (k_B l1_2 l1_3 l1_4 a1))] [] [] [(.one (.val (.bool (m20 a0 a1))))]):=by
  unfold m20
  by_cases h0:(a0.f0==a1.f0)=true
  · try simp only[if_pos h0]
    have P1 {hs q} (r:PS F X hs q):=(PS.f h0 (.f h0 (.f h0 (.f h0 (.f h0 (.f h0 (hT 18 (hT 20 (hT 22 (hT 24 (hT 26 (hT 29 r))))))))))))
    by_cases h1:(a0.f1==a1.f1)=true
    · try simp only[if_pos h1]
      have P2 {hs q} (r:PS F X hs q):=(P1 (.f h1 (.f h1 (.f h1 (.f h1 (.f h1 (.f h1 (hT 32 (hT 34 (hT 36 (hT 38 (hT 40 (hT 43 r)))))))))))))
      by_cases h2:(a0.f5==a1.f5)=true
      · try simp only[if_pos h2]
        have P3 {hs q} (r:PS F X hs q):=(P2 (.f h2 (.f h2 (.f h2 (.f h2 (.f h2 (.f h2 (hT 46 (hT 48 (hT 50 (hT 52 (hT 54 (hT 57 r)))))))))))))
        by_cases h3:(a0.f6==a1.f6)=true
        · try simp only[if_pos h3]
          have P4 {hs q} (r:PS F X hs q):=(P3 (.f h3 (.f h3 (.f h3 (.f h3 (.f h3 (.f h3 (hT 60 (hT 62 (hT 64 (hT 66 (hT 68 (hT 71 r)))))))))))))
          by_cases h4:(a0.f7==a1.f7)=true
          · try simp only[if_pos h4]
            have P5 {hs q} (r:PS F X hs q):=(P4 (.f h4 (.f h4 (.f h4 (.f h4 (.f h4 (hT 78 (hT 80 (hT 82 (hT 84 (hT 86 (.r 87 [] [] (e46 (l0_0:=(l0_2+1)) (l1_0:=(l1_2+1)) (a0:=a0.f2) (a1:=a1.f2) ‹_› ‹_›) (.f h4 (hT 89 r))))))))))))))
            by_cases h5:(m46 a0.f2 a1.f2)=true
            · try simp only[if_pos h5]
              have P6 {hs q} (r:PS F X hs q):=(P5 (.f h5 (.f h5 (.f h5 (.f h5 (.f h5 (hT 92 (hT 94 (hT 96 (hT 98 (hT 100 (.r 101 [] [] (e1004700 (l0_0:=(l0_3+1)) (l1_0:=(l1_3+1)) (a0:=a0.f3) (a1:=a1.f3) ‹_› ‹_› ‹_› ‹_›) (.f h5 (hT 103 r))))))))))))))
              by_cases h6:(m1004700 a0.f3 a1.f3)=true
              · try simp only[if_pos h6]
                exact cp ya (P6 (.f h6 (.f h6 (.f h6 (.f h6 (.f h6 (hT 106 (hT 108 (hT 110 (hT 112 (hT 114 (.r 115 [] [] (e46 (l0_0:=(l0_4+1)) (l1_0:=(l1_4+1)) (a0:=a0.f4) (a1:=a1.f4) ‹_› ‹_›) (.f h6 (hT 117 .nil))))))))))))))
              try simp only[if_neg h6]
              exact cp ya (P6 (N h6 (N h6 (N h6 (N h6 (N h6 (N h6 (U 106 (U 108 (U 110 (U 112 (U 114 (U 117 .nil)))))))))))))
            try simp only[if_neg h5]
            exact cp ya (P5 (N h5 (N h5 (N h5 (N h5 (N h5 (N h5 (U 92 (U 94 (U 96 (U 98 (U 100 (U 103 .nil)))))))))))))
          try simp only[if_neg h4]
          exact cp ya (P4 (N h4 (N h4 (N h4 (N h4 (N h4 (N h4 (U 78 (U 80 (U 82 (U 84 (U 86 (U 89 .nil)))))))))))))
        try simp only[if_neg h3]
        exact cp ya (P3 (N h3 (N h3 (N h3 (N h3 (N h3 (N h3 (U 60 (U 62 (U 64 (U 66 (U 68 (U 71 .nil)))))))))))))
      try simp only[if_neg h2]
      exact cp ya (P2 (N h2 (N h2 (N h2 (N h2 (N h2 (N h2 (U 46 (U 48 (U 50 (U 52 (U 54 (U 57 .nil)))))))))))))
    try simp only[if_neg h1]
    exact cp ya (P1 (N h1 (N h1 (N h1 (N h1 (N h1 (N h1 (U 32 (U 34 (U 36 (U 38 (U 40 (U 43 .nil)))))))))))))
  try simp only[if_neg h0]
  exact cp ya (N h0 (N h0 (N h0 (N h0 (N h0 (N h0 (U 18 (U 20 (U 22 (U 24 (U 26 (U 29 .nil))))))))))))
open Classical in
theorem eqd20 (a b:K_B):m20 a b=decide (a=b):=by
  rw[Bool.eq_iff_iff,decide_eq_true_eq]
  constructor
  · intro h
    unfold m20 at h
    cases a; cases b
    (repeat' split at h)<;>simp_all [ba_eq,eqd46,eqd1004700,eqd48]
  rintro rfl
  simp[m20,ba_eq,eqd46,eqd1004700,eqd48]
inductive O3_0 where
  |k0 (w0:Int) (w1:Int) (w2:Bool)
def r3_0 (a0:(List Int)):List K_R→Int→Int→O3_0
  |x0::y0,i,v0=>
    if(x0.f4==2)=true then(r3_0 a0 y0 (i+1) (wrap .i64 (v0+x0.f1))) else
    (r3_0 a0 y0 (i+1) v0)
  |[],i,v0=>(O3_0.k0 v0 i (decide (i <((length (map d_R ((m1002400 (m22 (m21 a0)) (m23 (K_LyEi.mk ((m21 a0).f0) ((o22_0 (m21 a0)).f1)) 6)).f5))):Int))))
def h3_0 (l0_0:Nat) (a0:(List Int)) (i:Int) (v0:Int):St:=⟨[(3,(.ptr ⟨(3,0,0),[],0,0,8⟩)),(4,(.one (.val (.int .i64 (m23 (K_LyEi.mk ((m21 a0).f0) ((o22_0 (m21 a0)).f1)) 6))))),(5,(.ptr ⟨(5,0,0),[],0,0,10⟩)),(16,(.one (.val (.int .i64 v0)))),(17,(.one (.val (.int .i64 i))))],[((3,0,0),.live ⟨8,[(d_B (m22 (m21 a0)))],[]⟩),((5,0,0),.live ⟨10,[(d_C (m1002400 (m22 (m21 a0)) (m23 (K_LyEi.mk ((m21 a0).f0) ((o22_0 (m21 a0)).f1)) 6)))],[]⟩)]⟩
def ex3_0:O3_0→VX.Exit
  |.k0 _ _ _=>(.exit 0)
def fin3_0 (l0_0:Nat) (a0:(List Int)):O3_0→St
  |.k0 w0 w1 w2=>⟨[(3,(.ptr ⟨(3,0,0),[],0,0,8⟩)),(4,(.one (.val (.int .i64 (m23 (K_LyEi.mk ((m21 a0).f0) ((o22_0 (m21 a0)).f1)) 6))))),(5,(.ptr ⟨(5,0,0),[],0,0,10⟩)),(16,(.one (.val (.int .i64 w0)))),(17,(.one (.val (.int .i64 w1)))),(169,(.one (.val (.bool w2))))],[((3,0,0),.live ⟨8,[(d_B (m22 (m21 a0)))],[]⟩),((5,0,0),.live ⟨10,[(d_C (m1002400 (m22 (m21 a0)) (m23 (K_LyEi.mk ((m21 a0).f0) ((o22_0 (m21 a0)).f1)) 6)))],[]⟩)]⟩
theorem t3_0 {l0_0:Nat} {a0:(List Int)} (hy0:∀z∈a0,(0:Int)≤z∧z≤255) (hy1:length a0≤140737488351232):∀(y0:List K_R) (p:List K_R) (v0:Int),p++y0=(m1002400 (m22 (m21 a0)) (m23 (K_LyEi.mk ((m21 a0).f0) ((o22_0 (m21 a0)).f1)) 6)).f5→Ev F X (.code l3_0 (h3_0 l0_0 a0 (length p:Int) v0) (ex3_0 (r3_0 a0 y0 (length p:Int) v0)) (fin3_0 l0_0 a0 (r3_0 a0 y0 (length p:Int) v0)))
  |[],p,v0,hp0=>by
    have hc:¬(decide ((length p:Int) <((length (map d_R ((m1002400 (m22 (m21 a0)) (m23 (zz (m21 a0) (o22_0 (m21 a0))) 6)).f5))):Int)))=true:=by
      rw[← hp0]; simp only[LN,decide_eq_true_eq]; omega
    have st:=ch b3_0 (h3_0 l0_0 a0 (length p:Int) v0) ⟨[(3,(.ptr ⟨(3,0,0),[],0,0,8⟩)),(4,(.oi (m23 (zz (m21 a0) (o22_0 (m21 a0))) 6))),(5,(.ptr ⟨(5,0,0),[],0,0,10⟩)),(16,(.oi v0)),(17,(.oi (length p:Int))),(169,(.one (.val (.bool (decide ((length p:Int) <((length (map d_R ((m1002400 (m22 (m21 a0)) (m23 (zz (m21 a0) (o22_0 (m21 a0))) 6)).f5))):Int)))))))],[((3,0,0),.live ⟨8,[(d_B (m22 (m21 a0)))],[]⟩),((5,0,0),.live ⟨10,[(d_C (m1002400 (m22 (m21 a0)) (m23 (zz (m21 a0) (o22_0 (m21 a0))) 6)))],[]⟩)]⟩ (.exit 0) 13 (by kernel_rfl) (.f (nt hc) (U 12 .nil))
    rw[show (⟨[(3,(.ptr ⟨(3,0,0),[],0,0,8⟩)),(4,(.oi (m23 (zz (m21 a0) (o22_0 (m21 a0))) 6))),(5,(.ptr ⟨(5,0,0),[],0,0,10⟩)),(16,(.oi v0)),(17,(.oi (length p:Int))),(169,(.one (.val (.bool (decide ((length p:Int) <((length (map d_R ((m1002400 (m22 (m21 a0)) (m23 (zz (m21 a0) (o22_0 (m21 a0))) 6)).f5))):Int)))))))],[((3,0,0),.live ⟨8,[(d_B (m22 (m21 a0)))],[]⟩),((5,0,0),.live ⟨10,[(d_C (m1002400 (m22 (m21 a0)) (m23 (zz (m21 a0) (o22_0 (m21 a0))) 6)))],[]⟩)]⟩:St)=fin3_0 l0_0 a0 (.k0 v0 (length p:Int) (decide ((length p:Int) <((length (map d_R ((m1002400 (m22 (m21 a0)) (m23 (zz (m21 a0) (o22_0 (m21 a0))) 6)).f5))):Int)))) from(by rfl)] at st
    exact .loopX st (show ((.exit 0):VX.Exit)≠.normal from by simp)
  |x0::y0,p,v0,hp0=>by
    have hc:(decide ((length p:Int) <((length (map d_R ((m1002400 (m22 (m21 a0)) (m23 (zz (m21 a0) (o22_0 (m21 a0))) 6)).f5))):Int)))=true:=by
      rw[← hp0]; simp only[LN,decide_eq_true_eq]; omega
    have Hx0:((m1002400 (m22 (m21 a0)) (m23 (zz (m21 a0) (o22_0 (m21 a0))) 6)).f5)[toNat (length p:Int)]?=some x0:=by
      rw[← hp0,Int.toNat_natCast]; simp
    have hlen:length ((m1002400 (m22 (m21 a0)) (m23 (zz (m21 a0) (o22_0 (m21 a0))) 6)).f5)=length p+length y0+1:=by rw[← hp0]; simp; omega
    have hw:wrap .i64 ((length p:Int)+1)=(length p:Int)+1:=wrap64 (by have hz:length ((m1002400 (m22 (m21 a0)) (m23 (zz (m21 a0) (o22_0 (m21 a0))) 6)).f5)*56≤140737488351232:=(by first | with_reducible assumption | omega |(exact(show os_B (m5_0 a0) from blO a0 hy0 hy1).1) |(exact(show os_B (m5_0 a0) from blO a0 hy0 hy1).2.1) |(exact(show os_B (m5_0 a0) from blO a0 hy0 hy1).2.2.1) |(exact(show os_B (m5_0 a0) from blO a0 hy0 hy1).2.2.2.1) |(exact(show os_B (m5_0 a0) from blO a0 hy0 hy1).2.2.2.2.1) |(exact(show os_B (m5_0 a0) from blO a0 hy0 hy1).2.2.2.2.2) |(exact(os_ok_B _ (show os_B (m5_0 a0) from blO a0 hy0 hy1)).2.2.1) |(exact(show os_B (m7_0 a0) from blO a0 hy0 hy1).1) |(exact(show os_B (m7_0 a0) from blO a0 hy0 hy1).2.1) |(exact(show os_B (m7_0 a0) from blO a0 hy0 hy1).2.2.1) |(exact(show os_B (m7_0 a0) from blO a0 hy0 hy1).2.2.2.1) |(exact(show os_B (m7_0 a0) from blO a0 hy0 hy1).2.2.2.2.1) |(exact(show os_B (m7_0 a0) from blO a0 hy0 hy1).2.2.2.2.2) |(exact(os_ok_B _ (show os_B (m7_0 a0) from blO a0 hy0 hy1)).2.2.1) |(exact(show os_B (m9_0 a0) from blO a0 hy0 hy1).1) |(exact(show os_B (m9_0 a0) from blO a0 hy0 hy1).2.1) |(exact(show os_B (m9_0 a0) from blO a0 hy0 hy1).2.2.1) |(exact(show os_B (m9_0 a0) from blO a0 hy0 hy1).2.2.2.1) |(exact(show os_B (m9_0 a0) from blO a0 hy0 hy1).2.2.2.2.1) |(exact(show os_B (m9_0 a0) from blO a0 hy0 hy1).2.2.2.2.2) |(exact(os_ok_B _ (show os_B (m9_0 a0) from blO a0 hy0 hy1)).2.2.1) |(with_reducible refine Nat.le_trans (wsz _) ?_; decide) |(have q:=okm1002400 (m22 (m21 a0)) (m23 (zz (m21 a0) (o22_0 (m21 a0))) 6); exact q.1) |(have q:=okm1002400 (m22 (m21 a0)) (m23 (zz (m21 a0) (o22_0 (m21 a0))) 6); exact q.2.1) |(have q:=okm1002400 (m22 (m21 a0)) (m23 (zz (m21 a0) (o22_0 (m21 a0))) 6); exact q.2.2.1) |(have q:=okm1002400 (m22 (m21 a0)) (m23 (zz (m21 a0) (o22_0 (m21 a0))) 6); exact q.2.2.2) | assumption |(simp only[length_map]; omega) |(simp; omega)); omega)
    simp only[r3_0]
    have f1:0+(length (map d_R ((m1002400 (m22 (m21 a0)) (m23 (zz (m21 a0) (o22_0 (m21 a0))) 6)).f5)))≤(length (map d_R ((m1002400 (m22 (m21 a0)) (m23 (zz (m21 a0) (o22_0 (m21 a0))) 6)).f5))):=(by omega)
    have f2:0≤(length p:Int)∧(length p:Int) <((length (map d_R ((m1002400 (m22 (m21 a0)) (m23 (zz (m21 a0) (o22_0 (m21 a0))) 6)).f5))):Int):=(by simp only[decide_eq_true_eq] at*; omega)
    have P1 {hs q} (r:PS F X hs q):=(PS.f hc (.f f1 (.f f2 (.f (mz_ d_R Hx0) (hT 12 (.h 26 (.rowD (d_R x0)) r))))))
    by_cases h_1:(x0.f4==2)=true
    · try simp only[if_pos h_1]
      have st:=ch b3_0 (h3_0 l0_0 a0 (length p:Int) v0) ⟨[(3,(.ptr ⟨(3,0,0),[],0,0,8⟩)),(4,(.oi (m23 (zz (m21 a0) (o22_0 (m21 a0))) 6))),(5,(.ptr ⟨(5,0,0),[],0,0,10⟩)),(16,(.oi (wrap .i64 (v0+x0.f1)))),(17,(.oi (wrap .i64 ((length p:Int)+1))))],[((3,0,0),.live ⟨8,[(d_B (m22 (m21 a0)))],[]⟩),((5,0,0),.live ⟨10,[(d_C (m1002400 (m22 (m21 a0)) (m23 (zz (m21 a0) (o22_0 (m21 a0))) 6)))],[]⟩)]⟩ .normal 56 (by kernel_rfl) (P1 (.f h_1 (.f f1 (.f f2 (.f (mz_ d_R Hx0) (.f trivial (.f trivial (hT 29 (.h 45 (.rowD (d_R x0)) .nil)))))))))
      have ih:=t3_0 (l0_0:=l0_0) (a0:=a0) hy0 hy1 y0 (p++ [x0]) (wrap .i64 (v0+x0.f1)) (by rw[append_assoc]; exact hp0)
      rw[show ((p++ [x0]).length:Int)=(p.length:Int)+1 from by simp] at ih
      rw[show (⟨[(3,(.ptr ⟨(3,0,0),[],0,0,8⟩)),(4,(.oi (m23 (zz (m21 a0) (o22_0 (m21 a0))) 6))),(5,(.ptr ⟨(5,0,0),[],0,0,10⟩)),(16,(.oi (wrap .i64 (v0+x0.f1)))),(17,(.oi (wrap .i64 ((length p:Int)+1))))],[((3,0,0),.live ⟨8,[(d_B (m22 (m21 a0)))],[]⟩),((5,0,0),.live ⟨10,[(d_C (m1002400 (m22 (m21 a0)) (m23 (zz (m21 a0) (o22_0 (m21 a0))) 6)))],[]⟩)]⟩:St)=h3_0 l0_0 a0 ((length p:Int)+1) (wrap .i64 (v0+x0.f1)) from(by unfold h3_0; simp only[hw]; done)] at st
      exact .loopN st ih
    try simp only[if_neg h_1]
    have st:=ch b3_0 (h3_0 l0_0 a0 (length p:Int) v0) ⟨[(3,(.ptr ⟨(3,0,0),[],0,0,8⟩)),(4,(.oi (m23 (zz (m21 a0) (o22_0 (m21 a0))) 6))),(5,(.ptr ⟨(5,0,0),[],0,0,10⟩)),(16,(.oi v0)),(17,(.oi (wrap .i64 ((length p:Int)+1))))],[((3,0,0),.live ⟨8,[(d_B (m22 (m21 a0)))],[]⟩),((5,0,0),.live ⟨10,[(d_C (m1002400 (m22 (m21 a0)) (m23 (zz (m21 a0) (o22_0 (m21 a0))) 6)))],[]⟩)]⟩ .normal 36 (by kernel_rfl) (P1 (.f (nt h_1) (.f trivial (U 29 .nil))))
    have ih:=t3_0 (l0_0:=l0_0) (a0:=a0) hy0 hy1 y0 (p++ [x0]) v0 (by rw[append_assoc]; exact hp0)
    rw[show ((p++ [x0]).length:Int)=(p.length:Int)+1 from by simp] at ih
    rw[show (⟨[(3,(.ptr ⟨(3,0,0),[],0,0,8⟩)),(4,(.oi (m23 (zz (m21 a0) (o22_0 (m21 a0))) 6))),(5,(.ptr ⟨(5,0,0),[],0,0,10⟩)),(16,(.oi v0)),(17,(.oi (wrap .i64 ((length p:Int)+1))))],[((3,0,0),.live ⟨8,[(d_B (m22 (m21 a0)))],[]⟩),((5,0,0),.live ⟨10,[(d_C (m1002400 (m22 (m21 a0)) (m23 (zz (m21 a0) (o22_0 (m21 a0))) 6)))],[]⟩)]⟩:St)=h3_0 l0_0 a0 ((length p:Int)+1) v0 from(by unfold h3_0; simp only[hw]; done)] at st
    exact .loopN st ih
end Go.Proofs.YtihjlmgakpgkeaaGreatDoor.Ledgers
