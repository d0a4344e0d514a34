/- What the functions compute. -/
import Derived.Test.YtihjlmgakpgkeaaDoorEJournalsA
import Derived.KernelRfl
namespace Go.Proofs.YtihjlmgakpgkeaaDoor.Journals
open Go Go.Proofs.YtihjlmgakpgkeaaDoor.V
set_option linter.unusedVariables false
set_option linter.unusedSimpArgs false
set_option maxRecDepth 20000
open Go.IntKind (wrap)
open Int (toNat)
open Go.IntKind (wrap)
open Int (toNat)
open List (length_replicate length_map length_set length_append length_cons length_nil length_take length_drop take_of_length_le map_take map_drop map_set append_assoc getElem?_map map length take drop getD set)
attribute [local simp] strInts_len byteRows_len toBR_y fullR_y pureR_y lenB_y lenD_y fromBR_y copy_y toBR_LyE fullR_LyE pureR_LyE lenB_LyE lenD_LyE toBR_b fullR_b pureR_b lenB_b lenD_b fromBR_b copy_b toBR_isii fullR_isii pureR_isii lenB_isii lenD_isii fromBR_isii copy_isii toBR_iiLisiiE fullR_iiLisiiE pureR_iiLisiiE lenB_iiLisiiE lenD_iiLisiiE toBR_LyEi fullR_LyEi pureR_LyEi lenB_LyEi lenD_LyEi toBR_iLyEi fullR_iLyEi pureR_iLyEi lenB_iLyEi lenD_iLyEi toBR_iLyE fullR_iLyE pureR_iLyE lenB_iLyE lenD_iLyE toBR_i fullR_i pureR_i lenB_i lenD_i fromBR_i copy_i toBR_s fullR_s pureR_s lenB_s lenD_s fromBR_s copy_s toBR_LiE fullR_LiE pureR_LiE lenB_LiE lenD_LiE toBR_si fullR_si pureR_si lenB_si lenD_si fromBR_si copy_si toBR_R fullR_R pureR_R lenB_R lenD_R toBR_C fullR_C pureR_C lenB_C lenD_C toBR_B fullR_B pureR_B lenB_B lenD_B toBR_LsiE fullR_LsiE pureR_LsiE lenB_LsiE lenD_LsiE toBR_LLyEE fullR_LLyEE pureR_LLyEE lenB_LLyEE lenD_LLyEE toBR_LisiiE fullR_LisiiE pureR_LisiiE lenB_LisiiE lenD_LisiiE toBR_Q fullR_Q pureR_Q lenB_Q lenD_Q
def m104 (a0:(List K_si)) (a1:K_si) (a2:Int):(List K_si):=
  (match r104_0 a2 ((length (map d_si ((([])++a0)++([a1]))))) (length (map d_si ((([])++a0)++([a1])))) 0 with | .k0 w0_2 w1_2 w2_2=>(([])++(take w1_2 (drop w0_2 ((([])++a0)++([a1]))))))
theorem e104 {l0_0:Nat} {a0:(List K_si)} {a1:K_si} {a2:Int} (hy0:length a0≤1000) (hy1:0≤a2):Ev F X (.call 104 [(.one (.bor l0_0 (map b_si a0))),(.agg [(.val (.string a1.f0)),(.val (.int .i64 a1.f1))]),(.one (.val (.int .i64 a2)))] [] [] [(.one (.own 2 (map d_si (m104 a0 a1 a2))))]):=by
  unfold m104
  have f0:0+0≤0:=yb
  have f1:(length ([]++(fromBR l0_0 (map b_si a0))))*24≤70368744177664:=yaC
  have f2:∀r∈((fromBR l0_0 (map b_si a0)):List (List D)),r.length=2:=(by simp[*,four_len,b_si,d_si,byteRows_eq,ints_y]; done)
  have f3:0+(length ([]++(fromBR l0_0 (map b_si a0))))≤(length ([]++(fromBR l0_0 (map b_si a0)))):=yb
  have f4:1≤1:=yb
  have f5:((take 1 (drop 0 [[(.val (.string a1.f0)),(.i a1.f1)]])).all fun x=>x.all copyable)=true:=yA
  have f6:(length ((take (length ([]++(fromBR l0_0 (map b_si a0)))) (drop 0 ([]++(fromBR l0_0 (map b_si a0)))))++([[(.val (.string a1.f0)),(.i a1.f1)]]:List (List D))))*24≤70368744177664:=yaC
  have f7:∀r∈([[(.val (.string a1.f0)),(.i a1.f1)]]:List (List D)),r.length=2:=yag
  have f8:((take (length ([]++(fromBR l0_0 (map b_si a0)))) (drop 0 ([]++(fromBR l0_0 (map b_si a0)))))++([[(.val (.string a1.f0)),(.i a1.f1)]]:List (List D)))=(map d_si ((([])++a0)++([a1]))):=yD
  cases h0:r104_0 a2 ((length (map d_si ((([])++a0)++([a1]))))) (length (map d_si ((([])++a0)++([a1])))) 0 with
  |k0 w0_2 w1_2 w2_2=>
    try dsimp only
    have zh0:=z104_0 (a0:=a0) (a1:=a1) (a2:=a2) (by assumption) (by assumption) ((length (map d_si ((([])++a0)++([a1]))))) (length (map d_si ((([])++a0)++([a1])))) 0 yb; rw[h0] at zh0; simp only[post104_0] at zh0
    have f9:(⟨[(2,(.oi a2)),(7,(.one (.ref ⟨(7,0,0),[],0,(length ((take (length ([]++(fromBR l0_0 (map b_si a0)))) (drop 0 ([]++(fromBR l0_0 (map b_si a0)))))++([[(.val (.string a1.f0)),(.i a1.f1)]]:List (List D))))⟩)))],[((7,0,0),.live ⟨2,(map d_si ((([])++a0)++([a1]))),[]⟩)]⟩:St)=h104_0 l0_0 a0 a1 a2 (length (map d_si ((([])++a0)++([a1])))) 0:=(by unfold h104_0; simp[take_of_length_le,d_si,four_len]; done)
    have f12:w0_2+w1_2≤(length (map d_si ((([])++a0)++([a1])))):=‹_›
    have f13:((take w1_2 (drop w0_2 (map d_si ((([])++a0)++([a1]))))).all fun x=>x.all copyable)=true:=(ct_si _ _ _)
    have f14:(length ([]++(take w1_2 (drop w0_2 (map d_si ((([])++a0)++([a1])))))))*24≤70368744177664:=yK
    have f15:∀r∈((take w1_2 (drop w0_2 (map d_si ((([])++a0)++([a1]))))):List (List D)),r.length=2:=(by intro r hr; exact lenD_si _ r (List.mem_of_mem_drop (List.mem_of_mem_take hr)))
    have f16:([]++(take w1_2 (drop w0_2 (map d_si ((([])++a0)++([a1]))))))=(map d_si (([])++(take w1_2 (drop w0_2 ((([])++a0)++([a1])))))):=yD
    have f18:(length ([]++(take w1_2 (drop w0_2 (map d_si ((([])++a0)++([a1])))))))=(length (map d_si (([])++(take w1_2 (drop w0_2 ((([])++a0)++([a1]))))))):=yag
    exact cp ya (.f f0 (.f f1 (.f f2 (.f f3 (.f f4 (.f f5 (.f f6 (.f f7 (.f f8 (.f f9 (.f (ev_ (e:=ex104_0) (g:=(fin104_0 l0_0 a0 a1 a2)) h0 (t104_0 (l0_0:=l0_0) (a0:=a0) (a1:=a1) (a2:=a2) (by assumption) (by assumption) ((length (map d_si ((([])++a0)++([a1]))))) (length (map d_si ((([])++a0)++([a1])))) 0 yb (Nat.le_refl _))) (.f f0 (.f f12 (.f f13 (.f f14 (.f f15 (.f f16 (pe 0 (.f f18 (.f (pureR_si (([])++(take w1_2 (drop w0_2 ((([])++a0)++([a1])))))) (T 15 (.h 18 (.norm (7,0,0) (map d_si ((([])++a0)++([a1])))) (.h 19 (.loop (h104_0 l0_0 a0 a1 a2 (length (map d_si ((([])++a0)++([a1])))) 0) (.exit 0) ⟨[(2,(.oi a2)),(7,(.one (.ref ⟨(7,0,0),[],w0_2,w1_2⟩))),(17,(.one (.val (.bool w2_2))))],[((7,0,0),.live ⟨2,(map d_si ((([])++a0)++([a1]))),[]⟩)]⟩) (T 25 (.h 28 (.norm (6,0,0) (map d_si (([])++(take w1_2 (drop w0_2 ((([])++a0)++([a1]))))))) .nil)))))))))))))))))))))))))
theorem prun_104 (c:Int) (hc:0≤c):∀(f n lo:Nat),n≤f→r104_0 c f n lo=.k0 (lo+(n - c.toNat)) (min n c.toNat) false
  |0,n,lo,h=>by
    have:n=0:=by omega
    subst this
    have h0:¬(0:Int) > c:=by omega
    simp[r104_0,h0]
  |f+1,n,lo,h=>by
    simp only[r104_0,decide_eq_true_eq]
    split
    · rename_i h1
      rw[prun_104 c hc f _ _ yb]
      congr 1<;>omega
    rename_i h1
    have h2:(decide ((n:Int) > c))=false:=by simp only[decide_eq_false_iff_not]; exact h1
    rw[h2]
    congr 1<;>omega
theorem push_104 (a:List K_si) (b:K_si) (c:Int) (hc:0≤c):m104 a b c=drop (a.length+1 - c.toNat) (a++ [b]):=by
  unfold m104
  rw[prun_104 c hc _ _ _ (by simp)]
  simp only[List.nil_append,length_map,length_append,length_cons,length_nil,Nat.zero_add]
  rw[take_of_length_le (by simp only[length_drop,length_append,length_cons,length_nil]; omega)]
def m53 (a0:K_B) (a1:K_si):K_C:=
  if((m102 a1) !=0)=true then(K_C.mk (m102 a1) 0 0 0 ([]) ([]) ([]) 0 0 0) else
  (K_C.mk 0 0 ((m103 a0).f0) ((m103 a0).f1) (m104 a0.f2 a1 a0.f0) ((m103 a0).f3) ((m103 a0).f4) ((m103 a0).f5) ((m103 a0).f6) ((m103 a0).f7))
theorem e53 {l0_2:Nat} {l0_3:Nat} {l0_4:Nat} {a0:K_B} {a1:K_si} (hy0:length a0.f2≤100) (hy1:length a0.f3≤100) (hy2:∀z∈a0.f3,length z.f3≤100) (hy3:length a0.f4≤100) (hy4:∀z∈a0.f3,ok_R z) (hy5:ByteArray.size a1.f0≤140737488351232) (hy6:1≤a0.f0) (hy7:a0.f0≤12):Ev F X (.call 53 [(.agg (k_B l0_2 l0_3 l0_4 a0)),(.agg [(.val (.string a1.f0)),(.val (.int .i64 a1.f1))])] [] [] [(.agg (d_C (m53 a0 a1)))]):=by
  unfold m53
  have f0:fullL [(.val (.string a1.f0)),(.i a1.f1)]=true:=yA
  have P0 {hs q} (r:PS F X hs q):=(PS.f f0 (.r 7 [] [] (e102 (l0:=0) (a0:=a1) ‹_›) r))
  by_cases h0:((m102 a1) !=0)=true
  · try simp only[if_pos h0]
    exact cp ya (P0 (.f h0 (T 14 (.r 18 [] [] (e52 (a0:=(m102 a1))) (p3 ([]) ([]) ([]) (.f (pureR_si ([])) (.f (pureR_R ([])) (.f (pureR_si ([])) .nil))))))))
  try simp only[if_neg h0]
  exact cp ya (P0 (N h0 (U 14 (.r 18 [] [] (e103 (l0_2:=(l0_2+1)) (l0_3:=(l0_3+1)) (l0_4:=(l0_4+1)) (a0:=a0) ‹_› ‹_› ‹_› ‹_› ‹_›) (p3 ((m103 a0).f2) ((m103 a0).f3) ((m103 a0).f4) (.r 34 [] [] (e104 (l0_0:=(l0_2+1)) (a0:=a0.f2) (a1:=a1) (a2:=a0.f0) yb yb) (pe 0 (pe (length (map d_si (m104 a0.f2 a1 a0.f0))) (p3 (m104 a0.f2 a1 a0.f0) ((m103 a0).f3) ((m103 a0).f4) (.f (pureR_si (m104 a0.f2 a1 a0.f0)) (.f (pureR_R ((m103 a0).f3)) (.f (pureR_si ((m103 a0).f4)) .nil))))))))))))
theorem crG {a:K_B} {w:K_si} (h:GL a) (hw:ByteArray.size w.f0≤3) (hc:¬((m53 a w).f0 !=0)=true):GL (K_B.mk (m53 a w).f2 (m53 a w).f3 (m53 a w).f4 (m53 a w).f5 (m53 a w).f6 (m53 a w).f7 (m53 a w).f8 (m53 a w).f9):=by
  unfold m53 at hc⊢
  by_cases c1:((m102 w) !=0)=true
  · simp only[if_pos c1] at hc; exact absurd c1 hc
  simp only[if_neg c1,cp103]
  obtain⟨h1,h2,h3,h4,h5⟩:=h
  refine⟨h1,h2,?_,h4,h5⟩
  simp only[]
  rw[push_104 _ _ _ yb]
  have hw2:1≤w.f1∧w.f1≤9999:=by
    have c:m102 w=0:=by simpa using c1
    unfold m102 at c
    split at c
    · cases c
    split at c
    · cases c
    split at c
    · cases c
    exact jn105 (by assumption)
  refine⟨by have:=h3.1; simp only[length_drop,length_append,length_cons,length_nil]; omega,fun z hz=>?_,fun z hz=>?_⟩
  · rcases List.mem_append.1 (List.mem_of_mem_drop hz) with hz | hz
    · exact h3.2.1 z hz
    rw[List.mem_singleton.1 hz]; exact hw2
  exact sz_app h3.2.2 hw z (List.mem_of_mem_drop hz)
inductive O60_0 where
  |k0 (w0:Int) (w1:Bool)
  |k1 (w0:Int)
def r60_0 (a0:(List K_si)) (a1:ByteArray):List K_si→Int→O60_0
  |x0::y0,i=>
    if(x0.f0.toList==a1.toList)=true then(O60_0.k1 i) else
    (r60_0 a0 a1 y0 (i+1))
  |[],i=>(O60_0.k0 i (decide (i <((length (map b_si a0)):Int))))
def h60_0 (l0_0:Nat) (a0:(List K_si)) (a1:ByteArray) (i:Int) :St:=⟨[(0,(.one (.bor l0_0 (map b_si a0)))),(1,(.one (.val (.string a1)))),(5,(.one (.val (.int .i64 i))))],[]⟩
def ex60_0:O60_0→VX.Exit
  |.k0 _ _=>(.exit 0)
  |.k1 _=>.ret
def fin60_0 (l0_0:Nat) (a0:(List K_si)) (a1:ByteArray):O60_0→St
  |.k0 w0 w1=>⟨[(0,(.one (.bor l0_0 (map b_si a0)))),(1,(.one (.val (.string a1)))),(5,(.one (.val (.int .i64 w0)))),(9,(.one (.val (.bool w1))))],[]⟩
  |.k1 w0=>⟨[(4,(.one (.val (.int .i64 w0))))],[]⟩
theorem t60_0 {l0_0:Nat} {a0:(List K_si)} {a1:ByteArray} (hy0:length a0*24≤140737488351232):∀(y0:List K_si) (p:List K_si),p++y0=a0→Ev F X (.code l60_0 (h60_0 l0_0 a0 a1 (length p:Int)) (ex60_0 (r60_0 a0 a1 y0 (length p:Int))) (fin60_0 l0_0 a0 a1 (r60_0 a0 a1 y0 (length p:Int))))
  |[],p,hp0=>by
    have hc:¬(decide ((length p:Int) <((length (map b_si a0)):Int)))=true:=by
      rw[← hp0]; simp only[LN,decide_eq_true_eq]; omega
    have st:=ch b60_0 (h60_0 l0_0 a0 a1 (length p:Int)) ⟨[(0,(.one (.bor l0_0 (map b_si a0)))),(1,(.one (.val (.string a1)))),(5,(.oi (length p:Int))),(9,(.one (.val (.bool (decide ((length p:Int) <((length (map b_si a0)):Int)))))))],[]⟩ (.exit 0) 9 (by kernel_rfl) (.f (nt hc) (U 8 .nil))
    rw[show (⟨[(0,(.one (.bor l0_0 (map b_si a0)))),(1,(.one (.val (.string a1)))),(5,(.oi (length p:Int))),(9,(.one (.val (.bool (decide ((length p:Int) <((length (map b_si a0)):Int)))))))],[]⟩:St)=fin60_0 l0_0 a0 a1 (.k0 (length p:Int) (decide ((length p:Int) <((length (map b_si a0)):Int)))) from(by rfl)] at st
    exact .loopX st (show ((.exit 0):VX.Exit)≠.normal from by simp)
  |x0::y0,p,hp0=>by
    have hc:(decide ((length p:Int) <((length (map b_si a0)):Int)))=true:=by
      rw[← hp0]; simp only[LN,decide_eq_true_eq]; omega
    have Hx0:(a0)[toNat (length p:Int)]?=some x0:=by
      rw[← hp0,Int.toNat_natCast]; simp
    have hlen:length (a0)=length p+length y0+1:=by rw[← hp0]; simp; omega
    have hw:wrap .i64 ((length p:Int)+1)=(length p:Int)+1:=wrap64 (by omega)
    simp only[r60_0]
    have f1:0≤(length p:Int):=(by omega)
    have P1 {hs q} (r:PS F X hs q):=(PS.f hc (.f f1 (.f (mp_ b_si Hx0) (T 8 (.h 14 (.row (b_si x0)) r)))))
    by_cases h_1:(x0.f0.toList==a1.toList)=true
    · try simp only[if_pos h_1]
      have st:=ch b60_0 (h60_0 l0_0 a0 a1 (length p:Int)) ⟨[(4,(.oi (length p:Int)))],[]⟩ .ret 28 (by kernel_rfl) (P1 (.f h_1 (T 23 .nil)))
      rw[show (⟨[(4,(.oi (length p:Int)))],[]⟩:St)=fin60_0 l0_0 a0 a1 (.k1 (length p:Int)) from(by rfl)] at st
      exact .loopX st (show (.ret:VX.Exit)≠.normal from by simp)
    try simp only[if_neg h_1]
    have st:=ch b60_0 (h60_0 l0_0 a0 a1 (length p:Int)) ⟨[(0,(.one (.bor l0_0 (map b_si a0)))),(1,(.one (.val (.string a1)))),(5,(.oi (wrap .i64 ((length p:Int)+1))))],[]⟩ .normal 30 (by kernel_rfl) (P1 (.f (nt h_1) (.f trivial (U 23 .nil))))
    have ih:=t60_0 (l0_0:=l0_0) (a0:=a0) (a1:=a1) hy0 y0 (p++ [x0]) (by rw[append_assoc]; exact hp0)
    rw[show ((p++ [x0]).length:Int)=(p.length:Int)+1 from by simp] at ih
    rw[show (⟨[(0,(.one (.bor l0_0 (map b_si a0)))),(1,(.one (.val (.string a1)))),(5,(.oi (wrap .i64 ((length p:Int)+1))))],[]⟩:St)=h60_0 l0_0 a0 a1 ((length p:Int)+1)  from(by unfold h60_0; simp only[hw]; done)] at st
    exact .loopN st ih
def m60 (a0:(List K_si)) (a1:ByteArray):Int:=
  (match r60_0 a0 a1 a0 0 with | .k0 w0_0 w1_0=>(-1) | .k1 w0_0=>w0_0)
theorem e60 {l0_0:Nat} {a0:(List K_si)} {a1:ByteArray} (hy0:length a0*24≤140737488351232):Ev F X (.call 60 [(.one (.bor l0_0 (map b_si a0))),(.one (.val (.string a1)))] [] [] [(.one (.val (.int .i64 (m60 a0 a1))))]):=by
  unfold m60
  cases h0:r60_0 a0 a1 a0 0 with
  |k0 w0_0 w1_0=>
    try dsimp only
    have f0:(⟨[(0,(.one (.bor l0_0 (map b_si a0)))),(1,(.one (.val (.string a1)))),(5,(.oi 0))],[]⟩:St)=h60_0 l0_0 a0 a1 0 :=yv
    exact cp ya (.f f0 (.f (ev_ (e:=ex60_0) (g:=(fin60_0 l0_0 a0 a1)) h0 (t60_0 (l0_0:=l0_0) (a0:=a0) (a1:=a1) (by assumption) a0 []  rfl)) (.h 4 (.loop (h60_0 l0_0 a0 a1 0) (.exit 0) ⟨[(0,(.one (.bor l0_0 (map b_si a0)))),(1,(.one (.val (.string a1)))),(5,(.oi w0_0)),(9,(.one (.val (.bool w1_0))))],[]⟩) .nil)))
  |k1 w0_0=>
    try dsimp only
    have f0:(⟨[(0,(.one (.bor l0_0 (map b_si a0)))),(1,(.one (.val (.string a1)))),(5,(.oi 0))],[]⟩:St)=h60_0 l0_0 a0 a1 0 :=yv
    exact cp ya (.f f0 (.f (ev_ (e:=ex60_0) (g:=(fin60_0 l0_0 a0 a1)) h0 (t60_0 (l0_0:=l0_0) (a0:=a0) (a1:=a1) (by assumption) a0 []  rfl)) (.h 4 (.loop (h60_0 l0_0 a0 a1 0) .ret ⟨[(4,(.oi w0_0))],[]⟩) .nil)))
theorem ixr60_0 (a0:(List K_si)) (a1:ByteArray):∀(l:List K_si) (i:Int),(∃(w0:_) (w1:_),r60_0 a0 a1 l i=.k0 w0 w1)∨(∃w,r60_0 a0 a1 l i=.k1 w∧i≤w∧w < i+l.length)
  |[],i=>.inl ⟨i,(decide (i <((length (map b_si a0)):Int))),rfl⟩
  |x::l,i=>by
    have ih:=ixr60_0 a0 a1 l (i+1)
    simp only[r60_0]
    (repeat' split)
    all_goals first
      |exact .inr ⟨i,rfl,by omega,by simp only[length_cons]; omega⟩
      | (rcases ih with ⟨w0, w1, h⟩ | ⟨w, h, h1, h2⟩
         · exact .inl ⟨w0,w1,h⟩
         exact .inr ⟨w,h,by omega,by simp only[length_cons]; omega⟩)
theorem ix60 (a0:(List K_si)) (a1:ByteArray): -1≤m60 a0 a1∧m60 a0 a1 <(length a0:Int):=by
  unfold m60
  rcases ixr60_0 a0 a1 a0 0 with⟨w0,w1,h⟩ |⟨w,h,h1,h2⟩<;>simp only[h]<;>omega
theorem e101 {a0:Int}:Ev F X (.call 101 [(.one (.val (.int .i64 a0)))] [] [] [(.one (.val (.bool (m105 a0 0 1000000))))]):=by
  exact cp ya (.r 5 [] [] (e105 (a0:=a0) (a1:=0) (a2:=1000000)) .nil)
def m61 (a0:K_B) (a1:ByteArray) (a2:Int):K_C:=
  if(decide ((m60 a0.f4 a1) < 0))=true then(K_C.mk 4 0 0 0 ([]) ([]) ([]) 0 0 0) else
  if(((getD a0.f4 (toNat (m60 a0.f4 a1)) (K_si.mk (⟨#[]⟩:ByteArray) 0)).f1)==0)=true then(K_C.mk 4 0 0 0 ([]) ([]) ([]) 0 0 0) else
    if(!(m105 a2 1 ((getD a0.f4 (toNat (m60 a0.f4 a1)) (K_si.mk (⟨#[]⟩:ByteArray) 0)).f1)))=true then(K_C.mk 3 0 0 0 ([]) ([]) ([]) 0 0 0) else
      if(!(m105 (wrap .i64 (a0.f5+a2)) 0 1000000))=true then(K_C.mk 7 0 0 0 ([]) ([]) ([]) 0 0 0) else
        (K_C.mk 0 0 ((m103 a0).f0) ((m103 a0).f1) ((m103 a0).f2) ((m103 a0).f3) (set ((m103 a0).f4) (toNat (m60 a0.f4 a1)) (K_si.mk ((getD ((m103 a0).f4) (toNat (m60 a0.f4 a1)) (K_si.mk (⟨#[]⟩:ByteArray) 0)).f0) (wrap .i64 (((getD a0.f4 (toNat (m60 a0.f4 a1)) (K_si.mk (⟨#[]⟩:ByteArray) 0)).f1) - a2)))) (wrap .i64 (a0.f5+a2)) ((m103 a0).f6) ((m103 a0).f7))
theorem e61 {l0_2:Nat} {l0_3:Nat} {l0_4:Nat} {a0:K_B} {a1:ByteArray} {a2:Int} (hy0:length a0.f2≤100) (hy1:length a0.f3≤100) (hy2:∀z∈a0.f3,length z.f3≤100) (hy3:length a0.f4≤100) (hy4:∀z∈a0.f3,ok_R z):Ev F X (.call 61 [(.agg (k_B l0_2 l0_3 l0_4 a0)),(.one (.val (.string a1))),(.one (.val (.int .i64 a2)))] [] [] [(.agg (d_C (m61 a0 a1 a2)))]):=by
  unfold m61
  have P0 {hs q} (r:PS F X hs q):=(PS.r 11 [] [] (e60 (l0_0:=(l0_4+1)) (a0:=a0.f4) (a1:=a1) yb) r)
  by_cases h0:(decide ((m60 a0.f4 a1) < 0))=true
  · try simp only[if_pos h0]
    exact cp ya (P0 (.f h0 (.f h0 (.f h0 (.f h0 (.f h0 (.f h0 (.f h0 (.f h0 (T 20 (T 22 (T 24 (T 26 (T 28 (T 30 (T 32 (T 35 (.r 38 [] [] (e52 (a0:=4)) (p3 ([]) ([]) ([]) (.f (pureR_si ([])) (.f (pureR_R ([])) (.f (pureR_si ([])) .nil))))))))))))))))))))))
  try simp only[if_neg h0]
  have f5:0≤(m60 a0.f4 a1):=yT
  have P1 {hs q} (r:PS F X hs q):=(P0 (N h0 (N h0 (N h0 (N h0 (.f f5 (.f (mp_ b_si (getD_at a0.f4 (toNat (m60 a0.f4 a1)) (K_si.mk (⟨#[]⟩:ByteArray) 0) yT)) (N h0 (N h0 (N h0 (N h0 (U 20 (U 22 (U 24 (U 26 (.h 27 (.row (b_si (getD a0.f4 (toNat (m60 a0.f4 a1)) (K_si.mk (⟨#[]⟩:ByteArray) 0)))) (U 28 (U 30 (U 32 (U 35 r))))))))))))))))))))
  by_cases h1:(((getD a0.f4 (toNat (m60 a0.f4 a1)) (K_si.mk (⟨#[]⟩:ByteArray) 0)).f1)==0)=true
  · try simp only[if_pos h1]
    exact cp ya (P1 (.f h1 (T 36 (.r 38 [] [] (e52 (a0:=4)) (p3 ([]) ([]) ([]) (.f (pureR_si ([])) (.f (pureR_R ([])) (.f (pureR_si ([])) .nil))))))))
  try simp only[if_neg h1]
  have P2 {hs q} (r:PS F X hs q):=(P1 (N h1 (.f f5 (.f (mp_ b_si (getD_at a0.f4 (toNat (m60 a0.f4 a1)) (K_si.mk (⟨#[]⟩:ByteArray) 0) yT)) (U 36 (.h 46 (.row (b_si (getD a0.f4 (toNat (m60 a0.f4 a1)) (K_si.mk (⟨#[]⟩:ByteArray) 0)))) (.r 52 [] [] (e105 (a0:=a2) (a1:=1) (a2:=((getD a0.f4 (toNat (m60 a0.f4 a1)) (K_si.mk (⟨#[]⟩:ByteArray) 0)).f1))) r)))))))
  by_cases h2:(!(m105 a2 1 ((getD a0.f4 (toNat (m60 a0.f4 a1)) (K_si.mk (⟨#[]⟩:ByteArray) 0)).f1)))=true
  · try simp only[if_pos h2]
    exact cp ya (P2 (.f h2 (T 55 (.r 57 [] [] (e52 (a0:=3)) (p3 ([]) ([]) ([]) (.f (pureR_si ([])) (.f (pureR_R ([])) (.f (pureR_si ([])) .nil))))))))
  try simp only[if_neg h2]
  have P3 {hs q} (r:PS F X hs q):=(P2 (N h2 (.f trivial (U 55 (.r 65 [] [] (e101 (a0:=(wrap .i64 (a0.f5+a2)))) r)))))
  by_cases h3:(!(m105 (wrap .i64 (a0.f5+a2)) 0 1000000))=true
  · try simp only[if_pos h3]
    exact cp ya (P3 (.f h3 (T 68 (.r 70 [] [] (e52 (a0:=7)) (p3 ([]) ([]) ([]) (.f (pureR_si ([])) (.f (pureR_R ([])) (.f (pureR_si ([])) .nil))))))))
  try simp only[if_neg h3]
  have f28:0+(length (map d_si ((m103 a0).f4)))≤(length (map d_si ((m103 a0).f4))):=yb
  have f29:0≤(m60 a0.f4 a1)∧(m60 a0.f4 a1) <((length (map d_si ((m103 a0).f4))):Int):=yak
  have f31:([[(.i ((m103 a0).f0)),(.i ((m103 a0).f1)),(.own 2 (map d_si ((m103 a0).f2))),(.own 5 (map d_R ((m103 a0).f3))),(.own 2 (set (map d_si ((m103 a0).f4)) (0+(toNat (m60 a0.f4 a1))) [(.val (.string ((getD ((m103 a0).f4) (toNat (m60 a0.f4 a1)) (K_si.mk (⟨#[]⟩:ByteArray) 0)).f0))),(.i (wrap .i64 (((getD a0.f4 (toNat (m60 a0.f4 a1)) (K_si.mk (⟨#[]⟩:ByteArray) 0)).f1) - a2)))])),(.i ((m103 a0).f5)),(.i ((m103 a0).f6)),(.i ((m103 a0).f7))]]:List (List D))=[[(.i ((m103 a0).f0)),(.i ((m103 a0).f1)),(.own 2 (map d_si ((m103 a0).f2))),(.own 5 (map d_R ((m103 a0).f3))),(.own 2 (map d_si (set ((m103 a0).f4) (toNat (m60 a0.f4 a1)) (K_si.mk ((getD ((m103 a0).f4) (toNat (m60 a0.f4 a1)) (K_si.mk (⟨#[]⟩:ByteArray) 0)).f0) (wrap .i64 (((getD a0.f4 (toNat (m60 a0.f4 a1)) (K_si.mk (⟨#[]⟩:ByteArray) 0)).f1) - a2)))))),(.i ((m103 a0).f5)),(.i ((m103 a0).f6)),(.i ((m103 a0).f7))]]:=yN
  exact cp ya (P3 (N h3 (U 68 (.r 72 [] [] (e103 (l0_2:=(l0_2+1)) (l0_3:=(l0_3+1)) (l0_4:=(l0_4+1)) (a0:=a0) ‹_› ‹_› ‹_› ‹_› ‹_›) (p3 ((m103 a0).f2) ((m103 a0).f3) ((m103 a0).f4) (.f f5 (.f (mp_ b_si (getD_at a0.f4 (toNat (m60 a0.f4 a1)) (K_si.mk (⟨#[]⟩:ByteArray) 0) yT)) (.f f28 (.f f29 (.f (mz_ d_si (getD_at ((m103 a0).f4) (toNat (m60 a0.f4 a1)) (K_si.mk (⟨#[]⟩:ByteArray) 0) yak)) (.f f31 (.f trivial (p3 ((m103 a0).f2) ((m103 a0).f3) (set ((m103 a0).f4) (toNat (m60 a0.f4 a1)) (K_si.mk ((getD ((m103 a0).f4) (toNat (m60 a0.f4 a1)) (K_si.mk (⟨#[]⟩:ByteArray) 0)).f0) (wrap .i64 (((getD a0.f4 (toNat (m60 a0.f4 a1)) (K_si.mk (⟨#[]⟩:ByteArray) 0)).f1) - a2)))) (.f (pureR_si ((m103 a0).f2)) (.f (pureR_R ((m103 a0).f3)) (.f (pureR_si (set ((m103 a0).f4) (toNat (m60 a0.f4 a1)) (K_si.mk ((getD ((m103 a0).f4) (toNat (m60 a0.f4 a1)) (K_si.mk (⟨#[]⟩:ByteArray) 0)).f0) (wrap .i64 (((getD a0.f4 (toNat (m60 a0.f4 a1)) (K_si.mk (⟨#[]⟩:ByteArray) 0)).f1) - a2))))) (.h 90 (.row (b_si (getD a0.f4 (toNat (m60 a0.f4 a1)) (K_si.mk (⟨#[]⟩:ByteArray) 0)))) (.h 104 (.rowD (d_si (getD ((m103 a0).f4) (toNat (m60 a0.f4 a1)) (K_si.mk (⟨#[]⟩:ByteArray) 0)))) (.h 105 (.norm (8,0,0) [[(.i ((m103 a0).f0)),(.i ((m103 a0).f1)),(.own 2 (map d_si ((m103 a0).f2))),(.own 5 (map d_R ((m103 a0).f3))),(.own 2 (map d_si (set ((m103 a0).f4) (toNat (m60 a0.f4 a1)) (K_si.mk ((getD ((m103 a0).f4) (toNat (m60 a0.f4 a1)) (K_si.mk (⟨#[]⟩:ByteArray) 0)).f0) (wrap .i64 (((getD a0.f4 (toNat (m60 a0.f4 a1)) (K_si.mk (⟨#[]⟩:ByteArray) 0)).f1) - a2)))))),(.i ((m103 a0).f5)),(.i ((m103 a0).f6)),(.i ((m103 a0).f7))]]) .nil)))))))))))))))))))
theorem paG {a:K_B} {w:ByteArray} {i:Int} (h:GL a) (hc:¬((m61 a w i).f0 !=0)=true):GL (K_B.mk (m61 a w i).f2 (m61 a w i).f3 (m61 a w i).f4 (m61 a w i).f5 (m61 a w i).f6 (m61 a w i).f7 (m61 a w i).f8 (m61 a w i).f9):=by
  obtain⟨h1,h2,h3,h4,h5⟩:=h
  generalize hr:m61 a w i=r at hc⊢
  unfold m61 at hr
  simp only[cp103] at hr
  (repeat' split at hr)<;>subst hr<;>first
    |(exfalso; simp at hc; done)
    |exact⟨h1,h2,h3,h4,⟨by simp only[length_set]; exact h5.1,sz_set h5.2 _ (sz_get h5.2 _)⟩⟩
inductive O124_0 where
  |k0 (w0:Int) (w1:Bool)
  |k1 (w0:Int)
def r124_0 (a0:(List K_R)) (a1:Int):List K_R→Int→O124_0
  |x0::y0,i=>
    if(x0.f0==a1)=true then(O124_0.k1 i) else
    (r124_0 a0 a1 y0 (i+1))
  |[],i=>(O124_0.k0 i (decide (i <((length (map b_R a0)):Int))))
def h124_0 (l0_0:Nat) (a0:(List K_R)) (a1:Int) (i:Int) :St:=⟨[(0,(.one (.bor l0_0 (map b_R a0)))),(1,(.one (.val (.int .i64 a1)))),(5,(.one (.val (.int .i64 i))))],[]⟩
def ex124_0:O124_0→VX.Exit
  |.k0 _ _=>(.exit 0)
  |.k1 _=>.ret
def fin124_0 (l0_0:Nat) (a0:(List K_R)) (a1:Int):O124_0→St
  |.k0 w0 w1=>⟨[(0,(.one (.bor l0_0 (map b_R a0)))),(1,(.one (.val (.int .i64 a1)))),(5,(.one (.val (.int .i64 w0)))),(9,(.one (.val (.bool w1))))],[]⟩
  |.k1 w0=>⟨[(4,(.one (.val (.int .i64 w0))))],[]⟩
theorem t124_0 {l0_0:Nat} {a0:(List K_R)} {a1:Int} (hy0:length a0*56≤140737488351232) (hy1:∀z∈a0,ok_R z):∀(y0:List K_R) (p:List K_R),p++y0=a0→Ev F X (.code l124_0 (h124_0 l0_0 a0 a1 (length p:Int)) (ex124_0 (r124_0 a0 a1 y0 (length p:Int))) (fin124_0 l0_0 a0 a1 (r124_0 a0 a1 y0 (length p:Int))))
  |[],p,hp0=>by
    have hc:¬(decide ((length p:Int) <((length (map b_R a0)):Int)))=true:=by
      rw[← hp0]; simp only[LN,decide_eq_true_eq]; omega
    have st:=ch b124_0 (h124_0 l0_0 a0 a1 (length p:Int)) ⟨[(0,(.one (.bor l0_0 (map b_R a0)))),(1,(.oi a1)),(5,(.oi (length p:Int))),(9,(.one (.val (.bool (decide ((length p:Int) <((length (map b_R a0)):Int)))))))],[]⟩ (.exit 0) 9 (by kernel_rfl) (.f (nt hc) (U 8 .nil))
    rw[show (⟨[(0,(.one (.bor l0_0 (map b_R a0)))),(1,(.oi a1)),(5,(.oi (length p:Int))),(9,(.one (.val (.bool (decide ((length p:Int) <((length (map b_R a0)):Int)))))))],[]⟩:St)=fin124_0 l0_0 a0 a1 (.k0 (length p:Int) (decide ((length p:Int) <((length (map b_R a0)):Int)))) from(by rfl)] at st
    exact .loopX st (show ((.exit 0):VX.Exit)≠.normal from by simp)
  |x0::y0,p,hp0=>by
    have hc:(decide ((length p:Int) <((length (map b_R a0)):Int)))=true:=by
      rw[← hp0]; simp only[LN,decide_eq_true_eq]; omega
    have Hx0:(a0)[toNat (length p:Int)]?=some x0:=by
      rw[← hp0,Int.toNat_natCast]; simp
    have Mx0_0:=hy1 x0 (List.mem_of_getElem? Hx0)
    have hlen:length (a0)=length p+length y0+1:=by rw[← hp0]; simp; omega
    have hw:wrap .i64 ((length p:Int)+1)=(length p:Int)+1:=wrap64 (by omega)
    simp only[r124_0]
    have f1:0≤(length p:Int):=(by omega)
    have P1 {hs q} (r:PS F X hs q):=(PS.f hc (.f f1 (.f (mp_ b_R Hx0) (T 8 (.h 14 (.row (b_R x0)) r)))))
    by_cases h_1:(x0.f0==a1)=true
    · try simp only[if_pos h_1]
      have st:=ch b124_0 (h124_0 l0_0 a0 a1 (length p:Int)) ⟨[(4,(.oi (length p:Int)))],[]⟩ .ret 28 (by kernel_rfl) (P1 (.f h_1 (T 23 .nil)))
      rw[show (⟨[(4,(.oi (length p:Int)))],[]⟩:St)=fin124_0 l0_0 a0 a1 (.k1 (length p:Int)) from(by rfl)] at st
      exact .loopX st (show (.ret:VX.Exit)≠.normal from by simp)
    try simp only[if_neg h_1]
    have st:=ch b124_0 (h124_0 l0_0 a0 a1 (length p:Int)) ⟨[(0,(.one (.bor l0_0 (map b_R a0)))),(1,(.oi a1)),(5,(.oi (wrap .i64 ((length p:Int)+1))))],[]⟩ .normal 30 (by kernel_rfl) (P1 (.f (nt h_1) (.f trivial (U 23 .nil))))
    have ih:=t124_0 (l0_0:=l0_0) (a0:=a0) (a1:=a1) hy0 hy1 y0 (p++ [x0]) (by rw[append_assoc]; exact hp0)
    rw[show ((p++ [x0]).length:Int)=(p.length:Int)+1 from by simp] at ih
    rw[show (⟨[(0,(.one (.bor l0_0 (map b_R a0)))),(1,(.oi a1)),(5,(.oi (wrap .i64 ((length p:Int)+1))))],[]⟩:St)=h124_0 l0_0 a0 a1 ((length p:Int)+1)  from(by unfold h124_0; simp only[hw]; done)] at st
    exact .loopN st ih
def m124 (a0:(List K_R)) (a1:Int):Int:=
  (match r124_0 a0 a1 a0 0 with | .k0 w0_0 w1_0=>(-1) | .k1 w0_0=>w0_0)
theorem e124 {l0_0:Nat} {a0:(List K_R)} {a1:Int} (hy0:length a0*56≤140737488351232) (hy1:∀z∈a0,ok_R z):Ev F X (.call 124 [(.one (.bor l0_0 (map b_R a0))),(.one (.val (.int .i64 a1)))] [] [] [(.one (.val (.int .i64 (m124 a0 a1))))]):=by
  unfold m124
  cases h0:r124_0 a0 a1 a0 0 with
  |k0 w0_0 w1_0=>
    try dsimp only
    have f0:(⟨[(0,(.one (.bor l0_0 (map b_R a0)))),(1,(.oi a1)),(5,(.oi 0))],[]⟩:St)=h124_0 l0_0 a0 a1 0 :=yv
    exact cp ya (.f f0 (.f (ev_ (e:=ex124_0) (g:=(fin124_0 l0_0 a0 a1)) h0 (t124_0 (l0_0:=l0_0) (a0:=a0) (a1:=a1) (by assumption) (by assumption) a0 []  rfl)) (.h 4 (.loop (h124_0 l0_0 a0 a1 0) (.exit 0) ⟨[(0,(.one (.bor l0_0 (map b_R a0)))),(1,(.oi a1)),(5,(.oi w0_0)),(9,(.one (.val (.bool w1_0))))],[]⟩) .nil)))
  |k1 w0_0=>
    try dsimp only
    have f0:(⟨[(0,(.one (.bor l0_0 (map b_R a0)))),(1,(.oi a1)),(5,(.oi 0))],[]⟩:St)=h124_0 l0_0 a0 a1 0 :=yv
    exact cp ya (.f f0 (.f (ev_ (e:=ex124_0) (g:=(fin124_0 l0_0 a0 a1)) h0 (t124_0 (l0_0:=l0_0) (a0:=a0) (a1:=a1) (by assumption) (by assumption) a0 []  rfl)) (.h 4 (.loop (h124_0 l0_0 a0 a1 0) .ret ⟨[(4,(.oi w0_0))],[]⟩) .nil)))
theorem ixr124_0 (a0:(List K_R)) (a1:Int):∀(l:List K_R) (i:Int),(∃(w0:_) (w1:_),r124_0 a0 a1 l i=.k0 w0 w1)∨(∃w,r124_0 a0 a1 l i=.k1 w∧i≤w∧w < i+l.length)
  |[],i=>.inl ⟨i,(decide (i <((length (map b_R a0)):Int))),rfl⟩
  |x::l,i=>by
    have ih:=ixr124_0 a0 a1 l (i+1)
    simp only[r124_0]
    (repeat' split)
    all_goals first
      |exact .inr ⟨i,rfl,by omega,by simp only[length_cons]; omega⟩
      | (rcases ih with ⟨w0, w1, h⟩ | ⟨w, h, h1, h2⟩
         · exact .inl ⟨w0,w1,h⟩
         exact .inr ⟨w,h,by omega,by simp only[length_cons]; omega⟩)
theorem ix124 (a0:(List K_R)) (a1:Int): -1≤m124 a0 a1∧m124 a0 a1 <(length a0:Int):=by
  unfold m124
  rcases ixr124_0 a0 a1 a0 0 with⟨w0,w1,h⟩ |⟨w,h,h1,h2⟩<;>simp only[h]<;>omega
inductive O125_0 where
  |k0 (w0:List K_si) (w1:Int) (w2:Bool)
def r125_0 (a1:(List K_si)):List K_si→Int→List K_si→O125_0
  |x0::y0,i,v0=>
    if(decide ((m60 v0 x0.f0)≥0))=true then(r125_0 a1 y0 (i+1) (set v0 (toNat (m60 v0 x0.f0)) (K_si.mk ((getD v0 (toNat (m60 v0 x0.f0)) (K_si.mk (⟨#[]⟩:ByteArray) 0)).f0) (wrap .i64 (((getD v0 (toNat (m60 v0 x0.f0)) (K_si.mk (⟨#[]⟩:ByteArray) 0)).f1)+x0.f1))))) else
    (r125_0 a1 y0 (i+1) (v0++([x0])))
  |[],i,v0=>(O125_0.k0 v0 i (decide (i <((length (map b_si a1)):Int))))
def h125_0 (l0_0:Nat) (l1_0:Nat) (a0:(List K_si)) (a1:(List K_si)) (i:Int) (v0:List K_si):St:=⟨[(1,(.one (.bor l1_0 (map b_si a1)))),(6,(.one (.ref ⟨(6,0,0),[],0,(length (map d_si v0))⟩))),(7,(.one (.val (.int .i64 i))))],[((6,0,0),.live ⟨2,(map d_si v0),[]⟩)]⟩
def ex125_0:O125_0→VX.Exit
  |.k0 _ _ _=>(.exit 0)
def fin125_0 (l0_0:Nat) (l1_0:Nat) (a0:(List K_si)) (a1:(List K_si)):O125_0→St
  |.k0 w0 w1 w2=>⟨[(1,(.one (.bor l1_0 (map b_si a1)))),(6,(.one (.ref ⟨(6,0,0),[],0,(length (map d_si w0))⟩))),(7,(.one (.val (.int .i64 w1)))),(15,(.one (.val (.bool w2))))],[((6,0,0),.live ⟨2,(map d_si w0),[]⟩)]⟩
theorem t125_0 {l0_0:Nat} {l1_0:Nat} {a0:(List K_si)} {a1:(List K_si)} (hy0:length a0≤100) (hy1:length a1≤100):∀(y0:List K_si) (p:List K_si) (v0:List K_si),p++y0=a1→(length v0+length y0)*24≤70368744177664→Ev F X (.code l125_0 (h125_0 l0_0 l1_0 a0 a1 (length p:Int) v0) (ex125_0 (r125_0 a1 y0 (length p:Int) v0)) (fin125_0 l0_0 l1_0 a0 a1 (r125_0 a1 y0 (length p:Int) v0)))
  |[],p,v0,hp0,hi0=>by
    have hc:¬(decide ((length p:Int) <((length (map b_si a1)):Int)))=true:=by
      rw[← hp0]; simp only[LN,decide_eq_true_eq]; omega
    have hj0:=hi0; try simp only[LN,Int.toNat_natCast] at hj0
    have st:=ch b125_0 (h125_0 l0_0 l1_0 a0 a1 (length p:Int) v0) ⟨[(1,(.one (.bor l1_0 (map b_si a1)))),(6,(.one (.ref ⟨(6,0,0),[],0,(length (map d_si v0))⟩))),(7,(.oi (length p:Int))),(15,(.one (.val (.bool (decide ((length p:Int) <((length (map b_si a1)):Int)))))))],[((6,0,0),.live ⟨2,(map d_si v0),[]⟩)]⟩ (.exit 0) 9 (by kernel_rfl) (.f (nt hc) (U 8 .nil))
    rw[show (⟨[(1,(.one (.bor l1_0 (map b_si a1)))),(6,(.one (.ref ⟨(6,0,0),[],0,(length (map d_si v0))⟩))),(7,(.oi (length p:Int))),(15,(.one (.val (.bool (decide ((length p:Int) <((length (map b_si a1)):Int)))))))],[((6,0,0),.live ⟨2,(map d_si v0),[]⟩)]⟩:St)=fin125_0 l0_0 l1_0 a0 a1 (.k0 v0 (length p:Int) (decide ((length p:Int) <((length (map b_si a1)):Int)))) from(by rfl)] at st
    exact .loopX st (show ((.exit 0):VX.Exit)≠.normal from by simp)
  |x0::y0,p,v0,hp0,hi0=>by
    have hc:(decide ((length p:Int) <((length (map b_si a1)):Int)))=true:=by
      rw[← hp0]; simp only[LN,decide_eq_true_eq]; omega
    have Hx0:(a1)[toNat (length p:Int)]?=some x0:=by
      rw[← hp0,Int.toNat_natCast]; simp
    have hlen:length (a1)=length p+length y0+1:=by rw[← hp0]; simp; omega
    have hw:wrap .i64 ((length p:Int)+1)=(length p:Int)+1:=wrap64 (by omega)
    have hj0:=hi0; try simp only[LN,Int.toNat_natCast] at hj0
    simp only[r125_0]
    have f1:0≤(length p:Int):=(by omega)
    have P1 {hs q} (r:PS F X hs q):=(PS.f hc (.f f1 (.f (mp_ b_si Hx0) (ln_si v0 (T 8 (.h 16 (.row (b_si x0)) (.r 22 [] [(map b_si v0)] (e60 (l0_0:=0) (a0:=v0) (a1:=x0.f0) (by omega)) r)))))))
    by_cases h_1:(decide ((m60 v0 x0.f0)≥0))=true
    · try simp only[if_pos h_1]
      have f8:0+(length (map d_si v0))≤(length (map d_si v0)):=(by omega)
      have f9:0≤(m60 v0 x0.f0)∧(m60 v0 x0.f0) <((length (map d_si v0)):Int):=(by have q:=ix60 v0 x0.f0; simp only[decide_eq_true_eq,length_map] at*; omega)
      have f17:(set (map d_si v0) (0+(toNat (m60 v0 x0.f0))) [(.val (.string ((getD v0 (toNat (m60 v0 x0.f0)) (K_si.mk (⟨#[]⟩:ByteArray) 0)).f0))),(.i (wrap .i64 (((getD v0 (toNat (m60 v0 x0.f0)) (K_si.mk (⟨#[]⟩:ByteArray) 0)).f1)+x0.f1)))])=(map d_si (set v0 (toNat (m60 v0 x0.f0)) (K_si.mk ((getD v0 (toNat (m60 v0 x0.f0)) (K_si.mk (⟨#[]⟩:ByteArray) 0)).f0) (wrap .i64 (((getD v0 (toNat (m60 v0 x0.f0)) (K_si.mk (⟨#[]⟩:ByteArray) 0)).f1)+x0.f1))))):=(by simp[take_of_length_le,d_si,four_len]; done)
      have st:=ch b125_0 (h125_0 l0_0 l1_0 a0 a1 (length p:Int) v0) ⟨[(1,(.one (.bor l1_0 (map b_si a1)))),(6,(.one (.ref ⟨(6,0,0),[],0,(length (map d_si v0))⟩))),(7,(.oi (wrap .i64 ((length p:Int)+1))))],[((6,0,0),.live ⟨2,(map d_si (set v0 (toNat (m60 v0 x0.f0)) (K_si.mk ((getD v0 (toNat (m60 v0 x0.f0)) (K_si.mk (⟨#[]⟩:ByteArray) 0)).f0) (wrap .i64 (((getD v0 (toNat (m60 v0 x0.f0)) (K_si.mk (⟨#[]⟩:ByteArray) 0)).f1)+x0.f1))))),[]⟩)]⟩ .normal 69 (by kernel_rfl) (P1 (.f h_1 (.f f8 (.f f9 (.f (mz_ d_si (getD_at v0 (toNat (m60 v0 x0.f0)) (K_si.mk (⟨#[]⟩:ByteArray) 0) (by have q:=ix60 v0 x0.f0; simp only[decide_eq_true_eq,length_map] at*; omega))) (.f f1 (.f (mp_ b_si Hx0) (.f trivial (.f f8 (.f f9 (.f (mz_ d_si (getD_at v0 (toNat (m60 v0 x0.f0)) (K_si.mk (⟨#[]⟩:ByteArray) 0) (by have q:=ix60 v0 x0.f0; simp only[decide_eq_true_eq,length_map] at*; omega))) (.f f17 (.f trivial (T 29 (.h 43 (.rowD (d_si (getD v0 (toNat (m60 v0 x0.f0)) (K_si.mk (⟨#[]⟩:ByteArray) 0)))) (.h 49 (.row (b_si x0)) (.h 61 (.rowD (d_si (getD v0 (toNat (m60 v0 x0.f0)) (K_si.mk (⟨#[]⟩:ByteArray) 0)))) (.h 62 (.norm (6,0,0) (map d_si (set v0 (toNat (m60 v0 x0.f0)) (K_si.mk ((getD v0 (toNat (m60 v0 x0.f0)) (K_si.mk (⟨#[]⟩:ByteArray) 0)).f0) (wrap .i64 (((getD v0 (toNat (m60 v0 x0.f0)) (K_si.mk (⟨#[]⟩:ByteArray) 0)).f1)+x0.f1)))))) .nil))))))))))))))))))
      have ih:=t125_0 (l0_0:=l0_0) (l1_0:=l1_0) (a0:=a0) (a1:=a1) hy0 hy1 y0 (p++ [x0]) (set v0 (toNat (m60 v0 x0.f0)) (K_si.mk ((getD v0 (toNat (m60 v0 x0.f0)) (K_si.mk (⟨#[]⟩:ByteArray) 0)).f0) (wrap .i64 (((getD v0 (toNat (m60 v0 x0.f0)) (K_si.mk (⟨#[]⟩:ByteArray) 0)).f1)+x0.f1)))) (by rw[append_assoc]; exact hp0) (by simp only[LN]; omega)
      rw[show ((p++ [x0]).length:Int)=(p.length:Int)+1 from by simp] at ih
      rw[show (⟨[(1,(.one (.bor l1_0 (map b_si a1)))),(6,(.one (.ref ⟨(6,0,0),[],0,(length (map d_si v0))⟩))),(7,(.oi (wrap .i64 ((length p:Int)+1))))],[((6,0,0),.live ⟨2,(map d_si (set v0 (toNat (m60 v0 x0.f0)) (K_si.mk ((getD v0 (toNat (m60 v0 x0.f0)) (K_si.mk (⟨#[]⟩:ByteArray) 0)).f0) (wrap .i64 (((getD v0 (toNat (m60 v0 x0.f0)) (K_si.mk (⟨#[]⟩:ByteArray) 0)).f1)+x0.f1))))),[]⟩)]⟩:St)=h125_0 l0_0 l1_0 a0 a1 ((length p:Int)+1) (set v0 (toNat (m60 v0 x0.f0)) (K_si.mk ((getD v0 (toNat (m60 v0 x0.f0)) (K_si.mk (⟨#[]⟩:ByteArray) 0)).f0) (wrap .i64 (((getD v0 (toNat (m60 v0 x0.f0)) (K_si.mk (⟨#[]⟩:ByteArray) 0)).f1)+x0.f1)))) from(by unfold h125_0; simp only[hw,length_map,length_set,length_append,length_replicate,length_cons,length_nil]; done)] at st
      exact .loopN st ih
    try simp only[if_neg h_1]
    have f10:0+(length (map d_si v0))≤(length (map d_si v0)):=(by omega)
    have f11:1≤1:=(by omega)
    have f12:((take 1 (drop 0 [[(.val (.string x0.f0)),(.i x0.f1)]])).all fun x=>x.all copyable)=true:=(by trivial)
    have f13:(length ((take (length (map d_si v0)) (drop 0 (map d_si v0)))++([[(.val (.string x0.f0)),(.i x0.f1)]]:List (List D))))*24≤70368744177664:=(by simp only[length_map,length_append,length_cons,length_nil,length_take,length_drop]; omega)
    have f14:∀r∈([[(.val (.string x0.f0)),(.i x0.f1)]]:List (List D)),r.length=2:=(by simp[four_len]; done)
    have f15:((take (length (map d_si v0)) (drop 0 (map d_si v0)))++([[(.val (.string x0.f0)),(.i x0.f1)]]:List (List D)))=(map d_si (v0++([x0]))):=(by simp[take_of_length_le,d_si,four_len]; done)
    have st:=ch b125_0 (h125_0 l0_0 l1_0 a0 a1 (length p:Int) v0) ⟨[(1,(.one (.bor l1_0 (map b_si a1)))),(6,(.one (.ref ⟨(6,0,0),[],0,(length ((take (length (map d_si v0)) (drop 0 (map d_si v0)))++([[(.val (.string x0.f0)),(.i x0.f1)]]:List (List D))))⟩))),(7,(.oi (wrap .i64 ((length p:Int)+1))))],[((6,0,0),.live ⟨2,(map d_si (v0++([x0]))),[]⟩)]⟩ .normal 53 (by kernel_rfl) (P1 (.f (nt h_1) (.f f1 (.f (mp_ b_si Hx0) (.f f10 (.f f11 (.f f12 (.f f13 (.f f14 (.f f15 (.f trivial (U 29 (.h 37 (.row (b_si x0)) (T 43 (.h 46 (.norm (6,0,0) (map d_si (v0++([x0])))) .nil)))))))))))))))
    have ih:=t125_0 (l0_0:=l0_0) (l1_0:=l1_0) (a0:=a0) (a1:=a1) hy0 hy1 y0 (p++ [x0]) (v0++([x0])) (by rw[append_assoc]; exact hp0) (by simp only[LN]; omega)
    rw[show ((p++ [x0]).length:Int)=(p.length:Int)+1 from by simp] at ih
    rw[show (⟨[(1,(.one (.bor l1_0 (map b_si a1)))),(6,(.one (.ref ⟨(6,0,0),[],0,(length ((take (length (map d_si v0)) (drop 0 (map d_si v0)))++([[(.val (.string x0.f0)),(.i x0.f1)]]:List (List D))))⟩))),(7,(.oi (wrap .i64 ((length p:Int)+1))))],[((6,0,0),.live ⟨2,(map d_si (v0++([x0]))),[]⟩)]⟩:St)=h125_0 l0_0 l1_0 a0 a1 ((length p:Int)+1) (v0++([x0])) from(by unfold h125_0; simp[hw,take_of_length_le,d_si,four_len]; done)] at st
    exact .loopN st ih
theorem og100 {l:List K_R} (h:∀z∈l,z.f3.length≤100) (i:Nat):(getD l i (K_R.mk 0 0 0 [] 0)).f3.length≤100:=by
  rw[List.getD_eq_getElem?_getD]
  cases h2:l[i]? with
  |none=>simp
  |some x=>exact h x (List.mem_of_getElem? h2)
theorem al125 {a:List K_si}:∀ {l:List K_si} {i:Int} {v:List K_si} {w:List K_si} {j b},r125_0 a l i v=.k0 w j b→w.length≤v.length+l.length
  |[],i,v,w,j,b,h=>by simp only[r125_0] at h; injection h with h; subst h; simp
  |x::l,i,v,w,j,b,h=>by
    simp only[r125_0] at h
    split at h
    · have q:=al125 h; simp only[length_set,length_cons] at q⊢; omega
    have q:=al125 h; simp only[length_append,length_cons,length_nil] at q⊢; omega
inductive O125_1 where
  |k0 (w0:Int) (w1:Bool)
  |k1
def r125_1 (c0_125_1:List K_si):List K_si→Int→O125_1
  |x0::y0,i=>
    if(!(m105 x0.f1 0 1000000))=true then(O125_1.k1) else
    (r125_1 c0_125_1 y0 (i+1))
  |[],i=>(O125_1.k0 i (decide (i <((length (map d_si c0_125_1)):Int))))
def h125_1 (l0_0:Nat) (l1_0:Nat) (a0:(List K_si)) (a1:(List K_si)) (c0_125_1:List K_si) (i:Int) :St:=⟨[(6,(.one (.ref ⟨(6,0,0),[],0,(length (map d_si c0_125_1))⟩))),(9,(.one (.val (.int .i64 i))))],[((6,0,0),.live ⟨2,(map d_si c0_125_1),[]⟩)]⟩
def ex125_1:O125_1→VX.Exit
  |.k0 _ _=>(.exit 2)
  |.k1=>.ret
def fin125_1 (l0_0:Nat) (l1_0:Nat) (a0:(List K_si)) (a1:(List K_si)) (c0_125_1:List K_si):O125_1→St
  |.k0 w0 w1=>⟨[(6,(.one (.ref ⟨(6,0,0),[],0,(length (map d_si c0_125_1))⟩))),(9,(.one (.val (.int .i64 w0)))),(55,(.one (.val (.bool w1))))],[((6,0,0),.live ⟨2,(map d_si c0_125_1),[]⟩)]⟩
  |.k1=>⟨[(6,(.one (.ref ⟨(6,0,0),[],0,(length (map d_si c0_125_1))⟩))),(4,(.one (.nl 2))),(5,(.one (.val (.int .i64 7))))],[((6,0,0),.live ⟨2,(map d_si c0_125_1),[]⟩)]⟩
theorem t125_1 {l0_0:Nat} {l1_0:Nat} {a0:(List K_si)} {a1:(List K_si)} {c0_125_1:List K_si} (hy0:length a0≤100) (hy1:length a1≤100) (hy2:length c0_125_1≤140737488351232):∀(y0:List K_si) (p:List K_si),p++y0=c0_125_1→Ev F X (.code l125_1 (h125_1 l0_0 l1_0 a0 a1 c0_125_1 (length p:Int)) (ex125_1 (r125_1 c0_125_1 y0 (length p:Int))) (fin125_1 l0_0 l1_0 a0 a1 c0_125_1 (r125_1 c0_125_1 y0 (length p:Int))))
  |[],p,hp0=>by
    have hc:¬(decide ((length p:Int) <((length (map d_si c0_125_1)):Int)))=true:=by
      rw[← hp0]; simp only[LN,decide_eq_true_eq]; omega
    have st:=ch b125_1 (h125_1 l0_0 l1_0 a0 a1 c0_125_1 (length p:Int)) ⟨[(6,(.one (.ref ⟨(6,0,0),[],0,(length (map d_si c0_125_1))⟩))),(9,(.oi (length p:Int))),(55,(.one (.val (.bool (decide ((length p:Int) <((length (map d_si c0_125_1)):Int)))))))],[((6,0,0),.live ⟨2,(map d_si c0_125_1),[]⟩)]⟩ (.exit 2) 9 (by kernel_rfl) (.f (nt hc) (U 8 .nil))
    rw[show (⟨[(6,(.one (.ref ⟨(6,0,0),[],0,(length (map d_si c0_125_1))⟩))),(9,(.oi (length p:Int))),(55,(.one (.val (.bool (decide ((length p:Int) <((length (map d_si c0_125_1)):Int)))))))],[((6,0,0),.live ⟨2,(map d_si c0_125_1),[]⟩)]⟩:St)=fin125_1 l0_0 l1_0 a0 a1 c0_125_1 (.k0 (length p:Int) (decide ((length p:Int) <((length (map d_si c0_125_1)):Int)))) from(by rfl)] at st
    exact .loopX st (show ((.exit 2):VX.Exit)≠.normal from by simp)
  |x0::y0,p,hp0=>by
    have hc:(decide ((length p:Int) <((length (map d_si c0_125_1)):Int)))=true:=by
      rw[← hp0]; simp only[LN,decide_eq_true_eq]; omega
    have Hx0:(c0_125_1)[toNat (length p:Int)]?=some x0:=by
      rw[← hp0,Int.toNat_natCast]; simp
    have hlen:length (c0_125_1)=length p+length y0+1:=by rw[← hp0]; simp; omega
    have hw:wrap .i64 ((length p:Int)+1)=(length p:Int)+1:=wrap64 (by omega)
    simp only[r125_1]
    have f1:0+(length (map d_si c0_125_1))≤(length (map d_si c0_125_1)):=(by omega)
    have f2:0≤(length p:Int)∧(length p:Int) <((length (map d_si c0_125_1)):Int):=(by simp only[decide_eq_true_eq] at*; omega)
    have P1 {hs q} (r:PS F X hs q):=(PS.f hc (.f f1 (.f f2 (.f (mz_ d_si Hx0) (T 8 (.h 18 (.rowD (d_si x0)) (.r 20 [] [] (e101 (a0:=x0.f1)) r)))))))
    by_cases h_1:(!(m105 x0.f1 0 1000000))=true
    · try simp only[if_pos h_1]
      have st:=ch b125_1 (h125_1 l0_0 l1_0 a0 a1 c0_125_1 (length p:Int)) ⟨[(6,(.one (.ref ⟨(6,0,0),[],0,(length (map d_si c0_125_1))⟩))),(4,(.one (.nl 2))),(5,(.oi 7))],[((6,0,0),.live ⟨2,(map d_si c0_125_1),[]⟩)]⟩ .ret 28 (by kernel_rfl) (P1 (.f h_1 (T 23 .nil)))
      rw[show (⟨[(6,(.one (.ref ⟨(6,0,0),[],0,(length (map d_si c0_125_1))⟩))),(4,(.one (.nl 2))),(5,(.oi 7))],[((6,0,0),.live ⟨2,(map d_si c0_125_1),[]⟩)]⟩:St)=fin125_1 l0_0 l1_0 a0 a1 c0_125_1 (.k1) from(by rfl)] at st
      exact .loopX st (show (.ret:VX.Exit)≠.normal from by simp)
    try simp only[if_neg h_1]
    have st:=ch b125_1 (h125_1 l0_0 l1_0 a0 a1 c0_125_1 (length p:Int)) ⟨[(6,(.one (.ref ⟨(6,0,0),[],0,(length (map d_si c0_125_1))⟩))),(9,(.oi (wrap .i64 ((length p:Int)+1))))],[((6,0,0),.live ⟨2,(map d_si c0_125_1),[]⟩)]⟩ .normal 30 (by kernel_rfl) (P1 (.f (nt h_1) (.f trivial (U 23 .nil))))
    have ih:=t125_1 (l0_0:=l0_0) (l1_0:=l1_0) (a0:=a0) (a1:=a1) (c0_125_1:=c0_125_1) hy0 hy1 hy2 y0 (p++ [x0]) (by rw[append_assoc]; exact hp0)
    rw[show ((p++ [x0]).length:Int)=(p.length:Int)+1 from by simp] at ih
    rw[show (⟨[(6,(.one (.ref ⟨(6,0,0),[],0,(length (map d_si c0_125_1))⟩))),(9,(.oi (wrap .i64 ((length p:Int)+1))))],[((6,0,0),.live ⟨2,(map d_si c0_125_1),[]⟩)]⟩:St)=h125_1 l0_0 l1_0 a0 a1 c0_125_1 ((length p:Int)+1)  from(by unfold h125_1; simp only[hw]; done)] at st
    exact .loopN st ih
def m125_0 (a0:(List K_si)) (a1:(List K_si)):(List K_si):=
  (match r125_0 a1 a1 0 (([])++a0) with | .k0 w0_1 w1_1 w2_1=>(if(decide (((length (map d_si w0_1)):Int) > 8))=true then[] else(match r125_1 w0_1 w0_1 0 with | .k0 w0_3 w1_3=>w0_1 | .k1=>[])))
def m125_1 (a0:(List K_si)) (a1:(List K_si)):Int:=
  (match r125_0 a1 a1 0 (([])++a0) with | .k0 w0_1 w1_1 w2_1=>(if(decide (((length (map d_si w0_1)):Int) > 8))=true then 10 else(match r125_1 w0_1 w0_1 0 with | .k0 w0_3 w1_3=>0 | .k1=>7)))
theorem e125 {l0_0:Nat} {a0:(List K_si)} {l1_0:Nat} {a1:(List K_si)} (hy0:length a0≤100) (hy1:length a1≤100):Ev F X (.call 125 [(.one (.bor l0_0 (map b_si a0))),(.one (.bor l1_0 (map b_si a1)))] [] [] [(.one (.own 2 (map d_si (m125_0 a0 a1)))),(.one (.val (.int .i64 (m125_1 a0 a1))))]):=by
  unfold m125_0 m125_1
  have P0 {hs q} (r:PS F X hs q):=(PS.r 7 [] [] (e137 (l0_0:=(l0_0+1)) (a0:=a0) yb) r)
  cases h0:r125_0 a1 a1 0 (([])++a0) with
  |k0 w0_1 w1_1 w2_1=>
    try dsimp only
    have f1:(⟨[(1,(.one (.bor l1_0 (map b_si a1)))),(6,(.one (.ref ⟨(6,0,0),[],0,(length (map d_si (([])++a0)))⟩))),(7,(.oi 0))],[((6,0,0),.live ⟨2,(map d_si (([])++a0)),[]⟩)]⟩:St)=h125_0 l0_0 l1_0 a0 a1 0 (([])++a0):=yv
    have P1 {hs q} (r:PS F X hs q):=(P0 (.f f1 (.f (ev_ (e:=ex125_0) (g:=(fin125_0 l0_0 l1_0 a0 a1)) h0 (t125_0 (l0_0:=l0_0) (l1_0:=l1_0) (a0:=a0) (a1:=a1) (by assumption) (by assumption) a1 [] (([])++a0) rfl yw)) (.h 12 (.loop (h125_0 l0_0 l1_0 a0 a1 0 (([])++a0)) (.exit 0) ⟨[(1,(.one (.bor l1_0 (map b_si a1)))),(6,(.one (.ref ⟨(6,0,0),[],0,(length (map d_si w0_1))⟩))),(7,(.oi w1_1)),(15,(.one (.val (.bool w2_1))))],[((6,0,0),.live ⟨2,(map d_si w0_1),[]⟩)]⟩) r))))
    by_cases h1:(decide (((length (map d_si w0_1)):Int) > 8))=true
    · try simp only[if_pos h1]
      have f4:pureR []=true:=yA
      exact cp ya (P1 (.f h1 (.f f4 (T 19 .nil))))
    try simp only[if_neg h1]
    cases h2:r125_1 w0_1 w0_1 0 with
    |k0 w0_3 w1_3=>
      try dsimp only
      have f4:(⟨[(6,(.one (.ref ⟨(6,0,0),[],0,(length (map d_si w0_1))⟩))),(9,(.oi 0))],[((6,0,0),.live ⟨2,(map d_si w0_1),[]⟩)]⟩:St)=h125_1 l0_0 l1_0 a0 a1 w0_1 0 :=yv
      exact cp ya (P1 (N h1 (.f f4 (.f (ev_ (e:=ex125_1) (g:=(fin125_1 l0_0 l1_0 a0 a1 w0_1)) h2 (t125_1 (l0_0:=l0_0) (l1_0:=l1_0) (a0:=a0) (a1:=a1) (c0_125_1:=w0_1) (by assumption) (by assumption) yab w0_1 []  rfl)) (pe 0 (pe (length (map d_si w0_1)) (.f (pureR_si w0_1) (U 19 (.h 22 (.loop (h125_1 l0_0 l1_0 a0 a1 w0_1 0) (.exit 2) ⟨[(6,(.one (.ref ⟨(6,0,0),[],0,(length (map d_si w0_1))⟩))),(9,(.oi w0_3)),(55,(.one (.val (.bool w1_3))))],[((6,0,0),.live ⟨2,(map d_si w0_1),[]⟩)]⟩) .nil)))))))))
    |k1=>
      try dsimp only
      have f4:(⟨[(6,(.one (.ref ⟨(6,0,0),[],0,(length (map d_si w0_1))⟩))),(9,(.oi 0))],[((6,0,0),.live ⟨2,(map d_si w0_1),[]⟩)]⟩:St)=h125_1 l0_0 l1_0 a0 a1 w0_1 0 :=yv
      have f6:pureR []=true:=yA
      exact cp ya (P1 (N h1 (.f f4 (.f (ev_ (e:=ex125_1) (g:=(fin125_1 l0_0 l1_0 a0 a1 w0_1)) h2 (t125_1 (l0_0:=l0_0) (l1_0:=l1_0) (a0:=a0) (a1:=a1) (c0_125_1:=w0_1) (by assumption) (by assumption) yab w0_1 []  rfl)) (.f f6 (U 19 (.h 22 (.loop (h125_1 l0_0 l1_0 a0 a1 w0_1 0) .ret ⟨[(6,(.one (.ref ⟨(6,0,0),[],0,(length (map d_si w0_1))⟩))),(4,(.one (.nl 2))),(5,(.oi 7))],[((6,0,0),.live ⟨2,(map d_si w0_1),[]⟩)]⟩) .nil)))))))
theorem ad8 (a b:List K_si):(m125_0 a b).length≤8:=by
  unfold m125_0
  cases h0:r125_0 b b 0 (([])++a) with
  |k0 w i c=>
    simp only[]
    split
    · simp
    rename_i h1
    cases r125_1 w w 0 with
    |k0 u v=>simp only[decide_eq_true_eq,length_map] at h1; simp only[]; omega
    |k1=>simp
theorem asz_r (a:List K_si):∀(l:List K_si) (i:Int) (v:List K_si),(∀z∈l,ByteArray.size z.f0≤3)→(∀z∈v,ByteArray.size z.f0≤3)→∀w j b,r125_0 a l i v=.k0 w j b→∀z∈w,ByteArray.size z.f0≤3
  |[],i,v,_,hv,w,j,b,e=>by
    simp only[r125_0] at e
    injection e with e0 e1 e2
    subst e0; exact hv
  |x::l,i,v,hl,hv,w,j,b,e=>by
    have hl':∀z∈l,ByteArray.size z.f0≤3:=fun z hz=>hl z (List.mem_cons_of_mem _ hz)
    simp only[r125_0] at e
    split at e
    · exact asz_r a l _ _ hl' yaB w j b e
    exact asz_r a l _ _ hl' yat w j b e
theorem adG {a b:List K_si} (h:∀z∈a,ByteArray.size z.f0≤3) (hb:∀z∈b,ByteArray.size z.f0≤3):GP 8 (m125_0 a b):=by
  refine⟨ad8 a b,?_⟩
  unfold m125_0
  cases e:r125_0 b b 0 (([])++a) with
  |k0 w j c=>
    simp only[]
    have hw:=asz_r b b 0 _ hb (by simpa using h) w j c e
    split
    · intro z hz; cases hz
    cases r125_1 w w 0 with
    |k0 u v=>exact hw
    |k1=>intro z hz; cases hz
def m78 (a0:K_B) (a1:Int):K_C:=
  if(decide ((m124 a0.f3 a1) < 0))=true then(K_C.mk 4 0 0 0 ([]) ([]) ([]) 0 0 0) else
  if(((getD a0.f3 (toNat (m124 a0.f3 a1)) (K_R.mk 0 0 0 [] 0)).f4) !=1)=true then(K_C.mk 9 0 0 0 ([]) ([]) ([]) 0 0 0) else
    if((m125_1 a0.f4 ((getD a0.f3 (toNat (m124 a0.f3 a1)) (K_R.mk 0 0 0 [] 0)).f3)) !=0)=true then(K_C.mk (m125_1 a0.f4 ((getD a0.f3 (toNat (m124 a0.f3 a1)) (K_R.mk 0 0 0 [] 0)).f3)) 0 0 0 ([]) ([]) ([]) 0 0 0) else
      if(!(m105 (wrap .i64 (a0.f6+((getD a0.f3 (toNat (m124 a0.f3 a1)) (K_R.mk 0 0 0 [] 0)).f2))) 0 1000000))=true then(K_C.mk 7 0 0 0 ([]) ([]) ([]) 0 0 0) else
        (K_C.mk 0 0 ((m103 a0).f0) ((m103 a0).f1) ((m103 a0).f2) (set ((m103 a0).f3) (toNat (m124 a0.f3 a1)) (K_R.mk ((getD ((m103 a0).f3) (toNat (m124 a0.f3 a1)) (K_R.mk 0 0 0 [] 0)).f0) ((getD ((m103 a0).f3) (toNat (m124 a0.f3 a1)) (K_R.mk 0 0 0 [] 0)).f1) ((getD ((m103 a0).f3) (toNat (m124 a0.f3 a1)) (K_R.mk 0 0 0 [] 0)).f2) ((getD ((m103 a0).f3) (toNat (m124 a0.f3 a1)) (K_R.mk 0 0 0 [] 0)).f3) 2)) (m125_0 a0.f4 ((getD a0.f3 (toNat (m124 a0.f3 a1)) (K_R.mk 0 0 0 [] 0)).f3)) ((m103 a0).f5) (wrap .i64 (a0.f6+((getD a0.f3 (toNat (m124 a0.f3 a1)) (K_R.mk 0 0 0 [] 0)).f2))) ((m103 a0).f7))
theorem e78 {l0_2:Nat} {l0_3:Nat} {l0_4:Nat} {a0:K_B} {a1:Int} (hy0:length a0.f2≤100) (hy1:length a0.f3≤100) (hy2:∀z∈a0.f3,length z.f3≤100) (hy3:length a0.f4≤100) (hy4:∀z∈a0.f3,ok_R z):Ev F X (.call 78 [(.agg (k_B l0_2 l0_3 l0_4 a0)),(.one (.val (.int .i64 a1)))] [] [] [(.agg (d_C (m78 a0 a1)))]):=by
  unfold m78
  have P0 {hs q} (r:PS F X hs q):=(PS.r 11 [] [] (e124 (l0_0:=(l0_3+1)) (a0:=a0.f3) (a1:=a1) yb ‹_›) r)
  by_cases h0:(decide ((m124 a0.f3 a1) < 0))=true
  · try simp only[if_pos h0]
    exact cp ya (P0 (.f h0 (T 18 (.r 20 [] [] (e52 (a0:=4)) (p3 ([]) ([]) ([]) (.f (pureR_si ([])) (.f (pureR_R ([])) (.f (pureR_si ([])) .nil))))))))
  try simp only[if_neg h0]
  have f2:0≤(m124 a0.f3 a1):=yR
  have P1 {hs q} (r:PS F X hs q):=(P0 (N h0 (.f f2 (.f (mp_ b_R (getD_at a0.f3 (toNat (m124 a0.f3 a1)) (K_R.mk 0 0 0 [] 0) yR)) (U 18 (.h 26 (.row (b_R (getD a0.f3 (toNat (m124 a0.f3 a1)) (K_R.mk 0 0 0 [] 0)))) r))))))
  by_cases h1:(((getD a0.f3 (toNat (m124 a0.f3 a1)) (K_R.mk 0 0 0 [] 0)).f4) !=1)=true
  · try simp only[if_pos h1]
    exact cp ya (P1 (.f h1 (T 39 (.r 41 [] [] (e52 (a0:=9)) (p3 ([]) ([]) ([]) (.f (pureR_si ([])) (.f (pureR_R ([])) (.f (pureR_si ([])) .nil))))))))
  try simp only[if_neg h1]
  have P2 {hs q} (r:PS F X hs q):=(P1 (N h1 (U 39 (.r 53 [] [] (e125 (l0_0:=(l0_4+1)) (l1_0:=(l0_3+1)) (a0:=a0.f4) (a1:=((getD a0.f3 (toNat (m124 a0.f3 a1)) (K_R.mk 0 0 0 [] 0)).f3)) ‹_› (by exact og100 ‹_› _)) r))))
  by_cases h2:((m125_1 a0.f4 ((getD a0.f3 (toNat (m124 a0.f3 a1)) (K_R.mk 0 0 0 [] 0)).f3)) !=0)=true
  · try simp only[if_pos h2]
    exact cp ya (P2 (.f h2 (T 68 (.r 72 [] [] (e52 (a0:=(m125_1 a0.f4 ((getD a0.f3 (toNat (m124 a0.f3 a1)) (K_R.mk 0 0 0 [] 0)).f3)))) (p3 ([]) ([]) ([]) (.f (pureR_si ([])) (.f (pureR_R ([])) (.f (pureR_si ([])) .nil))))))))
  try simp only[if_neg h2]
  have P3 {hs q} (r:PS F X hs q):=(P2 (N h2 (.f trivial (U 68 (.r 84 [] [] (e101 (a0:=(wrap .i64 (a0.f6+((getD a0.f3 (toNat (m124 a0.f3 a1)) (K_R.mk 0 0 0 [] 0)).f2))))) r)))))
  by_cases h3:(!(m105 (wrap .i64 (a0.f6+((getD a0.f3 (toNat (m124 a0.f3 a1)) (K_R.mk 0 0 0 [] 0)).f2))) 0 1000000))=true
  · try simp only[if_pos h3]
    exact cp ya (P3 (.f h3 (T 87 (.r 89 [] [] (e52 (a0:=7)) (p3 ([]) ([]) ([]) (.f (pureR_si ([])) (.f (pureR_R ([])) (.f (pureR_si ([])) .nil))))))))
  try simp only[if_neg h3]
  have f17:0+(length (map d_R ((m103 a0).f3)))≤(length (map d_R ((m103 a0).f3))):=yb
  have f18:0≤(m124 a0.f3 a1)∧(m124 a0.f3 a1) <((length (map d_R ((m103 a0).f3))):Int):=yz
  have f20:([[(.i ((m103 a0).f0)),(.i ((m103 a0).f1)),(.own 2 (map d_si ((m103 a0).f2))),(.own 5 (set (map d_R ((m103 a0).f3)) (0+(toNat (m124 a0.f3 a1))) [(.i ((getD ((m103 a0).f3) (toNat (m124 a0.f3 a1)) (K_R.mk 0 0 0 [] 0)).f0)),(.i ((getD ((m103 a0).f3) (toNat (m124 a0.f3 a1)) (K_R.mk 0 0 0 [] 0)).f1)),(.i ((getD ((m103 a0).f3) (toNat (m124 a0.f3 a1)) (K_R.mk 0 0 0 [] 0)).f2)),(.own 2 (map d_si ((getD ((m103 a0).f3) (toNat (m124 a0.f3 a1)) (K_R.mk 0 0 0 [] 0)).f3))),(.i 2)])),(.own 2 (map d_si ((m103 a0).f4))),(.i ((m103 a0).f5)),(.i ((m103 a0).f6)),(.i ((m103 a0).f7))]]:List (List D))=[[(.i ((m103 a0).f0)),(.i ((m103 a0).f1)),(.own 2 (map d_si ((m103 a0).f2))),(.own 5 (map d_R (set ((m103 a0).f3) (toNat (m124 a0.f3 a1)) (K_R.mk ((getD ((m103 a0).f3) (toNat (m124 a0.f3 a1)) (K_R.mk 0 0 0 [] 0)).f0) ((getD ((m103 a0).f3) (toNat (m124 a0.f3 a1)) (K_R.mk 0 0 0 [] 0)).f1) ((getD ((m103 a0).f3) (toNat (m124 a0.f3 a1)) (K_R.mk 0 0 0 [] 0)).f2) ((getD ((m103 a0).f3) (toNat (m124 a0.f3 a1)) (K_R.mk 0 0 0 [] 0)).f3) 2)))),(.own 2 (map d_si ((m103 a0).f4))),(.i ((m103 a0).f5)),(.i ((m103 a0).f6)),(.i ((m103 a0).f7))]]:=yN
  exact cp ya (P3 (N h3 (U 87 (.r 91 [] [] (e103 (l0_2:=(l0_2+1)) (l0_3:=(l0_3+1)) (l0_4:=(l0_4+1)) (a0:=a0) ‹_› ‹_› ‹_› ‹_› ‹_›) (p3 ((m103 a0).f2) ((m103 a0).f3) ((m103 a0).f4) (.f f17 (.f f18 (.f (mz_ d_R (getD_at ((m103 a0).f3) (toNat (m124 a0.f3 a1)) (K_R.mk 0 0 0 [] 0) yz)) (.f f20 (.f trivial (pe 0 (pe (length (map d_si (m125_0 a0.f4 ((getD a0.f3 (toNat (m124 a0.f3 a1)) (K_R.mk 0 0 0 [] 0)).f3)))) (p3 ((m103 a0).f2) (set ((m103 a0).f3) (toNat (m124 a0.f3 a1)) (K_R.mk ((getD ((m103 a0).f3) (toNat (m124 a0.f3 a1)) (K_R.mk 0 0 0 [] 0)).f0) ((getD ((m103 a0).f3) (toNat (m124 a0.f3 a1)) (K_R.mk 0 0 0 [] 0)).f1) ((getD ((m103 a0).f3) (toNat (m124 a0.f3 a1)) (K_R.mk 0 0 0 [] 0)).f2) ((getD ((m103 a0).f3) (toNat (m124 a0.f3 a1)) (K_R.mk 0 0 0 [] 0)).f3) 2)) (m125_0 a0.f4 ((getD a0.f3 (toNat (m124 a0.f3 a1)) (K_R.mk 0 0 0 [] 0)).f3)) (.f (pureR_si ((m103 a0).f2)) (.f (pureR_R (set ((m103 a0).f3) (toNat (m124 a0.f3 a1)) (K_R.mk ((getD ((m103 a0).f3) (toNat (m124 a0.f3 a1)) (K_R.mk 0 0 0 [] 0)).f0) ((getD ((m103 a0).f3) (toNat (m124 a0.f3 a1)) (K_R.mk 0 0 0 [] 0)).f1) ((getD ((m103 a0).f3) (toNat (m124 a0.f3 a1)) (K_R.mk 0 0 0 [] 0)).f2) ((getD ((m103 a0).f3) (toNat (m124 a0.f3 a1)) (K_R.mk 0 0 0 [] 0)).f3) 2))) (.f (pureR_si (m125_0 a0.f4 ((getD a0.f3 (toNat (m124 a0.f3 a1)) (K_R.mk 0 0 0 [] 0)).f3))) (.h 107 (.rowD (d_R (getD ((m103 a0).f3) (toNat (m124 a0.f3 a1)) (K_R.mk 0 0 0 [] 0)))) (.h 108 (.norm (9,0,0) [[(.i ((m103 a0).f0)),(.i ((m103 a0).f1)),(.own 2 (map d_si ((m103 a0).f2))),(.own 5 (map d_R (set ((m103 a0).f3) (toNat (m124 a0.f3 a1)) (K_R.mk ((getD ((m103 a0).f3) (toNat (m124 a0.f3 a1)) (K_R.mk 0 0 0 [] 0)).f0) ((getD ((m103 a0).f3) (toNat (m124 a0.f3 a1)) (K_R.mk 0 0 0 [] 0)).f1) ((getD ((m103 a0).f3) (toNat (m124 a0.f3 a1)) (K_R.mk 0 0 0 [] 0)).f2) ((getD ((m103 a0).f3) (toNat (m124 a0.f3 a1)) (K_R.mk 0 0 0 [] 0)).f3) 2)))),(.own 2 (map d_si ((m103 a0).f4))),(.i ((m103 a0).f5)),(.i ((m103 a0).f6)),(.i ((m103 a0).f7))]]) .nil))))))))))))))))))
theorem riG {a:K_B} {i:Int} (h:GL a) (hc:¬((m78 a i).f0 !=0)=true):GL (K_B.mk (m78 a i).f2 (m78 a i).f3 (m78 a i).f4 (m78 a i).f5 (m78 a i).f6 (m78 a i).f7 (m78 a i).f8 (m78 a i).f9):=by
  obtain⟨h1,h2,h3,h4,h5⟩:=h
  generalize hr:m78 a i=r at hc⊢
  unfold m78 at hr
  simp only[cp103] at hr
  (repeat' split at hr)<;>subst hr<;>first
    |(exfalso; simp at hc; done)
    |exact absurd (by assumption) hc
    |exact⟨h1,h2,h3,gr_set h4 (gr_get h4 _),adG h5.2 (gr_get h4 _).2⟩
inductive O100_0 where
  |k0 (w0:Int) (w1:Int) (w2:Bool)
def r100_0 (a0:(List K_R)) (a1:Bool):List K_R→Int→Int→O100_0
  |x0::y0,i,v0=>
    if(!a1)=true then(r100_0 a0 a1 y0 (i+1) (wrap .i64 (v0+x0.f1))) else
    if(x0.f4==2)=true then(r100_0 a0 a1 y0 (i+1) (wrap .i64 (v0+x0.f1))) else
      (r100_0 a0 a1 y0 (i+1) v0)
  |[],i,v0=>(O100_0.k0 v0 i (decide (i <((length (map b_R a0)):Int))))
def h100_0 (l0_0:Nat) (a0:(List K_R)) (a1:Bool) (i:Int) (v0:Int):St:=⟨[(0,(.one (.bor l0_0 (map b_R a0)))),(1,(.one (.val (.bool a1)))),(5,(.one (.val (.int .i64 v0)))),(6,(.one (.val (.int .i64 i))))],[]⟩
def ex100_0:O100_0→VX.Exit
  |.k0 _ _ _=>(.exit 0)
def fin100_0 (l0_0:Nat) (a0:(List K_R)) (a1:Bool):O100_0→St
  |.k0 w0 w1 w2=>⟨[(0,(.one (.bor l0_0 (map b_R a0)))),(1,(.one (.val (.bool a1)))),(5,(.one (.val (.int .i64 w0)))),(6,(.one (.val (.int .i64 w1)))),(10,(.one (.val (.bool w2))))],[]⟩
theorem t100_0 {l0_0:Nat} {a0:(List K_R)} {a1:Bool} (hy0:length a0*56≤140737488351232) (hy1:∀z∈a0,ok_R z):∀(y0:List K_R) (p:List K_R) (v0:Int),p++y0=a0→Ev F X (.code l100_0 (h100_0 l0_0 a0 a1 (length p:Int) v0) (ex100_0 (r100_0 a0 a1 y0 (length p:Int) v0)) (fin100_0 l0_0 a0 a1 (r100_0 a0 a1 y0 (length p:Int) v0)))
  |[],p,v0,hp0=>by
    have hc:¬(decide ((length p:Int) <((length (map b_R a0)):Int)))=true:=by
      rw[← hp0]; simp only[LN,decide_eq_true_eq]; omega
    have st:=ch b100_0 (h100_0 l0_0 a0 a1 (length p:Int) v0) ⟨[(0,(.one (.bor l0_0 (map b_R a0)))),(1,(.one (.val (.bool a1)))),(5,(.oi v0)),(6,(.oi (length p:Int))),(10,(.one (.val (.bool (decide ((length p:Int) <((length (map b_R a0)):Int)))))))],[]⟩ (.exit 0) 9 (by kernel_rfl) (.f (nt hc) (U 8 .nil))
    rw[show (⟨[(0,(.one (.bor l0_0 (map b_R a0)))),(1,(.one (.val (.bool a1)))),(5,(.oi v0)),(6,(.oi (length p:Int))),(10,(.one (.val (.bool (decide ((length p:Int) <((length (map b_R a0)):Int)))))))],[]⟩:St)=fin100_0 l0_0 a0 a1 (.k0 v0 (length p:Int) (decide ((length p:Int) <((length (map b_R a0)):Int)))) from(by rfl)] at st
    exact .loopX st (show ((.exit 0):VX.Exit)≠.normal from by simp)
  |x0::y0,p,v0,hp0=>by
    have hc:(decide ((length p:Int) <((length (map b_R a0)):Int)))=true:=by
      rw[← hp0]; simp only[LN,decide_eq_true_eq]; omega
    have Hx0:(a0)[toNat (length p:Int)]?=some x0:=by
      rw[← hp0,Int.toNat_natCast]; simp
    have Mx0_0:=hy1 x0 (List.mem_of_getElem? Hx0)
    have hlen:length (a0)=length p+length y0+1:=by rw[← hp0]; simp; omega
    have hw:wrap .i64 ((length p:Int)+1)=(length p:Int)+1:=wrap64 (by omega)
    simp only[r100_0]
    by_cases h_1:(!a1)=true
    · try simp only[if_pos h_1]
      have f8:0≤(length p:Int):=(by omega)
      have st:=ch b100_0 (h100_0 l0_0 a0 a1 (length p:Int) v0) ⟨[(0,(.one (.bor l0_0 (map b_R a0)))),(1,(.one (.val (.bool a1)))),(5,(.oi (wrap .i64 (v0+x0.f1)))),(6,(.oi (wrap .i64 ((length p:Int)+1))))],[]⟩ .normal 52 (by kernel_rfl) (.f hc (.f h_1 (.f h_1 (.f h_1 (.f h_1 (.f h_1 (.f h_1 (.f h_1 (.f f8 (.f (mp_ b_R Hx0) (.f trivial (.f trivial (T 8 (T 15 (T 17 (T 19 (T 21 (T 23 (T 25 (T 28 (.h 37 (.row (b_R x0)) .nil)))))))))))))))))))))
      have ih:=t100_0 (l0_0:=l0_0) (a0:=a0) (a1:=a1) hy0 hy1 y0 (p++ [x0]) (wrap .i64 (v0+x0.f1)) (by rw[append_assoc]; exact hp0)
      rw[show ((p++ [x0]).length:Int)=(p.length:Int)+1 from by simp] at ih
      rw[show (⟨[(0,(.one (.bor l0_0 (map b_R a0)))),(1,(.one (.val (.bool a1)))),(5,(.oi (wrap .i64 (v0+x0.f1)))),(6,(.oi (wrap .i64 ((length p:Int)+1))))],[]⟩:St)=h100_0 l0_0 a0 a1 ((length p:Int)+1) (wrap .i64 (v0+x0.f1)) from(by unfold h100_0; simp only[hw]; done)] at st
      exact .loopN st ih
    try simp only[if_neg h_1]
    have f4:0≤(length p:Int):=(by omega)
    have P2 {hs q} (r:PS F X hs q):=(PS.f hc (.f (nt h_1) (.f (nt h_1) (.f (nt h_1) (.f f4 (.f (mp_ b_R Hx0) (.f (nt h_1) (.f (nt h_1) (.f (nt h_1) (.f (nt h_1) (T 8 (U 15 (U 17 (U 19 (.h 20 (.row (b_R x0)) (U 21 (U 23 (U 25 (U 28 r)))))))))))))))))))
    by_cases h_2:(x0.f4==2)=true
    · try simp only[if_pos h_2]
      have st:=ch b100_0 (h100_0 l0_0 a0 a1 (length p:Int) v0) ⟨[(0,(.one (.bor l0_0 (map b_R a0)))),(1,(.one (.val (.bool a1)))),(5,(.oi (wrap .i64 (v0+x0.f1)))),(6,(.oi (wrap .i64 ((length p:Int)+1))))],[]⟩ .normal 52 (by kernel_rfl) (P2 (.f h_2 (.f f4 (.f (mp_ b_R Hx0) (.f trivial (.f trivial (T 29 (.h 37 (.row (b_R x0)) .nil))))))))
      have ih:=t100_0 (l0_0:=l0_0) (a0:=a0) (a1:=a1) hy0 hy1 y0 (p++ [x0]) (wrap .i64 (v0+x0.f1)) (by rw[append_assoc]; exact hp0)
      rw[show ((p++ [x0]).length:Int)=(p.length:Int)+1 from by simp] at ih
      rw[show (⟨[(0,(.one (.bor l0_0 (map b_R a0)))),(1,(.one (.val (.bool a1)))),(5,(.oi (wrap .i64 (v0+x0.f1)))),(6,(.oi (wrap .i64 ((length p:Int)+1))))],[]⟩:St)=h100_0 l0_0 a0 a1 ((length p:Int)+1) (wrap .i64 (v0+x0.f1)) from(by unfold h100_0; simp only[hw]; done)] at st
      exact .loopN st ih
    try simp only[if_neg h_2]
    have st:=ch b100_0 (h100_0 l0_0 a0 a1 (length p:Int) v0) ⟨[(0,(.one (.bor l0_0 (map b_R a0)))),(1,(.one (.val (.bool a1)))),(5,(.oi v0)),(6,(.oi (wrap .i64 ((length p:Int)+1))))],[]⟩ .normal 36 (by kernel_rfl) (P2 (.f (nt h_2) (.f trivial (U 29 .nil))))
    have ih:=t100_0 (l0_0:=l0_0) (a0:=a0) (a1:=a1) hy0 hy1 y0 (p++ [x0]) v0 (by rw[append_assoc]; exact hp0)
    rw[show ((p++ [x0]).length:Int)=(p.length:Int)+1 from by simp] at ih
    rw[show (⟨[(0,(.one (.bor l0_0 (map b_R a0)))),(1,(.one (.val (.bool a1)))),(5,(.oi v0)),(6,(.oi (wrap .i64 ((length p:Int)+1))))],[]⟩:St)=h100_0 l0_0 a0 a1 ((length p:Int)+1) v0 from(by unfold h100_0; simp only[hw]; done)] at st
    exact .loopN st ih
def m100 (a0:(List K_R)) (a1:Bool):Int:=
  (match r100_0 a0 a1 a0 0 0 with | .k0 w0_0 w1_0 w2_0=>w0_0)
theorem e100 {l0_0:Nat} {a0:(List K_R)} {a1:Bool} (hy0:length a0*56≤140737488351232) (hy1:∀z∈a0,ok_R z):Ev F X (.call 100 [(.one (.bor l0_0 (map b_R a0))),(.one (.val (.bool a1)))] [] [] [(.one (.val (.int .i64 (m100 a0 a1))))]):=by
  unfold m100
  cases h0:r100_0 a0 a1 a0 0 0 with
  |k0 w0_0 w1_0 w2_0=>
    try dsimp only
    have f0:(⟨[(0,(.one (.bor l0_0 (map b_R a0)))),(1,(.one (.val (.bool a1)))),(5,(.oi 0)),(6,(.oi 0))],[]⟩:St)=h100_0 l0_0 a0 a1 0 0:=yv
    exact cp ya (.f f0 (.f (ev_ (e:=ex100_0) (g:=(fin100_0 l0_0 a0 a1)) h0 (t100_0 (l0_0:=l0_0) (a0:=a0) (a1:=a1) (by assumption) (by assumption) a0 [] 0 rfl)) (.h 6 (.loop (h100_0 l0_0 a0 a1 0 0) (.exit 0) ⟨[(0,(.one (.bor l0_0 (map b_R a0)))),(1,(.one (.val (.bool a1)))),(5,(.oi w0_0)),(6,(.oi w1_0)),(10,(.one (.val (.bool w2_0))))],[]⟩) .nil)))
theorem e116 {a0:Int}:Ev F X (.call 116 [(.one (.val (.int .i64 a0)))] [] [] [(.one (.val (.bool (m105 a0 0 2147483646))))]):=by
  exact cp ya (.r 5 [] [] (e105 (a0:=a0) (a1:=0) (a2:=2147483646)) .nil)
inductive O99_0 where
  |k0 (w0:Int) (w1:Int) (w2:Bool)
def r99_0 (a0:(List K_si)):List K_si→Int→Int→O99_0
  |x0::y0,i,v0=>
    (r99_0 a0 y0 (i+1) (wrap .i64 (v0+x0.f1)))
  |[],i,v0=>(O99_0.k0 v0 i (decide (i <((length (map b_si a0)):Int))))
def h99_0 (l0_0:Nat) (a0:(List K_si)) (i:Int) (v0:Int):St:=⟨[(0,(.one (.bor l0_0 (map b_si a0)))),(3,(.one (.val (.int .i64 v0)))),(4,(.one (.val (.int .i64 i))))],[]⟩
def ex99_0:O99_0→VX.Exit
  |.k0 _ _ _=>(.exit 0)
def fin99_0 (l0_0:Nat) (a0:(List K_si)):O99_0→St
  |.k0 w0 w1 w2=>⟨[(0,(.one (.bor l0_0 (map b_si a0)))),(3,(.one (.val (.int .i64 w0)))),(4,(.one (.val (.int .i64 w1)))),(8,(.one (.val (.bool w2))))],[]⟩
theorem t99_0 {l0_0:Nat} {a0:(List K_si)} (hy0:length a0*24≤140737488351232):∀(y0:List K_si) (p:List K_si) (v0:Int),p++y0=a0→Ev F X (.code l99_0 (h99_0 l0_0 a0 (length p:Int) v0) (ex99_0 (r99_0 a0 y0 (length p:Int) v0)) (fin99_0 l0_0 a0 (r99_0 a0 y0 (length p:Int) v0)))
  |[],p,v0,hp0=>by
    have hc:¬(decide ((length p:Int) <((length (map b_si a0)):Int)))=true:=by
      rw[← hp0]; simp only[LN,decide_eq_true_eq]; omega
    have st:=ch b99_0 (h99_0 l0_0 a0 (length p:Int) v0) ⟨[(0,(.one (.bor l0_0 (map b_si a0)))),(3,(.oi v0)),(4,(.oi (length p:Int))),(8,(.one (.val (.bool (decide ((length p:Int) <((length (map b_si a0)):Int)))))))],[]⟩ (.exit 0) 9 (by kernel_rfl) (.f (nt hc) (U 8 .nil))
    rw[show (⟨[(0,(.one (.bor l0_0 (map b_si a0)))),(3,(.oi v0)),(4,(.oi (length p:Int))),(8,(.one (.val (.bool (decide ((length p:Int) <((length (map b_si a0)):Int)))))))],[]⟩:St)=fin99_0 l0_0 a0 (.k0 v0 (length p:Int) (decide ((length p:Int) <((length (map b_si a0)):Int)))) from(by rfl)] at st
    exact .loopX st (show ((.exit 0):VX.Exit)≠.normal from by simp)
  |x0::y0,p,v0,hp0=>by
    have hc:(decide ((length p:Int) <((length (map b_si a0)):Int)))=true:=by
      rw[← hp0]; simp only[LN,decide_eq_true_eq]; omega
    have Hx0:(a0)[toNat (length p:Int)]?=some x0:=by
      rw[← hp0,Int.toNat_natCast]; simp
    have hlen:length (a0)=length p+length y0+1:=by rw[← hp0]; simp; omega
    have hw:wrap .i64 ((length p:Int)+1)=(length p:Int)+1:=wrap64 (by omega)
    simp only[r99_0]
    have f1:0≤(length p:Int):=(by omega)
    have st:=ch b99_0 (h99_0 l0_0 a0 (length p:Int) v0) ⟨[(0,(.one (.bor l0_0 (map b_si a0)))),(3,(.oi (wrap .i64 (v0+x0.f1)))),(4,(.oi (wrap .i64 ((length p:Int)+1))))],[]⟩ .normal 31 (by kernel_rfl) (.f hc (.f f1 (.f (mp_ b_si Hx0) (.f trivial (.f trivial (T 8 (.h 16 (.row (b_si x0)) .nil)))))))
    have ih:=t99_0 (l0_0:=l0_0) (a0:=a0) hy0 y0 (p++ [x0]) (wrap .i64 (v0+x0.f1)) (by rw[append_assoc]; exact hp0)
    rw[show ((p++ [x0]).length:Int)=(p.length:Int)+1 from by simp] at ih
    rw[show (⟨[(0,(.one (.bor l0_0 (map b_si a0)))),(3,(.oi (wrap .i64 (v0+x0.f1)))),(4,(.oi (wrap .i64 ((length p:Int)+1))))],[]⟩:St)=h99_0 l0_0 a0 ((length p:Int)+1) (wrap .i64 (v0+x0.f1)) from(by unfold h99_0; simp only[hw]; done)] at st
    exact .loopN st ih
def m99 (a0:(List K_si)):Int:=
  (match r99_0 a0 a0 0 0 with | .k0 w0_0 w1_0 w2_0=>w0_0)
theorem e99 {l0_0:Nat} {a0:(List K_si)} (hy0:length a0*24≤140737488351232):Ev F X (.call 99 [(.one (.bor l0_0 (map b_si a0)))] [] [] [(.one (.val (.int .i64 (m99 a0))))]):=by
  unfold m99
  cases h0:r99_0 a0 a0 0 0 with
  |k0 w0_0 w1_0 w2_0=>
    try dsimp only
    have f0:(⟨[(0,(.one (.bor l0_0 (map b_si a0)))),(3,(.oi 0)),(4,(.oi 0))],[]⟩:St)=h99_0 l0_0 a0 0 0:=yv
    exact cp ya (.f f0 (.f (ev_ (e:=ex99_0) (g:=(fin99_0 l0_0 a0)) h0 (t99_0 (l0_0:=l0_0) (a0:=a0) (by assumption) a0 [] 0 rfl)) (.h 6 (.loop (h99_0 l0_0 a0 0 0) (.exit 0) ⟨[(0,(.one (.bor l0_0 (map b_si a0)))),(3,(.oi w0_0)),(4,(.oi w1_0)),(8,(.one (.val (.bool w2_0))))],[]⟩) .nil)))
theorem tot_r99 (a:List K_si):∀(l:List K_si) (i v:Int),(∀z∈l,1≤z.f1∧z.f1≤119988)→0≤v→v+119988*l.length≤1000000000→∃w j b,r99_0 a l i v=.k0 w j b∧v+l.length≤w∧w≤v+119988*l.length
  |[],i,v,_,_,_=>⟨v,_,_,rfl,by simp,by simp⟩
  |x::l,i,v,h,h0,hb=>by
    have hx:=h x (List.mem_cons_self ..)
    simp only[length_cons] at hb
    simp only[r99_0]
    rw[wrap64 yb]
    obtain⟨w,j,b,e,h1,h2⟩:=tot_r99 a l (i+1) (v+x.f1) (fun z hz=>h z (List.mem_cons_of_mem _ hz)) yb yb
    exact⟨w,j,b,e,by simp only[length_cons]; omega,by simp only[length_cons]; omega⟩
theorem tot_99 (a:List K_si) (h:∀z∈a,1≤z.f1∧z.f1≤119988) (hl:a.length≤12):(a.length:Int)≤m99 a∧m99 a≤119988*a.length:=by
  obtain⟨w,j,b,e,h1,h2⟩:=tot_r99 a a 0 0 h yb yb
  unfold m99
  rw[e]; simp only[]; omega
inductive O157_0 where
  |k0 (w0:List K_si) (w1:Int) (w2:Bool)
def r157_0 (a0:(List K_si)):List K_si→Int→List K_si→O157_0
  |x0::y0,i,v0=>
    if(decide ((m60 v0 x0.f0)≥0))=true then(r157_0 a0 y0 (i+1) (set v0 (toNat (m60 v0 x0.f0)) (K_si.mk ((getD v0 (toNat (m60 v0 x0.f0)) (K_si.mk (⟨#[]⟩:ByteArray) 0)).f0) (wrap .i64 (((getD v0 (toNat (m60 v0 x0.f0)) (K_si.mk (⟨#[]⟩:ByteArray) 0)).f1)+x0.f1))))) else
    (r157_0 a0 y0 (i+1) (v0++([x0])))
  |[],i,v0=>(O157_0.k0 v0 i (decide (i <((length (map b_si a0)):Int))))
def h157_0 (l0_0:Nat) (a0:(List K_si)) (i:Int) (v0:List K_si):St:=⟨[(0,(.one (.bor l0_0 (map b_si a0)))),(3,(.one (.ref ⟨(3,0,0),[],0,(length (map d_si v0))⟩))),(4,(.one (.val (.int .i64 i))))],[((3,0,0),.live ⟨2,(map d_si v0),[]⟩)]⟩
def ex157_0:O157_0→VX.Exit
  |.k0 _ _ _=>(.exit 0)
def fin157_0 (l0_0:Nat) (a0:(List K_si)):O157_0→St
  |.k0 w0 w1 w2=>⟨[(0,(.one (.bor l0_0 (map b_si a0)))),(3,(.one (.ref ⟨(3,0,0),[],0,(length (map d_si w0))⟩))),(4,(.one (.val (.int .i64 w1)))),(10,(.one (.val (.bool w2))))],[((3,0,0),.live ⟨2,(map d_si w0),[]⟩)]⟩
theorem t157_0 {l0_0:Nat} {a0:(List K_si)} (hy0:length a0*24≤70368744177664):∀(y0:List K_si) (p:List K_si) (v0:List K_si),p++y0=a0→(length v0+length y0)*24≤70368744177664→Ev F X (.code l157_0 (h157_0 l0_0 a0 (length p:Int) v0) (ex157_0 (r157_0 a0 y0 (length p:Int) v0)) (fin157_0 l0_0 a0 (r157_0 a0 y0 (length p:Int) v0)))
  |[],p,v0,hp0,hi0=>by
    have hc:¬(decide ((length p:Int) <((length (map b_si a0)):Int)))=true:=by
      rw[← hp0]; simp only[LN,decide_eq_true_eq]; omega
    have hj0:=hi0; try simp only[LN,Int.toNat_natCast] at hj0
    have st:=ch b157_0 (h157_0 l0_0 a0 (length p:Int) v0) ⟨[(0,(.one (.bor l0_0 (map b_si a0)))),(3,(.one (.ref ⟨(3,0,0),[],0,(length (map d_si v0))⟩))),(4,(.oi (length p:Int))),(10,(.one (.val (.bool (decide ((length p:Int) <((length (map b_si a0)):Int)))))))],[((3,0,0),.live ⟨2,(map d_si v0),[]⟩)]⟩ (.exit 0) 9 (by kernel_rfl) (.f (nt hc) (U 8 .nil))
    rw[show (⟨[(0,(.one (.bor l0_0 (map b_si a0)))),(3,(.one (.ref ⟨(3,0,0),[],0,(length (map d_si v0))⟩))),(4,(.oi (length p:Int))),(10,(.one (.val (.bool (decide ((length p:Int) <((length (map b_si a0)):Int)))))))],[((3,0,0),.live ⟨2,(map d_si v0),[]⟩)]⟩:St)=fin157_0 l0_0 a0 (.k0 v0 (length p:Int) (decide ((length p:Int) <((length (map b_si a0)):Int)))) from(by rfl)] at st
    exact .loopX st (show ((.exit 0):VX.Exit)≠.normal from by simp)
  |x0::y0,p,v0,hp0,hi0=>by
    have hc:(decide ((length p:Int) <((length (map b_si a0)):Int)))=true:=by
      rw[← hp0]; simp only[LN,decide_eq_true_eq]; omega
    have Hx0:(a0)[toNat (length p:Int)]?=some x0:=by
      rw[← hp0,Int.toNat_natCast]; simp
    have hlen:length (a0)=length p+length y0+1:=by rw[← hp0]; simp; omega
    have hw:wrap .i64 ((length p:Int)+1)=(length p:Int)+1:=wrap64 (by omega)
    have hj0:=hi0; try simp only[LN,Int.toNat_natCast] at hj0
    simp only[r157_0]
    have f1:0≤(length p:Int):=(by omega)
    have P1 {hs q} (r:PS F X hs q):=(PS.f hc (.f f1 (.f (mp_ b_si Hx0) (ln_si v0 (T 8 (.h 16 (.row (b_si x0)) (.r 22 [] [(map b_si v0)] (e60 (l0_0:=0) (a0:=v0) (a1:=x0.f0) (by omega)) r)))))))
    by_cases h_1:(decide ((m60 v0 x0.f0)≥0))=true
    · try simp only[if_pos h_1]
      have f8:0+(length (map d_si v0))≤(length (map d_si v0)):=(by omega)
      have f9:0≤(m60 v0 x0.f0)∧(m60 v0 x0.f0) <((length (map d_si v0)):Int):=(by have q:=ix60 v0 x0.f0; simp only[decide_eq_true_eq,length_map] at*; omega)
      have f17:(set (map d_si v0) (0+(toNat (m60 v0 x0.f0))) [(.val (.string ((getD v0 (toNat (m60 v0 x0.f0)) (K_si.mk (⟨#[]⟩:ByteArray) 0)).f0))),(.i (wrap .i64 (((getD v0 (toNat (m60 v0 x0.f0)) (K_si.mk (⟨#[]⟩:ByteArray) 0)).f1)+x0.f1)))])=(map d_si (set v0 (toNat (m60 v0 x0.f0)) (K_si.mk ((getD v0 (toNat (m60 v0 x0.f0)) (K_si.mk (⟨#[]⟩:ByteArray) 0)).f0) (wrap .i64 (((getD v0 (toNat (m60 v0 x0.f0)) (K_si.mk (⟨#[]⟩:ByteArray) 0)).f1)+x0.f1))))):=(by simp[take_of_length_le,d_si,four_len]; done)
      have st:=ch b157_0 (h157_0 l0_0 a0 (length p:Int) v0) ⟨[(0,(.one (.bor l0_0 (map b_si a0)))),(3,(.one (.ref ⟨(3,0,0),[],0,(length (map d_si v0))⟩))),(4,(.oi (wrap .i64 ((length p:Int)+1))))],[((3,0,0),.live ⟨2,(map d_si (set v0 (toNat (m60 v0 x0.f0)) (K_si.mk ((getD v0 (toNat (m60 v0 x0.f0)) (K_si.mk (⟨#[]⟩:ByteArray) 0)).f0) (wrap .i64 (((getD v0 (toNat (m60 v0 x0.f0)) (K_si.mk (⟨#[]⟩:ByteArray) 0)).f1)+x0.f1))))),[]⟩)]⟩ .normal 69 (by kernel_rfl) (P1 (.f h_1 (.f f8 (.f f9 (.f (mz_ d_si (getD_at v0 (toNat (m60 v0 x0.f0)) (K_si.mk (⟨#[]⟩:ByteArray) 0) (by have q:=ix60 v0 x0.f0; simp only[decide_eq_true_eq,length_map] at*; omega))) (.f f1 (.f (mp_ b_si Hx0) (.f trivial (.f f8 (.f f9 (.f (mz_ d_si (getD_at v0 (toNat (m60 v0 x0.f0)) (K_si.mk (⟨#[]⟩:ByteArray) 0) (by have q:=ix60 v0 x0.f0; simp only[decide_eq_true_eq,length_map] at*; omega))) (.f f17 (.f trivial (T 29 (.h 43 (.rowD (d_si (getD v0 (toNat (m60 v0 x0.f0)) (K_si.mk (⟨#[]⟩:ByteArray) 0)))) (.h 49 (.row (b_si x0)) (.h 61 (.rowD (d_si (getD v0 (toNat (m60 v0 x0.f0)) (K_si.mk (⟨#[]⟩:ByteArray) 0)))) (.h 62 (.norm (3,0,0) (map d_si (set v0 (toNat (m60 v0 x0.f0)) (K_si.mk ((getD v0 (toNat (m60 v0 x0.f0)) (K_si.mk (⟨#[]⟩:ByteArray) 0)).f0) (wrap .i64 (((getD v0 (toNat (m60 v0 x0.f0)) (K_si.mk (⟨#[]⟩:ByteArray) 0)).f1)+x0.f1)))))) .nil))))))))))))))))))
      have ih:=t157_0 (l0_0:=l0_0) (a0:=a0) hy0 y0 (p++ [x0]) (set v0 (toNat (m60 v0 x0.f0)) (K_si.mk ((getD v0 (toNat (m60 v0 x0.f0)) (K_si.mk (⟨#[]⟩:ByteArray) 0)).f0) (wrap .i64 (((getD v0 (toNat (m60 v0 x0.f0)) (K_si.mk (⟨#[]⟩:ByteArray) 0)).f1)+x0.f1)))) (by rw[append_assoc]; exact hp0) (by simp only[LN]; omega)
      rw[show ((p++ [x0]).length:Int)=(p.length:Int)+1 from by simp] at ih
      rw[show (⟨[(0,(.one (.bor l0_0 (map b_si a0)))),(3,(.one (.ref ⟨(3,0,0),[],0,(length (map d_si v0))⟩))),(4,(.oi (wrap .i64 ((length p:Int)+1))))],[((3,0,0),.live ⟨2,(map d_si (set v0 (toNat (m60 v0 x0.f0)) (K_si.mk ((getD v0 (toNat (m60 v0 x0.f0)) (K_si.mk (⟨#[]⟩:ByteArray) 0)).f0) (wrap .i64 (((getD v0 (toNat (m60 v0 x0.f0)) (K_si.mk (⟨#[]⟩:ByteArray) 0)).f1)+x0.f1))))),[]⟩)]⟩:St)=h157_0 l0_0 a0 ((length p:Int)+1) (set v0 (toNat (m60 v0 x0.f0)) (K_si.mk ((getD v0 (toNat (m60 v0 x0.f0)) (K_si.mk (⟨#[]⟩:ByteArray) 0)).f0) (wrap .i64 (((getD v0 (toNat (m60 v0 x0.f0)) (K_si.mk (⟨#[]⟩:ByteArray) 0)).f1)+x0.f1)))) from(by unfold h157_0; simp only[hw,length_map,length_set,length_append,length_replicate,length_cons,length_nil]; done)] at st
      exact .loopN st ih
    try simp only[if_neg h_1]
    have f10:0+(length (map d_si v0))≤(length (map d_si v0)):=(by omega)
    have f11:1≤1:=(by omega)
    have f12:((take 1 (drop 0 [[(.val (.string x0.f0)),(.i x0.f1)]])).all fun x=>x.all copyable)=true:=(by trivial)
    have f13:(length ((take (length (map d_si v0)) (drop 0 (map d_si v0)))++([[(.val (.string x0.f0)),(.i x0.f1)]]:List (List D))))*24≤70368744177664:=(by simp only[length_map,length_append,length_cons,length_nil,length_take,length_drop]; omega)
    have f14:∀r∈([[(.val (.string x0.f0)),(.i x0.f1)]]:List (List D)),r.length=2:=(by simp[four_len]; done)
    have f15:((take (length (map d_si v0)) (drop 0 (map d_si v0)))++([[(.val (.string x0.f0)),(.i x0.f1)]]:List (List D)))=(map d_si (v0++([x0]))):=(by simp[take_of_length_le,d_si,four_len]; done)
    have st:=ch b157_0 (h157_0 l0_0 a0 (length p:Int) v0) ⟨[(0,(.one (.bor l0_0 (map b_si a0)))),(3,(.one (.ref ⟨(3,0,0),[],0,(length ((take (length (map d_si v0)) (drop 0 (map d_si v0)))++([[(.val (.string x0.f0)),(.i x0.f1)]]:List (List D))))⟩))),(4,(.oi (wrap .i64 ((length p:Int)+1))))],[((3,0,0),.live ⟨2,(map d_si (v0++([x0]))),[]⟩)]⟩ .normal 53 (by kernel_rfl) (P1 (.f (nt h_1) (.f f1 (.f (mp_ b_si Hx0) (.f f10 (.f f11 (.f f12 (.f f13 (.f f14 (.f f15 (.f trivial (U 29 (.h 37 (.row (b_si x0)) (T 43 (.h 46 (.norm (3,0,0) (map d_si (v0++([x0])))) .nil)))))))))))))))
    have ih:=t157_0 (l0_0:=l0_0) (a0:=a0) hy0 y0 (p++ [x0]) (v0++([x0])) (by rw[append_assoc]; exact hp0) (by simp only[LN]; omega)
    rw[show ((p++ [x0]).length:Int)=(p.length:Int)+1 from by simp] at ih
    rw[show (⟨[(0,(.one (.bor l0_0 (map b_si a0)))),(3,(.one (.ref ⟨(3,0,0),[],0,(length ((take (length (map d_si v0)) (drop 0 (map d_si v0)))++([[(.val (.string x0.f0)),(.i x0.f1)]]:List (List D))))⟩))),(4,(.oi (wrap .i64 ((length p:Int)+1))))],[((3,0,0),.live ⟨2,(map d_si (v0++([x0]))),[]⟩)]⟩:St)=h157_0 l0_0 a0 ((length p:Int)+1) (v0++([x0])) from(by unfold h157_0; simp[hw,take_of_length_le,d_si,four_len]; done)] at st
    exact .loopN st ih
def m157 (a0:(List K_si)):(List K_si):=
  (match r157_0 a0 a0 0 ([]) with | .k0 w0_0 w1_0 w2_0=>w0_0)
theorem e157 {l0_0:Nat} {a0:(List K_si)} (hy0:length a0*24≤70368744177664):Ev F X (.call 157 [(.one (.bor l0_0 (map b_si a0)))] [] [] [(.one (.own 2 (map d_si (m157 a0))))]):=by
  unfold m157
  cases h0:r157_0 a0 a0 0 ([]) with
  |k0 w0_0 w1_0 w2_0=>
    try dsimp only
    have f0:(⟨[(0,(.one (.bor l0_0 (map b_si a0)))),(3,(.one (.ref ⟨(3,0,0),[],0,0⟩))),(4,(.oi 0))],[((3,0,0),.live ⟨2,[],[]⟩)]⟩:St)=h157_0 l0_0 a0 0 ([]):=yv
    exact cp ya (.f f0 (.f (ev_ (e:=ex157_0) (g:=(fin157_0 l0_0 a0)) h0 (t157_0 (l0_0:=l0_0) (a0:=a0) (by assumption) a0 [] ([]) rfl yw)) (pe 0 (pe (length (map d_si w0_0)) (.f (pureR_si w0_0) (.h 8 (.loop (h157_0 l0_0 a0 0 ([])) (.exit 0) ⟨[(0,(.one (.bor l0_0 (map b_si a0)))),(3,(.one (.ref ⟨(3,0,0),[],0,(length (map d_si w0_0))⟩))),(4,(.oi w1_0)),(10,(.one (.val (.bool w2_0))))],[((3,0,0),.live ⟨2,(map d_si w0_0),[]⟩)]⟩) .nil))))))
theorem mlen_r157 (a:List K_si):∀(l:List K_si) (i:Int) (v:List K_si),∃w j b,r157_0 a l i v=.k0 w j b∧w.length≤v.length+l.length
  |[],i,v=>⟨_,_,_,rfl,by simp⟩
  |x::l,i,v=>by
    simp only[r157_0]
    split
    · obtain⟨w,j,b,h,h2⟩:=mlen_r157 a l (i+1) (set v (toNat (m60 v x.f0)) (K_si.mk ((getD v (toNat (m60 v x.f0)) (K_si.mk (⟨#[]⟩:ByteArray) 0)).f0) (wrap .i64 (((getD v (toNat (m60 v x.f0)) (K_si.mk (⟨#[]⟩:ByteArray) 0)).f1)+x.f1))))
      exact⟨w,j,b,h,by simp at h2⊢; omega⟩
    obtain⟨w,j,b,h,h2⟩:=mlen_r157 a l (i+1) (v++ [x])
    exact⟨w,j,b,h,by simp at h2⊢; omega⟩
theorem mlen_157 (a:List K_si):(m157 a).length≤a.length:=by
  unfold m157
  obtain⟨w,j,b,h,h2⟩:=mlen_r157 a a 0 []
  rw[h]; simpa using h2
theorem mne_r157 (a:List K_si):∀(l:List K_si) (i:Int) (v:List K_si) (k:Nat),(∀z∈l,1≤z.f1∧z.f1≤9999)→(∀z∈v,1≤z.f1∧z.f1≤9999*(k:Int))→k+l.length≤1000→∃w j b,r157_0 a l i v=.k0 w j b∧v.length≤w.length∧(0 < l.length→0 < w.length)∧(∀z∈w,1≤z.f1∧z.f1≤9999*((k+l.length:Nat):Int))
  |[],i,v,k,_,hv,_=>⟨v,_,_,rfl,Nat.le_refl _,by simp,by simpa using hv⟩
  |x::l,i,v,k,hl,hv,hk=>by
    have hx:=hl x (List.mem_cons_self ..)
    have hl':∀z∈l,1≤z.f1∧z.f1≤9999:=fun z hz=>hl z (List.mem_cons_of_mem _ hz)
    simp only[length_cons] at hk
    simp only[r157_0]
    have q:=ix60 v x.f0
    by_cases h:(decide ((m60 v x.f0)≥0))=true
    · rw[if_pos h]
      simp only[decide_eq_true_eq] at h
      have hg:getD v (toNat (m60 v x.f0)) (K_si.mk (⟨#[]⟩:ByteArray) 0)∈v:=by
        rw[List.getD_eq_getElem?_getD,List.getElem?_eq_getElem yb]; exact List.getElem_mem _
      have hgb:=hv _ hg
      obtain ⟨w, j, b, e, h1, h2, h3⟩ := mne_r157 a l (i + 1) (set v (toNat (m60 v x.f0)) (K_si.mk ((getD v (toNat (m60 v x.f0)) (K_si.mk (⟨#[]⟩ : ByteArray) 0)).f0) (wrap .i64 (((getD v (toNat (m60 v x.f0)) (K_si.mk (⟨#[]⟩ : ByteArray) 0)).f1) + x.f1)))) (k + 1) hl' (fun z hz => by
        rcases List.mem_or_eq_of_mem_set hz with hz | rfl
        · have:=hv z hz; omega
        simp only[]
        rw[wrap64 yb]; omega) yb
      refine⟨w,j,b,e,by simpa using h1,fun _=>?_,fun z hz=>?_⟩
      · simp only[length_set] at h1
        have:0 < v.length:=by omega
        omega
      have:=h3 z hz; simp only[length_cons]; omega
    rw[if_neg h]
    obtain ⟨w, j, b, e, h1, h2, h3⟩ := mne_r157 a l (i + 1) (v ++ [x]) (k + 1) hl' (fun z hz => by
      rcases List.mem_append.1 hz with hz | hz
      · have:=hv z hz; omega
      rw[List.mem_singleton.1 hz]; omega) yb
    simp only[length_append,length_cons,length_nil] at h1
    refine⟨w,j,b,e,by omega,fun _=>by omega,fun z hz=>?_⟩
    have:=h3 z hz; simp only[length_cons]; omega
theorem mne_157 (a:List K_si) (h:∀z∈a,1≤z.f1∧z.f1≤9999) (hl:a.length≤12):(0 < a.length→0 <(m157 a).length)∧∀z∈m157 a,1≤z.f1∧z.f1≤119988:=by
  obtain⟨w,j,b,e,h1,h2,h3⟩:=mne_r157 a a 0 [] 0 h (by simp) yb
  unfold m157
  rw[e]
  refine⟨h2,fun z hz=>?_⟩
  have:=h3 z hz
  omega
theorem msz_r (a:List K_si):∀(l:List K_si) (i:Int) (v:List K_si),(∀z∈l,ByteArray.size z.f0≤3)→(∀z∈v,ByteArray.size z.f0≤3)→∃w j b,r157_0 a l i v=.k0 w j b∧∀z∈w,ByteArray.size z.f0≤3
  |[],i,v,_,hv=>⟨_,_,_,rfl,hv⟩
  |x::l,i,v,hl,hv=>by
    have hl':∀z∈l,ByteArray.size z.f0≤3:=fun z hz=>hl z (List.mem_cons_of_mem _ hz)
    simp only[r157_0]
    split
    · exact msz_r a l _ _ hl' yaB
    exact msz_r a l _ _ hl' yat
theorem msz {a:List K_si} (h:∀z∈a,ByteArray.size z.f0≤3):∀z∈m157 a,ByteArray.size z.f0≤3:=by
  obtain⟨w,j,b,e,hw⟩:=msz_r a a 0 [] h (fun z hz=>by cases hz)
  unfold m157
  rw[e]; exact hw
inductive O152_0 where
  |k0 (w0:List K_si) (w1:List Int) (w2:Int) (w3:Int) (w4:Bool)
def r152_0 (a0:Int) (a1:(List K_si)):List K_si→Int→List K_si→List Int→Int→O152_0
  |x0::y0,i,v0,v1,v5=>
    (r152_0 a0 a1 y0 (i+1) (v0++([(K_si.mk x0.f0 (wrap .i64 (Int.tdiv (wrap .i64 (a0*x0.f1)) (m99 (m157 a1)))))])) (v1++([(Int.tmod (wrap .i64 (a0*x0.f1)) (m99 (m157 a1)))])) (wrap .i64 (v5 - (wrap .i64 (Int.tdiv (wrap .i64 (a0*x0.f1)) (m99 (m157 a1)))))))
  |[],i,v0,v1,v5=>(O152_0.k0 v0 v1 v5 i (decide (i <((length (map d_si (m157 a1))):Int))))
def h152_0 (l1_0:Nat) (a0:Int) (a1:(List K_si)) (i:Int) (v0:List K_si) (v1:List Int) (v5:Int):St:=⟨[(0,(.one (.val (.int .i64 a0)))),(5,(.one (.ref ⟨(5,0,0),[],0,(length (map d_si (m157 a1)))⟩))),(6,(.one (.val (.int .i64 (m99 (m157 a1)))))),(7,(.one (.ref ⟨(7,0,0),[],0,(length (map d_si v0))⟩))),(8,(.one (.ref ⟨(8,0,0),[],0,(length (map d_i v1))⟩))),(9,(.one (.val (.int .i64 v5)))),(10,(.one (.val (.int .i64 i))))],[((5,0,0),.live ⟨2,(map d_si (m157 a1)),[]⟩),((7,0,0),.live ⟨2,(map d_si v0),[]⟩),((8,0,0),.live ⟨1,(map d_i v1),[]⟩)]⟩
def ex152_0:O152_0→VX.Exit
  |.k0 _ _ _ _ _=>(.exit 0)
def fin152_0 (l1_0:Nat) (a0:Int) (a1:(List K_si)):O152_0→St
  |.k0 w0 w1 w2 w3 w4=>⟨[(0,(.one (.val (.int .i64 a0)))),(5,(.one (.ref ⟨(5,0,0),[],0,(length (map d_si (m157 a1)))⟩))),(6,(.one (.val (.int .i64 (m99 (m157 a1)))))),(7,(.one (.ref ⟨(7,0,0),[],0,(length (map d_si w0))⟩))),(8,(.one (.ref ⟨(8,0,0),[],0,(length (map d_i w1))⟩))),(9,(.one (.val (.int .i64 w2)))),(10,(.one (.val (.int .i64 w3)))),(24,(.one (.val (.bool w4))))],[((5,0,0),.live ⟨2,(map d_si (m157 a1)),[]⟩),((7,0,0),.live ⟨2,(map d_si w0),[]⟩),((8,0,0),.live ⟨1,(map d_i w1),[]⟩)]⟩
theorem t152_0 {l1_0:Nat} {a0:Int} {a1:(List K_si)} (hy0:0≤a0) (hy1:a0≤1000000) (hy2:0 < length a1) (hy3:length a1≤12) (hy4:∀z∈a1,1≤z.f1∧z.f1≤9999):∀(y0:List K_si) (p:List K_si) (v0:List K_si) (v1:List Int) (v5:Int),p++y0=m157 a1→(length v0+length y0)*24≤70368744177664→(length v1+length y0)*8≤70368744177664→Ev F X (.code l152_0 (h152_0 l1_0 a0 a1 (length p:Int) v0 v1 v5) (ex152_0 (r152_0 a0 a1 y0 (length p:Int) v0 v1 v5)) (fin152_0 l1_0 a0 a1 (r152_0 a0 a1 y0 (length p:Int) v0 v1 v5)))
  |[],p,v0,v1,v5,hp0,hi0,hi1=>by
    have hc:¬(decide ((length p:Int) <((length (map d_si (m157 a1))):Int)))=true:=by
      rw[← hp0]; simp only[LN,decide_eq_true_eq]; omega
    have hj0:=hi0; try simp only[LN,Int.toNat_natCast] at hj0
    have hj1:=hi1; try simp only[LN,Int.toNat_natCast] at hj1
    have st:=ch b152_0 (h152_0 l1_0 a0 a1 (length p:Int) v0 v1 v5) ⟨[(0,(.oi a0)),(5,(.one (.ref ⟨(5,0,0),[],0,(length (map d_si (m157 a1)))⟩))),(6,(.oi (m99 (m157 a1)))),(7,(.one (.ref ⟨(7,0,0),[],0,(length (map d_si v0))⟩))),(8,(.one (.ref ⟨(8,0,0),[],0,(length (map d_i v1))⟩))),(9,(.oi v5)),(10,(.oi (length p:Int))),(24,(.one (.val (.bool (decide ((length p:Int) <((length (map d_si (m157 a1))):Int)))))))],[((5,0,0),.live ⟨2,(map d_si (m157 a1)),[]⟩),((7,0,0),.live ⟨2,(map d_si v0),[]⟩),((8,0,0),.live ⟨1,(map d_i v1),[]⟩)]⟩ (.exit 0) 9 (by kernel_rfl) (.f (nt hc) (U 8 .nil))
    rw[show (⟨[(0,(.oi a0)),(5,(.one (.ref ⟨(5,0,0),[],0,(length (map d_si (m157 a1)))⟩))),(6,(.oi (m99 (m157 a1)))),(7,(.one (.ref ⟨(7,0,0),[],0,(length (map d_si v0))⟩))),(8,(.one (.ref ⟨(8,0,0),[],0,(length (map d_i v1))⟩))),(9,(.oi v5)),(10,(.oi (length p:Int))),(24,(.one (.val (.bool (decide ((length p:Int) <((length (map d_si (m157 a1))):Int)))))))],[((5,0,0),.live ⟨2,(map d_si (m157 a1)),[]⟩),((7,0,0),.live ⟨2,(map d_si v0),[]⟩),((8,0,0),.live ⟨1,(map d_i v1),[]⟩)]⟩:St)=fin152_0 l1_0 a0 a1 (.k0 v0 v1 v5 (length p:Int) (decide ((length p:Int) <((length (map d_si (m157 a1))):Int)))) from(by rfl)] at st
    exact .loopX st (show ((.exit 0):VX.Exit)≠.normal from by simp)
  |x0::y0,p,v0,v1,v5,hp0,hi0,hi1=>by
    have hc:(decide ((length p:Int) <((length (map d_si (m157 a1))):Int)))=true:=by
      rw[← hp0]; simp only[LN,decide_eq_true_eq]; omega
    have Hx0:(m157 a1)[toNat (length p:Int)]?=some x0:=by
      rw[← hp0,Int.toNat_natCast]; simp
    have hlen:length (m157 a1)=length p+length y0+1:=by rw[← hp0]; simp; omega
    have hw:wrap .i64 ((length p:Int)+1)=(length p:Int)+1:=wrap64 (by have hz:length (m157 a1)*24≤140737488351232:=(by first | with_reducible assumption | omega |(have q:=mlen_157 a1; simp only[length_map,length_nil,Nat.zero_add] at*; omega) |(have q:=mlen_157 a1; omega) |(have q1:=mne_157 a1 (by assumption) (by omega); have q2:=mlen_157 a1; have q:=(tot_99 (m157 a1) q1.2 (by omega)).1; have q3:=q1.1 (by omega); omega) |(simp only[decide_eq_true_eq,length_map] at*; omega) |(simp only[length_map] at*; omega) |(unfold m157;(repeat' split)<;>simp_all<;>omega) | assumption |(simp only[length_map]; omega) |(simp[four_len]; omega)); omega)
    have hj0:=hi0; try simp only[LN,Int.toNat_natCast] at hj0
    have hj1:=hi1; try simp only[LN,Int.toNat_natCast] at hj1
    simp only[r152_0]
    have f1:0+(length (map d_si (m157 a1)))≤(length (map d_si (m157 a1))):=(by omega)
    have f2:0≤(length p:Int)∧(length p:Int) <((length (map d_si (m157 a1))):Int):=(by have q:=mlen_157 a1; simp only[length_map,length_nil,Nat.zero_add] at*; omega)
    have f4:(m99 (m157 a1))≠0:=(by have q1:=mne_157 a1 (by assumption) (by omega); have q2:=mlen_157 a1; have q:=(tot_99 (m157 a1) q1.2 (by omega)).1; have q3:=q1.1 (by omega); omega)
    have f8:0+(length (map d_si v0))≤(length (map d_si v0)):=(by omega)
    have f9:1≤1:=(by omega)
    have f10:((take 1 (drop 0 [[(.val (.string x0.f0)),(.i (wrap .i64 (Int.tdiv (wrap .i64 (a0*x0.f1)) (m99 (m157 a1)))))]])).all fun x=>x.all copyable)=true:=(by trivial)
    have f11:(length ((take (length (map d_si v0)) (drop 0 (map d_si v0)))++([[(.val (.string x0.f0)),(.i (wrap .i64 (Int.tdiv (wrap .i64 (a0*x0.f1)) (m99 (m157 a1)))))]]:List (List D))))*24≤70368744177664:=(by unfold m99 m157;(repeat' split)<;>simp_all<;>omega)
    have f12:∀r∈([[(.val (.string x0.f0)),(.i (wrap .i64 (Int.tdiv (wrap .i64 (a0*x0.f1)) (m99 (m157 a1)))))]]:List (List D)),r.length=2:=(by unfold m99 m157;(repeat' split)<;>simp_all<;>omega)
    have f13:((take (length (map d_si v0)) (drop 0 (map d_si v0)))++([[(.val (.string x0.f0)),(.i (wrap .i64 (Int.tdiv (wrap .i64 (a0*x0.f1)) (m99 (m157 a1)))))]]:List (List D)))=(map d_si (v0++([(K_si.mk x0.f0 (wrap .i64 (Int.tdiv (wrap .i64 (a0*x0.f1)) (m99 (m157 a1)))))]))):=(by simp[take_of_length_le,d_si,four_len]; done)
    have f18:0+(length (map d_i v1))≤(length (map d_i v1)):=(by omega)
    have f20:((take 1 (drop 0 [[(.i (Int.tmod (wrap .i64 (a0*x0.f1)) (m99 (m157 a1))))]])).all fun x=>x.all copyable)=true:=(by assumption)
    have f21:(length ((take (length (map d_i v1)) (drop 0 (map d_i v1)))++([[(.i (Int.tmod (wrap .i64 (a0*x0.f1)) (m99 (m157 a1))))]]:List (List D))))*8≤70368744177664:=(by unfold m99 m157;(repeat' split)<;>simp_all<;>omega)
    have f22:∀r∈([[(.i (Int.tmod (wrap .i64 (a0*x0.f1)) (m99 (m157 a1))))]]:List (List D)),r.length=1:=(by unfold m99 m157;(repeat' split)<;>simp_all<;>omega)
    have f23:((take (length (map d_i v1)) (drop 0 (map d_i v1)))++([[(.i (Int.tmod (wrap .i64 (a0*x0.f1)) (m99 (m157 a1))))]]:List (List D)))=(map d_i (v1++([(Int.tmod (wrap .i64 (a0*x0.f1)) (m99 (m157 a1)))]))):=(by simp[take_of_length_le,d_i,four_len]; done)
    have st:=ch b152_0 (h152_0 l1_0 a0 a1 (length p:Int) v0 v1 v5) ⟨[(0,(.oi a0)),(5,(.one (.ref ⟨(5,0,0),[],0,(length (map d_si (m157 a1)))⟩))),(6,(.oi (m99 (m157 a1)))),(7,(.one (.ref ⟨(7,0,0),[],0,(length ((take (length (map d_si v0)) (drop 0 (map d_si v0)))++([[(.val (.string x0.f0)),(.i (wrap .i64 (Int.tdiv (wrap .i64 (a0*x0.f1)) (m99 (m157 a1)))))]]:List (List D))))⟩))),(8,(.one (.ref ⟨(8,0,0),[],0,(length ((take (length (map d_i v1)) (drop 0 (map d_i v1)))++([[(.i (Int.tmod (wrap .i64 (a0*x0.f1)) (m99 (m157 a1))))]]:List (List D))))⟩))),(9,(.oi (wrap .i64 (v5 - (wrap .i64 (Int.tdiv (wrap .i64 (a0*x0.f1)) (m99 (m157 a1)))))))),(10,(.oi (wrap .i64 ((length p:Int)+1))))],[((5,0,0),.live ⟨2,(map d_si (m157 a1)),[]⟩),((7,0,0),.live ⟨2,(map d_si (v0++([(K_si.mk x0.f0 (wrap .i64 (Int.tdiv (wrap .i64 (a0*x0.f1)) (m99 (m157 a1)))))]))),[]⟩),((8,0,0),.live ⟨1,(map d_i (v1++([(Int.tmod (wrap .i64 (a0*x0.f1)) (m99 (m157 a1)))]))),[]⟩)]⟩ .normal 93 (by kernel_rfl) (.f hc (.f f1 (.f f2 (.f (mz_ d_si Hx0) (.f f4 (.f f1 (.f f2 (.f (mz_ d_si Hx0) (.f f8 (.f f9 (.f f10 (.f f11 (.f f12 (.f f13 (.f f1 (.f f2 (.f (mz_ d_si Hx0) (.f f4 (.f f18 (.f f9 (.f f20 (.f f21 (.f f22 (.f f23 (.f trivial (T 8 (.h 20 (.rowD (d_si x0)) (.h 40 (.rowD (d_si x0)) (T 48 (.h 51 (.norm (7,0,0) (map d_si (v0++([(K_si.mk x0.f0 (wrap .i64 (Int.tdiv (wrap .i64 (a0*x0.f1)) (m99 (m157 a1)))))])))) (.h 65 (.rowD (d_si x0)) (T 75 (.h 78 (.norm (8,0,0) (map d_i (v1++([(Int.tmod (wrap .i64 (a0*x0.f1)) (m99 (m157 a1)))])))) .nil)))))))))))))))))))))))))))))))))
    have ih:=t152_0 (l1_0:=l1_0) (a0:=a0) (a1:=a1) hy0 hy1 hy2 hy3 hy4 y0 (p++ [x0]) (v0++([(K_si.mk x0.f0 (wrap .i64 (Int.tdiv (wrap .i64 (a0*x0.f1)) (m99 (m157 a1)))))])) (v1++([(Int.tmod (wrap .i64 (a0*x0.f1)) (m99 (m157 a1)))])) (wrap .i64 (v5 - (wrap .i64 (Int.tdiv (wrap .i64 (a0*x0.f1)) (m99 (m157 a1)))))) (by rw[append_assoc]; exact hp0) (by simp only[LN]; omega) (by simp only[LN]; omega)
    rw[show ((p++ [x0]).length:Int)=(p.length:Int)+1 from by simp] at ih
    rw[show (⟨[(0,(.oi a0)),(5,(.one (.ref ⟨(5,0,0),[],0,(length (map d_si (m157 a1)))⟩))),(6,(.oi (m99 (m157 a1)))),(7,(.one (.ref ⟨(7,0,0),[],0,(length ((take (length (map d_si v0)) (drop 0 (map d_si v0)))++([[(.val (.string x0.f0)),(.i (wrap .i64 (Int.tdiv (wrap .i64 (a0*x0.f1)) (m99 (m157 a1)))))]]:List (List D))))⟩))),(8,(.one (.ref ⟨(8,0,0),[],0,(length ((take (length (map d_i v1)) (drop 0 (map d_i v1)))++([[(.i (Int.tmod (wrap .i64 (a0*x0.f1)) (m99 (m157 a1))))]]:List (List D))))⟩))),(9,(.oi (wrap .i64 (v5 - (wrap .i64 (Int.tdiv (wrap .i64 (a0*x0.f1)) (m99 (m157 a1)))))))),(10,(.oi (wrap .i64 ((length p:Int)+1))))],[((5,0,0),.live ⟨2,(map d_si (m157 a1)),[]⟩),((7,0,0),.live ⟨2,(map d_si (v0++([(K_si.mk x0.f0 (wrap .i64 (Int.tdiv (wrap .i64 (a0*x0.f1)) (m99 (m157 a1)))))]))),[]⟩),((8,0,0),.live ⟨1,(map d_i (v1++([(Int.tmod (wrap .i64 (a0*x0.f1)) (m99 (m157 a1)))]))),[]⟩)]⟩:St)=h152_0 l1_0 a0 a1 ((length p:Int)+1) (v0++([(K_si.mk x0.f0 (wrap .i64 (Int.tdiv (wrap .i64 (a0*x0.f1)) (m99 (m157 a1)))))])) (v1++([(Int.tmod (wrap .i64 (a0*x0.f1)) (m99 (m157 a1)))])) (wrap .i64 (v5 - (wrap .i64 (Int.tdiv (wrap .i64 (a0*x0.f1)) (m99 (m157 a1)))))) from(by unfold h152_0; simp[hw,take_of_length_le,d_i,d_si,four_len]; done)] at st
    exact .loopN st ih
def post152_0 (n0 n1:Nat):O152_0→Prop
  |.k0 w0 w1 _ _ _=>length w0=n0∧length w1=n1
theorem z152_0 {a0:Int} {a1:(List K_si)}:∀(y0:List K_si) (i:Int) (v0:List K_si) (v1:List Int) (v5:Int),post152_0 (length v0+length y0) (length v1+length y0) (r152_0 a0 a1 y0 i v0 v1 v5)
  |[],i,v0,v1,v5=>by
    first | trivial |(simp only[post152_0,length_nil,Nat.add_zero]; done) |(simp[post152_0]; done)
  |x0::y0,i,v0,v1,v5=>by
    simp only[r152_0]
    have z:=z152_0 (a0:=a0) (a1:=a1) y0 (i+1) (v0++([(K_si.mk x0.f0 (wrap .i64 (Int.tdiv (wrap .i64 (a0*x0.f1)) (m99 (m157 a1)))))])) (v1++([(Int.tmod (wrap .i64 (a0*x0.f1)) (m99 (m157 a1)))])) (wrap .i64 (v5 - (wrap .i64 (Int.tdiv (wrap .i64 (a0*x0.f1)) (m99 (m157 a1))))))
    rw[show (length v0+length (x0::y0))=(length (v0++([(K_si.mk x0.f0 (wrap .i64 (Int.tdiv (wrap .i64 (a0*x0.f1)) (m99 (m157 a1)))))]))+length y0) from by first | omega |(simp only[LN]; done) |(simp only[LN]; omega),show (length v1+length (x0::y0))=(length (v1++([(Int.tmod (wrap .i64 (a0*x0.f1)) (m99 (m157 a1)))]))+length y0) from by first | omega |(simp only[LN]; done) |(simp only[LN]; omega)]
    exact z
theorem left_152 (a0:Int) (a1:List K_si):∀(l:List K_si) (i:Int) (v0:List K_si) (v1:List Int) (v4:Int),v4≤9223372036854775807→∀w0 w1 w2 w3 w4,r152_0 a0 a1 l i v0 v1 v4=.k0 w0 w1 w2 w3 w4→w2≤9223372036854775807
  |[],i,v0,v1,v4,h,w0,w1,w2,w3,w4,e=>by
    simp only[r152_0] at e
    injection e with e0 e1 e2 e3 e4
    omega
  |x::l,i,v0,v1,v4,h,w0,w1,w2,w3,w4,e=>by
    simp only[r152_0] at e
    exact left_152 a0 a1 l (i+1) _ _ _ (wrap64_range _).2 w0 w1 w2 w3 w4 e
inductive O152_2 where
  |k0 (w0:Int) (w1:Int) (w2:Bool)
def r152_2 (c1_152_2:List Int) (c4_152_2:List Int):Nat→Int→Int→O152_2
  |n+1,v0,v1=>
    if (decide (v1 < ((length (map d_i c1_152_2)) : Int))) = true then (if (decide ((getD c4_152_2 (toNat v1) 0) > (getD c4_152_2 (toNat v0) 0))) = true then (r152_2 c1_152_2 c4_152_2 n v1 (wrap .i64 (v1 + 1))) else
      (r152_2 c1_152_2 c4_152_2 n v0 (wrap .i64 (v1+1)))) else
    (O152_2.k0 v0 v1 (decide (v1 <((length (map d_i c1_152_2)):Int))))
  |0,v0,v1=>(O152_2.k0 v0 v1 (decide (v1 <((length (map d_i c1_152_2)):Int))))
def h152_2 (l1_0:Nat) (a0:Int) (a1:(List K_si)) (c2_152_1:Int) (c0_152_2:List K_si) (c1_152_2:List Int) (c2_152_2:Int) (c3_152_2:List K_si) (c4_152_2:List Int) (v0:Int) (v1:Int):St:=⟨[(7,(.one (.ref ⟨(7,0,0),[],0,(length (map d_si c0_152_2))⟩))),(8,(.one (.ref ⟨(8,0,0),[],0,(length (map d_i c1_152_2))⟩))),(9,(.one (.val (.int .i64 c2_152_2)))),(12,(.one (.val (.int .i64 v0)))),(13,(.one (.val (.int .i64 v1))))],[((7,0,0),.live ⟨2,(map d_si c3_152_2),[]⟩),((8,0,0),.live ⟨1,(map d_i c4_152_2),[]⟩)]⟩
def ex152_2:O152_2→VX.Exit
  |.k0 _ _ _=>(.exit 4)
def fin152_2 (l1_0:Nat) (a0:Int) (a1:(List K_si)) (c2_152_1:Int) (c0_152_2:List K_si) (c1_152_2:List Int) (c2_152_2:Int) (c3_152_2:List K_si) (c4_152_2:List Int):O152_2→St
  |.k0 w0 w1 w2=>⟨[(7,(.one (.ref ⟨(7,0,0),[],0,(length (map d_si c0_152_2))⟩))),(8,(.one (.ref ⟨(8,0,0),[],0,(length (map d_i c1_152_2))⟩))),(9,(.one (.val (.int .i64 c2_152_2)))),(12,(.one (.val (.int .i64 w0)))),(13,(.one (.val (.int .i64 w1)))),(68,(.one (.val (.bool w2))))],[((7,0,0),.live ⟨2,(map d_si c3_152_2),[]⟩),((8,0,0),.live ⟨1,(map d_i c4_152_2),[]⟩)]⟩
theorem t152_2 {l1_0:Nat} {a0:Int} {a1:(List K_si)} {c2_152_1:Int} {c0_152_2:List K_si} {c1_152_2:List Int} {c2_152_2:Int} {c3_152_2:List K_si} {c4_152_2:List Int} (hy0:length c0_152_2≤140737488351232) (hy1:length c1_152_2≤140737488351232) (hy2:length c3_152_2≤140737488351232) (hy3:length c4_152_2≤140737488351232):∀(n:Nat) (v0:Int) (v1:Int),0≤v1→((length (map d_i c1_152_2)):Int)≤9223372036854775807→0≤v0→v0 <(length c4_152_2:Int)→length c4_152_2=length c1_152_2→length c4_152_2≤1000→toNat (((length (map d_i c1_152_2)):Int) - v1)≤n→Ev F X (.code l152_2 (h152_2 l1_0 a0 a1 c2_152_1 c0_152_2 c1_152_2 c2_152_2 c3_152_2 c4_152_2 v0 v1) (ex152_2 (r152_2 c1_152_2 c4_152_2 n v0 v1)) (fin152_2 l1_0 a0 a1 c2_152_1 c0_152_2 c1_152_2 c2_152_2 c3_152_2 c4_152_2 (r152_2 c1_152_2 c4_152_2 n v0 v1)))
  |0,v0,v1,hi0,hi1,hi2,hi3,hi4,hi5,hn=>by
    have hc:¬(decide (v1 <((length (map d_i c1_152_2)):Int)))=true:=by first |(exact fuel64_zero hn) |(simp only[decide_eq_true_eq] at*; omega) |(simp at*; omega)
    have st:=ch b152_2 (h152_2 l1_0 a0 a1 c2_152_1 c0_152_2 c1_152_2 c2_152_2 c3_152_2 c4_152_2 v0 v1) ⟨[(7,(.one (.ref ⟨(7,0,0),[],0,(length (map d_si c0_152_2))⟩))),(8,(.one (.ref ⟨(8,0,0),[],0,(length (map d_i c1_152_2))⟩))),(9,(.oi c2_152_2)),(12,(.oi v0)),(13,(.oi v1)),(68,(.one (.val (.bool (decide (v1 <((length (map d_i c1_152_2)):Int)))))))],[((7,0,0),.live ⟨2,(map d_si c3_152_2),[]⟩),((8,0,0),.live ⟨1,(map d_i c4_152_2),[]⟩)]⟩ (.exit 4) 9 (by kernel_rfl) (.f (nt hc) (U 8 .nil))
    rw[show (⟨[(7,(.one (.ref ⟨(7,0,0),[],0,(length (map d_si c0_152_2))⟩))),(8,(.one (.ref ⟨(8,0,0),[],0,(length (map d_i c1_152_2))⟩))),(9,(.oi c2_152_2)),(12,(.oi v0)),(13,(.oi v1)),(68,(.one (.val (.bool (decide (v1 <((length (map d_i c1_152_2)):Int)))))))],[((7,0,0),.live ⟨2,(map d_si c3_152_2),[]⟩),((8,0,0),.live ⟨1,(map d_i c4_152_2),[]⟩)]⟩:St)=fin152_2 l1_0 a0 a1 c2_152_1 c0_152_2 c1_152_2 c2_152_2 c3_152_2 c4_152_2 (.k0 v0 v1 (decide (v1 <((length (map d_i c1_152_2)):Int)))) from(by rfl)] at st
    exact .loopX st (show ((.exit 4):VX.Exit)≠.normal from by simp)
  |n+1,v0,v1,hi0,hi1,hi2,hi3,hi4,hi5,hn=>by
    simp only[r152_2]
    by_cases h_0:(decide (v1 <((length (map d_i c1_152_2)):Int)))=true
    · try simp only[if_pos h_0]
      have f1:0+(length (map d_i c1_152_2))≤(length (map d_i c4_152_2)):=(by have q:=mlen_157 a1; simp only[length_map,length_nil,Nat.zero_add] at*; omega)
      have f2:0≤v1∧v1 <((length (map d_i c1_152_2)):Int):=(by simp only[decide_eq_true_eq,length_map] at*; omega)
      have f5:0≤v0∧v0 <((length (map d_i c1_152_2)):Int):=(by have q:=mlen_157 a1; simp only[length_map,length_nil,Nat.zero_add] at*; omega)
      have P1 {hs q} (r:PS F X hs q):=(PS.f h_0 (.f f1 (.f f2 (.f (mz_ d_i (getD_at c4_152_2 (toNat v1) 0 (by have q:=mlen_157 a1; simp only[length_map,length_nil,Nat.zero_add] at*; omega))) (.f f1 (.f f5 (.f (mz_ d_i (getD_at c4_152_2 (toNat v0) 0 (by omega))) (T 8 (.h 16 (.rowD [(.i (getD c4_152_2 (toNat v1) 0))]) (.h 24 (.rowD [(.i (getD c4_152_2 (toNat v0) 0))]) r))))))))))
      by_cases h_1:(decide ((getD c4_152_2 (toNat v1) 0) >(getD c4_152_2 (toNat v0) 0)))=true
      · try simp only[if_pos h_1]
        have st:=ch b152_2 (h152_2 l1_0 a0 a1 c2_152_1 c0_152_2 c1_152_2 c2_152_2 c3_152_2 c4_152_2 v0 v1) ⟨[(7,(.one (.ref ⟨(7,0,0),[],0,(length (map d_si c0_152_2))⟩))),(8,(.one (.ref ⟨(8,0,0),[],0,(length (map d_i c1_152_2))⟩))),(9,(.oi c2_152_2)),(12,(.oi v1)),(13,(.oi (wrap .i64 (v1+1))))],[((7,0,0),.live ⟨2,(map d_si c3_152_2),[]⟩),((8,0,0),.live ⟨1,(map d_i c4_152_2),[]⟩)]⟩ .normal 38 (by kernel_rfl) (P1 (.f h_1 (.f trivial (T 27 .nil))))
        have ih:=t152_2 (l1_0:=l1_0) (a0:=a0) (a1:=a1) (c2_152_1:=c2_152_1) (c0_152_2:=c0_152_2) (c1_152_2:=c1_152_2) (c2_152_2:=c2_152_2) (c3_152_2:=c3_152_2) (c4_152_2:=c4_152_2) hy0 hy1 hy2 hy3 n v1 (wrap .i64 (v1+1)) (by rw[wrap64 (by simp only[decide_eq_true_eq] at*; omega)]; omega) (by assumption) (by assumption) (by simp only[decide_eq_true_eq,length_map] at*; omega) (by assumption) (by assumption) (by rw[wrap64 (by simp only[decide_eq_true_eq] at*; omega)]; simp only[decide_eq_true_eq] at*; omega)
        rw[show (⟨[(7,(.one (.ref ⟨(7,0,0),[],0,(length (map d_si c0_152_2))⟩))),(8,(.one (.ref ⟨(8,0,0),[],0,(length (map d_i c1_152_2))⟩))),(9,(.oi c2_152_2)),(12,(.oi v1)),(13,(.oi (wrap .i64 (v1+1))))],[((7,0,0),.live ⟨2,(map d_si c3_152_2),[]⟩),((8,0,0),.live ⟨1,(map d_i c4_152_2),[]⟩)]⟩:St)=h152_2 l1_0 a0 a1 c2_152_1 c0_152_2 c1_152_2 c2_152_2 c3_152_2 c4_152_2 v1 (wrap .i64 (v1+1)) from(by rfl)] at st
        exact .loopN st ih
      try simp only[if_neg h_1]
      have st:=ch b152_2 (h152_2 l1_0 a0 a1 c2_152_1 c0_152_2 c1_152_2 c2_152_2 c3_152_2 c4_152_2 v0 v1) ⟨[(7,(.one (.ref ⟨(7,0,0),[],0,(length (map d_si c0_152_2))⟩))),(8,(.one (.ref ⟨(8,0,0),[],0,(length (map d_i c1_152_2))⟩))),(9,(.oi c2_152_2)),(12,(.oi v0)),(13,(.oi (wrap .i64 (v1+1))))],[((7,0,0),.live ⟨2,(map d_si c3_152_2),[]⟩),((8,0,0),.live ⟨1,(map d_i c4_152_2),[]⟩)]⟩ .normal 34 (by kernel_rfl) (P1 (.f (nt h_1) (.f trivial (U 27 .nil))))
      have ih:=t152_2 (l1_0:=l1_0) (a0:=a0) (a1:=a1) (c2_152_1:=c2_152_1) (c0_152_2:=c0_152_2) (c1_152_2:=c1_152_2) (c2_152_2:=c2_152_2) (c3_152_2:=c3_152_2) (c4_152_2:=c4_152_2) hy0 hy1 hy2 hy3 n v0 (wrap .i64 (v1+1)) (by rw[wrap64 (by simp only[decide_eq_true_eq] at*; omega)]; omega) (by assumption) (by assumption) (by assumption) (by assumption) (by assumption) (by rw[wrap64 (by simp only[decide_eq_true_eq] at*; omega)]; simp only[decide_eq_true_eq] at*; omega)
      rw[show (⟨[(7,(.one (.ref ⟨(7,0,0),[],0,(length (map d_si c0_152_2))⟩))),(8,(.one (.ref ⟨(8,0,0),[],0,(length (map d_i c1_152_2))⟩))),(9,(.oi c2_152_2)),(12,(.oi v0)),(13,(.oi (wrap .i64 (v1+1))))],[((7,0,0),.live ⟨2,(map d_si c3_152_2),[]⟩),((8,0,0),.live ⟨1,(map d_i c4_152_2),[]⟩)]⟩:St)=h152_2 l1_0 a0 a1 c2_152_1 c0_152_2 c1_152_2 c2_152_2 c3_152_2 c4_152_2 v0 (wrap .i64 (v1+1)) from(by rfl)] at st
      exact .loopN st ih
    try simp only[if_neg h_0]
    have st:=ch b152_2 (h152_2 l1_0 a0 a1 c2_152_1 c0_152_2 c1_152_2 c2_152_2 c3_152_2 c4_152_2 v0 v1) ⟨[(7,(.one (.ref ⟨(7,0,0),[],0,(length (map d_si c0_152_2))⟩))),(8,(.one (.ref ⟨(8,0,0),[],0,(length (map d_i c1_152_2))⟩))),(9,(.oi c2_152_2)),(12,(.oi v0)),(13,(.oi v1)),(68,(.one (.val (.bool (decide (v1 <((length (map d_i c1_152_2)):Int)))))))],[((7,0,0),.live ⟨2,(map d_si c3_152_2),[]⟩),((8,0,0),.live ⟨1,(map d_i c4_152_2),[]⟩)]⟩ (.exit 4) 9 (by kernel_rfl) (.f (nt h_0) (U 8 .nil))
    rw[show (⟨[(7,(.one (.ref ⟨(7,0,0),[],0,(length (map d_si c0_152_2))⟩))),(8,(.one (.ref ⟨(8,0,0),[],0,(length (map d_i c1_152_2))⟩))),(9,(.oi c2_152_2)),(12,(.oi v0)),(13,(.oi v1)),(68,(.one (.val (.bool (decide (v1 <((length (map d_i c1_152_2)):Int)))))))],[((7,0,0),.live ⟨2,(map d_si c3_152_2),[]⟩),((8,0,0),.live ⟨1,(map d_i c4_152_2),[]⟩)]⟩:St)=fin152_2 l1_0 a0 a1 c2_152_1 c0_152_2 c1_152_2 c2_152_2 c3_152_2 c4_152_2 (.k0 v0 v1 (decide (v1 <((length (map d_i c1_152_2)):Int)))) from(by rfl)] at st
    exact .loopX st (show ((.exit 4):VX.Exit)≠.normal from by simp)
def post152_2 (a0:Int) (a1:(List K_si)) (c2_152_1:Int) (c0_152_2:List K_si) (c1_152_2:List Int) (c2_152_2:Int) (c3_152_2:List K_si) (c4_152_2:List Int):O152_2→Prop
  |.k0 w0 _ _=>0≤w0∧w0 <(length c4_152_2:Int)
theorem z152_2 {a0:Int} {a1:(List K_si)} {c2_152_1:Int} {c0_152_2:List K_si} {c1_152_2:List Int} {c2_152_2:Int} {c3_152_2:List K_si} {c4_152_2:List Int} (hy0:length c0_152_2≤140737488351232) (hy1:length c1_152_2≤140737488351232) (hy2:length c3_152_2≤140737488351232) (hy3:length c4_152_2≤140737488351232):∀(n:Nat) (v0:Int) (v1:Int),0≤v1→((length (map d_i c1_152_2)):Int)≤9223372036854775807→0≤v0→v0 <(length c4_152_2:Int)→length c4_152_2=length c1_152_2→length c4_152_2≤1000→post152_2 a0 a1 c2_152_1 c0_152_2 c1_152_2 c2_152_2 c3_152_2 c4_152_2 (r152_2 c1_152_2 c4_152_2 n v0 v1)
  |0,v0,v1,hi0,hi1,hi2,hi3,hi4,hi5=>by
    simp only[r152_2]
    first | trivial |(show _ ; simp only[post152_2]; omega) |(simp only[post152_2] at*; omega) |(simp only[decide_eq_true_eq,length_map] at*; omega) |(rw[wrap64 yr]; omega) |(simp only[decide_eq_true_eq] at*; omega)
  |n+1,v0,v1,hi0,hi1,hi2,hi3,hi4,hi5=>by
    simp only[r152_2]
    by_cases h_0:(decide (v1 <((length (map d_i c1_152_2)):Int)))=true
    · try simp only[if_pos h_0]
      by_cases h_1:(decide ((getD c4_152_2 (toNat v1) 0) >(getD c4_152_2 (toNat v0) 0)))=true
      · try simp only[if_pos h_1]
        exact z152_2 (a0:=a0) (a1:=a1) (c2_152_1:=c2_152_1) (c0_152_2:=c0_152_2) (c1_152_2:=c1_152_2) (c2_152_2:=c2_152_2) (c3_152_2:=c3_152_2) (c4_152_2:=c4_152_2) hy0 hy1 hy2 hy3 n v1 (wrap .i64 (v1+1)) yY (by assumption) (by assumption) yI (by assumption) (by assumption)
      try simp only[if_neg h_1]
      exact z152_2 (a0:=a0) (a1:=a1) (c2_152_1:=c2_152_1) (c0_152_2:=c0_152_2) (c1_152_2:=c1_152_2) (c2_152_2:=c2_152_2) (c3_152_2:=c3_152_2) (c4_152_2:=c4_152_2) hy0 hy1 hy2 hy3 n v0 (wrap .i64 (v1+1)) yY (by assumption) (by assumption) (by assumption) (by assumption) (by assumption)
    try simp only[if_neg h_0]
    first | trivial |(show _ ; simp only[post152_2]; omega) |(simp only[post152_2] at*; omega) |(simp only[decide_eq_true_eq,length_map] at*; omega) |(rw[wrap64 yr]; omega) |(simp only[decide_eq_true_eq] at*; omega)
inductive O152_1 where
  |k0 (w0:List K_si) (w1:List Int) (w2:Int) (w3:Bool)
def r152_1 (c1_152_1:List Int):Nat→Int→List K_si→List Int→O152_1
  |n+1,i,v0,v1=>
    (match r152_2 c1_152_1 v1 (toNat (((length (map d_i c1_152_1)):Int) - 1)) 0 1 with | .k0 w0_1 w1_1 w2_1=>(r152_1 c1_152_1 n (i - 1) (set v0 (toNat w0_1) (K_si.mk ((getD v0 (toNat w0_1) (K_si.mk (⟨#[]⟩:ByteArray) 0)).f0) (wrap .i64 (((getD v0 (toNat w0_1) (K_si.mk (⟨#[]⟩:ByteArray) 0)).f1)+1)))) (set v1 (toNat w0_1) (-1))))
  |0,i,v0,v1=>(O152_1.k0 v0 v1 i (decide (i > 0)))
def h152_1 (l1_0:Nat) (a0:Int) (a1:(List K_si)) (c0_152_1:List K_si) (c1_152_1:List Int) (c2_152_1:Int) (i:Int) (v0:List K_si) (v1:List Int):St:=⟨[(7,(.one (.ref ⟨(7,0,0),[],0,(length (map d_si c0_152_1))⟩))),(8,(.one (.ref ⟨(8,0,0),[],0,(length (map d_i c1_152_1))⟩))),(9,(.one (.val (.int .i64 i))))],[((7,0,0),.live ⟨2,(map d_si v0),[]⟩),((8,0,0),.live ⟨1,(map d_i v1),[]⟩)]⟩
def ex152_1:O152_1→VX.Exit
  |.k0 _ _ _ _=>(.exit 2)
def fin152_1 (l1_0:Nat) (a0:Int) (a1:(List K_si)) (c0_152_1:List K_si) (c1_152_1:List Int) (c2_152_1:Int):O152_1→St
  |.k0 w0 w1 w2 w3=>⟨[(7,(.one (.ref ⟨(7,0,0),[],0,(length (map d_si c0_152_1))⟩))),(8,(.one (.ref ⟨(8,0,0),[],0,(length (map d_i c1_152_1))⟩))),(9,(.one (.val (.int .i64 w2)))),(62,(.one (.val (.bool w3))))],[((7,0,0),.live ⟨2,(map d_si w0),[]⟩),((8,0,0),.live ⟨1,(map d_i w1),[]⟩)]⟩
theorem t152_1 {l1_0:Nat} {a0:Int} {a1:(List K_si)} {c0_152_1:List K_si} {c1_152_1:List Int} {c2_152_1:Int} (hy0:0≤a0) (hy1:a0≤1000000) (hy2:0 < length a1) (hy3:length a1≤12) (hy4:∀z∈a1,1≤z.f1∧z.f1≤9999) (hy5:length c0_152_1≤140737488351232) (hy6:length c1_152_1≤140737488351232):∀(n:Nat) (i:Int) (v0:List K_si) (v1:List Int),n=toNat i→length v0=(length (map d_si c0_152_1))→length v1=(length (map d_i c1_152_1))→i≤9223372036854775807→length v0=length v1→1≤length v1→length v1≤1000→Ev F X (.code l152_1 (h152_1 l1_0 a0 a1 c0_152_1 c1_152_1 c2_152_1 i v0 v1) (ex152_1 (r152_1 c1_152_1 n i v0 v1)) (fin152_1 l1_0 a0 a1 c0_152_1 c1_152_1 c2_152_1 (r152_1 c1_152_1 n i v0 v1)))
  |0,i,v0,v1,hn,hi0,hi1,hi2,hi3,hi4,hi5=>by
    have hc:¬(decide (i > 0))=true:=by
      simp only[decide_eq_true_eq]; omega
    have st:=ch b152_1 (h152_1 l1_0 a0 a1 c0_152_1 c1_152_1 c2_152_1 i v0 v1) ⟨[(7,(.one (.ref ⟨(7,0,0),[],0,(length (map d_si c0_152_1))⟩))),(8,(.one (.ref ⟨(8,0,0),[],0,(length (map d_i c1_152_1))⟩))),(9,(.oi i)),(62,(.one (.val (.bool (decide (i > 0))))))],[((7,0,0),.live ⟨2,(map d_si v0),[]⟩),((8,0,0),.live ⟨1,(map d_i v1),[]⟩)]⟩ (.exit 2) 5 (by kernel_rfl) (.f (nt hc) (U 4 .nil))
    rw[show (⟨[(7,(.one (.ref ⟨(7,0,0),[],0,(length (map d_si c0_152_1))⟩))),(8,(.one (.ref ⟨(8,0,0),[],0,(length (map d_i c1_152_1))⟩))),(9,(.oi i)),(62,(.one (.val (.bool (decide (i > 0))))))],[((7,0,0),.live ⟨2,(map d_si v0),[]⟩),((8,0,0),.live ⟨1,(map d_i v1),[]⟩)]⟩:St)=fin152_1 l1_0 a0 a1 c0_152_1 c1_152_1 c2_152_1 (.k0 v0 v1 i (decide (i > 0))) from(by rfl)] at st
    exact .loopX st (show ((.exit 2):VX.Exit)≠.normal from by simp)
  |n+1,i,v0,v1,hn,hi0,hi1,hi2,hi3,hi4,hi5=>by
    have hc:(decide (i > 0))=true:=by
      simp only[decide_eq_true_eq]; omega
    have hw:wrap .i64 (i - 1)=i - 1:=wrap64 (by omega)
    have hj0:=hi0; try simp only[LN,Int.toNat_natCast] at hj0
    have hj1:=hi1; try simp only[LN,Int.toNat_natCast] at hj1
    have hj2:=hi2; try simp only[LN,Int.toNat_natCast] at hj2
    have hj3:=hi3; try simp only[LN,Int.toNat_natCast] at hj3
    have hj4:=hi4; try simp only[LN,Int.toNat_natCast] at hj4
    have hj5:=hi5; try simp only[LN,Int.toNat_natCast] at hj5
    simp only[r152_1]
    cases h_1:r152_2 c1_152_1 v1 (toNat (((length (map d_i c1_152_1)):Int) - 1)) 0 1 with
    |k0 w0_1 w1_1 w2_1=>
      try dsimp only
      have zh_152_1_1:=z152_2 (a0:=a0) (a1:=a1) (c2_152_1:=c2_152_1) (c0_152_2:=c0_152_1) (c1_152_2:=c1_152_1) (c2_152_2:=i) (c3_152_2:=v0) (c4_152_2:=v1) (by assumption) (by assumption) (by omega) (by omega) (toNat (((length (map d_i c1_152_1)):Int) - 1)) 0 1 (by omega) (by omega) (by omega) (by omega) (by omega) (by omega); rw[h_1] at zh_152_1_1; simp only[post152_2] at zh_152_1_1
      have f1:(⟨[(7,(.one (.ref ⟨(7,0,0),[],0,(length (map d_si c0_152_1))⟩))),(8,(.one (.ref ⟨(8,0,0),[],0,(length (map d_i c1_152_1))⟩))),(9,(.oi i)),(12,(.oi 0)),(13,(.oi 1))],[((7,0,0),.live ⟨2,(map d_si v0),[]⟩),((8,0,0),.live ⟨1,(map d_i v1),[]⟩)]⟩:St)=h152_2 l1_0 a0 a1 c2_152_1 c0_152_1 c1_152_1 i v0 v1 0 1:=(by rfl)
      have f3:0+(length (map d_si c0_152_1))≤(length (map d_si v0)):=(by have q:=mlen_157 a1; simp only[length_map,length_nil,Nat.zero_add] at*; omega)
      have f4:0≤w0_1∧w0_1 <((length (map d_si c0_152_1)):Int):=(by omega)
      have f10:(set (map d_si v0) (0+(toNat w0_1)) [(.val (.string ((getD v0 (toNat w0_1) (K_si.mk (⟨#[]⟩:ByteArray) 0)).f0))),(.i (wrap .i64 (((getD v0 (toNat w0_1) (K_si.mk (⟨#[]⟩:ByteArray) 0)).f1)+1)))])=(map d_si (set v0 (toNat w0_1) (K_si.mk ((getD v0 (toNat w0_1) (K_si.mk (⟨#[]⟩:ByteArray) 0)).f0) (wrap .i64 (((getD v0 (toNat w0_1) (K_si.mk (⟨#[]⟩:ByteArray) 0)).f1)+1))))):=(by simp[take_of_length_le,d_si,four_len]; done)
      have f11:0+(length (map d_i c1_152_1))≤(length (map d_i v1)):=(by have q:=mlen_157 a1; simp only[length_map,length_nil,Nat.zero_add] at*; omega)
      have f12:0≤w0_1∧w0_1 <((length (map d_i c1_152_1)):Int):=(by omega)
      have f14:(set (map d_i v1) (0+(toNat w0_1)) [(.i (-1))])=(map d_i (set v1 (toNat w0_1) (-1))):=(by simp[take_of_length_le,d_i,four_len]; done)
      have st:=ch b152_1 (h152_1 l1_0 a0 a1 c0_152_1 c1_152_1 c2_152_1 i v0 v1) ⟨[(7,(.one (.ref ⟨(7,0,0),[],0,(length (map d_si c0_152_1))⟩))),(8,(.one (.ref ⟨(8,0,0),[],0,(length (map d_i c1_152_1))⟩))),(9,(.oi (wrap .i64 (i - 1))))],[((7,0,0),.live ⟨2,(map d_si (set v0 (toNat w0_1) (K_si.mk ((getD v0 (toNat w0_1) (K_si.mk (⟨#[]⟩:ByteArray) 0)).f0) (wrap .i64 (((getD v0 (toNat w0_1) (K_si.mk (⟨#[]⟩:ByteArray) 0)).f1)+1))))),[]⟩),((8,0,0),.live ⟨1,(map d_i (set v1 (toNat w0_1) (-1))),[]⟩)]⟩ .normal 44 (by kernel_rfl) (.f hc (.f f1 (.f (ev_ (e:=ex152_2) (g:=(fin152_2 l1_0 a0 a1 c2_152_1 c0_152_1 c1_152_1 i v0 v1)) h_1 (t152_2 (l1_0:=l1_0) (a0:=a0) (a1:=a1) (c2_152_1:=c2_152_1) (c0_152_2:=c0_152_1) (c1_152_2:=c1_152_1) (c2_152_2:=i) (c3_152_2:=v0) (c4_152_2:=v1) (by assumption) (by assumption) (by omega) (by omega) (toNat (((length (map d_i c1_152_1)):Int) - 1)) 0 1 (by omega) (by omega) (by omega) (by omega) (by omega) (by omega) (Nat.le_refl _))) (.f f3 (.f f4 (.f (mz_ d_si (getD_at v0 (toNat w0_1) (K_si.mk (⟨#[]⟩:ByteArray) 0) (by omega))) (.f trivial (.f f3 (.f f4 (.f (mz_ d_si (getD_at v0 (toNat w0_1) (K_si.mk (⟨#[]⟩:ByteArray) 0) (by omega))) (.f f10 (.f f11 (.f f12 (.f (mz_ d_i (getD_at v1 (toNat w0_1) 0 (by omega))) (.f f14 (T 4 (.h 9 (.loop (h152_2 l1_0 a0 a1 c2_152_1 c0_152_1 c1_152_1 i v0 v1 0 1) (.exit 4) ⟨[(7,(.one (.ref ⟨(7,0,0),[],0,(length (map d_si c0_152_1))⟩))),(8,(.one (.ref ⟨(8,0,0),[],0,(length (map d_i c1_152_1))⟩))),(9,(.oi i)),(12,(.oi w0_1)),(13,(.oi w1_1)),(68,(.one (.val (.bool w2_1))))],[((7,0,0),.live ⟨2,(map d_si v0),[]⟩),((8,0,0),.live ⟨1,(map d_i v1),[]⟩)]⟩) (.h 19 (.rowD (d_si (getD v0 (toNat w0_1) (K_si.mk (⟨#[]⟩:ByteArray) 0)))) (.h 27 (.rowD (d_si (getD v0 (toNat w0_1) (K_si.mk (⟨#[]⟩:ByteArray) 0)))) (.h 28 (.norm (7,0,0) (map d_si (set v0 (toNat w0_1) (K_si.mk ((getD v0 (toNat w0_1) (K_si.mk (⟨#[]⟩:ByteArray) 0)).f0) (wrap .i64 (((getD v0 (toNat w0_1) (K_si.mk (⟨#[]⟩:ByteArray) 0)).f1)+1)))))) (.h 36 (.rowD [(.i (getD v1 (toNat w0_1) 0))]) (.h 37 (.norm (8,0,0) (map d_i (set v1 (toNat w0_1) (-1)))) .nil))))))))))))))))))))))
      have ih:=t152_1 (l1_0:=l1_0) (a0:=a0) (a1:=a1) (c0_152_1:=c0_152_1) (c1_152_1:=c1_152_1) (c2_152_1:=c2_152_1) hy0 hy1 hy2 hy3 hy4 hy5 hy6 n (i - 1) (set v0 (toNat w0_1) (K_si.mk ((getD v0 (toNat w0_1) (K_si.mk (⟨#[]⟩:ByteArray) 0)).f0) (wrap .i64 (((getD v0 (toNat w0_1) (K_si.mk (⟨#[]⟩:ByteArray) 0)).f1)+1)))) (set v1 (toNat w0_1) (-1)) (by omega) (by simp only[LN]; omega) (by simp only[LN]; omega) (by omega) (by simp only[LN]; omega) (by simp only[LN]; omega) (by simp only[LN]; omega)
      rw[show (⟨[(7,(.one (.ref ⟨(7,0,0),[],0,(length (map d_si c0_152_1))⟩))),(8,(.one (.ref ⟨(8,0,0),[],0,(length (map d_i c1_152_1))⟩))),(9,(.oi (wrap .i64 (i - 1))))],[((7,0,0),.live ⟨2,(map d_si (set v0 (toNat w0_1) (K_si.mk ((getD v0 (toNat w0_1) (K_si.mk (⟨#[]⟩:ByteArray) 0)).f0) (wrap .i64 (((getD v0 (toNat w0_1) (K_si.mk (⟨#[]⟩:ByteArray) 0)).f1)+1))))),[]⟩),((8,0,0),.live ⟨1,(map d_i (set v1 (toNat w0_1) (-1))),[]⟩)]⟩:St)=h152_1 l1_0 a0 a1 c0_152_1 c1_152_1 c2_152_1 (i - 1) (set v0 (toNat w0_1) (K_si.mk ((getD v0 (toNat w0_1) (K_si.mk (⟨#[]⟩:ByteArray) 0)).f0) (wrap .i64 (((getD v0 (toNat w0_1) (K_si.mk (⟨#[]⟩:ByteArray) 0)).f1)+1)))) (set v1 (toNat w0_1) (-1)) from(by unfold h152_1; simp only[hw]; done)] at st
      exact .loopN st ih
def post152_1 (n0 n1:Nat):O152_1→Prop
  |.k0 w0 w1 _ _=>length w0=n0∧length w1=n1
theorem z152_1 {c1_152_1:List Int}:∀(n:Nat) (i:Int) (v0:List K_si) (v1:List Int),post152_1 (length v0) (length v1) (r152_1 c1_152_1 n i v0 v1)
  |0,i,v0,v1=>by
    first | trivial |(simp only[post152_1,length_nil,Nat.add_zero]; done) |(simp[post152_1]; done)
  |n+1,i,v0,v1=>by
    simp only[r152_1]
    cases h_1:r152_2 c1_152_1 v1 (toNat (((length (map d_i c1_152_1)):Int) - 1)) 0 1 with
    |k0 w0_1 w1_1 w2_1=>
      try dsimp only
      have z:=z152_1 (c1_152_1:=c1_152_1) n (i - 1) (set v0 (toNat w0_1) (K_si.mk ((getD v0 (toNat w0_1) (K_si.mk (⟨#[]⟩:ByteArray) 0)).f0) (wrap .i64 (((getD v0 (toNat w0_1) (K_si.mk (⟨#[]⟩:ByteArray) 0)).f1)+1)))) (set v1 (toNat w0_1) (-1))
      rw[show (length v0)=(length (set v0 (toNat w0_1) (K_si.mk ((getD v0 (toNat w0_1) (K_si.mk (⟨#[]⟩:ByteArray) 0)).f0) (wrap .i64 (((getD v0 (toNat w0_1) (K_si.mk (⟨#[]⟩:ByteArray) 0)).f1)+1))))) from by first | omega |(simp only[LN]; done) |(simp only[LN]; omega),show (length v1)=(length (set v1 (toNat w0_1) (-1))) from by first | omega |(simp only[LN]; done) |(simp only[LN]; omega)]
      exact z
end Go.Proofs.YtihjlmgakpgkeaaDoor.Journals
