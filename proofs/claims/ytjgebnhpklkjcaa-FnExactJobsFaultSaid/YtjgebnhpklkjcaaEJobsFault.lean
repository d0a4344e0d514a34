/- What the functions compute. -/
import Derived.Test.YtjgebnhpklkjcaaEJobsFaultE
import Derived.KernelRfl
namespace Go.Proofs.Ytjgebnhpklkjcaa.JobsFault
open Go Go.Proofs.Ytjgebnhpklkjcaa.V
set_option linter.unusedVariables false
set_option linter.unusedSimpArgs false
set_option maxRecDepth 20000
open Go.IntKind (wrap)
open Int (toNat)
open List (length_replicate length_map length_set length_append length_cons length_nil length_take length_drop take_of_length_le map_take map_drop map_set append_assoc getElem?_map map length take drop getD set)
attribute [local simp] toBR_i fullR_i pureR_i lenB_i lenD_i fromBR_i copy_i toBR_iiLiE fullR_iiLiE pureR_iiLiE lenB_iiLiE lenD_iiLiE toBR_iLiE fullR_iLiE pureR_iLiE lenB_iLiE lenD_iLiE toBR_iLiiLiEELiLiEE fullR_iLiiLiEELiLiEE pureR_iLiiLiEELiLiEE lenB_iLiiLiEELiLiEE lenD_iLiiLiEELiLiEE toBR_iiiiiLiLiiLiEELiLiEEE fullR_iiiiiLiLiiLiEELiLiEEE pureR_iiiiiLiLiiLiEELiLiEEE lenB_iiiiiLiLiiLiEELiLiEEE lenD_iiiiiLiLiiLiEELiLiEEE toBR_LiiiiiLiLiiLiEELiLiEEEE fullR_LiiiiiLiLiiLiEELiLiEEEE pureR_LiiiiiLiLiiLiEELiLiEEEE lenB_LiiiiiLiLiiLiEELiLiEEEE lenD_LiiiiiLiLiiLiEELiLiEEEE toBR_b fullR_b pureR_b lenB_b lenD_b fromBR_b copy_b toBR_iiiiLiLiiLiEELiLiEEE fullR_iiiiLiLiiLiEELiLiEEE pureR_iiiiLiLiiLiEELiLiEEE lenB_iiiiLiLiiLiEELiLiEEE lenD_iiiiLiLiiLiEELiLiEEE toBR_LiE fullR_LiE pureR_LiE lenB_LiE lenD_LiE toBR_LiLiiLiEELiLiEEE fullR_LiLiiLiEELiLiEEE pureR_LiLiiLiEELiLiEEE lenB_LiLiiLiEELiLiEEE lenD_LiLiiLiEELiLiEEE toBR_LiiLiEE fullR_LiiLiEE pureR_LiiLiEE lenB_LiiLiEE lenD_LiiLiEE toBR_LiLiEE fullR_LiLiEE pureR_LiLiEE lenB_LiLiEE lenD_LiLiEE strInts_len byteRows_len toBR_y fullR_y pureR_y lenB_y lenD_y fromBR_y copy_y toBR_LyE fullR_LyE pureR_LyE lenB_LyE lenD_LyE toBR_LLyEE fullR_LLyEE pureR_LLyEE lenB_LLyEE lenD_LLyEE
/-! loop.example/g00539/laws.eqOutS -/
def m74 (a0:(List K_iLiE)) (a1:(List K_iLiE)):Bool:=
  if(((length (map b_iLiE a0)):Int) !=((length (map b_iLiE a1)):Int))=true then false else
  (match r74_0 a0 a0 a1 0 with | .k0 w0_1 w1_1=>true | .k1=>false)
theorem e74 {l0_0:Nat} {a0:(List K_iLiE)} {l1_0:Nat} {a1:(List K_iLiE)} (hy0:length a0*32≤140737488351232) (hy1:∀z∈a0,ok_iLiE z) (hy2:length a1*32≤140737488351232) (hy3:∀z∈a1,ok_iLiE z):Ev F X (.call 74 [(.one (.bor l0_0 (map b_iLiE a0))),(.one (.bor l1_0 (map b_iLiE a1)))] [] [] [(.one (.val (.bool (m74 a0 a1))))]):=by
  unfold m74
  by_cases h0:(((length (map b_iLiE a0)):Int) !=((length (map b_iLiE a1)):Int))=true
  · try simp only[if_pos h0]
    exact cp (by kernel_rfl) (.f h0 (.h 12 (.b true) .nil))
  · try simp only[if_neg h0]
    cases h1:r74_0 a0 a0 a1 0 with
    |k0 w0_1 w1_1=>
      try dsimp only
      have f1:(⟨[(0,(.one (.bor l0_0 (map b_iLiE a0)))),(1,(.one (.bor l1_0 (map b_iLiE a1)))),(5,(.oi 0))],[]⟩:St)=h74_0 l0_0 l1_0 a0 a1 0 :=(by rfl)
      exact cp (by kernel_rfl) (.f (nt h0) (.f f1 (.f (ev_ (e:=ex74_0) (g:=(fin74_0 l0_0 l1_0 a0 a1)) h1 (t74_0 (l0_0:=l0_0) (l1_0:=l1_0) (a0:=a0) (a1:=a1) (by assumption) (by assumption) (by assumption) (by assumption) a0 a1 [] []  rfl rfl rfl (by simp at*; omega))) (.h 12 (.b false) (.h 15 (.loop (h74_0 l0_0 l1_0 a0 a1 0) (.exit 0) ⟨[(0,(.one (.bor l0_0 (map b_iLiE a0)))),(1,(.one (.bor l1_0 (map b_iLiE a1)))),(5,(.one (.val (.int .i64 w0_1)))),(14,(.one (.val (.bool w1_1))))],[]⟩) .nil)))))
    |k1=>
      try dsimp only
      have f1:(⟨[(0,(.one (.bor l0_0 (map b_iLiE a0)))),(1,(.one (.bor l1_0 (map b_iLiE a1)))),(5,(.oi 0))],[]⟩:St)=h74_0 l0_0 l1_0 a0 a1 0 :=(by rfl)
      exact cp (by kernel_rfl) (.f (nt h0) (.f f1 (.f (ev_ (e:=ex74_0) (g:=(fin74_0 l0_0 l1_0 a0 a1)) h1 (t74_0 (l0_0:=l0_0) (l1_0:=l1_0) (a0:=a0) (a1:=a1) (by assumption) (by assumption) (by assumption) (by assumption) a0 a1 [] []  rfl rfl rfl (by simp at*; omega))) (.h 12 (.b false) (.h 15 (.loop (h74_0 l0_0 l1_0 a0 a1 0) .ret ⟨[(4,(.one (.val (.bool false))))],[]⟩) .nil)))))
theorem eqr74_0 (a0:(List K_iLiE)):∀(l m:List K_iLiE) (i:Int),l.length=m.length→(r74_0 a0 l m i=.k1∧l≠m)∨(∃w0 w1,r74_0 a0 l m i=.k0 w0 w1∧l=m)
  |[],[],i,_=>.inr ⟨_,_,rfl,rfl⟩
  |[],_::_,i,h=>by simp at h
  |_::_,[],i,h=>by simp at h
  |x::l,y::m,i,h=>by
    have ih:=eqr74_0 a0 l m (i+1) (by simpa using h)
    by_cases hxy:x=y
    · subst hxy
      have e:r74_0 a0 (x::l) (x::m) i=r74_0 a0 l m (i+1):=by simp[r74_0,ba_eq,eqd88]
      rw[e]
      rcases ih with⟨h1,h2⟩ |⟨w0,w1,h1,h2⟩
      · exact .inl ⟨h1,by simp[h2]⟩
      · exact .inr ⟨_,_,h1,by rw[h2]⟩
    · have e:r74_0 a0 (x::l) (y::m) i=.k1:=by
        simp only[r74_0]
        first
          |((repeat' split)<;>simp_all [ba_eq,eqd88]; done)
          |(cases x; cases y;(repeat' split)<;>simp_all [ba_eq,eqd88])
      exact .inl ⟨e,by simp[hxy]⟩
open Classical in
theorem eqd74 (a b:(List K_iLiE)):m74 a b=decide (a=b):=by
  rw[Bool.eq_iff_iff,decide_eq_true_eq]
  unfold m74
  by_cases hl:length a=length b
  · rcases eqr74_0 a a b 0 hl with⟨h1,h2⟩ |⟨w0,w1,h1,h2⟩
    · simp only[h1,length_map,hl]
      first
        |(simp[h2,ba_eq,eqd88]; done)
        |(cases a; cases b; simp_all [ba_eq,eqd88]; done)
        |(cases a; cases b;(repeat' split)<;>simp_all [ba_eq,eqd88])
    · simp only[h1,length_map,hl]
      first
        |(simp[h2,ba_eq,eqd88]; done)
        |(cases a; cases b; simp_all [ba_eq,eqd88]; done)
        |(cases a; cases b;(repeat' split)<;>simp_all [ba_eq,eqd88])
  · have hn:a≠b:=by rintro rfl; exact hl rfl
    simp only[length_map]
    first
      |(simp[hn,hl,ba_eq,eqd88]; done)
      |((repeat' split)<;>simp_all [ba_eq,eqd88]; done)
      |(simp[hn]; omega)
/-! loop.example/g00539/laws.eqTx -/
def m56 (a0:K_iLiiLiEELiLiEE) (a1:K_iLiiLiEELiLiEE):Bool:=
  if(a0.f0 !=a1.f0)=true then false else
  if(!(m73 a0.f1 a1.f1))=true then false else
    if(!(m74 a0.f2 a1.f2))=true then false else
      true
theorem e56 {l0_1:Nat} {l0_2:Nat} {a0:K_iLiiLiEELiLiEE} {l1_1:Nat} {l1_2:Nat} {a1:K_iLiiLiEELiLiEE} (hy0:length a0.f1*40≤140737488351232) (hy1:∀z∈a0.f1,ok_iiLiE z) (hy2:length a0.f2*32≤140737488351232) (hy3:∀z∈a0.f2,ok_iLiE z) (hy4:length a1.f1*40≤140737488351232) (hy5:∀z∈a1.f1,ok_iiLiE z) (hy6:length a1.f2*32≤140737488351232) (hy7:∀z∈a1.f2,ok_iLiE z):Ev F X (.call 56 [(.agg (k_iLiiLiEELiLiEE l0_1 l0_2 a0)),(.agg (k_iLiiLiEELiLiEE l1_1 l1_2 a1))] [] [] [(.one (.val (.bool (m56 a0 a1))))]):=by
  unfold m56
  by_cases h0:(a0.f0 !=a1.f0)=true
  · try simp only[if_pos h0]
    exact cp (by kernel_rfl) (.f h0 (.h 16 (.b true) .nil))
  · try simp only[if_neg h0]
    have P1 {hs q} (r:PS F X hs q):=(PS.f (nt h0) (.h 16 (.b false) (.r 26 [] [] (e73 (l0_0:=(l0_1+1)) (l1_0:=(l1_1+1)) (a0:=a0.f1) (a1:=a1.f1) ‹_› ‹_› ‹_› ‹_›) r)))
    by_cases h1:(!(m73 a0.f1 a1.f1))=true
    · try simp only[if_pos h1]
      exact cp (by kernel_rfl) (P1 (.f h1 (.h 29 (.b true) .nil)))
    · try simp only[if_neg h1]
      have P2 {hs q} (r:PS F X hs q):=(P1 (.f (nt h1) (.h 29 (.b false) (.r 39 [] [] (e74 (l0_0:=(l0_2+1)) (l1_0:=(l1_2+1)) (a0:=a0.f2) (a1:=a1.f2) ‹_› ‹_› ‹_› ‹_›) r))))
      by_cases h2:(!(m74 a0.f2 a1.f2))=true
      · try simp only[if_pos h2]
        exact cp (by kernel_rfl) (P2 (.f h2 (.h 42 (.b true) .nil)))
      · try simp only[if_neg h2]
        exact cp (by kernel_rfl) (P2 (.f (nt h2) (.h 42 (.b false) .nil)))
open Classical in
theorem eqd56 (a b:K_iLiiLiEELiLiEE):m56 a b=decide (a=b):=by
  rw[Bool.eq_iff_iff,decide_eq_true_eq]
  constructor
  · intro h
    unfold m56 at h
    cases a; cases b
    (repeat' split at h)<;>simp_all [ba_eq,eqd73,eqd74]
  · rintro rfl
    simp[m56,ba_eq,eqd73,eqd74]
/-! loop 37_0 -/
inductive O37_0 where
  |k0 (w0:Int) (w1:Bool)
  |k1
def r37_0 (a0:(List K_iLiiLiEELiLiEE)):List K_iLiiLiEELiLiEE→List K_iLiiLiEELiLiEE→Int→O37_0
  |x0::y0,x1::y1,i=>
    if(!(m56 x0 x1))=true then(O37_0.k1) else
    (r37_0 a0 y0 y1 (i+1))
  |_,_,i=>(O37_0.k0 i (decide (i <((length (map b_iLiiLiEELiLiEE a0)):Int))))
def h37_0 (l0_0:Nat) (l1_0:Nat) (a0:(List K_iLiiLiEELiLiEE)) (a1:(List K_iLiiLiEELiLiEE)) (i:Int) :St:=⟨[(0,(.one (.bor l0_0 (map b_iLiiLiEELiLiEE a0)))),(1,(.one (.bor l1_0 (map b_iLiiLiEELiLiEE a1)))),(5,(.one (.val (.int .i64 i))))],[]⟩
def ex37_0:O37_0→VX.Exit
  |.k0 _ _=>(.exit 0)
  |.k1=>.ret
def fin37_0 (l0_0:Nat) (l1_0:Nat) (a0:(List K_iLiiLiEELiLiEE)) (a1:(List K_iLiiLiEELiLiEE)):O37_0→St
  |.k0 w0 w1=>⟨[(0,(.one (.bor l0_0 (map b_iLiiLiEELiLiEE a0)))),(1,(.one (.bor l1_0 (map b_iLiiLiEELiLiEE a1)))),(5,(.one (.val (.int .i64 w0)))),(14,(.one (.val (.bool w1))))],[]⟩
  |.k1=>⟨[(4,(.one (.val (.bool false))))],[]⟩
theorem t37_0 {l0_0:Nat} {l1_0:Nat} {a0:(List K_iLiiLiEELiLiEE)} {a1:(List K_iLiiLiEELiLiEE)} (hy0:length a0*56≤140737488351232) (hy1:∀z∈a0,ok_iLiiLiEELiLiEE z) (hy2:length a1*56≤140737488351232) (hy3:∀z∈a1,ok_iLiiLiEELiLiEE z):∀(y0:List K_iLiiLiEELiLiEE) (y1:List K_iLiiLiEELiLiEE) (p:List K_iLiiLiEELiLiEE) (p_1:List K_iLiiLiEELiLiEE),p++y0=a0→p_1++y1=a1→length p=length p_1→length y0=length y1→Ev F X (.code l37_0 (h37_0 l0_0 l1_0 a0 a1 (length p:Int)) (ex37_0 (r37_0 a0 y0 y1 (length p:Int))) (fin37_0 l0_0 l1_0 a0 a1 (r37_0 a0 y0 y1 (length p:Int))))
  |[],[],p,p_1,hp0,hp1,hq1,hl1=>by
    have hc:¬(decide ((length p:Int) <((length (map b_iLiiLiEELiLiEE a0)):Int)))=true:=by
      rw[← hp0]; simp only[length_map,length_set,length_append,length_replicate,length_cons,length_nil,decide_eq_true_eq]; omega
    have st:=ch b37_0 (h37_0 l0_0 l1_0 a0 a1 (length p:Int)) ⟨[(0,(.one (.bor l0_0 (map b_iLiiLiEELiLiEE a0)))),(1,(.one (.bor l1_0 (map b_iLiiLiEELiLiEE a1)))),(5,(.oi (length p:Int))),(14,(.one (.val (.bool (decide ((length p:Int) <((length (map b_iLiiLiEELiLiEE a0)):Int)))))))],[]⟩ (.exit 0) 9 (by kernel_rfl) (.f (nt hc) (.h 8 (.b false) .nil))
    rw[show (⟨[(0,(.one (.bor l0_0 (map b_iLiiLiEELiLiEE a0)))),(1,(.one (.bor l1_0 (map b_iLiiLiEELiLiEE a1)))),(5,(.oi (length p:Int))),(14,(.one (.val (.bool (decide ((length p:Int) <((length (map b_iLiiLiEELiLiEE a0)):Int)))))))],[]⟩:St)=fin37_0 l0_0 l1_0 a0 a1 (.k0 (length p:Int) (decide ((length p:Int) <((length (map b_iLiiLiEELiLiEE a0)):Int)))) from(by rfl)] at st
    exact .loopX st (show ((.exit 0):VX.Exit)≠.normal from by simp)
  |x0::y0,x1::y1,p,p_1,hp0,hp1,hq1,hl1=>by
    have hc:(decide ((length p:Int) <((length (map b_iLiiLiEELiLiEE a0)):Int)))=true:=by
      rw[← hp0]; simp only[length_map,length_set,length_append,length_replicate,length_cons,length_nil,decide_eq_true_eq]; omega
    have Hx0:(a0)[toNat (length p:Int)]?=some x0:=by
      rw[← hp0,Int.toNat_natCast]; simp
    have Hx1:(a1)[toNat (length p:Int)]?=some x1:=by
      rw[← hp1,hq1,Int.toNat_natCast]; simp
    obtain⟨Mx0_0,Mx0_1,Mx0_2,Mx0_3⟩:=hy1 x0 (List.mem_of_getElem? Hx0)
    obtain⟨Mx1_0,Mx1_1,Mx1_2,Mx1_3⟩:=hy3 x1 (List.mem_of_getElem? Hx1)
    have hlen:length (a0)=length p+length y0+1:=by rw[← hp0]; simp; omega
    have hw:wrap .i64 ((length p:Int)+1)=(length p:Int)+1:=wrap64 (by omega)
    simp only[r37_0]
    have f1:0≤(length p:Int):=(by omega)
    have P1 {hs q} (r:PS F X hs q):=(PS.f hc (.f f1 (.f (mp_ b_iLiiLiEELiLiEE Hx0) (.f f1 (.f (mp_ b_iLiiLiEELiLiEE Hx1) (.h 8 (.b true) (.h 14 (.row (b_iLiiLiEELiLiEE x0)) (.h 22 (.row (b_iLiiLiEELiLiEE x1)) (.r 26 [] [] (e56 (l0_1:=(l0_0+1)) (l0_2:=(l0_0+1)) (l1_1:=(l1_0+1)) (l1_2:=(l1_0+1)) (a0:=x0) (a1:=x1) ‹_› ‹_› ‹_› ‹_› ‹_› ‹_› ‹_› ‹_›) r)))))))))
    by_cases h_1:(!(m56 x0 x1))=true
    · try simp only[if_pos h_1]
      have st:=ch b37_0 (h37_0 l0_0 l1_0 a0 a1 (length p:Int)) ⟨[(4,(.one (.val (.bool false))))],[]⟩ .ret 32 (by kernel_rfl) (P1 (.f h_1 (.h 29 (.b true) .nil)))
      rw[show (⟨[(4,(.one (.val (.bool false))))],[]⟩:St)=fin37_0 l0_0 l1_0 a0 a1 (.k1) from(by rfl)] at st
      exact .loopX st (show (.ret:VX.Exit)≠.normal from by simp)
    · try simp only[if_neg h_1]
      have st:=ch b37_0 (h37_0 l0_0 l1_0 a0 a1 (length p:Int)) ⟨[(0,(.one (.bor l0_0 (map b_iLiiLiEELiLiEE a0)))),(1,(.one (.bor l1_0 (map b_iLiiLiEELiLiEE a1)))),(5,(.oi (wrap .i64 ((length p:Int)+1))))],[]⟩ .normal 36 (by kernel_rfl) (P1 (.f (nt h_1) (.f trivial (.h 29 (.b false) .nil))))
      have ih:=t37_0 (l0_0:=l0_0) (l1_0:=l1_0) (a0:=a0) (a1:=a1) hy0 hy1 hy2 hy3 y0 y1 (p++ [x0]) (p_1++ [x1]) (by rw[append_assoc]; exact hp0) (by rw[append_assoc]; exact hp1) (by simp only[length_map,length_set,length_append,length_replicate,length_cons,length_nil]; omega) (by simp only[length_map,length_set,length_append,length_replicate,length_cons,length_nil] at hl1; omega)
      rw[show ((p++ [x0]).length:Int)=(p.length:Int)+1 from by simp] at ih
      rw[show (⟨[(0,(.one (.bor l0_0 (map b_iLiiLiEELiLiEE a0)))),(1,(.one (.bor l1_0 (map b_iLiiLiEELiLiEE a1)))),(5,(.oi (wrap .i64 ((length p:Int)+1))))],[]⟩:St)=h37_0 l0_0 l1_0 a0 a1 ((length p:Int)+1)  from(by unfold h37_0; simp only[hw]; done)] at st
      exact .loopN st ih
/-! loop.example/g00539/laws.eqTxS -/
def m37 (a0:(List K_iLiiLiEELiLiEE)) (a1:(List K_iLiiLiEELiLiEE)):Bool:=
  if(((length (map b_iLiiLiEELiLiEE a0)):Int) !=((length (map b_iLiiLiEELiLiEE a1)):Int))=true then false else
  (match r37_0 a0 a0 a1 0 with | .k0 w0_1 w1_1=>true | .k1=>false)
theorem e37 {l0_0:Nat} {a0:(List K_iLiiLiEELiLiEE)} {l1_0:Nat} {a1:(List K_iLiiLiEELiLiEE)} (hy0:length a0*56≤140737488351232) (hy1:∀z∈a0,ok_iLiiLiEELiLiEE z) (hy2:length a1*56≤140737488351232) (hy3:∀z∈a1,ok_iLiiLiEELiLiEE z):Ev F X (.call 37 [(.one (.bor l0_0 (map b_iLiiLiEELiLiEE a0))),(.one (.bor l1_0 (map b_iLiiLiEELiLiEE a1)))] [] [] [(.one (.val (.bool (m37 a0 a1))))]):=by
  unfold m37
  by_cases h0:(((length (map b_iLiiLiEELiLiEE a0)):Int) !=((length (map b_iLiiLiEELiLiEE a1)):Int))=true
  · try simp only[if_pos h0]
    exact cp (by kernel_rfl) (.f h0 (.h 12 (.b true) .nil))
  · try simp only[if_neg h0]
    cases h1:r37_0 a0 a0 a1 0 with
    |k0 w0_1 w1_1=>
      try dsimp only
      have f1:(⟨[(0,(.one (.bor l0_0 (map b_iLiiLiEELiLiEE a0)))),(1,(.one (.bor l1_0 (map b_iLiiLiEELiLiEE a1)))),(5,(.oi 0))],[]⟩:St)=h37_0 l0_0 l1_0 a0 a1 0 :=(by rfl)
      exact cp (by kernel_rfl) (.f (nt h0) (.f f1 (.f (ev_ (e:=ex37_0) (g:=(fin37_0 l0_0 l1_0 a0 a1)) h1 (t37_0 (l0_0:=l0_0) (l1_0:=l1_0) (a0:=a0) (a1:=a1) (by assumption) (by assumption) (by assumption) (by assumption) a0 a1 [] []  rfl rfl rfl (by simp at*; omega))) (.h 12 (.b false) (.h 15 (.loop (h37_0 l0_0 l1_0 a0 a1 0) (.exit 0) ⟨[(0,(.one (.bor l0_0 (map b_iLiiLiEELiLiEE a0)))),(1,(.one (.bor l1_0 (map b_iLiiLiEELiLiEE a1)))),(5,(.one (.val (.int .i64 w0_1)))),(14,(.one (.val (.bool w1_1))))],[]⟩) .nil)))))
    |k1=>
      try dsimp only
      have f1:(⟨[(0,(.one (.bor l0_0 (map b_iLiiLiEELiLiEE a0)))),(1,(.one (.bor l1_0 (map b_iLiiLiEELiLiEE a1)))),(5,(.oi 0))],[]⟩:St)=h37_0 l0_0 l1_0 a0 a1 0 :=(by rfl)
      exact cp (by kernel_rfl) (.f (nt h0) (.f f1 (.f (ev_ (e:=ex37_0) (g:=(fin37_0 l0_0 l1_0 a0 a1)) h1 (t37_0 (l0_0:=l0_0) (l1_0:=l1_0) (a0:=a0) (a1:=a1) (by assumption) (by assumption) (by assumption) (by assumption) a0 a1 [] []  rfl rfl rfl (by simp at*; omega))) (.h 12 (.b false) (.h 15 (.loop (h37_0 l0_0 l1_0 a0 a1 0) .ret ⟨[(4,(.one (.val (.bool false))))],[]⟩) .nil)))))
theorem eqr37_0 (a0:(List K_iLiiLiEELiLiEE)):∀(l m:List K_iLiiLiEELiLiEE) (i:Int),l.length=m.length→(r37_0 a0 l m i=.k1∧l≠m)∨(∃w0 w1,r37_0 a0 l m i=.k0 w0 w1∧l=m)
  |[],[],i,_=>.inr ⟨_,_,rfl,rfl⟩
  |[],_::_,i,h=>by simp at h
  |_::_,[],i,h=>by simp at h
  |x::l,y::m,i,h=>by
    have ih:=eqr37_0 a0 l m (i+1) (by simpa using h)
    by_cases hxy:x=y
    · subst hxy
      have e:r37_0 a0 (x::l) (x::m) i=r37_0 a0 l m (i+1):=by simp[r37_0,ba_eq,eqd56]
      rw[e]
      rcases ih with⟨h1,h2⟩ |⟨w0,w1,h1,h2⟩
      · exact .inl ⟨h1,by simp[h2]⟩
      · exact .inr ⟨_,_,h1,by rw[h2]⟩
    · have e:r37_0 a0 (x::l) (y::m) i=.k1:=by
        simp only[r37_0]
        first
          |((repeat' split)<;>simp_all [ba_eq,eqd56]; done)
          |(cases x; cases y;(repeat' split)<;>simp_all [ba_eq,eqd56])
      exact .inl ⟨e,by simp[hxy]⟩
open Classical in
theorem eqd37 (a b:(List K_iLiiLiEELiLiEE)):m37 a b=decide (a=b):=by
  rw[Bool.eq_iff_iff,decide_eq_true_eq]
  unfold m37
  by_cases hl:length a=length b
  · rcases eqr37_0 a a b 0 hl with⟨h1,h2⟩ |⟨w0,w1,h1,h2⟩
    · simp only[h1,length_map,hl]
      first
        |(simp[h2,ba_eq,eqd56]; done)
        |(cases a; cases b; simp_all [ba_eq,eqd56]; done)
        |(cases a; cases b;(repeat' split)<;>simp_all [ba_eq,eqd56])
    · simp only[h1,length_map,hl]
      first
        |(simp[h2,ba_eq,eqd56]; done)
        |(cases a; cases b; simp_all [ba_eq,eqd56]; done)
        |(cases a; cases b;(repeat' split)<;>simp_all [ba_eq,eqd56])
  · have hn:a≠b:=by rintro rfl; exact hl rfl
    simp only[length_map]
    first
      |(simp[hn,hl,ba_eq,eqd56]; done)
      |((repeat' split)<;>simp_all [ba_eq,eqd56]; done)
      |(simp[hn]; omega)
/-! loop.example/g00539/laws.eqBlock -/
def m25 (a0:K_iiiiLiLiiLiEELiLiEEE) (a1:K_iiiiLiLiiLiEELiLiEEE):Bool:=
  if(a0.f0 !=a1.f0)=true then false else
  if(a0.f1 !=a1.f1)=true then false else
    if(a0.f2 !=a1.f2)=true then false else
      if(a0.f3 !=a1.f3)=true then false else
        if(!(m37 a0.f4 a1.f4))=true then false else
          true
theorem e25 {l0_4:Nat} {a0:K_iiiiLiLiiLiEELiLiEEE} {l1_4:Nat} {a1:K_iiiiLiLiiLiEELiLiEEE} (hy0:length a0.f4*56≤140737488351232) (hy1:∀z∈a0.f4,ok_iLiiLiEELiLiEE z) (hy2:length a1.f4*56≤140737488351232) (hy3:∀z∈a1.f4,ok_iLiiLiEELiLiEE z):Ev F X (.call 25 [(.agg (k_iiiiLiLiiLiEELiLiEEE l0_4 a0)),(.agg (k_iiiiLiLiiLiEELiLiEEE l1_4 a1))] [] [] [(.one (.val (.bool (m25 a0 a1))))]):=by
  unfold m25
  by_cases h0:(a0.f0 !=a1.f0)=true
  · try simp only[if_pos h0]
    exact cp (by kernel_rfl) (.f h0 (.h 16 (.b true) .nil))
  · try simp only[if_neg h0]
    have P1 {hs q} (r:PS F X hs q):=(PS.f (nt h0) (.h 16 (.b false) r))
    by_cases h1:(a0.f1 !=a1.f1)=true
    · try simp only[if_pos h1]
      exact cp (by kernel_rfl) (P1 (.f h1 (.h 27 (.b true) .nil)))
    · try simp only[if_neg h1]
      have P2 {hs q} (r:PS F X hs q):=(P1 (.f (nt h1) (.h 27 (.b false) r)))
      by_cases h2:(a0.f2 !=a1.f2)=true
      · try simp only[if_pos h2]
        exact cp (by kernel_rfl) (P2 (.f h2 (.h 38 (.b true) .nil)))
      · try simp only[if_neg h2]
        by_cases h3:(a0.f3 !=a1.f3)=true
        · try simp only[if_pos h3]
          exact cp (by kernel_rfl) (P2 (.f (nt h2) (.f h3 (.h 38 (.b false) (.h 49 (.b true) .nil)))))
        · try simp only[if_neg h3]
          have P4 {hs q} (r:PS F X hs q):=(P2 (.f (nt h2) (.f (nt h3) (.h 38 (.b false) (.h 49 (.b false) (.r 59 [] [] (e37 (l0_0:=(l0_4+1)) (l1_0:=(l1_4+1)) (a0:=a0.f4) (a1:=a1.f4) ‹_› ‹_› ‹_› ‹_›) r))))))
          by_cases h4:(!(m37 a0.f4 a1.f4))=true
          · try simp only[if_pos h4]
            exact cp (by kernel_rfl) (P4 (.f h4 (.h 62 (.b true) .nil)))
          · try simp only[if_neg h4]
            exact cp (by kernel_rfl) (P4 (.f (nt h4) (.h 62 (.b false) .nil)))
open Classical in
theorem eqd25 (a b:K_iiiiLiLiiLiEELiLiEEE):m25 a b=decide (a=b):=by
  rw[Bool.eq_iff_iff,decide_eq_true_eq]
  constructor
  · intro h
    unfold m25 at h
    cases a; cases b
    (repeat' split at h)<;>simp_all [ba_eq,eqd37]
  · rintro rfl
    simp[m25,ba_eq,eqd37]
/-! loop.example/g00539/laws.eqJob -/
def m14 (a0:K_iiiiiLiLiiLiEELiLiEEE) (a1:K_iiiiiLiLiiLiEELiLiEEE):Bool:=
  if(a0.f0 !=a1.f0)=true then false else
  if(!(m25 (K_iiiiLiLiiLiEELiLiEEE.mk a0.f1 a0.f2 a0.f3 a0.f4 a0.f5) (K_iiiiLiLiiLiEELiLiEEE.mk a1.f1 a1.f2 a1.f3 a1.f4 a1.f5)))=true then false else
    true
theorem e14 {l0_5:Nat} {a0:K_iiiiiLiLiiLiEELiLiEEE} {l1_5:Nat} {a1:K_iiiiiLiLiiLiEELiLiEEE} (hy0:length a0.f5*56≤140737488351232) (hy1:∀z∈a0.f5,ok_iLiiLiEELiLiEE z) (hy2:length a1.f5*56≤140737488351232) (hy3:∀z∈a1.f5,ok_iLiiLiEELiLiEE z):Ev F X (.call 14 [(.agg (k_iiiiiLiLiiLiEELiLiEEE l0_5 a0)),(.agg (k_iiiiiLiLiiLiEELiLiEEE l1_5 a1))] [] [] [(.one (.val (.bool (m14 a0 a1))))]):=by
  unfold m14
  by_cases h0:(a0.f0 !=a1.f0)=true
  · try simp only[if_pos h0]
    exact cp (by kernel_rfl) (.f h0 (.h 16 (.b true) .nil))
  · try simp only[if_neg h0]
    have P1 {hs q} (r:PS F X hs q):=(PS.f (nt h0) (.h 16 (.b false) (.r 26 [] [] (e25 (l0_4:=(l0_5+1)) (l1_4:=(l1_5+1)) (a0:=(K_iiiiLiLiiLiEELiLiEEE.mk a0.f1 a0.f2 a0.f3 a0.f4 a0.f5)) (a1:=(K_iiiiLiLiiLiEELiLiEEE.mk a1.f1 a1.f2 a1.f3 a1.f4 a1.f5)) ‹_› ‹_› ‹_› ‹_›) r)))
    by_cases h1:(!(m25 (K_iiiiLiLiiLiEELiLiEEE.mk a0.f1 a0.f2 a0.f3 a0.f4 a0.f5) (K_iiiiLiLiiLiEELiLiEEE.mk a1.f1 a1.f2 a1.f3 a1.f4 a1.f5)))=true
    · try simp only[if_pos h1]
      exact cp (by kernel_rfl) (P1 (.f h1 (.h 29 (.b true) .nil)))
    · try simp only[if_neg h1]
      exact cp (by kernel_rfl) (P1 (.f (nt h1) (.h 29 (.b false) .nil)))
open Classical in
theorem eqd14 (a b:K_iiiiiLiLiiLiEELiLiEEE):m14 a b=decide (a=b):=by
  rw[Bool.eq_iff_iff,decide_eq_true_eq]
  constructor
  · intro h
    unfold m14 at h
    cases a; cases b
    (repeat' split at h)<;>simp_all [ba_eq,eqd25]
  · rintro rfl
    simp[m14,ba_eq,eqd25]
/-! loop 8_0 -/
inductive O8_0 where
  |k0 (w0:Int) (w1:Bool)
  |k1
def r8_0 (a0:(List K_iiiiiLiLiiLiEELiLiEEE)):List K_iiiiiLiLiiLiEELiLiEEE→List K_iiiiiLiLiiLiEELiLiEEE→Int→O8_0
  |x0::y0,x1::y1,i=>
    if(!(m14 x0 x1))=true then(O8_0.k1) else
    (r8_0 a0 y0 y1 (i+1))
  |_,_,i=>(O8_0.k0 i (decide (i <((length (map b_iiiiiLiLiiLiEELiLiEEE a0)):Int))))
def h8_0 (l0_0:Nat) (l1_0:Nat) (a0:(List K_iiiiiLiLiiLiEELiLiEEE)) (a1:(List K_iiiiiLiLiiLiEELiLiEEE)) (i:Int) :St:=⟨[(0,(.one (.bor l0_0 (map b_iiiiiLiLiiLiEELiLiEEE a0)))),(1,(.one (.bor l1_0 (map b_iiiiiLiLiiLiEELiLiEEE a1)))),(5,(.one (.val (.int .i64 i))))],[]⟩
def ex8_0:O8_0→VX.Exit
  |.k0 _ _=>(.exit 0)
  |.k1=>.ret
def fin8_0 (l0_0:Nat) (l1_0:Nat) (a0:(List K_iiiiiLiLiiLiEELiLiEEE)) (a1:(List K_iiiiiLiLiiLiEELiLiEEE)):O8_0→St
  |.k0 w0 w1=>⟨[(0,(.one (.bor l0_0 (map b_iiiiiLiLiiLiEELiLiEEE a0)))),(1,(.one (.bor l1_0 (map b_iiiiiLiLiiLiEELiLiEEE a1)))),(5,(.one (.val (.int .i64 w0)))),(14,(.one (.val (.bool w1))))],[]⟩
  |.k1=>⟨[(4,(.one (.val (.bool false))))],[]⟩
theorem t8_0 {l0_0:Nat} {l1_0:Nat} {a0:(List K_iiiiiLiLiiLiEELiLiEEE)} {a1:(List K_iiiiiLiLiiLiEELiLiEEE)} (hy0:length a0*64≤140737488351232) (hy1:∀z∈a0,ok_iiiiiLiLiiLiEELiLiEEE z) (hy2:length a1*64≤140737488351232) (hy3:∀z∈a1,ok_iiiiiLiLiiLiEELiLiEEE z):∀(y0:List K_iiiiiLiLiiLiEELiLiEEE) (y1:List K_iiiiiLiLiiLiEELiLiEEE) (p:List K_iiiiiLiLiiLiEELiLiEEE) (p_1:List K_iiiiiLiLiiLiEELiLiEEE),p++y0=a0→p_1++y1=a1→length p=length p_1→length y0=length y1→Ev F X (.code l8_0 (h8_0 l0_0 l1_0 a0 a1 (length p:Int)) (ex8_0 (r8_0 a0 y0 y1 (length p:Int))) (fin8_0 l0_0 l1_0 a0 a1 (r8_0 a0 y0 y1 (length p:Int))))
  |[],[],p,p_1,hp0,hp1,hq1,hl1=>by
    have hc:¬(decide ((length p:Int) <((length (map b_iiiiiLiLiiLiEELiLiEEE a0)):Int)))=true:=by
      rw[← hp0]; simp only[length_map,length_set,length_append,length_replicate,length_cons,length_nil,decide_eq_true_eq]; omega
    have st:=ch b8_0 (h8_0 l0_0 l1_0 a0 a1 (length p:Int)) ⟨[(0,(.one (.bor l0_0 (map b_iiiiiLiLiiLiEELiLiEEE a0)))),(1,(.one (.bor l1_0 (map b_iiiiiLiLiiLiEELiLiEEE a1)))),(5,(.oi (length p:Int))),(14,(.one (.val (.bool (decide ((length p:Int) <((length (map b_iiiiiLiLiiLiEELiLiEEE a0)):Int)))))))],[]⟩ (.exit 0) 9 (by kernel_rfl) (.f (nt hc) (.h 8 (.b false) .nil))
    rw[show (⟨[(0,(.one (.bor l0_0 (map b_iiiiiLiLiiLiEELiLiEEE a0)))),(1,(.one (.bor l1_0 (map b_iiiiiLiLiiLiEELiLiEEE a1)))),(5,(.oi (length p:Int))),(14,(.one (.val (.bool (decide ((length p:Int) <((length (map b_iiiiiLiLiiLiEELiLiEEE a0)):Int)))))))],[]⟩:St)=fin8_0 l0_0 l1_0 a0 a1 (.k0 (length p:Int) (decide ((length p:Int) <((length (map b_iiiiiLiLiiLiEELiLiEEE a0)):Int)))) from(by rfl)] at st
    exact .loopX st (show ((.exit 0):VX.Exit)≠.normal from by simp)
  |x0::y0,x1::y1,p,p_1,hp0,hp1,hq1,hl1=>by
    have hc:(decide ((length p:Int) <((length (map b_iiiiiLiLiiLiEELiLiEEE a0)):Int)))=true:=by
      rw[← hp0]; simp only[length_map,length_set,length_append,length_replicate,length_cons,length_nil,decide_eq_true_eq]; omega
    have Hx0:(a0)[toNat (length p:Int)]?=some x0:=by
      rw[← hp0,Int.toNat_natCast]; simp
    have Hx1:(a1)[toNat (length p:Int)]?=some x1:=by
      rw[← hp1,hq1,Int.toNat_natCast]; simp
    obtain⟨Mx0_0,Mx0_1⟩:=hy1 x0 (List.mem_of_getElem? Hx0)
    obtain⟨Mx1_0,Mx1_1⟩:=hy3 x1 (List.mem_of_getElem? Hx1)
    have hlen:length (a0)=length p+length y0+1:=by rw[← hp0]; simp; omega
    have hw:wrap .i64 ((length p:Int)+1)=(length p:Int)+1:=wrap64 (by omega)
    simp only[r8_0]
    have f1:0≤(length p:Int):=(by omega)
    have P1 {hs q} (r:PS F X hs q):=(PS.f hc (.f f1 (.f (mp_ b_iiiiiLiLiiLiEELiLiEEE Hx0) (.f f1 (.f (mp_ b_iiiiiLiLiiLiEELiLiEEE Hx1) (.h 8 (.b true) (.h 14 (.row (b_iiiiiLiLiiLiEELiLiEEE x0)) (.h 22 (.row (b_iiiiiLiLiiLiEELiLiEEE x1)) (.r 26 [] [] (e14 (l0_5:=(l0_0+1)) (l1_5:=(l1_0+1)) (a0:=x0) (a1:=x1) ‹_› ‹_› ‹_› ‹_›) r)))))))))
    by_cases h_1:(!(m14 x0 x1))=true
    · try simp only[if_pos h_1]
      have st:=ch b8_0 (h8_0 l0_0 l1_0 a0 a1 (length p:Int)) ⟨[(4,(.one (.val (.bool false))))],[]⟩ .ret 32 (by kernel_rfl) (P1 (.f h_1 (.h 29 (.b true) .nil)))
      rw[show (⟨[(4,(.one (.val (.bool false))))],[]⟩:St)=fin8_0 l0_0 l1_0 a0 a1 (.k1) from(by rfl)] at st
      exact .loopX st (show (.ret:VX.Exit)≠.normal from by simp)
    · try simp only[if_neg h_1]
      have st:=ch b8_0 (h8_0 l0_0 l1_0 a0 a1 (length p:Int)) ⟨[(0,(.one (.bor l0_0 (map b_iiiiiLiLiiLiEELiLiEEE a0)))),(1,(.one (.bor l1_0 (map b_iiiiiLiLiiLiEELiLiEEE a1)))),(5,(.oi (wrap .i64 ((length p:Int)+1))))],[]⟩ .normal 36 (by kernel_rfl) (P1 (.f (nt h_1) (.f trivial (.h 29 (.b false) .nil))))
      have ih:=t8_0 (l0_0:=l0_0) (l1_0:=l1_0) (a0:=a0) (a1:=a1) hy0 hy1 hy2 hy3 y0 y1 (p++ [x0]) (p_1++ [x1]) (by rw[append_assoc]; exact hp0) (by rw[append_assoc]; exact hp1) (by simp only[length_map,length_set,length_append,length_replicate,length_cons,length_nil]; omega) (by simp only[length_map,length_set,length_append,length_replicate,length_cons,length_nil] at hl1; omega)
      rw[show ((p++ [x0]).length:Int)=(p.length:Int)+1 from by simp] at ih
      rw[show (⟨[(0,(.one (.bor l0_0 (map b_iiiiiLiLiiLiEELiLiEEE a0)))),(1,(.one (.bor l1_0 (map b_iiiiiLiLiiLiEELiLiEEE a1)))),(5,(.oi (wrap .i64 ((length p:Int)+1))))],[]⟩:St)=h8_0 l0_0 l1_0 a0 a1 ((length p:Int)+1)  from(by unfold h8_0; simp only[hw]; done)] at st
      exact .loopN st ih
/-! loop.example/g00539/laws.eqJobS -/
def m8 (a0:(List K_iiiiiLiLiiLiEELiLiEEE)) (a1:(List K_iiiiiLiLiiLiEELiLiEEE)):Bool:=
  if(((length (map b_iiiiiLiLiiLiEELiLiEEE a0)):Int) !=((length (map b_iiiiiLiLiiLiEELiLiEEE a1)):Int))=true then false else
  (match r8_0 a0 a0 a1 0 with | .k0 w0_1 w1_1=>true | .k1=>false)
theorem e8 {l0_0:Nat} {a0:(List K_iiiiiLiLiiLiEELiLiEEE)} {l1_0:Nat} {a1:(List K_iiiiiLiLiiLiEELiLiEEE)} (hy0:length a0*64≤140737488351232) (hy1:∀z∈a0,ok_iiiiiLiLiiLiEELiLiEEE z) (hy2:length a1*64≤140737488351232) (hy3:∀z∈a1,ok_iiiiiLiLiiLiEELiLiEEE z):Ev F X (.call 8 [(.one (.bor l0_0 (map b_iiiiiLiLiiLiEELiLiEEE a0))),(.one (.bor l1_0 (map b_iiiiiLiLiiLiEELiLiEEE a1)))] [] [] [(.one (.val (.bool (m8 a0 a1))))]):=by
  unfold m8
  by_cases h0:(((length (map b_iiiiiLiLiiLiEELiLiEEE a0)):Int) !=((length (map b_iiiiiLiLiiLiEELiLiEEE a1)):Int))=true
  · try simp only[if_pos h0]
    exact cp (by kernel_rfl) (.f h0 (.h 12 (.b true) .nil))
  · try simp only[if_neg h0]
    cases h1:r8_0 a0 a0 a1 0 with
    |k0 w0_1 w1_1=>
      try dsimp only
      have f1:(⟨[(0,(.one (.bor l0_0 (map b_iiiiiLiLiiLiEELiLiEEE a0)))),(1,(.one (.bor l1_0 (map b_iiiiiLiLiiLiEELiLiEEE a1)))),(5,(.oi 0))],[]⟩:St)=h8_0 l0_0 l1_0 a0 a1 0 :=(by rfl)
      exact cp (by kernel_rfl) (.f (nt h0) (.f f1 (.f (ev_ (e:=ex8_0) (g:=(fin8_0 l0_0 l1_0 a0 a1)) h1 (t8_0 (l0_0:=l0_0) (l1_0:=l1_0) (a0:=a0) (a1:=a1) (by assumption) (by assumption) (by assumption) (by assumption) a0 a1 [] []  rfl rfl rfl (by simp at*; omega))) (.h 12 (.b false) (.h 15 (.loop (h8_0 l0_0 l1_0 a0 a1 0) (.exit 0) ⟨[(0,(.one (.bor l0_0 (map b_iiiiiLiLiiLiEELiLiEEE a0)))),(1,(.one (.bor l1_0 (map b_iiiiiLiLiiLiEELiLiEEE a1)))),(5,(.one (.val (.int .i64 w0_1)))),(14,(.one (.val (.bool w1_1))))],[]⟩) .nil)))))
    |k1=>
      try dsimp only
      have f1:(⟨[(0,(.one (.bor l0_0 (map b_iiiiiLiLiiLiEELiLiEEE a0)))),(1,(.one (.bor l1_0 (map b_iiiiiLiLiiLiEELiLiEEE a1)))),(5,(.oi 0))],[]⟩:St)=h8_0 l0_0 l1_0 a0 a1 0 :=(by rfl)
      exact cp (by kernel_rfl) (.f (nt h0) (.f f1 (.f (ev_ (e:=ex8_0) (g:=(fin8_0 l0_0 l1_0 a0 a1)) h1 (t8_0 (l0_0:=l0_0) (l1_0:=l1_0) (a0:=a0) (a1:=a1) (by assumption) (by assumption) (by assumption) (by assumption) a0 a1 [] []  rfl rfl rfl (by simp at*; omega))) (.h 12 (.b false) (.h 15 (.loop (h8_0 l0_0 l1_0 a0 a1 0) .ret ⟨[(4,(.one (.val (.bool false))))],[]⟩) .nil)))))
theorem eqr8_0 (a0:(List K_iiiiiLiLiiLiEELiLiEEE)):∀(l m:List K_iiiiiLiLiiLiEELiLiEEE) (i:Int),l.length=m.length→(r8_0 a0 l m i=.k1∧l≠m)∨(∃w0 w1,r8_0 a0 l m i=.k0 w0 w1∧l=m)
  |[],[],i,_=>.inr ⟨_,_,rfl,rfl⟩
  |[],_::_,i,h=>by simp at h
  |_::_,[],i,h=>by simp at h
  |x::l,y::m,i,h=>by
    have ih:=eqr8_0 a0 l m (i+1) (by simpa using h)
    by_cases hxy:x=y
    · subst hxy
      have e:r8_0 a0 (x::l) (x::m) i=r8_0 a0 l m (i+1):=by simp[r8_0,ba_eq,eqd14]
      rw[e]
      rcases ih with⟨h1,h2⟩ |⟨w0,w1,h1,h2⟩
      · exact .inl ⟨h1,by simp[h2]⟩
      · exact .inr ⟨_,_,h1,by rw[h2]⟩
    · have e:r8_0 a0 (x::l) (y::m) i=.k1:=by
        simp only[r8_0]
        first
          |((repeat' split)<;>simp_all [ba_eq,eqd14]; done)
          |(cases x; cases y;(repeat' split)<;>simp_all [ba_eq,eqd14])
      exact .inl ⟨e,by simp[hxy]⟩
open Classical in
theorem eqd8 (a b:(List K_iiiiiLiLiiLiEELiLiEEE)):m8 a b=decide (a=b):=by
  rw[Bool.eq_iff_iff,decide_eq_true_eq]
  unfold m8
  by_cases hl:length a=length b
  · rcases eqr8_0 a a b 0 hl with⟨h1,h2⟩ |⟨w0,w1,h1,h2⟩
    · simp only[h1,length_map,hl]
      first
        |(simp[h2,ba_eq,eqd14]; done)
        |(cases a; cases b; simp_all [ba_eq,eqd14]; done)
        |(cases a; cases b;(repeat' split)<;>simp_all [ba_eq,eqd14])
    · simp only[h1,length_map,hl]
      first
        |(simp[h2,ba_eq,eqd14]; done)
        |(cases a; cases b; simp_all [ba_eq,eqd14]; done)
        |(cases a; cases b;(repeat' split)<;>simp_all [ba_eq,eqd14])
  · have hn:a≠b:=by rintro rfl; exact hl rfl
    simp only[length_map]
    first
      |(simp[hn,hl,ba_eq,eqd14]; done)
      |((repeat' split)<;>simp_all [ba_eq,eqd14]; done)
      |(simp[hn]; omega)
/-! loop.example/g00539/laws.FnExactJobsFault -/
def m3 (a0:(List K_iiiiiLiLiiLiEELiLiEEE)):Bool:=
  if(decide ((m4 a0 1048576) < 0))=true then true else
  if((m7 a0) !=(m10 a0))=true then false else
    if(!(m8 a0 a0))=true then false else
      true
set_option maxHeartbeats 8000000 in
theorem e3 {l0_0:Nat} {a0:(List K_iiiiiLiLiiLiEELiLiEEE)} (hy0:length a0*64≤140737488351232) (hy1:∀z∈a0,ok_iiiiiLiLiiLiEELiLiEEE z):Ev F X (.call 3 [(.one (.bor l0_0 (map b_iiiiiLiLiiLiEELiLiEEE a0)))] [] [] [(.one (.val (.bool (m3 a0))))]):=by
  unfold m3
  have P0 {hs q} (r:PS F X hs q):=(PS.r 9 [] [] (e4 (l0_0:=(l0_0+1)) (a0:=a0) (a1:=1048576) ‹_› ‹_›) r)
  by_cases h0:(decide ((m4 a0 1048576) < 0))=true
  · try simp only[if_pos h0]
    exact cp (by kernel_rfl) (P0 (.f h0 (.h 16 (.b true) .nil)))
  · try simp only[if_neg h0]
    have f2:=(g6 (l0_0:=(l0_0+1)) (a0:=a0) ‹_› ‹_›)
    have P1 {hs q} (r:PS F X hs q):=(P0 (.f (nt h0) (.h 16 (.b false) (.r 20 [] [] f2 (ln_iiiiiLiLiiLiEELiLiEEE a0 (.r 22 [] [(map b_iiiiiLiLiiLiEELiLiEEE a0)] (e5 (l0_0:=0) (a0:=a0) ‹_› ‹_›) (.r 28 [] [] f2 (ln_iiiiiLiLiiLiEELiLiEEE a0 (.r 34 [] [(map b_iiiiiLiLiiLiEELiLiEEE a0)] (e7 (l0_0:=0) (a0:=a0) ‹_› ‹_›) r)))))))))
    by_cases h1:((m7 a0) !=(m10 a0))=true
    · try simp only[if_pos h1]
      exact cp (by kernel_rfl) (P1 (.f h1 (.h 43 (.b true) .nil)))
    · try simp only[if_neg h1]
      have P2 {hs q} (r:PS F X hs q):=(P1 (.f (nt h1) (.h 43 (.b false) (.r 49 [] [] f2 (ln_iiiiiLiLiiLiEELiLiEEE a0 (ln_iiiiiLiLiiLiEELiLiEEE a0 (.r 51 [] [(map b_iiiiiLiLiiLiEELiLiEEE a0),(map b_iiiiiLiLiiLiEELiLiEEE a0)] (e8 (l0_0:=0) (l1_0:=0) (a0:=a0) (a1:=a0) ‹_› ‹_› ‹_› ‹_›) r)))))))
      by_cases h2:(!(m8 a0 a0))=true
      · try simp only[if_pos h2]
        exact cp (by kernel_rfl) (P2 (.f h2 (.h 54 (.b true) .nil)))
      · try simp only[if_neg h2]
        exact cp (by kernel_rfl) (P2 (.f (nt h2) (.h 54 (.b false) .nil)))
theorem X_ok (f:FuncId) (args:List SV) (objs:List (V.Id × VObj)) (rs:List Ret) (h:X f args objs rs):CallOK Try.prog f args objs [] [] rs:=h.elim
end Go.Proofs.Ytjgebnhpklkjcaa.JobsFault
