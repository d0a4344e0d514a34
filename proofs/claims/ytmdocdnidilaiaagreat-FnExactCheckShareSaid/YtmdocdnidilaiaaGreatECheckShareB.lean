/- What the functions compute. -/
import Derived.Test.YtmdocdnidilaiaaGreatECheckShareA
import Derived.KernelRfl
namespace Go.Proofs.YtmdocdnidilaiaaGreat.CheckShare
open Go Go.Proofs.YtmdocdnidilaiaaGreat.V
set_option linter.unusedVariables false
set_option linter.unusedSimpArgs false
set_option maxRecDepth 20000
open Go.IntKind (wrap)
open Int (toNat)
open List (length_replicate length_map length_set length_append length_cons length_nil length_take length_drop take_of_length_le map_take map_drop map_set append_assoc getElem?_map map length take drop getD set)
attribute [local simp] toBR_i fullR_i pureR_i lenB_i lenD_i fromBR_i copy_i toBR_N fullR_N pureR_N lenB_N lenD_N toBR_U fullR_U pureR_U lenB_U lenD_U toBR_T fullR_T pureR_T lenB_T lenD_T toBR_J fullR_J pureR_J lenB_J lenD_J toBR_JL fullR_JL pureR_JL lenB_JL lenD_JL toBR_KY fullR_KY pureR_KY lenB_KY lenD_KY fromBR_KY copy_KY toBR_LiiiiE fullR_LiiiiE pureR_LiiiiE lenB_LiiiiE lenD_LiiiiE toBR_b fullR_b pureR_b lenB_b lenD_b fromBR_b copy_b toBR_SR fullR_SR pureR_SR lenB_SR lenD_SR toBR_G fullR_G pureR_G lenB_G lenD_G toBR_TL fullR_TL pureR_TL lenB_TL lenD_TL toBR_LiE fullR_LiE pureR_LiE lenB_LiE lenD_LiE toBR_NL fullR_NL pureR_NL lenB_NL lenD_NL toBR_UL fullR_UL pureR_UL lenB_UL lenD_UL strInts_len byteRows_len toBR_y fullR_y pureR_y lenB_y lenD_y fromBR_y copy_y toBR_LyE fullR_LyE pureR_LyE lenB_LyE lenD_LyE toBR_LLyEE fullR_LLyEE pureR_LLyEE lenB_LLyEE lenD_LLyEE
inductive O80_0 where
  |k0 (w0:Int) (w1:Bool)
  |k1
def r80_0 (a0:(List K_T)):List K_T→List K_T→Int→O80_0
  |x0::y0,x1::y1,i=>
    if(!(m109 x0 x1))=true then(O80_0.k1) else
    (r80_0 a0 y0 y1 (i+1))
  |_,_,i=>(O80_0.k0 i (decide (i <((length (map b_T a0)):Int))))
def h80_0 (l0_0:Nat) (l1_0:Nat) (a0:(List K_T)) (a1:(List K_T)) (i:Int) :St:=⟨[(0,(.one (.bor l0_0 (map b_T a0)))),(1,(.one (.bor l1_0 (map b_T a1)))),(5,(.one (.val (.int .i64 i))))],[]⟩
def ex80_0:O80_0→VX.Exit
  |.k0 _ _=>(.exit 0)
  |.k1=>.ret
def fin80_0 (l0_0:Nat) (l1_0:Nat) (a0:(List K_T)) (a1:(List K_T)):O80_0→St
  |.k0 w0 w1=>⟨[(0,(.one (.bor l0_0 (map b_T a0)))),(1,(.one (.bor l1_0 (map b_T a1)))),(5,(.one (.val (.int .i64 w0)))),(14,(.one (.val (.bool w1))))],[]⟩
  |.k1=>⟨[(4,(.one (.val (.bool false))))],[]⟩
theorem t80_0 {l0_0:Nat} {l1_0:Nat} {a0:(List K_T)} {a1:(List K_T)} (hy0:length a0*56≤140737488351232) (hy1:∀z∈a0,ok_T z) (hy2:length a1*56≤140737488351232) (hy3:∀z∈a1,ok_T z):∀(y0:List K_T) (y1:List K_T) (p:List K_T) (p_1:List K_T),p++y0=a0→p_1++y1=a1→length p=length p_1→length y0=length y1→Ev F X (.code l80_0 (h80_0 l0_0 l1_0 a0 a1 (length p:Int)) (ex80_0 (r80_0 a0 y0 y1 (length p:Int))) (fin80_0 l0_0 l1_0 a0 a1 (r80_0 a0 y0 y1 (length p:Int))))
  |[],[],p,p_1,hp0,hp1,hq1,hl1=>by
    have hc:=hcn b_T hp0
    exact lx 9 ya (.f (nt hc) (.h 8 (.b false) .nil)) rfl
  |x0::y0,x1::y1,p,p_1,hp0,hp1,hq1,hl1=>by
    have hc:=hcy b_T hp0
    have Hx0:=hxy hp0
    have Hx1:(a1)[toNat (length p:Int)]?=some x1:=by
      rw[← hp1,hq1,Int.toNat_natCast]; simp
    obtain⟨Mx0_0,Mx0_1,Mx0_2,Mx0_3⟩:=hy1 x0 (List.mem_of_getElem? Hx0)
    obtain⟨Mx1_0,Mx1_1,Mx1_2,Mx1_3⟩:=hy3 x1 (List.mem_of_getElem? Hx1)
    have hlen:=hly hp0
    have hw:wrap .i64 ((length p:Int)+1)=(length p:Int)+1:=wrap64 yb
    simp only[r80_0]
    have f1:0≤(length p:Int):=yb
    have P1 {hs q} (r:PS F X hs q):=(PS.f hc (.f f1 (.f (mp_ b_T Hx0) (.f f1 (.f (mp_ b_T Hx1) (.h 8 (.b true) (.h 14 (.row (b_T x0)) (.h 22 (.row (b_T x1)) (.r 26 [] [] (e109 (l0_1:=(l0_0+1)) (l0_2:=(l0_0+1)) (l1_1:=(l1_0+1)) (l1_2:=(l1_0+1)) (a0:=x0) (a1:=x1) ‹_› ‹_› ‹_› ‹_› ‹_› ‹_› ‹_› ‹_›) r)))))))))
    by_cases h_1:(!(m109 x0 x1))=true
    · try simp only[if_pos h_1]
      exact lx 32 ya (P1 (.f h_1 (.h 29 (.b true) .nil))) rfl
    · try simp only[if_neg h_1]
      have ih:=t80_0 (l0_0:=l0_0) (l1_0:=l1_0) (a0:=a0) (a1:=a1) hy0 hy1 hy2 hy3 y0 y1 (p++ [x0]) (p_1++ [x1]) yd yac yo yad
      rw[pl1,← hw] at ih; rw[← hw]
      exact ly 36 ya (P1 (.f (nt h_1) (.f trivial (.h 29 (.b false) .nil)))) ih
def m80 (a0:(List K_T)) (a1:(List K_T)):Bool:=
  if(((length (map b_T a0)):Int) !=((length (map b_T a1)):Int))=true then false else
  (match r80_0 a0 a0 a1 0 with | .k0 w0_1 w1_1=>true | .k1=>false)
theorem e80 {l0_0:Nat} {a0:(List K_T)} {l1_0:Nat} {a1:(List K_T)} (hy0:length a0*56≤140737488351232) (hy1:∀z∈a0,ok_T z) (hy2:length a1*56≤140737488351232) (hy3:∀z∈a1,ok_T z):Ev F X (.call 80 [(.one (.bor l0_0 (map b_T a0))),(.one (.bor l1_0 (map b_T a1)))] [] [] [(.one (.val (.bool (m80 a0 a1))))]):=by
  unfold m80
  by_cases h0:(((length (map b_T a0)):Int) !=((length (map b_T a1)):Int))=true
  · try simp only[if_pos h0]
    exact cp ya (.f h0 (.h 12 (.b true) .nil))
  · try simp only[if_neg h0]
    cases h1:r80_0 a0 a0 a1 0 with
    |k0 w0_1 w1_1=>
      try dsimp only
      have f1:=Eq.refl (h80_0 l0_0 l1_0 a0 a1 0 )
      exact cp ya (.f (nt h0) (.f f1 (.f (ev_ (e:=ex80_0) (g:=(fin80_0 l0_0 l1_0 a0 a1)) h1 (t80_0 (l0_0:=l0_0) (l1_0:=l1_0) (a0:=a0) (a1:=a1) (by assumption) (by assumption) (by assumption) (by assumption) a0 a1 [] []  rfl rfl rfl yX)) (.h 12 (.b false) (.h 15 (.loop (h80_0 l0_0 l1_0 a0 a1 0) (.exit 0) (fin80_0 l0_0 l1_0 a0 a1 (.k0 w0_1 w1_1))) .nil)))))
    |k1=>
      try dsimp only
      have f1:=Eq.refl (h80_0 l0_0 l1_0 a0 a1 0 )
      exact cp ya (.f (nt h0) (.f f1 (.f (ev_ (e:=ex80_0) (g:=(fin80_0 l0_0 l1_0 a0 a1)) h1 (t80_0 (l0_0:=l0_0) (l1_0:=l1_0) (a0:=a0) (a1:=a1) (by assumption) (by assumption) (by assumption) (by assumption) a0 a1 [] []  rfl rfl rfl yX)) (.h 12 (.b false) (.h 15 (.loop (h80_0 l0_0 l1_0 a0 a1 0) .ret (fin80_0 l0_0 l1_0 a0 a1 (.k1))) .nil)))))
theorem eqr80_0 (a0:(List K_T)):∀(l m:List K_T) (i:Int),l.length=m.length→(r80_0 a0 l m i=.k1∧l≠m)∨(∃w0 w1,r80_0 a0 l m i=.k0 w0 w1∧l=m)
  |[],[],i,_=>.inr ⟨_,_,rfl,rfl⟩
  |[],_::_,i,h=>by simp at h
  |_::_,[],i,h=>by simp at h
  |x::l,y::m,i,h=>by
    have ih:=eqr80_0 a0 l m (i+1) yab
    by_cases hxy:x=y
    · subst hxy
      have e:r80_0 a0 (x::l) (x::m) i=r80_0 a0 l m (i+1):=by simp[r80_0,ba_eq,eqd109]
      rw[e]
      rcases ih with⟨h1,h2⟩ |⟨w0,w1,h1,h2⟩
      · exact .inl ⟨h1,by simp[h2]⟩
      · exact .inr ⟨_,_,h1,by rw[h2]⟩
    · have e:r80_0 a0 (x::l) (y::m) i=.k1:=by
        simp only[r80_0]
        first
          |((repeat' split)<;>simp_all [ba_eq,eqd109]; done)
          |(cases x; cases y;(repeat' split)<;>simp_all [ba_eq,eqd109])
      exact .inl ⟨e,by simp[hxy]⟩
open Classical in
theorem eqd80 (a b:(List K_T)):m80 a b=decide (a=b):=by
  rw[Bool.eq_iff_iff,decide_eq_true_eq]
  unfold m80
  by_cases hl:length a=length b
  · rcases eqr80_0 a a b 0 hl with⟨h1,h2⟩ |⟨w0,w1,h1,h2⟩
    · simp only[h1,length_map,hl]
      first
        |(simp[h2,ba_eq,eqd109]; done)
        |(cases a; cases b; simp_all [ba_eq,eqd109]; done)
        |(cases a; cases b;(repeat' split)<;>simp_all [ba_eq,eqd109])
    · simp only[h1,length_map,hl]
      first
        |(simp[h2,ba_eq,eqd109]; done)
        |(cases a; cases b; simp_all [ba_eq,eqd109]; done)
        |(cases a; cases b;(repeat' split)<;>simp_all [ba_eq,eqd109])
  · have hn:a≠b:=by rintro rfl; exact hl rfl
    simp only[length_map]
    first
      |(simp[hn,hl,ba_eq,eqd109]; done)
      |((repeat' split)<;>simp_all [ba_eq,eqd109]; done)
      |(simp[hn]; omega)
def m44 (a0:K_G) (a1:K_G):Bool:=
  if(a0.f0 !=a1.f0)=true then false else
  if(a0.f1 !=a1.f1)=true then false else
    if(a0.f2 !=a1.f2)=true then false else
      if(a0.f3 !=a1.f3)=true then false else
        if(!(m80 a0.f4 a1.f4))=true then false else
          true
theorem e44 {l0_4:Nat} {a0:K_G} {l1_4:Nat} {a1:K_G} (hy0:length a0.f4*56≤140737488351232) (hy1:∀z∈a0.f4,ok_T z) (hy2:length a1.f4*56≤140737488351232) (hy3:∀z∈a1.f4,ok_T z):Ev F X (.call 44 [(.agg (k_G l0_4 a0)),(.agg (k_G l1_4 a1))] [] [] [(.one (.val (.bool (m44 a0 a1))))]):=by
  unfold m44
  by_cases h0:(a0.f0 !=a1.f0)=true
  · try simp only[if_pos h0]
    exact cp ya (.f h0 (.h 16 (.b true) .nil))
  · try simp only[if_neg h0]
    have P1 {hs q} (r:PS F X hs q):=(PS.f (nt h0) (.h 16 (.b false) r))
    by_cases h1:(a0.f1 !=a1.f1)=true
    · try simp only[if_pos h1]
      exact cp ya (P1 (.f h1 (.h 27 (.b true) .nil)))
    · try simp only[if_neg h1]
      have P2 {hs q} (r:PS F X hs q):=(P1 (.f (nt h1) (.h 27 (.b false) r)))
      by_cases h2:(a0.f2 !=a1.f2)=true
      · try simp only[if_pos h2]
        exact cp ya (P2 (.f h2 (.h 38 (.b true) .nil)))
      · try simp only[if_neg h2]
        by_cases h3:(a0.f3 !=a1.f3)=true
        · try simp only[if_pos h3]
          exact cp ya (P2 (.f (nt h2) (.f h3 (.h 38 (.b false) (.h 49 (.b true) .nil)))))
        · try simp only[if_neg h3]
          have P4 {hs q} (r:PS F X hs q):=(P2 (.f (nt h2) (.f (nt h3) (.h 38 (.b false) (.h 49 (.b false) (.r 59 [] [] (e80 (l0_0:=(l0_4+1)) (l1_0:=(l1_4+1)) (a0:=a0.f4) (a1:=a1.f4) ‹_› ‹_› ‹_› ‹_›) r))))))
          by_cases h4:(!(m80 a0.f4 a1.f4))=true
          · try simp only[if_pos h4]
            exact cp ya (P4 (.f h4 (.h 62 (.b true) .nil)))
          · try simp only[if_neg h4]
            exact cp ya (P4 (.f (nt h4) (.h 62 (.b false) .nil)))
open Classical in
theorem eqd44 (a b:K_G):m44 a b=decide (a=b):=by
  rw[Bool.eq_iff_iff,decide_eq_true_eq]
  constructor
  · intro h
    unfold m44 at h
    cases a; cases b
    (repeat' split at h)<;>simp_all [ba_eq,eqd80]
  · rintro rfl
    simp[m44,ba_eq,eqd80]
def m11 (a0:K_J) (a1:K_J):Bool:=
  if(a0.f0 !=a1.f0)=true then false else
  if(!(m44 (K_G.mk a0.f1 a0.f2 a0.f3 a0.f4 a0.f5) (K_G.mk a1.f1 a1.f2 a1.f3 a1.f4 a1.f5)))=true then false else
    true
theorem e11 {l0_5:Nat} {a0:K_J} {l1_5:Nat} {a1:K_J} (hy0:length a0.f5*56≤140737488351232) (hy1:∀z∈a0.f5,ok_T z) (hy2:length a1.f5*56≤140737488351232) (hy3:∀z∈a1.f5,ok_T z):Ev F X (.call 11 [(.agg (k_J l0_5 a0)),(.agg (k_J l1_5 a1))] [] [] [(.one (.val (.bool (m11 a0 a1))))]):=by
  unfold m11
  by_cases h0:(a0.f0 !=a1.f0)=true
  · try simp only[if_pos h0]
    exact cp ya (.f h0 (.h 16 (.b true) .nil))
  · try simp only[if_neg h0]
    have P1 {hs q} (r:PS F X hs q):=(PS.f (nt h0) (.h 16 (.b false) (.r 26 [] [] (e44 (l0_4:=(l0_5+1)) (l1_4:=(l1_5+1)) (a0:=(K_G.mk a0.f1 a0.f2 a0.f3 a0.f4 a0.f5)) (a1:=(K_G.mk a1.f1 a1.f2 a1.f3 a1.f4 a1.f5)) ‹_› ‹_› ‹_› ‹_›) r)))
    by_cases h1:(!(m44 (K_G.mk a0.f1 a0.f2 a0.f3 a0.f4 a0.f5) (K_G.mk a1.f1 a1.f2 a1.f3 a1.f4 a1.f5)))=true
    · try simp only[if_pos h1]
      exact cp ya (P1 (.f h1 (.h 29 (.b true) .nil)))
    · try simp only[if_neg h1]
      exact cp ya (P1 (.f (nt h1) (.h 29 (.b false) .nil)))
open Classical in
theorem eqd11 (a b:K_J):m11 a b=decide (a=b):=by
  rw[Bool.eq_iff_iff,decide_eq_true_eq]
  constructor
  · intro h
    unfold m11 at h
    cases a; cases b
    (repeat' split at h)<;>simp_all [ba_eq,eqd44]
  · rintro rfl
    simp[m11,ba_eq,eqd44]
inductive O20_0 where
  |k0 (w0:Int) (w1:Bool)
  |k1
def r20_0 (a0:(List K_J)):List K_J→List K_J→Int→O20_0
  |x0::y0,x1::y1,i=>
    if(!(m11 x0 x1))=true then(O20_0.k1) else
    (r20_0 a0 y0 y1 (i+1))
  |_,_,i=>(O20_0.k0 i (decide (i <((length (map b_J a0)):Int))))
def h20_0 (l0_0:Nat) (l1_0:Nat) (a0:(List K_J)) (a1:(List K_J)) (i:Int) :St:=⟨[(0,(.one (.bor l0_0 (map b_J a0)))),(1,(.one (.bor l1_0 (map b_J a1)))),(5,(.one (.val (.int .i64 i))))],[]⟩
def ex20_0:O20_0→VX.Exit
  |.k0 _ _=>(.exit 0)
  |.k1=>.ret
def fin20_0 (l0_0:Nat) (l1_0:Nat) (a0:(List K_J)) (a1:(List K_J)):O20_0→St
  |.k0 w0 w1=>⟨[(0,(.one (.bor l0_0 (map b_J a0)))),(1,(.one (.bor l1_0 (map b_J a1)))),(5,(.one (.val (.int .i64 w0)))),(14,(.one (.val (.bool w1))))],[]⟩
  |.k1=>⟨[(4,(.one (.val (.bool false))))],[]⟩
theorem t20_0 {l0_0:Nat} {l1_0:Nat} {a0:(List K_J)} {a1:(List K_J)} (hy0:length a0*64≤140737488351232) (hy1:∀z∈a0,ok_J z) (hy2:length a1*64≤140737488351232) (hy3:∀z∈a1,ok_J z):∀(y0:List K_J) (y1:List K_J) (p:List K_J) (p_1:List K_J),p++y0=a0→p_1++y1=a1→length p=length p_1→length y0=length y1→Ev F X (.code l20_0 (h20_0 l0_0 l1_0 a0 a1 (length p:Int)) (ex20_0 (r20_0 a0 y0 y1 (length p:Int))) (fin20_0 l0_0 l1_0 a0 a1 (r20_0 a0 y0 y1 (length p:Int))))
  |[],[],p,p_1,hp0,hp1,hq1,hl1=>by
    have hc:=hcn b_J hp0
    exact lx 9 ya (.f (nt hc) (.h 8 (.b false) .nil)) rfl
  |x0::y0,x1::y1,p,p_1,hp0,hp1,hq1,hl1=>by
    have hc:=hcy b_J hp0
    have Hx0:=hxy hp0
    have Hx1:(a1)[toNat (length p:Int)]?=some x1:=by
      rw[← hp1,hq1,Int.toNat_natCast]; simp
    obtain⟨Mx0_0,Mx0_1⟩:=hy1 x0 (List.mem_of_getElem? Hx0)
    obtain⟨Mx1_0,Mx1_1⟩:=hy3 x1 (List.mem_of_getElem? Hx1)
    have hlen:=hly hp0
    have hw:wrap .i64 ((length p:Int)+1)=(length p:Int)+1:=wrap64 yb
    simp only[r20_0]
    have f1:0≤(length p:Int):=yb
    have P1 {hs q} (r:PS F X hs q):=(PS.f hc (.f f1 (.f (mp_ b_J Hx0) (.f f1 (.f (mp_ b_J Hx1) (.h 8 (.b true) (.h 14 (.row (b_J x0)) (.h 22 (.row (b_J x1)) (.r 26 [] [] (e11 (l0_5:=(l0_0+1)) (l1_5:=(l1_0+1)) (a0:=x0) (a1:=x1) ‹_› ‹_› ‹_› ‹_›) r)))))))))
    by_cases h_1:(!(m11 x0 x1))=true
    · try simp only[if_pos h_1]
      exact lx 32 ya (P1 (.f h_1 (.h 29 (.b true) .nil))) rfl
    · try simp only[if_neg h_1]
      have ih:=t20_0 (l0_0:=l0_0) (l1_0:=l1_0) (a0:=a0) (a1:=a1) hy0 hy1 hy2 hy3 y0 y1 (p++ [x0]) (p_1++ [x1]) yd yac yo yad
      rw[pl1,← hw] at ih; rw[← hw]
      exact ly 36 ya (P1 (.f (nt h_1) (.f trivial (.h 29 (.b false) .nil)))) ih
def m20 (a0:(List K_J)) (a1:(List K_J)):Bool:=
  if(((length (map b_J a0)):Int) !=((length (map b_J a1)):Int))=true then false else
  (match r20_0 a0 a0 a1 0 with | .k0 w0_1 w1_1=>true | .k1=>false)
theorem e20 {l0_0:Nat} {a0:(List K_J)} {l1_0:Nat} {a1:(List K_J)} (hy0:length a0*64≤140737488351232) (hy1:∀z∈a0,ok_J z) (hy2:length a1*64≤140737488351232) (hy3:∀z∈a1,ok_J z):Ev F X (.call 20 [(.one (.bor l0_0 (map b_J a0))),(.one (.bor l1_0 (map b_J a1)))] [] [] [(.one (.val (.bool (m20 a0 a1))))]):=by
  unfold m20
  by_cases h0:(((length (map b_J a0)):Int) !=((length (map b_J a1)):Int))=true
  · try simp only[if_pos h0]
    exact cp ya (.f h0 (.h 12 (.b true) .nil))
  · try simp only[if_neg h0]
    cases h1:r20_0 a0 a0 a1 0 with
    |k0 w0_1 w1_1=>
      try dsimp only
      have f1:=Eq.refl (h20_0 l0_0 l1_0 a0 a1 0 )
      exact cp ya (.f (nt h0) (.f f1 (.f (ev_ (e:=ex20_0) (g:=(fin20_0 l0_0 l1_0 a0 a1)) h1 (t20_0 (l0_0:=l0_0) (l1_0:=l1_0) (a0:=a0) (a1:=a1) (by assumption) (by assumption) (by assumption) (by assumption) a0 a1 [] []  rfl rfl rfl yX)) (.h 12 (.b false) (.h 15 (.loop (h20_0 l0_0 l1_0 a0 a1 0) (.exit 0) (fin20_0 l0_0 l1_0 a0 a1 (.k0 w0_1 w1_1))) .nil)))))
    |k1=>
      try dsimp only
      have f1:=Eq.refl (h20_0 l0_0 l1_0 a0 a1 0 )
      exact cp ya (.f (nt h0) (.f f1 (.f (ev_ (e:=ex20_0) (g:=(fin20_0 l0_0 l1_0 a0 a1)) h1 (t20_0 (l0_0:=l0_0) (l1_0:=l1_0) (a0:=a0) (a1:=a1) (by assumption) (by assumption) (by assumption) (by assumption) a0 a1 [] []  rfl rfl rfl yX)) (.h 12 (.b false) (.h 15 (.loop (h20_0 l0_0 l1_0 a0 a1 0) .ret (fin20_0 l0_0 l1_0 a0 a1 (.k1))) .nil)))))
theorem eqr20_0 (a0:(List K_J)):∀(l m:List K_J) (i:Int),l.length=m.length→(r20_0 a0 l m i=.k1∧l≠m)∨(∃w0 w1,r20_0 a0 l m i=.k0 w0 w1∧l=m)
  |[],[],i,_=>.inr ⟨_,_,rfl,rfl⟩
  |[],_::_,i,h=>by simp at h
  |_::_,[],i,h=>by simp at h
  |x::l,y::m,i,h=>by
    have ih:=eqr20_0 a0 l m (i+1) yab
    by_cases hxy:x=y
    · subst hxy
      have e:r20_0 a0 (x::l) (x::m) i=r20_0 a0 l m (i+1):=by simp[r20_0,ba_eq,eqd11]
      rw[e]
      rcases ih with⟨h1,h2⟩ |⟨w0,w1,h1,h2⟩
      · exact .inl ⟨h1,by simp[h2]⟩
      · exact .inr ⟨_,_,h1,by rw[h2]⟩
    · have e:r20_0 a0 (x::l) (y::m) i=.k1:=by
        simp only[r20_0]
        first
          |((repeat' split)<;>simp_all [ba_eq,eqd11]; done)
          |(cases x; cases y;(repeat' split)<;>simp_all [ba_eq,eqd11])
      exact .inl ⟨e,by simp[hxy]⟩
open Classical in
theorem eqd20 (a b:(List K_J)):m20 a b=decide (a=b):=by
  rw[Bool.eq_iff_iff,decide_eq_true_eq]
  unfold m20
  by_cases hl:length a=length b
  · rcases eqr20_0 a a b 0 hl with⟨h1,h2⟩ |⟨w0,w1,h1,h2⟩
    · simp only[h1,length_map,hl]
      first
        |(simp[h2,ba_eq,eqd11]; done)
        |(cases a; cases b; simp_all [ba_eq,eqd11]; done)
        |(cases a; cases b;(repeat' split)<;>simp_all [ba_eq,eqd11])
    · simp only[h1,length_map,hl]
      first
        |(simp[h2,ba_eq,eqd11]; done)
        |(cases a; cases b; simp_all [ba_eq,eqd11]; done)
        |(cases a; cases b;(repeat' split)<;>simp_all [ba_eq,eqd11])
  · have hn:a≠b:=by rintro rfl; exact hl rfl
    simp only[length_map]
    first
      |(simp[hn,hl,ba_eq,eqd11]; done)
      |((repeat' split)<;>simp_all [ba_eq,eqd11]; done)
      |(simp[hn]; omega)
inductive O112_0 where
  |k0 (w0:List Int) (w1:Int) (w2:Int) (w3:Bool)
def r112_0 (a0:(List Int)):List Int→Int→List Int→Int→O112_0
  |x0::y0,i,v0,v1=>
    (r112_0 a0 y0 (i+1) (set v0 (toNat i) v1) (wrap .i64 (v1+1)))
  |[],i,v0,v1=>(O112_0.k0 v0 v1 i (decide (i <((length (map d_i a0)):Int))))
def h112_0 (a0:(List Int)) (a1:Int) (i:Int) (v0:List Int) (v1:Int):St:=⟨[(0,(.one (.ref ⟨(0,0,0),[],0,(length (map d_i a0))⟩))),(1,(.one (.val (.int .i64 v1)))),(5,(.one (.val (.int .i64 i))))],[((0,0,0),.live ⟨1,(map d_i v0),[]⟩)]⟩
def ex112_0:O112_0→VX.Exit
  |.k0 _ _ _ _=>(.exit 0)
def fin112_0 (a0:(List Int)) (a1:Int):O112_0→St
  |.k0 w0 w1 w2 w3=>⟨[(0,(.one (.ref ⟨(0,0,0),[],0,(length (map d_i a0))⟩))),(1,(.one (.val (.int .i64 w1)))),(5,(.one (.val (.int .i64 w2)))),(9,(.one (.val (.bool w3))))],[((0,0,0),.live ⟨1,(map d_i w0),[]⟩)]⟩
theorem t112_0 {a0:(List Int)} {a1:Int} (hy0:length a0*8≤140737488351232):∀(y0:List Int) (p:List Int) (v0:List Int) (v1:Int),p++y0=a0→length v0=(length (map d_i a0))→drop (length p) v0=y0→Ev F X (.code l112_0 (h112_0 a0 a1 (length p:Int) v0 v1) (ex112_0 (r112_0 a0 y0 (length p:Int) v0 v1)) (fin112_0 a0 a1 (r112_0 a0 y0 (length p:Int) v0 v1)))
  |[],p,v0,v1,hp0,hi0,hi1=>by
    have hc:=hcn d_i hp0
    have hj0:=hi0; try simp only[LN,Int.toNat_natCast] at hj0
    have hj1:=hi1; try simp only[LN,Int.toNat_natCast] at hj1
    exact lx 9 ya (.f (nt hc) (.h 8 (.b false) .nil)) rfl
  |x0::y0,p,v0,v1,hp0,hi0,hi1=>by
    have hc:=hcy d_i hp0
    have Hx0:=hxy hp0
    have hlen:=hly hp0
    have hw:wrap .i64 ((length p:Int)+1)=(length p:Int)+1:=wrap64 yb
    have hj0:=hi0; try simp only[LN,Int.toNat_natCast] at hj0
    have hj1:=hi1; try simp only[LN,Int.toNat_natCast] at hj1
    have Hv0:v0[toNat (length p:Int)]?=some x0:=by rw[Int.toNat_natCast]; exact drop_at hi1
    simp only[r112_0]
    have f1:0+(length (map d_i a0))≤(length (map d_i v0)):=yl
    have f2:0≤(length p:Int)∧(length p:Int) <((length (map d_i a0)):Int):=yb
    have f4:(set (map d_i v0) (0+(toNat (length p:Int))) [(.i v1)])=(map d_i (set v0 (toNat (length p:Int)) v1)):=yax
    have ih:=t112_0 (a0:=a0) (a1:=a1) hy0 y0 (p++ [x0]) (set v0 (toNat (length p:Int)) v1) (wrap .i64 (v1+1)) yd yo yz
    rw[pl1,← hw] at ih; rw[← hw]
    exact ly 32 ya (.f hc (.f f1 (.f f2 (.f (mz_ d_i Hv0) (.f f4 (.f trivial (.f trivial (.h 8 (.b true) (.h 18 (.rowD [(.i x0)]) (.h 19 (.norm (0,0,0) (map d_i (set v0 (toNat (length p:Int)) v1))) .nil)))))))))) ih
def post112_0 (n0:Nat):O112_0→Prop
  |.k0 w0 _ _ _=>length w0=n0
theorem z112_0 {a0:(List Int)}:∀(y0:List Int) (i:Int) (v0:List Int) (v1:Int),post112_0 (length v0) (r112_0 a0 y0 i v0 v1)
  |[],i,v0,v1=>by
    first | trivial |(simp only[post112_0,length_nil,Nat.add_zero]; done) |(simp[post112_0]; done)
  |x0::y0,i,v0,v1=>by
    simp only[r112_0]
    have z:=z112_0 (a0:=a0) y0 (i+1) (set v0 (toNat i) v1) (wrap .i64 (v1+1))
    rw[show (length v0)=(length (set v0 (toNat i) v1)) from by first | omega |(simp only[LN]; done) |(simp only[LN]; omega)]
    exact z
def o112_0 (a0:(List Int)) (a1:Int):List Int:=
  (match r112_0 a0 a0 0 a0 a1 with | .k0 w0_0 w1_0 w2_0 w3_0=>w0_0)
def m112 (a0:(List Int)) (a1:Int):Int:=
  (match r112_0 a0 a0 0 a0 a1 with | .k0 w0_0 w1_0 w2_0 w3_0=>w1_0)
theorem e112 {a0:(List Int)} {a1:Int} (hy0:length a0*8≤140737488351232):Ev F X (.call 112 [(.one (.ref ⟨(0,0,0),[],0,(length (map d_i a0))⟩)),(.one (.val (.int .i64 a1)))] [((0,0,0),⟨1,(map d_i a0),[]⟩)] [(map d_i (o112_0 a0 a1))] [(.one (.val (.int .i64 (m112 a0 a1))))]):=by
  unfold m112 o112_0
  cases h0:r112_0 a0 a0 0 a0 a1 with
  |k0 w0_0 w1_0 w2_0 w3_0=>
    try dsimp only
    have zh0:=z112_0 (a0:=a0) a0 0 a0 a1; rw[h0] at zh0; simp only[post112_0,length_map,length_set,length_append,length_replicate,length_cons,length_nil,Int.toNat_natCast] at zh0
    have f0:=Eq.refl (h112_0 a0 a1 0 a0 a1)
    exact cq [true] ya (.f f0 (.f (ev_ (e:=ex112_0) (g:=(fin112_0 a0 a1)) h0 (t112_0 (a0:=a0) (a1:=a1) (by assumption) a0 [] a0 a1 rfl yM (by rfl))) (.f (pureR_i w0_0) (.h 4 (.loop (h112_0 a0 a1 0 a0 a1) (.exit 0) (fin112_0 a0 a1 (.k0 w0_0 w1_0 w2_0 w3_0))) .nil))))
theorem ow112_0 (a0:List Int):∀(l p:List Int) (v1:Int),∃(q:List Int) (w1:_) (w2:_) (w3:_),r112_0 a0 l (p.length:Int) (p++l) v1=.k0 (p++q) w1 w2 w3∧q.length=l.length
  |[],p,v1=>⟨[],v1,(p.length:Int),(decide ((p.length:Int) <((length (map d_i a0)):Int))),rfl,rfl⟩
  |x0::l,p,v1=>by
    obtain⟨q,w1,w2,w3,e1,e2⟩:=ow112_0 a0 l (p++ [v1]) (wrap .i64 (v1+1))
    refine⟨v1::q,w1,w2,w3,?_,by simp[e2]⟩
    · have e:set (p++x0::l) (toNat (p.length:Int)) v1=(p++ [v1])++l:=by simp
      have e0:((p++ [v1]).length:Int)=(p.length:Int)+1:=by simp
      rw[e0] at e1
      simp only[r112_0]
      first |(rw[e,e1]; simp; done) |(simp only[e,e1]; simp; done)

theorem ol112 (a:List Int) (k:Int):(o112_0 a k).length=a.length:=by
  obtain⟨q,w1,w2,w3,e1,e2⟩:=ow112_0 a a [] k
  simp only[List.nil_append,length_nil] at e1
  rw[show ((0:Nat):Int)=0 from rfl] at e1
  unfold o112_0
  rw[e1]; exact e2
inductive O83_0 where
  |k0 (w0:List K_N) (w1:Int) (w2:Int) (w3:Bool)
def r83_0 (a0:(List K_N)):List K_N→Int→List K_N→Int→O83_0
  |x0::y0,i,v0,v1=>
    (r83_0 a0 y0 (i+1) (set v0 (toNat i) (K_N.mk v1 (wrap .i64 (v1+1)) (o112_0 x0.f2 (wrap .i64 ((wrap .i64 (v1+1))+1))))) (m112 x0.f2 (wrap .i64 ((wrap .i64 (v1+1))+1))))
  |[],i,v0,v1=>(O83_0.k0 v0 v1 i (decide (i <((length (map d_N a0)):Int))))
def h83_0 (a0:(List K_N)) (a1:Int) (i:Int) (v0:List K_N) (v1:Int):St:=⟨[(0,(.one (.ref ⟨(0,0,0),[],0,(length (map d_N a0))⟩))),(1,(.one (.val (.int .i64 v1)))),(5,(.one (.val (.int .i64 i))))],[((0,0,0),.live ⟨3,(map d_N v0),[]⟩)]⟩
def ex83_0:O83_0→VX.Exit
  |.k0 _ _ _ _=>(.exit 0)
def fin83_0 (a0:(List K_N)) (a1:Int):O83_0→St
  |.k0 w0 w1 w2 w3=>⟨[(0,(.one (.ref ⟨(0,0,0),[],0,(length (map d_N a0))⟩))),(1,(.one (.val (.int .i64 w1)))),(5,(.one (.val (.int .i64 w2)))),(9,(.one (.val (.bool w3))))],[((0,0,0),.live ⟨3,(map d_N w0),[]⟩)]⟩
theorem t83_0 {a0:(List K_N)} {a1:Int} (hy0:length a0*40≤140737488351232) (hy1:∀z∈a0,ok_N z):∀(y0:List K_N) (p:List K_N) (v0:List K_N) (v1:Int),p++y0=a0→length v0=(length (map d_N a0))→drop (length p) v0=y0→Ev F X (.code l83_0 (h83_0 a0 a1 (length p:Int) v0 v1) (ex83_0 (r83_0 a0 y0 (length p:Int) v0 v1)) (fin83_0 a0 a1 (r83_0 a0 y0 (length p:Int) v0 v1)))
  |[],p,v0,v1,hp0,hi0,hi1=>by
    have hc:=hcn d_N hp0
    have hj0:=hi0; try simp only[LN,Int.toNat_natCast] at hj0
    have hj1:=hi1; try simp only[LN,Int.toNat_natCast] at hj1
    exact lx 9 ya (.f (nt hc) (.h 8 (.b false) .nil)) rfl
  |x0::y0,p,v0,v1,hp0,hi0,hi1=>by
    have hc:=hcy d_N hp0
    have Hx0:=hxy hp0
    have Mx0_0:=hy1 x0 (List.mem_of_getElem? Hx0)
    have hlen:=hly hp0
    have hw:wrap .i64 ((length p:Int)+1)=(length p:Int)+1:=wrap64 yb
    have hj0:=hi0; try simp only[LN,Int.toNat_natCast] at hj0
    have hj1:=hi1; try simp only[LN,Int.toNat_natCast] at hj1
    have Hv0:v0[toNat (length p:Int)]?=some x0:=by rw[Int.toNat_natCast]; exact drop_at hi1
    simp only[r83_0]
    have f1:0+(length (map d_N a0))≤(length (map d_N v0)):=yl
    have f2:0≤(length p:Int)∧(length p:Int) <((length (map d_N a0)):Int):=yb
    have f4:(set (map d_N v0) (0+(toNat (length p:Int))) [(.i v1),(.i x0.f1),(.own 1 (map d_i x0.f2))])=(map d_N (set v0 (toNat (length p:Int)) (K_N.mk v1 x0.f1 x0.f2))):=(by simp[take_of_length_le,d_i,d_N,ol112]; done)
    have f6:0+(length (map d_N a0))≤(length (map d_N (set v0 (toNat (length p:Int)) (K_N.mk v1 x0.f1 x0.f2)))):=yy
    have f8:(map d_N (set v0 (toNat (length p:Int)) (K_N.mk v1 x0.f1 x0.f2)))[(0+(toNat (length p:Int)))]?=some [(.i v1),(.i x0.f1),(.own 1 (map d_i x0.f2))]:=yi
    have f9:(set (map d_N (set v0 (toNat (length p:Int)) (K_N.mk v1 x0.f1 x0.f2))) (0+(toNat (length p:Int))) [(.i v1),(.i (wrap .i64 (v1+1))),(.own 1 (map d_i x0.f2))])=(map d_N (set v0 (toNat (length p:Int)) (K_N.mk v1 (wrap .i64 (v1+1)) x0.f2))):=(by simp[take_of_length_le,d_i,d_N,ol112]; done)
    have f11:0+(length (map d_N a0))≤(length (map d_N (set v0 (toNat (length p:Int)) (K_N.mk v1 (wrap .i64 (v1+1)) x0.f2)))):=yy
    have f13:(map d_N (set v0 (toNat (length p:Int)) (K_N.mk v1 (wrap .i64 (v1+1)) x0.f2)))[(0+(toNat (length p:Int)))]?=some [(.i v1),(.i (wrap .i64 (v1+1))),(.own 1 (map d_i x0.f2))]:=yi
    have f14:nav 3 (map d_N (set v0 (toNat (length p:Int)) (K_N.mk v1 (wrap .i64 (v1+1)) x0.f2))) [((0+(toNat (length p:Int))),2)]=some (1,(map d_i x0.f2)):=yA
    have f17:undirt [((0+(toNat (length p:Int))),2)] [([((0+(toNat (length p:Int))),2)],false)]=[([((0+(toNat (length p:Int))),2)],true)]:=(by simp[undirt])
    have f18:(setCell (setCell (map d_N (set v0 (toNat (length p:Int)) (K_N.mk v1 (wrap .i64 (v1+1)) x0.f2))) [((0+(toNat (length p:Int))),2)] (.hole (lenAt ⟨3,(map d_N (set v0 (toNat (length p:Int)) (K_N.mk v1 (wrap .i64 (v1+1)) x0.f2))),[]⟩ [((0+(toNat (length p:Int))),2)]))) [((0+(toNat (length p:Int))),2)] (.own 1 (map d_i (o112_0 x0.f2 (wrap .i64 ((wrap .i64 (v1+1))+1))))))=(map d_N (set v0 (toNat (length p:Int)) (K_N.mk v1 (wrap .i64 (v1+1)) (o112_0 x0.f2 (wrap .i64 ((wrap .i64 (v1+1))+1)))))):=(by rw[setCell2At (i:=(0+(toNat (length p:Int)))) (j:=2) (row:=[(.i v1),(.i (wrap .i64 (v1+1))),(.own 1 (map d_i x0.f2))]) yi]; first | rfl |(simp[take_of_length_le,d_i,d_N,d_U,d_T,d_J,d_JL,d_KY,d_LiiiiE,d_b,d_SR,d_G,d_TL,d_LiE,d_NL,d_UL,d_y,d_LyE,d_LLyEE,ol112,byteRows_eq,ints_y]; done) |(simp[map_set,take_of_length_le,d_i,d_N,d_U,d_T,d_J,d_JL,d_KY,d_LiiiiE,d_b,d_SR,d_G,d_TL,d_LiE,d_NL,d_UL,d_y,d_LyE,d_LLyEE,ol112,byteRows_eq,ints_y]; done))
    have ih:=t83_0 (a0:=a0) (a1:=a1) hy0 hy1 y0 (p++ [x0]) (set v0 (toNat (length p:Int)) (K_N.mk v1 (wrap .i64 (v1+1)) (o112_0 x0.f2 (wrap .i64 ((wrap .i64 (v1+1))+1))))) (m112 x0.f2 (wrap .i64 ((wrap .i64 (v1+1))+1))) yd yo yz
    rw[pl1,← hw] at ih; rw[← hw]
    exact ly 70 ya (.f hc (.f f1 (.f f2 (.f (mz_ d_N Hv0) (.f f4 (.f trivial (.f f6 (.f f2 (.f f8 (.f f9 (.f trivial (.f f11 (.f f2 (.f f13 (.f f14 (.f (pureR_i x0.f2) (.h 8 (.b true) (.h 20 (.rowD (d_N x0)) (.h 21 (.norm (0,0,0) (map d_N (set v0 (toNat (length p:Int)) (K_N.mk v1 x0.f1 x0.f2)))) (.h 39 (.rowD [(.i v1),(.i x0.f1),(.own 1 (map d_i x0.f2))]) (.h 40 (.norm (0,0,0) (map d_N (set v0 (toNat (length p:Int)) (K_N.mk v1 (wrap .i64 (v1+1)) x0.f2)))) (.h 56 (.rowD [(.i v1),(.i (wrap .i64 (v1+1))),(.own 1 (map d_i x0.f2))]) (.rn 60 [((0,0,0),[2],1,(map d_i x0.f2))] [[([((0+(toNat (length p:Int))),2)],true)]] [true] [] (e112 (a0:=x0.f2) (a1:=(wrap .i64 ((wrap .i64 (v1+1))+1))) (by assumption)) (.f f17 (.f f18 (.f trivial (.h 63 (.norm (0,0,0) (map d_N (set v0 (toNat (length p:Int)) (K_N.mk v1 (wrap .i64 (v1+1)) (o112_0 x0.f2 (wrap .i64 ((wrap .i64 (v1+1))+1))))))) .nil))))))))))))))))))))))))))) ih
def post83_0 (n0:Nat):O83_0→Prop
  |.k0 w0 _ _ _=>length w0=n0
theorem z83_0 {a0:(List K_N)}:∀(y0:List K_N) (i:Int) (v0:List K_N) (v1:Int),post83_0 (length v0) (r83_0 a0 y0 i v0 v1)
  |[],i,v0,v1=>by
    first | trivial |(simp only[post83_0,length_nil,Nat.add_zero]; done) |(simp[post83_0]; done)
  |x0::y0,i,v0,v1=>by
    simp only[r83_0]
    have z:=z83_0 (a0:=a0) y0 (i+1) (set v0 (toNat i) (K_N.mk v1 (wrap .i64 (v1+1)) (o112_0 x0.f2 (wrap .i64 ((wrap .i64 (v1+1))+1))))) (m112 x0.f2 (wrap .i64 ((wrap .i64 (v1+1))+1)))
    rw[show (length v0)=(length (set v0 (toNat i) (K_N.mk v1 (wrap .i64 (v1+1)) (o112_0 x0.f2 (wrap .i64 ((wrap .i64 (v1+1))+1)))))) from by first | omega |(simp only[LN]; done) |(simp only[LN]; omega)]
    exact z
def o83_0 (a0:(List K_N)) (a1:Int):List K_N:=
  (match r83_0 a0 a0 0 a0 a1 with | .k0 w0_0 w1_0 w2_0 w3_0=>w0_0)
def m83 (a0:(List K_N)) (a1:Int):Int:=
  (match r83_0 a0 a0 0 a0 a1 with | .k0 w0_0 w1_0 w2_0 w3_0=>w1_0)
theorem e83 {a0:(List K_N)} {a1:Int} (hy0:length a0*40≤140737488351232) (hy1:∀z∈a0,ok_N z):Ev F X (.call 83 [(.one (.ref ⟨(0,0,0),[],0,(length (map d_N a0))⟩)),(.one (.val (.int .i64 a1)))] [((0,0,0),⟨3,(map d_N a0),[]⟩)] [(map d_N (o83_0 a0 a1))] [(.one (.val (.int .i64 (m83 a0 a1))))]):=by
  unfold m83 o83_0
  cases h0:r83_0 a0 a0 0 a0 a1 with
  |k0 w0_0 w1_0 w2_0 w3_0=>
    try dsimp only
    have zh0:=z83_0 (a0:=a0) a0 0 a0 a1; rw[h0] at zh0; simp only[post83_0,length_map,length_set,length_append,length_replicate,length_cons,length_nil,Int.toNat_natCast] at zh0
    have f0:=Eq.refl (h83_0 a0 a1 0 a0 a1)
    exact cq [true] ya (.f f0 (.f (ev_ (e:=ex83_0) (g:=(fin83_0 a0 a1)) h0 (t83_0 (a0:=a0) (a1:=a1) (by assumption) (by assumption) a0 [] a0 a1 rfl yM (by rfl))) (.f (pureR_N w0_0) (.h 4 (.loop (h83_0 a0 a1 0 a0 a1) (.exit 0) (fin83_0 a0 a1 (.k0 w0_0 w1_0 w2_0 w3_0))) .nil))))
theorem ow83_0 (a0:List K_N):∀(l p:List K_N) (v1:Int),(∀z∈l,ok_N z)→∃(q:List K_N) (w1:_) (w2:_) (w3:_),r83_0 a0 l (p.length:Int) (p++l) v1=.k0 (p++q) w1 w2 w3∧q.length=l.length∧∀z∈q,ok_N z
  |[],p,v1,_=>⟨[],v1,(p.length:Int),(decide ((p.length:Int) <((length (map d_N a0)):Int))),rfl,rfl,fun z h=>by cases h⟩
  |x0::l,p,v1,h=>by
    obtain⟨q,w1,w2,w3,e1,e2,e3⟩:=ow83_0 a0 l (p++ [(K_N.mk v1 (wrap .i64 (v1+1)) (o112_0 x0.f2 (wrap .i64 ((wrap .i64 (v1+1))+1))))]) (m112 x0.f2 (wrap .i64 ((wrap .i64 (v1+1))+1))) (fun z hz=>h z (List.mem_cons_of_mem _ hz))
    refine⟨(K_N.mk v1 (wrap .i64 (v1+1)) (o112_0 x0.f2 (wrap .i64 ((wrap .i64 (v1+1))+1))))::q,w1,w2,w3,?_,by simp[e2],?_⟩
    · have e:set (p++x0::l) (toNat (p.length:Int)) (K_N.mk v1 (wrap .i64 (v1+1)) (o112_0 x0.f2 (wrap .i64 ((wrap .i64 (v1+1))+1))))=(p++ [(K_N.mk v1 (wrap .i64 (v1+1)) (o112_0 x0.f2 (wrap .i64 ((wrap .i64 (v1+1))+1))))])++l:=by simp
      have e0:((p++ [(K_N.mk v1 (wrap .i64 (v1+1)) (o112_0 x0.f2 (wrap .i64 ((wrap .i64 (v1+1))+1))))]).length:Int)=(p.length:Int)+1:=by simp
      rw[e0] at e1
      simp only[r83_0]
      first |(rw[e,e1]; simp; done) |(simp only[e,e1]; simp; done)
    · intro z hz
      rcases List.mem_cons.1 hz with rfl | hz
      · have hx:=h x0 (List.mem_cons_self ..)
        simp only[ok_N] at hx⊢
        simp only[length_map,ol112] at hx⊢
        first | exact hx |(simp_all [ol112]; done) |(obtain⟨_,_⟩:=hx; refine⟨?_,?_⟩<;>simp_all [ol112]; done) | exact(by first | exact hx |(simpa using hx))
      · exact e3 z hz

theorem ov83_0 (a0:List K_N):∀(l p:List K_N) (v1:Int),∃(q:List K_N) (w1:_) (w2:_) (w3:_),r83_0 a0 l (p.length:Int) (p++l) v1=.k0 (p++q) w1 w2 w3∧q.length=l.length
  |[],p,v1=>⟨[],v1,(p.length:Int),(decide ((p.length:Int) <((length (map d_N a0)):Int))),rfl,rfl⟩
  |x0::l,p,v1=>by
    obtain⟨q,w1,w2,w3,e1,e2⟩:=ov83_0 a0 l (p++ [(K_N.mk v1 (wrap .i64 (v1+1)) (o112_0 x0.f2 (wrap .i64 ((wrap .i64 (v1+1))+1))))]) (m112 x0.f2 (wrap .i64 ((wrap .i64 (v1+1))+1)))
    refine⟨(K_N.mk v1 (wrap .i64 (v1+1)) (o112_0 x0.f2 (wrap .i64 ((wrap .i64 (v1+1))+1))))::q,w1,w2,w3,?_,by simp[e2]⟩
    · have e:set (p++x0::l) (toNat (p.length:Int)) (K_N.mk v1 (wrap .i64 (v1+1)) (o112_0 x0.f2 (wrap .i64 ((wrap .i64 (v1+1))+1))))=(p++ [(K_N.mk v1 (wrap .i64 (v1+1)) (o112_0 x0.f2 (wrap .i64 ((wrap .i64 (v1+1))+1))))])++l:=by simp
      have e0:((p++ [(K_N.mk v1 (wrap .i64 (v1+1)) (o112_0 x0.f2 (wrap .i64 ((wrap .i64 (v1+1))+1))))]).length:Int)=(p.length:Int)+1:=by simp
      rw[e0] at e1
      simp only[r83_0]
      first |(rw[e,e1]; simp; done) |(simp only[e,e1]; simp; done)
theorem ol83 (a:List K_N) (k:Int):(o83_0 a k).length=a.length:=by
  obtain⟨q,w1,w2,w3,e1,e2⟩:=ov83_0 a a [] k
  simp only[List.nil_append,length_nil] at e1
  rw[show ((0:Nat):Int)=0 from rfl] at e1
  unfold o83_0
  rw[e1]; exact e2
theorem oo83 (a:List K_N) (k:Int) (h:∀z∈a,ok_N z):∀z∈o83_0 a k,ok_N z:=by
  obtain⟨q,w1,w2,w3,e1,e2,e3⟩:=ow83_0 a a [] k h
  simp only[List.nil_append,length_nil] at e1
  rw[show ((0:Nat):Int)=0 from rfl] at e1
  unfold o83_0
  rw[e1]; exact e3
inductive O84_0 where
  |k0 (w0:List K_U) (w1:Int) (w2:Int) (w3:Bool)
def r84_0 (a0:(List K_U)):List K_U→Int→List K_U→Int→O84_0
  |x0::y0,i,v0,v1=>
    (r84_0 a0 y0 (i+1) (set v0 (toNat i) (K_U.mk v1 (o112_0 x0.f1 (wrap .i64 (v1+1))))) (m112 x0.f1 (wrap .i64 (v1+1))))
  |[],i,v0,v1=>(O84_0.k0 v0 v1 i (decide (i <((length (map d_U a0)):Int))))
def h84_0 (a0:(List K_U)) (a1:Int) (i:Int) (v0:List K_U) (v1:Int):St:=⟨[(0,(.one (.ref ⟨(0,0,0),[],0,(length (map d_U a0))⟩))),(1,(.one (.val (.int .i64 v1)))),(5,(.one (.val (.int .i64 i))))],[((0,0,0),.live ⟨2,(map d_U v0),[]⟩)]⟩
def ex84_0:O84_0→VX.Exit
  |.k0 _ _ _ _=>(.exit 0)
def fin84_0 (a0:(List K_U)) (a1:Int):O84_0→St
  |.k0 w0 w1 w2 w3=>⟨[(0,(.one (.ref ⟨(0,0,0),[],0,(length (map d_U a0))⟩))),(1,(.one (.val (.int .i64 w1)))),(5,(.one (.val (.int .i64 w2)))),(9,(.one (.val (.bool w3))))],[((0,0,0),.live ⟨2,(map d_U w0),[]⟩)]⟩
theorem t84_0 {a0:(List K_U)} {a1:Int} (hy0:length a0*32≤140737488351232) (hy1:∀z∈a0,ok_U z):∀(y0:List K_U) (p:List K_U) (v0:List K_U) (v1:Int),p++y0=a0→length v0=(length (map d_U a0))→drop (length p) v0=y0→Ev F X (.code l84_0 (h84_0 a0 a1 (length p:Int) v0 v1) (ex84_0 (r84_0 a0 y0 (length p:Int) v0 v1)) (fin84_0 a0 a1 (r84_0 a0 y0 (length p:Int) v0 v1)))
  |[],p,v0,v1,hp0,hi0,hi1=>by
    have hc:=hcn d_U hp0
    have hj0:=hi0; try simp only[LN,Int.toNat_natCast] at hj0
    have hj1:=hi1; try simp only[LN,Int.toNat_natCast] at hj1
    exact lx 9 ya (.f (nt hc) (.h 8 (.b false) .nil)) rfl
  |x0::y0,p,v0,v1,hp0,hi0,hi1=>by
    have hc:=hcy d_U hp0
    have Hx0:=hxy hp0
    have Mx0_0:=hy1 x0 (List.mem_of_getElem? Hx0)
    have hlen:=hly hp0
    have hw:wrap .i64 ((length p:Int)+1)=(length p:Int)+1:=wrap64 yb
    have hj0:=hi0; try simp only[LN,Int.toNat_natCast] at hj0
    have hj1:=hi1; try simp only[LN,Int.toNat_natCast] at hj1
    have Hv0:v0[toNat (length p:Int)]?=some x0:=by rw[Int.toNat_natCast]; exact drop_at hi1
    simp only[r84_0]
    have f1:0+(length (map d_U a0))≤(length (map d_U v0)):=yl
    have f2:0≤(length p:Int)∧(length p:Int) <((length (map d_U a0)):Int):=yb
    have f4:(set (map d_U v0) (0+(toNat (length p:Int))) [(.i v1),(.own 1 (map d_i x0.f1))])=(map d_U (set v0 (toNat (length p:Int)) (K_U.mk v1 x0.f1))):=(by simp[take_of_length_le,d_i,d_U,ol112,ol83]; done)
    have f6:0+(length (map d_U a0))≤(length (map d_U (set v0 (toNat (length p:Int)) (K_U.mk v1 x0.f1)))):=yy
    have f8:(map d_U (set v0 (toNat (length p:Int)) (K_U.mk v1 x0.f1)))[(0+(toNat (length p:Int)))]?=some [(.i v1),(.own 1 (map d_i x0.f1))]:=yi
    have f9:nav 2 (map d_U (set v0 (toNat (length p:Int)) (K_U.mk v1 x0.f1))) [((0+(toNat (length p:Int))),1)]=some (1,(map d_i x0.f1)):=yA
    have f12:undirt [((0+(toNat (length p:Int))),1)] [([((0+(toNat (length p:Int))),1)],false)]=[([((0+(toNat (length p:Int))),1)],true)]:=(by simp[undirt])
    have f13:(setCell (setCell (map d_U (set v0 (toNat (length p:Int)) (K_U.mk v1 x0.f1))) [((0+(toNat (length p:Int))),1)] (.hole (lenAt ⟨2,(map d_U (set v0 (toNat (length p:Int)) (K_U.mk v1 x0.f1))),[]⟩ [((0+(toNat (length p:Int))),1)]))) [((0+(toNat (length p:Int))),1)] (.own 1 (map d_i (o112_0 x0.f1 (wrap .i64 (v1+1))))))=(map d_U (set v0 (toNat (length p:Int)) (K_U.mk v1 (o112_0 x0.f1 (wrap .i64 (v1+1)))))):=(by rw[setCell2At (i:=(0+(toNat (length p:Int)))) (j:=1) (row:=[(.i v1),(.own 1 (map d_i x0.f1))]) yi]; first | rfl |(simp[take_of_length_le,d_i,d_N,d_U,d_T,d_J,d_JL,d_KY,d_LiiiiE,d_b,d_SR,d_G,d_TL,d_LiE,d_NL,d_UL,d_y,d_LyE,d_LLyEE,ol112,ol83,byteRows_eq,ints_y]; done) |(simp[map_set,take_of_length_le,d_i,d_N,d_U,d_T,d_J,d_JL,d_KY,d_LiiiiE,d_b,d_SR,d_G,d_TL,d_LiE,d_NL,d_UL,d_y,d_LyE,d_LLyEE,ol112,ol83,byteRows_eq,ints_y]; done))
    have ih:=t84_0 (a0:=a0) (a1:=a1) hy0 hy1 y0 (p++ [x0]) (set v0 (toNat (length p:Int)) (K_U.mk v1 (o112_0 x0.f1 (wrap .i64 (v1+1))))) (m112 x0.f1 (wrap .i64 (v1+1))) yd yo yz
    rw[pl1,← hw] at ih; rw[← hw]
    exact ly 51 ya (.f hc (.f f1 (.f f2 (.f (mz_ d_U Hv0) (.f f4 (.f trivial (.f f6 (.f f2 (.f f8 (.f f9 (.f (pureR_i x0.f1) (.h 8 (.b true) (.h 20 (.rowD (d_U x0)) (.h 21 (.norm (0,0,0) (map d_U (set v0 (toNat (length p:Int)) (K_U.mk v1 x0.f1)))) (.h 37 (.rowD [(.i v1),(.own 1 (map d_i x0.f1))]) (.rn 41 [((0,0,0),[1],1,(map d_i x0.f1))] [[([((0+(toNat (length p:Int))),1)],true)]] [true] [] (e112 (a0:=x0.f1) (a1:=(wrap .i64 (v1+1))) (by assumption)) (.f f12 (.f f13 (.f trivial (.h 44 (.norm (0,0,0) (map d_U (set v0 (toNat (length p:Int)) (K_U.mk v1 (o112_0 x0.f1 (wrap .i64 (v1+1))))))) .nil)))))))))))))))))))) ih
def post84_0 (n0:Nat):O84_0→Prop
  |.k0 w0 _ _ _=>length w0=n0
theorem z84_0 {a0:(List K_U)}:∀(y0:List K_U) (i:Int) (v0:List K_U) (v1:Int),post84_0 (length v0) (r84_0 a0 y0 i v0 v1)
  |[],i,v0,v1=>by
    first | trivial |(simp only[post84_0,length_nil,Nat.add_zero]; done) |(simp[post84_0]; done)
  |x0::y0,i,v0,v1=>by
    simp only[r84_0]
    have z:=z84_0 (a0:=a0) y0 (i+1) (set v0 (toNat i) (K_U.mk v1 (o112_0 x0.f1 (wrap .i64 (v1+1))))) (m112 x0.f1 (wrap .i64 (v1+1)))
    rw[show (length v0)=(length (set v0 (toNat i) (K_U.mk v1 (o112_0 x0.f1 (wrap .i64 (v1+1)))))) from by first | omega |(simp only[LN]; done) |(simp only[LN]; omega)]
    exact z
def o84_0 (a0:(List K_U)) (a1:Int):List K_U:=
  (match r84_0 a0 a0 0 a0 a1 with | .k0 w0_0 w1_0 w2_0 w3_0=>w0_0)
def m84 (a0:(List K_U)) (a1:Int):Int:=
  (match r84_0 a0 a0 0 a0 a1 with | .k0 w0_0 w1_0 w2_0 w3_0=>w1_0)
theorem e84 {a0:(List K_U)} {a1:Int} (hy0:length a0*32≤140737488351232) (hy1:∀z∈a0,ok_U z):Ev F X (.call 84 [(.one (.ref ⟨(0,0,0),[],0,(length (map d_U a0))⟩)),(.one (.val (.int .i64 a1)))] [((0,0,0),⟨2,(map d_U a0),[]⟩)] [(map d_U (o84_0 a0 a1))] [(.one (.val (.int .i64 (m84 a0 a1))))]):=by
  unfold m84 o84_0
  cases h0:r84_0 a0 a0 0 a0 a1 with
  |k0 w0_0 w1_0 w2_0 w3_0=>
    try dsimp only
    have zh0:=z84_0 (a0:=a0) a0 0 a0 a1; rw[h0] at zh0; simp only[post84_0,length_map,length_set,length_append,length_replicate,length_cons,length_nil,Int.toNat_natCast] at zh0
    have f0:=Eq.refl (h84_0 a0 a1 0 a0 a1)
    exact cq [true] ya (.f f0 (.f (ev_ (e:=ex84_0) (g:=(fin84_0 a0 a1)) h0 (t84_0 (a0:=a0) (a1:=a1) (by assumption) (by assumption) a0 [] a0 a1 rfl yM (by rfl))) (.f (pureR_U w0_0) (.h 4 (.loop (h84_0 a0 a1 0 a0 a1) (.exit 0) (fin84_0 a0 a1 (.k0 w0_0 w1_0 w2_0 w3_0))) .nil))))
theorem ow84_0 (a0:List K_U):∀(l p:List K_U) (v1:Int),(∀z∈l,ok_U z)→∃(q:List K_U) (w1:_) (w2:_) (w3:_),r84_0 a0 l (p.length:Int) (p++l) v1=.k0 (p++q) w1 w2 w3∧q.length=l.length∧∀z∈q,ok_U z
  |[],p,v1,_=>⟨[],v1,(p.length:Int),(decide ((p.length:Int) <((length (map d_U a0)):Int))),rfl,rfl,fun z h=>by cases h⟩
  |x0::l,p,v1,h=>by
    obtain⟨q,w1,w2,w3,e1,e2,e3⟩:=ow84_0 a0 l (p++ [(K_U.mk v1 (o112_0 x0.f1 (wrap .i64 (v1+1))))]) (m112 x0.f1 (wrap .i64 (v1+1))) (fun z hz=>h z (List.mem_cons_of_mem _ hz))
    refine⟨(K_U.mk v1 (o112_0 x0.f1 (wrap .i64 (v1+1))))::q,w1,w2,w3,?_,by simp[e2],?_⟩
    · have e:set (p++x0::l) (toNat (p.length:Int)) (K_U.mk v1 (o112_0 x0.f1 (wrap .i64 (v1+1))))=(p++ [(K_U.mk v1 (o112_0 x0.f1 (wrap .i64 (v1+1))))])++l:=by simp
      have e0:((p++ [(K_U.mk v1 (o112_0 x0.f1 (wrap .i64 (v1+1))))]).length:Int)=(p.length:Int)+1:=by simp
      rw[e0] at e1
      simp only[r84_0]
      first |(rw[e,e1]; simp; done) |(simp only[e,e1]; simp; done)
    · intro z hz
      rcases List.mem_cons.1 hz with rfl | hz
      · have hx:=h x0 (List.mem_cons_self ..)
        simp only[ok_U] at hx⊢
        simp only[length_map,ol112] at hx⊢
        first | exact hx |(simp_all [ol112]; done) |(obtain⟨_,_⟩:=hx; refine⟨?_,?_⟩<;>simp_all [ol112]; done) | exact(by first | exact hx |(simpa using hx))
      · exact e3 z hz

theorem ov84_0 (a0:List K_U):∀(l p:List K_U) (v1:Int),∃(q:List K_U) (w1:_) (w2:_) (w3:_),r84_0 a0 l (p.length:Int) (p++l) v1=.k0 (p++q) w1 w2 w3∧q.length=l.length
  |[],p,v1=>⟨[],v1,(p.length:Int),(decide ((p.length:Int) <((length (map d_U a0)):Int))),rfl,rfl⟩
  |x0::l,p,v1=>by
    obtain⟨q,w1,w2,w3,e1,e2⟩:=ov84_0 a0 l (p++ [(K_U.mk v1 (o112_0 x0.f1 (wrap .i64 (v1+1))))]) (m112 x0.f1 (wrap .i64 (v1+1)))
    refine⟨(K_U.mk v1 (o112_0 x0.f1 (wrap .i64 (v1+1))))::q,w1,w2,w3,?_,by simp[e2]⟩
    · have e:set (p++x0::l) (toNat (p.length:Int)) (K_U.mk v1 (o112_0 x0.f1 (wrap .i64 (v1+1))))=(p++ [(K_U.mk v1 (o112_0 x0.f1 (wrap .i64 (v1+1))))])++l:=by simp
      have e0:((p++ [(K_U.mk v1 (o112_0 x0.f1 (wrap .i64 (v1+1))))]).length:Int)=(p.length:Int)+1:=by simp
      rw[e0] at e1
      simp only[r84_0]
      first |(rw[e,e1]; simp; done) |(simp only[e,e1]; simp; done)
theorem ol84 (a:List K_U) (k:Int):(o84_0 a k).length=a.length:=by
  obtain⟨q,w1,w2,w3,e1,e2⟩:=ov84_0 a a [] k
  simp only[List.nil_append,length_nil] at e1
  rw[show ((0:Nat):Int)=0 from rfl] at e1
  unfold o84_0
  rw[e1]; exact e2
theorem oo84 (a:List K_U) (k:Int) (h:∀z∈a,ok_U z):∀z∈o84_0 a k,ok_U z:=by
  obtain⟨q,w1,w2,w3,e1,e2,e3⟩:=ow84_0 a a [] k h
  simp only[List.nil_append,length_nil] at e1
  rw[show ((0:Nat):Int)=0 from rfl] at e1
  unfold o84_0
  rw[e1]; exact e3
inductive O51_0 where
  |k0 (w0:List K_T) (w1:Int) (w2:Int) (w3:Bool)
def r51_0 (a0:(List K_T)):List K_T→Int→List K_T→Int→O51_0
  |x0::y0,i,v0,v1=>
    (r51_0 a0 y0 (i+1) (set v0 (toNat i) (K_T.mk v1 (o83_0 x0.f1 (wrap .i64 (v1+1))) (o84_0 x0.f2 (m83 x0.f1 (wrap .i64 (v1+1)))))) (m84 x0.f2 (m83 x0.f1 (wrap .i64 (v1+1)))))
  |[],i,v0,v1=>(O51_0.k0 v0 v1 i (decide (i <((length (map d_T a0)):Int))))
def h51_0 (a0:(List K_T)) (a1:Int) (i:Int) (v0:List K_T) (v1:Int):St:=⟨[(0,(.one (.ref ⟨(0,0,0),[],0,(length (map d_T a0))⟩))),(1,(.one (.val (.int .i64 v1)))),(5,(.one (.val (.int .i64 i))))],[((0,0,0),.live ⟨3,(map d_T v0),[]⟩)]⟩
def ex51_0:O51_0→VX.Exit
  |.k0 _ _ _ _=>(.exit 0)
def fin51_0 (a0:(List K_T)) (a1:Int):O51_0→St
  |.k0 w0 w1 w2 w3=>⟨[(0,(.one (.ref ⟨(0,0,0),[],0,(length (map d_T a0))⟩))),(1,(.one (.val (.int .i64 w1)))),(5,(.one (.val (.int .i64 w2)))),(9,(.one (.val (.bool w3))))],[((0,0,0),.live ⟨3,(map d_T w0),[]⟩)]⟩
theorem t51_0 {a0:(List K_T)} {a1:Int} (hy0:length a0*56≤140737488351232) (hy1:∀z∈a0,ok_T z):∀(y0:List K_T) (p:List K_T) (v0:List K_T) (v1:Int),p++y0=a0→length v0=(length (map d_T a0))→drop (length p) v0=y0→Ev F X (.code l51_0 (h51_0 a0 a1 (length p:Int) v0 v1) (ex51_0 (r51_0 a0 y0 (length p:Int) v0 v1)) (fin51_0 a0 a1 (r51_0 a0 y0 (length p:Int) v0 v1)))
  |[],p,v0,v1,hp0,hi0,hi1=>by
    have hc:=hcn d_T hp0
    have hj0:=hi0; try simp only[LN,Int.toNat_natCast] at hj0
    have hj1:=hi1; try simp only[LN,Int.toNat_natCast] at hj1
    exact lx 9 ya (.f (nt hc) (.h 8 (.b false) .nil)) rfl
  |x0::y0,p,v0,v1,hp0,hi0,hi1=>by
    have hc:=hcy d_T hp0
    have Hx0:=hxy hp0
    obtain⟨Mx0_0,Mx0_1,Mx0_2,Mx0_3⟩:=hy1 x0 (List.mem_of_getElem? Hx0)
    have hlen:=hly hp0
    have hw:wrap .i64 ((length p:Int)+1)=(length p:Int)+1:=wrap64 yb
    have hj0:=hi0; try simp only[LN,Int.toNat_natCast] at hj0
    have hj1:=hi1; try simp only[LN,Int.toNat_natCast] at hj1
    have Hv0:v0[toNat (length p:Int)]?=some x0:=by rw[Int.toNat_natCast]; exact drop_at hi1
    simp only[r51_0]
    have f1:0+(length (map d_T a0))≤(length (map d_T v0)):=yl
    have f2:0≤(length p:Int)∧(length p:Int) <((length (map d_T a0)):Int):=yb
    have f4:(set (map d_T v0) (0+(toNat (length p:Int))) [(.i v1),(.own 3 (map d_N x0.f1)),(.own 2 (map d_U x0.f2))])=(map d_T (set v0 (toNat (length p:Int)) (K_T.mk v1 x0.f1 x0.f2))):=(by simp[take_of_length_le,d_N,d_U,d_T,ol112,ol83,ol84]; done)
    have f6:0+(length (map d_T a0))≤(length (map d_T (set v0 (toNat (length p:Int)) (K_T.mk v1 x0.f1 x0.f2)))):=yy
    have f8:(map d_T (set v0 (toNat (length p:Int)) (K_T.mk v1 x0.f1 x0.f2)))[(0+(toNat (length p:Int)))]?=some [(.i v1),(.own 3 (map d_N x0.f1)),(.own 2 (map d_U x0.f2))]:=yi
    have f9:nav 3 (map d_T (set v0 (toNat (length p:Int)) (K_T.mk v1 x0.f1 x0.f2))) [((0+(toNat (length p:Int))),1)]=some (3,(map d_N x0.f1)):=yA
    have f12:undirt [((0+(toNat (length p:Int))),1)] [([((0+(toNat (length p:Int))),1)],false)]=[([((0+(toNat (length p:Int))),1)],true)]:=(by simp[undirt])
    have f13:(setCell (setCell (map d_T (set v0 (toNat (length p:Int)) (K_T.mk v1 x0.f1 x0.f2))) [((0+(toNat (length p:Int))),1)] (.hole (lenAt ⟨3,(map d_T (set v0 (toNat (length p:Int)) (K_T.mk v1 x0.f1 x0.f2))),[]⟩ [((0+(toNat (length p:Int))),1)]))) [((0+(toNat (length p:Int))),1)] (.own 3 (map d_N (o83_0 x0.f1 (wrap .i64 (v1+1))))))=(map d_T (set v0 (toNat (length p:Int)) (K_T.mk v1 (o83_0 x0.f1 (wrap .i64 (v1+1))) x0.f2))):=(by rw[setCell2At (i:=(0+(toNat (length p:Int)))) (j:=1) (row:=[(.i v1),(.own 3 (map d_N x0.f1)),(.own 2 (map d_U x0.f2))]) yi]; first | rfl |(simp[take_of_length_le,d_i,d_N,d_U,d_T,d_J,d_JL,d_KY,d_LiiiiE,d_b,d_SR,d_G,d_TL,d_LiE,d_NL,d_UL,d_y,d_LyE,d_LLyEE,ol112,ol83,ol84,byteRows_eq,ints_y]; done) |(simp[map_set,take_of_length_le,d_i,d_N,d_U,d_T,d_J,d_JL,d_KY,d_LiiiiE,d_b,d_SR,d_G,d_TL,d_LiE,d_NL,d_UL,d_y,d_LyE,d_LLyEE,ol112,ol83,ol84,byteRows_eq,ints_y]; done))
    have f14:0+(length (map d_T a0))≤(length (map d_T (set v0 (toNat (length p:Int)) (K_T.mk v1 (o83_0 x0.f1 (wrap .i64 (v1+1))) x0.f2)))):=yy
    have f16:(map d_T (set v0 (toNat (length p:Int)) (K_T.mk v1 (o83_0 x0.f1 (wrap .i64 (v1+1))) x0.f2)))[(0+(toNat (length p:Int)))]?=some [(.i v1),(.own 3 (map d_N (o83_0 x0.f1 (wrap .i64 (v1+1))))),(.own 2 (map d_U x0.f2))]:=yi
    have f17:nav 3 (map d_T (set v0 (toNat (length p:Int)) (K_T.mk v1 (o83_0 x0.f1 (wrap .i64 (v1+1))) x0.f2))) [((0+(toNat (length p:Int))),2)]=some (2,(map d_U x0.f2)):=yA
    have f20:undirt [((0+(toNat (length p:Int))),2)] [([((0+(toNat (length p:Int))),2)],false)]=[([((0+(toNat (length p:Int))),2)],true)]:=(by simp[undirt])
    have f21:(setCell (setCell (map d_T (set v0 (toNat (length p:Int)) (K_T.mk v1 (o83_0 x0.f1 (wrap .i64 (v1+1))) x0.f2))) [((0+(toNat (length p:Int))),2)] (.hole (lenAt ⟨3,(map d_T (set v0 (toNat (length p:Int)) (K_T.mk v1 (o83_0 x0.f1 (wrap .i64 (v1+1))) x0.f2))),[]⟩ [((0+(toNat (length p:Int))),2)]))) [((0+(toNat (length p:Int))),2)] (.own 2 (map d_U (o84_0 x0.f2 (m83 x0.f1 (wrap .i64 (v1+1)))))))=(map d_T (set v0 (toNat (length p:Int)) (K_T.mk v1 (o83_0 x0.f1 (wrap .i64 (v1+1))) (o84_0 x0.f2 (m83 x0.f1 (wrap .i64 (v1+1))))))):=(by rw[setCell2At (i:=(0+(toNat (length p:Int)))) (j:=2) (row:=[(.i v1),(.own 3 (map d_N (o83_0 x0.f1 (wrap .i64 (v1+1))))),(.own 2 (map d_U x0.f2))]) yi]; first | rfl |(simp[take_of_length_le,d_i,d_N,d_U,d_T,d_J,d_JL,d_KY,d_LiiiiE,d_b,d_SR,d_G,d_TL,d_LiE,d_NL,d_UL,d_y,d_LyE,d_LLyEE,ol112,ol83,ol84,byteRows_eq,ints_y]; done) |(simp[map_set,take_of_length_le,d_i,d_N,d_U,d_T,d_J,d_JL,d_KY,d_LiiiiE,d_b,d_SR,d_G,d_TL,d_LiE,d_NL,d_UL,d_y,d_LyE,d_LLyEE,ol112,ol83,ol84,byteRows_eq,ints_y]; done))
    have ih:=t51_0 (a0:=a0) (a1:=a1) hy0 hy1 y0 (p++ [x0]) (set v0 (toNat (length p:Int)) (K_T.mk v1 (o83_0 x0.f1 (wrap .i64 (v1+1))) (o84_0 x0.f2 (m83 x0.f1 (wrap .i64 (v1+1)))))) (m84 x0.f2 (m83 x0.f1 (wrap .i64 (v1+1)))) yd yo yz
    rw[pl1,← hw] at ih; rw[← hw]
    exact ly 68 ya (.f hc (.f f1 (.f f2 (.f (mz_ d_T Hv0) (.f f4 (.f trivial (.f f6 (.f f2 (.f f8 (.f f9 (.f (pureR_N x0.f1) (.h 8 (.b true) (.h 20 (.rowD (d_T x0)) (.h 21 (.norm (0,0,0) (map d_T (set v0 (toNat (length p:Int)) (K_T.mk v1 x0.f1 x0.f2)))) (.h 37 (.rowD [(.i v1),(.own 3 (map d_N x0.f1)),(.own 2 (map d_U x0.f2))]) (.rn 41 [((0,0,0),[1],3,(map d_N x0.f1))] [[([((0+(toNat (length p:Int))),1)],true)]] [true] [] (e83 (a0:=x0.f1) (a1:=(wrap .i64 (v1+1))) ‹_› ‹_›) (.f f12 (.f f13 (.f f14 (.f f2 (.f f16 (.f f17 (.f (pureR_U x0.f2) (.h 44 (.norm (0,0,0) (map d_T (set v0 (toNat (length p:Int)) (K_T.mk v1 (o83_0 x0.f1 (wrap .i64 (v1+1))) x0.f2)))) (.h 54 (.rowD [(.i v1),(.own 3 (map d_N (o83_0 x0.f1 (wrap .i64 (v1+1))))),(.own 2 (map d_U x0.f2))]) (.rn 58 [((0,0,0),[2],2,(map d_U x0.f2))] [[([((0+(toNat (length p:Int))),2)],true)]] [true] [] (e84 (a0:=x0.f2) (a1:=(m83 x0.f1 (wrap .i64 (v1+1)))) ‹_› ‹_›) (.f f20 (.f f21 (.f trivial (.h 61 (.norm (0,0,0) (map d_T (set v0 (toNat (length p:Int)) (K_T.mk v1 (o83_0 x0.f1 (wrap .i64 (v1+1))) (o84_0 x0.f2 (m83 x0.f1 (wrap .i64 (v1+1)))))))) .nil)))))))))))))))))))))))))))))) ih
def post51_0 (n0:Nat):O51_0→Prop
  |.k0 w0 _ _ _=>length w0=n0
theorem z51_0 {a0:(List K_T)}:∀(y0:List K_T) (i:Int) (v0:List K_T) (v1:Int),post51_0 (length v0) (r51_0 a0 y0 i v0 v1)
  |[],i,v0,v1=>by
    first | trivial |(simp only[post51_0,length_nil,Nat.add_zero]; done) |(simp[post51_0]; done)
  |x0::y0,i,v0,v1=>by
    simp only[r51_0]
    have z:=z51_0 (a0:=a0) y0 (i+1) (set v0 (toNat i) (K_T.mk v1 (o83_0 x0.f1 (wrap .i64 (v1+1))) (o84_0 x0.f2 (m83 x0.f1 (wrap .i64 (v1+1)))))) (m84 x0.f2 (m83 x0.f1 (wrap .i64 (v1+1))))
    rw[show (length v0)=(length (set v0 (toNat i) (K_T.mk v1 (o83_0 x0.f1 (wrap .i64 (v1+1))) (o84_0 x0.f2 (m83 x0.f1 (wrap .i64 (v1+1))))))) from by first | omega |(simp only[LN]; done) |(simp only[LN]; omega)]
    exact z
def o51_0 (a0:(List K_T)) (a1:Int):List K_T:=
  (match r51_0 a0 a0 0 a0 a1 with | .k0 w0_0 w1_0 w2_0 w3_0=>w0_0)
def m51 (a0:(List K_T)) (a1:Int):Int:=
  (match r51_0 a0 a0 0 a0 a1 with | .k0 w0_0 w1_0 w2_0 w3_0=>w1_0)
theorem e51 {a0:(List K_T)} {a1:Int} (hy0:length a0*56≤140737488351232) (hy1:∀z∈a0,ok_T z):Ev F X (.call 51 [(.one (.ref ⟨(0,0,0),[],0,(length (map d_T a0))⟩)),(.one (.val (.int .i64 a1)))] [((0,0,0),⟨3,(map d_T a0),[]⟩)] [(map d_T (o51_0 a0 a1))] [(.one (.val (.int .i64 (m51 a0 a1))))]):=by
  unfold m51 o51_0
  cases h0:r51_0 a0 a0 0 a0 a1 with
  |k0 w0_0 w1_0 w2_0 w3_0=>
    try dsimp only
    have zh0:=z51_0 (a0:=a0) a0 0 a0 a1; rw[h0] at zh0; simp only[post51_0,length_map,length_set,length_append,length_replicate,length_cons,length_nil,Int.toNat_natCast] at zh0
    have f0:=Eq.refl (h51_0 a0 a1 0 a0 a1)
    exact cq [true] ya (.f f0 (.f (ev_ (e:=ex51_0) (g:=(fin51_0 a0 a1)) h0 (t51_0 (a0:=a0) (a1:=a1) (by assumption) (by assumption) a0 [] a0 a1 rfl yM (by rfl))) (.f (pureR_T w0_0) (.h 4 (.loop (h51_0 a0 a1 0 a0 a1) (.exit 0) (fin51_0 a0 a1 (.k0 w0_0 w1_0 w2_0 w3_0))) .nil))))
theorem ow51_0 (a0:List K_T):∀(l p:List K_T) (v1:Int),(∀z∈l,ok_T z)→∃(q:List K_T) (w1:_) (w2:_) (w3:_),r51_0 a0 l (p.length:Int) (p++l) v1=.k0 (p++q) w1 w2 w3∧q.length=l.length∧∀z∈q,ok_T z
  |[],p,v1,_=>⟨[],v1,(p.length:Int),(decide ((p.length:Int) <((length (map d_T a0)):Int))),rfl,rfl,fun z h=>by cases h⟩
  |x0::l,p,v1,h=>by
    obtain⟨q,w1,w2,w3,e1,e2,e3⟩:=ow51_0 a0 l (p++ [(K_T.mk v1 (o83_0 x0.f1 (wrap .i64 (v1+1))) (o84_0 x0.f2 (m83 x0.f1 (wrap .i64 (v1+1)))))]) (m84 x0.f2 (m83 x0.f1 (wrap .i64 (v1+1)))) (fun z hz=>h z (List.mem_cons_of_mem _ hz))
    refine⟨(K_T.mk v1 (o83_0 x0.f1 (wrap .i64 (v1+1))) (o84_0 x0.f2 (m83 x0.f1 (wrap .i64 (v1+1)))))::q,w1,w2,w3,?_,by simp[e2],?_⟩
    · have e:set (p++x0::l) (toNat (p.length:Int)) (K_T.mk v1 (o83_0 x0.f1 (wrap .i64 (v1+1))) (o84_0 x0.f2 (m83 x0.f1 (wrap .i64 (v1+1)))))=(p++ [(K_T.mk v1 (o83_0 x0.f1 (wrap .i64 (v1+1))) (o84_0 x0.f2 (m83 x0.f1 (wrap .i64 (v1+1)))))])++l:=by simp
      have e0:((p++ [(K_T.mk v1 (o83_0 x0.f1 (wrap .i64 (v1+1))) (o84_0 x0.f2 (m83 x0.f1 (wrap .i64 (v1+1)))))]).length:Int)=(p.length:Int)+1:=by simp
      rw[e0] at e1
      simp only[r51_0]
      first |(rw[e,e1]; simp; done) |(simp only[e,e1]; simp; done)
    · intro z hz
      rcases List.mem_cons.1 hz with rfl | hz
      · have hx:=h x0 (List.mem_cons_self ..)
        simp only[ok_T] at hx⊢
        simp only[length_map,ol83,ol84,oo83,oo84] at hx⊢
        first | exact hx |(simp_all [ol83,ol84,oo83,oo84]; done) |(obtain⟨_,_⟩:=hx; refine⟨?_,?_⟩<;>simp_all [ol83,ol84,oo83,oo84]; done) | exact⟨(by exact hx.1),(by exact oo83 _ _ hx.2.1),(by exact hx.2.2.1),(by exact oo84 _ _ hx.2.2.2)⟩
      · exact e3 z hz

theorem ov51_0 (a0:List K_T):∀(l p:List K_T) (v1:Int),∃(q:List K_T) (w1:_) (w2:_) (w3:_),r51_0 a0 l (p.length:Int) (p++l) v1=.k0 (p++q) w1 w2 w3∧q.length=l.length
  |[],p,v1=>⟨[],v1,(p.length:Int),(decide ((p.length:Int) <((length (map d_T a0)):Int))),rfl,rfl⟩
  |x0::l,p,v1=>by
    obtain⟨q,w1,w2,w3,e1,e2⟩:=ov51_0 a0 l (p++ [(K_T.mk v1 (o83_0 x0.f1 (wrap .i64 (v1+1))) (o84_0 x0.f2 (m83 x0.f1 (wrap .i64 (v1+1)))))]) (m84 x0.f2 (m83 x0.f1 (wrap .i64 (v1+1))))
    refine⟨(K_T.mk v1 (o83_0 x0.f1 (wrap .i64 (v1+1))) (o84_0 x0.f2 (m83 x0.f1 (wrap .i64 (v1+1)))))::q,w1,w2,w3,?_,by simp[e2]⟩
    · have e:set (p++x0::l) (toNat (p.length:Int)) (K_T.mk v1 (o83_0 x0.f1 (wrap .i64 (v1+1))) (o84_0 x0.f2 (m83 x0.f1 (wrap .i64 (v1+1)))))=(p++ [(K_T.mk v1 (o83_0 x0.f1 (wrap .i64 (v1+1))) (o84_0 x0.f2 (m83 x0.f1 (wrap .i64 (v1+1)))))])++l:=by simp
      have e0:((p++ [(K_T.mk v1 (o83_0 x0.f1 (wrap .i64 (v1+1))) (o84_0 x0.f2 (m83 x0.f1 (wrap .i64 (v1+1)))))]).length:Int)=(p.length:Int)+1:=by simp
      rw[e0] at e1
      simp only[r51_0]
      first |(rw[e,e1]; simp; done) |(simp only[e,e1]; simp; done)
theorem ol51 (a:List K_T) (k:Int):(o51_0 a k).length=a.length:=by
  obtain⟨q,w1,w2,w3,e1,e2⟩:=ov51_0 a a [] k
  simp only[List.nil_append,length_nil] at e1
  rw[show ((0:Nat):Int)=0 from rfl] at e1
  unfold o51_0
  rw[e1]; exact e2
theorem oo51 (a:List K_T) (k:Int) (h:∀z∈a,ok_T z):∀z∈o51_0 a k,ok_T z:=by
  obtain⟨q,w1,w2,w3,e1,e2,e3⟩:=ow51_0 a a [] k h
  simp only[List.nil_append,length_nil] at e1
  rw[show ((0:Nat):Int)=0 from rfl] at e1
  unfold o51_0
  rw[e1]; exact e3
inductive O21_0 where
  |k0 (w0:List K_J) (w1:Int) (w2:Int) (w3:Bool)
def r21_0 (a0:(List K_J)):List K_J→Int→List K_J→Int→O21_0
  |x0::y0,i,v0,v1=>
    (r21_0 a0 y0 (i+1) (set v0 (toNat i) (K_J.mk v1 (wrap .i64 (v1+1)) (wrap .i64 ((wrap .i64 (v1+1))+1)) (wrap .i64 ((wrap .i64 ((wrap .i64 (v1+1))+1))+1)) (wrap .i64 ((wrap .i64 ((wrap .i64 ((wrap .i64 (v1+1))+1))+1))+1)) (o51_0 x0.f5 (wrap .i64 ((wrap .i64 ((wrap .i64 ((wrap .i64 ((wrap .i64 (v1+1))+1))+1))+1))+1))))) (m51 x0.f5 (wrap .i64 ((wrap .i64 ((wrap .i64 ((wrap .i64 ((wrap .i64 (v1+1))+1))+1))+1))+1))))
  |[],i,v0,v1=>(O21_0.k0 v0 v1 i (decide (i <((length (map d_J a0)):Int))))
def h21_0 (a0:(List K_J)) (a1:Int) (i:Int) (v0:List K_J) (v1:Int):St:=⟨[(0,(.one (.ref ⟨(0,0,0),[],0,(length (map d_J a0))⟩))),(1,(.one (.val (.int .i64 v1)))),(5,(.one (.val (.int .i64 i))))],[((0,0,0),.live ⟨6,(map d_J v0),[]⟩)]⟩
def ex21_0:O21_0→VX.Exit
  |.k0 _ _ _ _=>(.exit 0)
def fin21_0 (a0:(List K_J)) (a1:Int):O21_0→St
  |.k0 w0 w1 w2 w3=>⟨[(0,(.one (.ref ⟨(0,0,0),[],0,(length (map d_J a0))⟩))),(1,(.one (.val (.int .i64 w1)))),(5,(.one (.val (.int .i64 w2)))),(9,(.one (.val (.bool w3))))],[((0,0,0),.live ⟨6,(map d_J w0),[]⟩)]⟩
theorem t21_0 {a0:(List K_J)} {a1:Int} (hy0:length a0*64≤140737488351232) (hy1:∀z∈a0,ok_J z):∀(y0:List K_J) (p:List K_J) (v0:List K_J) (v1:Int),p++y0=a0→length v0=(length (map d_J a0))→drop (length p) v0=y0→Ev F X (.code l21_0 (h21_0 a0 a1 (length p:Int) v0 v1) (ex21_0 (r21_0 a0 y0 (length p:Int) v0 v1)) (fin21_0 a0 a1 (r21_0 a0 y0 (length p:Int) v0 v1)))
  |[],p,v0,v1,hp0,hi0,hi1=>by
    have hc:=hcn d_J hp0
    have hj0:=hi0; try simp only[LN,Int.toNat_natCast] at hj0
    have hj1:=hi1; try simp only[LN,Int.toNat_natCast] at hj1
    exact lx 9 ya (.f (nt hc) (.h 8 (.b false) .nil)) rfl
  |x0::y0,p,v0,v1,hp0,hi0,hi1=>by
    have hc:=hcy d_J hp0
    have Hx0:=hxy hp0
    obtain⟨Mx0_0,Mx0_1⟩:=hy1 x0 (List.mem_of_getElem? Hx0)
    have hlen:=hly hp0
    have hw:wrap .i64 ((length p:Int)+1)=(length p:Int)+1:=wrap64 yb
    have hj0:=hi0; try simp only[LN,Int.toNat_natCast] at hj0
    have hj1:=hi1; try simp only[LN,Int.toNat_natCast] at hj1
    have Hv0:v0[toNat (length p:Int)]?=some x0:=by rw[Int.toNat_natCast]; exact drop_at hi1
    simp only[r21_0]
    have f1:0+(length (map d_J a0))≤(length (map d_J v0)):=yl
    have f2:0≤(length p:Int)∧(length p:Int) <((length (map d_J a0)):Int):=yb
    have f4:(set (map d_J v0) (0+(toNat (length p:Int))) [(.i v1),(.i x0.f1),(.i x0.f2),(.i x0.f3),(.i x0.f4),(.own 3 (map d_T x0.f5))])=(map d_J (set v0 (toNat (length p:Int)) (K_J.mk v1 x0.f1 x0.f2 x0.f3 x0.f4 x0.f5))):=yP
    have f6:0+(length (map d_J a0))≤(length (map d_J (set v0 (toNat (length p:Int)) (K_J.mk v1 x0.f1 x0.f2 x0.f3 x0.f4 x0.f5)))):=yy
    have f8:(map d_J (set v0 (toNat (length p:Int)) (K_J.mk v1 x0.f1 x0.f2 x0.f3 x0.f4 x0.f5)))[(0+(toNat (length p:Int)))]?=some [(.i v1),(.i x0.f1),(.i x0.f2),(.i x0.f3),(.i x0.f4),(.own 3 (map d_T x0.f5))]:=yi
    have f9:(set (map d_J (set v0 (toNat (length p:Int)) (K_J.mk v1 x0.f1 x0.f2 x0.f3 x0.f4 x0.f5))) (0+(toNat (length p:Int))) [(.i v1),(.i (wrap .i64 (v1+1))),(.i x0.f2),(.i x0.f3),(.i x0.f4),(.own 3 (map d_T x0.f5))])=(map d_J (set v0 (toNat (length p:Int)) (K_J.mk v1 (wrap .i64 (v1+1)) x0.f2 x0.f3 x0.f4 x0.f5))):=yP
    have f11:0+(length (map d_J a0))≤(length (map d_J (set v0 (toNat (length p:Int)) (K_J.mk v1 (wrap .i64 (v1+1)) x0.f2 x0.f3 x0.f4 x0.f5)))):=yy
    have f13:(map d_J (set v0 (toNat (length p:Int)) (K_J.mk v1 (wrap .i64 (v1+1)) x0.f2 x0.f3 x0.f4 x0.f5)))[(0+(toNat (length p:Int)))]?=some [(.i v1),(.i (wrap .i64 (v1+1))),(.i x0.f2),(.i x0.f3),(.i x0.f4),(.own 3 (map d_T x0.f5))]:=yi
    have f14:(set (map d_J (set v0 (toNat (length p:Int)) (K_J.mk v1 (wrap .i64 (v1+1)) x0.f2 x0.f3 x0.f4 x0.f5))) (0+(toNat (length p:Int))) [(.i v1),(.i (wrap .i64 (v1+1))),(.i (wrap .i64 ((wrap .i64 (v1+1))+1))),(.i x0.f3),(.i x0.f4),(.own 3 (map d_T x0.f5))])=(map d_J (set v0 (toNat (length p:Int)) (K_J.mk v1 (wrap .i64 (v1+1)) (wrap .i64 ((wrap .i64 (v1+1))+1)) x0.f3 x0.f4 x0.f5))):=yP
    have f16:0+(length (map d_J a0))≤(length (map d_J (set v0 (toNat (length p:Int)) (K_J.mk v1 (wrap .i64 (v1+1)) (wrap .i64 ((wrap .i64 (v1+1))+1)) x0.f3 x0.f4 x0.f5)))):=yy
    have f18:(map d_J (set v0 (toNat (length p:Int)) (K_J.mk v1 (wrap .i64 (v1+1)) (wrap .i64 ((wrap .i64 (v1+1))+1)) x0.f3 x0.f4 x0.f5)))[(0+(toNat (length p:Int)))]?=some [(.i v1),(.i (wrap .i64 (v1+1))),(.i (wrap .i64 ((wrap .i64 (v1+1))+1))),(.i x0.f3),(.i x0.f4),(.own 3 (map d_T x0.f5))]:=yi
    have f19:(set (map d_J (set v0 (toNat (length p:Int)) (K_J.mk v1 (wrap .i64 (v1+1)) (wrap .i64 ((wrap .i64 (v1+1))+1)) x0.f3 x0.f4 x0.f5))) (0+(toNat (length p:Int))) [(.i v1),(.i (wrap .i64 (v1+1))),(.i (wrap .i64 ((wrap .i64 (v1+1))+1))),(.i (wrap .i64 ((wrap .i64 ((wrap .i64 (v1+1))+1))+1))),(.i x0.f4),(.own 3 (map d_T x0.f5))])=(map d_J (set v0 (toNat (length p:Int)) (K_J.mk v1 (wrap .i64 (v1+1)) (wrap .i64 ((wrap .i64 (v1+1))+1)) (wrap .i64 ((wrap .i64 ((wrap .i64 (v1+1))+1))+1)) x0.f4 x0.f5))):=yP
    have f21:0+(length (map d_J a0))≤(length (map d_J (set v0 (toNat (length p:Int)) (K_J.mk v1 (wrap .i64 (v1+1)) (wrap .i64 ((wrap .i64 (v1+1))+1)) (wrap .i64 ((wrap .i64 ((wrap .i64 (v1+1))+1))+1)) x0.f4 x0.f5)))):=yy
    have f23:(map d_J (set v0 (toNat (length p:Int)) (K_J.mk v1 (wrap .i64 (v1+1)) (wrap .i64 ((wrap .i64 (v1+1))+1)) (wrap .i64 ((wrap .i64 ((wrap .i64 (v1+1))+1))+1)) x0.f4 x0.f5)))[(0+(toNat (length p:Int)))]?=some [(.i v1),(.i (wrap .i64 (v1+1))),(.i (wrap .i64 ((wrap .i64 (v1+1))+1))),(.i (wrap .i64 ((wrap .i64 ((wrap .i64 (v1+1))+1))+1))),(.i x0.f4),(.own 3 (map d_T x0.f5))]:=yi
    have f24:(set (map d_J (set v0 (toNat (length p:Int)) (K_J.mk v1 (wrap .i64 (v1+1)) (wrap .i64 ((wrap .i64 (v1+1))+1)) (wrap .i64 ((wrap .i64 ((wrap .i64 (v1+1))+1))+1)) x0.f4 x0.f5))) (0+(toNat (length p:Int))) [(.i v1),(.i (wrap .i64 (v1+1))),(.i (wrap .i64 ((wrap .i64 (v1+1))+1))),(.i (wrap .i64 ((wrap .i64 ((wrap .i64 (v1+1))+1))+1))),(.i (wrap .i64 ((wrap .i64 ((wrap .i64 ((wrap .i64 (v1+1))+1))+1))+1))),(.own 3 (map d_T x0.f5))])=(map d_J (set v0 (toNat (length p:Int)) (K_J.mk v1 (wrap .i64 (v1+1)) (wrap .i64 ((wrap .i64 (v1+1))+1)) (wrap .i64 ((wrap .i64 ((wrap .i64 (v1+1))+1))+1)) (wrap .i64 ((wrap .i64 ((wrap .i64 ((wrap .i64 (v1+1))+1))+1))+1)) x0.f5))):=yP
    have f26:0+(length (map d_J a0))≤(length (map d_J (set v0 (toNat (length p:Int)) (K_J.mk v1 (wrap .i64 (v1+1)) (wrap .i64 ((wrap .i64 (v1+1))+1)) (wrap .i64 ((wrap .i64 ((wrap .i64 (v1+1))+1))+1)) (wrap .i64 ((wrap .i64 ((wrap .i64 ((wrap .i64 (v1+1))+1))+1))+1)) x0.f5)))):=yy
    have f28:(map d_J (set v0 (toNat (length p:Int)) (K_J.mk v1 (wrap .i64 (v1+1)) (wrap .i64 ((wrap .i64 (v1+1))+1)) (wrap .i64 ((wrap .i64 ((wrap .i64 (v1+1))+1))+1)) (wrap .i64 ((wrap .i64 ((wrap .i64 ((wrap .i64 (v1+1))+1))+1))+1)) x0.f5)))[(0+(toNat (length p:Int)))]?=some [(.i v1),(.i (wrap .i64 (v1+1))),(.i (wrap .i64 ((wrap .i64 (v1+1))+1))),(.i (wrap .i64 ((wrap .i64 ((wrap .i64 (v1+1))+1))+1))),(.i (wrap .i64 ((wrap .i64 ((wrap .i64 ((wrap .i64 (v1+1))+1))+1))+1))),(.own 3 (map d_T x0.f5))]:=yi
    have f29:nav 6 (map d_J (set v0 (toNat (length p:Int)) (K_J.mk v1 (wrap .i64 (v1+1)) (wrap .i64 ((wrap .i64 (v1+1))+1)) (wrap .i64 ((wrap .i64 ((wrap .i64 (v1+1))+1))+1)) (wrap .i64 ((wrap .i64 ((wrap .i64 ((wrap .i64 (v1+1))+1))+1))+1)) x0.f5))) [((0+(toNat (length p:Int))),5)]=some (3,(map d_T x0.f5)):=yA
    have f32:undirt [((0+(toNat (length p:Int))),5)] [([((0+(toNat (length p:Int))),5)],false)]=[([((0+(toNat (length p:Int))),5)],true)]:=(by simp[undirt])
    have f33:(setCell (setCell (map d_J (set v0 (toNat (length p:Int)) (K_J.mk v1 (wrap .i64 (v1+1)) (wrap .i64 ((wrap .i64 (v1+1))+1)) (wrap .i64 ((wrap .i64 ((wrap .i64 (v1+1))+1))+1)) (wrap .i64 ((wrap .i64 ((wrap .i64 ((wrap .i64 (v1+1))+1))+1))+1)) x0.f5))) [((0+(toNat (length p:Int))),5)] (.hole (lenAt ⟨6,(map d_J (set v0 (toNat (length p:Int)) (K_J.mk v1 (wrap .i64 (v1+1)) (wrap .i64 ((wrap .i64 (v1+1))+1)) (wrap .i64 ((wrap .i64 ((wrap .i64 (v1+1))+1))+1)) (wrap .i64 ((wrap .i64 ((wrap .i64 ((wrap .i64 (v1+1))+1))+1))+1)) x0.f5))),[]⟩ [((0+(toNat (length p:Int))),5)]))) [((0+(toNat (length p:Int))),5)] (.own 3 (map d_T (o51_0 x0.f5 (wrap .i64 ((wrap .i64 ((wrap .i64 ((wrap .i64 ((wrap .i64 (v1+1))+1))+1))+1))+1))))))=(map d_J (set v0 (toNat (length p:Int)) (K_J.mk v1 (wrap .i64 (v1+1)) (wrap .i64 ((wrap .i64 (v1+1))+1)) (wrap .i64 ((wrap .i64 ((wrap .i64 (v1+1))+1))+1)) (wrap .i64 ((wrap .i64 ((wrap .i64 ((wrap .i64 (v1+1))+1))+1))+1)) (o51_0 x0.f5 (wrap .i64 ((wrap .i64 ((wrap .i64 ((wrap .i64 ((wrap .i64 (v1+1))+1))+1))+1))+1)))))):=(by rw[setCell2At (i:=(0+(toNat (length p:Int)))) (j:=5) (row:=[(.i v1),(.i (wrap .i64 (v1+1))),(.i (wrap .i64 ((wrap .i64 (v1+1))+1))),(.i (wrap .i64 ((wrap .i64 ((wrap .i64 (v1+1))+1))+1))),(.i (wrap .i64 ((wrap .i64 ((wrap .i64 ((wrap .i64 (v1+1))+1))+1))+1))),(.own 3 (map d_T x0.f5))]) yi]; first | rfl |(simp[take_of_length_le,d_i,d_N,d_U,d_T,d_J,d_JL,d_KY,d_LiiiiE,d_b,d_SR,d_G,d_TL,d_LiE,d_NL,d_UL,d_y,d_LyE,d_LLyEE,ol112,ol83,ol84,ol51,byteRows_eq,ints_y]; done) |(simp[map_set,take_of_length_le,d_i,d_N,d_U,d_T,d_J,d_JL,d_KY,d_LiiiiE,d_b,d_SR,d_G,d_TL,d_LiE,d_NL,d_UL,d_y,d_LyE,d_LLyEE,ol112,ol83,ol84,ol51,byteRows_eq,ints_y]; done))
    have ih:=t21_0 (a0:=a0) (a1:=a1) hy0 hy1 y0 (p++ [x0]) (set v0 (toNat (length p:Int)) (K_J.mk v1 (wrap .i64 (v1+1)) (wrap .i64 ((wrap .i64 (v1+1))+1)) (wrap .i64 ((wrap .i64 ((wrap .i64 (v1+1))+1))+1)) (wrap .i64 ((wrap .i64 ((wrap .i64 ((wrap .i64 (v1+1))+1))+1))+1)) (o51_0 x0.f5 (wrap .i64 ((wrap .i64 ((wrap .i64 ((wrap .i64 ((wrap .i64 (v1+1))+1))+1))+1))+1))))) (m51 x0.f5 (wrap .i64 ((wrap .i64 ((wrap .i64 ((wrap .i64 ((wrap .i64 (v1+1))+1))+1))+1))+1))) yd yo yz
    rw[pl1,← hw] at ih; rw[← hw]
    exact ly 137 ya (.f hc (.f f1 (.f f2 (.f (mz_ d_J Hv0) (.f f4 (.f trivial (.f f6 (.f f2 (.f f8 (.f f9 (.f trivial (.f f11 (.f f2 (.f f13 (.f f14 (.f trivial (.f f16 (.f f2 (.f f18 (.f f19 (.f trivial (.f f21 (.f f2 (.f f23 (.f f24 (.f trivial (.f f26 (.f f2 (.f f28 (.f f29 (.f (pureR_T x0.f5) (.h 8 (.b true) (.h 20 (.rowD (d_J x0)) (.h 21 (.norm (0,0,0) (map d_J (set v0 (toNat (length p:Int)) (K_J.mk v1 x0.f1 x0.f2 x0.f3 x0.f4 x0.f5)))) (.h 41 (.rowD [(.i v1),(.i x0.f1),(.i x0.f2),(.i x0.f3),(.i x0.f4),(.own 3 (map d_T x0.f5))]) (.h 42 (.norm (0,0,0) (map d_J (set v0 (toNat (length p:Int)) (K_J.mk v1 (wrap .i64 (v1+1)) x0.f2 x0.f3 x0.f4 x0.f5)))) (.h 62 (.rowD [(.i v1),(.i (wrap .i64 (v1+1))),(.i x0.f2),(.i x0.f3),(.i x0.f4),(.own 3 (map d_T x0.f5))]) (.h 63 (.norm (0,0,0) (map d_J (set v0 (toNat (length p:Int)) (K_J.mk v1 (wrap .i64 (v1+1)) (wrap .i64 ((wrap .i64 (v1+1))+1)) x0.f3 x0.f4 x0.f5)))) (.h 83 (.rowD [(.i v1),(.i (wrap .i64 (v1+1))),(.i (wrap .i64 ((wrap .i64 (v1+1))+1))),(.i x0.f3),(.i x0.f4),(.own 3 (map d_T x0.f5))]) (.h 84 (.norm (0,0,0) (map d_J (set v0 (toNat (length p:Int)) (K_J.mk v1 (wrap .i64 (v1+1)) (wrap .i64 ((wrap .i64 (v1+1))+1)) (wrap .i64 ((wrap .i64 ((wrap .i64 (v1+1))+1))+1)) x0.f4 x0.f5)))) (.h 104 (.rowD [(.i v1),(.i (wrap .i64 (v1+1))),(.i (wrap .i64 ((wrap .i64 (v1+1))+1))),(.i (wrap .i64 ((wrap .i64 ((wrap .i64 (v1+1))+1))+1))),(.i x0.f4),(.own 3 (map d_T x0.f5))]) (.h 105 (.norm (0,0,0) (map d_J (set v0 (toNat (length p:Int)) (K_J.mk v1 (wrap .i64 (v1+1)) (wrap .i64 ((wrap .i64 (v1+1))+1)) (wrap .i64 ((wrap .i64 ((wrap .i64 (v1+1))+1))+1)) (wrap .i64 ((wrap .i64 ((wrap .i64 ((wrap .i64 (v1+1))+1))+1))+1)) x0.f5)))) (.h 123 (.rowD [(.i v1),(.i (wrap .i64 (v1+1))),(.i (wrap .i64 ((wrap .i64 (v1+1))+1))),(.i (wrap .i64 ((wrap .i64 ((wrap .i64 (v1+1))+1))+1))),(.i (wrap .i64 ((wrap .i64 ((wrap .i64 ((wrap .i64 (v1+1))+1))+1))+1))),(.own 3 (map d_T x0.f5))]) (.rn 127 [((0,0,0),[5],3,(map d_T x0.f5))] [[([((0+(toNat (length p:Int))),5)],true)]] [true] [] (e51 (a0:=x0.f5) (a1:=(wrap .i64 ((wrap .i64 ((wrap .i64 ((wrap .i64 ((wrap .i64 (v1+1))+1))+1))+1))+1))) ‹_› ‹_›) (.f f32 (.f f33 (.f trivial (.h 130 (.norm (0,0,0) (map d_J (set v0 (toNat (length p:Int)) (K_J.mk v1 (wrap .i64 (v1+1)) (wrap .i64 ((wrap .i64 (v1+1))+1)) (wrap .i64 ((wrap .i64 ((wrap .i64 (v1+1))+1))+1)) (wrap .i64 ((wrap .i64 ((wrap .i64 ((wrap .i64 (v1+1))+1))+1))+1)) (o51_0 x0.f5 (wrap .i64 ((wrap .i64 ((wrap .i64 ((wrap .i64 ((wrap .i64 (v1+1))+1))+1))+1))+1))))))) .nil)))))))))))))))))))))))))))))))))))))))))))))))) ih
def post21_0 (n0:Nat):O21_0→Prop
  |.k0 w0 _ _ _=>length w0=n0
theorem z21_0 {a0:(List K_J)}:∀(y0:List K_J) (i:Int) (v0:List K_J) (v1:Int),post21_0 (length v0) (r21_0 a0 y0 i v0 v1)
  |[],i,v0,v1=>by
    first | trivial |(simp only[post21_0,length_nil,Nat.add_zero]; done) |(simp[post21_0]; done)
  |x0::y0,i,v0,v1=>by
    simp only[r21_0]
    have z:=z21_0 (a0:=a0) y0 (i+1) (set v0 (toNat i) (K_J.mk v1 (wrap .i64 (v1+1)) (wrap .i64 ((wrap .i64 (v1+1))+1)) (wrap .i64 ((wrap .i64 ((wrap .i64 (v1+1))+1))+1)) (wrap .i64 ((wrap .i64 ((wrap .i64 ((wrap .i64 (v1+1))+1))+1))+1)) (o51_0 x0.f5 (wrap .i64 ((wrap .i64 ((wrap .i64 ((wrap .i64 ((wrap .i64 (v1+1))+1))+1))+1))+1))))) (m51 x0.f5 (wrap .i64 ((wrap .i64 ((wrap .i64 ((wrap .i64 ((wrap .i64 (v1+1))+1))+1))+1))+1)))
    rw[show (length v0)=(length (set v0 (toNat i) (K_J.mk v1 (wrap .i64 (v1+1)) (wrap .i64 ((wrap .i64 (v1+1))+1)) (wrap .i64 ((wrap .i64 ((wrap .i64 (v1+1))+1))+1)) (wrap .i64 ((wrap .i64 ((wrap .i64 ((wrap .i64 (v1+1))+1))+1))+1)) (o51_0 x0.f5 (wrap .i64 ((wrap .i64 ((wrap .i64 ((wrap .i64 ((wrap .i64 (v1+1))+1))+1))+1))+1)))))) from by first | omega |(simp only[LN]; done) |(simp only[LN]; omega)]
    exact z
def o21_0 (a0:(List K_J)) (a1:Int):List K_J:=
  (match r21_0 a0 a0 0 a0 a1 with | .k0 w0_0 w1_0 w2_0 w3_0=>w0_0)
def m21 (a0:(List K_J)) (a1:Int):Int:=
  (match r21_0 a0 a0 0 a0 a1 with | .k0 w0_0 w1_0 w2_0 w3_0=>w1_0)
theorem e21 {a0:(List K_J)} {a1:Int} (hy0:length a0*64≤140737488351232) (hy1:∀z∈a0,ok_J z):Ev F X (.call 21 [(.one (.ref ⟨(0,0,0),[],0,(length (map d_J a0))⟩)),(.one (.val (.int .i64 a1)))] [((0,0,0),⟨6,(map d_J a0),[]⟩)] [(map d_J (o21_0 a0 a1))] [(.one (.val (.int .i64 (m21 a0 a1))))]):=by
  unfold m21 o21_0
  cases h0:r21_0 a0 a0 0 a0 a1 with
  |k0 w0_0 w1_0 w2_0 w3_0=>
    try dsimp only
    have zh0:=z21_0 (a0:=a0) a0 0 a0 a1; rw[h0] at zh0; simp only[post21_0,length_map,length_set,length_append,length_replicate,length_cons,length_nil,Int.toNat_natCast] at zh0
    have f0:=Eq.refl (h21_0 a0 a1 0 a0 a1)
    exact cq [true] ya (.f f0 (.f (ev_ (e:=ex21_0) (g:=(fin21_0 a0 a1)) h0 (t21_0 (a0:=a0) (a1:=a1) (by assumption) (by assumption) a0 [] a0 a1 rfl yM (by rfl))) (.f (pureR_J w0_0) (.h 4 (.loop (h21_0 a0 a1 0 a0 a1) (.exit 0) (fin21_0 a0 a1 (.k0 w0_0 w1_0 w2_0 w3_0))) .nil))))
theorem ov21_0 (a0:List K_J):∀(l p:List K_J) (v1:Int),∃(q:List K_J) (w1:_) (w2:_) (w3:_),r21_0 a0 l (p.length:Int) (p++l) v1=.k0 (p++q) w1 w2 w3∧q.length=l.length
  |[],p,v1=>⟨[],v1,(p.length:Int),(decide ((p.length:Int) <((length (map d_J a0)):Int))),rfl,rfl⟩
  |x0::l,p,v1=>by
    obtain⟨q,w1,w2,w3,e1,e2⟩:=ov21_0 a0 l (p++ [(K_J.mk v1 (wrap .i64 (v1+1)) (wrap .i64 ((wrap .i64 (v1+1))+1)) (wrap .i64 ((wrap .i64 ((wrap .i64 (v1+1))+1))+1)) (wrap .i64 ((wrap .i64 ((wrap .i64 ((wrap .i64 (v1+1))+1))+1))+1)) (o51_0 x0.f5 (wrap .i64 ((wrap .i64 ((wrap .i64 ((wrap .i64 ((wrap .i64 (v1+1))+1))+1))+1))+1))))]) (m51 x0.f5 (wrap .i64 ((wrap .i64 ((wrap .i64 ((wrap .i64 ((wrap .i64 (v1+1))+1))+1))+1))+1)))
    refine⟨(K_J.mk v1 (wrap .i64 (v1+1)) (wrap .i64 ((wrap .i64 (v1+1))+1)) (wrap .i64 ((wrap .i64 ((wrap .i64 (v1+1))+1))+1)) (wrap .i64 ((wrap .i64 ((wrap .i64 ((wrap .i64 (v1+1))+1))+1))+1)) (o51_0 x0.f5 (wrap .i64 ((wrap .i64 ((wrap .i64 ((wrap .i64 ((wrap .i64 (v1+1))+1))+1))+1))+1))))::q,w1,w2,w3,?_,by simp[e2]⟩
    · have e:set (p++x0::l) (toNat (p.length:Int)) (K_J.mk v1 (wrap .i64 (v1+1)) (wrap .i64 ((wrap .i64 (v1+1))+1)) (wrap .i64 ((wrap .i64 ((wrap .i64 (v1+1))+1))+1)) (wrap .i64 ((wrap .i64 ((wrap .i64 ((wrap .i64 (v1+1))+1))+1))+1)) (o51_0 x0.f5 (wrap .i64 ((wrap .i64 ((wrap .i64 ((wrap .i64 ((wrap .i64 (v1+1))+1))+1))+1))+1))))=(p++ [(K_J.mk v1 (wrap .i64 (v1+1)) (wrap .i64 ((wrap .i64 (v1+1))+1)) (wrap .i64 ((wrap .i64 ((wrap .i64 (v1+1))+1))+1)) (wrap .i64 ((wrap .i64 ((wrap .i64 ((wrap .i64 (v1+1))+1))+1))+1)) (o51_0 x0.f5 (wrap .i64 ((wrap .i64 ((wrap .i64 ((wrap .i64 ((wrap .i64 (v1+1))+1))+1))+1))+1))))])++l:=by simp
      have e0:((p++ [(K_J.mk v1 (wrap .i64 (v1+1)) (wrap .i64 ((wrap .i64 (v1+1))+1)) (wrap .i64 ((wrap .i64 ((wrap .i64 (v1+1))+1))+1)) (wrap .i64 ((wrap .i64 ((wrap .i64 ((wrap .i64 (v1+1))+1))+1))+1)) (o51_0 x0.f5 (wrap .i64 ((wrap .i64 ((wrap .i64 ((wrap .i64 ((wrap .i64 (v1+1))+1))+1))+1))+1))))]).length:Int)=(p.length:Int)+1:=by simp
      rw[e0] at e1
      simp only[r21_0]
      first |(rw[e,e1]; simp; done) |(simp only[e,e1]; simp; done)
theorem ol21 (a:List K_J) (k:Int):(o21_0 a k).length=a.length:=by
  obtain⟨q,w1,w2,w3,e1,e2⟩:=ov21_0 a a [] k
  simp only[List.nil_append,length_nil] at e1
  rw[show ((0:Nat):Int)=0 from rfl] at e1
  unfold o21_0
  rw[e1]; exact e2
def m24 (a0:(List K_KY)) (a1:Int):Int:=
  if(decide ((wrap .i64 (a1 - ((length (map b_KY a0)):Int))) < 0))=true then(-1) else
  (wrap .i64 (a1 - ((length (map b_KY a0)):Int)))
theorem e24 {l0_0:Nat} {a0:(List K_KY)} {a1:Int}:Ev F X (.call 24 [(.one (.bor l0_0 (map b_KY a0))),(.one (.val (.int .i64 a1)))] [] [] [(.one (.val (.int .i64 (m24 a0 a1))))]):=by
  unfold m24
  by_cases h0:(decide ((wrap .i64 (a1 - ((length (map b_KY a0)):Int))) < 0))=true
  · try simp only[if_pos h0]
    exact cp ya (.f h0 (.h 16 (.b true) .nil))
  · try simp only[if_neg h0]
    exact cp ya (.f (nt h0) (.h 16 (.b false) .nil))
def m36 (a0:Int) (a1:Int) (a2:Int):Bool:=
  if(decide (a0≥a1))=true then(decide (a0≤a2)) else
  false
theorem e36 {a0:Int} {a1:Int} {a2:Int}:Ev F X (.call 36 [(.one (.val (.int .i64 a0))),(.one (.val (.int .i64 a1))),(.one (.val (.int .i64 a2)))] [] [] [(.one (.val (.bool (m36 a0 a1 a2))))]):=by
  unfold m36
  by_cases h0:(decide (a0≥a1))=true
  · try simp only[if_pos h0]
    exact cp ya (.f h0 (.f h0 (.f h0 (.f h0 (.h 10 (.b true) (.h 12 (.b true) (.h 14 (.b true) (.h 17 (.b true) .nil))))))))
  · try simp only[if_neg h0]
    exact cp ya (.f (nt h0) (.f (nt h0) (.f (nt h0) (.f (nt h0) (.h 10 (.b false) (.h 12 (.b false) (.h 14 (.b false) (.h 17 (.b false) .nil))))))))
theorem jn36 {a b c:Int} (h:¬(!(m36 a b c))=true):b≤a∧a≤c:=by
  simp only[Bool.not_eq_true',Bool.not_eq_false] at h
  unfold m36 at h; split at h<;>simp_all<;>omega
theorem e65 {a0:Int}:Ev F X (.call 65 [(.one (.val (.int .i64 a0)))] [] [] [(.one (.val (.bool (m36 a0 0 2147483646))))]):=by
  exact cp ya (.r 5 [] [] (e36 (a0:=a0) (a1:=0) (a2:=2147483646)) .nil)
def m66 (a0:Int):Bool:=
  if(m36 a0 1 1023)=true then(decide ((Int.tmod a0 256) > 0)) else
  false
theorem e66 {a0:Int}:Ev F X (.call 66 [(.one (.val (.int .i64 a0)))] [] [] [(.one (.val (.bool (m66 a0))))]):=by
  unfold m66
  by_cases h0:(m36 a0 1 1023)=true
  · try simp only[if_pos h0]
    have f3:(256:Int)≠0:=yb
    exact cp ya (.r 5 [] [] (e36 (a0:=a0) (a1:=1) (a2:=1023)) (.f h0 (.f h0 (.f f3 (.f h0 (.f h0 (.h 8 (.b true) (.h 10 (.b true) (.h 12 (.b true) (.h 15 (.b true) .nil))))))))))
  · try simp only[if_neg h0]
    exact cp ya (.r 5 [] [] (e36 (a0:=a0) (a1:=1) (a2:=1023)) (.f (nt h0) (.f (nt h0) (.f (nt h0) (.f (nt h0) (.h 8 (.b false) (.h 10 (.b false) (.h 12 (.b false) (.h 15 (.b false) .nil)))))))))
inductive O123_0 where
  |k0 (w0:Int) (w1:Bool)
  |k1
def r123_0 (a0:(List Int)) (a1:Int) (a2:Int):List Int→Int→O123_0
  |x0::y0,i=>
    if(!(m36 x0 a1 a2))=true then(O123_0.k1) else
    (r123_0 a0 a1 a2 y0 (i+1))
  |[],i=>(O123_0.k0 i (decide (i <((length (map b_i a0)):Int))))
def h123_0 (l0_0:Nat) (a0:(List Int)) (a1:Int) (a2:Int) (i:Int) :St:=⟨[(0,(.one (.bor l0_0 (map b_i a0)))),(1,(.one (.val (.int .i64 a1)))),(2,(.one (.val (.int .i64 a2)))),(7,(.one (.val (.int .i64 i))))],[]⟩
def ex123_0:O123_0→VX.Exit
  |.k0 _ _=>(.exit 0)
  |.k1=>.ret
def fin123_0 (l0_0:Nat) (a0:(List Int)) (a1:Int) (a2:Int):O123_0→St
  |.k0 w0 w1=>⟨[(0,(.one (.bor l0_0 (map b_i a0)))),(1,(.one (.val (.int .i64 a1)))),(2,(.one (.val (.int .i64 a2)))),(7,(.one (.val (.int .i64 w0)))),(11,(.one (.val (.bool w1))))],[]⟩
  |.k1=>⟨[(6,(.one (.val (.bool false))))],[]⟩
theorem t123_0 {l0_0:Nat} {a0:(List Int)} {a1:Int} {a2:Int} (hy0:length a0*8≤140737488351232):∀(y0:List Int) (p:List Int),p++y0=a0→Ev F X (.code l123_0 (h123_0 l0_0 a0 a1 a2 (length p:Int)) (ex123_0 (r123_0 a0 a1 a2 y0 (length p:Int))) (fin123_0 l0_0 a0 a1 a2 (r123_0 a0 a1 a2 y0 (length p:Int))))
  |[],p,hp0=>by
    have hc:=hcn b_i hp0
    exact lx 9 ya (.f (nt hc) (.h 8 (.b false) .nil)) rfl
  |x0::y0,p,hp0=>by
    have hc:=hcy b_i hp0
    have Hx0:=hxy hp0
    have hlen:=hly hp0
    have hw:wrap .i64 ((length p:Int)+1)=(length p:Int)+1:=wrap64 yb
    simp only[r123_0]
    have f1:0≤(length p:Int):=yb
    have P1 {hs q} (r:PS F X hs q):=(PS.f hc (.f f1 (.f (mp_ b_i Hx0) (.h 8 (.b true) (.h 14 (.row [(.i x0)]) (.r 22 [] [] (e36 (a0:=x0) (a1:=a1) (a2:=a2)) r))))))
    by_cases h_1:(!(m36 x0 a1 a2))=true
    · try simp only[if_pos h_1]
      exact lx 28 ya (P1 (.f h_1 (.h 25 (.b true) .nil))) rfl
    · try simp only[if_neg h_1]
      have ih:=t123_0 (l0_0:=l0_0) (a0:=a0) (a1:=a1) (a2:=a2) hy0 y0 (p++ [x0]) yd
      rw[pl1,← hw] at ih; rw[← hw]
      exact ly 32 ya (P1 (.f (nt h_1) (.f trivial (.h 25 (.b false) .nil)))) ih
def m123 (a0:(List Int)) (a1:Int) (a2:Int):Bool:=
  (match r123_0 a0 a1 a2 a0 0 with | .k0 w0_0 w1_0=>true | .k1=>false)
theorem e123 {l0_0:Nat} {a0:(List Int)} {a1:Int} {a2:Int} (hy0:length a0*8≤140737488351232):Ev F X (.call 123 [(.one (.bor l0_0 (map b_i a0))),(.one (.val (.int .i64 a1))),(.one (.val (.int .i64 a2)))] [] [] [(.one (.val (.bool (m123 a0 a1 a2))))]):=by
  unfold m123
  cases h0:r123_0 a0 a1 a2 a0 0 with
  |k0 w0_0 w1_0=>
    try dsimp only
    have f0:=Eq.refl (h123_0 l0_0 a0 a1 a2 0 )
    exact cp ya (.f f0 (.f (ev_ (e:=ex123_0) (g:=(fin123_0 l0_0 a0 a1 a2)) h0 (t123_0 (l0_0:=l0_0) (a0:=a0) (a1:=a1) (a2:=a2) (by assumption) a0 []  rfl)) (.h 4 (.loop (h123_0 l0_0 a0 a1 a2 0) (.exit 0) (fin123_0 l0_0 a0 a1 a2 (.k0 w0_0 w1_0))) .nil)))
  |k1=>
    try dsimp only
    have f0:=Eq.refl (h123_0 l0_0 a0 a1 a2 0 )
    exact cp ya (.f f0 (.f (ev_ (e:=ex123_0) (g:=(fin123_0 l0_0 a0 a1 a2)) h0 (t123_0 (l0_0:=l0_0) (a0:=a0) (a1:=a1) (a2:=a2) (by assumption) a0 []  rfl)) (.h 4 (.loop (h123_0 l0_0 a0 a1 a2 0) .ret (fin123_0 l0_0 a0 a1 a2 (.k1))) .nil)))
inductive O96_0 where
  |k0 (w0:Int) (w1:Bool)
  |k1
def r96_0 (a0:(List K_N)) (a1:Int):Nat→Int→O96_0
  |n+1,i=>
    if (((getD a0 (toNat i) (K_N.mk 0 0 [])).f0) == ((getD a0 (toNat a1) (K_N.mk 0 0 [])).f0)) = true then (if (((getD a0 (toNat i) (K_N.mk 0 0 [])).f1) == ((getD a0 (toNat a1) (K_N.mk 0 0 [])).f1)) = true then (O96_0.k1) else
      (r96_0 a0 a1 n (i+1))) else
    (r96_0 a0 a1 n (i+1))
  |0,i=>(O96_0.k0 i (decide (i < a1)))
def h96_0 (l0_0:Nat) (a0:(List K_N)) (a1:Int) (i:Int) :St:=⟨[(0,(.one (.bor l0_0 (map b_N a0)))),(1,(.one (.val (.int .i64 a1)))),(5,(.bptr l0_0 (b_N (getD a0 (toNat a1) (K_N.mk 0 0 []))))),(6,(.one (.val (.int .i64 i))))],[]⟩
def ex96_0:O96_0→VX.Exit
  |.k0 _ _=>(.exit 0)
  |.k1=>.ret
def fin96_0 (l0_0:Nat) (a0:(List K_N)) (a1:Int):O96_0→St
  |.k0 w0 w1=>⟨[(0,(.one (.bor l0_0 (map b_N a0)))),(1,(.one (.val (.int .i64 a1)))),(5,(.bptr l0_0 (b_N (getD a0 (toNat a1) (K_N.mk 0 0 []))))),(6,(.one (.val (.int .i64 w0)))),(38,(.one (.val (.bool w1))))],[]⟩
  |.k1=>⟨[(4,(.one (.val (.int .i64 6))))],[]⟩
theorem t96_0 {l0_0:Nat} {a0:(List K_N)} {a1:Int} (hy0:length a0*40≤140737488351232) (hy1:∀z∈a0,ok_N z) (hy2:0≤a1) (hy3:a1 <(length a0:Int)):∀(n:Nat) (i:Int),0≤i→n=toNat (a1 - i)→a1≤9223372036854775807→Ev F X (.code l96_0 (h96_0 l0_0 a0 a1 i) (ex96_0 (r96_0 a0 a1 n i)) (fin96_0 l0_0 a0 a1 (r96_0 a0 a1 n i)))
  |0,i,hn0,hn,hi0=>by
    have hc:¬(decide (i < a1))=true:=by
      simp only[decide_eq_true_eq]; omega
    exact lx 7 ya (.f (nt hc) (.h 6 (.b false) .nil)) rfl
  |n+1,i,hn0,hn,hi0=>by
    have hc:(decide (i < a1))=true:=by
      simp only[decide_eq_true_eq]; omega
    have hw:wrap .i64 (i+1)=i+1:=wrap64 yb
    have hj0:=hi0; try simp only[LN,Int.toNat_natCast] at hj0
    simp only[r96_0]
    have f1:0≤i:=‹_›
    have P1 {hs q} (r:PS F X hs q):=(PS.f hc (.f f1 (.f (mp_ b_N (getD_at a0 (toNat i) (K_N.mk 0 0 []) yb)) (.h 6 (.b true) (.h 12 (.row (b_N (getD a0 (toNat i) (K_N.mk 0 0 [])))) r)))))
    by_cases h_1:(((getD a0 (toNat i) (K_N.mk 0 0 [])).f0)==((getD a0 (toNat a1) (K_N.mk 0 0 [])).f0))=true
    · try simp only[if_pos h_1]
      have P2 {hs q} (r:PS F X hs q):=(P1 (.f h_1 (.f h_1 (.f h_1 (.f f1 (.f (mp_ b_N (getD_at a0 (toNat i) (K_N.mk 0 0 []) yb)) (.f h_1 (.f h_1 (.f h_1 (.f h_1 (.f h_1 (.f h_1 (.f h_1 (.f h_1 (.h 29 (.b true) (.h 31 (.b true) (.h 33 (.b true) (.h 34 (.row (b_N (getD a0 (toNat i) (K_N.mk 0 0 [])))) (.h 35 (.b true) (.h 37 (.b true) (.h 39 (.b true) (.h 41 (.b true) (.h 43 (.b true) (.h 45 (.b true) (.h 47 (.b true) (.h 50 (.b true) r))))))))))))))))))))))))))
      by_cases h_2:(((getD a0 (toNat i) (K_N.mk 0 0 [])).f1)==((getD a0 (toNat a1) (K_N.mk 0 0 [])).f1))=true
      · try simp only[if_pos h_2]
        exact lx 54 ya (P2 (.f h_2 (.h 51 (.b true) .nil))) rfl
      · try simp only[if_neg h_2]
        have ih:=t96_0 (l0_0:=l0_0) (a0:=a0) (a1:=a1) hy0 hy1 hy2 hy3 n (i+1) yb yb yb
        rw[← hw] at ih; rw[← hw]
        exact ly 58 ya (P2 (.f (nt h_2) (.f trivial (.h 51 (.b false) .nil)))) ih
    · try simp only[if_neg h_1]
      have ih:=t96_0 (l0_0:=l0_0) (a0:=a0) (a1:=a1) hy0 hy1 hy2 hy3 n (i+1) yb yb yb
      rw[← hw] at ih; rw[← hw]
      exact ly 58 ya (P1 (.f (nt h_1) (.f (nt h_1) (.f (nt h_1) (.f (nt h_1) (.f (nt h_1) (.f (nt h_1) (.f (nt h_1) (.f (nt h_1) (.f (nt h_1) (.f (nt h_1) (.f (nt h_1) (.f trivial (.h 29 (.b false) (.h 31 (.b false) (.h 33 (.b false) (.h 35 (.b false) (.h 37 (.b false) (.h 39 (.b false) (.h 41 (.b false) (.h 43 (.b false) (.h 45 (.b false) (.h 47 (.b false) (.h 50 (.b false) .nil)))))))))))))))))))))))) ih
def m96 (a0:(List K_N)) (a1:Int):Int:=
  if(!(m36 ((getD a0 (toNat a1) (K_N.mk 0 0 [])).f0) 0 2147483646))=true then 3 else
  if(!(m36 ((getD a0 (toNat a1) (K_N.mk 0 0 [])).f1) 0 3))=true then 3 else
    if(decide (((length (map b_i ((getD a0 (toNat a1) (K_N.mk 0 0 [])).f2))):Int) > 8))=true then 2 else
      if(!(m123 ((getD a0 (toNat a1) (K_N.mk 0 0 [])).f2) 0 9999))=true then 3 else
        (match r96_0 a0 a1 (toNat a1) 0 with | .k0 w0_14 w1_14=>0 | .k1=>6)
theorem e96 {l0_0:Nat} {a0:(List K_N)} {a1:Int} (hy0:length a0*40≤140737488351232) (hy1:∀z∈a0,ok_N z) (hy2:0≤a1) (hy3:a1 <(length a0:Int)):Ev F X (.call 96 [(.one (.bor l0_0 (map b_N a0))),(.one (.val (.int .i64 a1)))] [] [] [(.one (.val (.int .i64 (m96 a0 a1))))]):=by
  unfold m96
  have f0:0≤a1:=‹_›
  have P0 {hs q} (r:PS F X hs q):=(PS.f f0 (.f (mp_ b_N (getD_at a0 (toNat a1) (K_N.mk 0 0 []) yb)) (.h 7 (.row (b_N (getD a0 (toNat a1) (K_N.mk 0 0 [])))) (.r 19 [] [] (e36 (a0:=((getD a0 (toNat a1) (K_N.mk 0 0 [])).f0)) (a1:=0) (a2:=2147483646)) r))))
  by_cases h0:(!(m36 ((getD a0 (toNat a1) (K_N.mk 0 0 [])).f0) 0 2147483646))=true
  · try simp only[if_pos h0]
    exact cp ya (P0 (.f h0 (.f h0 (.f h0 (.f h0 (.f h0 (.f h0 (.f h0 (.h 24 (.b true) (.h 26 (.b true) (.h 28 (.b true) (.h 30 (.b true) (.h 32 (.b true) (.h 34 (.b true) (.h 37 (.b true) .nil)))))))))))))))
  · try simp only[if_neg h0]
    have P1 {hs q} (r:PS F X hs q):=(P0 (.f (nt h0) (.f (nt h0) (.f (nt h0) (.f (nt h0) (.f (nt h0) (.h 24 (.b false) (.h 26 (.b false) (.h 28 (.b false) (.h 30 (.b false) (.h 32 (.b false) (.r 33 [] [] (e36 (a0:=((getD a0 (toNat a1) (K_N.mk 0 0 [])).f1)) (a1:=0) (a2:=3)) (.f (nt h0) (.f (nt h0) (.h 34 (.b false) (.h 37 (.b false) r))))))))))))))))
    by_cases h1:(!(m36 ((getD a0 (toNat a1) (K_N.mk 0 0 [])).f1) 0 3))=true
    · try simp only[if_pos h1]
      exact cp ya (P1 (.f h1 (.h 38 (.b true) .nil)))
    · try simp only[if_neg h1]
      have P2 {hs q} (r:PS F X hs q):=(P1 (.f (nt h1) (.h 38 (.b false) r)))
      by_cases h2:(decide (((length (map b_i ((getD a0 (toNat a1) (K_N.mk 0 0 [])).f2))):Int) > 8))=true
      · try simp only[if_pos h2]
        exact cp ya (P2 (.f h2 (.h 51 (.b true) .nil)))
      · try simp only[if_neg h2]
        have P3 {hs q} (r:PS F X hs q):=(P2 (.f (nt h2) (.h 51 (.b false) (.r 61 [] [] (e123 (l0_0:=(l0_0+1)) (a0:=((getD a0 (toNat a1) (K_N.mk 0 0 [])).f2)) (a1:=0) (a2:=9999) (by have q:=gos_N (l:=a0) (by first | assumption |(intro z hz; exact(by assumption:∀z∈_,os_N z) z (List.mem_of_mem_take hz))) (toNat a1) (K_N.mk 0 0 []) (by simp[os_N,ByteArray.size]); first | exact q | exact q.1 | exact q.2 | exact q.2.1 | exact q.2.2 | exact Nat.le_trans q yG | exact Nat.le_trans q.1 yG |(have q1:=q.1; simp only[length_map]; omega))) r))))
        by_cases h3:(!(m123 ((getD a0 (toNat a1) (K_N.mk 0 0 [])).f2) 0 9999))=true
        · try simp only[if_pos h3]
          exact cp ya (P3 (.f h3 (.h 64 (.b true) .nil)))
        · try simp only[if_neg h3]
          cases h4:r96_0 a0 a1 (toNat a1) 0 with
          |k0 w0_14 w1_14=>
            try dsimp only
            have f15:=Eq.refl (h96_0 l0_0 a0 a1 0 )
            exact cp ya (P3 (.f (nt h3) (.f f15 (.f (ev_ (e:=ex96_0) (g:=(fin96_0 l0_0 a0 a1)) h4 (t96_0 (l0_0:=l0_0) (a0:=a0) (a1:=a1) (by assumption) (by assumption) (by assumption) (by assumption) _ 0 yb yb yb)) (.h 64 (.b false) (.h 67 (.loop (h96_0 l0_0 a0 a1 0) (.exit 0) (fin96_0 l0_0 a0 a1 (.k0 w0_14 w1_14))) .nil))))))
          |k1=>
            try dsimp only
            have f15:=Eq.refl (h96_0 l0_0 a0 a1 0 )
            exact cp ya (P3 (.f (nt h3) (.f f15 (.f (ev_ (e:=ex96_0) (g:=(fin96_0 l0_0 a0 a1)) h4 (t96_0 (l0_0:=l0_0) (a0:=a0) (a1:=a1) (by assumption) (by assumption) (by assumption) (by assumption) _ 0 yb yb yb)) (.h 64 (.b false) (.h 67 (.loop (h96_0 l0_0 a0 a1 0) .ret (fin96_0 l0_0 a0 a1 (.k1))) .nil))))))
theorem inl96 {a:List K_N} {i:Int} (h:m96 a i=0):length (getD a (toNat i) (K_N.mk 0 0 [])).f2≤8:=by
  by_cases c:(decide (((length (map b_i ((getD a (toNat i) (K_N.mk 0 0 [])).f2))):Int) > 8))=true
  · unfold m96 at h
    simp only[if_pos c] at h
    (repeat' split at h)<;>exact absurd h yG
  · simp only[decide_eq_true_eq,length_map] at c; omega
theorem e124 {a0:Int}:Ev F X (.call 124 [(.one (.val (.int .i64 a0)))] [] [] [(.one (.val (.bool (m36 a0 0 1000000))))]):=by
  exact cp ya (.r 5 [] [] (e36 (a0:=a0) (a1:=0) (a2:=1000000)) .nil)
def m150 (a0:Int):Bool:=
  if(m36 a0 1 9)=true then true else
  (m36 a0 100 1099)
theorem e150 {a0:Int}:Ev F X (.call 150 [(.one (.val (.int .i64 a0)))] [] [] [(.one (.val (.bool (m150 a0))))]):=by
  unfold m150
  by_cases h0:(m36 a0 1 9)=true
  · try simp only[if_pos h0]
    exact cp ya (.r 5 [] [] (e36 (a0:=a0) (a1:=1) (a2:=9)) (.f h0 (.f h0 (.f h0 (.h 8 (.b true) (.h 10 (.b true) (.h 13 (.b true) .nil)))))))
  · try simp only[if_neg h0]
    exact cp ya (.r 5 [] [] (e36 (a0:=a0) (a1:=1) (a2:=9)) (.f (nt h0) (.f (nt h0) (.h 8 (.b false) (.h 10 (.b false) (.r 11 [] [] (e36 (a0:=a0) (a1:=100) (a2:=1099)) (.f (nt h0) (.h 13 (.b false) .nil))))))))
inductive O125_0 where
  |k0 (w0:Int) (w1:Bool)
  |k1
def r125_0 (a0:(List Int)):List Int→Int→O125_0
  |x0::y0,i=>
    if(!(m150 x0))=true then(O125_0.k1) else
    (r125_0 a0 y0 (i+1))
  |[],i=>(O125_0.k0 i (decide (i <((length (map b_i a0)):Int))))
def h125_0 (l0_0:Nat) (a0:(List Int)) (i:Int) :St:=⟨[(0,(.one (.bor l0_0 (map b_i a0)))),(3,(.one (.val (.int .i64 i))))],[]⟩
def ex125_0:O125_0→VX.Exit
  |.k0 _ _=>(.exit 0)
  |.k1=>.ret
def fin125_0 (l0_0:Nat) (a0:(List Int)):O125_0→St
  |.k0 w0 w1=>⟨[(0,(.one (.bor l0_0 (map b_i a0)))),(3,(.one (.val (.int .i64 w0)))),(10,(.one (.val (.bool w1))))],[]⟩
  |.k1=>⟨[(2,(.one (.val (.int .i64 1))))],[]⟩
theorem t125_0 {l0_0:Nat} {a0:(List Int)} (hy0:length a0*8≤140737488351232):∀(y0:List Int) (p:List Int),p++y0=a0→Ev F X (.code l125_0 (h125_0 l0_0 a0 (length p:Int)) (ex125_0 (r125_0 a0 y0 (length p:Int))) (fin125_0 l0_0 a0 (r125_0 a0 y0 (length p:Int))))
  |[],p,hp0=>by
    have hc:=hcn b_i hp0
    exact lx 9 ya (.f (nt hc) (.h 8 (.b false) .nil)) rfl
  |x0::y0,p,hp0=>by
    have hc:=hcy b_i hp0
    have Hx0:=hxy hp0
    have hlen:=hly hp0
    have hw:wrap .i64 ((length p:Int)+1)=(length p:Int)+1:=wrap64 yb
    simp only[r125_0]
    have f1:0≤(length p:Int):=yb
    have P1 {hs q} (r:PS F X hs q):=(PS.f hc (.f f1 (.f (mp_ b_i Hx0) (.h 8 (.b true) (.h 14 (.row [(.i x0)]) (.r 18 [] [] (e150 (a0:=x0)) r))))))
    by_cases h_1:(!(m150 x0))=true
    · try simp only[if_pos h_1]
      exact lx 24 ya (P1 (.f h_1 (.h 21 (.b true) .nil))) rfl
    · try simp only[if_neg h_1]
      have ih:=t125_0 (l0_0:=l0_0) (a0:=a0) hy0 y0 (p++ [x0]) yd
      rw[pl1,← hw] at ih; rw[← hw]
      exact ly 28 ya (P1 (.f (nt h_1) (.f trivial (.h 21 (.b false) .nil)))) ih
def m125 (a0:(List Int)):Int:=
  if(decide (((length (map b_i a0)):Int) > 12))=true then 2 else
  (match r125_0 a0 a0 0 with | .k0 w0_1 w1_1=>0 | .k1=>1)
theorem e125 {l0_0:Nat} {a0:(List Int)} (hy0:length a0*8≤140737488351232):Ev F X (.call 125 [(.one (.bor l0_0 (map b_i a0)))] [] [] [(.one (.val (.int .i64 (m125 a0))))]):=by
  unfold m125
  by_cases h0:(decide (((length (map b_i a0)):Int) > 12))=true
  · try simp only[if_pos h0]
    exact cp ya (.f h0 (.h 8 (.b true) .nil))
  · try simp only[if_neg h0]
    cases h1:r125_0 a0 a0 0 with
    |k0 w0_1 w1_1=>
      try dsimp only
      have f1:=Eq.refl (h125_0 l0_0 a0 0 )
      exact cp ya (.f (nt h0) (.f f1 (.f (ev_ (e:=ex125_0) (g:=(fin125_0 l0_0 a0)) h1 (t125_0 (l0_0:=l0_0) (a0:=a0) (by assumption) a0 []  rfl)) (.h 8 (.b false) (.h 11 (.loop (h125_0 l0_0 a0 0) (.exit 0) (fin125_0 l0_0 a0 (.k0 w0_1 w1_1))) .nil)))))
    |k1=>
      try dsimp only
      have f1:=Eq.refl (h125_0 l0_0 a0 0 )
      exact cp ya (.f (nt h0) (.f f1 (.f (ev_ (e:=ex125_0) (g:=(fin125_0 l0_0 a0)) h1 (t125_0 (l0_0:=l0_0) (a0:=a0) (by assumption) a0 []  rfl)) (.h 8 (.b false) (.h 11 (.loop (h125_0 l0_0 a0 0) .ret (fin125_0 l0_0 a0 (.k1))) .nil)))))
theorem lk125 {a:List Int} (h:m125 a=0):length a≤12:=by
  by_cases c:(decide (((length (map b_i a)):Int) > 12))=true
  · unfold m125 at h
    simp only[if_pos c] at h
    exact absurd h yG
  · simp only[decide_eq_true_eq,length_map] at c; omega
inductive O97_0 where
  |k0 (w0:Int) (w1:Int) (w2:Bool)
  |k1
  |k2 (w0:Int)
def r97_0 (a0:(List K_U)):List K_U→Int→Int→O97_0
  |x0::y0,i,v0=>
    if(!(m36 x0.f0 0 1000000))=true then(O97_0.k1) else
    if((m125 x0.f1) !=0)=true then(O97_0.k2 (m125 x0.f1)) else
      (r97_0 a0 y0 (i+1) (wrap .i64 (v0+x0.f0)))
  |[],i,v0=>(O97_0.k0 v0 i (decide (i <((length (map b_U a0)):Int))))
def h97_0 (l0_0:Nat) (a0:(List K_U)) (i:Int) (v0:Int):St:=⟨[(0,(.one (.bor l0_0 (map b_U a0)))),(3,(.one (.val (.int .i64 v0)))),(4,(.one (.val (.int .i64 i))))],[]⟩
def ex97_0:O97_0→VX.Exit
  |.k0 _ _ _=>(.exit 0)
  |.k1=>.ret
  |.k2 _=>.ret
def fin97_0 (l0_0:Nat) (a0:(List K_U)):O97_0→St
  |.k0 w0 w1 w2=>⟨[(0,(.one (.bor l0_0 (map b_U a0)))),(3,(.one (.val (.int .i64 w0)))),(4,(.one (.val (.int .i64 w1)))),(9,(.one (.val (.bool w2))))],[]⟩
  |.k1=>⟨[(2,(.one (.val (.int .i64 3))))],[]⟩
  |.k2 w0=>⟨[(2,(.one (.val (.int .i64 w0))))],[]⟩
theorem t97_0 {l0_0:Nat} {a0:(List K_U)} (hy0:length a0*32≤140737488351232) (hy1:∀z∈a0,ok_U z):∀(y0:List K_U) (p:List K_U) (v0:Int),p++y0=a0→Ev F X (.code l97_0 (h97_0 l0_0 a0 (length p:Int) v0) (ex97_0 (r97_0 a0 y0 (length p:Int) v0)) (fin97_0 l0_0 a0 (r97_0 a0 y0 (length p:Int) v0)))
  |[],p,v0,hp0=>by
    have hc:=hcn b_U hp0
    exact lx 9 ya (.f (nt hc) (.h 8 (.b false) .nil)) rfl
  |x0::y0,p,v0,hp0=>by
    have hc:=hcy b_U hp0
    have Hx0:=hxy hp0
    have Mx0_0:=hy1 x0 (List.mem_of_getElem? Hx0)
    have hlen:=hly hp0
    have hw:wrap .i64 ((length p:Int)+1)=(length p:Int)+1:=wrap64 yb
    simp only[r97_0]
    have f1:0≤(length p:Int):=yb
    have P1 {hs q} (r:PS F X hs q):=(PS.f hc (.f f1 (.f (mp_ b_U Hx0) (.h 8 (.b true) (.h 14 (.row (b_U x0)) (.r 20 [] [] (e124 (a0:=x0.f0)) r))))))
    by_cases h_1:(!(m36 x0.f0 0 1000000))=true
    · try simp only[if_pos h_1]
      exact lx 26 ya (P1 (.f h_1 (.h 23 (.b true) .nil))) rfl
    · try simp only[if_neg h_1]
      have P2 {hs q} (r:PS F X hs q):=(P1 (.f (nt h_1) (.f f1 (.f (mp_ b_U Hx0) (.h 23 (.b false) (.h 29 (.row (b_U x0)) (.r 35 [] [] (e125 (l0_0:=(l0_0+1)) (a0:=x0.f1) (by assumption)) r)))))))
      by_cases h_2:((m125 x0.f1) !=0)=true
      · try simp only[if_pos h_2]
        exact lx 47 ya (P2 (.f h_2 (.h 42 (.b true) .nil))) rfl
      · try simp only[if_neg h_2]
        have ih:=t97_0 (l0_0:=l0_0) (a0:=a0) hy0 hy1 y0 (p++ [x0]) (wrap .i64 (v0+x0.f0)) yd
        rw[pl1,← hw] at ih; rw[← hw]
        exact ly 65 ya (P2 (.f (nt h_2) (.f f1 (.f (mp_ b_U Hx0) (.f trivial (.f trivial (.h 42 (.b false) (.h 50 (.row (b_U x0)) .nil)))))))) ih
theorem lo97 {a:List K_U}:∀ {l:List K_U} {i v w:Int} {j b},r97_0 a l i v=.k0 w j b→∀x∈l,m125 x.f1=0
  |[],i,v,w,j,b,h,x,hx=>by cases hx
  |y::l,i,v,w,j,b,h,x,hx=>by
    simp only[r97_0] at h
    split at h
    · cases h
    · split at h
      · cases h
      · rename_i h1
        rcases List.mem_cons.1 hx with rfl | hx
        · simpa using h1
        · exact lo97 h x hx
theorem ne97 {a:List K_U}:∀(l:List K_U) (i v:Int),r97_0 a l i v≠.k2 0
  |[],i,v=>by simp only[r97_0]; intro h; cases h
  |y::l,i,v=>by
    simp only[r97_0]
    split
    · intro q; cases q
    · split
      · rename_i h; intro q; injection q with q; rw[q] at h; exact absurd h yG
      · exact ne97 l _ _
def m97 (a0:(List K_U)):Int:=
  (match r97_0 a0 a0 0 0 with | .k0 w0_0 w1_0 w2_0=>(if(!(m36 w0_0 0 1000000))=true then 7 else 0) | .k1=>3 | .k2 w0_0=>w0_0)
theorem e97 {l0_0:Nat} {a0:(List K_U)} (hy0:length a0*32≤140737488351232) (hy1:∀z∈a0,ok_U z):Ev F X (.call 97 [(.one (.bor l0_0 (map b_U a0)))] [] [] [(.one (.val (.int .i64 (m97 a0))))]):=by
  unfold m97
  cases h0:r97_0 a0 a0 0 0 with
  |k0 w0_0 w1_0 w2_0=>
    try dsimp only
    have f0:=Eq.refl (h97_0 l0_0 a0 0 0)
    have P1 {hs q} (r:PS F X hs q):=(PS.f f0 (.f (ev_ (e:=ex97_0) (g:=(fin97_0 l0_0 a0)) h0 (t97_0 (l0_0:=l0_0) (a0:=a0) (by assumption) (by assumption) a0 [] 0 rfl)) (.h 6 (.loop (h97_0 l0_0 a0 0 0) (.exit 0) (fin97_0 l0_0 a0 (.k0 w0_0 w1_0 w2_0))) (.r 10 [] [] (e124 (a0:=w0_0)) r))))
    by_cases h1:(!(m36 w0_0 0 1000000))=true
    · try simp only[if_pos h1]
      exact cp ya (P1 (.f h1 (.h 13 (.b true) .nil)))
    · try simp only[if_neg h1]
      exact cp ya (P1 (.f (nt h1) (.h 13 (.b false) .nil)))
  |k1=>
    try dsimp only
    have f0:=Eq.refl (h97_0 l0_0 a0 0 0)
    exact cp ya (.f f0 (.f (ev_ (e:=ex97_0) (g:=(fin97_0 l0_0 a0)) h0 (t97_0 (l0_0:=l0_0) (a0:=a0) (by assumption) (by assumption) a0 [] 0 rfl)) (.h 6 (.loop (h97_0 l0_0 a0 0 0) .ret (fin97_0 l0_0 a0 (.k1))) .nil)))
  |k2 w0_0=>
    try dsimp only
    have f0:=Eq.refl (h97_0 l0_0 a0 0 0)
    exact cp ya (.f f0 (.f (ev_ (e:=ex97_0) (g:=(fin97_0 l0_0 a0)) h0 (t97_0 (l0_0:=l0_0) (a0:=a0) (by assumption) (by assumption) a0 [] 0 rfl)) (.h 6 (.loop (h97_0 l0_0 a0 0 0) .ret (fin97_0 l0_0 a0 (.k2 w0_0))) .nil)))
inductive O67_0 where
  |k0 (w0:Int) (w1:Bool)
  |k1 (w0:Int)
def r67_0 (a0:K_T):List K_N→Int→O67_0
  |x0::y0,i=>
    if((m96 a0.f1 i) !=0)=true then(O67_0.k1 (m96 a0.f1 i)) else
    (r67_0 a0 y0 (i+1))
  |[],i=>(O67_0.k0 i (decide (i <((length (map b_N a0.f1)):Int))))
def h67_0 (l0:Nat) (a0:K_T) (i:Int) :St:=⟨[(0,(.bptr l0 (b_T a0))),(3,(.one (.val (.int .i64 i))))],[]⟩
def ex67_0:O67_0→VX.Exit
  |.k0 _ _=>(.exit 0)
  |.k1 _=>.ret
def fin67_0 (l0:Nat) (a0:K_T):O67_0→St
  |.k0 w0 w1=>⟨[(0,(.bptr l0 (b_T a0))),(3,(.one (.val (.int .i64 w0)))),(39,(.one (.val (.bool w1))))],[]⟩
  |.k1 w0=>⟨[(2,(.one (.val (.int .i64 w0))))],[]⟩
theorem t67_0 {l0:Nat} {a0:K_T} (hy0:length a0.f1*40≤140737488351232) (hy1:∀z∈a0.f1,ok_N z) (hy2:length a0.f2*32≤140737488351232) (hy3:∀z∈a0.f2,ok_U z):∀(y0:List K_N) (p:List K_N),p++y0=a0.f1→Ev F X (.code l67_0 (h67_0 l0 a0 (length p:Int)) (ex67_0 (r67_0 a0 y0 (length p:Int))) (fin67_0 l0 a0 (r67_0 a0 y0 (length p:Int))))
  |[],p,hp0=>by
    have hc:=hcn b_N hp0
    exact lx 15 ya (.f (nt hc) (.h 14 (.b false) .nil)) rfl
  |x0::y0,p,hp0=>by
    have hc:=hcy b_N hp0
    have Hx0:=hxy hp0
    have Mx0_0:=hy1 x0 (List.mem_of_getElem? Hx0)
    have hlen:=hly hp0
    have hw:wrap .i64 ((length p:Int)+1)=(length p:Int)+1:=wrap64 yb
    simp only[r67_0]
    have P1 {hs q} (r:PS F X hs q):=(PS.f hc (.h 14 (.b true) (.r 26 [] [] (e96 (l0_0:=(l0+1)) (a0:=a0.f1) (a1:=(length p:Int)) ‹_› ‹_› yb yb) r)))
    by_cases h_1:((m96 a0.f1 (length p:Int)) !=0)=true
    · try simp only[if_pos h_1]
      exact lx 38 ya (P1 (.f h_1 (.h 33 (.b true) .nil))) rfl
    · try simp only[if_neg h_1]
      have ih:=t67_0 (l0:=l0) (a0:=a0) hy0 hy1 hy2 hy3 y0 (p++ [x0]) yd
      rw[pl1,← hw] at ih; rw[← hw]
      exact ly 40 ya (P1 (.f (nt h_1) (.f trivial (.h 33 (.b false) .nil)))) ih
theorem lf67 {a:K_T}:∀ {l:List K_N} {i:Int} {j b},r67_0 a l i=.k0 j b→∀k:Nat,k < l.length→m96 a.f1 (i+(k:Int))=0
  |[],i,j,b,h,k,hk=>by simp at hk
  |y::l,i,j,b,h,k,hk=>by
    simp only[r67_0] at h
    split at h
    · cases h
    · rename_i h1
      cases k with
      |zero=>simpa using h1
      |succ k=>
        have q:=lf67 h k (by simpa using hk)
        rw[← q]; congr 1; omega
theorem ne67 {a:K_T}:∀(l:List K_N) (i:Int),r67_0 a l i≠.k1 0
  |[],i=>by simp only[r67_0]; intro h; cases h
  |y::l,i=>by
    simp only[r67_0]
    split
    · rename_i h; intro q; injection q with q; rw[q] at h; exact absurd h yG
    · exact ne67 l _
def m67 (a0:K_T):Int:=
  if(!(m36 a0.f0 0 65535))=true then 3 else
  if(decide (((length (map b_N a0.f1)):Int) > 4))=true then 2 else
    if(decide (((length (map b_U a0.f2)):Int) < 1))=true then 2 else
      if(decide (((length (map b_U a0.f2)):Int) > 4))=true then 2 else
        (match r67_0 a0 a0.f1 0 with | .k0 w0_17 w1_17=>(m97 a0.f2) | .k1 w0_17=>w0_17)
theorem e67 {l0:Nat} {a0:K_T} (hy0:length a0.f1*40≤140737488351232) (hy1:∀z∈a0.f1,ok_N z) (hy2:length a0.f2*32≤140737488351232) (hy3:∀z∈a0.f2,ok_U z):Ev F X (.call 67 [(.bptr l0 (b_T a0))] [] [] [(.one (.val (.int .i64 (m67 a0))))]):=by
  unfold m67
  have P0 {hs q} (r:PS F X hs q):=(PS.r 11 [] [] (e36 (a0:=a0.f0) (a1:=0) (a2:=65535)) r)
  by_cases h0:(!(m36 a0.f0 0 65535))=true
  · try simp only[if_pos h0]
    exact cp ya (P0 (.f h0 (.h 14 (.b true) .nil)))
  · try simp only[if_neg h0]
    have P1 {hs q} (r:PS F X hs q):=(P0 (.f (nt h0) (.h 14 (.b false) r)))
    by_cases h1:(decide (((length (map b_N a0.f1)):Int) > 4))=true
    · try simp only[if_pos h1]
      exact cp ya (P1 (.f h1 (.f h1 (.f h1 (.f h1 (.f h1 (.f h1 (.f h1 (.h 29 (.b true) (.h 31 (.b true) (.h 33 (.b true) (.h 35 (.b true) (.h 37 (.b true) (.h 39 (.b true) (.h 42 (.b true) .nil)))))))))))))))
    · try simp only[if_neg h1]
      have P2 {hs q} (r:PS F X hs q):=(P1 (.f (nt h1) (.f (nt h1) (.f (nt h1) (.f (nt h1) (.f (nt h1) (.f (nt h1) (.f (nt h1) (.h 29 (.b false) (.h 31 (.b false) (.h 33 (.b false) (.h 35 (.b false) (.h 37 (.b false) (.h 39 (.b false) (.h 42 (.b false) r)))))))))))))))
      by_cases h2:(decide (((length (map b_U a0.f2)):Int) < 1))=true
      · try simp only[if_pos h2]
        exact cp ya (P2 (.f h2 (.f h2 (.f h2 (.f h2 (.f h2 (.f h2 (.f h2 (.h 45 (.b true) (.h 47 (.b true) (.h 49 (.b true) (.h 51 (.b true) (.h 53 (.b true) (.h 55 (.b true) (.h 58 (.b true) .nil)))))))))))))))
      · try simp only[if_neg h2]
        have P3 {hs q} (r:PS F X hs q):=(P2 (.f (nt h2) (.f (nt h2) (.f (nt h2) (.f (nt h2) (.f (nt h2) (.f (nt h2) (.f (nt h2) (.h 45 (.b false) (.h 47 (.b false) (.h 49 (.b false) (.h 51 (.b false) (.h 53 (.b false) (.h 55 (.b false) (.h 58 (.b false) r)))))))))))))))
        by_cases h3:(decide (((length (map b_U a0.f2)):Int) > 4))=true
        · try simp only[if_pos h3]
          exact cp ya (P3 (.f h3 (.h 59 (.b true) .nil)))
        · try simp only[if_neg h3]
          cases h4:r67_0 a0 a0.f1 0 with
          |k0 w0_17 w1_17=>
            try dsimp only
            have f17:=Eq.refl (h67_0 l0 a0 0 )
            exact cp ya (P3 (.f (nt h3) (.f f17 (.f (ev_ (e:=ex67_0) (g:=(fin67_0 l0 a0)) h4 (t67_0 (l0:=l0) (a0:=a0) (by assumption) (by assumption) (by assumption) (by assumption) a0.f1 []  rfl)) (.h 59 (.b false) (.h 62 (.loop (h67_0 l0 a0 0) (.exit 0) (fin67_0 l0 a0 (.k0 w0_17 w1_17))) (.r 72 [] [] (e97 (l0_0:=(l0+1)) (a0:=a0.f2) ‹_› ‹_›) .nil)))))))
          |k1 w0_17=>
            try dsimp only
            have f17:=Eq.refl (h67_0 l0 a0 0 )
            exact cp ya (P3 (.f (nt h3) (.f f17 (.f (ev_ (e:=ex67_0) (g:=(fin67_0 l0 a0)) h4 (t67_0 (l0:=l0) (a0:=a0) (by assumption) (by assumption) (by assumption) (by assumption) a0.f1 []  rfl)) (.h 59 (.b false) (.h 62 (.loop (h67_0 l0 a0 0) .ret (fin67_0 l0 a0 (.k1 w0_17))) .nil))))))
theorem ft67 {a:K_T} (h:m67 a=0):SmT a:=by
  unfold m67 at h
  split at h
  · exact absurd h yG
  · split at h
    · exact absurd h yG
    · split at h
      · exact absurd h yG
      · split at h
        · exact absurd h yG
        · rename_i c1 c2 c3 c4
          simp only[decide_eq_true_eq,length_map] at c2 c4
          cases hr:r67_0 a a.f1 0 with
          |k1 w=>rw[hr] at h; simp only[] at h; subst h; exact absurd hr (ne67 _ _)
          |k0 j b=>
            rw[hr] at h; simp only[] at h
            refine⟨by omega,fun x hx=>?_,by omega,?_⟩
            · obtain⟨k,hk,e⟩:=List.getElem_of_mem hx
              have q:=inl96 (lf67 hr k hk)
              rw[show toNat (0+(k:Int))=k from by omega,getD,List.getElem?_eq_getElem hk,Option.getD_some,e] at q
              exact q
            · unfold m97 at h
              cases ho:r97_0 a.f2 a.f2 0 0 with
              |k0 w j b=>exact fun x hx=>lk125 (lo97 ho x hx)
              |k1=>rw[ho] at h; exact absurd h yG
              |k2 w=>rw[ho] at h; simp only[] at h; subst h; exact absurd ho (ne97 _ _ _)
end Go.Proofs.YtmdocdnidilaiaaGreat.CheckShare
