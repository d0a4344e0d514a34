/- V: results in hand, to be named; a struct that moves into a variable. -/
import Derived.Test.YtmdocdnidilaiaaGreatVOpsE
namespace Go.Proofs.YtmdocdnidilaiaaGreat.V
open Go Frag Go.RowKit
section
variable {P:Program} {H:Nat→Frag} {O:Id→OS} {hv:Id→Value} {w:World}
structure Hand (H:Nat→Frag) (O:Id→OS) (hv:Id→Value) (G:Id→Frag) (w:World) (d:Nat) (T:List (Id × OS)) (hv':Id→Value) (G':Id→Frag) (F:Frag):Prop where
 m:ObjsOK H (ov O T) hv' G' w
 c:Carry ⟨H,O,hv,G⟩ ⟨H,ov O T,hv',G'⟩
 t:Tame O T hv hv' (some d)
 d:∀i,Disj F (G' i)
 h:∀l,Disj F (H l)
 w:F.inW w
theorem Hand.put {G d T hv1 G1 F g} (S:Hand H O hv G w d T hv1 G1 (g.un F)) (hd:Disj g F) {k:Nat} {rows:List (List D)} {v:Value} (hr:ORep H (.own k rows) v g) {c:Nat} {i:Id} (hi:newId (ov O T) d c=some i):
  ∃hv2 G2,Hand H O hv G w d ((i,.live ⟨k,rows,[]⟩)::T) hv2 G2 F∧hv2 i=v∧Carry ⟨H,ov O T,hv1,G1⟩ ⟨H,ov O ((i,.live ⟨k,rows,[]⟩)::T),hv2,G2⟩:=by
 obtain⟨hn,hid⟩:=newId_none hi
 have hGi:G1 i=emp:=S.m.gone i (fun ob h=>by rw[hn] at h; cases h)
 have eO:ov O ((i,.live ⟨k,rows,[]⟩)::T)=fun j=>if i=j then .live ⟨k,rows,[]⟩ else ov O T j:=ov_cons _ _ _ _
 have hgd:∀j,Disj g (G1 j):=fun j=>(un_disj.1 (S.d j)).1
 have hFd:∀j,Disj F (G1 j):=fun j=>(un_disj.1 (S.d j)).2
 have hcar:Carry ⟨H,ov O T,hv1,G1⟩ ⟨H,fun j=>if i=j then .live ⟨k,rows,[]⟩ else ov O T j,fun j=>if i=j then v else hv1 j,fun j=>if i=j then g else G1 j⟩:=by
  refine⟨rfl,fun j h=>?_,fun j q ob' h hl=>?_⟩
  ·try dsimp only at h⊢
   by_cases e:i=j
   ·rw[if_pos e]; simp
   ·rw[if_neg e]; exact h
  ·try dsimp only at h hl⊢
   by_cases e:i=j
   ·subst e; exact(h hn).elim
   ·rw[if_neg e] at hl
    refine⟨ob',hl,fun k' rows' v' n=>⟨rows',?_,rfl⟩⟩
    rw[if_neg e,if_neg e]; exact n
 refine⟨fun j=>if i=j then v else hv1 j,fun j=>if i=j then g else G1 j,?_,by simp,by rw[eO]; exact hcar⟩
 constructor
 ·rw[eO]
  constructor
  ·intro j ob h
   try dsimp only at h⊢
   by_cases e:i=j
   ·rw[if_pos e] at h; cases h
    rw[if_pos e,if_pos e]; exact hr
   ·rw[if_neg e] at h; rw[if_neg e,if_neg e]; exact S.m.objs j ob h
  ·intro j h
   try dsimp only at h⊢
   by_cases e:i=j
   ·exact(h _ (by rw[if_pos e])).elim
   ·rw[if_neg e]; exact S.m.gone j (fun ob hob=>h ob (by rw[if_neg e]; exact hob))
  ·intro j l hjl
   try dsimp only
   by_cases e:i=j
   ·rw[if_pos e,if_neg (by rw[e]; exact hjl)]; exact hgd l
   ·by_cases e':i=l
    ·rw[if_neg e,if_pos e']; exact(hgd j).comm
    ·rw[if_neg e,if_neg e']; exact S.m.apart j l hjl
  ·intro j
   try dsimp only
   by_cases e:i=j
   ·rw[if_pos e]; exact fun b o h=>S.w b o (sub_un_left _ _ _ _ h)
   ·rw[if_neg e]; exact S.m.mem j
  ·exact S.m.prot
  ·intro j l
   try dsimp only
   by_cases e:i=j
   ·rw[if_pos e]; exact(un_disj.1 (S.h l)).1
   ·rw[if_neg e]; exact S.m.sep j l
 ·rw[eO]; exact S.c.trans hcar
 ·intro j hj
  have hij:i≠j:=by
   rintro rfl
   rcases hid with e | e<;>rw[e] at hj<;>exact hj rfl
  obtain⟨t1,t2,t3⟩:=S.t j hj
  rw[eO]
  try dsimp only
  rw[if_neg hij,if_neg hij]
  exact⟨t1,t2,t3⟩
 ·intro j
  try dsimp only
  by_cases e:i=j
  ·rw[if_pos e]; exact hd.comm
  ·rw[if_neg e]; exact hFd j
 ·intro l; exact(un_disj.1 (S.h l)).2
 ·exact fun b o h=>S.w b o (sub_un_right hd _ _ h)
theorem Hand.less {G d T hv1 G1 F F'} (S:Hand H O hv G w d T hv1 G1 F) (h:Sub F' F):Hand H O hv G w d T hv1 G1 F':=
 ⟨S.m,S.c,S.t,fun i=>Disj.sub (S.d i) h (sub_refl _),fun l=>Disj.sub (S.h l) h (sub_refl _),fun b o x=>S.w b o (h b o x)⟩
theorem importC_rel {G d T hv1 G1 F g} (S:Hand H O hv G w d T hv1 G1 (g.un F)) (hd:Disj g F) {x:D} {v:Value} (hr:ORep H x v g) {c:Nat} {cv:CV} {T':List (Id × OS)} {is:List Id} (e:importC O d c T x=some (cv,T',is)):
  ∃hv2 G2,Hand H O hv G w d T' hv2 G2 F∧CVRel ⟨H,ov O T',hv2,G2⟩ cv v∧Carry ⟨H,ov O T,hv1,G1⟩ ⟨H,ov O T',hv2,G2⟩:=by
 cases x with
 |val y=>
  simp only[importC,Option.some.injEq,Prod.mk.injEq] at e
  obtain⟨rfl,rfl,rfl⟩:=e
  simp only[ORep] at hr
  exact⟨hv1,G1,S.less (sub_un_right hd),⟨hr.1,hr.2.1⟩,Carry.refl _⟩
 |bor l rows=>
  simp only[importC,Option.some.injEq,Prod.mk.injEq] at e
  obtain⟨rfl,rfl,rfl⟩:=e
  simp only[ORep] at hr
  exact⟨hv1,G1,S.less (sub_un_right hd),hr.1,Carry.refl _⟩
 |hole _=>simp[importC] at e
 |own k rows=>
  simp only[importC] at e
  split at e
  ·rename_i i hi
   simp only[Option.some.injEq,Prod.mk.injEq] at e
   obtain⟨rfl,rfl,rfl⟩:=e
   obtain⟨hv2,G2,S2,h2,C2⟩:=S.put hd hr hi
   refine⟨hv2,G2,S2,?_,C2⟩
   have:=ref_rel (Y:=⟨H,ov O ((i,.live ⟨k,rows,[]⟩)::T),hv2,G2⟩) (by rw[ov_cons]; simp) hr h2
   simpa only[SVRel] using this
  ·cases e
theorem importCs_rel {G d}:∀ {ds:List D} {vs:List Value} {c:Nat} {cs:List CV} {T T':List (Id × OS)} {is:List Id} {hv1 G1 F g},Hand H O hv G w d T hv1 G1 (g.un F)→Disj g F→ORepL H ds vs g→importCs O d c T ds=some (cs,T',is)→
  ∃hv2 G2,Hand H O hv G w d T' hv2 G2 F∧CVRels ⟨H,ov O T',hv2,G2⟩ cs vs∧Carry ⟨H,ov O T,hv1,G1⟩ ⟨H,ov O T',hv2,G2⟩
 |[],vs,c,cs,T,T',is,hv1,G1,F,g,S,hd,hr,e=>by
  simp only[importCs,Option.some.injEq,Prod.mk.injEq] at e
  obtain⟨rfl,rfl,rfl⟩:=e
  simp only[ORepL] at hr
  exact⟨hv1,G1,S.less (sub_un_right hd),by simp only[CVRels]; exact hr.1,Carry.refl _⟩
 |x::ds,vs,c,cs,T,T',is,hv1,G1,F,g,S,hd,hr,e=>by
  simp only[ORepL] at hr
  obtain⟨v,vs,g1,g2,rfl,rfl,d12,h1,h2⟩:=hr
  obtain⟨hd1,hd2⟩:=un_disj.1 hd
  simp only[importCs] at e
  split at e
  ·rename_i cv T1 is1 e1
   split at e
   ·rename_i cs1 T2 is2 e2
    simp only[Option.some.injEq,Prod.mk.injEq] at e
    obtain⟨rfl,rfl,rfl⟩:=e
    rw[un_assoc] at S
    obtain⟨hv2,G2,S2,r2,C2⟩:=importC_rel S (disj_un.2 ⟨d12,hd1⟩) h1 e1
    obtain⟨hv3,G3,S3,r3,C3⟩:=importCs_rel S2 hd2 h2 e2
    refine⟨hv3,G3,S3,?_,C2.trans C3⟩
    simp only[CVRels]
    exact⟨v,vs,rfl,r2.carry C3,r3⟩
   ·cases e
  ·cases e
theorem d_asgn {G:Id→Frag} {ρ:Operand→Value} {type:TypeId} {pos:String} {af:Array Edge} {gd} {d:Nat} {x:Operand} {cs cs':List CV} {ds:List D} {T T':List (Id × OS)} {is:List Id} (M:ObjsOK H O hv G w) (hx:SVRel ⟨H,O,hv,G⟩ (.agg cs) (ρ x))
  (h1:takeCs O [] cs=some (ds,T)) (h2:importCs O d 0 T ds=some (cs',T',is)):Does P ρ ⟨some d,.assign x,type,pos,af,gd⟩ H O hv G w (.agg cs') T':=by
 have hrun:(execOp ρ ⟨some d,.assign x,type,pos,af,gd⟩).run P w=.ok (.value (ρ x)) w:=by simp only[execOp,run_pure]
 simp only[SVRel] at hx
 obtain⟨vs,ev,hr⟩:=hx
 obtain⟨G',g,ho,_,S⟩:=(Held.start M).takeCs hr h1
 rw[emp_un] at S
 have hS:Hand H O hv G w d T hv G' (g.un emp):=by
  rw[un_emp]
  exact⟨S.m,S.c,fun j _=>⟨rfl,S.dead j,S.none_ j⟩,S.d,S.h,S.w⟩
 obtain⟨hv2,G2,S2,r2,_⟩:=importCs_rel hS (disj_emp _) ho h2
 exact⟨_,ρ x,w,hv2,G2,hrun,.inl rfl,⟨S2.m,S2.c,by simp only[SVRel]; exact⟨vs,ev,r2⟩,Below.refl _ _,S2.t⟩⟩
theorem d_asgn1 {G:Id→Frag} {ρ:Operand→Value} {type:TypeId} {pos:String} {af:Array Edge} {gd} {d:Nat} {x:Operand} {c c':CV} {ds:List D} {T T':List (Id × OS)} {is:List Id} (M:ObjsOK H O hv G w) (hx:SVRel ⟨H,O,hv,G⟩ (.one c) (ρ x))
  (h1:takeCs O [] [c]=some (ds,T)) (h2:importCs O d 0 T ds=some ([c'],T',is)):Does P ρ ⟨some d,.assign x,type,pos,af,gd⟩ H O hv G w (.one c') T':=by
 have hrun:(execOp ρ ⟨some d,.assign x,type,pos,af,gd⟩).run P w=.ok (.value (ρ x)) w:=by simp only[execOp,run_pure]
 simp only[SVRel] at hx
 have hr:CVRels ⟨H,O,hv,G⟩ [c] [ρ x]:=by simp only[CVRels]; exact⟨_,_,rfl,hx,rfl⟩
 obtain⟨G',g,ho,_,S⟩:=(Held.start M).takeCs hr h1
 rw[emp_un] at S
 have hS:Hand H O hv G w d T hv G' (g.un emp):=by
  rw[un_emp]
  exact⟨S.m,S.c,fun j _=>⟨rfl,S.dead j,S.none_ j⟩,S.d,S.h,S.w⟩
 obtain⟨hv2,G2,S2,r2,_⟩:=importCs_rel hS (disj_emp _) ho h2
 simp only[CVRels] at r2
 obtain⟨v1,l1,e1,r2,rfl⟩:=r2
 injection e1 with e1 _
 subst e1
 exact⟨_,ρ x,w,hv2,G2,hrun,.inl rfl,⟨S2.m,S2.c,by simp only[SVRel]; exact r2,Below.refl _ _,S2.t⟩⟩
end
end Go.Proofs.YtmdocdnidilaiaaGreat.V
