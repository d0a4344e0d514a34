/- V: what was given comes back. -/
import Derived.Test.YtmdocdnidilaiaaGreatVPrep
import Derived.Test.YtmdocdnidilaiaaGreatVHand
namespace Go.Proofs.YtmdocdnidilaiaaGreat.V
open Go Frag
structure CarryOff (W:Id→Prop) (X Y:Ctx):Prop where
 H:Y.H=X.H
 stay:∀id,X.O id≠.none→Y.O id≠.none
 nav:∀id,¬W id→∀q ob',X.O id≠.none→(Y.O id).look q=some ob'→∃ob,(X.O id).look q=some ob∧
  ∀k' rows' v',At (X.G id) (.own ob.k ob.rows) (X.hv id) q (.own k' rows') v'→∃rows2,At (Y.G id) (.own ob'.k ob'.rows) (Y.hv id) q (.own k' rows2) v'∧rows2.length=rows'.length
theorem Carry.off {X Y:Ctx} (C:Carry X Y) (W:Id→Prop):CarryOff W X Y:=⟨C.H,C.stay,fun id _=>C.nav id⟩
theorem CarryOff.trans {W:Id→Prop} {X Y Z:Ctx} (h:CarryOff W X Y) (k:CarryOff W Y Z):CarryOff W X Z:=by
 refine⟨k.H.trans h.H,fun id e=>k.stay id (h.stay id e),fun id hw q ob' e hl=>?_⟩
 obtain⟨ob1,h1,n1⟩:=k.nav id hw q ob' (h.stay id e) hl
 obtain⟨ob2,h2,n2⟩:=h.nav id hw q ob1 e h1
 refine⟨ob2,h2,fun k' rows' v' n=>?_⟩
 obtain⟨r2,m2,l2⟩:=n2 k' rows' v' n
 obtain⟨r1,m1,l1⟩:=n1 k' r2 v' m2
 exact⟨r1,m1,by rw[l1,l2]⟩
section
variable {H:Nat→Frag} {O:Id→OS} {hv:Id→Value} {w:World}
def Owed (O:Id→OS) (hv:Id→Value) (T:List (Id × OS)) (Gt:Id→Frag) (hc:Id→Value) (x:GItem):Prop:=
 (x.q=[]→ov O T x.i=.dead∧hc x.c=hv x.i∧∃o,O x.i=.live o∧o.k=x.ob.k∧(OS.live o).look []=some o)∧
 (x.q≠ []→∃cur,ov O T x.i=.live cur∧∃nh,At (Gt x.i) (.own cur.k cur.rows) (hv x.i) x.q (.hole nh) (hc x.c))
def OutsRel (H:Nat→Frag) (hc:Id→Value) (Gb:Id→Frag):List GItem→List (List (List D))→Prop
 |[],outs=>outs=[]
 |x::l,outs=>∃rows m,outs=rows::m∧ORep H (.own x.ob.k rows) (hc x.c) (Gb x.c)∧OutsRel H hc Gb l m
structure Backs (H:Nat→Frag) (O:Id→OS) (hv:Id→Value) (W:Id→Prop) (X:Ctx) (w:World) (T:List (Id × OS)) (Gt:Id→Frag) (hc:Id→Value) (Gb:Id→Frag) (F:Frag) (items:List GItem):Prop where
 m:ObjsOK H (ov O T) hv Gt w
 c:CarryOff W X ⟨H,ov O T,hv,Gt⟩
 none_:∀i,O i=.none→ov O T i=.none
 dead:∀i ob,ov O T i=.live ob→∃ob',O i=.live ob'
 owed:∀x∈items,Owed O hv T Gt hc x
 ap:∀x∈items,∀i,Disj (Gb x.c) (Gt i)
 f:∀i,Disj F (Gt i)
 whole:∀i,W i→(∃x∈items,x.i=i∧x.q=[])∨(∃o ob,O i=.live o∧(OS.live o).look []=some o∧ov O T i=.live ob∧ob.k=o.k∧ob.dirty=([],true)::o.dirty)∨ov O T i=.dead
 orig:∀x∈items,∃o0,(X.O x.i).look x.q=some o0∧∀k' rows' v',At (X.G x.i) (.own o0.k o0.rows) (X.hv x.i) x.q (.own k' rows') v'→k'=x.ob.k∧v'=hc x.c∧∃a cap,v'=.slice a rows'.length cap
 offW:∀x∈items,x.q≠ []→¬W x.i
 xhv:X.hv=hv
theorem undirt_stale {p q:Path}:∀ {l:List (Path × Bool)},staleAt (undirt p l) q=false→staleAt l q=false∨q=p
 |[],_=>.inl rfl
 |(r,b)::l,h=>by
  simp only[undirt,List.map_cons] at h
  by_cases hc:r=p∧b=false
  ·rw[if_pos hc] at h
   obtain⟨rfl,rfl⟩:=hc
   simp only[staleAt,Bool.or_eq_false_iff,Bool.and_eq_false_iff,Bool.true_and,Bool.not_eq_false',decide_eq_true_eq] at h
   rcases undirt_stale h.2 with h2 | h2
   ·rcases h.1 with h3 | h3
    ·left
     simp only[staleAt,h3,h2,Bool.false_and,Bool.or_false]
    ·by_cases hpre:r.isPrefixOf q=true
     ·right
      have:=List.isPrefixOf_iff_prefix.1 hpre
      exact(this.eq_of_length h3).symm
     ·left
      simp only[Bool.not_eq_true] at hpre
      simp only[staleAt,hpre,h2,Bool.false_and,Bool.or_false]
   ·exact .inr h2
  ·rw[if_neg hc] at h
   simp only[staleAt,Bool.or_eq_false_iff] at h⊢
   rcases undirt_stale h.2 with h2 | h2
   ·exact .inl ⟨h.1,h2⟩
   ·exact .inr h2
theorem Backs.step {W X T Gt hc Gb F x items rows T'} (S:Backs H O hv W X w T Gt hc Gb F (x::items)) (hW:∀y∈x::items,y.q=[]→W y.i) (hu:∀y∈items,x.c≠y.c) (hsrc:∀y∈items,¬(x.i=y.i∧x.q=y.q))
  (hr:ORep H (.own x.ob.k rows) (hc x.c) (Gb x.c)) (hw:∀c,(Gb c).inW w) (hh:∀c l,Disj (Gb c) (H l)) (hb:∀c c',c≠c'→Disj (Gb c) (Gb c')) (hbF:∀c,Disj (Gb c) F) (e:refill O T x.i x.q x.ob.k rows=some T'):
  ∃Gt',Backs H O hv W X w T' Gt' hc Gb F items:=by
 obtain⟨s1,s2⟩:=S.owed x (List.mem_cons_self ..)
 unfold refill at e
 by_cases hq:x.q=[]
 ·rw[hq] at e
  simp only[List.isEmpty_nil,if_true] at e
  obtain⟨hdead,hhv,o,ho,hok,hol⟩:=s1 hq
  rw[ho] at e
  simp only[Option.some.injEq] at e
  subst e
  have eO:ov O ((x.i,.live ⟨x.ob.k,rows,([],true)::o.dirty⟩)::T)=fun j=>if x.i=j then .live ⟨x.ob.k,rows,([],true)::o.dirty⟩ else ov O T j:=ov_cons _ _ _ _
  have hGx:∀j,j≠x.i→Disj (Gb x.c) (Gt j):=fun j _=>S.ap x (List.mem_cons_self ..) j
  have howed:∀y∈items,y.i≠x.i:=by
   intro y hy e
   obtain⟨t1,t2⟩:=S.owed y (List.mem_cons_of_mem _ hy)
   by_cases hyq:y.q=[]
   ·exact hsrc y hy ⟨e.symm,by rw[hq,hyq]⟩
   ·obtain⟨cur,h1,_⟩:=t2 hyq
    rw[e,hdead] at h1; cases h1
  refine⟨fun j=>if x.i=j then Gb x.c else Gt j,?_⟩
  constructor
  ·rw[eO]
   constructor
   ·intro j ob h
    try dsimp only at h⊢
    by_cases ej:x.i=j
    ·subst ej
     rw[if_pos rfl] at h; cases h
     rw[if_pos rfl,← hhv]; exact hr
    ·rw[if_neg ej] at h; rw[if_neg ej]; exact S.m.objs j ob h
   ·intro j h
    try dsimp only at h⊢
    by_cases ej:x.i=j
    ·exact(h _ (by rw[if_pos ej])).elim
    ·rw[if_neg ej]; exact S.m.gone j (fun ob hob=>h ob (by rw[if_neg ej]; exact hob))
   ·intro j l hjl
    try dsimp only
    by_cases ej:x.i=j
    ·rw[if_pos ej,if_neg (by rw[ej]; exact hjl)]; exact S.ap x (List.mem_cons_self ..) l
    ·by_cases el:x.i=l
     ·rw[if_neg ej,if_pos el]; exact(S.ap x (List.mem_cons_self ..) j).comm
     ·rw[if_neg ej,if_neg el]; exact S.m.apart j l hjl
   ·intro j
    try dsimp only
    by_cases ej:x.i=j
    ·rw[if_pos ej]; exact hw _
    ·rw[if_neg ej]; exact S.m.mem j
   ·exact S.m.prot
   ·intro j l
    try dsimp only
    by_cases ej:x.i=j
    ·rw[if_pos ej]; exact hh _ l
    ·rw[if_neg ej]; exact S.m.sep j l
  ·refine S.c.trans ⟨rfl,fun j h=>?_,fun j hwj q ob' h hl=>?_⟩
   ·rw[eO]; try dsimp only at h⊢
    by_cases ej:x.i=j
    ·rw[if_pos ej]; simp
    ·rw[if_neg ej]; exact h
   ·have ej:x.i≠j:=fun ej=>hwj (by rw[← ej]; exact hW x (List.mem_cons_self ..) hq)
    rw[eO] at hl; try dsimp only at h hl⊢
    rw[if_neg ej] at hl
    refine⟨ob',hl,fun k' rows' v' n=>⟨rows',?_,rfl⟩⟩
    rw[if_neg ej]; exact n
  ·intro j h
   rw[eO]; try dsimp only
   by_cases ej:x.i=j
   ·subst ej; rw[ho] at h; cases h
   ·rw[if_neg ej]; exact S.none_ j h
  ·intro j ob h
   rw[eO] at h; try dsimp only at h
   by_cases ej:x.i=j
   ·subst ej; exact⟨o,ho⟩
   ·rw[if_neg ej] at h; exact S.dead j ob h
  ·intro y hy
   obtain⟨t1,t2⟩:=S.owed y (List.mem_cons_of_mem _ hy)
   have hne:=howed y hy
   unfold Owed
   rw[eO]
   try dsimp only
   rw[if_neg (Ne.symm hne),if_neg (Ne.symm hne)]
   exact⟨t1,t2⟩
  ·intro y hy j
   try dsimp only
   by_cases ej:x.i=j
   ·rw[if_pos ej]; exact hb _ _ (Ne.symm (hu y hy))
   ·rw[if_neg ej]; exact S.ap y (List.mem_cons_of_mem _ hy) j
  ·intro j
   try dsimp only
   by_cases ej:x.i=j
   ·rw[if_pos ej]; exact(hbF _).comm
   ·rw[if_neg ej]; exact S.f j
  ·intro j hj
   rw[eO]
   try dsimp only
   rcases S.whole j hj with⟨y,hy,e1,e2⟩ |⟨o',ob,h1,h2,h3,h4,h5⟩ | hdj
   ·rcases List.mem_cons.1 hy with rfl | hy
    ·right; left
     subst e1
     exact⟨o,⟨y.ob.k,rows,([],true)::o.dirty⟩,ho,hol,by rw[if_pos rfl],hok.symm,rfl⟩
    ·exact .inl ⟨y,hy,e1,e2⟩
   ·right; left
    have ej:x.i≠j:=by
     intro ej; subst ej; rw[hdead] at h3; cases h3
    exact⟨o',ob,h1,h2,by rw[if_neg ej]; exact h3,h4,h5⟩
   ·by_cases ej:x.i=j
    ·right; left
     subst ej
     exact⟨o,⟨x.ob.k,rows,([],true)::o.dirty⟩,ho,hol,by rw[if_pos rfl],hok.symm,rfl⟩
    ·right; right; rw[if_neg ej]; exact hdj
  ·exact fun y hy=>S.orig y (List.mem_cons_of_mem _ hy)
  ·exact fun y hy=>S.offW y (List.mem_cons_of_mem _ hy)
  ·exact S.xhv
 ·have hqe:x.q.isEmpty=false:=by cases hx:x.q with | nil=>exact absurd hx hq | cons _ _=>rfl
  rw[hqe] at e
  simp only[Bool.false_eq_true,if_false] at e
  obtain⟨cur,hcur,_,hat⟩:=s2 hq
  rw[hcur] at e
  simp only[Option.some.injEq] at e
  subst e
  obtain⟨Gt',hm,hoth,hdj,hcar,htr,hnew⟩:=fill_one S.m hcur hq hat hr (S.ap x (List.mem_cons_self ..)) (fun l=>hh _ l) (hw _)
  have eO:ov O ((x.i,.live {cur with rows:=setCell cur.rows x.q (.own x.ob.k rows),dirty:=undirt x.q cur.dirty})::T)=fun j=>if x.i=j then .live {cur with rows:=setCell cur.rows x.q (.own x.ob.k rows),dirty:=undirt x.q cur.dirty} else ov O T j:=ov_cons _ _ _ _
  refine⟨Gt',?_⟩
  have hbase:=S.c.trans (hcar.off W)
  have hne:∀j,W j→x.i≠j:=fun j hj e=>S.offW x (List.mem_cons_self ..) hq (by rw[e]; exact hj)
  constructor
  ·rw[eO]
   refine⟨fun j ob h=>?_,fun j h=>?_,hm.apart,hm.mem,hm.prot,hm.sep⟩
   ·try dsimp only at h
    by_cases ej:x.i=j
    ·rw[if_pos ej] at h; cases h
     exact hm.objs j {cur with rows:=setCell cur.rows x.q (.own x.ob.k rows)} (by (try dsimp only); rw[if_pos ej])
    ·rw[if_neg ej] at h
     exact hm.objs j ob (by (try dsimp only); rw[if_neg ej]; exact h)
   ·by_cases ej:x.i=j
    ·exact absurd (if_pos ej) (h _)
    ·refine hm.gone j (fun ob hob=>h ob ?_)
     try dsimp only at hob⊢
     rw[if_neg ej] at hob⊢; exact hob
  ·rw[eO]
   refine⟨hbase.H,fun j h=>?_,fun j hw q ob' h hl=>?_⟩
   ·have:=hbase.stay j h
    try dsimp only at this⊢
    by_cases ej:x.i=j
    ·rw[if_pos ej]; simp
    ·rw[if_neg ej] at this⊢; exact this
   ·try dsimp only at hl
    by_cases ej:x.i=j
    ·rw[if_pos ej] at hl
     obtain⟨rfl,hst⟩:=look_some hl
     subst ej
     rcases undirt_stale hst with hst' | rfl
     ·obtain ⟨ob, g1, g2⟩ := hbase.nav x.i hw q { cur with rows := setCell cur.rows x.q (.own x.ob.k rows) } h (by
       try dsimp only
       rw[if_pos rfl]
       exact look_of hst')
      exact⟨ob,g1,g2⟩
     ·obtain⟨o0,g1,g2⟩:=S.orig x (List.mem_cons_self ..)
      refine⟨o0,g1,fun k' rows' v' hat'=>?_⟩
      obtain⟨rfl,rfl,a',cap',e1⟩:=g2 k' rows' v' hat'
      obtain⟨⟨a2,cap2,e2⟩,_⟩:=hr.self
      rw[e2] at e1
      simp only[Value.slice.injEq] at e1
      exact⟨rows,hnew,e1.2.1⟩
    ·rw[if_neg ej] at hl
     exact hbase.nav j hw q ob' h (by (try dsimp only); rw[if_neg ej]; exact hl)
  ·intro j h
   rw[eO]; try dsimp only
   by_cases ej:x.i=j
   ·subst ej; have:=S.none_ _ h; rw[hcur] at this; cases this
   ·rw[if_neg ej]; exact S.none_ j h
  ·intro j ob h
   rw[eO] at h; try dsimp only at h
   by_cases ej:x.i=j
   ·subst ej; exact S.dead _ _ hcur
   ·rw[if_neg ej] at h; exact S.dead j ob h
  ·intro y hy
   obtain⟨t1,t2⟩:=S.owed y (List.mem_cons_of_mem _ hy)
   unfold Owed
   rw[eO]
   try dsimp only
   by_cases ej:x.i=y.i
   ·refine⟨fun hyq=>?_,fun hyq=>?_⟩
    ·have:=(t1 hyq).1
     rw[← ej,hcur] at this; cases this
    ·obtain⟨cur',h1,_,h2⟩:=t2 hyq
     rw[← ej] at h1 h2
     rw[hcur] at h1; cases h1
     rw[if_pos ej,← ej]
     obtain⟨d',h3,hsh⟩:=htr y.q _ _ h2 (fun e=>hsrc y hy ⟨ej,e.symm⟩)
     rcases hsh with rfl |⟨_,_,_,e9,_,_⟩
     ·exact⟨_,rfl,_,h3⟩
     ·cases e9
   ·rw[if_neg ej,hoth y.i (Ne.symm ej)]
    exact⟨t1,t2⟩
  ·intro y hy j
   by_cases ej:x.i=j
   ·subst ej; exact hdj _ (S.ap y (List.mem_cons_of_mem _ hy) _) (hb _ _ (Ne.symm (hu y hy)))
   ·rw[hoth j (Ne.symm ej)]; exact S.ap y (List.mem_cons_of_mem _ hy) j
  ·intro j
   by_cases ej:x.i=j
   ·subst ej; exact hdj _ (S.f _) (hbF _).comm
   ·rw[hoth j (Ne.symm ej)]; exact S.f j
  ·intro j hj
   rw[eO]
   try dsimp only
   rcases S.whole j hj with⟨y,hy,e1,e2⟩ |⟨o',ob,h1,h2,h3,h4,h5⟩ | hdj
   ·rcases List.mem_cons.1 hy with rfl | hy
    ·exact absurd e2 hq
    ·exact .inl ⟨y,hy,e1,e2⟩
   ·right; left
    exact⟨o',ob,h1,h2,by rw[if_neg (hne j hj)]; exact h3,h4,h5⟩
   ·right; right; rw[if_neg (hne j hj)]; exact hdj
  ·exact fun y hy=>S.orig y (List.mem_cons_of_mem _ hy)
  ·exact fun y hy=>S.offW y (List.mem_cons_of_mem _ hy)
  ·exact S.xhv
theorem refills_rel {W X Gb F} {hc:Id→Value} (hw:∀c,(Gb c).inW w) (hh:∀c l,Disj (Gb c) (H l)) (hb:∀c c',c≠c'→Disj (Gb c) (Gb c')) (hbF:∀c,Disj (Gb c) F):∀ {items:List GItem} {outs:List (List (List D))} {T T':List (Id × OS)} {Gt:Id→Frag},
  Backs H O hv W X w T Gt hc Gb F items→(∀y∈items,y.q=[]→W y.i)→(items.Pairwise fun x y=>x.c≠y.c)→(items.Pairwise fun x y=>¬(x.i=y.i∧x.q=y.q))→OutsRel H hc Gb items outs→refills O T items outs=some T'→
  ∃Gt',Backs H O hv W X w T' Gt' hc Gb F []
 |[],outs,T,T',Gt,S,_,_,_,h,e=>by
  simp only[OutsRel] at h
  subst h
  simp only[refills,Option.some.injEq] at e
  subst e
  exact⟨Gt,S⟩
 |x::items,outs,T,T',Gt,S,hW,hu,hsrc,h,e=>by
  simp only[OutsRel] at h
  obtain⟨rows,m,rfl,h1,h2⟩:=h
  simp only[refills] at e
  split at e
  ·obtain⟨hu1,hu2⟩:=List.pairwise_cons.1 hu
   obtain⟨hs1,hs2⟩:=List.pairwise_cons.1 hsrc
   obtain⟨Gt1,S1⟩:=S.step hW hu1 hs1 h1 hw hh hb hbF (by assumption)
   exact refills_rel hw hh hb hbF S1 (fun y hy=>hW y (List.mem_cons_of_mem _ hy)) hu2 hs2 h2 e
  ·cases e
theorem Backs.carry {W G Gb F T Gt} {hc:Id→Value} {w0:World} (M:ObjsOK H O hv G w0) (S:Backs H O hv W ⟨H,O,hv,G⟩ w T Gt hc Gb F []):Carry ⟨H,O,hv,G⟩ ⟨H,ov O T,hv,Gt⟩:=by
 refine⟨rfl,S.c.stay,fun i q ob' h hl=>?_⟩
 by_cases hw:W i
 ·rcases S.whole i hw with⟨y,hy,_⟩ |⟨o,ob,h1,h2,h3,h4,h5⟩ | hdead
  ·cases hy
  rotate_left
  ·have hl':(ov O T i).look q=some ob':=hl
   rw[hdead] at hl'; cases hl'
  ·have hl':(ov O T i).look q=some ob':=hl
   rw[h3] at hl'
   obtain⟨rfl,hst⟩:=look_some hl'
   rw[h5] at hst
   have hq:q=[]:=by
    simp only[staleAt,Bool.or_eq_false_iff,Bool.and_eq_false_iff] at hst
    rcases hst.1 with h | h
    ·simp at h
    ·simp at h
     exact List.eq_nil_of_length_eq_zero h.symm
   subst hq
   refine⟨o,by show (O i).look []=_; rw[h1]; exact h2,fun k' rows' v' n=>?_⟩
   obtain⟨e1,rfl⟩:=n.nil_eq
   simp only[D.own.injEq] at e1
   obtain⟨rfl,rfl⟩:=e1
   refine⟨ob'.rows,by rw[← h4]; exact .nil,?_⟩
   obtain⟨⟨a1,c1,e1⟩,_⟩:=(M.objs i o h1).self
   obtain⟨⟨a2,c2,e2⟩,_⟩:=(S.m.objs i ob' h3).self
   rw[e1] at e2
   simp only[Value.slice.injEq] at e2
   exact e2.2.1.symm
 ·exact S.c.nav i hw q ob' h hl
def RetRel (H:Nat→Frag):Ret→Value→Frag→Prop
 |.one d,v,g=>ORep H d v g
 |.agg ds,v,g=>∃vs,v=.agg vs.toArray∧ORepL H ds vs g
 |.ptr ds,v,g=>∃b o len cap,v=.pointer (some ⟨b,o,none⟩)∧ORep H (.own ds.length [ds]) (.slice (some ⟨b,o,none⟩) len cap) g
def RetsRel (H:Nat→Frag):List Ret→List Value→Frag→Prop
 |[],vs,g=>vs=[]∧g=emp
 |r::l,vs,g=>∃v vs' g1 g2,vs=v::vs'∧g=g1.un g2∧Disj g1 g2∧RetRel H r v g1∧RetsRel H l vs' g2
theorem importR_rel {G d T hv1 G1 F g} (S:Hand H O hv G w d T hv1 G1 (g.un F)) (hd:Disj g F) {x:Ret} {v:Value} (hr:RetRel H x v g) {c:Nat} {sv:SV} {T':List (Id × OS)} {is:List Id} (e:importR O d c T x=some (sv,T',is)):
  ∃hv2 G2,Hand H O hv G w d T' hv2 G2 F∧SVRel ⟨H,ov O T',hv2,G2⟩ sv v∧Carry ⟨H,ov O T,hv1,G1⟩ ⟨H,ov O T',hv2,G2⟩:=by
 cases x with
 |one y=>
  simp only[importR] at e
  split at e
  ·simp only[Option.some.injEq,Prod.mk.injEq] at e
   obtain⟨rfl,rfl,rfl⟩:=e
   obtain⟨hv2,G2,S2,r2,C2⟩:=importC_rel S hd hr (by assumption)
   exact⟨hv2,G2,S2,by simp only[SVRel]; exact r2,C2⟩
  ·cases e
 |agg ds=>
  simp only[importR] at e
  split at e
  ·simp only[Option.some.injEq,Prod.mk.injEq] at e
   obtain⟨rfl,rfl,rfl⟩:=e
   obtain⟨vs,rfl,hr⟩:=hr
   obtain⟨hv2,G2,S2,r2,C2⟩:=importCs_rel S hd hr (by assumption)
   exact⟨hv2,G2,S2,by simp only[SVRel]; exact⟨vs,rfl,r2⟩,C2⟩
  ·cases e
 |ptr ds=>
  simp only[importR] at e
  split at e
  ·rename_i i hi
   simp only[Option.some.injEq,Prod.mk.injEq] at e
   obtain⟨rfl,rfl,rfl⟩:=e
   obtain⟨b,o,len,cap,rfl,hr⟩:=hr
   obtain⟨hv2,G2,S2,h2,C2⟩:=S.put hd hr hi
   refine⟨hv2,G2,S2,?_,C2⟩
   simp only[SVRel,PtrRel]
   have hO:ov O ((i,.live ⟨ds.length,[ds],[]⟩)::T) i=.live ⟨ds.length,[ds],[]⟩:=by rw[ov_cons]; simp
   refine⟨⟨_,rfl⟩,by rw[hO]; simp,fun ob hob=>?_⟩
   rw[hO] at hob
   obtain⟨rfl,_⟩:=look_some hob
   exact⟨ds.length,[ds],b,o,len,cap,by rw[h2]; exact .nil,by simp,by simp,by simp⟩
  ·cases e
theorem importRs_rel {G d}:∀ {rs:List Ret} {vs:List Value} {c:Nat} {svs:List SV} {T T':List (Id × OS)} {is:List Id} {hv1 G1 F g},Hand H O hv G w d T hv1 G1 (g.un F)→Disj g F→RetsRel H rs vs g→importRs O d c T rs=some (svs,T',is)→
  ∃hv2 G2,Hand H O hv G w d T' hv2 G2 F∧SVRels ⟨H,ov O T',hv2,G2⟩ svs vs∧Carry ⟨H,ov O T,hv1,G1⟩ ⟨H,ov O T',hv2,G2⟩
 |[],vs,c,svs,T,T',is,hv1,G1,F,g,S,hd,hr,e=>by
  simp only[importRs,Option.some.injEq,Prod.mk.injEq] at e
  obtain⟨rfl,rfl,rfl⟩:=e
  simp only[RetsRel] at hr
  exact⟨hv1,G1,S.less (sub_un_right hd),by simp only[SVRels]; exact hr.1,Carry.refl _⟩
 |x::rs,vs,c,svs,T,T',is,hv1,G1,F,g,S,hd,hr,e=>by
  simp only[RetsRel] at hr
  obtain⟨v,vs,g1,g2,rfl,rfl,d12,h1,h2⟩:=hr
  obtain⟨hd1,hd2⟩:=un_disj.1 hd
  simp only[importRs] at e
  split at e
  ·rename_i sv T1 is1 e1
   split at e
   ·rename_i svs1 T2 is2 e2
    simp only[Option.some.injEq,Prod.mk.injEq] at e
    obtain⟨rfl,rfl,rfl⟩:=e
    rw[un_assoc] at S
    obtain⟨hv2,G2,S2,r2,C2⟩:=importR_rel S (disj_un.2 ⟨d12,hd1⟩) h1 e1
    obtain⟨hv3,G3,S3,r3,C3⟩:=importRs_rel S2 hd2 h2 e2
    refine⟨hv3,G3,S3,?_,C2.trans C3⟩
    simp only[SVRels]
    exact⟨v,vs,rfl,r2.carry C3,r3⟩
   ·cases e
  ·cases e
end
end Go.Proofs.YtmdocdnidilaiaaGreat.V
