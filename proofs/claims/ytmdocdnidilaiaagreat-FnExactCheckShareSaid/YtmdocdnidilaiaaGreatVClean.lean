/- V: behind a region the temporaries go. -/
import Derived.Test.YtmdocdnidilaiaaGreatVTake
namespace Go.Proofs.YtmdocdnidilaiaaGreat.V
open Go Frag
theorem cleanS_at {S:Nat→SV} {O:Id→OS} {keep:List Nat} {i:Nat}:∀ {l:List (Nat × SV)},getA SV.dead (cleanS S O keep l) i=.dead∨(keep.contains i=true∧∃v,cleanV O keep (S i)=some v∧getA SV.dead (cleanS S O keep l) i=v)
 |[]=>.inl rfl
 |(j,x)::l=>by
  simp only[cleanS]
  split
  ·rename_i hk
   split
   ·rename_i v hv
    simp only[getA]
    by_cases e:j=i
    ·subst e; rw[if_pos rfl]; exact .inr ⟨hk,v,hv,rfl⟩
    ·rw[if_neg e]; exact cleanS_at
   ·exact cleanS_at
  ·exact cleanS_at
theorem cleanId_some {O:Id→OS} {keep:List Nat} {i j:Id} (h:cleanId O keep i=some j):keep.contains i.1=true∧(∃ob,O i=.live ob)∧j=(i.1,i.2.1,0)∧(i.2.2=0→∀ob,O (i.1,i.2.1,1)≠.live ob)∧(i.2.2=0∨i.2.2=1):=by
 unfold cleanId at h
 split at h
 ·rename_i hk
  split at h
  ·rename_i ob ho
   split at h
   ·rename_i h0
    split at h
    ·cases h
    ·rename_i hn
     injection h with h
     exact⟨hk,⟨ob,ho⟩,h.symm,fun _ ob' e=>hn ob' e,.inl h0⟩
   ·rename_i h0
    split at h
    ·rename_i h1
     injection h with h
     exact⟨hk,⟨ob,ho⟩,h.symm,fun e=>absurd e h0,.inr h1⟩
    ·cases h
  ·cases h
 ·cases h
theorem cleanO_at {O:Id→OS} {keep:List Nat} {j:Id}:∀ {l:List (Id × OS)},getA OS.none (cleanO O keep l) j=.none∨(∃i ob,O i=.live ob∧cleanId O keep i=some j∧getA OS.none (cleanO O keep l) j=.live {ob with dirty:=[]})∨
  ∃t t' p,O j=.moved t p∧cleanId O keep t=some t'∧staleO O t p=false∧getA OS.none (cleanO O keep l) j=.moved t' p
 |[]=>.inl rfl
 |(i,x)::l=>by
  simp only[cleanO]
  split
  ·rename_i ob j' ho hc
   simp only[getA]
   by_cases e:j'=j
   ·subst e; rw[if_pos rfl]; exact .inr (.inl ⟨i,ob,ho,hc,rfl⟩)
   ·rw[if_neg e]; exact cleanO_at
  ·rename_i t p ho
   split
   ·rename_i t' ht
    split
    ·rename_i hc
     simp only[Bool.and_eq_true,Bool.not_eq_true'] at hc
     have hc2:=hc.1.2
     simp only[getA]
     by_cases e:i=j
     ·subst e; rw[if_pos rfl]; exact .inr (.inr ⟨t,t',p,ho,ht,hc2,rfl⟩)
     ·rw[if_neg e]; exact cleanO_at
    ·exact cleanO_at
   ·exact cleanO_at
  ·exact cleanO_at
theorem cleanId_uniq {O:Id→OS} {keep:List Nat} {i i' j:Id} (h:cleanId O keep i=some j) (h':cleanId O keep i'=some j):i=i':=by
 obtain⟨_,⟨ob,ho⟩,e1,n1,m⟩:=cleanId_some h
 obtain⟨_,⟨ob',ho'⟩,e2,n2,m'⟩:=cleanId_some h'
 obtain⟨a,b,c⟩:=i
 obtain⟨a',b',c'⟩:=i'
 rw[e1] at e2
 simp only[Prod.mk.injEq,and_true] at e2
 obtain⟨rfl,rfl⟩:=e2
 simp only at m m'
 rcases m with rfl | rfl<;>rcases m' with rfl | rfl
 ·rfl
 ·exact absurd ho' (n1 rfl _)
 ·exact absurd ho (n2 rfl _)
 ·rfl
noncomputable def cameFrom (O:Id→OS) (j:Id):Id:=
 match O (j.1,j.2.1,1) with
 |.live _=>(j.1,j.2.1,1)
 |_=>j
theorem cameFrom_of {O:Id→OS} {keep:List Nat} {i j:Id} (h:cleanId O keep i=some j):cameFrom O j=i:=by
 obtain⟨_,⟨ob,ho⟩,e,n,m⟩:=cleanId_some h
 obtain⟨a,b,c⟩:=i
 subst e
 unfold cameFrom
 simp only at m n ho⊢
 rcases m with rfl | rfl
 ·split
  ·rename_i ob' h1
   exact absurd h1 (n rfl ob')
  ·rfl
 ·rw[ho]
section
variable {H:Nat→Frag} {O O':Id→OS} {hv:Id→Value} {G:Id→Frag} {keep:List Nat}
theorem cleanC_rel {hv':Id→Value} {G':Id→Frag} (hO:∀i j ob,O i=.live ob→cleanId O keep i=some j→O' j=.live {ob with dirty:=[]}∧hv' j=hv i∧G' j=G i) {c c':CV} {v:Value}
  (h:CVRel ⟨H,O,hv,G⟩ c v) (e:cleanC O keep c=some c'):CVRel ⟨H,O',hv',G'⟩ c' v:=by
 cases c with
 |val x=>simp only[cleanC,Option.some.injEq] at e; subst e; exact h
 |nl k=>simp only[cleanC,Option.some.injEq] at e; subst e; exact h
 |bor l rows=>simp only[cleanC,Option.some.injEq] at e; subst e; exact h
 |ref r=>
  simp only[cleanC,cleanRef,Option.map_eq_some_iff] at e
  obtain⟨r',e,rfl⟩:=e
  split at e
  ·rename_i j hj
   split at e
   ·cases e
   ·rename_i hs
    injection e with e; subst e
    obtain⟨_,⟨ob,ho⟩,_⟩:=cleanId_some hj
    obtain⟨q1,q2,q3⟩:=hO _ _ _ ho hj
    obtain⟨h1,h2,h3⟩:=h
    have hst:staleAt ob.dirty r.path=false:=by
     simp only[staleO,ho] at hs; simpa using hs
    obtain⟨k',rows',v',n,hle,hw⟩:=h3 ob (by show (O r.id).look r.path=_; rw[ho]; exact look_of hst)
    refine⟨h1,by show O' j≠_; rw[q1]; simp,fun ob' hob'=>?_⟩
    have hob2:(O' j).look r.path=some ob':=hob'
    rw[q1] at hob2
    obtain⟨rfl,_⟩:=look_some hob2
    exact⟨k',rows',v',by show At (G' j) _ (hv' j) _ _ _; rw[q2,q3]; exact n,hle,hw⟩
  ·cases e
theorem cleanCs_rel {hv':Id→Value} {G':Id→Frag} (hO:∀i j ob,O i=.live ob→cleanId O keep i=some j→O' j=.live {ob with dirty:=[]}∧hv' j=hv i∧G' j=G i):∀ {c c':List CV} {v:List Value},
  CVRels ⟨H,O,hv,G⟩ c v→cleanCs O keep c=some c'→CVRels ⟨H,O',hv',G'⟩ c' v
 |[],c',v,h,e=>by simp only[cleanCs,Option.some.injEq] at e; subst e; exact h
 |c::cs,c',v,h,e=>by
  simp only[cleanCs] at e
  split at e
  ·simp only[Option.some.injEq] at e; subst e
   simp only[CVRels] at h⊢
   obtain⟨u,us,rfl,h1,h2⟩:=h
   exact⟨u,us,rfl,cleanC_rel hO h1 (by assumption),cleanCs_rel hO h2 (by assumption)⟩
  ·cases e
mutual
theorem cleanV_rel {hv':Id→Value} {G':Id→Frag} (hO:∀i j ob,O i=.live ob→cleanId O keep i=some j→O' j=.live {ob with dirty:=[]}∧hv' j=hv i∧G' j=G i):∀ {c c':SV} {v:Value},
  SVRel ⟨H,O,hv,G⟩ c v→cleanV O keep c=some c'→SVRel ⟨H,O',hv',G'⟩ c' v
 |.dead,c',v,h,e=>by simp[cleanV] at e
 |.tup _,c',v,h,e=>by simp[cleanV] at e
 |.one c,c',v,h,e=>by
  simp only[cleanV,Option.map_eq_some_iff] at e
  obtain⟨c1,e1,rfl⟩:=e
  simp only[SVRel] at h⊢
  exact cleanC_rel hO h e1
 |.agg cs,c',v,h,e=>by
  simp only[cleanV,Option.map_eq_some_iff] at e
  obtain⟨c1,e1,rfl⟩:=e
  simp only[SVRel] at h⊢
  obtain⟨vs,ev,h⟩:=h
  exact⟨vs,ev,cleanCs_rel hO h e1⟩
 |.bptr l cs,c',v,h,e=>by
  simp only[cleanV,Option.some.injEq] at e; subst e
  simpa only[SVRel,BptrRel] using h
 |.ptr p,c',v,h,e=>by
  simp only[cleanV] at e
  split at e
  ·rename_i j hj
   split at e
   ·cases e
   ·rename_i hs
    injection e with e; subst e
    obtain⟨_,⟨ob,ho⟩,_⟩:=cleanId_some hj
    obtain⟨q1,q2,q3⟩:=hO _ _ _ ho hj
    simp only[SVRel,PtrRel] at h⊢
    obtain⟨h1,h2,h3⟩:=h
    have hst:staleAt ob.dirty p.path=false:=by
     simp only[staleO,ho] at hs; simpa using hs
    obtain⟨k',rows',b,o,len,cap,n,r1,r2,r3⟩:=h3 ob (by rw[ho]; exact look_of hst)
    refine⟨h1,by rw[q1]; simp,fun ob' hob'=>?_⟩
    rw[q1] at hob'
    obtain⟨rfl,_⟩:=look_some hob'
    exact⟨k',rows',b,o,len,cap,by rw[q2,q3]; exact n,r1,r2,r3⟩
  ·cases e
 |.clo f a b,c',v,h,e=>by
  simp only[cleanV] at e
  split at e
  ·simp only[Option.some.injEq] at e; subst e
   simp only[SVRel] at h⊢
   obtain⟨us,vs,ev,h1,h2⟩:=h
   exact⟨us,vs,ev,cleanVs_rel hO h1 (by assumption),cleanVs_rel hO h2 (by assumption)⟩
  ·cases e
theorem cleanVs_rel {hv':Id→Value} {G':Id→Frag} (hO:∀i j ob,O i=.live ob→cleanId O keep i=some j→O' j=.live {ob with dirty:=[]}∧hv' j=hv i∧G' j=G i):∀ {c c':List SV} {v:List Value},
  SVRels ⟨H,O,hv,G⟩ c v→cleanVs O keep c=some c'→SVRels ⟨H,O',hv',G'⟩ c' v
 |[],c',v,h,e=>by
  simp only[cleanVs,Option.some.injEq] at e; subst e
  simpa only[SVRels] using h
 |c::cs,c',v,h,e=>by
  simp only[cleanVs] at e
  split at e
  ·simp only[Option.some.injEq] at e; subst e
   simp only[SVRels] at h⊢
   obtain⟨u,us,rfl,h1,h2⟩:=h
   exact⟨u,us,rfl,cleanV_rel hO h1 (by assumption),cleanVs_rel hO h2 (by assumption)⟩
  ·cases e
end
end
theorem cleanO_has {O:Id→OS} {keep:List Nat} {i j:Id} {ob:VObj} (ho:O i=.live ob) (hc:cleanId O keep i=some j):∀ {l:List (Id × OS)},getA OS.none l i≠.none→getA OS.none (cleanO O keep l) j=.live {ob with dirty:=[]}
 |[],h=>by simp[getA] at h
 |(i0,x)::l,h=>by
  simp only[cleanO]
  by_cases e:i0=i
  ·subst e
   rw[ho,hc]
   simp[getA]
  ·simp only[getA,if_neg e] at h
   split
   ·rename_i ob' j' ho' hc'
    simp only[getA]
    by_cases e':j'=j
    ·subst e'; exact absurd (cleanId_uniq hc' hc) e
    ·rw[if_neg e']; exact cleanO_has ho hc h
   ·rename_i t p ho'
    split
    ·split
     ·rename_i hq
      simp only[Bool.and_eq_true,beq_iff_eq,Bool.not_eq_true'] at hq
      simp only[getA]
      by_cases e':i0=j
      ·exfalso
       obtain⟨_,_,ej,_,m⟩:=cleanId_some hc
       obtain⟨a,b,c⟩:=i
       simp only at m ej
       subst e' ej
       rcases m with rfl | rfl
       ·exact e rfl
       ·have:=hq.2
        simp only[liveAt,ho] at this
        cases this
      ·rw[if_neg e']; exact cleanO_has ho hc h
     ·exact cleanO_has ho hc h
    ·exact cleanO_has ho hc h
   ·exact cleanO_has ho hc h
theorem cleanS_dead {keep:List Nat} (σ:St) (i:Nat):(clean keep σ).slot i=.dead∨∃v,cleanV σ.obj keep (σ.slot i)=some v∧(clean keep σ).slot i=v:=by
 rcases cleanS_at (S:=σ.slot) (O:=σ.obj) (keep:=keep) (i:=i) (l:=σ.s) with h |⟨_,v,h1,h2⟩
 ·exact .inl h
 ·exact .inr ⟨v,h1,h2⟩
open Classical in
theorem Rel.clean {H w0 K σ a w hv G} (R:Rel H w0 K σ a w hv G) (keep:List Nat):∃hv' G',Rel H w0 K (V.clean keep σ) a w hv' G':=by
 have hat:∀j,(V.clean keep σ).obj j=.none∨(∃i ob,σ.obj i=.live ob∧cleanId σ.obj keep i=some j∧(V.clean keep σ).obj j=.live {ob with dirty:=[]})∨
   ∃t t' p,σ.obj j=.moved t p∧cleanId σ.obj keep t=some t'∧staleO σ.obj t p=false∧(V.clean keep σ).obj j=.moved t' p:=
  fun j=>cleanO_at (O:=σ.obj) (keep:=keep) (j:=j) (l:=σ.o)
 have hO:∀i j ob,σ.obj i=.live ob→cleanId σ.obj keep i=some j→(V.clean keep σ).obj j=.live {ob with dirty:=[]}:=fun i j ob h1 h2=>
  cleanO_has h1 h2 (by show σ.obj i≠_; rw[h1]; simp)
 let live:Id→Prop:=fun j=>∃ob,(V.clean keep σ).obj j=.live ob
 let G':Id→Frag:=fun j=>if live j then G (cameFrom σ.obj j) else emp
 have hG:∀j,G' j=emp∨∃i ob,σ.obj i=.live ob∧cleanId σ.obj keep i=some j∧(V.clean keep σ).obj j=.live {ob with dirty:=[]}∧G' j=G i:=fun j=>by
  rcases hat j with h |⟨i,ob,h1,h2,h3⟩ |⟨t,t',p,h1,h2,h3,h4⟩
  ·exact .inl (by simp only[G',live,h]; simp)
  ·refine .inr ⟨i,ob,h1,h2,h3,?_⟩
   have:live j:=⟨_,h3⟩
   simp only[G',if_pos this]
   rw[cameFrom_of h2]
  ·exact .inl (by simp only[G',live,h4]; simp)
 have hG2:∀i j ob,σ.obj i=.live ob→cleanId σ.obj keep i=some j→G' j=G i:=fun i j ob h1 h2=>by
  have:live j:=⟨_,hO i j ob h1 h2⟩
  simp only[G',if_pos this]
  rw[cameFrom_of h2]
 refine⟨fun j=>hv (cameFrom σ.obj j),G',⟨fun i=>?_,⟨?_,?_,?_,?_,R.m.prot,?_⟩,R.defers,R.below,?_⟩⟩
 ·rcases cleanS_dead (keep:=keep) σ i with h |⟨v,h1,h2⟩
  ·rw[h]; simp only[SVRel]
  ·rw[h2]
   exact cleanV_rel (fun i j ob x y=>⟨hO i j ob x y,by show hv (cameFrom σ.obj j)=hv i; rw[cameFrom_of y],hG2 i j ob x y⟩) (R.slots i) h1
 ·intro j ob' h
  rcases hat j with h' |⟨i,ob,h1,h2,h3⟩ |⟨t,t',p,h1,h2,h3,h4⟩
  ·rw[h'] at h; cases h
  ·rw[h3] at h; cases h
   rw[hG2 i j ob h1 h2]
   show ORep H _ (hv (cameFrom σ.obj j)) _
   rw[cameFrom_of h2]
   exact R.m.objs i ob h1
  ·rw[h4] at h; cases h
 ·intro j h
  rcases hG j with h' |⟨i,ob,h1,h2,h3,h4⟩
  ·exact h'
  ·exact absurd h3 (h _)
 ·intro i j hij
  rcases hG i with h' |⟨i1,ob,h1,h2,h3,h4⟩
  ·rw[h']; exact fun b=>.inl rfl
  rcases hG j with h' |⟨j1,ob',k1,k2,k3,k4⟩
  ·rw[h']; exact fun b=>.inr rfl
  rw[h4,k4]
  refine R.m.apart _ _ (fun e=>hij ?_)
  subst e
  rw[h2] at k2; injection k2
 ·intro j
  rcases hG j with h' |⟨i,ob,h1,h2,h3,h4⟩
  ·rw[h']; intro b o e; cases e
  ·rw[h4]; exact R.m.mem i
 ·intro j l
  rcases hG j with h' |⟨i,ob,h1,h2,h3,h4⟩
  ·rw[h']; exact fun b=>.inl rfl
  ·rw[h4]; exact R.m.sep i l
 ·intro s c v hk
  obtain⟨p1,p2,p3⟩:=R.pin s c v hk
  have hcf:cameFrom σ.obj (s,c,0)=(s,c,0):=by
   unfold cameFrom
   simp only[p3]
  refine⟨by show hv (cameFrom σ.obj (s,c,0))=v; rw[hcf]; exact p1,fun j p hm=>?_,?_⟩
  ·rcases hat (s,c,0) with h' |⟨i,ob,h1,h2,h3⟩ |⟨t,t',p',h1,h2,h3,h4⟩
   ·rw[h'] at hm; cases hm
   ·rw[h3] at hm; cases hm
   ·rw[h4] at hm; cases hm
    obtain⟨_,⟨ob,ho⟩,_⟩:=cleanId_some h2
    obtain⟨m1,m2⟩:=p2 t p h1
    have hst:staleAt ob.dirty p=false:=by simpa[staleO,ho] using h3
    obtain⟨k,rows,hat'⟩:=m2 ob (by show (σ.obj t).look p=_; rw[ho]; exact look_of hst)
    have q1:=hO t j ob ho h2
    refine⟨by show (V.clean keep σ).obj j≠_; rw[q1]; simp,fun ob' hob'=>?_⟩
    have hob2:((V.clean keep σ).obj j).look p=some ob':=hob'
    rw[q1] at hob2
    obtain⟨rfl,_⟩:=look_some hob2
    refine⟨k,rows,?_⟩
    show At (G' j) _ (hv (cameFrom σ.obj j)) _ _ _
    rw[cameFrom_of h2,hG2 t j ob ho h2]
    exact hat'
  ·rcases hat (s,c,1) with h' |⟨i,ob,h1,h2,h3⟩ |⟨t,t',p',h1,h2,h3,h4⟩
   ·exact h'
   ·obtain⟨_,_,e,_⟩:=cleanId_some h2
    simp at e
   ·rw[p3] at h1; cases h1
end Go.Proofs.YtmdocdnidilaiaaGreat.V
