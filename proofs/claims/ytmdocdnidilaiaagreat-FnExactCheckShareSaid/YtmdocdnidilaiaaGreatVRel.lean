/- V: how a state of V stands to a frame and a world. -/
import Derived.Test.YtmdocdnidilaiaaGreatVZip
import Derived.Below
namespace Go.Proofs.YtmdocdnidilaiaaGreat.V
open Go Frag Go.RowKit
structure Ctx where
 H:Nat→Frag
 O:Id→OS
 hv:Id→Value
 G:Id→Frag
def ViewOf (v':Value) (k lo n:Nat) (v:Value):Prop:=
 (∃b o len cap c,v'=.slice (some ⟨b,o,none⟩) len cap∧v=.slice (some ⟨b,o+lo*k,none⟩) n c∧lo+c=cap∧n≤c∧len≤cap)∨(n=0∧∃a,v=.slice a 0 0∧(lo=0→v'=v))
def CVRel (X:Ctx):CV→Value→Prop
 |.val x,v=>v=x∧flat x=true
 |.nl _,v=>∃a,v=.slice a 0 0
 |.bor l rows,v=>BRep (X.H l) (.sl rows) v
 |.ref r,v=>(∃a cap,v=.slice a r.n cap)∧X.O r.id≠.none∧∀ob,(X.O r.id).look r.path=some ob→
   ∃k' rows' v',At (X.G r.id) (.own ob.k ob.rows) (X.hv r.id) r.path (.own k' rows') v'∧r.lo+r.n≤rows'.length∧ViewOf v' k' r.lo r.n v
def CVRels (X:Ctx):List CV→List Value→Prop
 |[],vs=>vs=[]
 |c::cs,vs=>∃v vs',vs=v::vs'∧CVRel X c v∧CVRels X cs vs'
def PtrRel (X:Ctx) (p:Ptr) (v:Value):Prop:=
 (∃a,v=.pointer (some a))∧X.O p.id≠.none∧∀ob,(X.O p.id).look p.path=some ob→
  ∃k' rows' b o len cap,At (X.G p.id) (.own ob.k ob.rows) (X.hv p.id) p.path (.own k' rows') (.slice (some ⟨b,o,none⟩) len cap)∧p.row < rows'.length∧p.off+p.n≤k'∧v=.pointer (some ⟨b,o+p.row*k'+p.off,none⟩)
def BptrRel (X:Ctx) (l:Nat) (cs:List B) (v:Value):Prop:=
 ∃b o arr t fz,v=.pointer (some ⟨b,o,none⟩)∧X.H l b=some (.cells arr t fz)∧o+cs.length≤arr.size∧BRepL (X.H l) cs ((arr.toList.drop o).take cs.length)
mutual
def SVRel (X:Ctx):SV→Value→Prop
 |.dead,_=>True
 |.one c,v=>CVRel X c v
 |.agg cs,v=>∃vs,v=.agg vs.toArray∧CVRels X cs vs
 |.ptr p,v=>PtrRel X p v
 |.bptr l cs,v=>BptrRel X l cs v
 |.tup us,v=>∃vs,v=.tuple vs.toArray∧SVRels X us vs
 |.clo f a b,v=>∃us vs,v=.func (.func f) us.toArray vs.toArray∧SVRels X a us∧SVRels X b vs
def SVRels (X:Ctx):List SV→List Value→Prop
 |[],vs=>vs=[]
 |c::cs,vs=>∃v vs',vs=v::vs'∧SVRel X c v∧SVRels X cs vs'
end
structure Carry (X Y:Ctx):Prop where
 H:Y.H=X.H
 stay:∀id,X.O id≠.none→Y.O id≠.none
 nav:∀id q ob',X.O id≠.none→(Y.O id).look q=some ob'→∃ob,(X.O id).look q=some ob∧
  ∀k' rows' v',At (X.G id) (.own ob.k ob.rows) (X.hv id) q (.own k' rows') v'→∃rows2,At (Y.G id) (.own ob'.k ob'.rows) (Y.hv id) q (.own k' rows2) v'∧rows2.length=rows'.length
theorem CVRel.carry {X Y:Ctx} (C:Carry X Y):∀ {c:CV} {v:Value},CVRel X c v→CVRel Y c v
 |.val _,_,h=>h
 |.nl _,_,h=>h
 |.bor l rows,_,h=>by simp only[CVRel] at h⊢; rw[C.H]; exact h
 |.ref r,v,⟨h1,h2,h3⟩=>by
  refine⟨h1,C.stay _ h2,fun ob' hob=>?_⟩
  obtain⟨ob,ho,hn⟩:=C.nav _ _ _ h2 hob
  obtain⟨k',rows',v',n,hl,hw⟩:=h3 ob ho
  obtain⟨rows2,n2,e⟩:=hn _ _ _ n
  exact⟨k',rows2,v',n2,by rw[e]; exact hl,hw⟩
theorem CVRels.carry {X Y:Ctx} (C:Carry X Y):∀ {c:List CV} {v:List Value},CVRels X c v→CVRels Y c v
 |[],_,h=>h
 |c::cs,v,h=>by
  simp only[CVRels] at h⊢
  obtain⟨v,vs,e,h1,h2⟩:=h
  exact⟨v,vs,e,h1.carry C,CVRels.carry C h2⟩
theorem PtrRel.carry {X Y:Ctx} (C:Carry X Y) {p:Ptr} {v:Value} (h:PtrRel X p v):PtrRel Y p v:=by
 obtain⟨h1,h2,h3⟩:=h
 refine⟨h1,C.stay _ h2,fun ob' hob=>?_⟩
 obtain⟨ob,ho,hn⟩:=C.nav _ _ _ h2 hob
 obtain⟨k',rows',b,o,len,cap,n,hl,hw⟩:=h3 ob ho
 obtain⟨rows2,n2,e⟩:=hn _ _ _ n
 exact⟨k',rows2,b,o,len,cap,n2,by rw[e]; exact hl,hw⟩
mutual
theorem SVRel.carry {X Y:Ctx} (C:Carry X Y):∀ {c:SV} {v:Value},SVRel X c v→SVRel Y c v
 |.dead,_,_=>by simp only[SVRel]
 |.one c,v,h=>by simp only[SVRel] at h⊢; exact h.carry C
 |.agg cs,v,h=>by
  simp only[SVRel] at h⊢
  obtain⟨vs,e,h⟩:=h
  exact⟨vs,e,h.carry C⟩
 |.ptr p,v,h=>by simp only[SVRel] at h⊢; exact h.carry C
 |.bptr l cs,v,h=>by simp only[SVRel,BptrRel] at h⊢; rw[C.H]; exact h
 |.tup us,v,h=>by
  simp only[SVRel] at h⊢
  obtain⟨vs,e,h⟩:=h
  exact⟨vs,e,SVRels.carry C h⟩
 |.clo f a b,v,h=>by
  simp only[SVRel] at h⊢
  obtain⟨us,vs,e,h,h'⟩:=h
  exact⟨us,vs,e,SVRels.carry C h,SVRels.carry C h'⟩
theorem SVRels.carry {X Y:Ctx} (C:Carry X Y):∀ {c:List SV} {v:List Value},SVRels X c v→SVRels Y c v
 |[],_,h=>by simpa only[SVRels] using h
 |c::cs,v,h=>by
  simp only[SVRels] at h⊢
  obtain⟨v,vs,e,h1,h2⟩:=h
  exact⟨v,vs,e,SVRel.carry C h1,SVRels.carry C h2⟩
end
theorem CVRels.length {X:Ctx}:∀ {c:List CV} {v:List Value},CVRels X c v→v.length=c.length
 |[],_,h=>by simp only[CVRels] at h; simp[h]
 |c::cs,v,h=>by
  simp only[CVRels] at h
  obtain⟨v,vs,rfl,_,h2⟩:=h
  simp[CVRels.length h2]
theorem SVRels.at_ {X:Ctx}:∀ {c:List SV} {v:List Value} {i:Nat} {s:SV},SVRels X c v→c[i]?=some s→∃u,v[i]?=some u∧SVRel X s u
 |[],_,_,_,_,e=>by simp at e
 |c::cs,v,i,s,h,e=>by
  simp only[SVRels] at h
  obtain⟨u,us,rfl,h1,h2⟩:=h
  cases i with
  |zero=>simp at e; subst e; exact⟨u,rfl,h1⟩
  |succ i=>simpa using SVRels.at_ h2 (by simpa using e)
structure ObjsOK (H:Nat→Frag) (O:Id→OS) (hv:Id→Value) (G:Id→Frag) (w:World):Prop where
 objs:∀id ob,O id=.live ob→ORep H (.own ob.k ob.rows) (hv id) (G id)
 gone:∀id,(∀ob,O id≠.live ob)→G id=emp
 apart:∀i j,i≠j→Disj (G i) (G j)
 mem:∀id,(G id).inW w
 prot:∀l,(H l).inW w
 sep:∀id l,Disj (G id) (H l)
def MovedAt (X:Ctx) (j:Id) (p:Path) (v:Value):Prop:=
 X.O j≠.none∧∀ob,(X.O j).look p=some ob→∃k rows,At (X.G j) (.own ob.k ob.rows) (X.hv j) p (.own k rows) v
theorem MovedAt.carry {X Y:Ctx} (C:Carry X Y) {j:Id} {p:Path} {v:Value} (h:MovedAt X j p v):MovedAt Y j p v:=by
 refine⟨C.stay _ h.1,fun ob' hob'=>?_⟩
 obtain⟨ob,h1,h2⟩:=C.nav _ _ _ h.1 hob'
 obtain⟨k,rows,h3⟩:=h.2 ob h1
 obtain⟨rows2,h4,_⟩:=h2 _ _ _ h3
 exact⟨k,rows2,h4⟩
structure Rel (H:Nat→Frag) (w0:World) (K:Nat→Nat→Option Value) (σ:St) (a:Act) (w:World) (hv:Id→Value) (G:Id→Frag):Prop where
 slots:∀i,SVRel ⟨H,σ.obj,hv,G⟩ (σ.slot i) (a.tmps.getD i undef)
 m:ObjsOK H σ.obj hv G w
 defers:a.defers=[]
 below:Below 0 w0 w
 pin:∀s c v,K s c=some v→hv (s,c,0)=v∧(∀j p,σ.obj (s,c,0)=.moved j p→MovedAt ⟨H,σ.obj,hv,G⟩ j p v)∧σ.obj (s,c,1)=.none
theorem getA_putA {α β:Type} [DecidableEq α] (d:β):∀(l:List (α × β)) (x:α) (v:β) (y:α),getA d (putA l x v) y=if x=y then v else getA d l y
 |[],x,v,y=>by simp[putA,getA]
 |(k,u)::l,x,v,y=>by
  simp only[putA]
  by_cases h:k=x
  ·subst h
   by_cases h':k=y<;>simp[getA,h']
  ·simp only[if_neg h,getA]
   by_cases h':k=y
   ·subst h'; simp[Ne.symm h]
   ·simp only[if_neg h']; exact getA_putA d l x v y
theorem slot_upd (σ:St) (d:Option Nat) (v:SV) (os:List (Id × OS)) (i:Nat):(σ.upd d v os).slot i=if d=some i then v else σ.slot i:=by
 cases d with
 |none=>simp[St.upd,St.slot]
 |some d=>simp[St.upd,St.slot,getA_putA]
theorem obj_upd (σ:St) (d:Option Nat) (v:SV) (os:List (Id × OS)):(σ.upd d v os).obj=ov σ.obj os:=by
 funext i
 show getA .none (putsN σ.o os) i=_
 induction os with
 |nil=>rfl
 |cons x os ih=>
  obtain⟨j,x⟩:=x
  simp only[putsN,getA_putA,ov,getA]
  split
  ·rfl
  ·exact ih
theorem tmps_put (a:Act) (d:Option Nat) (v:Value) (i:Nat):(a.put d v).tmps.getD i undef=if d=some i∧i < a.tmps.size then v else a.tmps.getD i undef:=by
 cases d with
 |none=>simp[Act.put]
 |some d=>
  simp only[Act.put]
  by_cases h:d=i
  ·subst h
   by_cases h':d < a.tmps.size
   ·simp[h']
   ·simp[h']
  ·simp only[Option.some.injEq,h,false_and,if_false]
   simp[Array.getElem?_setIfInBounds_ne h]
theorem look_live {s:OS} {n:Path} {ob:VObj} (h:s.look n=some ob):s=.live ob:=by
 unfold OS.look at h
 split at h
 ·split at h
  ·cases h
  ·injection h with h; rw[h]
 ·cases h
theorem inW.keep {g:Frag} {w w':World} (h:g.inW w) (k:∀(b:Nat) (o:Obj),w.heap[b]?=some o→g b=some o→w'.heap[b]?=some o):g.inW w':=fun b o e=>k b o (h b o e) e
theorem ObjsOK.grow {H O hv G w} (R:ObjsOK H O hv G w) {w':World} (hw:∀(b:Nat) (o:Obj),w.heap[b]?=some o→w'.heap[b]?=some o):ObjsOK H O hv G w' where
 objs:=R.objs
 gone:=R.gone
 apart:=R.apart
 mem id b o h:=hw _ _ (R.mem id b o h)
 prot l b o h:=hw _ _ (R.prot l b o h)
 sep:=R.sep
theorem Below.keep {w w':World} (hw:Below w.heap.size w w') (b:Nat) (o:Obj) (h:w.heap[b]?=some o):w'.heap[b]?=some o:=by
 rw[hw.block b (Array.getElem?_eq_some_iff.1 h).1]; exact h
theorem Rel.grow {H w0 K σ a w hv G} (R:Rel H w0 K σ a w hv G) {w':World} (hw:Below w.heap.size w w'):Rel H w0 K σ a w' hv G where
 slots:=R.slots
 m:=R.m.grow (Below.keep hw)
 defers:=R.defers
 below:=R.below.trans (hw.mono (Nat.zero_le _))
 pin:=R.pin
theorem Rel.after {H w0 K σ a w hv G} (R:Rel H w0 K σ a w hv G) {d:Option Nat} {sv:SV} {v:Value} {T:List (Id × OS)} {w':World} {hv':Id→Value} {G':Id→Frag}
  (M:ObjsOK H (ov σ.obj T) hv' G' w') (C:Carry ⟨H,σ.obj,hv,G⟩ ⟨H,ov σ.obj T,hv',G'⟩) (h:SVRel ⟨H,ov σ.obj T,hv',G'⟩ sv v) (hd:∀i,d=some i→i < a.tmps.size) (hb:Below 0 w w')
  (hp:∀s c u,K s c=some u→ov σ.obj T (s,c,1)=σ.obj (s,c,1)∧hv' (s,c,0)=hv (s,c,0)∧∀j p,ov σ.obj T (s,c,0)=.moved j p→σ.obj (s,c,0)=.moved j p∨MovedAt ⟨H,ov σ.obj T,hv',G'⟩ j p (hv (s,c,0))):
  Rel H w0 K (σ.upd d sv T) (a.put d v) w' hv' G' where
 slots i:=by
  rw[obj_upd,slot_upd,tmps_put]
  by_cases e:d=some i
  ·rw[if_pos e,if_pos ⟨e,hd i e⟩]; exact h
  ·rw[if_neg e,if_neg (fun x=>e x.1)]; exact(R.slots i).carry C
 m:=by rw[obj_upd]; exact M
 defers:=by cases d<;>exact R.defers
 below:=R.below.trans hb
 pin s c u hk:=by
  rw[obj_upd]
  obtain⟨h1,h2,h3⟩:=hp s c u hk
  obtain⟨p1,p2,p3⟩:=R.pin s c u hk
  refine⟨by rw[h2]; exact p1,fun j p hm=>?_,by rw[h1]; exact p3⟩
  rcases h3 j p hm with h | h
  ·exact(p2 j p h).carry C
  ·rw[← p1]; exact h
theorem Carry.refl (X:Ctx):Carry X X:=⟨rfl,fun _ h=>h,fun _ _ ob' _ h=>⟨ob',h,fun _ rows' _ n=>⟨rows',n,rfl⟩⟩⟩
theorem Carry.trans {X Y Z:Ctx} (h:Carry X Y) (k:Carry Y Z):Carry X Z:=by
 refine⟨k.H.trans h.H,fun id e=>k.stay id (h.stay id e),fun id q ob' e hl=>?_⟩
 obtain⟨ob1,h1,n1⟩:=k.nav id q ob' (h.stay id e) hl
 obtain⟨ob2,h2,n2⟩:=h.nav id q ob1 e h1
 refine⟨ob2,h2,fun k' rows' v' n=>?_⟩
 obtain⟨r2,m2,l2⟩:=n2 k' rows' v' n
 obtain⟨r1,m1,l1⟩:=n1 k' r2 v' m2
 exact⟨r1,m1,by rw[l1,l2]⟩
theorem Rel.value {H w0 K σ a w hv G} (R:Rel H w0 K σ a w hv G) {d:Option Nat} {sv:SV} {v:Value} (h:SVRel ⟨H,σ.obj,hv,G⟩ sv v) (hd:∀i,d=some i→i < a.tmps.size):
  Rel H w0 K (σ.upd d sv []) (a.put d v) w hv G:=
 R.after (T:=[]) R.m (Carry.refl _) h hd (Below.refl _ _) (fun _ _ _ _=>⟨rfl,rfl,fun _ _ h=>.inl h⟩)
end Go.Proofs.YtmdocdnidilaiaaGreat.V
