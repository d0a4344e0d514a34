/- V: the operations that make or change objects, run. -/
import Derived.Test.YtmdocdnidilaiaaGreatVOpsD
import Derived.Test.YtmdocdnidilaiaaGreatVTake
namespace Go.Proofs.YtmdocdnidilaiaaGreat.V
open Go Frag Go.RowKit
set_option linter.unusedSimpArgs false
section
variable {P:Program} {w:World}
theorem run_v2 {s:Sem Value} {x:Value} {w':World} (h:s.run P w=.ok x w'):((do Pure.pure (Next.value (← s)):Sem Next)).run P w=.ok (.value x) w':=by
 rw[run_bind,h]; rfl
def more (w:World) (o:Obj):World:={w with heap:=w.heap.push o}
theorem run_newRow {elem:TypeId} {cells:Array Value}:(newRow elem cells).run P w=.ok ⟨w.heap.size,0,none⟩ (more w (.cells cells elem)):=rfl
theorem more_old {o:Obj} (b:Nat) (x:Obj) (h:w.heap[b]?=some x):(more w o).heap[b]?=some x:=by
 have:=(Array.getElem?_eq_some_iff.1 h).1
 show (w.heap.push o)[b]?=_
 rw[Array.getElem?_push,if_neg (by omega)]; exact h
theorem more_new {o:Obj}:(more w o).heap[w.heap.size]?=some o:=by
 show (w.heap.push o)[w.heap.size]?=_
 simp
theorem more_below {o:Obj}:Below 0 w (more w o):=⟨rfl,rfl,rfl,by show w.heap.size≤(w.heap.push o).size; simp,fun k hk=>absurd hk (Nat.not_lt_zero k)⟩
theorem cells_one {v:Value} (h:v.oneCell=true):v.cells=#[v]:=by cases v<;>simp_all [Value.cells,Value.oneCell]
theorem run_store {b o:Nat} {arr:Array Value} {t:TypeId} {fz:Nat × Nat} {v:Value} (hb:w.heap[b]?=some (.cells arr t fz)) (ho:o < arr.size) (hz:free fz arr.size) (hv:v.oneCell=true):
  (Go.store ⟨b,o,none⟩ v).run P w=.ok () (w.setCell ⟨b,o,none⟩ v):=by
 have hc:w.cell? ⟨b,o,none⟩=some arr[o]:=by rw[cell_of hb]; simp[ho]
 have hf:w.frozen? ⟨b,o,none⟩=false:=by
  simp only[World.frozen?,hb]
  have:=hz o ho
  simpa using this
 cases v<;>first
  |(simp[Value.oneCell] at hv; done)
  |simp[Go.store,Sem.run,hc,hf]
theorem setCell_at {b o:Nat} {arr:Array Value} {t:TypeId} {fz:Nat × Nat} {v:Value} (hb:w.heap[b]?=some (.cells arr t fz)):(w.setCell ⟨b,o,none⟩ v).heap[b]?=some (.cells (arr.setIfInBounds o v) t fz):=by
 simp[World.setCell,Array.getElem?_modify,hb]
theorem setCell_other {b o:Nat} {v:Value} {b':Nat} (h:b'≠b):(w.setCell ⟨b,o,none⟩ v).heap[b']?=w.heap[b']?:=by
 simp[World.setCell,Array.getElem?_modify,Ne.symm h]
theorem setCell_below {b o:Nat} {v:Value}:Below 0 w (w.setCell ⟨b,o,none⟩ v):=⟨rfl,rfl,rfl,by simp[World.setCell],fun k hk=>absurd hk (Nat.not_lt_zero k)⟩
theorem setCell_size {b o:Nat} {v:Value}:(w.setCell ⟨b,o,none⟩ v).heap.size=w.heap.size:=by simp[World.setCell]
theorem over_cons {arr:Array Value} {p:Nat} {v:Value} {vs:List Value} (h:p < arr.size):over (arr.setIfInBounds p v) (p+1) vs=over arr p (v::vs):=by
 apply Array.toList_inj.1
 simp only[over,Array.toList_setIfInBounds,List.length_cons]
 have hl:p < arr.toList.length:=by simpa using h
 rw[List.set_eq_take_append_cons_drop,if_pos hl]
 have e1:(arr.toList.take p++v::arr.toList.drop (p+1)).take (p+1)=arr.toList.take p++ [v]:=by
  rw[List.take_append,List.take_of_length_le (by rw[List.length_take]; omega)]
  have hm:p+1 - min p arr.size=1:=by omega
  simp[hm]
 have e2:(arr.toList.take p++v::arr.toList.drop (p+1)).drop (p+1+vs.length)=arr.toList.drop (p+(vs.length+1)):=by
  rw[List.drop_append,List.drop_of_length_le (by rw[List.length_take]; omega)]
  rw[List.length_take,Nat.min_eq_left (Nat.le_of_lt hl)]
  have:p+1+vs.length - p=vs.length+1:=by omega
  rw[this,List.drop_succ_cons,List.drop_drop]
  simp; congr 1; omega
 rw[e1,e2]; simp
theorem over_nil {arr:Array Value} {p:Nat}:over arr p []=arr:=by
 apply Array.toList_inj.1
 simp[over]
theorem run_storeCells {b o:Nat} {t:TypeId} {fz:Nat × Nat}:∀(vs:List Value) (i:Nat) {w:World} {arr:Array Value},w.heap[b]?=some (.cells arr t fz)→o+i+vs.length≤arr.size→free fz arr.size→(∀v∈vs,v.oneCell=true)→
  ∃w',(storeCells ⟨b,o,none⟩ vs i).run P w=.ok () w'∧w'.heap[b]?=some (.cells (over arr (o+i) vs) t fz)∧(∀b',b'≠b→w'.heap[b']?=w.heap[b']?)∧Below 0 w w'∧w'.heap.size=w.heap.size
 |[],i,w,arr,hb,_,_,_=>⟨w,by simp[storeCells,run_pure],by rw[over_nil]; exact hb,fun _ _=>rfl,Below.refl _ _,rfl⟩
 |v::vs,i,w,arr,hb,hl,hz,hv=>by
  simp only[List.length_cons] at hl
  have h1:=run_store (P:=P) (o:=o+i) (v:=v) (arr:=arr) (w:=w) hb (by omega) hz (hv v (List.mem_cons_self ..))
  have hb1:(w.setCell ⟨b,o+i,none⟩ v).heap[b]?=some (.cells (arr.setIfInBounds (o+i) v) t fz):=setCell_at hb
  have hsz:o+(i+1)+vs.length≤(arr.setIfInBounds (o+i) v).size:=by rw[Array.size_setIfInBounds]; omega
  obtain⟨w',r1,r2,r3,r4,r5⟩:=run_storeCells (arr:=arr.setIfInBounds (o+i) v) vs (i+1) hb1 hsz (by simpa using hz) (fun u hu=>hv u (List.mem_cons_of_mem _ hu))
  refine⟨w',?_,?_,fun b' hb'=>(r3 b' hb').trans (setCell_other hb'),setCell_below.trans r4,r5.trans setCell_size⟩
  ·simp only[storeCells,run_bind,addr_add,h1]
   exact r1
  ·rw[r2,← Nat.add_assoc,over_cons (arr:=arr) (p:=o+i) (by omega)]
theorem ORepL.oneCells {H:Nat→Frag}:∀ {ds:List D} {vs:List Value} {g:Frag},ORepL H ds vs g→∀v∈vs,v.oneCell=true
 |[],vs,g,h=>by simp only[ORepL] at h; simp[h.1]
 |d::ds,vs,g,h=>by
  simp only[ORepL] at h
  obtain⟨v,vs',g1,g2,rfl,_,_,h1,h2⟩:=h
  intro u hu
  rcases List.mem_cons.1 hu with rfl | hu
  ·exact h1.oneCell
  ·exact ORepL.oneCells h2 u hu
theorem CVRel.oneCell {X:Ctx} {c:CV} {v:Value} (h:CVRel X c v):v.oneCell=true:=by
 cases c with
 |val x=>obtain⟨rfl,hf⟩:=h; cases v<;>simp_all [flat,Value.oneCell]
 |nl k=>obtain⟨a,rfl⟩:=h; rfl
 |bor l rows=>
  simp only[CVRel,BRep] at h
  rcases h with⟨_,a,cap,rfl⟩ |⟨b,off,cap,k,arr,t,fz,rfl,_⟩<;>rfl
 |ref r=>obtain⟨⟨a,cap,rfl⟩,_⟩:=h; rfl
theorem SVRel.cells {X:Ctx} {sv:SV} {cs:List CV} {v:Value} (h:SVRel X sv v) (e:sv.cells=some cs):∃vs,v.cells=vs.toArray∧CVRels X cs vs:=by
 cases sv with
 |one c=>
  simp only[SV.cells,Option.some.injEq] at e; subst e
  simp only[SVRel] at h
  exact⟨[v],cells_one h.oneCell,by simp only[CVRels]; exact⟨v,[],rfl,h,rfl⟩⟩
 |agg cs'=>
  simp only[SV.cells,Option.some.injEq] at e; subst e
  simp only[SVRel] at h
  obtain⟨vs,rfl,h⟩:=h
  exact⟨vs,rfl,h⟩
 |_=>simp[SV.cells] at e
def mZ:List CV→List Value→Bool
 |[],[]=>true
 |.val v::l,u::m=>vEq v u && mZ l m
 |.nl _::l,.slice none 0 0::m=>mZ l m
 |_,_=>false
theorem mZ_rels {X:Ctx}:∀ {z:List CV} {vs:List Value},mZ z vs=true→CVRels X z vs
 |[],[],_=>by simp[CVRels]
 |[],_::_,h=>by simp[mZ] at h
 |.val v::l,[],h=>by simp[mZ] at h
 |.val v::l,u::m,h=>by
  simp only[mZ,Bool.and_eq_true] at h
  obtain⟨rfl,hf⟩:=vEq_eq h.1
  simp only[CVRels,CVRel]
  exact⟨v,m,rfl,⟨rfl,hf⟩,mZ_rels h.2⟩
 |.nl k::l,vs,h=>by
  unfold mZ at h
  split at h
  ·cases ‹CV.nl k::l=[]›
  ·cases ‹CV.nl k::l=CV.val _::_›
  ·cases ‹CV.nl k::l=CV.nl _::_›
   refine⟨_,_,rfl,⟨none,rfl⟩,mZ_rels h⟩
  ·cases h
 |.bor _ _::l,vs,h=>by cases vs<;>simp[mZ] at h
 |.ref _::l,vs,h=>by cases vs<;>simp[mZ] at h
theorem mZ_orep {H:Nat→Frag}:∀ {z:List CV} {vs:List Value},mZ z vs=true→ORepL H (zeroD z) vs emp
 |[],[],_=>by simp[ORepL,zeroD]
 |[],_::_,h=>by simp[mZ] at h
 |.val v::l,[],h=>by simp[mZ] at h
 |.val v::l,u::m,h=>by
  simp only[mZ,Bool.and_eq_true] at h
  obtain⟨rfl,hf⟩:=vEq_eq h.1
  simp only[zeroD,List.map_cons,ORepL]
  exact⟨v,m,emp,emp,rfl,(emp_un _).symm,emp_disj _,by simp only[ORep]; exact⟨trivial,hf,trivial⟩,mZ_orep h.2⟩
 |.nl k::l,vs,h=>by
  unfold mZ at h
  split at h
  ·cases ‹CV.nl k::l=[]›
  ·cases ‹CV.nl k::l=CV.val _::_›
  ·cases ‹CV.nl k::l=CV.nl _::_›
   refine⟨_,_,emp,emp,rfl,(emp_un _).symm,emp_disj _,by simp only[ORep]; exact .inl ⟨trivial,⟨none,rfl⟩,trivial⟩,mZ_orep h⟩
  ·cases h
 |.bor _ _::l,vs,h=>by cases vs<;>simp[mZ] at h
 |.ref _::l,vs,h=>by cases vs<;>simp[mZ] at h
theorem mZ_length:∀ {z:List CV} {vs:List Value},mZ z vs=true→vs.length=z.length:=fun h=>(mZ_rels (X:=⟨fun _=>emp,fun _=>.none,fun _=>undef,fun _=>emp⟩) h).length
end
def Tame (O:Id→OS) (T:List (Id × OS)) (hv hv':Id→Value) (d:Option Nat):Prop:=
 ∀j:Id,d≠some j.1→hv' j=hv j∧(∀ob,ov O T j=.live ob→∃ob',O j=.live ob')∧(O j=.none→ov O T j=.none)
structure Done (H:Nat→Frag) (O:Id→OS) (hv:Id→Value) (G:Id→Frag) (w:World) (d:Option Nat) (sv:SV) (T:List (Id × OS)) (v:Value) (w':World) (hv':Id→Value) (G':Id→Frag):Prop where
 m:ObjsOK H (ov O T) hv' G' w'
 c:Carry ⟨H,O,hv,G⟩ ⟨H,ov O T,hv',G'⟩
 v:SVRel ⟨H,ov O T,hv',G'⟩ sv v
 b:Below 0 w w'
 t:Tame O T hv hv' d
def Does (P:Program) (ρ:Operand→Value) (o:Oper) (H:Nat→Frag) (O:Id→OS) (hv:Id→Value) (G:Id→Frag) (w:World) (sv:SV) (T:List (Id × OS)):Prop:=
 ∃n v w' hv' G',(execOp ρ o).run P w=.ok n w'∧(n=.value v∨n=.skip∧v=undef)∧Done H O hv G w o.dst sv T v w' hv' G'
theorem Done.rel {H w0 K σ a w hv G} (R:Rel H w0 K σ a w hv G) {d:Option Nat} {sv T v w' hv' G'} (D:Done H σ.obj hv G w d sv T v w' hv' G') (hd:∀i,d=some i→i < a.tmps.size) (hp:∀i,d=some i→∀c,K i c=none) (hmv:∀i j p,ov σ.obj T i=.moved j p→σ.obj i=.moved j p∨MovedAt ⟨H,ov σ.obj T,hv',G'⟩ j p (hv i)):
  Rel H w0 K (σ.upd d sv T) (a.put d v) w' hv' G':=
 R.after D.m D.c D.v hd D.b fun s c u hk=>by
  have hs:d≠some s:=fun e=>by rw[hp s e c] at hk; cases hk
  obtain⟨_,_,h1⟩:=R.pin s c u hk
  exact⟨by rw[(D.t (s,c,1) hs).2.2 h1,h1],(D.t (s,c,0) hs).1,hmv (s,c,0)⟩
section
variable {P:Program} {ρ:Operand→Value} {H:Nat→Frag} {O:Id→OS} {hv:Id→Value} {G:Id→Frag} {w:World}
theorem Yields_.does {o:Oper} {sv:SV} (M:ObjsOK H O hv G w) (h:Yields_ P ρ o w ⟨H,O,hv,G⟩ sv):Does P ρ o H O hv G w sv []:=by
 obtain⟨v,h1,h2⟩:=h
 exact⟨_,v,w,hv,G,h1,.inl rfl,⟨by rw[ov_nil]; exact M,by rw[ov_nil]; exact Carry.refl _,by rw[ov_nil]; exact h2,Below.refl _ _,fun j _=>⟨rfl,fun ob h=>⟨ob,by rwa [ov_nil] at h⟩,fun h=>by rw[ov_nil]; exact h⟩⟩⟩
theorem ORep.self {k:Nat} {rows:List (List D)} {v:Value} {g:Frag} (h:ORep H (.own k rows) v g):(∃a cap,v=.slice a rows.length cap)∧ViewOf v k 0 rows.length v:=by
 simp only[ORep] at h
 rcases h with⟨rfl,⟨a,rfl⟩,_⟩ |⟨b',o',cap',arr',t'',fz',g',rfl,_,_,hc,_⟩
 ·exact⟨⟨a,0,rfl⟩,.inr ⟨rfl,a,rfl,fun _=>rfl⟩⟩
 ·exact⟨⟨_,_,rfl⟩,.inl ⟨b',o',_,cap',cap',rfl,by simp,by omega,hc,hc⟩⟩
theorem ref_rel {Y:Ctx} {i:Id} {k:Nat} {rows:List (List D)} (hO:Y.O i=.live ⟨k,rows,[]⟩) {g:Frag} {v:Value} (hr:ORep H (.own k rows) v g) (hhv:Y.hv i=v):SVRel Y (.one (.ref ⟨i,[],0,rows.length⟩)) v:=by
 obtain⟨h1,h2⟩:=hr.self
 simp only[SVRel,CVRel]
 refine⟨h1,by rw[hO]; simp,fun ob hob=>?_⟩
 rw[hO] at hob
 obtain⟨rfl,_⟩:=look_some hob
 exact⟨k,rows,v,by rw[hhv]; exact .nil,by simp,h2⟩
theorem ptr_rel {Y:Ctx} {i:Id} {n b:Nat} {ds:List D} (hO:Y.O i=.live ⟨n,[ds],[]⟩) (hhv:Y.hv i=.slice (some ⟨b,0,none⟩) 1 1):SVRel Y (.ptr ⟨i,[],0,0,n⟩) (.pointer (some ⟨b,0,none⟩)):=by
 simp only[SVRel,PtrRel]
 refine⟨⟨_,rfl⟩,by rw[hO]; simp,fun ob hob=>?_⟩
 rw[hO] at hob
 obtain⟨rfl,_⟩:=look_some hob
 exact⟨n,[ds],b,0,1,1,by rw[hhv]; exact .nil,by simp,by simp,by simp⟩
theorem Held.does {T G' F} (S:Held H O hv G w T G' F) {o:Oper} {dst:Nat} (hdst:o.dst=some dst) {k:Nat} {rows:List (List D)} {sv:Id→SV} {req:Prop} {rd:List Id} {e:Eff}
  (he:made O T dst ⟨k,rows,[]⟩ sv req rd=some e) {v hdr:Value} {g:Frag} {w':World} (hx:(execOp ρ o).run P w=.ok (.value v) w') (hb:Below 0 w w')
  (hr:ORep H (.own k rows) hdr g) (hg:∀b,g b≠none→F b≠none∨w.heap.size≤b) (hw:g.inW w') (hk:∀(b:Nat) (o:Obj),w.heap[b]?=some o→F b=none→w'.heap[b]?=some o)
  (hsv:∀(Y:Ctx) (i:Id),Y.O i=.live ⟨k,rows,[]⟩→Y.hv i=hdr→SVRel Y (sv i) v):Does P ρ o H O hv G w e.sv e.objs:=by
 unfold made at he
 split at he
 ·rename_i i hi
  injection he with he; subst he
  obtain⟨hv',G'',h1,h2,h3,hm,hc⟩:=S.make hi hr hg hw hk
  obtain⟨_,hid⟩:=newId_none hi
  refine⟨_,v,w',hv',G'',hx,.inl rfl,⟨hm,hc,hsv _ i (by rw[ov_cons]; simp) h1,hb,fun j hj=>?_⟩⟩
  have hji:i≠j:=by
   rintro rfl
   rw[hdst] at hj
   rcases hid with e | e<;>rw[e] at hj<;>exact hj rfl
  refine⟨h2 j (Ne.symm hji),fun ob hob=>?_,fun hn=>?_⟩
  ·rw[ov_cons] at hob
   try dsimp only at hob
   rw[if_neg hji] at hob
   exact S.dead j ob hob
  ·rw[ov_cons]
   try dsimp only
   rw[if_neg hji]; exact S.none_ j hn
 ·cases he
theorem frag_in_more {b:Nat} {ob:Obj} {F:Frag} (hF:F.inW w) (hb:b=w.heap.size):((one b ob).un F).inW (more w ob):=by
 subst hb
 intro x y h
 simp only[un,one] at h
 by_cases e:x=w.heap.size
 ·subst e; simp at h; subst h; exact more_new
 ·simp only[if_neg e] at h; exact more_old _ _ (hF x y (by simpa using h))
theorem frag_new {ob:Obj} {F:Frag} (b:Nat) (h:((one w.heap.size ob).un F) b≠none):F b≠none∨w.heap.size≤b:=by
 by_cases e:b=w.heap.size
 ·exact .inr (by omega)
 ·left; simpa[un,one,e] using h
theorem inW_fresh {F:Frag} (hF:F.inW w):F w.heap.size=none:=by
 cases h:F w.heap.size with
 |none=>rfl
 |some o=>exact absurd (Array.getElem?_eq_some_iff.1 (hF _ _ h)).1 (Nat.lt_irrefl _)
theorem orep_row {k:Nat} {rows:List (List D)} {vs rest:List Value} {t:TypeId} {F:Frag} {cap:Nat} (hF:F.inW w) (hr:ORepR H rows vs F) (hk:∀r∈rows,r.length=k) (hc:rows.length≤cap) (hl:cap*k≤(vs++rest).length) {fz:Nat × Nat} (hz:free fz (vs++rest).length):
  ORep H (.own k rows) (.slice (some ⟨w.heap.size,0,none⟩) rows.length cap) ((one w.heap.size (.cells (vs++rest).toArray t fz)).un F):=by
 simp only[ORep]
 refine .inr ⟨_,0,cap,(vs++rest).toArray,t,fz,F,rfl,rfl,inW_fresh hF,hc,hk,by simpa using hl,by simpa using hz,?_⟩
 have:=hr.length hk
 rw[← this]
 simpa using hr
theorem ORepR.one {ds:List D} {vs:List Value} {g:Frag} (h:ORepL H ds vs g):ORepR H [ds] vs g:=by
 simp only[ORepR]
 exact⟨vs,[],g,emp,by simp,(un_emp _).symm,disj_emp _,h,rfl,rfl⟩
theorem free0 (n:Nat):free (0,0) n:=fun i _ h=>by omega
theorem whole_head {O1:Id→OS} {G1:Id→Frag} (M1:ObjsOK H O1 hv G1 w) {r:Ref} {v:Value} {o:VObj} {k:Nat} {rows:List (List D)} (hx:CVRel ⟨H,O1,hv,G1⟩ (.ref r) v) (hp:r.path=[]) (hl:(O1 r.id).look r.path=some o) (hn:nav o.k o.rows r.path=some (k,rows)) (h0:r.lo=0) (h1:r.n=rows.length):v=hv r.id:=by
 obtain⟨_,_,h3⟩:=hx
 obtain⟨k',rows',v',nv,_,hw⟩:=h3 o hl
 rw[hp] at nv hn
 simp only[nav,Option.some.injEq,Prod.mk.injEq] at hn
 obtain⟨rfl,rfl⟩:=hn
 obtain⟨e1,e2⟩:=nv.nil_eq
 have e2':v'=hv r.id:=e2
 subst e2'
 have hr:=M1.objs _ _ (look_live hl)
 rcases hw with⟨b,off,len,cap,c,q1,q2,q3,q4,q5⟩ |⟨q1,a,q2,q3⟩
 ·rw[q1] at hr
  simp only[ORep] at hr
  have hlen:len=o.rows.length:=by
   rcases hr with⟨e,⟨a,ha⟩,_⟩ |⟨b',o',cap',_,_,_,_,ev,_⟩
   ·simp only[Value.slice.injEq] at ha
    rw[e]; exact ha.2.1
   ·simp only[Value.slice.injEq] at ev
    exact ev.2.1
  show v=hv r.id
  rw[q1,q2,h0,h1,hlen,show c=cap by omega]
  simp
 ·exact(q3 h0).symm
theorem takeCs_heads:∀ {cs:List CV} {vs:List Value} {T G' F ds T'},Held H O hv G w T G' F→CVRels ⟨H,O,hv,G⟩ cs vs→V.takeCs O T cs=some (ds,T')→
  ∀(j:Nat) (r:Ref),cs[j]?=some (.ref r)→r.path=[]→(∃ob,O r.id=.live ob)∧r.id∈idsOf T'∧∃k rows,ds[j]?=some (.own k rows)∧vs[j]?=some (hv r.id)
 |[],vs,T,G',F,ds,T',S,hx,ht,j,r,h,_=>by simp at h
 |c::cs,vs,T,G',F,ds,T',S,hx,ht,j,r,h,hp=>by
  simp only[CVRels] at hx
  obtain⟨v,vs,rfl,h1,h2⟩:=hx
  simp only[V.takeCs] at ht
  split at ht<;>try cases ht
  rename_i d T1 e1
  split at ht<;>try cases ht
  rename_i ds1 T2 e2
  obtain⟨G1,g1,r1,d1,S1⟩:=S.takeC h1 e1
  cases j with
  |succ j=>
   simp only[List.getElem?_cons_succ] at h⊢
   exact takeCs_heads S1 h2 e2 j r h hp
  |zero=>
   simp only[List.getElem?_cons_zero,Option.some.injEq] at h⊢
   subst h
   simp only[V.takeC] at e1
   split at e1<;>try cases e1
   rename_i k rows T3 e3
   have e3':=e3
   unfold V.takeR at e3
   split at e3<;>try cases e3
   rename_i o hl
   split at e3<;>try cases e3
   rename_i hn
   split at e3<;>try cases e3
   rename_i hc
   have hx':CVRel ⟨H,ov O T,hv,G'⟩ (.ref r) v:=CVRel.carry S.c h1
   refine⟨S.dead _ _ (look_live hl),?_,_,_,rfl,?_⟩
   ·exact takeCs_sub' e2 (by simp[idsOf])
   ·rw[whole_head S.m hx' hp hl hn hc.1 hc.2]
theorem moves_get (i:Id) (d:OS):∀(cs:List CV) (n:Nat) (T:List (Id × OS)) (a:Id),(getA d (movesOf i n cs++T) a=getA d T a)∨∃j p,getA OS.none (movesOf i n cs) a=.moved j p∧getA d (movesOf i n cs++T) a=.moved j p
 |[],n,T,a=>.inl rfl
 |.ref r::l,n,T,a=>by
  simp only[movesOf]
  split
  ·simp only[List.cons_append,getA]
   by_cases e:r.id=a
   ·simp only[if_pos e]; exact .inr ⟨_,_,rfl,rfl⟩
   ·simp only[if_neg e]; exact moves_get i d l (n+1) T a
  ·exact moves_get i d l (n+1) T a
 |.val _::l,n,T,a=>moves_get i d l (n+1) T a
 |.nl _::l,n,T,a=>moves_get i d l (n+1) T a
 |.bor _ _::l,n,T,a=>moves_get i d l (n+1) T a
theorem movesOf_at {i:Id}:∀ {cs:List CV} {n:Nat} {a:Id} {j:Id} {p:Path},getA OS.none (movesOf i n cs) a=.moved j p→∃m r,cs[m]?=some (.ref r)∧r.path=[]∧r.id=a∧j=i∧p=[(0,n+m)]
 |[],n,a,j,p,h=>by simp[movesOf,getA] at h
 |.ref r::l,n,a,j,p,h=>by
  simp only[movesOf] at h
  split at h
  ·rename_i hp
   simp only[getA] at h
   split at h
   ·rename_i e
    cases h
    exact⟨0,r,rfl,by simpa using hp,e,rfl,by simp⟩
   ·obtain⟨m,r',h1,h2,h3,h4,h5⟩:=movesOf_at h
    exact⟨m+1,r',by simpa using h1,h2,h3,h4,by rw[h5]; congr 2; omega⟩
  ·obtain⟨m,r',h1,h2,h3,h4,h5⟩:=movesOf_at h
   exact⟨m+1,r',by simpa using h1,h2,h3,h4,by rw[h5]; congr 2; omega⟩
 |.val _::l,n,a,j,p,h=>by
  simp only[movesOf] at h
  obtain⟨m,r',h1,h2,h3,h4,h5⟩:=movesOf_at h
  exact⟨m+1,r',by simpa using h1,h2,h3,h4,by rw[h5]; congr 2; omega⟩
 |.nl _::l,n,a,j,p,h=>by
  simp only[movesOf] at h
  obtain⟨m,r',h1,h2,h3,h4,h5⟩:=movesOf_at h
  exact⟨m+1,r',by simpa using h1,h2,h3,h4,by rw[h5]; congr 2; omega⟩
 |.bor _ _::l,n,a,j,p,h=>by
  simp only[movesOf] at h
  obtain⟨m,r',h1,h2,h3,h4,h5⟩:=movesOf_at h
  exact⟨m+1,r',by simpa using h1,h2,h3,h4,by rw[h5]; congr 2; omega⟩
theorem takeCs_dead {a:Id}:∀ {cs:List CV} {T T':List (Id × OS)} {ds},takeCs O T cs=some (ds,T')→ov O T a=.dead→ov O T' a=.dead
 |[],T,T',ds,h,hd=>by simp only[takeCs,Option.some.injEq,Prod.mk.injEq] at h; rw[← h.2]; exact hd
 |c::cs,T,T',ds,h,hd=>by
  simp only[takeCs] at h
  split at h<;>try cases h
  rename_i h1
  split at h<;>try cases h
  rename_i h2
  refine takeCs_dead h2 ?_
  cases c<;>simp only[takeC,Option.some.injEq,Prod.mk.injEq] at h1
  case ref r=>
   split at h1<;>try cases h1
   rename_i h3
   unfold takeR at h3
   split at h3<;>try cases h3
   rename_i o hl
   split at h3<;>try cases h3
   split at h3<;>try cases h3
   rw[ov_cons]
   dsimp only
   by_cases e:r.id=a
   ·rw[e,hd] at hl; cases hl
   ·rw[if_neg e]; exact hd
  all_goals (obtain⟨_,rfl⟩:=h1; exact hd)
theorem takeCs_whole:∀ {cs:List CV} {T T':List (Id × OS)} {ds},takeCs O T cs=some (ds,T')→∀(j:Nat) (r:Ref),cs[j]?=some (.ref r)→r.path=[]→ov O T' r.id=.dead
 |[],T,T',ds,h,j,r,e,_=>by simp at e
 |c::cs,T,T',ds,h,j,r,e,hp=>by
  simp only[takeCs] at h
  split at h<;>try cases h
  rename_i h1
  split at h<;>try cases h
  rename_i h2
  cases j with
  |succ j=>exact takeCs_whole h2 j r (by simpa using e) hp
  |zero=>
   simp only[List.getElem?_cons_zero,Option.some.injEq] at e
   subst e
   refine takeCs_dead h2 ?_
   simp only[takeC] at h1
   split at h1<;>try cases h1
   rename_i h3
   unfold takeR at h3
   split at h3<;>try cases h3
   split at h3<;>try cases h3
   split at h3<;>try cases h3
   rw[ov_cons]
   dsimp only
   rw[if_pos rfl,hp]
   simp[hollow]
def NoMove (T:List (Id × OS)):Prop:=∀a j p,(a,OS.moved j p)∉T
theorem NoMove.old {T:List (Id × OS)} (h:NoMove T) {a j:Id} {p:Path} (e:ov O T a=.moved j p):O a=.moved j p:=by
 induction T with
 |nil=>exact e
 |cons x T ih=>
  obtain⟨b,x⟩:=x
  rw[ov_cons] at e
  dsimp only at e
  by_cases hb:b=a
  ·rw[if_pos hb] at e; subst e; exact absurd (List.mem_cons_self ..) (h b j p)
  ·rw[if_neg hb] at e; exact ih (fun a j p hm=>h a j p (List.mem_cons_of_mem _ hm)) e
theorem NoMove.cons {T:List (Id × OS)} {i:Id} {x:OS} (h:NoMove T) (hx:∀j p,x≠.moved j p):NoMove ((i,x)::T):=fun a j p hm=>by
 rcases List.mem_cons.1 hm with e | hm
 ·injection e with _ e; exact hx j p e.symm
 ·exact h a j p hm
theorem NoMove.nil:NoMove []:=fun a j p h=>by cases h
theorem hollow_nomove (o:VObj) (q:Path) (j:Id) (p:Path):hollow o q≠.moved j p:=by
 unfold hollow
 split<;>simp
theorem takeR_nomove {T T':List (Id × OS)} {r:Ref} {k rows} (h:takeR O T r=some (k,rows,T')) (hT:NoMove T):NoMove T':=by
 unfold takeR at h
 split at h<;>try cases h
 split at h<;>try cases h
 split at h<;>try cases h
 exact hT.cons (hollow_nomove _ _)
theorem takeCs_nomove:∀ {cs:List CV} {T T':List (Id × OS)} {ds},takeCs O T cs=some (ds,T')→NoMove T→NoMove T'
 |[],T,T',ds,h,hT=>by simp only[takeCs,Option.some.injEq,Prod.mk.injEq] at h; rw[← h.2]; exact hT
 |c::cs,T,T',ds,h,hT=>by
  simp only[takeCs] at h
  split at h<;>try cases h
  rename_i h1
  split at h<;>try cases h
  rename_i h2
  refine takeCs_nomove h2 ?_
  cases c<;>simp only[takeC,Option.some.injEq,Prod.mk.injEq] at h1
  case ref r=>
   split at h1<;>try cases h1
   rename_i h3
   exact takeR_nomove h3 hT
  all_goals (obtain⟨_,rfl⟩:=h1; exact hT)
def Relabel (O1 O2:Id→OS):Prop:=∀a,O2 a=O1 a∨(O1 a=.dead∧∃j p,O2 a=.moved j p)
theorem Relabel.objs {O1 O2:Id→OS} (h:Relabel O1 O2) {hv:Id→Value} {G:Id→Frag} {w:World} (M:ObjsOK H O1 hv G w):ObjsOK H O2 hv G w where
 objs a ob e:=by
  rcases h a with h1 |⟨_,j,p,h1⟩
  ·rw[h1] at e; exact M.objs a ob e
  ·rw[h1] at e; cases e
 gone a e:=by
  rcases h a with h1 |⟨h1,_⟩
  ·exact M.gone a (fun ob hob=>e ob (by rw[h1]; exact hob))
  ·exact M.gone a (fun ob hob=>by rw[h1] at hob; cases hob)
 apart:=M.apart
 mem:=M.mem
 prot:=M.prot
 sep:=M.sep
theorem Relabel.carry {O1 O2:Id→OS} (h:Relabel O1 O2) {hv:Id→Value} {G:Id→Frag}:Carry ⟨H,O1,hv,G⟩ ⟨H,O2,hv,G⟩:=by
 refine⟨rfl,fun a e=>?_,fun a q ob' e hl=>?_⟩
 ·show O2 a≠.none
  rcases h a with h1 |⟨_,j,p,h1⟩
  ·rw[h1]; exact e
  ·rw[h1]; simp
 ·have hl':(O2 a).look q=some ob':=hl
  rcases h a with h1 |⟨_,j,p,h1⟩
  ·rw[h1] at hl'
   exact⟨ob',hl',fun _ rows' _ n=>⟨rows',n,rfl⟩⟩
  ·rw[h1] at hl'; cases hl'
theorem d_boxm {dst:Nat} {t:TypeId} {x:Operand} {type pos af gd} {cs:List CV} {ds:List D} {T:List (Id × OS)} {sx:SV} {e:Eff} (M:ObjsOK H O hv G w) (hx:SVRel ⟨H,O,hv,G⟩ sx (ρ x)) (hcs:sx.cells=some cs) (ht:takeCs O [] cs=some (ds,T))
  (he:made O T dst ⟨ds.length,[ds],[]⟩ (fun i=>.ptr ⟨i,[],0,0,ds.length⟩) True []=some e):
  ∃n v w' hv' G',(execOp ρ ⟨some dst,.box t x,type,pos,af,gd⟩).run P w=.ok n w'∧(n=.value v∨n=.skip∧v=undef)∧Done H O hv G w (some dst) (boxE cs e).sv (boxE cs e).objs v w' hv' G'∧
   ∀a j p,ov O (boxE cs e).objs a=.moved j p→O a=.moved j p∨MovedAt ⟨H,ov O (boxE cs e).objs,hv',G'⟩ j p (hv a):=by
 obtain⟨vs,ev,hr⟩:=hx.cells hcs
 obtain⟨G',g,ho,_,S⟩:=(Held.start M).takeCs hr ht
 have hheads:=takeCs_heads (Held.start M) hr ht
 have hwhole:=takeCs_whole ht
 have hno:NoMove T:=takeCs_nomove ht NoMove.nil
 rw[emp_un] at S
 have hrow:ORep H (.own ds.length [ds]) (.slice (some ⟨w.heap.size,0,none⟩) 1 1) ((one w.heap.size (.cells (vs++ []).toArray t (0,0))).un g):=
  orep_row S.w (ORepR.one ho) (by simp) (by simp) (by have:=ho.length; simp; omega) (free0 _)
 have hrun:(execOp ρ ⟨some dst,.box t x,type,pos,af,gd⟩).run P w=.ok (.value (.pointer (some ⟨w.heap.size,0,none⟩))) (more w (.cells vs.toArray t)):=by
  simp only[execOp]
  refine run_v2 ?_
  simp only[Instr.box,newVar,run_bind,ev,run_newRow,run_pure]
 unfold made at he
 split at he
 ·rename_i i hi
  injection he with he; subst he
  obtain⟨hv',G'',h1,h2,h3,hm,hc⟩:=S.make hi hrow (fun b h=>frag_new b h) (by simpa using frag_in_more S.w rfl) (fun b o h _=>more_old b o h)
  obtain⟨hin,hid⟩:=newId_none hi
  have hrel:Relabel (ov O ((i,.live ⟨ds.length,[ds],[]⟩)::T)) (ov O ((i,.live ⟨ds.length,[ds],[]⟩)::(movesOf i 0 cs++T))):=fun a=>by
   rw[ov_cons,ov_cons]
   dsimp only
   by_cases e:i=a
   ·left; rw[if_pos e,if_pos e]
   ·rw[if_neg e,if_neg e]
    rcases moves_get i (O a) cs 0 T a with h5 |⟨j,p,h6,h7⟩
    ·left; exact h5
    ·right
     obtain⟨m,r,q1,q2,q3,_,_⟩:=movesOf_at h6
     exact⟨by rw[← q3]; exact hwhole m r q1 q2,j,p,h7⟩
  have hcar:=hrel.carry (H:=H) (hv:=hv') (G:=G'')
  have hptr:SVRel ⟨H,ov O ((i,.live ⟨ds.length,[ds],[]⟩)::T),hv',G''⟩ (.ptr ⟨i,[],0,0,ds.length⟩) (.pointer (some ⟨w.heap.size,0,none⟩)):=ptr_rel (ds:=ds) (by rw[ov_cons]; simp) h1
  refine⟨_,_,_,hv',G'',hrun,.inl rfl,⟨hrel.objs hm,hc.trans hcar,hptr.carry hcar,more_below,fun j hj=>?_⟩,fun a j p hmv=>?_⟩
  ·have hji:i≠j:=by
    rintro rfl
    rcases hid with e | e<;>rw[e] at hj<;>exact hj rfl
   have hold:ov O ((i,.live ⟨ds.length,[ds],[]⟩)::T) j=ov O T j:=by rw[ov_cons]; dsimp only; rw[if_neg hji]
   refine⟨h2 j (Ne.symm hji),fun ob hob=>?_,fun hn=>?_⟩
   ·rcases hrel j with h4 |⟨_,j',p,h4⟩
    ·exact S.dead j ob (by rw[← hold,← h4]; exact hob)
    ·have:ov O ((i,.live ⟨ds.length,[ds],[]⟩)::(movesOf i 0 cs++T)) j=.live ob:=hob
     rw[h4] at this; cases this
   ·have h5:=S.none_ j hn
    rcases hrel j with h4 |⟨h4,_⟩
    ·show ov O ((i,.live ⟨ds.length,[ds],[]⟩)::(movesOf i 0 cs++T)) j=.none
     rw[h4,hold]; exact h5
    ·rw[hold,h5] at h4; cases h4
  ·have hmv':ov O ((i,.live ⟨ds.length,[ds],[]⟩)::(movesOf i 0 cs++T)) a=.moved j p:=hmv
   rw[ov_cons] at hmv'
   dsimp only at hmv'
   by_cases e:i=a
   ·rw[if_pos e] at hmv'; cases hmv'
   ·rw[if_neg e] at hmv'
    rcases moves_get i (O a) cs 0 T a with h5 |⟨j',p',h4,h7⟩
    ·left
     have h6:ov O T a=.moved j p:=by
      show getA (O a) T a=_
      rw[← h5]; exact hmv'
     exact hno.old h6
    ·right
     have h8:OS.moved j' p'=.moved j p:=by rw[← h7]; exact hmv'
     cases h8
     obtain⟨m,r,q1,q2,q3,rfl,rfl⟩:=movesOf_at h4
     obtain⟨_,_,k,rows,z1,z2⟩:=hheads m r q1 q2
     have hli:ov O ((j,.live ⟨ds.length,[ds],[]⟩)::(movesOf j 0 cs++T)) j=.live ⟨ds.length,[ds],[]⟩:=by rw[ov_cons]; simp
     refine⟨by show ov O ((j,.live ⟨ds.length,[ds],[]⟩)::(movesOf j 0 cs++T)) j≠.none; rw[hli]; simp,fun ob hob=>?_⟩
     have hob':(ov O ((j,.live ⟨ds.length,[ds],[]⟩)::(movesOf j 0 cs++T)) j).look [(0,0+m)]=some ob:=hob
     rw[hli] at hob'
     obtain⟨rfl,_⟩:=look_some hob'
     refine⟨k,rows,?_⟩
     show At (G'' j) _ (hv' j) _ _ _
     rw[h1,h3]
     refine .cons (one_un_at _ _ _) (by rfl) (by rw[Nat.zero_add]; exact z1) ?_ .nil
     simp only[List.append_nil,Nat.zero_mul,Nat.zero_add,List.getElem?_toArray]
     rw[← q3]; exact z2
 ·cases he
theorem d_alloc {dst:Nat} {t:TypeId} {type pos af gd} {zero:List CV} {i:TypeInfo} {z:Value} {e:Eff} (M:ObjsOK H O hv G w) (hi:P.info? t=some i) (hz:i.zero=some z) (hm:mZ zero z.cells.toList=true)
  (he:made O [] dst ⟨zero.length,[zeroD zero],[]⟩ (fun i=>.ptr ⟨i,[],0,0,zero.length⟩) True []=some e):Does P ρ ⟨some dst,.alloc t,type,pos,af,gd⟩ H O hv G w e.sv e.objs:=by
 have S:=Held.start M
 have ho:=mZ_orep (H:=H) hm
 have hlen:=mZ_length hm
 have hzl:(zeroD zero).length=zero.length:=by simp[zeroD]
 have hrow:ORep H (.own zero.length [zeroD zero]) (.slice (some ⟨w.heap.size,0,none⟩) 1 1) ((one w.heap.size (.cells (z.cells.toList++ []).toArray t (0,0))).un emp):=
  orep_row S.w (ORepR.one ho) (by simp[hzl]) (by simp) (by simp at hlen⊢; omega) (free0 _)
 refine S.does rfl he (v:=.pointer (some ⟨w.heap.size,0,none⟩)) (w':=more w (.cells z.cells t)) ?_ more_below hrow ?_ ?_ (fun b o h _=>more_old b o h) ?_
 ·simp only[execOp]
  refine run_v2 ?_
  simp only[Instr.alloc,newVar,run_bind,run_zero hi hz,run_newRow,run_pure]
 ·intro b h; exact frag_new b h
 ·have:=frag_in_more (ob:=.cells z.cells t) S.w rfl; simpa using this
 ·intro Y i hO hhv
  exact ptr_rel hO hhv
end
end Go.Proofs.YtmdocdnidilaiaaGreat.V
