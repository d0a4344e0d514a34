/- V: the regions run on the machine. -/
import Derived.Test.YtmdocdnidilaiaaGreatVRegion
namespace Go.Proofs.YtmdocdnidilaiaaGreat.V
open Go Frag Go.RowKit
def okDst (N:Nat) (pins:List Nat):Option Nat→Bool
 |some d=>decide (d < N) && !pins.contains d
 |none=>true
def matchGuard (ops:Array Oper):Option (Nat × Bool)→Option (Nat × Bool)→Bool
 |none,none=>true
 |some (s,b),some (g,b')=>b==b' &&((ops[g]?).bind (·.dst))==some s
 |_,_=>false
def matchAny (P:Program) (v:VO) (o:Oper):Bool:=
 match v.op,o.op with
 |.call f args,.call ⟨.value (.func f'),args',_⟩=>f==f' && mXs args args'.toList
 |.callv x args,.call ⟨.value y,args',_⟩=>mX x y && mXs args args'.toList
 |v',o'=>matchOp P v' o' &&(isStore v'==v.dst.isNone)
def matchOper (P:Program) (N:Nat) (pins:List Nat) (ops:Array Oper) (v:VO) (o:Oper):Bool:=
 (v.dst==o.dst && okDst N pins v.dst) &&(matchGuard ops v.guard o.guard && matchAny P v o)
section
variable {P:Program} {F:FuncId→Option VFun} {H:Nat→Frag} {w0:World} {K:Nat→Nat→Option Value}
theorem eval_rel {σ a w hv G} (R:Rel H w0 K σ a w hv G):∀x y,mX x y=true→SVRel ⟨H,σ.obj,hv,G⟩ (evx σ.slot x) (a.eval y):=by
 intro x y h
 unfold mX at h
 split at h
 ·rename_i n m; rw[beq_iff_eq] at h; subst h; exact R.slots n
 ·obtain⟨rfl,hf⟩:=vEq_eq h
  simp only[evx,hf,if_true,SVRel,CVRel,Act.eval]
  simp
 ·simp only[evx,SVRel,CVRel,Act.eval]; exact⟨_,rfl⟩
 ·rw[beq_iff_eq] at h; subst h
  simp only[evx,SVRel,Act.eval]
  exact⟨[],[],rfl,by simp[SVRels]⟩
 ·cases h
theorem getD_bool {t:Array Value} {s:Nat} {q:Bool} (h:t.getD s undef=.bool q):t[s]?=some (.bool q):=by
 rw[Array.getD_eq_getD_getElem?] at h
 cases ht:t[s]? with
 |none=>rw[ht] at h; simp[undef] at h
 |some u=>rw[ht] at h; simp at h; rw[h]
theorem getD_tup {t:Array Value} {s:Nat} {vs:Array Value} (h:t.getD s undef=.tuple vs) (q:Bool):t[s]?≠some (.bool q):=by
 intro ht
 rw[Array.getD_eq_getD_getElem?,ht] at h
 simp at h
theorem SVRels.append {X:Ctx}:∀ {a b:List SV} {u v:List Value},SVRels X a u→SVRels X b v→SVRels X (a++b) (u++v)
 |[],b,u,v,h,k=>by simp only[SVRels] at h; subst h; exact k
 |s::a,b,u,v,h,k=>by
  simp only[SVRels] at h
  obtain⟨x,xs,rfl,h1,h2⟩:=h
  simp only[List.cons_append,SVRels]
  exact⟨x,_,rfl,h1,SVRels.append h2 k⟩
theorem callFunc_enter {f:FuncId} (h:Enter P f) (vals:Array Value) (w:World):(callFunc f vals).run P w=.ok (.enter f vals) w:=by
 obtain⟨fn,c,h1,h2,h3⟩:=h
 have h3':fn.name≠ "runtime.NumGoroutine":=by simpa using h3
 simp[callFunc,h1,h3',h2]
theorem guard_ok {σ a w hv G} (R:Rel H w0 K σ a w hv G) {ops:Array Oper} {v:VO} {o:Oper} {b:Bool} (hm:matchGuard ops v.guard o.guard=true) (h:wanted σ.slot v.guard=some b):Region.wanted o (yielded ops a.tmps)=b:=by
 unfold Region.wanted
 cases hv:v.guard with
 |none=>
  cases ho:o.guard with
  |none=>rw[hv] at h; simp only[wanted,Option.some.injEq] at h; exact h
  |some g=>rw[hv,ho] at hm; simp[matchGuard] at hm
 |some g=>
  obtain⟨s,c⟩:=g
  cases ho:o.guard with
  |none=>rw[hv,ho] at hm; simp[matchGuard] at hm
  |some g'=>
   obtain⟨g',c'⟩:=g'
   rw[hv,ho] at hm
   simp only[matchGuard,Bool.and_eq_true,beq_iff_eq] at hm
   obtain⟨rfl,hd⟩:=hm
   rw[hv] at h
   simp only[wanted] at h
   have hs:=R.slots s
   simp only[yielded,hd,Option.bind_some]
   split at h
   ·rename_i q hq
    rw[hq] at hs
    simp only[SVRel,CVRel] at hs
    injection h with h
    rw[getD_bool hs.1,← h]
    simp only[]
    cases q<;>cases c<;>rfl
   ·rename_i hq
    rw[hq] at hs
    simp only[SVRel,SVRels] at hs
    injection h with h
    obtain⟨vs,e,rfl⟩:=hs
    rw[← h]
    split
    ·rename_i q hq'; exact absurd hq' (getD_tup e q)
    ·rfl
   ·cases h
theorem op_runs {σ a w hv G} (R:Rel H w0 K σ a w hv G) {N:Nat} {pins:List Nat} (hN:N≤a.tmps.size) {ops:Array Oper} {v:VO} {o:Oper} {x:Option Eff} (hs:Step1 P F σ.slot σ.obj v x) (hm:matchOper P N pins ops v o=true) (hK:∀i,i∉pins→∀c,K i c=none)
  {next:Act→World→Prop} {Q:Exit→Act→World→Prop} (hn:∀a' w' hv' G',a'.tmps.size=a.tmps.size→Rel H w0 K (σ.nx v x) a' w' hv' G'→next a' w'):
  if Region.wanted o (yielded ops a.tmps) then o.wp P a w next Q else next (a.put o.dst undef) w:=by
 simp only[matchOper,Bool.and_eq_true,beq_iff_eq] at hm
 obtain⟨⟨hd,hok⟩,hg,hany⟩:=hm
 have hsz:∀(d:Option Nat) u,(a.put d u).tmps.size=a.tmps.size:=fun d u=>by cases d<;>simp[Act.put]
 have hd1:∀i,o.dst=some i→i < a.tmps.size:=fun i e=>by
  rw[← hd] at e; rw[e] at hok
  simp only[okDst,Bool.and_eq_true,decide_eq_true_eq] at hok
  exact Nat.lt_of_lt_of_le hok.1 hN
 have hd2:∀i,o.dst=some i→∀c,K i c=none:=fun i e=>by
  rw[← hd] at e; rw[e] at hok
  simp only[okDst,Bool.and_eq_true,Bool.not_eq_true',List.contains_eq_mem,decide_eq_false_iff_not] at hok
  exact hK i hok.2
 cases hs with
 |off h=>
  rw[guard_ok R hg h]
  simp only[Bool.false_eq_true,if_false]
  refine hn _ _ hv G (hsz _ _) ?_
  show Rel H w0 K (σ.upd v.dst (.tup []) []) _ _ _ _
  rw[hd]
  exact R.value (by simp only[SVRel]; exact⟨[],rfl,by simp[SVRels]⟩) hd1
 |op h1 h2 h3=>
  rename_i e
  rw[guard_ok R hg h1]
  simp only[if_true]
  have hmo:matchOp P v.op o.op=true∧isStore v.op=v.dst.isNone:=by
   unfold matchAny at hany
   split at hany
   ·rename_i h4 _; rw[h4] at h2; simp[pstep] at h2
   ·rename_i h4 _; rw[h4] at h2; simp[pstep] at h2
   ·simp only[Bool.and_eq_true,beq_iff_eq] at hany; exact hany
  obtain⟨dst,op,type,pos,af,gd⟩:=o
  simp only at hd hmo
  obtain⟨n,u,w',hv',G',hrun,hnv,D,hmv⟩:=step_sound (P:=P) (dst:=dst) (type:=type) (pos:=pos) (af:=af) (gd:=gd) R.m (eval_rel R) hmo.1 (by rw[hmo.2,hd]) (by rw[← hd]; exact h2) h3
  unfold Oper.wp
  rw[hrun]
  have hfin := hn _ w' hv' G' (hsz dst u) (by
   show Rel H w0 K (σ.upd v.dst e.sv e.objs) _ _ _ _
   rw[hd]
   exact D.rel R hd1 hd2 hmv)
  rcases hnv with rfl |⟨rfl,rfl⟩
  ·exact hfin
  ·exact hfin
 |opc h1 h2 h3 h4=>
  rename_i f vs g os rs e
  rw[guard_ok R hg h1]
  simp only[if_true]
  obtain⟨dst,op,type,pos,af,gd⟩:=o
  simp only at hd hany
  have key:∃vals ms svs,(execOp a.eval ⟨dst,op,type,pos,af,gd⟩).run P w=(callFunc f vals).run P w∧SVRels ⟨H,σ.obj,hv,G⟩ svs vals.toList∧prep σ.obj ms 0 ⟨[],[],[]⟩ svs=some (vs,g)∧apartI g.rd (idsOf g.T)=true:=by
   unfold matchAny at hany
   split at hany
   ·rename_i f' args f'' args' ats hv1 ho1
    simp only[Bool.and_eq_true,beq_iff_eq] at hany
    obtain⟨rfl,hx⟩:=hany
    subst ho1
    rw[hv1] at h2
    simp only[callee] at h2
    split at h2<;>try cases h2
    rename_i hp
    split at h2<;>try cases h2
    rename_i hap
    refine⟨args'.map a.eval,_,_,?_,?_,hp,hap⟩
    ·simp[execOp,resolve,Deferred.ofValue,invoke,Act.eval]
    ·rw[Array.toList_map]; exact mXs_rels (eval_rel R) hx
   ·rename_i x args y args' ats hv1 ho1
    simp only[Bool.and_eq_true] at hany
    obtain⟨hx,hxs⟩:=hany
    subst ho1
    rw[hv1] at h2
    simp only[callee] at h2
    split at h2<;>try cases h2
    rename_i f' ca cb hsv
    split at h2<;>try cases h2
    rename_i hp
    split at h2<;>try cases h2
    rename_i hap
    have hrel:=eval_rel R x y hx
    rw[hsv] at hrel
    simp only[SVRel] at hrel
    obtain⟨us,us',he,r1,r2⟩:=hrel
    refine⟨us.toArray++args'.map a.eval++us'.toArray,_,_,?_,?_,hp,hap⟩
    ·simp[execOp,resolve,Deferred.ofValue,invoke,he]
    ·simp only[Array.toList_append,Array.toList_map]
     exact SVRels.append (SVRels.append r1 (mXs_rels (eval_rel R) hxs)) r2
   ·simp only[Bool.and_eq_true] at hany
    have hmo:=hany.1
    unfold callee at h2
    split at h2
    ·rename_i hv1; rw[hv1] at hmo; simp[matchOp] at hmo
    ·rename_i hv1; rw[hv1] at hmo; simp[matchOp] at hmo
    ·cases h2
  obtain⟨vals,ms,svs,hrun,hsv,hp,hap⟩:=key
  have hc:=call_does (P:=P) (dst:=dst) (ms':=modesOf F f) R.m hp hap hsv h3 (by rw[← hd]; exact h4)
  unfold Oper.wp
  rw[hrun]
  have hfin : ∀ u w', (∃ hv' G', Done H σ.obj hv G w dst e.sv e.objs u w' hv' G') → next (a.put dst u) w' := fun u w' ⟨hv', G', D⟩ => hn _ _ hv' G' (hsz _ _) (by
   show Rel H w0 K (σ.upd v.dst e.sv e.objs) _ _ _ _
   rw[hd]
   exact D.rel R hd1 hd2 (fun a j p h=>.inl ((behind_nomove h4 (prep_nomove hp NoMove.nil)).old h)))
  rcases hc with⟨he,hc⟩ |⟨u,w',hr,hc⟩
  ·rw[callFunc_enter he]
   rw[Oper.upon_enter]
   refine Calls.mono hc fun en w' ⟨u,h5,h6⟩=>?_
   subst h5
   exact hfin u w' h6
  ·rw[hr]
   exact hfin u w' hc
def idsApart (y z:Nat × VO × Option Eff):Prop:=(∀i∈Eff?.wr y.2.2,(i∈Eff?.rd z.2.2→Soft (Eff?.to y.2.1 y.2.2) (Eff?.lb z.2.1 z.2.2) i)∧i∉Eff?.wr z.2.2)∧∀i∈Eff?.wr z.2.2,i∈Eff?.rd y.2.2→Soft (Eff?.to z.2.1 z.2.2) (Eff?.lb y.2.1 y.2.2) i
def slotsApart (o o':VO):Bool:=
 (match o.dst with
  |some d=> !o'.looks.contains d && o'.dst !=some d
  |none=>true) &&
 (match o'.dst with
  |some d=> !o.looks.contains d
  |none=>true)
theorem slotsApart_ok {o o':VO} (h:slotsApart o o'=true):(∀d,o.dst=some d→d∉o'.looks∧o'.dst≠some d)∧(∀d,o'.dst=some d→d∉o.looks):=by
 unfold slotsApart at h
 simp only[Bool.and_eq_true] at h
 constructor
 ·intro d hd
  have h1:=h.1
  rw[hd] at h1
  simp only[Bool.and_eq_true,Bool.not_eq_true',List.contains_eq_mem,decide_eq_false_iff_not,bne_iff_ne] at h1
  exact h1
 ·intro d hd
  have h1:=h.2
  rw[hd] at h1
  simp only[Bool.not_eq_true',List.contains_eq_mem,decide_eq_false_iff_not] at h1
  exact h1
def freeAt (vs:List VO) (k:Nat):List Nat:=
 match vs[k]? with
 |some v=>v.free
 |none=>[]
def afters (o:Oper):List Nat:=(o.after.toList.filter (Region.binds .any)).map (·.on)
def drawOK (vs:List VO) (ops:Array Oper):Bool:=
 (List.range vs.length).all fun n=>match vs[n]?,ops[n]? with
  |some v,some o=>(afters o).all (fun k=>decide (k < n)) &&(List.range n).all fun i=>
    if v.free.contains i then(match vs[i]? with | some u=>slotsApart u v | none=>false)
    else(afters o).any fun k=>k==i ||(decide (i < k) && !(freeAt vs k).contains i)
  |_,_=>false
theorem drawOK_ok {vs:List VO} {ops:Array Oper} (h:drawOK vs ops=true) {n:Nat} {v:VO} {o:Oper} (hv:vs[n]?=some v) (ho:ops[n]?=some o):
  (∀e∈o.after,Region.binds .any e=true→e.on < n)∧∀i < n,(i∈v.free→∃u,vs[i]?=some u∧slotsApart u v=true)∧(i∉v.free→∃e∈o.after,Region.binds .any e=true∧(e.on=i∨(i < e.on∧i∉freeAt vs e.on))):=by
 unfold drawOK at h
 have h1:=List.all_eq_true.1 h n (List.mem_range.2 (List.getElem?_eq_some_iff.1 hv).1)
 rw[hv,ho] at h1
 simp only[Bool.and_eq_true,List.all_eq_true,decide_eq_true_eq,List.mem_range] at h1
 have hmem:∀e∈o.after,Region.binds .any e=true→e.on∈afters o:=fun e he hb=>by
  unfold afters
  exact List.mem_map.2 ⟨e,List.mem_filter.2 ⟨by simpa using he,hb⟩,rfl⟩
 refine⟨fun e he hb=>h1.1 _ (hmem e he hb),fun i hi=>?_⟩
 have h2:=h1.2 i hi
 constructor
 ·intro hf
  rw[if_pos (by simpa using hf)] at h2
  split at h2
  ·rename_i u hu; exact⟨u,hu,h2⟩
  ·cases h2
 ·intro hf
  rw[if_neg (by simpa using hf)] at h2
  obtain⟨k,hk,hc⟩:=List.any_eq_true.1 h2
  unfold afters at hk
  obtain⟨e,he,rfl⟩:=List.mem_map.1 hk
  obtain⟨he1,he2⟩:=List.mem_filter.1 he
  refine⟨e,by simpa using he1,he2,?_⟩
  simp only[Bool.or_eq_true,beq_iff_eq,Bool.and_eq_true,decide_eq_true_eq,Bool.not_eq_true',List.contains_eq_mem,decide_eq_false_iff_not] at hc
  exact hc
theorem getD_tf {l:Array Bool} {i:Nat} (h:l.getD i true=false):i < l.size∧l.getD i false=false:=by
 rw[Array.getD_eq_getD_getElem?] at h⊢
 by_cases hi:i < l.size
 ·rw[Array.getElem?_eq_getElem hi] at h⊢; exact⟨hi,h⟩
 ·rw[Array.getElem?_eq_none (by omega)] at h; simp at h
theorem getD_ff {l:Array Bool} {i:Nat} (hi:i < l.size) (h:l.getD i false=false):l.getD i true=false:=by
 rw[Array.getD_eq_getD_getElem?] at h⊢
 rw[Array.getElem?_eq_getElem hi] at h⊢; exact h
theorem draw_runs {vs:List VO} {ops:Array Oper} {N:Nat} {pins:List Nat} {σe:St} {Q:Exit→Act→World→Prop} (hsz:ops.size=vs.length) (hdraw:drawOK vs ops=true)
  (hmatch:∀(n:Nat) v o,vs[n]?=some v→ops[n]?=some o→matchOper P N pins ops v o=true) (hK:∀i,i∉pins→∀c,K i c=none)
  (hend:∀a w hv G,N≤a.tmps.size→Rel H w0 K σe a w hv G→Q .normal a w):
  ∀(fuel:Nat) (listed:Array Bool) (R:List (Nat × VO × Option Eff)) (σ:St) (a:Act) (w:World) (hv:Id→Value) (G:Id→Frag),R.length=fuel→listed.size=vs.length→
   R.Pairwise (fun y z=>y.1 < z.1)→(∀i,listed.getD i true=false↔∃y∈R,y.1=i)→(∀y∈R,vs[y.1]?=some y.2.1)→R.Pairwise (fun y z=>y.1∈z.2.1.free→idsApart y z)→
   (∀m i,listed.getD m false=true→i < m→i∉freeAt vs m→listed.getD i false=true)→Chain P F σ R→Like (endOf σ R) σe→Rel H w0 K σ a w hv G→N≤a.tmps.size→
   wpAny P .any ops Q fuel listed a w:=by
 intro fuel
 induction fuel with
 |zero=>
  intro listed R σ a w hv G hl hls hpw hun hvs hap hcl hch hlk hR hN
  have:R=[]:=List.length_eq_zero_iff.1 hl
  subst this
  refine⟨?_,hend a w hv G hN (hR.like hlk)⟩
  apply List.eq_nil_iff_forall_not_mem.2
  intro j hj
  obtain⟨h1,_⟩:=mem_ready.1 hj
  obtain⟨y,hy,_⟩:=(hun j).1 h1
  cases hy
 |succ fuel ih=>
  intro listed R σ a w hv G hl hls hpw hun hvs hap hcl hch hlk hR hN
  have hlist:∀j,j < vs.length→(¬∃y∈R,y.1=j)→listed.getD j false=true:=fun j hj hno=>by
   cases hb:listed.getD j false with
   |true=>rfl
   |false=>exact absurd ((hun j).1 (getD_ff (by omega) hb)) hno
  constructor
  ·intro hnil
   exfalso
   match R,hl with
   |y0::R0,_=>
    have h0:=hvs y0 (List.mem_cons_self ..)
    have hlt:=(List.getElem?_eq_some_iff.1 h0).1
    have ho:ops[y0.1]?=some ops[y0.1]:=Array.getElem?_eq_getElem (by omega)
    have hmem:y0.1∈Region.ready .any ops listed:=by
     refine mem_ready.2 ⟨(hun _).2 ⟨y0,List.mem_cons_self ..,rfl⟩,_,ho,fun e he hb=>?_⟩
     have hlt2:=(drawOK_ok hdraw h0 ho).1 e he hb
     refine hlist _ (by omega) (fun⟨y,hy,e'⟩=>?_)
     rcases List.mem_cons.1 hy with rfl | hy
     ·omega
     ·have:=(List.pairwise_cons.1 hpw).1 y hy
      omega
    rw[hnil] at hmem; cases hmem
  ·intro i hi
   obtain⟨hiun,o,ho,haft⟩:=mem_ready.1 hi
   obtain⟨y,hyR,hyi⟩:=(hun i).1 hiun
   subst hyi
   obtain⟨L1,L2,rfl⟩:=List.append_of_mem hyR
   have hvy:=hvs y hyR
   obtain⟨d1,d2⟩:=drawOK_ok hdraw hvy ho
   have hbefore:∀x∈L1,x.1 < y.1:=fun x hx=>(List.pairwise_append.1 hpw).2.2 x hx y (List.mem_cons_self ..)
   have hunl:∀x∈L1,listed.getD x.1 false=false:=fun x hx=>(getD_tf ((hun x.1).2 ⟨x,List.mem_append_left _ hx,rfl⟩)).2
   have hclo:∀j,j < y.1→j∉y.2.1.free→listed.getD j false=true:=fun j hj hjf=>by
    obtain⟨e,he,hb,h⟩:=(d2 j hj).2 hjf
    have hel:=haft e he hb
    rcases h with h |⟨h,h'⟩
    ·rw[← h]; exact hel
    ·exact hcl _ _ hel h h'
   have hApart:∀x∈L1,Apart x.2.1 x.2.2 y.2.1 y.2.2:=fun x hx=>by
    have hfree:x.1∈y.2.1.free:=by
     apply Classical.byContradiction
     intro hno
     have:=hclo x.1 (hbefore x hx) hno
     rw[hunl x hx] at this; cases this
    obtain⟨u,hu,hs⟩:=(d2 x.1 (hbefore x hx)).1 hfree
    have hvx:=hvs x (List.mem_append_left _ hx)
    rw[hvx] at hu
    injection hu with hu
    obtain⟨s1,s2⟩:=slotsApart_ok hs
    rw[← hu] at s1 s2
    obtain⟨i1,i2⟩:=(List.pairwise_append.1 hap).2.2 x hx y (List.mem_cons_self ..) hfree
    exact⟨s1,s2,i1,i2⟩
   obtain⟨⟨p1,p2⟩,p3⟩:=pull hch hApart
   have hrun := op_runs hR hN p1 (hmatch _ _ _ hvy ho) hK (Q := Q) (next := wpAny P .any ops Q fuel (listed.setIfInBounds y.1 true)) (fun a' w' hv' G' hsz' hR' => by
    refine ih _ (L1++L2) _ a' w' hv' G' (by simp at hl⊢; omega) (by simpa using hls) ?_ ?_ ?_ ?_ ?_ p2 (Like.trans ⟨p3.1.symm,p3.2.symm⟩ hlk) hR' (by rw[hsz']; exact hN)
    ·exact hpw.sublist (List.Sublist.append (List.Sublist.refl _) (List.sublist_cons_self ..))
    ·intro j
     by_cases hj:y.1=j
     ·subst hj
      constructor
      ·intro h
       have:=getD_tf hiun
       rw[Array.getD_eq_getD_getElem?,Array.getElem?_setIfInBounds_self_of_lt this.1] at h
       simp at h
      ·rintro⟨z,hz,e⟩
       exfalso
       rcases List.mem_append.1 hz with hz | hz
       ·have:=hbefore z hz; omega
       ·have:=(List.pairwise_cons.1 (List.pairwise_append.1 hpw).2.1).1 z hz; omega
     ·rw[getD_set_ne true hj,hun j]
      constructor
      ·rintro⟨z,hz,e⟩
       rcases List.mem_append.1 hz with hz | hz
       ·exact⟨z,List.mem_append_left _ hz,e⟩
       ·rcases List.mem_cons.1 hz with rfl | hz
        ·exact absurd e hj
        ·exact⟨z,List.mem_append_right _ hz,e⟩
      ·rintro⟨z,hz,e⟩
       refine⟨z,?_,e⟩
       rcases List.mem_append.1 hz with hz | hz
       ·exact List.mem_append_left _ hz
       ·exact List.mem_append_right _ (List.mem_cons_of_mem _ hz)
    ·intro z hz
     refine hvs z ?_
     rcases List.mem_append.1 hz with hz | hz
     ·exact List.mem_append_left _ hz
     ·exact List.mem_append_right _ (List.mem_cons_of_mem _ hz)
    ·exact hap.sublist (List.Sublist.append (List.Sublist.refl _) (List.sublist_cons_self ..))
    ·intro m j hm hj hf
     by_cases hmy:y.1=m
     ·subst hmy
      refine getD_set_true (hclo j hj ?_)
      unfold freeAt at hf
      rw[hvy] at hf
      exact hf
     ·rw[getD_set_ne false hmy] at hm
      exact getD_set_true (hcl m j hm hj hf))
   unfold wpOp
   rw[ho]
   simp only[]
   split
   ·rename_i hw
    rw[if_pos hw] at hrun
    exact .inl hrun
   ·rename_i hw
    rw[if_neg hw] at hrun
    exact hrun
theorem list_runs {ops:Array Oper} {N:Nat} {pins:List Nat} {σe:St} {Q:Exit→Act→World→Prop} (hK:∀i,i∉pins→∀c,K i c=none)
  (hend:∀a w hv G,N≤a.tmps.size→Rel H w0 K σe a w hv G→Q .normal a w):
  ∀(os:List Oper) (R:List (Nat × VO × Option Eff)) (σ:St) (a:Act) (w:World) (hv:Id→Value) (G:Id→Frag),R.length=os.length→
   (∀(n:Nat) y o,R[n]?=some y→os[n]?=some o→matchOper P N pins ops y.2.1 o=true)→Chain P F σ R→endOf σ R=σe→Rel H w0 K σ a w hv G→N≤a.tmps.size→wpList P ops Q os a w
 |[],[],σ,a,w,hv,G,_,_,_,he,hR,hN=>by
  refine wpList_nil (hend a w hv G hN ?_)
  rw[← he]; exact hR
 |[],_::_,_,_,_,_,_,hl,_,_,_,_,_=>by simp at hl
 |_::_,[],_,_,_,_,_,hl,_,_,_,_,_=>by simp at hl
 |o::os,y::R,σ,a,w,hv,G,hl,hm,⟨h1,h2⟩,he,hR,hN=>by
  refine wpList_step fun next hnext=>?_
  refine op_runs hR hN h1 (hm 0 y o rfl rfl) hK fun a' w' hv' G' hs hR'=>hnext _ _ ?_
  exact list_runs hK hend os R _ a' w' hv' G' (by simpa using hl) (fun n y o e1 e2=>hm (n+1) y o (by simpa using e1) (by simpa using e2)) h2 he hR' (by rw[hs]; exact hN)
end
end Go.Proofs.YtmdocdnidilaiaaGreat.V
