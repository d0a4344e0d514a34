/- V: what V says of a program's function holds. -/
import Derived.Test.YtmdocdnidilaiaaGreatVDraw
namespace Go.Proofs.YtmdocdnidilaiaaGreat.V
open Go Frag Go.RowKit
def matchOps (P:Program) (N:Nat) (pins:List Nat) (ops:Array Oper):List VO→List Oper→Bool
 |[],[]=>true
 |v::vs,o::os=>matchOper P N pins ops v o && matchOps P N pins ops vs os
 |_,_=>false
def matchCode (P:Program) (N:Nat) (pins:List Nat):VC→Code→Bool
 |.any,_=>true
 |.skip,.skip=>true
 |.region d _ vs,.region _ ops d'=>(d==d') &&(matchOps P N pins ops vs ops.toList &&(!d || drawOK vs ops))
 |.seq a b,.seq a' b'=>matchCode P N pins a a' && matchCode P N pins b b'
 |.cond c a b,.cond c' a' b'=>mX c c' &&(matchCode P N pins a a' && matchCode P N pins b b')
 |.block i a,.block i' a'=>(i==i') && matchCode P N pins a a'
 |.loop a,.loop a'=>matchCode P N pins a a'
 |.exit i,.exit i'=>i==i'
 |.ret,.ret=>true
 |_,_=>false
def ioAt (ms:List Mode) (i:Nat):Bool:=match ms[i]? with | some .io=>true | _=>false
def pinsOf (fn:VFun):List Nat:=(List.range fn.modes.length).filter (ioAt fn.modes)
def matchFun (P:Program) (f:FuncId) (fn:VFun):Bool:=
 match P.funcs[f]? with
 |some g=>match g.body with
  |some c=> !(g.name== "runtime.NumGoroutine") &&(matchCode P g.ntmps (pinsOf fn) fn.code c && mRets P fn.rets g.results.toList)
  |none=>false
 |none=>false
def VX.Exit.to:VX.Exit→Go.Exit
 |.normal=>.normal
 |.exit id=>.exit id
 |.ret=>.ret
theorem matchOps_at {P:Program} {N:Nat} {pins:List Nat} {ops:Array Oper}:∀ {vs:List VO} {os:List Oper},matchOps P N pins ops vs os=true→vs.length=os.length∧∀(n:Nat) v o,vs[n]?=some v→os[n]?=some o→matchOper P N pins ops v o=true
 |[],[],_=>⟨rfl,fun n v o h=>by simp at h⟩
 |[],_::_,h=>by simp[matchOps] at h
 |_::_,[],h=>by simp[matchOps] at h
 |v::vs,o::os,h=>by
  simp only[matchOps,Bool.and_eq_true] at h
  obtain⟨h1,h2⟩:=matchOps_at h.2
  refine⟨by simp[h1],fun n v' o' e1 e2=>?_⟩
  cases n with
  |zero=>simp at e1 e2; subst e1; subst e2; exact h.1
  |succ n=>exact h2 n v' o' (by simpa using e1) (by simpa using e2)
section
variable {P:Program}
def Post (H:Nat→Frag) (w0:World) (K:Nat→Nat→Option Value) (N:Nat) (σ':St) (e:VX.Exit):Go.Exit→Act→World→Prop:=fun ex a' w'=>
 ex=e.to∧N≤a'.tmps.size∧∃hv' G',Rel H w0 K σ' a' w' hv' G'
def Rounds (P:Program) (c:Code) (Q:Go.Exit→Act→World→Prop) (a:Act) (w:World):Prop:=
 ∀(b:Frame) (k:List Item) (cs:List Frame),∃e a' w',Q e a' w'∧Arrives P (lone (b.at a (.code c::.inLoop c::k)) cs w) b k cs e a' w'
theorem Rounds.wp {c:Code} {Q:Go.Exit→Act→World→Prop} {a:Act} {w:World} (h:Rounds P c Q a w):(Code.loop c).wp P Q a w:=
 fun b k cs=>let ⟨e,a',w',q,r⟩:=h b k cs;⟨e,a',w',q,.of_steps (.one step_loop) r⟩
theorem Rounds.again {c:Code} {Q Q':Go.Exit→Act→World→Prop} {a:Act} {w:World} (h:c.wp P Q' a w) (hn:∀a w,Q' .normal a w→Rounds P c Q a w) (hx:∀e a w,e≠.normal→Q' e a w→Q e a w):Rounds P c Q a w:=by
 intro b k cs
 obtain⟨e,a₁,w₁,hq,harr⟩:=h b (.inLoop c::k) cs
 by_cases he:e=.normal
 ·subst he
  obtain⟨e₂,a₂,w₂,hq₂,harr₂⟩:=hn _ _ hq b k cs
  exact⟨e₂,a₂,w₂,hq₂,.of_steps (Steps.trans harr (.one step_inLoop)) harr₂⟩
 ·exact⟨e,a₁,w₁,hx _ _ _ he hq,.pass (x:=.inLoop c) rfl (fun _ _=>.inl he) harr⟩
def logApart (e:Nat × List Id × List Id × List Id × List Id) (z:Nat × VO × Option Eff):Prop:=(∀i∈e.2.2.1,(i∈Eff?.rd z.2.2→Soft e.2.2.2.2 (Eff?.lb z.2.1 z.2.2) i)∧i∉Eff?.wr z.2.2)∧∀i∈Eff?.wr z.2.2,i∈e.2.1→Soft (Eff?.to z.2.1 z.2.2) e.2.2.2.1 i
theorem apartI_ok {a b:List Id} (h:apartI a b=true):∀i∈a,i∉b:=by
 intro i hi
 simpa using List.all_eq_true.1 h i hi
theorem softI_ok {w r to lb:List Id} (h:softI w r to lb=true):∀i∈w,i∈r→Soft to lb i:=by
 intro i hi hr
 have:=List.all_eq_true.1 h i hi
 simpa[hr,softA,Soft] using this
theorem indep_ok {log:Log} {free:List Nat} {rd wr lb to:List Id} (h:indep log free rd wr lb to=true) {e:Nat × List Id × List Id × List Id × List Id} (he:e∈log) (hf:e.1∈free):
  (∀i∈e.2.2.1,(i∈rd→Soft e.2.2.2.2 lb i)∧i∉wr)∧∀i∈wr,i∈e.2.1→Soft to e.2.2.2.1 i:=by
 have h1:=List.all_eq_true.1 h e he
 simp only[List.contains_eq_mem,hf,decide_true,Bool.not_true,Bool.false_or,Bool.and_eq_true] at h1
 exact⟨fun i hi=>⟨softI_ok h1.1.2 i hi,apartI_ok h1.1.1 i hi⟩,softI_ok h1.2⟩
def Sound (P:Program) (F:FuncId→Option VFun):Task→Prop
 |.call f args objs outs rets=>CallOK P f args objs (objs.filter (keepP (modesOf F f))) outs rets
 |.ops draw log n l σ σ'=>∃R:List (Nat × VO × Option Eff),R.map (·.2.1)=l∧(∀(k:Nat) y,R[k]?=some y→y.1=n+k)∧Chain P F σ R∧endOf σ R=σ'∧
   (draw=true→(∀e∈log,∀z∈R,e.1∈z.2.1.free→logApart e z)∧R.Pairwise fun y z=>y.1∈z.2.1.free→idsApart y z)
 |.code c σ e σ'=>∀(N:Nat) (pins:List Nat) (code:Code),matchCode P N pins c code=true→∀(H:Nat→Frag) (w0:World) (K:Nat→Nat→Option Value),(∀i,i∉pins→∀c,K i c=none)→
   ∀(a:Act) (w:World) (hv:Id→Value) (G:Id→Frag),Rel H w0 K σ a w hv G→N≤a.tmps.size→
    code.wp P (Post H w0 K N σ' e) a w∧∀va body,c=.loop va→code=.loop body→Rounds P body (Post H w0 K N σ' e) a w
theorem ops_cons {F:FuncId→Option VFun} {draw:Bool} {log:Log} {n:Nat} {o:VO} {l:List VO} {σ σ':St} {x:Option Eff} (hs:Step1 P F σ.slot σ.obj o x)
  (hi:draw=true→∀e∈log,e.1∈o.free→logApart e (n,o,x)) {log':Log} (hlog:(n,Eff?.rd x,Eff?.wr x,Eff?.lb o x,Eff?.to o x)∈log'∨(Eff?.rd x=[]∧Eff?.wr x=[])) (hsub:∀e∈log,e∈log')
  (h:Sound P F (.ops draw log' (n+1) l (σ.nx o x) σ')):Sound P F (.ops draw log n (o::l) σ σ'):=by
 obtain⟨R,h1,h2,h3,h4,h5⟩:=h
 refine⟨(n,o,x)::R,by simp[h1],fun k y hy=>?_,⟨hs,h3⟩,h4,fun hd=>?_⟩
 ·cases k with
  |zero=>simp at hy; subst hy; rfl
  |succ k=>have:=h2 k y (by simpa using hy); omega
 ·obtain⟨p1,p2⟩:=h5 hd
  constructor
  ·intro e he z hz hf
   rcases List.mem_cons.1 hz with rfl | hz
   ·exact hi hd e he hf
   ·exact p1 e (hsub e he) z hz hf
  ·refine List.pairwise_cons.2 ⟨fun z hz hf=>?_,p2⟩
   rcases hlog with hlog |⟨e1,e2⟩
   ·exact p1 _ hlog z hz hf
   ·unfold idsApart
    rw[e1,e2]; simp
theorem enterS_at {X:Ctx}:∀ {args:List SV} {vals:List Value} {j:Nat},SVRels X args vals→∀i,getA SV.dead (enterS j args) i=.dead∨(j≤i∧∃v,vals[i - j]?=some v∧SVRel X (getA SV.dead (enterS j args) i) v)
 |[],vals,j,_,i=>.inl rfl
 |s::args,vals,j,h,i=>by
  simp only[SVRels] at h
  obtain⟨u,us,rfl,h1,h2⟩:=h
  simp only[enterS,getA]
  by_cases e:j=i
  ·subst e
   rw[if_pos rfl]
   exact .inr ⟨Nat.le_refl _,u,by simp,h1⟩
  ·rw[if_neg e]
   rcases enterS_at h2 (j:=j+1) i with h3 |⟨h3,v,h4,h5⟩
   ·exact .inl h3
   ·refine .inr ⟨by omega,v,?_,h5⟩
    rw[show i - j=(i - (j+1))+1 by omega]
    simpa using h4
theorem objsO_dead:∀ {objs:List (Id × VObj)} {i:Id},objsO objs i≠.dead
 |[],i=>by simp[objsO,getA]
 |x::l,i=>by
  have:=objsO_dead (objs:=l) (i:=i)
  simp only[objsO,List.map_cons,getA] at this⊢
  split
  ·simp
  ·exact this
theorem objsO_moved:∀ {objs:List (Id × VObj)} {i j:Id} {p:Path},objsO objs i≠.moved j p
 |[],i,j,p=>by simp[objsO,getA]
 |x::l,i,j,p=>by
  have:=objsO_moved (objs:=l) (i:=i) (j:=j) (p:=p)
  simp only[objsO,List.map_cons,getA] at this⊢
  split
  ·simp
  ·exact this
open Classical in
theorem sound {F:FuncId→Option VFun} {X:Ext} (hm:P.follows .mixedOrders=true) (hF:∀f fn,F f=some fn→matchFun P f fn=true) (hX:∀f args objs rs,X f args objs rs→CallOK P f args objs [] [] rs):
  ∀ {t:Task},Ev F X t→Sound P F t:=by
 intro t h
 induction h with
 |skip=>
  intro N pins code hc H w0 K hK a w hv G R hN
  cases code<;>simp only[matchCode,Bool.false_eq_true] at hc
  exact⟨wp_skip ⟨rfl,hN,hv,G,R⟩,fun va body e=>by cases e⟩
 |ret=>
  intro N pins code hc H w0 K hK a w hv G R hN
  cases code<;>simp only[matchCode,Bool.false_eq_true] at hc
  exact⟨wp_ret ⟨rfl,hN,hv,G,R⟩,fun va body e=>by cases e⟩
 |exit=>
  intro N pins code hc H w0 K hK a w hv G R hN
  cases code<;>simp only[matchCode,Bool.false_eq_true,beq_iff_eq] at hc
  subst hc
  exact⟨wp_exit ⟨rfl,hN,hv,G,R⟩,fun va body e=>by cases e⟩
 |seqN h1 h2 ih1 ih2=>
  intro N pins code hc H w0 K hK a w hv G R hN
  cases code<;>simp only[matchCode,Bool.false_eq_true,Bool.and_eq_true] at hc
  refine⟨wp_seq (wp_mono (ih1 N pins _ hc.1 H w0 K hK a w hv G R hN).1 fun ex a' w' ⟨he,hN',hv',G',R'⟩=>?_),fun va body e=>by cases e⟩
  subst he
  exact(ih2 N pins _ hc.2 H w0 K hK a' w' hv' G' R' hN').1
 |@seqX va vb σ σ₁ e h1 h2 ih1=>
  intro N pins code hc H w0 K hK a w hv G R hN
  cases code<;>simp only[matchCode,Bool.false_eq_true,Bool.and_eq_true] at hc
  refine⟨wp_seq (wp_mono (ih1 N pins _ hc.1 H w0 K hK a w hv G R hN).1 fun ex a' w' hp=>?_),fun va body e=>by cases e⟩
  have he:=hp.1
  subst he
  cases e with
  |normal=>exact absurd rfl h2
  |exit id=>exact hp
  |ret=>exact hp
 |cond h1 h2 ih=>
  intro N pins code hc H w0 K hK a w hv G R hN
  cases code<;>simp only[matchCode,Bool.false_eq_true,Bool.and_eq_true] at hc
  rename_i t _ _ _ c' a' b'
  have hx:=eval_rel R _ _ hc.1
  rw[h1] at hx
  simp only[boolV,SVRel,CVRel] at hx
  refine⟨wp_cond hx.1 ?_,fun va body e=>by cases e⟩
  cases t
  ·exact(ih N pins _ hc.2.2 H w0 K hK a w hv G R hN).1
  ·exact(ih N pins _ hc.2.1 H w0 K hK a w hv G R hN).1
 |blockX h1 ih=>
  intro N pins code hc H w0 K hK a w hv G R hN
  cases code<;>simp only[matchCode,Bool.false_eq_true,Bool.and_eq_true,beq_iff_eq] at hc
  obtain⟨rfl,hc⟩:=hc
  refine⟨wp_block (wp_mono (ih N pins _ hc H w0 K hK a w hv G R hN).1 fun ex a' w' ⟨he,hp⟩=>?_),fun va body e=>by cases e⟩
  subst he
  simp only[VX.Exit.to,Exit.inBlock,if_true]
  exact⟨rfl,hp⟩
 |@block bid va σ e σ' h1 h2 ih=>
  intro N pins code hc H w0 K hK a w hv G R hN
  cases code<;>simp only[matchCode,Bool.false_eq_true,Bool.and_eq_true,beq_iff_eq] at hc
  obtain⟨rfl,hc⟩:=hc
  refine⟨wp_block (wp_mono (ih N pins _ hc H w0 K hK a w hv G R hN).1 fun ex a' w' hp=>?_),fun va body e=>by cases e⟩
  have he:=hp.1
  subst he
  cases e with
  |normal=>exact hp
  |exit id=>
   simp only[VX.Exit.to,Exit.inBlock]
   rw[if_neg (fun e=>h2 (by rw[e]))]
   exact hp
  |ret=>exact hp
 |loopN h1 h2 ih1 ih2=>
  intro N pins code hc H w0 K hK a w hv G R hN
  have hc':=hc
  cases code<;>simp only[matchCode,Bool.false_eq_true] at hc
  have key:=Rounds.again (Q:=Post H w0 K N _ _) (ih1 N pins _ hc H w0 K hK a w hv G R hN).1 (fun a' w' ⟨_,hN',hv',G',R'⟩=>(ih2 N pins _ hc' H w0 K hK a' w' hv' G' R' hN').2 _ _ rfl rfl) (fun e a w he hp=>absurd hp.1 he)
  exact⟨key.wp,fun va body e1 e2=>by cases e2; exact key⟩
 |@loopX va σ e σ₁ h1 h2 ih1=>
  intro N pins code hc H w0 K hK a w hv G R hN
  cases code<;>simp only[matchCode,Bool.false_eq_true] at hc
  have key := Rounds.again (Q := Post H w0 K N _ _) (ih1 N pins _ hc H w0 K hK a w hv G R hN).1 (fun a' w' hp => by
   have:=hp.1
   cases e with
   |normal=>exact absurd rfl h2
   |exit id=>cases this
   |ret=>cases this) (fun e a w he hp=>hp)
  exact⟨key.wp,fun va body e1 e2=>by cases e2; exact key⟩
 |drop h1 ih=>
  rename_i c keep σ e σ'
  intro N pins code hm2 H w0 K hK a w hv G R hN
  obtain⟨hv',G',R'⟩:=R.clean keep
  exact ih N pins code hm2 H w0 K hK a w hv' G' R' hN
 |region h1 ih=>
  intro N pins code hc H w0 K hK a w hv G R hN
  cases code<;>simp only[matchCode,Bool.false_eq_true,Bool.and_eq_true,beq_iff_eq] at hc
  rename_i draw keep vs σ σ' rid ops draw'
  obtain⟨rfl,hmo,hdr⟩:=hc
  obtain⟨L,e1,e2,e3,e4,e5⟩:=ih
  obtain⟨hlen,hat⟩:=matchOps_at hmo
  have hLlen:L.length=vs.length:=by rw[← e1]; simp
  refine⟨?_,fun va body e=>by cases e⟩
  have hend:∀a w hv G,N≤a.tmps.size→Rel H w0 K σ' a w hv G→Post H w0 K N (clean keep σ') .normal .normal a w:=fun a w hv G hN R=>by
   obtain⟨hv',G',R'⟩:=R.clean keep
   exact⟨rfl,hN,hv',G',R'⟩
  have hLat:∀(n:Nat) y,L[n]?=some y→vs[n]?=some y.2.1:=fun n y hy=>by
   rw[← e1]; simp[hy]
  cases draw with
  |false=>
   refine wp_region_list ?_
   exact list_runs hK hend ops.toList L σ a w hv G (by rw[hLlen,hlen]) (fun n y o h5 h6=>hat n _ o (hLat n y h5) h6) e3 e4 R hN
  |true=>
   simp only[Bool.not_true,Bool.false_or] at hdr
   obtain⟨_,e6⟩:=e5 rfl
   have hsz:ops.size=vs.length:=by rw[hlen]; simp
   refine wp_region_any hm ?_
   have hgrow:Rel H w0 K σ a {w with drawn:=w.drawn+1} hv G:=R.grow (Below.drew (Below.refl _ _))
   have hidx:∀y∈L,∃n,L[n]?=some y∧y.1=n:=fun y hy=>by
    obtain⟨n,hn⟩:=List.mem_iff_getElem?.1 hy
    exact⟨n,hn,by have:=e2 n y hn; omega⟩
   have:=draw_runs (F:=F) hsz hdr (fun n v o h5 h6=>hat n v o h5 (by simpa using h6)) hK hend ops.size (Array.replicate ops.size false) L σ a _ hv G (by omega) (by simp[hsz]) ?_ ?_ ?_ e6 ?_ e3 (by rw[e4]; exact Like.rfl') hgrow hN
   ·exact this
   ·rw[List.pairwise_iff_getElem]
    intro i j hi hj hij
    have h7:=e2 i _ (List.getElem?_eq_getElem hi)
    have h8:=e2 j _ (List.getElem?_eq_getElem hj)
    omega
   ·intro i
    constructor
    ·intro h
     have:=(getD_tf h).1
     have hi:i < L.length:=by rw[hLlen]; simpa[hsz] using this
     refine⟨L[i],List.getElem_mem hi,?_⟩
     have:=e2 i _ (List.getElem?_eq_getElem hi)
     omega
    ·rintro⟨y,hy,rfl⟩
     obtain⟨n,hn,hy1⟩:=hidx y hy
     have hnl:=(List.getElem?_eq_some_iff.1 hn).1
     rw[Array.getD_eq_getD_getElem?,Array.getElem?_replicate,if_pos (by omega)]; rfl
   ·intro y hy
    obtain⟨n,hn,hy1⟩:=hidx y hy
    rw[hy1]; exact hLat n y hn
   ·intro m i h5
    exfalso
    rw[Array.getD_eq_getD_getElem?,Array.getElem?_replicate] at h5
    split at h5<;>simp at h5
 |nil=>exact⟨[],rfl,fun k y h=>(by simp at h),trivial,rfl,fun _=>⟨fun e _ z h=>(by simp at h),List.Pairwise.nil⟩⟩
 |off h1 h2 ih=>
  exact ops_cons (.off h1) (fun _ e _ _=>by unfold logApart; simp[Eff?.rd,Eff?.wr]) (.inr ⟨rfl,rfl⟩) (fun e he=>he) ih
 |op h1 h2 h3 h4 h5 ih=>
  exact ops_cons (.op h1 h2 h3) (fun hd e he hf=>indep_ok (h4 hd) he hf) (.inl (List.mem_cons_self ..)) (fun e he=>List.mem_cons_of_mem _ he) ih
 |opc h1 h2 h3 h4 h5 h6 ih1 ih2=>
  exact ops_cons (.opc h1 h2 ih1 h4) (fun hd e he hf=>indep_ok (h5 hd) he hf) (.inl (List.mem_cons_self ..)) (fun e he=>List.mem_cons_of_mem _ he) ih2
 |ext h h2=>
  simp only[Sound]
  rw[h2]
  exact hX _ _ _ _ h
 |call h1 h2 h3 h4 h5 ih=>
  rename_i f fn args objs e σ' outs rets
  intro H hc Gc w vals hobjs hargs
  have hmf:=hF f fn h1
  unfold matchFun at hmf
  split at hmf
  ·rename_i g hg
   split at hmf
   ·rename_i c hbody
    simp only[Bool.and_eq_true,Bool.not_eq_true'] at hmf
    obtain⟨hname,hcode,hrets⟩:=hmf
    have hmo:modesOf F f=fn.modes:=by unfold modesOf; rw[h1]
    rw[hmo]
    let K:Nat→Nat→Option Value:=fun s c=>if∃x∈objs.filter (keepP fn.modes),x.1=(s,c,0) then some (hc (s,c,0)) else none
    have hgiv0:∀x∈objs,x.1.2.2=0:=fun x hx=>by
     have:=List.all_eq_true.1 h2 x hx
     simp only[Bool.and_eq_true,beq_iff_eq] at this
     exact this.1
    have hgiv:∀x∈objs.filter (keepP fn.modes),x.1.2.2=0∧fn.modes[x.1.1]?=some .io:=fun x hx=>by
     obtain⟨hx,hkp⟩:=List.mem_filter.1 hx
     have:=List.all_eq_true.1 h2 x hx
     simp only[Bool.and_eq_true,beq_iff_eq] at this
     refine⟨this.1,?_⟩
     have h6:=this.2
     split at h6
     ·assumption
     ·rename_i he
      unfold keepP at hkp
      rw[List.getD_eq_getElem?_getD,he] at hkp
      cases hkp
     ·cases h6
    have hK:∀i,i∉pinsOf fn→∀c,K i c=none:=fun i hi c=>by
     simp only[K]
     rw[if_neg]
     rintro⟨x,hx,e⟩
     apply hi
     have:=(hgiv x hx).2
     rw[e] at this
     simp only at this
     refine List.mem_filter.2 ⟨List.mem_range.2 (List.getElem?_eq_some_iff.1 this).1,?_⟩
     unfold ioAt; rw[this]
    have hKo:∀x∈objs.filter (keepP fn.modes),K x.1.1 x.1.2.1=some (hc x.1)∧x.1.2.2=0:=fun x hx=>by
     have h6:=(hgiv x hx).1
     have h7:x.1=(x.1.1,x.1.2.1,0):=by rw[← h6]
     refine⟨?_,h6⟩
     simp only[K]
     rw[if_pos ⟨x,hx,h7⟩,← h7]
    have R0:Rel H w K (enter args objs) {tmps:=vals++Array.replicate (g.ntmps - vals.size) undef,defers:=[]} w hc Gc:=by
     refine⟨fun i=>?_,hobjs,rfl,Below.refl _ _,fun s c v hk=>?_⟩
     ·rcases enterS_at hargs (j:=0) i with h6 |⟨_,v,h6,h7⟩
      ·show SVRel _ (getA SV.dead (enterS 0 args) i) _
       rw[h6]; simp only[SVRel]
      ·have hi:i < vals.size:=by
        have:=(List.getElem?_eq_some_iff.1 h6).1
        simpa using this
       have:(vals++Array.replicate (g.ntmps - vals.size) undef).getD i undef=v:=by
        rw[Array.getD_eq_getD_getElem?,Array.getElem?_append_left hi]
        simp only[Nat.sub_zero,Array.getElem?_toList] at h6
        rw[h6]; rfl
       show SVRel _ (getA SV.dead (enterS 0 args) i) _
       rw[this]; exact h7
     ·simp only[K] at hk
      split at hk
      ·injection hk with hk
       have hnone:objsO objs (s,c,1)=.none:=by
        cases ho:objsO objs (s,c,1) with
        |none=>rfl
        |dead=>exact absurd ho objsO_dead
        |moved j p=>exact absurd ho objsO_moved
        |live ob=>
         have:=hgiv0 _ (objsO_live ho)
         simp at this
       exact⟨hk,fun j p hm=>absurd hm objsO_moved,hnone⟩
      ·cases hk
    have hwp:=(ih g.ntmps (pinsOf fn) c hcode H w K hK _ w hc Gc R0 (by simp; omega)).1
    refine .inl ⟨⟨g,c,hg,hbody,hname⟩,calls_of_wp hg hbody (wp_mono hwp fun ex a' w' ⟨he,_,hv',G',R'⟩=>?_)⟩
    obtain⟨v,hv1,hv2⟩:=leave_ans (P:=P) R' hrets hKo h5
    subst he
    rcases h4 with rfl | rfl
    ·exact⟨R'.defers,v,hv1,v,rfl,hv2⟩
    ·exact⟨R'.defers,v,hv1,v,rfl,hv2⟩
   ·cases hmf
  ·cases hmf
end
end Go.Proofs.YtmdocdnidilaiaaGreat.V
