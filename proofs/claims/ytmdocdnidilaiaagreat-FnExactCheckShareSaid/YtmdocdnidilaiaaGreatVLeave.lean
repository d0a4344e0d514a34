/- V: a function's end. -/
import Derived.Test.YtmdocdnidilaiaaGreatVCall
import Derived.Test.YtmdocdnidilaiaaGreatVStep
import Derived.Laws.Sem
namespace Go.Proofs.YtmdocdnidilaiaaGreat.V
open Go Frag Go.RowKit
theorem ORep.upOne {H:Nat→Frag} {k:Nat} {ds ds':List D} {v:Value} {g:Frag} (h:ORep H (.own k [ds]) v g) (e:upL ds=some ds'):ORep (fun l=>H (l+1)) (.own k [ds']) v g:=by
 have hl:=upL_length e
 simp only[ORep] at h⊢
 rcases h with⟨hn,_⟩ |⟨b,off,cap,arr,t,fz,g',e2,e3,hb,hc,hk,ha,hz,hr⟩
 ·cases hn
 ·refine .inr ⟨b,off,cap,arr,t,fz,g',e2,e3,hb,hc,?_,ha,hz,?_⟩
  ·intro r hr'
   simp only[List.mem_singleton] at hr'
   subst hr'
   rw[hl]; exact hk _ (by simp)
  ·simp only[ORepR,List.length_singleton] at hr⊢
   obtain⟨v1,v2,g1,g2,q1,q2,d12,h1,h2⟩:=hr
   exact⟨v1,v2,g1,g2,q1,q2,d12,h1.up e,h2⟩
section
variable {P:Program} {H:Nat→Frag} {O:Id→OS} {hv:Id→Value} {G:Id→Frag} {w:World}
def ResRun (P:Program) (tmps:Array Value) (rv:ResultVar) (w:World) (v:Value):Prop:=
 match rv with
 |.tmp t=>v=tmps.getD t undef
 |.cell a t=>(do loadVar t (← asAddr (tmps.getD a undef)):Sem Value).run P w=.ok v w
def matchRet (P:Program) (r:RetSpec):ResultVar→Bool
 |.tmp t=>r.slot==t && r.cell.isNone
 |.cell a t=>r.slot==a &&(match r.cell with | some (agg,n)=>sizedOK P t agg n | none=>false)
theorem retOf_rel {T T':List (Id × OS)} {G':Id→Frag} {F:Frag} {r:RetSpec} {sv:SV} {ret:Ret} {tmps:Array Value} {rv:ResultVar} (S:Held H O hv G w T G' F) (hx:SVRel ⟨H,O,hv,G⟩ sv (tmps.getD r.slot undef)) (hm:matchRet P r rv=true) (e:retOf O T r sv=some (ret,T')):
  ∃G'' g v,RetRel (fun l=>H (l+1)) ret v g∧Disj F g∧Held H O hv G w T' G'' (F.un g)∧ResRun P tmps rv w v:=by
 cases sv with
 |dead=>simp[retOf] at e
 |tup _=>simp[retOf] at e
 |bptr _ _=>simp[retOf] at e
 |clo _ _ _=>simp[retOf] at e
 |one c=>
  simp only[retOf] at e
  split at e
  ·cases e
  ·rename_i hc
   split at e
   ·rename_i d T1 ht
    split at e
    ·rename_i d' hu
     simp only[Option.some.injEq,Prod.mk.injEq] at e
     obtain⟨rfl,rfl⟩:=e
     simp only[SVRel] at hx
     obtain⟨G'',g,h1,h2,h3⟩:=S.takeC hx ht
     refine⟨G'',g,_,h1.up hu,h2,h3,?_⟩
     cases rv with
     |tmp t=>simp only[matchRet,Bool.and_eq_true,beq_iff_eq] at hm; simp only[ResRun]; rw[hm.1]
     |cell a t=>
      simp only[matchRet,Bool.and_eq_true] at hm
      cases hrc:r.cell with
      |none=>rw[hrc] at hm; simp at hm
      |some _=>rw[hrc] at hc; simp at hc
    ·cases e
   ·cases e
 |agg cs=>
  simp only[retOf] at e
  split at e
  ·cases e
  ·rename_i hc
   split at e
   ·rename_i ds T1 ht
    split at e
    ·rename_i ds' hu
     simp only[Option.some.injEq,Prod.mk.injEq] at e
     obtain⟨rfl,rfl⟩:=e
     simp only[SVRel] at hx
     obtain⟨vs,ev,hx⟩:=hx
     obtain⟨G'',g,h1,h2,h3⟩:=S.takeCs hx ht
     refine⟨G'',g,_,⟨vs,ev,h1.up hu⟩,h2,h3,?_⟩
     cases rv with
     |tmp t=>simp only[matchRet,Bool.and_eq_true,beq_iff_eq] at hm; simp only[ResRun]; rw[hm.1]
     |cell a t=>
      simp only[matchRet,Bool.and_eq_true] at hm
      cases hrc:r.cell with
      |none=>rw[hrc] at hm; simp at hm
      |some _=>rw[hrc] at hc; simp at hc
    ·cases e
   ·cases e
 |ptr p=>
  simp only[retOf] at e
  split at e
  ·rename_i ob hp hl
   split at e
   ·rename_i ds hrows
    split at e
    ·rename_i hc
     split at e
     ·rename_i ds' hu
      have hO:=look_live hl
      have hx':=hx.carry S.c
      simp only[SVRel,PtrRel] at hx'
      obtain⟨_,_,h3⟩:=hx'
      obtain⟨k',rows',b,o,len,cap,hat,hr1,hr2,ev⟩:=h3 ob (by rw[hp]; exact hl)
      rw[hp] at hat
      obtain⟨e1,e2⟩:=hat.nil_eq
      simp only[D.own.injEq] at e1
      obtain⟨rfl,rfl⟩:=e1
      obtain⟨c1,c2,c3⟩:=hc
      rw[c1,c2] at ev
      simp only[Nat.zero_mul,Nat.add_zero] at ev
      have hobj:=S.m.objs _ _ hO
      obtain⟨hself1,hself2⟩:=hobj.self
      obtain⟨G'',g,hg,hd,S2⟩:=S.takeAt (r:=⟨p.id,[],0,0⟩) hl (.nil:At (G' p.id) (.own ob.k ob.rows) (hv p.id) [] (.own ob.k ob.rows) (hv p.id))
      have hh:hollow ob []=.dead:=by simp[hollow]
      rw[hh] at S2
      rw[hrows] at hg
      have hup:=hg.upOne hu
      have hk:ds.length=ob.k:=own_k hg ds (by simp)
      have hl':=upL_length hu
      have hcells:∃arr t fz g',hv p.id=.slice (some ⟨b,o,none⟩) 1 cap∧w.heap[b]?=some (.cells arr t fz)∧ORepL (fun l=>H (l+1)) ds' ((arr.toList.drop o).take ds'.length) g'∧Sub g' g:=by
       have hup':=hup
       simp only[ORep] at hup'
       rcases hup' with⟨hn,_⟩ |⟨b',o',cap',arr,t,fz,g',q1,q2,q3,q4,q5,q6,q7,q8⟩
       ·cases hn
       ·rw[q1] at e2
        simp only[List.length_singleton,Value.slice.injEq,Option.some.injEq,Addr.mk.injEq] at e2
        obtain⟨⟨rfl,rfl,_⟩,_,rfl⟩:=e2
        simp only[ORepR,List.length_singleton,Nat.one_mul] at q8
        obtain⟨v1,v2,g1,g2,r1,r2,_,r3,rfl,rfl⟩:=q8
        rw[List.append_nil] at r1
        rw[un_emp] at r2
        subst r2
        refine⟨arr,t,fz,g',q1,S2.w _ _ (sub_un_right hd _ _ (by rw[q2]; exact one_un_at _ _ _)),?_,by rw[q2]; exact sub_un_right (disj_one q3)⟩
        rw[hl',hk,r1]; exact r3
      obtain⟨arr,t,fz,g',q1,q2,q3,q4⟩:=hcells
      have hF:Disj F g':=Disj.sub hd (sub_refl _) q4
      have less:Sub (F.un g') (F.un g):=un_sub (sub_un_left _ _) (Sub.trans q4 (sub_un_right hd))
      have S3:Held H O hv G w ((p.id,.dead)::T) G'' (F.un g'):=⟨S2.m,S2.c,fun i=>Disj.sub (S2.d i) less (sub_refl _),fun l=>Disj.sub (S2.h l) less (sub_refl _),fun b o x=>S2.w b o (less b o x),S2.sub,fun b o x=>S2.from_ b o (less b o x),S2.dead,S2.none_⟩
      cases rv with
      |tmp t'=>
       simp only[matchRet,Bool.and_eq_true,beq_iff_eq] at hm
       have hrc:r.cell=none:=by simpa using hm.2
       rw[hrc] at e
       simp only[Option.some.injEq,Prod.mk.injEq] at e
       obtain⟨rfl,rfl⟩:=e
       refine⟨G'',g,_,⟨b,o,1,cap,rfl,?_⟩,hd,S2,by simp only[ResRun]; rw[← hm.1]; exact ev.symm⟩
       rw[hl',hk,← q1]; exact hup
      |cell a t'=>
       simp only[matchRet,Bool.and_eq_true,beq_iff_eq] at hm
       have hload:∀(agg:Bool) (n:Nat) (v:Value),Sized P t' agg n→ds'.length=n→(agg=true→v=.agg ((arr.toList.drop o).take ds'.length).toArray)→(agg=false→(arr.toList.drop o).take ds'.length=[v])→ResRun P tmps (.cell a t') w v:=by
        intro agg n v h1 h2 h3 h4
        simp only[ResRun,run_bind]
        rw[← hm.1,ev]
        simp only[asAddr,run_pure]
        exact loadVar_run h1 (by rw[q3.length,h2]) (stretch_cells q2) h3 h4
       cases hrc:r.cell with
       |none=>rw[hrc] at hm; simp at hm
       |some an=>
        obtain⟨agg,n⟩:=an
        rw[hrc] at hm e
        have hs:=sizedOK_ok hm.2
        cases agg with
        |true=>
         simp only at e
         split at e
         ·rename_i hn
          simp only[Option.some.injEq,Prod.mk.injEq] at e
          obtain⟨rfl,rfl⟩:=e
          exact⟨G'',g',_,⟨_,rfl,q3⟩,hF,S3,hload _ _ _ hs hn (fun _=>rfl) (fun h=>by cases h)⟩
         ·cases e
        |false=>
         match ds',e,q3,hload,hs with
         |[],e,_,_,_=>simp at e
         |[d],e,q3,hload,hs=>
          simp only at e
          split at e
          ·rename_i hn
           simp only[Option.some.injEq,Prod.mk.injEq] at e
           obtain⟨rfl,rfl⟩:=e
           have hlen:=q3.length
           generalize hvs:(arr.toList.drop o).take [d].length=vs at q3 hlen hload
           match vs,hlen with
           |[u],_=>exact⟨G'',g',u,own_cell q3,hF,S3,hload _ _ _ hs (by simp[hn]) (fun h=>by cases h) (fun _=>rfl)⟩
          ·cases e
         |_::_::_,e,_,_,_=>simp at e
     ·cases e
    ·cases e
   ·cases e
  ·cases e
def mRets (P:Program):List RetSpec→List ResultVar→Bool
 |[],[]=>true
 |r::l,v::m=>matchRet P r v && mRets P l m
 |_,_=>false
theorem retsOf_rel {σ:St} {tmps:Array Value} (hO:σ.obj=O) (hs:∀i,SVRel ⟨H,O,hv,G⟩ (σ.slot i) (tmps.getD i undef)):∀ {rs:List RetSpec} {rvs:List ResultVar} {rets:List Ret} {T T':List (Id × OS)} {G':Id→Frag} {F:Frag},
  Held H O hv G w T G' F→mRets P rs rvs=true→retsOf σ T rs=some (rets,T')→
  ∃G'' g vs,RetsRel (fun l=>H (l+1)) rets vs g∧Disj F g∧Held H O hv G w T' G'' (F.un g)∧vs.length=rvs.length∧∀(j:Nat) (rv:ResultVar) (v:Value),rvs[j]?=some rv→vs[j]?=some v→ResRun P tmps rv w v
 |[],[],rets,T,T',G',F,S,_,e=>by
  simp only[retsOf,Option.some.injEq,Prod.mk.injEq] at e
  obtain⟨rfl,rfl⟩:=e
  exact⟨G',emp,[],by simp[RetsRel],disj_emp _,by rw[un_emp]; exact S,rfl,fun j rv v h=>by simp at h⟩
 |[],_::_,_,_,_,_,_,_,h,_=>by simp[mRets] at h
 |_::_,[],_,_,_,_,_,_,h,_=>by simp[mRets] at h
 |r::rs,rv::rvs,rets,T,T',G',F,S,hm,e=>by
  simp only[mRets,Bool.and_eq_true] at hm
  simp only[retsOf,hO] at e
  split at e
  ·rename_i ret T1 e1
   split at e
   ·rename_i rets1 T2 e2
    simp only[Option.some.injEq,Prod.mk.injEq] at e
    obtain⟨rfl,rfl⟩:=e
    obtain⟨G1,g1,v,h1,h2,h3,h4⟩:=retOf_rel (P:=P) S (hs r.slot) hm.1 e1
    obtain⟨G2,g2,vs,k1,k2,k3,k4,k5⟩:=retsOf_rel hO hs h3 hm.2 e2
    obtain⟨k6,k7⟩:=un_disj.1 k2
    refine⟨G2,g1.un g2,v::vs,?_,disj_un.2 ⟨h2,k6⟩,by rw[← un_assoc]; exact k3,by simp[k4],?_⟩
    ·simp only[RetsRel]
     exact⟨v,vs,g1,g2,rfl,rfl,k7,h1,k1⟩
    ·intro j rv' v' hj hv'
     cases j with
     |zero=>simp at hj hv'; subst hj hv'; exact h4
     |succ j=>exact k5 j rv' v' (by simpa using hj) (by simpa using hv')
   ·cases e
  ·cases e
theorem outsOf_rel {O':Id→OS} {G':Id→Frag} {hc:Id→Value} (M:ObjsOK H O' hv G' w):∀ {objs:List (Id × VObj)} {outs:List (List (List D))},(∀x∈objs,∀ob,O' x.1=.live ob→hv x.1=hc x.1)→outsOf O' objs=some outs→OutsO (fun l=>H (l+1)) hc G' objs outs
 |[],outs,_,e=>by simp only[outsOf,Option.some.injEq] at e; subst e; rfl
 |(i,o)::l,outs,hp,e=>by
  simp only[outsOf] at e
  split at e
  ·rename_i ob r hl hr
   split at e
   ·rename_i hk
    split at e
    ·rename_i rows hu
     simp only[Option.some.injEq] at e
     subst e
     simp only[OutsO]
     refine⟨rows,r,rfl,?_,outsOf_rel M (fun x hx=>hp x (List.mem_cons_of_mem _ hx)) hr⟩
     rw[← hk,← hp (i,o) (List.mem_cons_self ..) ob hl]
     exact(M.objs i ob hl).upR hu
    ·cases e
   ·cases e
  ·cases e
def Parts (H:Nat→Frag) (hv:Id→Value):List (Id × VObj)→Frag→Prop
 |[],g=>g=emp
 |x::l,g=>∃g1 g2,g=g1.un g2∧Disj g1 g2∧ORep H (.own x.2.k x.2.rows) (hv x.1) g1∧Parts H hv l g2∧∀y∈l,y.1≠x.1
theorem takesM_rel:∀ {objs:List (Id × VObj)} {T T2:List (Id × OS)} {ms:List (Id × VObj)} {G':Id→Frag} {F:Frag},Held H O hv G w T G' F→(∀x∈objs,∀j p,O x.1=.moved j p→MovedAt ⟨H,O,hv,G⟩ j p (hv x.1))→takesM O T objs=some (T2,ms)→
  ∃G2 g,Held H O hv G w T2 G2 (F.un g)∧Disj F g∧Parts H hv ms g∧∀x∈ms,∃j p,O x.1=.moved j p
 |[],T,T2,ms,G',F,S,_,e=>by
  simp only[takesM,Option.some.injEq,Prod.mk.injEq] at e
  obtain⟨rfl,rfl⟩:=e
  exact⟨G',emp,by rw[un_emp]; exact S,disj_emp _,rfl,fun x h=>by cases h⟩
 |(i,o0)::l,T,T2,ms,G',F,S,hM,e=>by
  have hM':∀x∈l,∀j p,O x.1=.moved j p→MovedAt ⟨H,O,hv,G⟩ j p (hv x.1):=fun x hx=>hM x (List.mem_cons_of_mem _ hx)
  simp only[takesM] at e
  split at e
  ·rename_i j p hmv
   split at e<;>try cases e
   rename_i o hl
   split at e<;>try cases e
   rename_i k rows hn
   split at e<;>try cases e
   rename_i T3 ms3 h3
   split at e<;>try cases e
   rename_i hall
   have hma:=(hM (i,o0) (List.mem_cons_self ..) j p hmv).carry S.c
   obtain⟨k1,rows1,hat⟩:=hma.2 o hl
   have hn2:=hat.nav
   rw[hn] at hn2
   simp only[Option.some.injEq,Prod.mk.injEq] at hn2
   obtain⟨rfl,rfl⟩:=hn2
   obtain⟨G1,g1,r1,d1,S1⟩:=S.takeAt (r:=⟨j,p,0,0⟩) hl hat
   obtain⟨G2,g2,S2,d2,P2,M2⟩:=takesM_rel S1 hM' h3
   obtain⟨d3,d4⟩:=un_disj.1 d2
   refine⟨G2,g1.un g2,by rw[← un_assoc]; exact S2,disj_un.2 ⟨d1,d3⟩,⟨g1,g2,rfl,d4,r1,P2,fun y hy=>?_⟩,fun x hx=>?_⟩
   ·have:=List.all_eq_true.1 hall y hy
    simpa using this
   ·rcases List.mem_cons.1 hx with rfl | hx
    ·exact⟨j,p,hmv⟩
    ·exact M2 x hx
  ·exact takesM_rel S hM' e
theorem put_one {O2:Id→OS} {G2:Id→Frag} (M:ObjsOK H O2 hv G2 w) {c:Id} {ob:VObj} {g:Frag} (hc:∀ob,O2 c≠.live ob) (hr:ORep H (.own ob.k ob.rows) (hv c) g) (hd:∀i,Disj g (G2 i)) (hh:∀l,Disj g (H l)) (hw:g.inW w):
  ObjsOK H (fun i=>if c=i then .live ob else O2 i) hv (fun i=>if c=i then g else G2 i) w where
 objs i ob' e:=by
  try dsimp only at e⊢
  by_cases h:c=i
  ·rw[if_pos h] at e⊢; cases e; rw[← h]; exact hr
  ·rw[if_neg h] at e⊢; exact M.objs i ob' e
 gone i e:=by
  try dsimp only at e⊢
  by_cases h:c=i
  ·exact absurd (if_pos h) (e ob)
  ·rw[if_neg h]; exact M.gone i (fun ob hob=>e ob (by rw[if_neg h]; exact hob))
 apart i j hij:=by
  try dsimp only
  by_cases h:c=i
  ·by_cases h':c=j
   ·exact absurd (h.symm.trans h') hij
   ·rw[if_pos h,if_neg h']; exact hd j
  ·by_cases h':c=j
   ·rw[if_neg h,if_pos h']; exact(hd i).comm
   ·rw[if_neg h,if_neg h']; exact M.apart i j hij
 mem i:=by
  try dsimp only
  by_cases h:c=i
  ·rw[if_pos h]; exact hw
  ·rw[if_neg h]; exact M.mem i
 prot:=M.prot
 sep i l:=by
  try dsimp only
  by_cases h:c=i
  ·rw[if_pos h]; exact hh l
  ·rw[if_neg h]; exact M.sep i l
theorem ov_putM_out {T:List (Id × OS)}:∀ {ms:List (Id × VObj)} {i:Id},(∀y∈ms,y.1≠i)→ov O (putM ms T) i=ov O T i
 |[],i,_=>rfl
 |x::l,i,h=>by
  show ov O ((x.1,.live x.2)::putM l T) i=_
  rw[ov_cons]
  dsimp only
  rw[if_neg (h x (List.mem_cons_self ..))]
  exact ov_putM_out fun y hy=>h y (List.mem_cons_of_mem _ hy)
theorem put_rel {T:List (Id × OS)} {G2:Id→Frag} (M:ObjsOK H (ov O T) hv G2 w):∀ {ms:List (Id × VObj)} {g:Frag},Parts H hv ms g→(∀i,Disj g (G2 i))→(∀l,Disj g (H l))→g.inW w→(∀x∈ms,∀ob,ov O T x.1≠.live ob)→
  ∃G3,ObjsOK H (ov O (putM ms T)) hv G3 w∧∀A:Frag,(∀i,Disj A (G2 i))→Disj A g→∀i,Disj A (G3 i)
 |[],g,_,_,_,_,_=>⟨G2,M,fun A h _=>h⟩
 |x::l,g,⟨g1,g2,hg,hd12,hr,hP,hne⟩,hd,hh,hw,hl=>by
  subst hg
  have a1:∀i,Disj g1 (G2 i):=fun i=>(un_disj.1 (hd i)).1
  have a2:∀i,Disj g2 (G2 i):=fun i=>(un_disj.1 (hd i)).2
  have w1:g1.inW w:=fun b o e=>hw b o (sub_un_left _ _ _ _ e)
  have w2:g2.inW w:=fun b o e=>hw b o (sub_un_right hd12 _ _ e)
  obtain⟨G3,M3,hA⟩:=put_rel M hP a2 (fun l=>(un_disj.1 (hh l)).2) w2 (fun y hy=>hl y (List.mem_cons_of_mem _ hy))
  have hd3:∀i,Disj g1 (G3 i):=hA g1 a1 hd12
  have M4:=put_one M3 (c:=x.1) (ob:=x.2) (g:=g1) (fun ob=>by rw[ov_putM_out hne]; exact hl x (List.mem_cons_self ..) ob) hr hd3 (fun l=>(un_disj.1 (hh l)).1) w1
  have hO:ov O (putM (x::l) T)=fun i=>if x.1=i then .live x.2 else ov O (putM l T) i:=by
   funext i
   show ov O ((x.1,.live x.2)::putM l T) i=_
   rw[ov_cons]
  rw[← hO] at M4
  refine⟨_,M4,fun A h1 h2 i=>?_⟩
  obtain⟨b1,b2⟩:=disj_un.1 h2
  try dsimp only
  by_cases h:x.1=i
  ·rw[if_pos h]; exact b1
  ·rw[if_neg h]; exact hA A h1 b2 i
end
end Go.Proofs.YtmdocdnidilaiaaGreat.V
