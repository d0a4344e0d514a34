/- V: a function's results, run. -/
import Derived.Test.YtmdocdnidilaiaaGreatVLeave
namespace Go.Proofs.YtmdocdnidilaiaaGreat.V
open Go Frag Go.RowKit
def resOne (tmps:Array Value):ResultVar→Sem Value
 |.tmp t=>Pure.pure (tmps.getD t undef)
 |.cell a t=>do loadVar t (← asAddr (tmps.getD a undef))
theorem run_list {P:Program} {w:World} {tmps:Array Value}:∀ {rvs:List ResultVar} {vs:List Value},vs.length=rvs.length→(∀(j:Nat) (rv:ResultVar) (v:Value),rvs[j]?=some rv→vs[j]?=some v→ResRun P tmps rv w v)→
  (rvs.mapM (resOne tmps)).run P w=.ok vs w
 |[],[],_,_=>rfl
 |[],_::_,h,_=>by simp at h
 |_::_,[],h,_=>by simp at h
 |rv::rvs,v::vs,h,hr=>by
  have h1:=hr 0 rv v rfl rfl
  have ih:=run_list (rvs:=rvs) (vs:=vs) (by simpa using h) (fun j rv v a b=>hr (j+1) rv v (by simpa using a) (by simpa using b))
  simp only[List.mapM_cons,run_bind]
  have hone:(resOne tmps rv).run P w=.ok v w:=by
   cases rv with
   |tmp t=>simp only[ResRun] at h1; rw[h1]; rfl
   |cell a t=>exact h1
  simp only[hone,ih,run_pure]
theorem run_results {P:Program} {w:World} {fn:Func} {tmps:Array Value} {vs:List Value} (hl:vs.length=fn.results.toList.length) (hr:∀(j:Nat) (rv:ResultVar) (v:Value),fn.results.toList[j]?=some rv→vs[j]?=some v→ResRun P tmps rv w v):
  ∃v,(results fn tmps).run P w=.ok v w∧ResV vs v:=by
 have h:=run_list (P:=P) (w:=w) (tmps:=tmps) hl hr
 have hm:(fn.results.mapM (resOne tmps)).run P w=.ok vs.toArray w:=by
  rw[Array.mapM_eq_mapM_toList]
  simp only[Functor.map]
  show ((fn.results.toList.mapM (resOne tmps)) >>=fun x=>Pure.pure x.toArray).run P w=_
  rw[run_bind,h]; rfl
 have he : results fn tmps = (do
   let vs ← fn.results.mapM (resOne tmps)
   Pure.pure (if h:vs.size=1 then vs[0] else .tuple vs)):=by
  unfold results
  congr 1
 rw[he,run_bind,hm]
 refine⟨_,rfl,?_⟩
 match vs with
 |[]=>simp[ResV]
 |[u]=>simp[ResV]
 |u::u2::l=>simp[ResV]
theorem leave_ans {P:Program} {H:Nat→Frag} {w0 w:World} {K:Nat→Nat→Option Value} {σ:St} {a:Act} {hv hc:Id→Value} {G:Id→Frag} (R:Rel H w0 K σ a w hv G) {fn:VFun} {func:Func} {objs:List (Id × VObj)} {outs:List (List (List D))} {rets:List Ret}
  (hm:mRets P fn.rets func.results.toList=true) (hK:∀x∈objs,K x.1.1 x.1.2.1=some (hc x.1)∧x.1.2.2=0) (e:leave fn objs σ=some (outs,rets)):
  ∃v,(results func a.tmps).run P w=.ok v w∧Ans H hc objs outs rets w0 w v:=by
 unfold leave at e
 split at e<;>try cases e
 rename_i rs T he
 split at e<;>try cases e
 rename_i T2 ms hms
 split at e<;>try cases e
 rename_i os ho
 have hpin:∀x∈objs,hv x.1=hc x.1∧∀j p,σ.obj x.1=.moved j p→MovedAt ⟨H,σ.obj,hv,G⟩ j p (hv x.1):=fun x hx=>by
  obtain⟨k1,k2⟩:=hK x hx
  have hx3:x.1=(x.1.1,x.1.2.1,0):=by rw[← k2]
  obtain⟨p1,p2,_⟩:=R.pin _ _ _ k1
  rw[← hx3] at p1 p2
  exact⟨p1,fun j p h=>by rw[p1]; exact p2 j p h⟩
 obtain⟨G',g,vs,h1,hd0,S,h3,h4⟩:=retsOf_rel (P:=P) (tmps:=a.tmps) rfl R.slots (Held.start R.m) hm he
 rw[emp_un] at S
 obtain⟨G2,gm,S2,hd,hP,hmv⟩:=takesM_rel S (fun x hx=>(hpin x hx).2) hms
 obtain ⟨G3, M3, hA⟩ := put_rel S2.m hP (fun i => (un_disj.1 (S2.d i)).2) (fun l => (un_disj.1 (S2.h l)).2) (fun b o e => S2.w b o (sub_un_right hd _ _ e)) (fun x hx ob h => by
  obtain⟨j,p,hj⟩:=hmv x hx
  obtain⟨ob',h'⟩:=S2.dead _ _ h
  rw[hj] at h'; cases h')
 have hg3:∀c,Disj g (G3 c):=hA g (fun i=>(un_disj.1 (S2.d i)).1) hd
 obtain⟨v,hv1,hv2⟩:=run_results h3 h4
 refine⟨v,hv1,vs,G3,g,hv2,R.below,R.m.prot,?_,h1,M3.mem,S.w,M3.apart,fun c=>(hg3 c).comm,M3.sep,S.h⟩
 exact outsOf_rel M3 (fun x hx ob _=>(hpin x hx).1) ho
end Go.Proofs.YtmdocdnidilaiaaGreat.V
