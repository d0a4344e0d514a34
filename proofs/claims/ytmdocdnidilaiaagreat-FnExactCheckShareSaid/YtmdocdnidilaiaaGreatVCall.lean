/- V: a call, as the caller sees it. -/
import Derived.Test.YtmdocdnidilaiaaGreatVBack
import Derived.Calls
namespace Go.Proofs.YtmdocdnidilaiaaGreat.V
open Go Frag Go.RowKit
def objsO (objs:List (Id × VObj)) (i:Id):OS:=getA .none (objs.map fun x=>(x.1,OS.live x.2)) i
def OutsO (H:Nat→Frag) (hc:Id→Value) (Gb:Id→Frag):List (Id × VObj)→List (List (List D))→Prop
 |[],outs=>outs=[]
 |x::l,outs=>∃rows m,outs=rows::m∧ORep H (.own x.2.k rows) (hc x.1) (Gb x.1)∧OutsO H hc Gb l m
theorem OutsO.items {H:Nat→Frag} {hc:Id→Value} {Gb:Id→Frag}:∀ {items:List GItem} {outs:List (List (List D))},OutsO H hc Gb (items.map fun x=>(x.c,x.ob)) outs→OutsRel H hc Gb items outs
 |[],_,h=>h
 |x::l,outs,h=>by
  simp only[List.map_cons,OutsO] at h
  obtain⟨rows,m,e,h1,h2⟩:=h
  exact⟨rows,m,e,h1,OutsO.items h2⟩
def ResV:List Value→Value→Prop
 |[u],v=>v=u
 |vs,v=>v=.tuple vs.toArray
def Ans (H:Nat→Frag) (hc:Id→Value) (objs:List (Id × VObj)) (outs:List (List (List D))) (rets:List Ret) (w w':World) (v:Value):Prop:=
 ∃vs Gb F,ResV vs v∧Below 0 w w'∧(∀l,(H l).inW w')∧OutsO (fun l=>H (l+1)) hc Gb objs outs∧RetsRel (fun l=>H (l+1)) rets vs F∧(∀c,(Gb c).inW w')∧F.inW w'∧
  (∀c c',c≠c'→Disj (Gb c) (Gb c'))∧(∀c,Disj (Gb c) F)∧(∀c l,Disj (Gb c) (H l))∧(∀l,Disj F (H l))
def Enter (P:Program) (f:FuncId):Prop:=∃fn c,P.funcs[f]?=some fn∧fn.body=some c∧(fn.name== "runtime.NumGoroutine")=false
def Runs (P:Program) (f:FuncId) (vals:Array Value) (w:World) (R:Value→World→Prop):Prop:=
 (Enter P f∧Calls P f vals w fun e w'=>∃v,e=.returned v∧R v w')∨∃v w',(callFunc f vals).run P w=.ok (.value v) w'∧R v w'
theorem Runs.mono {P:Program} {f:FuncId} {vals:Array Value} {w:World} {R R':Value→World→Prop} (h:Runs P f vals w R) (k:∀v w',R v w'→R' v w'):Runs P f vals w R':=by
 rcases h with⟨h1,h2⟩ |⟨v,w',h1,h2⟩
 ·exact .inl ⟨h1,Calls.mono h2 fun e w' ⟨v,h3,h4⟩=>⟨v,h3,k _ _ h4⟩⟩
 ·exact .inr ⟨v,w',h1,k _ _ h2⟩
def CallOK (P:Program) (f:FuncId) (args:List SV) (objs back:List (Id × VObj)) (outs:List (List (List D))) (rets:List Ret):Prop:=
 ∀(H:Nat→Frag) (hc:Id→Value) (Gc:Id→Frag) (w:World) (vals:Array Value),ObjsOK H (objsO objs) hc Gc w→SVRels ⟨H,objsO objs,hc,Gc⟩ args vals.toList→
  Runs P f vals w fun v w'=>Ans H hc back outs rets w w' v
theorem objsO_mem:∀ {items:List GItem},(items.Pairwise fun x y=>x.c≠y.c)→∀x∈items,objsO (items.map fun x=>(x.c,x.ob)) x.c=.live x.ob
 |[],_,x,h=>by cases h
 |y::l,hp,x,h=>by
  obtain⟨h1,h2⟩:=List.pairwise_cons.1 hp
  rcases List.mem_cons.1 h with rfl | h
  ·simp[objsO,getA]
  ·have:=h1 x h
   have ih:=objsO_mem h2 x h
   simp only[objsO,List.map_cons,getA] at ih⊢
   rw[if_neg this]; exact ih
theorem objsO_live {objs:List (Id × VObj)} {i:Id} {ob:VObj} (h:objsO objs i=.live ob):(i,ob)∈objs:=by
 induction objs with
 |nil=>simp[objsO,getA] at h
 |cons x l ih=>
  obtain⟨j,o⟩:=x
  simp only[objsO,List.map_cons,getA] at h
  split at h
  ·rename_i e
   cases h
   subst e
   exact List.mem_cons_self ..
  ·exact List.mem_cons_of_mem _ (ih h)
open Classical in
noncomputable def prot (H:Nat→Frag) (G:Id→Frag) (w:World):Frag:=fun b=>if(∃l o,H l b=some o)∨∃i o,G i b=some o then w.heap[b]? else none
noncomputable def below_ (H:Nat→Frag) (G:Id→Frag) (w:World):Nat→Frag
 |0=>prot H G w
 |l+1=>H l
theorem ObjsOK.inW {H O hv G w} (M:ObjsOK H O hv G w) {w':World} (h1:∀i,(G i).inW w') (h2:∀l,(H l).inW w'):ObjsOK H O hv G w':=⟨M.objs,M.gone,M.apart,h1,h2,M.sep⟩
section
variable {P:Program} {H:Nat→Frag} {O:Id→OS} {hv:Id→Value} {G:Id→Frag} {w:World}
theorem call_does {ms ms':List Mode} {svs vs:List SV} {vals:Array Value} {g:Give} {f:FuncId} {os:List (List (List D))} {rs:List Ret} {dst:Option Nat} {e:Eff} (M:ObjsOK H O hv G w) (hprep:prep O ms 0 ⟨[],[],[]⟩ svs=some (vs,g)) (hap:apartI g.rd (idsOf g.T)=true)
  (hsv:SVRels ⟨H,O,hv,G⟩ svs vals.toList) (hcall:CallOK P f vs g.objs (g.objs.filter (keepP ms')) os rs) (hb:behind O ms' g dst os rs=some e):
  Runs P f vals w fun v w'=>∃hv' G',Done H O hv G w dst e.sv e.objs v w' hv' G':=by
 obtain⟨G1,hc,Gc,S,_,_,hrel⟩:=prep_rel (H':=fun | 0=>emp | l+1=>H l) M (fun _=>rfl) (Giv.start M _) hsv hprep
 have hsubH:∀l,Sub (H l) (prot H G1 w):=fun l b o h=>by
  unfold prot
  rw[if_pos (.inl ⟨l,o,h⟩)]; exact M.prot l b o h
 have hsubG:∀i,Sub (G1 i) (prot H G1 w):=fun i b o h=>by
  unfold prot
  rw[if_pos (.inr ⟨i,o,h⟩)]; exact S.m.mem i b o h
 have hpw:(prot H G1 w).inW w:=fun b o h=>by
  unfold prot at h
  split at h
  ·exact h
  ·cases h
 have hdp:∀c,Disj (Gc c) (prot H G1 w):=fun c b=>by
  cases hb:Gc c b with
  |none=>exact .inl rfl
  |some o=>
   right
   unfold prot
   rw[if_neg]
   rintro(⟨l,o',h⟩ |⟨i,o',h⟩)
   ·rcases S.ap3 c l b with h2 | h2
    ·rw[hb] at h2; cases h2
    ·rw[h] at h2; cases h2
   ·rcases S.ap2 c i b with h2 | h2
    ·rw[hb] at h2; cases h2
    ·rw[h] at h2; cases h2
 have hobjs:ObjsOK (below_ H G1 w) (objsO g.objs) hc Gc w:=by
  constructor
  ·intro i ob h
   have:=objsO_live h
   simp only[Give.objs,List.mem_map,Prod.mk.injEq] at this
   obtain⟨x,hx,rfl,rfl⟩:=this
   exact(S.rep x hx).1 _ (fun l=>rfl)
  ·intro i h
   refine S.out i (fun x hx e=>?_)
   subst e
   exact h _ (objsO_mem S.uniq x hx)
  ·exact S.ap1
  ·exact S.mem
  ·intro l
   cases l with
   |zero=>exact hpw
   |succ l=>exact M.prot l
  ·intro c l
   cases l with
   |zero=>exact hdp c
   |succ l=>exact S.ap3 c l
 have hargs:SVRels ⟨below_ H G1 w,objsO g.objs,hc,Gc⟩ vs vals.toList:=by
  refine hrel _ ⟨fun x hx=>objsO_mem S.uniq x hx,fun _ _=>rfl,fun _ _=>rfl,fun _=>rfl⟩ ⟨hsubH,fun _=>rfl,fun i hi=>?_⟩
  have hni:i∉idsOf g.T:=fun hm=>by
   have:=List.all_eq_true.1 hap i hi
   simp[hm] at this
  rw[← S.keep i hni]
  exact hsubG i
 refine Runs.mono (hcall _ hc Gc w vals hobjs hargs) fun v w' ⟨us,Gb,F,hres,hbel,hHw,houts,hrets,hGb,hF,hbb,hbF,hbH,hFH⟩=>?_
 have hH':(fun l=>below_ H G1 w (l+1))=H:=rfl
 rw[hH'] at houts hrets
 have hpw':=hHw 0
 have hGw:∀i,(G1 i).inW w':=fun i b o h=>hpw' b o (hsubG i b o h)
 have hHw':∀l,(H l).inW w':=fun l=>hHw (l+1)
 have hbG:∀c i,Disj (Gb c) (G1 i):=fun c i=>Disj.sub (hbH c 0) (sub_refl _) (hsubG i)
 have hFG:∀i,Disj F (G1 i):=fun i=>Disj.sub (hFH 0) (sub_refl _) (hsubG i)
 let W:Id→Prop:=fun i=>∃x∈g.items,x.i=i∧x.q=[]
 have hit:∀x∈g.items.filter (keepI ms'),x∈g.items:=fun x hx=>(List.mem_filter.1 hx).1
 have B0:Backs H O hv W ⟨H,O,hv,G⟩ w' g.T G1 hc Gb F (g.items.filter (keepI ms')):=
  {m := S.m.inW hGw hHw', c := S.c.off W, none_ := S.none_, dead := S.dead, owed := fun x hx => S.src x (hit x hx), ap := fun x _ i => hbG _ i, f := hFG,
   whole:=fun i ⟨x,hx,e1,e2⟩=>by
    by_cases hk:keepI ms' x=true
    ·exact .inl ⟨x,List.mem_filter.2 ⟨hx,hk⟩,e1,e2⟩
    ·exact .inr (.inr (by rw[← e1]; exact((S.src x hx).1 e2).1))
   orig:=fun x hx=>S.orig x (hit x hx),
   offW:=fun x hx hq ⟨y,hy,e1,e2⟩=>by
    obtain⟨cur,h1,_⟩:=(S.src x (hit x hx)).2 hq
    have:=((S.src y hy).1 e2).1
    rw[e1,h1] at this; cases this
   xhv:=rfl}
 have houts:OutsO H hc Gb ((g.items.filter (keepI ms')).map fun x=>(x.c,x.ob)) os:=by
  have e:(g.items.filter (keepI ms')).map (fun x=>(x.c,x.ob))=g.objs.filter (keepP ms'):=by
   simp only[Give.objs,List.filter_map]; rfl
  rw[e]; exact houts
 unfold behind at hb
 split at hb
 ·rename_i T hT
  obtain⟨G2,B⟩:=refills_rel hGb (fun c l=>hbH c (l+1)) hbb hbF B0 (fun y hy hq=>⟨y,hit y hy,rfl,hq⟩) (S.uniq.filter _) (S.srcne.filter _) houts.items hT
  have hcar:=B.carry M
  have tame:∀d,Tame O T hv hv d:=fun d j _=>⟨rfl,B.dead j,B.none_ j⟩
  cases dst with
  |none=>
   simp only[Option.some.injEq] at hb
   subst hb
   exact⟨hv,G2,⟨B.m,hcar,by simp only[SVRel],hbel,tame _⟩⟩
  |some d=>
   simp only[] at hb
   split at hb
   ·rename_i svs1 T2 is hI
    simp only[Option.some.injEq] at hb
    subst hb
    have h0:Hand H O hv G w' d T hv G2 (F.un emp):=by
     rw[un_emp]
     exact⟨B.m,hcar,tame _,B.f,fun l=>hFH (l+1),hF⟩
    obtain⟨hv3,G3,S3,r3,_⟩:=importRs_rel h0 (disj_emp _) hrets hI
    refine⟨hv3,G3,⟨S3.m,S3.c,?_,hbel,S3.t⟩⟩
    match svs1,us,r3,hres with
    |[],us,r3,hres=>
     simp only[SVRels] at r3
     subst r3
     simp only[ResV] at hres
     subst hres
     simp only[tupV,SVRel]
     exact⟨[],rfl,by simp[SVRels]⟩
    |[s],us,r3,hres=>
     simp only[SVRels] at r3
     obtain⟨u,us',rfl,r4,rfl⟩:=r3
     simp only[ResV] at hres
     subst hres
     exact r4
    |s::s2::l,us,r3,hres=>
     have r3':=r3
     simp only[SVRels] at r3'
     obtain⟨u,us',rfl,_,u2,us2,rfl,_,_⟩:=r3'
     simp only[ResV] at hres
     subst hres
     simp only[tupV,SVRel]
     exact⟨_,rfl,r3⟩
   ·cases hb
 ·cases hb
end
end Go.Proofs.YtmdocdnidilaiaaGreat.V
