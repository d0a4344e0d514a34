/- V: stores, objects that change hands, values built of parts, strings out of bytes. -/
import Derived.Test.YtmdocdnidilaiaaGreatVOpsG
namespace Go.Proofs.YtmdocdnidilaiaaGreat.V
open Go Frag Go.RowKit
set_option linter.unusedSimpArgs false
theorem stale_mem {l:List (Path × Bool)} {p q:Path} (h:(p,false)∈l) (hp:p <+:q):staleAt l q=true:=by
 induction l with
 |nil=>cases h
 |cons x l ih=>
  obtain⟨p',s⟩:=x
  simp only[staleAt,Bool.or_eq_true]
  rcases List.mem_cons.1 h with e | e
  ·left
   cases e
   simp[List.isPrefixOf_iff_prefix.2 hp]
  ·exact .inr (ih e)
theorem stale_append {l m:List (Path × Bool)} {q:Path} (h:staleAt (l++m) q=false):staleAt m q=false:=by
 induction l with
 |nil=>exact h
 |cons x l ih=>
  obtain⟨p',s⟩:=x
  simp only[List.cons_append,staleAt,Bool.or_eq_false_iff] at h
  exact ih h.2
theorem covered_mem {p:Path} {i:Nat}:∀ {l:List D} {off j:Nat} {d:D},l[j]?=some d→isOwn d=true→(p++ [(i,off+j)],false)∈covered p i off l
 |[],off,j,d,h,_=>by simp at h
 |x::l,off,0,d,h,hd=>by
  simp at h; subst h
  simp[covered,hd]
 |x::l,off,j+1,d,h,hd=>by
  have ih:=covered_mem (p:=p) (i:=i) (off:=off+1) (by simpa using h:l[j]?=some d) hd
  have e:off+1+j=off+(j+1):=by omega
  rw[e] at ih
  simp only[covered]
  split
  ·exact List.mem_cons_of_mem _ ih
  ·exact ih
theorem At.own_of {g:Frag} {d v x p d' v'} (h:At g d v (x::p) d' v'):∃k rows,d=.own k rows:=by
 cases h with
 |cons _ _ _ _ _=>exact⟨_,_,rfl⟩
theorem At.cell_at {g:Frag} {k rows v p i j d' c' k' rows' row} (h:At g (.own k rows) v (p++ [(i,j)]) d' c') (hn:V.nav k rows p=some (k',rows')) (hi:rows'[i]?=some row):row[j]?=some d':=by
 obtain⟨d1,v1,h1,h2⟩:=h.split
 obtain⟨k2,rows2,rfl⟩:=h2.own_of
 have:=h1.nav
 rw[hn] at this
 simp only[Option.some.injEq,Prod.mk.injEq] at this
 obtain⟨rfl,rfl⟩:=this
 cases h2 with
 |cons hb hi2 hj hc m=>
  rw[hi] at hi2; cases hi2
  obtain⟨rfl,_⟩:=m.nil_eq
  exact hj
section
variable {P:Program} {ρ:Operand→Value} {H:Nat→Frag} {O:Id→OS} {hv:Id→Value} {G:Id→Frag} {w:World} {dst:Option Nat} {type:TypeId} {pos:String} {af:Array Edge} {gd:Option (Nat × Bool)}
theorem d_store {t n:Nat} {i:TypeInfo} {x y:Operand} {sx:SV} {p:Ptr} {cs:List CV} {ds:List D} {T:List (Id × OS)} {o:VObj} {k:Nat} {rows:List (List D)} {row:List D} (M:ObjsOK H O hv G w) (hi:P.info? t=some i) (hn:i.size=n)
  (hp:SVRel ⟨H,O,hv,G⟩ (.ptr p) (ρ y)) (hx:SVRel ⟨H,O,hv,G⟩ sx (ρ x)) (hcs:sx.cells=some cs) (hpn:p.n=n) (hcn:cs.length=n) (ht:takeCs O [] cs=some (ds,T)) (hr:rowAt (ov O T) p=some (o,k,rows,row)):
  Does P ρ ⟨none,.store t y x,type,pos,af,gd⟩ H O hv G w .dead ((p.id,.live {o with rows:=setNav o.rows p.path (rows.set p.row (splice row p.off ds)),dirty:=covered p.path p.row p.off ((row.drop p.off).take n)++o.dirty})::T):=by
 obtain⟨vs,ev,hvs⟩:=hx.cells hcs
 obtain⟨G',F,ho,_,S⟩:=(Held.start M).takeCs hvs ht
 rw[emp_un] at S
 obtain⟨hl,hnav,hrow,hlen⟩:=rowAt_parts hr
 have hO:=look_live hl
 have hp':SVRel ⟨H,ov O T,hv,G'⟩ (.ptr p) (ρ y):=hp.carry S.c
 simp only[SVRel,PtrRel] at hp'
 obtain⟨_,_,h3⟩:=hp'
 obtain⟨k2,rows2,b2,o2,len2,cap2,hat2,_,_,ep⟩:=h3 o hl
 have hobj:=S.m.objs _ _ hO
 obtain⟨b,of,cap,arr,t',fz,gs,gr,hat,eg,dsr,hsb,hrb,hk,hc,hin,hz,hseg,hput⟩:=hobj.change hnav hrow hlen
 obtain⟨e0,e1⟩:=hat2.det hat
 simp only[D.own.injEq] at e0
 obtain⟨rfl,rfl⟩:=e0
 simp only[Value.slice.injEq,Option.some.injEq,Addr.mk.injEq] at e1
 obtain⟨⟨rfl,rfl,_⟩,rfl,rfl⟩:=e1
 subst hpn
 have hGb:G' p.id b2=some (.cells arr t' fz):=by rw[eg]; exact one_un_at _ _ _
 have hwb:=S.m.mem _ _ _ hGb
 have hdF:=S.d p.id
 rw[eg] at hdF
 obtain⟨hd1,hd2⟩:=disj_un.1 hdF
 obtain⟨hd3,hd4⟩:=disj_un.1 hd2
 have hFb:F b2=none:=none_of_disj_one hd1.comm
 have hvl:vs.length=p.n:=by rw[hvs.length,hcn]
 have hdl:ds.length=p.n:=by rw[← ho.length]; exact hvl
 obtain⟨w',hst,hwb',hoth,hbel,hsz⟩:=run_storeCells (P:=P) (b:=b2) (o:=o2+p.row*k2+p.off) (t:=t') (fz:=fz) vs 0 hwb (by omega) hz ho.oneCells
 rw[Nat.add_zero] at hwb'
 obtain⟨hnew,htr⟩:=hput ds vs F ho hdl hd4 hFb
 have hsubr:Sub gr (G' p.id):=by rw[eg]; exact Sub.trans (sub_un_right dsr) (sub_un_right (disj_one (un_none.2 ⟨hsb,hrb⟩)))
 have hkeep:∀ {z:Frag},z b2=none→z.inW w→z.inW w':=by
  intro z hzb hz b' o' h
  have:b'≠b2:=by rintro rfl; rw[hzb] at h; cases h
  rw[hoth b' this]; exact hz b' o' h
 have hnb:∀x,x≠p.id→G' x b2=none:=by
  intro x hx
  rcases S.m.apart x p.id hx b2 with h | h
  ·exact h
  ·rw[hGb] at h; cases h
 have hHb:∀l,H l b2=none:=by
  intro l
  rcases S.m.sep p.id l b2 with h | h
  ·rw[hGb] at h; cases h
  ·exact h
 have hdom:∀ {z:Frag},Disj (G' p.id) z→Disj F z→Disj ((one b2 (.cells (over arr (o2+p.row*k2+p.off) vs) t' fz)).un (F.un gr)) z:=by
  intro z h1 h2
  have hzb:z b2=none:=by
   rcases h1 b2 with h | h
   ·rw[hGb] at h; cases h
   ·exact h
  exact un_disj.2 ⟨disj_one hzb,un_disj.2 ⟨h2,Disj.sub h1 hsubr (sub_refl _)⟩⟩
 refine⟨.skip,undef,w',hv,fun x=>if p.id=x then(one b2 (.cells (over arr (o2+p.row*k2+p.off) vs) t' fz)).un (F.un gr) else G' x,?_,.inr ⟨rfl,rfl⟩,?_⟩
 ·simp only[execOp,ep]
  have hcs':(ρ x).cells.size=i.size:=by rw[ev]; simp[hvl,hn]
  simp only[Instr.storeAt,run_bind,Instr.sureAddr,run_pure,storeVar,run_sizeOf hi]
  rw[if_neg (by rw[hcs']; simp)]
  rw[ev]
  rw[hst]
 ·constructor
  ·rw[ov_cons]
   constructor
   ·intro x ob h
    try dsimp only at h⊢
    by_cases e:p.id=x
    ·subst e
     rw[if_pos rfl] at h
     cases h
     rw[if_pos rfl]; exact hnew
    ·rw[if_neg e] at h; rw[if_neg e]; exact S.m.objs x ob h
   ·intro x h
    try dsimp only at h⊢
    by_cases e:p.id=x
    ·exact(h _ (by rw[if_pos e])).elim
    ·rw[if_neg e]; exact S.m.gone x (fun ob hob=>h ob (by rw[if_neg e]; exact hob))
   ·intro x y hxy
    try dsimp only
    by_cases e:p.id=x
    ·subst e
     rw[if_pos rfl,if_neg hxy]; exact hdom (S.m.apart _ _ hxy) (S.d y)
    ·by_cases e':p.id=y
     ·subst e'; rw[if_neg e,if_pos rfl]; exact(hdom (S.m.apart _ _ (Ne.symm hxy)) (S.d x)).comm
     ·rw[if_neg e,if_neg e']; exact S.m.apart x y hxy
   ·intro x
    try dsimp only
    by_cases e:p.id=x
    ·rw[if_pos e]
     intro b' o' h
     simp only[un] at h
     by_cases eb:b'=b2
     ·subst eb; rw[one_at] at h; simp only[Option.some_or,Option.some.injEq] at h; subst h; exact hwb'
     ·simp only[one,if_neg eb,Option.none_or] at h
      rw[hoth b' eb]
      rcases hc:F b' with _ | o''
      ·rw[hc] at h; simp only[Option.none_or] at h; exact S.m.mem _ _ _ (hsubr _ _ h)
      ·rw[hc] at h; simp only[Option.some_or,Option.some.injEq] at h; subst h; exact S.w _ _ hc
    ·rw[if_neg e]; exact hkeep (hnb x (Ne.symm e)) (S.m.mem x)
   ·intro l; exact hkeep (hHb l) (S.m.prot l)
   ·intro x l
    try dsimp only
    by_cases e:p.id=x
    ·rw[if_pos e]; exact hdom (S.m.sep _ l) (S.h l)
    ·rw[if_neg e]; exact S.m.sep x l
  ·refine S.c.trans ⟨rfl,fun x h=>?_,fun x q ob' h hl'=>?_⟩
   ·rw[ov_cons]; try dsimp only at h⊢
    by_cases e:p.id=x
    ·rw[if_pos e]; simp
    ·rw[if_neg e]; exact h
   ·rw[ov_cons] at hl'⊢; try dsimp only at h hl'⊢
    by_cases e:p.id=x
    ·subst e
     rw[if_pos rfl] at hl'
     obtain⟨rfl,hst'⟩:=look_some hl'
     simp only[if_true]
     refine⟨o,by rw[hO]; exact look_of (stale_append hst'),fun k3 rows3 v3 hq=>?_⟩
     obtain ⟨d', hq', hsh⟩ := htr q _ _ hq (fun j hj1 hj2 hpre => by
      obtain⟨rest,erest⟩:=hpre
      have hq2:=hq
      rw[← erest] at hq2
      obtain⟨d4,v4,h4,h5⟩:=hq2.split
      have hcell:=h4.cell_at hnav hrow
      have hown:isOwn d4=true:=by
       cases rest with
       |nil=>obtain⟨rfl,_⟩:=h5.nil_eq; rfl
       |cons x rest=>obtain⟨k5,r5,rfl⟩:=h5.own_of; rfl
      have hmem := covered_mem (p := p.path) (i := p.row) (off := p.off) (l := (row.drop p.off).take p.n) (j := j - p.off) (d := d4) (by
       rw[List.getElem?_take,if_pos (by omega),List.getElem?_drop]
       rw[show p.off+(j - p.off)=j by omega]; exact hcell) hown
      rw[show p.off+(j - p.off)=j by omega] at hmem
      have:=stale_mem (List.mem_append_left o.dirty hmem) ⟨rest,erest⟩
      rw[this] at hst'; cases hst')
     rcases hsh with rfl |⟨k6,r6,r6',e6,rfl,e7⟩
     ·exact⟨rows3,hq',rfl⟩
     ·simp only[D.own.injEq] at e6
      obtain⟨rfl,rfl⟩:=e6
      exact⟨r6',hq',e7⟩
    ·rw[if_neg e] at hl'
     refine⟨ob',hl',fun k' rows' v' n=>⟨rows',?_,rfl⟩⟩
     rw[if_neg e]; exact n
  ·simp only[SVRel]
  ·exact hbel
  ·intro j _
   refine⟨rfl,fun ob h=>?_,fun h=>?_⟩
   ·rw[ov_cons] at h; try dsimp only at h
    by_cases e:p.id=j
    ·subst e; exact S.dead _ _ hO
    ·rw[if_neg e] at h; exact S.dead j ob h
   ·rw[ov_cons]; try dsimp only
    by_cases e:p.id=j
    ·subst e; have:=S.none_ _ h; rw[hO] at this; cases this
    ·rw[if_neg e]; exact S.none_ j h
theorem rename {O1:Id→OS} {hv1:Id→Value} {G1:Id→Frag} (M:ObjsOK H O1 hv1 G1 w) {a i:Id} {o:VObj} (ha:O1 a=.live o) (hi:O1 i=.none):
  ∃hv2 G2,hv2 i=hv1 a∧G2 i=G1 a∧(∀j,j≠i→hv2 j=hv1 j)∧ObjsOK H (fun j=>if i=j then .live o else if a=j then .dead else O1 j) hv2 G2 w∧
   Carry ⟨H,O1,hv1,G1⟩ ⟨H,fun j=>if i=j then .live o else if a=j then .dead else O1 j,hv2,G2⟩:=by
 have hai:a≠i:=by rintro rfl; rw[ha] at hi; cases hi
 refine⟨fun j=>if i=j then hv1 a else hv1 j,fun j=>if i=j then G1 a else if a=j then emp else G1 j,by simp,by simp,fun j hj=>by simp[Ne.symm hj],?_,?_⟩
 ·have hdj:∀j,j≠a→Disj (G1 a) (G1 j):=fun j hj=>M.apart a j (Ne.symm hj)
  constructor
  ·intro j ob h
   try dsimp only at h⊢
   by_cases e:i=j
   ·rw[if_pos e] at h; cases h
    rw[if_pos e,if_pos e]; exact M.objs _ _ ha
   ·rw[if_neg e] at h; rw[if_neg e,if_neg e]
    by_cases e':a=j
    ·rw[if_pos e'] at h; cases h
    ·rw[if_neg e'] at h; rw[if_neg e']; exact M.objs j ob h
  ·intro j h
   try dsimp only at h⊢
   by_cases e:i=j
   ·exact(h _ (by rw[if_pos e])).elim
   ·rw[if_neg e]
    by_cases e':a=j
    ·rw[if_pos e']
    ·rw[if_neg e']; exact M.gone j (fun ob hob=>h ob (by rw[if_neg e,if_neg e']; exact hob))
  ·intro j l hjl
   try dsimp only
   by_cases e:i=j
   ·subst e
    rw[if_pos rfl,if_neg hjl]
    by_cases e':a=l
    ·rw[if_pos e']; exact disj_emp _
    ·rw[if_neg e']; exact hdj l (Ne.symm e')
   ·rw[if_neg e]
    by_cases e':i=l
    ·subst e'
     rw[if_pos rfl]
     by_cases e2:a=j
     ·rw[if_pos e2]; exact emp_disj _
     ·rw[if_neg e2]; exact(hdj j (Ne.symm e2)).comm
    ·rw[if_neg e']
     by_cases e2:a=j
     ·rw[if_pos e2]; exact emp_disj _
     ·rw[if_neg e2]
      by_cases e3:a=l
      ·rw[if_pos e3]; exact disj_emp _
      ·rw[if_neg e3]; exact M.apart j l hjl
  ·intro j
   try dsimp only
   by_cases e:i=j
   ·rw[if_pos e]; exact M.mem a
   ·rw[if_neg e]
    by_cases e':a=j
    ·rw[if_pos e']; intro b o h; cases h
    ·rw[if_neg e']; exact M.mem j
  ·exact M.prot
  ·intro j l
   try dsimp only
   by_cases e:i=j
   ·rw[if_pos e]; exact M.sep a l
   ·rw[if_neg e]
    by_cases e':a=j
    ·rw[if_pos e']; exact emp_disj _
    ·rw[if_neg e']; exact M.sep j l
 ·refine⟨rfl,fun j h=>?_,fun j q ob' h hl=>?_⟩
  ·try dsimp only at h⊢
   by_cases e:i=j
   ·rw[if_pos e]; simp
   ·rw[if_neg e]
    by_cases e':a=j
    ·rw[if_pos e']; simp
    ·rw[if_neg e']; exact h
  ·try dsimp only at h hl⊢
   by_cases e:i=j
   ·subst e; exact(h hi).elim
   ·rw[if_neg e] at hl
    by_cases e':a=j
    ·rw[if_pos e'] at hl; simp[OS.look] at hl
    ·rw[if_neg e'] at hl
     refine⟨ob',hl,fun k' rows' v' n=>⟨rows',?_,rfl⟩⟩
     rw[if_neg e,if_neg e',if_neg e]; exact n
theorem rename_ref {O1:Id→OS} {hv1 hv2:Id→Value} {G1 G2:Id→Frag} {r:Ref} {i:Id} {o:VObj} {v:Value} (hp:r.path=[]) (hl:(O1 r.id).look []=some o) (h:CVRel ⟨H,O1,hv1,G1⟩ (.ref r) v) (hh:hv2 i=hv1 r.id) (hG:G2 i=G1 r.id) {O2:Id→OS} (hO:O2 i=.live o):
  CVRel ⟨H,O2,hv2,G2⟩ (.ref {r with id:=i}) v:=by
 obtain⟨h1,h2,h3⟩:=h
 refine⟨h1,by show O2 i≠_; rw[hO]; simp,fun ob hob=>?_⟩
 obtain⟨k',rows',v',n,hle,hw⟩:=h3 o (by rw[hp]; exact hl)
 have hob':(O2 i).look r.path=some ob:=hob
 rw[hO] at hob'
 obtain⟨rfl,_⟩:=look_some hob'
 exact⟨k',rows',v',by show At (G2 i) _ (hv2 i) _ _ _; rw[hh,hG]; exact n,hle,hw⟩
structure Mv (H:Nat→Frag) (O:Id→OS) (hv:Id→Value) (G:Id→Frag) (w:World) (dst:Nat) (T:List (Id × OS)) (hv':Id→Value) (G':Id→Frag):Prop where
 m:ObjsOK H (ov O T) hv' G' w
 c:Carry ⟨H,O,hv,G⟩ ⟨H,ov O T,hv',G'⟩
 t:Tame O T hv hv' (some dst)
theorem Mv.step {d:Nat} {T hv1 G1} (S:Mv H O hv G w d T hv1 G1) {a:Id} {o:VObj} {c:Nat} {i:Id} (hl:(ov O T a).look []=some o) (hi:newId (ov O T) d c=some i):
  ∃hv2 G2,hv2 i=hv1 a∧G2 i=G1 a∧Mv H O hv G w d ((i,.live o)::(a,.dead)::T) hv2 G2∧Carry ⟨H,ov O T,hv1,G1⟩ ⟨H,ov O ((i,.live o)::(a,.dead)::T),hv2,G2⟩:=by
 obtain⟨hn,hid⟩:=newId_none hi
 obtain⟨hv2,G2,h1,h2,h3,h4,h5⟩:=rename S.m (look_live hl) hn
 have eO:ov O ((i,.live o)::(a,.dead)::T)=fun j=>if i=j then .live o else if a=j then .dead else ov O T j:=by
  rw[ov_cons,ov_cons]
 refine⟨hv2,G2,h1,h2,⟨by rw[eO]; exact h4,by rw[eO]; exact S.c.trans h5,?_⟩,by rw[eO]; exact h5⟩
 intro j hj
 have hij:i≠j:=by
  rintro rfl
  rcases hid with e | e<;>rw[e] at hj<;>exact hj rfl
 obtain⟨t1,t2,t3⟩:=S.t j hj
 rw[eO]
 try dsimp only
 rw[if_neg hij]
 refine⟨by rw[h3 j (Ne.symm hij)]; exact t1,fun ob h=>?_,fun h=>?_⟩
 ·by_cases e:a=j
  ·rw[if_pos e] at h; cases h
  ·rw[if_neg e] at h; exact t2 ob h
 ·by_cases e:a=j
  ·subst e
   have:=t3 h
   rw[look_live hl] at this; cases this
  ·rw[if_neg e]; exact t3 h
theorem Mv.start {d:Nat} (M:ObjsOK H O hv G w):Mv H O hv G w d [] hv G:=
 ⟨by rw[ov_nil]; exact M,by rw[ov_nil]; exact Carry.refl _,fun j _=>⟨rfl,fun ob h=>⟨ob,by rwa [ov_nil] at h⟩,fun h=>by rw[ov_nil]; exact h⟩⟩
theorem Mv.cell {d t:Nat} {T hv1 G1} (S:Mv H O hv G w d T hv1 G1) {c:CV} {v:Value} (h:CVRel ⟨H,O,hv,G⟩ c v):
  ∃hv2 G2,Mv H O hv G w d (asgCell O T t d c).2 hv2 G2∧Carry ⟨H,ov O T,hv1,G1⟩ ⟨H,ov O (asgCell O T t d c).2,hv2,G2⟩∧CVRel ⟨H,ov O (asgCell O T t d c).2,hv2,G2⟩ (asgCell O T t d c).1 v:=by
 have h':=h.carry S.c
 have base:∃hv2 G2,Mv H O hv G w d T hv2 G2∧Carry ⟨H,ov O T,hv1,G1⟩ ⟨H,ov O T,hv2,G2⟩∧CVRel ⟨H,ov O T,hv2,G2⟩ c v:=⟨hv1,G1,S,Carry.refl _,h'⟩
 cases c with
 |val x=>exact base
 |nl k=>exact base
 |bor l rows=>exact base
 |ref r=>
  simp only[asgCell]
  split
  ·split
   ·rename_i o i hp hl hi
    obtain⟨hv2,G2,h1,h2,h3,h4⟩:=S.step hl hi
    exact⟨hv2,G2,h3,h4,rename_ref hp hl h' h1 h2 (by rw[ov_cons]; simp)⟩
   ·exact base
  ·exact base
theorem Mv.cells {d t:Nat}:∀ {cs:List CV} {vs:List Value} {T hv1 G1},Mv H O hv G w d T hv1 G1→CVRels ⟨H,O,hv,G⟩ cs vs→
  ∃hv2 G2,Mv H O hv G w d (asgCells O t d T cs).2 hv2 G2∧Carry ⟨H,ov O T,hv1,G1⟩ ⟨H,ov O (asgCells O t d T cs).2,hv2,G2⟩∧CVRels ⟨H,ov O (asgCells O t d T cs).2,hv2,G2⟩ (asgCells O t d T cs).1 vs
 |[],vs,T,hv1,G1,S,h=>⟨hv1,G1,S,Carry.refl _,h⟩
 |c::cs,vs,T,hv1,G1,S,h=>by
  simp only[CVRels] at h
  obtain⟨v,vs,rfl,h1,h2⟩:=h
  obtain⟨hv2,G2,S2,C2,r2⟩:=S.cell (t:=t) h1
  obtain⟨hv3,G3,S3,C3,r3⟩:=Mv.cells (t:=t) S2 h2
  refine⟨hv3,G3,S3,C2.trans C3,?_⟩
  simp only[asgCells,CVRels]
  exact⟨v,vs,rfl,r2.carry C3,r3⟩
theorem Mv.does {o:Oper} {d:Nat} {T hv' G'} (S:Mv H O hv G w d T hv' G') (hd:o.dst=some d) {sv:SV} {v:Value} (hx:(execOp ρ o).run P w=.ok (.value v) w) (hsv:SVRel ⟨H,ov O T,hv',G'⟩ sv v):Does P ρ o H O hv G w sv T:=
 ⟨_,v,w,hv',G',hx,.inl rfl,⟨S.m,S.c,hsv,Below.refl _ _,by rw[hd]; exact S.t⟩⟩
theorem d_asg {d n:Nat} {x:Operand} {sv:SV} {e:Eff} (M:ObjsOK H O hv G w) (hx:SVRel ⟨H,O,hv,G⟩ sv (ρ x)) (he:asgE O d n sv=some e):Does P ρ ⟨some d,.assign x,type,pos,af,gd⟩ H O hv G w e.sv e.objs:=by
 have hrun:(execOp ρ ⟨some d,.assign x,type,pos,af,gd⟩).run P w=.ok (.value (ρ x)) w:=by simp only[execOp,run_pure]
 have S:=Mv.start (d:=d) M
 have same:∀sv',SVRel ⟨H,O,hv,G⟩ sv' (ρ x)→Does P ρ ⟨some d,.assign x,type,pos,af,gd⟩ H O hv G w sv' []:=fun sv' h=>S.does rfl hrun (by rw[ov_nil]; exact h)
 cases sv with
 |dead=>simp[asgE] at he
 |one c=>
  simp only[asgE,Option.some.injEq] at he; subst he
  simp only[SVRel] at hx
  obtain⟨hv2,G2,S2,_,r2⟩:=S.cell (t:=n) hx
  exact S2.does rfl hrun (by simp only[SVRel]; exact r2)
 |agg cs=>
  simp only[asgE,Option.some.injEq] at he; subst he
  simp only[SVRel] at hx
  obtain⟨vs,ev,hr⟩:=hx
  obtain⟨hv2,G2,S2,_,r2⟩:=S.cells (t:=n) hr
  exact S2.does rfl hrun (by simp only[SVRel]; exact⟨vs,ev,r2⟩)
 |ptr p=>
  simp only[asgE] at he
  split at he
  ·split at he
   ·rename_i o i hp hl hi
    injection he with he; subst he
    have hl':(ov O [] p.id).look []=some o:=by rw[ov_nil]; exact hl
    obtain⟨hv2,G2,h1,h2,h3,h4⟩:=S.step hl' (by rw[ov_nil]; exact hi)
    refine h3.does rfl hrun ?_
    simp only[SVRel,PtrRel] at hx⊢
    obtain⟨g1,g2,g3⟩:=hx
    have hOi:ov O [(i,.live o),(p.id,.dead)] i=.live o:=by rw[ov_cons]; simp
    refine⟨g1,by rw[hOi]; simp,fun ob hob=>?_⟩
    obtain⟨k',rows',b,o',len,cap,n',q1,q2,q3⟩:=g3 o (by rw[hp]; exact hl)
    rw[hOi] at hob
    obtain⟨rfl,_⟩:=look_some hob
    exact⟨k',rows',b,o',len,cap,by rw[h1,h2]; exact n',q1,q2,q3⟩
   ·cases he
  ·simp only[okE,Option.some.injEq] at he; subst he; exact same _ hx
 |bptr l cs=>simp only[asgE,okE,Option.some.injEq] at he; subst he; exact same _ hx
 |tup vs=>simp only[asgE,okE,Option.some.injEq] at he; subst he; exact same _ hx
 |clo f a b=>simp only[asgE,okE,Option.some.injEq] at he; subst he; exact same _ hx
end
end Go.Proofs.YtmdocdnidilaiaaGreat.V
