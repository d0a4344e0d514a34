/- V: what is given to a callee: the callee's objects, what is left. -/
import Derived.Test.YtmdocdnidilaiaaGreatVGive
namespace Go.Proofs.YtmdocdnidilaiaaGreat.V
open Go Frag
structure Giv (H:Nat→Frag) (O:Id→OS) (hv:Id→Value) (G:Id→Frag) (w:World) (H':Nat→Frag) (g:Give) (G1:Id→Frag) (hc:Id→Value) (Gc:Id→Frag):Prop where
 m:ObjsOK H (ov O g.T) hv G1 w
 c:Carry ⟨H,O,hv,G⟩ ⟨H,ov O g.T,hv,G1⟩
 none_:∀i,O i=.none→ov O g.T i=.none
 dead:∀i ob,ov O g.T i=.live ob→∃ob',O i=.live ob'
 keep:∀i,i∉idsOf g.T→G1 i=G i
 name:∀x∈g.items,x.c.2.1 < g.items.length
 uniq:g.items.Pairwise fun x y=>x.c≠y.c
 rep:∀x∈g.items,(∀H'':Nat→Frag,(∀l,H'' (l+1)=H l)→ORep H'' (.own x.ob.k x.ob.rows) (hc x.c) (Gc x.c))∧x.ob.dirty=[]
 out:∀c,(∀x∈g.items,x.c≠c)→Gc c=emp
 ap1:∀c c',c≠c'→Disj (Gc c) (Gc c')
 ap2:∀c i,Disj (Gc c) (G1 i)
 ap3:∀c l,Disj (Gc c) (H l)
 mem:∀c,(Gc c).inW w
 src:∀x∈g.items,(x.q=[]→ov O g.T x.i=.dead∧hc x.c=hv x.i∧∃o,O x.i=.live o∧o.k=x.ob.k∧(OS.live o).look []=some o)∧
  (x.q≠ []→∃cur,ov O g.T x.i=.live cur∧∃nh,At (G1 x.i) (.own cur.k cur.rows) (hv x.i) x.q (.hole nh) (hc x.c))
 tids:∀i,i∈idsOf g.T→∃x∈g.items,x.i=i
 srcne:g.items.Pairwise fun x y=>¬(x.i=y.i∧x.q=y.q)
 all:∀x∈g.items,x.q=[]→∃o,O x.i=.live o∧V.downR o.rows=some x.ob.rows∧Gc x.c=G x.i
 orig:∀x∈g.items,∃o0,(O x.i).look x.q=some o0∧∀k' rows' v',At (G x.i) (.own o0.k o0.rows) (hv x.i) x.q (.own k' rows') v'→k'=x.ob.k∧v'=hc x.c∧∃a cap,v'=.slice a rows'.length cap
theorem Giv.start {H O hv G w} (M:ObjsOK H O hv G w) (H':Nat→Frag):Giv H O hv G w H' ⟨[],[],[]⟩ G (fun _=>undef) (fun _=>emp) where
 m:=by rw[ov_nil]; exact M
 c:=by rw[ov_nil]; exact Carry.refl _
 none_ i h:=by rw[ov_nil]; exact h
 dead i ob h:=⟨ob,by rwa [ov_nil] at h⟩
 keep _ _:=rfl
 name x h:=by cases h
 uniq:=.nil
 rep x h:=by cases h
 out _ _:=rfl
 ap1 _ _ _:=emp_disj _
 ap2 _ _:=emp_disj _
 ap3 _ _:=emp_disj _
 mem _ b o h:=by cases h
 src x h:=by cases h
 tids i h:=by cases h
 srcne:=.nil
 all x h:=by cases h
 orig x h:=by cases h
theorem ov_not_mem {O:Id→OS} {T:List (Id × OS)} {i:Id} (h:i∉idsOf T):ov O T i=O i:=by
 induction T with
 |nil=>rfl
 |cons x T ih=>
  obtain⟨j,y⟩:=x
  simp only[idsOf,List.map_cons,List.mem_cons,not_or] at h
  rw[ov_cons]
  try dsimp only
  rw[if_neg (Ne.symm h.1)]
  exact ih h.2
theorem Giv.step {H O hv G w H' g G1 hc Gc} (hH:∀l,H' (l+1)=H l) (S:Giv H O hv G w H' g G1 hc Gc) {a:Nat} {i:Id} {q:Path} {c:Id} {g':Give} (hg:giveI O a g i q=some (c,g')) {ob0:VObj} {k1:Nat} {rows1:List (List D)} {v':Value}
  (hl0:(ov O g.T i).look q=some ob0) (hat:At (G1 i) (.own ob0.k ob0.rows) (hv i) q (.own k1 rows1) v'):
  ∃G2 hc2 Gc2,Giv H O hv G w H' g' G2 hc2 Gc2∧hc2 c=v'∧(∀x∈g.items,hc2 x.c=hc x.c∧Gc2 x.c=Gc x.c)∧g'.rd=g.rd∧
   ∃it,g'.items=it::g.items∧it.c=c∧it.i=i∧it.q=q∧it.ob.k=k1∧it.ob.rows.length=rows1.length∧c=(a,g.items.length,0):=by
 unfold giveI at hg
 rw[hl0] at hg
 simp only[] at hg
 have hn:=hat.nav
 rw[hn] at hg
 simp only[] at hg
 split at hg
 ·rename_i rows2 hdown
  split at hg
  ·rename_i hfree
   simp only[Option.some.injEq,Prod.mk.injEq] at hg
   obtain⟨rfl,rfl⟩:=hg
   obtain⟨gn,G2,hr,hm,hd,hs1,hs2,hoth,hcar,hall,hhole⟩:=take_one S.m hl0 hn hat
   obtain⟨_,hlen2⟩:=hr.downR hH hdown
   have hnew:∀x∈g.items,x.c≠(a,g.items.length,0):=fun x hx e=>by
    have:=S.name x hx
    rw[e] at this
    exact absurd this (Nat.lt_irrefl _)
   have hGn:Gc (a,g.items.length,0)=emp:=S.out _ hnew
   have hsub:∀j,Sub (G2 j) (G1 j):=fun j=>by
    by_cases e:j=i
    ·subst e; exact hs2
    ·rw[hoth j e]; exact sub_refl _
   have eO:ov O ((i,hollow ob0 q)::g.T)=fun j=>if i=j then hollow ob0 q else ov O g.T j:=ov_cons _ _ _ _
   refine⟨G2,fun x=>if(a,g.items.length,0)=x then v' else hc x,fun x=>if(a,g.items.length,0)=x then gn else Gc x,?_,by simp,?_,rfl,_,rfl,rfl,rfl,rfl,rfl,hlen2,rfl⟩
   rotate_left
   ·intro x hx
    have:=hnew x hx
    simp[Ne.symm this]
   ·constructor
    ·show ObjsOK H (ov O ((i,hollow ob0 q)::g.T)) hv G2 w
     rw[eO]; exact hm
    ·show Carry _ ⟨H,ov O ((i,hollow ob0 q)::g.T),hv,G2⟩
     rw[eO]; exact S.c.trans hcar
    ·intro j h
     show ov O ((i,hollow ob0 q)::g.T) j=_
     rw[eO]
     try dsimp only
     by_cases e:i=j
     ·subst e
      have:=S.none_ _ h
      rw[look_live hl0] at this; cases this
     ·rw[if_neg e]; exact S.none_ j h
    ·intro j ob h
     have h':ov O ((i,hollow ob0 q)::g.T) j=.live ob:=h
     rw[eO] at h'
     try dsimp only at h'
     by_cases e:i=j
     ·subst e; exact S.dead _ _ (look_live hl0)
     ·rw[if_neg e] at h'; exact S.dead j ob h'
    ·intro j h
     simp only[idsOf,List.map_cons,List.mem_cons,not_or] at h
     rw[hoth j h.1]; exact S.keep j h.2
    ·intro x hx
     rcases List.mem_cons.1 hx with rfl | hx
     ·show g.items.length < _; simp
     ·have:=S.name x hx; simp; omega
    ·exact List.pairwise_cons.2 ⟨fun y hy e=>hnew y hy e.symm,S.uniq⟩
    ·intro x hx
     rcases List.mem_cons.1 hx with rfl | hx
     ·simp only[if_true]; exact⟨fun H'' hH''=>(hr.downR hH'' hdown).1,trivial⟩
     ·have:=hnew x hx
      simp only[if_neg (Ne.symm this)]; exact S.rep x hx
    ·intro c' h'
     have h1:(a,g.items.length,0)≠c':=h' _ (List.mem_cons_self ..)
     simp only[if_neg h1]
     exact S.out c' (fun x hx=>h' x (List.mem_cons_of_mem _ hx))
    ·intro c1 c2 hne
     try dsimp only
     by_cases e:(a,g.items.length,0)=c1
     ·rw[if_pos e,if_neg (by rw[e]; exact hne)]
      exact(Disj.sub (S.ap2 c2 i) (sub_refl _) hs1).comm
     ·rw[if_neg e]
      by_cases e':(a,g.items.length,0)=c2
      ·rw[if_pos e']; exact Disj.sub (S.ap2 c1 i) (sub_refl _) hs1
      ·rw[if_neg e']; exact S.ap1 c1 c2 hne
    ·intro c1 j
     try dsimp only
     by_cases e:(a,g.items.length,0)=c1
     ·rw[if_pos e]; exact hd j
     ·rw[if_neg e]; exact Disj.sub (S.ap2 c1 j) (sub_refl _) (hsub j)
    ·intro c1 l
     try dsimp only
     by_cases e:(a,g.items.length,0)=c1
     ·rw[if_pos e]; exact Disj.sub (S.m.sep i l) hs1 (sub_refl _)
     ·rw[if_neg e]; exact S.ap3 c1 l
    ·intro c1
     try dsimp only
     by_cases e:(a,g.items.length,0)=c1
     ·rw[if_pos e]; exact fun b o h=>S.m.mem _ _ _ (hs1 _ _ h)
     ·rw[if_neg e]; exact S.mem c1
    ·intro x hx
     show (x.q=[]→ov O ((i,hollow ob0 q)::g.T) x.i=_∧_)∧(x.q≠ []→∃cur,ov O ((i,hollow ob0 q)::g.T) x.i=_∧_)
     rw[eO]
     rcases List.mem_cons.1 hx with rfl | hx'
     ·simp only[if_true]
      refine⟨fun hq=>?_,fun hq=>?_⟩
      ·subst hq
       obtain⟨e1,e2⟩:=hat.nil_eq
       simp only[D.own.injEq] at e1
       obtain⟨rfl,rfl⟩:=e1
       have hni:i∉idsOf g.T:=fun hi=>by
        obtain⟨x,hx',e⟩:=S.tids i hi
        exact hfree rfl x hx' e
       have hl1:=hl0
       rw[ov_not_mem hni] at hl1
       exact⟨by simp[hollow],e2,ob0,look_live hl1,rfl,by rw[← look_live hl1]; exact hl1⟩
      ·obtain⟨cur,h1,h2,_⟩:=hhole hq
       exact⟨cur,h1,_,h2⟩
     ·have hxc:=hnew x hx'
      simp only[if_neg (Ne.symm hxc)]
      obtain⟨s1,s2⟩:=S.src x hx'
      by_cases e:i=x.i
      ·refine⟨fun hq=>?_,fun hq=>?_⟩
       ·have:=(s1 hq).1
        rw[← e,look_live hl0] at this; cases this
       ·obtain⟨cur,h1,nh,h2⟩:=s2 hq
        rw[← e] at h1 h2
        rw[look_live hl0] at h1; cases h1
        have hqne:q≠ []:=fun h0=>by
         subst h0
         exact hfree rfl x hx' e.symm
        obtain⟨cur',g1,g2,g3⟩:=hhole hqne
        refine⟨cur',by rw[if_pos e]; exact g1,nh,?_⟩
        rw[← e]
        have hpre:¬q <+:x.q:=fun hp=>by
         obtain⟨r,er⟩:=hp
         have h2':=h2
         rw[← er] at h2'
         obtain⟨d5,v5,h5,h6⟩:=h2'.split
         obtain⟨e7,e8⟩:=h5.det hat
         subst e7 e8
         have:=downR_hole h6
         rw[this] at hdown; cases hdown
        obtain⟨d',h8,hsh⟩:=g3 _ _ _ h2 hpre
        rcases hsh with rfl |⟨_,_,_,e9,_,_⟩
        ·exact h8
        ·cases e9
      ·simp only[if_neg e]
       rw[hoth x.i (Ne.symm e)]
       exact⟨s1,s2⟩
    ·intro j hj
     simp only[idsOf,List.map_cons,List.mem_cons] at hj
     rcases hj with rfl | hj
     ·exact⟨_,List.mem_cons_self ..,rfl⟩
     ·obtain⟨x,hx,e⟩:=S.tids j hj
      exact⟨x,List.mem_cons_of_mem _ hx,e⟩
    ·refine List.pairwise_cons.2 ⟨fun y hy e=>?_,S.srcne⟩
     obtain⟨e1,e2⟩:=e
     simp only at e1 e2
     obtain⟨s1,s2⟩:=S.src y hy
     by_cases hq:y.q=[]
     ·have:=(s1 hq).1
      rw[← e1,look_live hl0] at this; cases this
     ·obtain⟨cur,h1,_,h2⟩:=s2 hq
      rw[← e1] at h1 h2
      rw[look_live hl0] at h1; cases h1
      rw[← e2] at h2
      obtain⟨e3,_⟩:=h2.det hat
      cases e3
    ·intro x hx hq
     rcases List.mem_cons.1 hx with rfl | hx'
     ·simp only[if_true]
      have hq':q=[]:=hq
      subst hq'
      obtain⟨e1,e2⟩:=hat.nil_eq
      simp only[D.own.injEq] at e1
      obtain⟨rfl,rfl⟩:=e1
      have hni:i∉idsOf g.T:=fun hi=>by
       obtain⟨x,hx',e⟩:=S.tids i hi
       exact hfree rfl x hx' e
      have hl1:=hl0
      rw[ov_not_mem hni] at hl1
      exact⟨ob0,look_live hl1,hdown,by rw[hall rfl]; exact S.keep i hni⟩
     ·have hxc:=hnew x hx'
      simp only[if_neg (Ne.symm hxc)]
      exact S.all x hx' hq
    ·intro x hx
     rcases List.mem_cons.1 hx with rfl | hx'
     ·simp only[if_true]
      obtain⟨ob',hO⟩:=S.dead _ _ (look_live hl0)
      obtain⟨o0,g1,g2⟩:=S.c.nav i q ob0 (by show O i≠_; rw[hO]; simp) hl0
      refine⟨o0,g1,fun k' rows' v2 hat2=>?_⟩
      obtain⟨rows3,h3,h4⟩:=g2 k' rows' v2 hat2
      obtain⟨e5,e6⟩:=h3.det hat
      simp only[D.own.injEq] at e5
      obtain⟨rfl,rfl⟩:=e5
      have e7:∃a cap,v'=.slice a rows3.length cap:=by
       simp only[ORep] at hr
       rcases hr with⟨rfl,⟨a',rfl⟩,_⟩ |⟨b',o',cap',arr,t,fz,g',rfl,_⟩
       ·exact⟨a',0,rfl⟩
       ·exact⟨_,cap',rfl⟩
      obtain⟨a',cap',e7⟩:=e7
      exact⟨rfl,e6,a',cap',by rw[e6,e7,h4]⟩
     ·have hxc:=hnew x hx'
      simp only[if_neg (Ne.symm hxc)]
      exact S.orig x hx'
  ·cases hg
 ·cases hg
end Go.Proofs.YtmdocdnidilaiaaGreat.V
