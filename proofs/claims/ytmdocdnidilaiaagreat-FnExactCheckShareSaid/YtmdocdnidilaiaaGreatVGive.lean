/- V: what is given to a callee, and what comes back. -/
import Derived.Test.YtmdocdnidilaiaaGreatVTake
namespace Go.Proofs.YtmdocdnidilaiaaGreat.V
open Go Frag
theorem At.hole_end {n:Nat} {g:Frag} {d0:D} {v:Value} {q q':Path} {c c':Value} {d:D} (h:At g d0 v q (.hole n) c) (h':At g d0 v q' d c') (hp:q <+:q'):q'=q:=by
 obtain⟨r,rfl⟩:=hp
 obtain⟨d1,v1,h1,h2⟩:=h'.split
 obtain⟨rfl,rfl⟩:=h.det h1
 cases r with
 |nil=>simp
 |cons x r=>
  exfalso
  cases h2
theorem fill_one {H:Nat→Frag} {O:Id→OS} {hv:Id→Value} {G:Id→Frag} {w:World} (M:ObjsOK H O hv G w) {id:Id} {q:Path} {o:VObj} {k:Nat} {rows:List (List D)} {v:Value} {g:Frag} {nh:Nat} (hO:O id=.live o) (hq:q≠ [])
  (hat:At (G id) (.own o.k o.rows) (hv id) q (.hole nh) v) (hr:ORep H (.own k rows) v g) (hd:∀i,Disj g (G i)) (hh:∀l,Disj g (H l)) (hw:g.inW w):
  ∃G',ObjsOK H (fun i=>if id=i then .live {o with rows:=setCell o.rows q (.own k rows)} else O i) hv G' w∧(∀i,i≠id→G' i=G i)∧(∀x:Frag,Disj x (G id)→Disj x g→Disj x (G' id))∧
   Carry ⟨H,O,hv,G⟩ ⟨H,fun i=>if id=i then .live {o with rows:=setCell o.rows q (.own k rows)} else O i,hv,G'⟩∧
   (∀q' d c,At (G id) (.own o.k o.rows) (hv id) q' d c→q'≠q→∃d',At (G' id) (.own o.k (setCell o.rows q (.own k rows))) (hv id) q' d' c∧Shape d d')∧
   At (G' id) (.own o.k (setCell o.rows q (.own k rows))) (hv id) q (.own k rows) v:=by
 rcases snoc_cases q with rfl |⟨p,i,j,rfl⟩
 ·exact absurd rfl hq
 obtain⟨d1,v1,hp,hc1⟩:=hat.split
 cases hc1 with
 |@cons k' rows' b of len cap arr t fz _ _ row d2 c2 _ _ _ hGb h2 h3 hcell m=>
  obtain⟨rfl,rfl⟩:=m.nil_eq
  have h1:=hp.nav
  have hjl:j < row.length:=(List.getElem?_eq_some_iff.1 h3).1
  obtain⟨b',of',cap',arr',t',fz',gs,gr,hat2,eg,dsr,hsb,hrb,hk,hc,hin,hz,hseg,hput⟩:=(M.objs _ _ hO).change h1 h2 (off:=j) (n:=1) (by omega)
  obtain⟨_,e1⟩:=hp.det hat2
  simp only[Value.slice.injEq,Option.some.injEq,Addr.mk.injEq] at e1
  obtain⟨⟨rfl,rfl,_⟩,rfl,rfl⟩:=e1
  have hGb':G id b=some (.cells arr' t' fz'):=by rw[eg]; exact one_un_at _ _ _
  rw[hGb] at hGb'; cases hGb'
  have hdG:=hd id
  rw[eg] at hdG
  obtain⟨hd1,hd2⟩:=disj_un.1 hdG
  obtain⟨hd3,hd4⟩:=disj_un.1 hd2
  have hgb:g b=none:=none_of_disj_one hd1.comm
  obtain⟨hnew,htr⟩:=hput [.own k rows] [v] g (cell_own hr) rfl hd4 hgb
  rw[over_same hcell] at hnew htr
  have es:setCell o.rows (p++ [(i,j)]) (.own k rows)=setNav o.rows p (rows'.set i (splice row j [.own k rows])):=setCell_snoc _ h1 h2 hjl
  rw[← es] at hnew htr
  have hsubr:Sub gr (G id):=by rw[eg]; exact Sub.trans (sub_un_right dsr) (sub_un_right (disj_one (un_none.2 ⟨hsb,hrb⟩)))
  have hdom:∀x:Frag,Disj x (G id)→Disj x g→Disj x ((one b (.cells arr t fz)).un (g.un gr)):=by
   intro x h1 h2
   have hxb:x b=none:=by
    rcases h1 b with h | h
    ·exact h
    ·rw[hGb] at h; cases h
   exact disj_un.2 ⟨(disj_one hxb).comm,disj_un.2 ⟨h2,Disj.sub h1 (sub_refl _) hsubr⟩⟩
  refine⟨fun x=>if id=x then(one b (.cells arr t fz)).un (g.un gr) else G x,?_,fun x hx=>by simp[Ne.symm hx],by simpa using hdom,?_,?_,?_⟩
  ·constructor
   ·intro x ob h
    try dsimp only at h⊢
    by_cases e:id=x
    ·subst e
     rw[if_pos rfl] at h; cases h
     rw[if_pos rfl]; exact hnew
    ·rw[if_neg e] at h; rw[if_neg e]; exact M.objs x ob h
   ·intro x h
    try dsimp only at h⊢
    by_cases e:id=x
    ·exact(h _ (by rw[if_pos e])).elim
    ·rw[if_neg e]; exact M.gone x (fun ob hob=>h ob (by rw[if_neg e]; exact hob))
   ·intro x y hxy
    try dsimp only
    by_cases e:id=x
    ·subst e
     rw[if_pos rfl,if_neg hxy]; exact(hdom _ (M.apart _ _ (Ne.symm hxy)) (hd y).comm).comm
    ·by_cases e':id=y
     ·subst e'; rw[if_neg e,if_pos rfl]; exact hdom _ (M.apart _ _ hxy) (hd x).comm
     ·rw[if_neg e,if_neg e']; exact M.apart x y hxy
   ·intro x
    try dsimp only
    by_cases e:id=x
    ·subst e
     rw[if_pos rfl]
     intro b' o' h
     simp only[un] at h
     by_cases eb:b'=b
     ·subst eb; rw[one_at] at h; simp only[Option.some_or,Option.some.injEq] at h; subst h; exact M.mem _ _ _ hGb
     ·simp only[one,if_neg eb,Option.none_or] at h
      rcases hc:g b' with _ | o''
      ·rw[hc] at h; simp only[Option.none_or] at h; exact M.mem _ _ _ (hsubr _ _ h)
      ·rw[hc] at h; simp only[Option.some_or,Option.some.injEq] at h; subst h; exact hw _ _ hc
    ·rw[if_neg e]; exact M.mem x
   ·exact M.prot
   ·intro x l
    try dsimp only
    by_cases e:id=x
    ·rw[if_pos e]; exact(hdom _ (M.sep id l).comm (hh l).comm).comm
    ·rw[if_neg e]; exact M.sep x l
  ·refine⟨rfl,fun x h=>?_,fun x q2 ob' h hl'=>?_⟩
   ·try dsimp only at h⊢
    by_cases e:id=x
    ·rw[if_pos e]; simp
    ·rw[if_neg e]; exact h
   ·try dsimp only at h hl'⊢
    by_cases e:id=x
    ·subst e
     rw[if_pos rfl] at hl'
     obtain⟨rfl,hst⟩:=look_some hl'
     simp only[if_true]
     refine⟨o,by rw[hO]; exact look_of hst,fun k3 rows3 v3 hq3=>?_⟩
     have hne:∀j':Nat,j≤j'→j' < j+1→¬(p++ [(i,j')]) <+:q2:=fun j' hj1 hj2 hpre=>by
      have:j'=j:=by omega
      subst this
      have:=hat.hole_end hq3 hpre
      subst this
      obtain⟨e1,_⟩:=hat.det hq3
      cases e1
     obtain⟨d',hq',hsh⟩:=htr q2 _ _ hq3 hne
     rcases hsh with rfl |⟨k6,r6,r6',e6,rfl,e7⟩
     ·exact⟨rows3,hq',rfl⟩
     ·simp only[D.own.injEq] at e6
      obtain⟨rfl,rfl⟩:=e6
      exact⟨r6',hq',e7⟩
    ·rw[if_neg e] at hl'
     refine⟨ob',hl',fun k' rows' v' n=>⟨rows',?_,rfl⟩⟩
     rw[if_neg e]; exact n
  ·intro q' d c n hq'
   simp only[if_true]
   have hne:∀j':Nat,j≤j'→j' < j+1→¬(p++ [(i,j')]) <+:q':=fun j' hj1 hj2 hpre=>by
    have:j'=j:=by omega
    subst this
    exact hq' (hat.hole_end n hpre)
   exact htr q' d c n hne
  ·simp only[if_true]
   have hpq:∀j':Nat,j≤j'→j' < j+1→¬(p++ [(i,j')]) <+:p:=fun j' _ _ hpre=>by
    have:=hpre.length_le
    simp at this
    omega
   obtain⟨d',h5,hsh⟩:=htr p _ _ hp hpq
   have h6:=nav_setNav (new:=rows'.set i (splice row j [.own k rows])) h1
   rw[← es] at h6
   have hrl:i < rows'.length:=(List.getElem?_eq_some_iff.1 h2).1
   obtain⟨r9,h9⟩:∃r9,d'=.own k' r9:=by
    rcases hsh with rfl |⟨k6,r6,r6',e6,rfl,_⟩
    ·exact⟨_,rfl⟩
    ·simp only[D.own.injEq] at e6
     obtain⟨rfl,rfl⟩:=e6
     exact⟨_,rfl⟩
   subst h9
   have h7:=h5.nav
   rw[h6] at h7
   simp only[Option.some.injEq,Prod.mk.injEq,true_and] at h7
   subst h7
   refine h5.append (.cons (row:=splice row j [.own k rows]) (one_un_at _ _ _) (by simp[hrl]) ?_ hcell .nil)
   simp only[splice]
   rw[List.getElem?_append_left (by simp; omega),List.getElem?_append_right (by simp; omega)]
   simp[Nat.min_eq_left (Nat.le_of_lt hjl)]
mutual
theorem ORep.pure_any {H H':Nat→Frag}:∀ {d:D} {v:Value} {g:Frag},ORep H d v g→V.pure d=true→ORep H' d v g
 |.val x,v,g,h,_=>by simpa only[ORep] using h
 |.hole _,v,g,_,hp=>by simp[V.pure] at hp
 |.bor l rows,v,g,_,hp=>by simp[V.pure] at hp
 |.own k rows,v,g,h,hp=>by
  simp only[V.pure] at hp
  simp only[ORep] at h⊢
  rcases h with h |⟨b,off,cap,arr,t,fz,g',e1,e2,hb,hc,hk,ha,hz,hr⟩
  ·exact .inl h
  ·exact .inr ⟨b,off,cap,arr,t,fz,g',e1,e2,hb,hc,hk,ha,hz,ORepR.pure_any hr hp⟩
theorem ORepL.pure_any {H H':Nat→Frag}:∀ {d:List D} {v:List Value} {g:Frag},ORepL H d v g→pureL d=true→ORepL H' d v g
 |[],v,g,h,_=>by simpa only[ORepL] using h
 |d::ds,v,g,h,hp=>by
  simp only[ORepL] at h⊢
  simp only[pureL,Bool.and_eq_true] at hp
  obtain⟨v,vs,g1,g2,e1,e2,d12,h1,h2⟩:=h
  exact⟨v,vs,g1,g2,e1,e2,d12,ORep.pure_any h1 hp.1,ORepL.pure_any h2 hp.2⟩
theorem ORepR.pure_any {H H':Nat→Frag}:∀ {d:List (List D)} {v:List Value} {g:Frag},ORepR H d v g→pureR d=true→ORepR H' d v g
 |[],v,g,h,_=>by simpa only[ORepR] using h
 |d::ds,v,g,h,hp=>by
  simp only[ORepR] at h⊢
  simp only[pureR,Bool.and_eq_true] at hp
  obtain⟨v,vs,g1,g2,e1,e2,d12,h1,h2⟩:=h
  exact⟨v,vs,g1,g2,e1,e2,d12,ORepL.pure_any h1 hp.1,ORepR.pure_any h2 hp.2⟩
end
theorem ORep.down {H H':Nat→Frag} (hH:∀l,H' (l+1)=H l) {d d':D} {v:Value} {g:Frag} (h:ORep H d v g) (e:V.down d=some d'):ORep H' d' v g:=by
 cases d with
 |val x=>simp only[V.down,Option.some.injEq] at e; subst e; simpa only[ORep] using h
 |hole _=>simp[V.down] at e
 |bor l rows=>simp only[V.down,Option.some.injEq] at e; subst e; simp only[ORep] at h⊢; rw[hH]; exact h
 |own k rows=>
  simp only[V.down] at e
  split at e
  ·rename_i hp
   injection e with e; subst e
   exact h.pure_any (by simpa only[V.pure] using hp)
  ·cases e
theorem ORepL.down {H H':Nat→Frag} (hH:∀l,H' (l+1)=H l):∀ {d d':List D} {v:List Value} {g:Frag},ORepL H d v g→downL d=some d'→ORepL H' d' v g
 |[],d',v,g,h,e=>by simp only[downL,Option.some.injEq] at e; subst e; simpa only[ORepL] using h
 |d::ds,d',v,g,h,e=>by
  simp only[downL] at e
  split at e
  ·rename_i x xs e1 e2
   injection e with e; subst e
   simp only[ORepL] at h⊢
   obtain⟨v,vs,g1,g2,q1,q2,d12,h1,h2⟩:=h
   exact⟨v,vs,g1,g2,q1,q2,d12,h1.down hH e1,ORepL.down hH h2 e2⟩
  ·cases e
theorem downL_length:∀ {d d':List D},downL d=some d'→d'.length=d.length
 |[],d',e=>by simp only[downL,Option.some.injEq] at e; subst e; rfl
 |d::ds,d',e=>by
  simp only[downL] at e
  split at e
  ·injection e with e; subst e; simp[downL_length (by assumption)]
  ·cases e
theorem ORep.downR {H H':Nat→Frag} (hH:∀l,H' (l+1)=H l) {k:Nat} {rows rows':List (List D)} {v:Value} {g:Frag} (h:ORep H (.own k rows) v g) (e:V.downR rows=some rows'):ORep H' (.own k rows') v g∧rows'.length=rows.length:=by
 unfold V.downR at e
 split at e
 ·rename_i hp
  injection e with e; subst e
  exact⟨h.pure_any (by simpa only[V.pure] using hp),rfl⟩
 ·split at e
  ·rename_i ds
   split at e
   ·rename_i ds' e1
    injection e with e; subst e
    have hl:=downL_length e1
    refine⟨?_,rfl⟩
    simp only[ORep] at h⊢
    rcases h with⟨hn,_⟩ |⟨b,off,cap,arr,t,fz,g',e2,e3,hb,hc,hk,ha,hz,hr⟩
    ·cases hn
    ·refine .inr ⟨b,off,cap,arr,t,fz,g',e2,e3,hb,hc,?_,ha,hz,?_⟩
     ·intro r hr'
      simp only[List.mem_singleton] at hr'
      subst hr'
      rw[hl]; exact hk _ (by simp)
     ·simp only[ORepR,List.length_singleton] at hr⊢
      obtain⟨v1,v2,g1,g2,q1,q2,d12,h1,h2⟩:=hr
      exact⟨v1,v2,g1,g2,q1,q2,d12,h1.down hH e1,h2⟩
   ·cases e
  ·cases e
theorem ORep.up {H:Nat→Frag} {d d':D} {v:Value} {g:Frag} (h:ORep H d v g) (e:V.up d=some d'):ORep (fun l=>H (l+1)) d' v g:=by
 cases d with
 |val x=>simp only[V.up,Option.some.injEq] at e; subst e; simpa only[ORep] using h
 |hole _=>simp[V.up] at e
 |bor l rows=>
  cases l with
  |zero=>simp[V.up] at e
  |succ l=>simp only[V.up,Option.some.injEq] at e; subst e; simp only[ORep] at h⊢; exact h
 |own k rows=>
  simp only[V.up] at e
  split at e
  ·rename_i hp
   injection e with e; subst e
   exact h.pure_any (by simpa only[V.pure] using hp)
  ·cases e
theorem ORepL.up {H:Nat→Frag}:∀ {d d':List D} {v:List Value} {g:Frag},ORepL H d v g→upL d=some d'→ORepL (fun l=>H (l+1)) d' v g
 |[],d',v,g,h,e=>by simp only[upL,Option.some.injEq] at e; subst e; simpa only[ORepL] using h
 |d::ds,d',v,g,h,e=>by
  simp only[upL] at e
  split at e
  ·rename_i x xs e1 e2
   injection e with e; subst e
   simp only[ORepL] at h⊢
   obtain⟨v,vs,g1,g2,q1,q2,d12,h1,h2⟩:=h
   exact⟨v,vs,g1,g2,q1,q2,d12,h1.up e1,ORepL.up h2 e2⟩
  ·cases e
theorem upL_length:∀ {d d':List D},upL d=some d'→d'.length=d.length
 |[],d',e=>by simp only[upL,Option.some.injEq] at e; subst e; rfl
 |d::ds,d',e=>by
  simp only[upL] at e
  split at e
  ·injection e with e; subst e; simp[upL_length (by assumption)]
  ·cases e
theorem ORep.upR {H:Nat→Frag} {k:Nat} {rows rows':List (List D)} {v:Value} {g:Frag} (h:ORep H (.own k rows) v g) (e:V.upR rows=some rows'):ORep (fun l=>H (l+1)) (.own k rows') v g:=by
 unfold V.upR at e
 split at e
 ·rename_i hp
  injection e with e; subst e
  exact h.pure_any (by simpa only[V.pure] using hp)
 ·split at e
  ·rename_i ds
   split at e
   ·rename_i ds' e1
    injection e with e; subst e
    have hl:=upL_length e1
    simp only[ORep] at h⊢
    rcases h with⟨hn,_⟩ |⟨b,off,cap,arr,t,fz,g',e2,e3,hb,hc,hk,ha,hz,hr⟩
    ·cases hn
    ·refine .inr ⟨b,off,cap,arr,t,fz,g',e2,e3,hb,hc,?_,ha,hz,?_⟩
     ·intro r hr'
      simp only[List.mem_singleton] at hr'
      subst hr'
      rw[hl]; exact hk _ (by simp)
     ·simp only[ORepR,List.length_singleton] at hr⊢
      obtain⟨v1,v2,g1,g2,q1,q2,d12,h1,h2⟩:=hr
      exact⟨v1,v2,g1,g2,q1,q2,d12,h1.up e1,h2⟩
   ·cases e
  ·cases e
theorem pureL_mem:∀ {l:List D} {j:Nat} {d:D},l[j]?=some d→V.pure d=false→pureL l=false
 |[],j,d,h,_=>by simp at h
 |x::l,0,d,h,hp=>by simp at h; subst h; simp[pureL,hp]
 |x::l,j+1,d,h,hp=>by simp only[pureL,Bool.and_eq_false_iff]; exact .inr (pureL_mem (by simpa using h) hp)
theorem pureR_mem:∀ {l:List (List D)} {i:Nat} {r:List D},l[i]?=some r→pureL r=false→pureR l=false
 |[],j,d,h,_=>by simp at h
 |x::l,0,d,h,hp=>by simp at h; subst h; simp[pureR,hp]
 |x::l,j+1,d,h,hp=>by simp only[pureR,Bool.and_eq_false_iff]; exact .inr (pureR_mem (by simpa using h) hp)
theorem downL_mem:∀ {l:List D} {j:Nat} {d:D},l[j]?=some d→V.down d=none→downL l=none
 |[],j,d,h,_=>by simp at h
 |x::l,0,d,h,hp=>by simp at h; subst h; simp[downL,hp]
 |x::l,j+1,d,h,hp=>by
  have:=downL_mem (l:=l) (by simpa using h) hp
  simp only[downL,this]
  split
  ·simp at*
  ·rfl
theorem At.not_pure {n:Nat} {g:Frag} {d:D} {v:Value} {r:Path} {c:Value} (h:At g d v r (.hole n) c):V.pure d=false∧V.down d=none:=by
 generalize hh:D.hole n=dh at h
 induction h with
 |nil=>subst hh; exact⟨rfl,rfl⟩
 |cons hb hi hj hc _ ih=>
  have:=(ih hh).1
  have hp:pureR _=false:=pureR_mem hi (pureL_mem hj this)
  exact⟨by simp only[V.pure]; exact hp,by simp[V.down,hp]⟩
theorem downR_hole {n:Nat} {g:Frag} {k:Nat} {rows:List (List D)} {v:Value} {r:Path} {c:Value} (h:At g (.own k rows) v r (.hole n) c):V.downR rows=none:=by
 cases h with
 |@cons _ _ _ _ _ _ _ _ _ i j row d1 c1 _ _ _ hb hi hj hc m=>
  obtain⟨h1,h2⟩:=m.not_pure
  have hp:pureR _=false:=pureR_mem hi (pureL_mem hj h1)
  unfold V.downR
  rw[if_neg (by simp[hp])]
  split
  ·cases i with
   |zero=>
    simp only[List.getElem?_cons_zero,Option.some.injEq] at hi
    subst hi
    rw[downL_mem hj h2]
   |succ i=>simp at hi
  ·rfl
end Go.Proofs.YtmdocdnidilaiaaGreat.V
