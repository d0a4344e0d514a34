/- V: taking a slice out of its object. -/
import Derived.Test.YtmdocdnidilaiaaGreatVRel
namespace Go.Proofs.YtmdocdnidilaiaaGreat.V
open Go Frag
theorem ov_nil (O:Id→OS):ov O []=O:=by funext i; rfl
theorem ov_cons (O:Id→OS) (j:Id) (x:OS) (T:List (Id × OS)):ov O ((j,x)::T)=fun i=>if j=i then x else ov O T i:=by
 funext i; simp only[ov,getA]
theorem own_view {H:Nat→Frag} {k:Nat} {rows:List (List D)} {v' v:Value} {g:Frag} (h:ORep H (.own k rows) v' g) {lo n:Nat} (hw:ViewOf v' k lo n v) (hl:lo+n≤rows.length):
  ∃g',Sub g' g∧ORep H (.own k ((rows.drop lo).take n)) v g':=by
 have hlen:((rows.drop lo).take n).length=n:=by rw[List.length_take,List.length_drop]; omega
 rcases hw with⟨b,o,len,cap,c,rfl,rfl,e3',e4,_⟩ |⟨rfl,a,rfl,_⟩
 ·have e3:lo+c≤cap:=Nat.le_of_eq e3'
  simp only[ORep] at h
  rcases h with⟨rfl,⟨a,ha⟩,rfl⟩ |⟨b',o',cap',arr,t,fz,g',ev,rfl,hb,hc,hk,ha,hz,hr⟩
  ·simp only[Value.slice.injEq] at ha
   obtain⟨_,_,rfl⟩:=ha
   have:c=0:=by omega
   subst this
   have:n=0:=by omega
   subst this
   exact⟨emp,emp_sub _,by simp only[ORep]; exact .inl ⟨by simp,⟨_,rfl⟩,trivial⟩⟩
  ·simp only[Value.slice.injEq,Option.some.injEq,Addr.mk.injEq] at ev
   obtain⟨⟨rfl,rfl,_⟩,rfl,rfl⟩:=ev
   have e0:rows=rows.take lo++((rows.drop lo).take n++rows.drop (lo+n)):=by
    rw[← List.drop_drop,List.take_append_drop,List.take_append_drop]
   generalize hvs:(arr.toList.drop o).take (rows.length*k)=vs at hr
   rw[e0] at hr
   obtain⟨A,R,gA,gR,eA,rfl,dA,rA,rR⟩:=ORepR.split hr
   obtain⟨B,C,gB,gC,rfl,rfl,dB,rB,rC⟩:=ORepR.split rR
   have lA:A.length=lo*k:=by
    have:=ORepR.length rA (fun r hr=>hk r (List.mem_of_mem_take hr))
    rw[List.length_take,Nat.min_eq_left (by omega)] at this; exact this
   have lB:B.length=n*k:=by
    have:=ORepR.length rB (fun r hr=>hk r (List.mem_of_mem_drop (List.mem_of_mem_take hr)))
    rw[hlen] at this; exact this
   have hmul:(lo+n)*k≤rows.length*k:=Nat.mul_le_mul_right k hl
   have hcap:(lo+c)*k≤cap*k:=Nat.mul_le_mul_right k e3
   rw[Nat.add_mul] at hmul hcap
   have hval:(arr.toList.drop (o+lo*k)).take (n*k)=B:=by
    have h1:=congrArg (fun l=>(l.drop (lo*k)).take (n*k)) (hvs.trans eA)
    simp only[List.drop_take,List.take_take,List.drop_drop] at h1
    rw[Nat.min_eq_left (by omega)] at h1
    rw[h1,← lA,List.drop_left,← lB,List.take_left]
   obtain⟨n1,n2⟩:=un_none.1 hb
   obtain⟨n3,n4⟩:=un_none.1 n2
   refine⟨(one b (.cells arr t fz)).un gB,?_,?_⟩
   ·exact un_sub (sub_un_left _ _) (Sub.trans (Sub.trans (sub_un_left gB gC) (sub_un_right dA)) (sub_un_right (disj_one hb)))
   ·simp only[ORep]
    refine .inr ⟨b,o+lo*k,c,arr,t,fz,gB,by rw[hlen],rfl,n3,by rw[hlen]; exact e4,fun r hr=>hk r (List.mem_of_mem_drop (List.mem_of_mem_take hr)),by omega,hz,?_⟩
    rw[hlen,hval]; exact rB
 ·refine⟨emp,emp_sub _,?_⟩
  simp only[ORep]
  exact .inl ⟨by simp,⟨_,rfl⟩,trivial⟩
theorem nav_snoc:∀ {p:Path} {k:Nat} {rows:List (List D)} {i j k1:Nat} {rows1:List (List D)},nav k rows (p++ [(i,j)])=some (k1,rows1)→
  ∃k' rows' row,nav k rows p=some (k',rows')∧rows'[i]?=some row∧row[j]?=some (.own k1 rows1)
 |[],k,rows,i,j,k1,rows1,h=>by
  simp only[List.nil_append,nav] at h
  split at h
  ·rename_i row hr
   split at h
   ·rename_i k' rows' hj
    simp only[Option.some.injEq,Prod.mk.injEq] at h
    obtain⟨rfl,rfl⟩:=h
    exact⟨k,rows,row,rfl,hr,hj⟩
   ·cases h
  ·cases h
 |(i0,j0)::p,k,rows,i,j,k1,rows1,h=>by
  simp only[List.cons_append,nav] at h
  split at h
  ·rename_i row hr
   split at h
   ·rename_i k' rows' hj
    obtain⟨k2,rows2,row2,h1,h2,h3⟩:=nav_snoc h
    exact⟨k2,rows2,row2,by simp only[nav,hr,hj]; exact h1,h2,h3⟩
   ·cases h
  ·cases h
theorem setCell_snoc (d:D):∀ {p:Path} {k:Nat} {rows:List (List D)} {i j k':Nat} {rows':List (List D)} {row:List D},nav k rows p=some (k',rows')→rows'[i]?=some row→j < row.length→
  setCell rows (p++ [(i,j)]) d=setNav rows p (rows'.set i (splice row j [d]))
 |[],k,rows,i,j,k',rows',row,h,hi,hj=>by
  simp only[nav,Option.some.injEq,Prod.mk.injEq] at h
  obtain⟨rfl,rfl⟩:=h
  simp only[List.nil_append,setCell,setNav]
  rw[modify_rows hi]
  congr 1
  rw[List.modify_eq_take_cons_drop hj]; simp[splice]
 |(i0,j0)::p,k,rows,i,j,k',rows',row,h,hi,hj=>by
  simp only[nav] at h
  split at h
  ·rename_i row0 hr0
   split at h
   ·rename_i k1 rows1 hj0
    have ih:=setCell_snoc d h hi hj
    have e:setCell rows ((i0,j0)::(p++ [(i,j)])) d=rows.modify i0 fun row=>row.modify j0 fun
      |.own k' rows'=>.own k' (setCell rows' (p++ [(i,j)]) d)
      |d'=>d':=by
     cases p<;>rfl
    rw[List.cons_append,e]
    simp only[setNav]
    rw[modify_rows hr0,modify_rows hr0,modify_row hj0,modify_row hj0]
    simp only[ih]
   ·cases h
  ·cases h
theorem nav_setNav:∀ {p:Path} {k:Nat} {rows:List (List D)} {k':Nat} {rows' new:List (List D)},nav k rows p=some (k',rows')→nav k (setNav rows p new) p=some (k',new)
 |[],k,rows,k',rows',new,h=>by
  simp only[nav,Option.some.injEq,Prod.mk.injEq] at h
  obtain⟨rfl,rfl⟩:=h
  simp[nav,setNav]
 |(i,j)::p,k,rows,k',rows',new,h=>by
  simp only[nav] at h
  split at h
  ·rename_i row hr
   split at h
   ·rename_i k1 rows1 hj
    have ih:=nav_setNav (new:=new) h
    have hil:=(List.getElem?_eq_some_iff.1 hr).1
    have hjl:=(List.getElem?_eq_some_iff.1 hj).1
    simp only[setNav,nav]
    rw[modify_rows hr,modify_row hj,List.getElem?_set_self hil]
    simp only[]
    have:(splice row j [D.own k1 (setNav rows1 p new)])[j]?=some (.own k1 (setNav rows1 p new)):=by
     unfold splice
     rw[List.append_assoc,List.getElem?_append_right (by rw[List.length_take]; omega),List.length_take,Nat.min_eq_left (by omega)]
     simp
    rw[this]
    exact ih
   ·cases h
  ·cases h
theorem snoc_cases:∀(p:Path),p=[]∨∃q i j,p=q++ [(i,j)]
 |[]=>.inl rfl
 |x::l=>by
  rcases snoc_cases l with rfl |⟨q,i,j,rfl⟩
  ·exact .inr ⟨[],x.1,x.2,rfl⟩
  ·exact .inr ⟨x::q,i,j,rfl⟩
structure Only (T:List Id) (X Y:Ctx):Prop where
 O:∀id,id∉T→Y.O id=X.O id
 hv:∀id,Y.hv id=X.hv id
 G:∀id,id∉T→Y.G id=X.G id
theorem stale_cons {p q:Path} {s:Bool} {l:List (Path × Bool)} (h:staleAt ((p,s)::l) q=false):(s=false→¬p <+:q)∧staleAt l q=false:=by
 simp only[staleAt,Bool.or_eq_false_iff,Bool.and_eq_false_iff] at h
 refine⟨fun hs hp=>?_,h.2⟩
 subst hs
 have:p.isPrefixOf q=true:=List.isPrefixOf_iff_prefix.2 hp
 simp[this] at h
theorem look_some {o:VObj} {q:Path} {ob:VObj} (h:(OS.live o).look q=some ob):ob=o∧staleAt o.dirty q=false:=by
 simp only[OS.look] at h
 split at h
 ·cases h
 ·injection h with h; exact⟨h.symm,by simp_all⟩
theorem look_of {o:VObj} {q:Path} (h:staleAt o.dirty q=false):(OS.live o).look q=some o:=by simp[OS.look,h]
theorem At.nil_eq {g:Frag} {d v d' v'} (h:At g d v [] d' v'):d'=d∧v'=v:=by cases h; exact⟨rfl,rfl⟩
theorem take_one {H:Nat→Frag} {O:Id→OS} {hv:Id→Value} {G:Id→Frag} {w:World} (M:ObjsOK H O hv G w) {id:Id} {q:Path} {o:VObj} {k:Nat} {rows:List (List D)} {v':Value}
  (hl:(O id).look q=some o) (hn:nav o.k o.rows q=some (k,rows)) (hat:At (G id) (.own o.k o.rows) (hv id) q (.own k rows) v'):
  ∃g G',ORep H (.own k rows) v' g∧ObjsOK H (fun i=>if id=i then hollow o q else O i) hv G' w∧(∀i,Disj g (G' i))∧Sub g (G id)∧Sub (G' id) (G id)∧(∀i,i≠id→G' i=G i)∧
   Carry ⟨H,O,hv,G⟩ ⟨H,fun i=>if id=i then hollow o q else O i,hv,G'⟩∧
   (q = [] → g = G id) ∧ (q ≠ [] → ∃ cur, hollow o q = .live cur ∧ At (G' id) (.own cur.k cur.rows) (hv id) q (.hole (lenAt o q)) v' ∧
    ∀q' d c,At (G id) (.own o.k o.rows) (hv id) q' d c→¬q <+:q'→∃d',At (G' id) (.own cur.k cur.rows) (hv id) q' d' c∧Shape d d'):=by
 have hO:=look_live hl
 have hr:=M.objs _ _ hO
 rcases snoc_cases q with rfl |⟨p,i,j,rfl⟩
 ·obtain⟨e1,rfl⟩:=hat.nil_eq
  simp only[D.own.injEq] at e1
  obtain⟨rfl,rfl⟩:=e1
  refine⟨G id,fun i=>if id=i then emp else G i,hr,?_,?_,sub_refl _,by simp[emp_sub],fun i hi=>by simp[Ne.symm hi],?_,fun _=>rfl,fun h=>absurd rfl h⟩
  ·constructor
   ·intro i ob h
    try dsimp only at h
    by_cases e:id=i
    ·simp[e,hollow] at h
    ·rw[if_neg e] at h⊢; exact M.objs i ob h
   ·intro i h
    try dsimp only
    by_cases e:id=i
    ·rw[if_pos e]
    ·rw[if_neg e]; exact M.gone i (fun ob hob=>h ob (by simp[e,hob]))
   ·intro i j hij
    try dsimp only
    by_cases e:id=i
    ·rw[if_pos e]; exact emp_disj _
    ·by_cases e':id=j
     ·rw[if_pos e']; exact disj_emp _
     ·rw[if_neg e,if_neg e']; exact M.apart i j hij
   ·intro i
    try dsimp only
    by_cases e:id=i
    ·rw[if_pos e]; intro b o h; cases h
    ·rw[if_neg e]; exact M.mem i
   ·exact M.prot
   ·intro i l
    try dsimp only
    by_cases e:id=i
    ·rw[if_pos e]; exact emp_disj _
    ·rw[if_neg e]; exact M.sep i l
  ·intro i
   try dsimp only
   by_cases e:id=i
   ·rw[if_pos e]; exact disj_emp _
   ·rw[if_neg e]; exact M.apart id i e
  ·refine⟨rfl,fun i h=>?_,fun i q ob' h hl'=>?_⟩
   ·try dsimp only
    by_cases e:id=i
    ·simp[e,hollow]
    ·rw[if_neg e]; exact h
   ·try dsimp only at hl'⊢
    by_cases e:id=i
    ·simp[e,hollow,OS.look] at hl'
    ·rw[if_neg e] at hl'; rw[if_neg e]
     exact⟨ob',hl',fun k' rows' v' n=>⟨rows',n,rfl⟩⟩
 ·obtain⟨k',rows',row,h1,h2,h3⟩:=nav_snoc hn
  have hjl:j < row.length:=(List.getElem?_eq_some_iff.1 h3).1
  obtain⟨b,of,cap,arr,t,fz,gs,gr,hat2,eg,dsr,hsb,hrb,hk,hc,hin,hz,hseg,hput⟩:=hr.change h1 h2 (off:=j) (n:=1) (by omega)
  rw[one_of h3] at hseg
  obtain⟨c,ec⟩:∃c,(arr.toList.drop (of+i*k'+j)).take 1=[c]:=by
   have hl:=hseg.length
   generalize (arr.toList.drop (of+i*k'+j)).take 1=l at hl
   match l,hl with
   |[c],_=>exact⟨c,rfl⟩
  have hcell:arr[of+i*k'+j]?=some c:=by simpa using one_val_of ec rfl
  rw[ec] at hseg
  have hown:=own_cell hseg
  have hGb:G id b=some (.cells arr t fz):=by rw[eg]; exact one_un_at _ _ _
  have hc':c=v':=((hat2.append (.cons hGb h2 h3 hcell .nil)).det hat).2
  subst hc'
  have hlen:lenAt o (p++ [(i,j)])=rows.length:=by unfold lenAt; rw[hn]
  have hv1:∃a c',c=.slice a (lenAt o (p++ [(i,j)])) c':=by
   rw[hlen]
   simp only[ORep] at hown
   rcases hown with⟨rfl,⟨a,rfl⟩,_⟩ |⟨b',o',cap',_,_,_,_,rfl,_⟩<;>exact⟨_,_,rfl⟩
  obtain⟨hnew,htr⟩:=hput [.hole (lenAt o (p++ [(i,j)]))] [c] emp (cell_own (by simp only[ORep]; exact⟨hv1,trivial⟩)) rfl (emp_disj _) rfl
  rw[over_same hcell,emp_un] at hnew htr
  have es:setCell o.rows (p++ [(i,j)]) (.hole (lenAt o (p++ [(i,j)])))=setNav o.rows p (rows'.set i (splice row j [.hole (lenAt o (p++ [(i,j)]))])):=setCell_snoc _ h1 h2 hjl
  have hne:(p++ [(i,j)]).isEmpty=false:=by cases p<;>rfl
  have hsubG:Sub ((one b (.cells arr t fz)).un gr) (G id):=by
   rw[eg]; exact un_sub (sub_un_left _ _) (Sub.trans (sub_un_right dsr) (sub_un_right (disj_one (un_none.2 ⟨hsb,hrb⟩))))
  have hsubg:Sub gs (G id):=by rw[eg]; exact sub_seg hsb hrb
  have hdg:Disj gs ((one b (.cells arr t fz)).un gr):=disj_un.2 ⟨(disj_one hsb).comm,dsr⟩
  have hh:hollow o (p++ [(i,j)])=.live {o with rows:=setCell o.rows (p++ [(i,j)]) (.hole (lenAt o (p++ [(i,j)]))),dirty:=(p++ [(i,j)],false)::o.dirty}:=by simp only[hollow,hne,Bool.false_eq_true,if_false]
  refine⟨gs,fun x=>if id=x then(one b (.cells arr t fz)).un gr else G x,hown,?_,?_,hsubg,by simp only[if_true]; exact hsubG,fun x hx=>by simp[Ne.symm hx],?_,fun h=>absurd h (by cases p<;>simp),?_⟩
  ·constructor
   ·intro x ob h
    try dsimp only at h
    by_cases e:id=x
    ·subst e
     rw[if_pos rfl,hh] at h
     cases h
     simp only[if_true]
     rw[es]; exact hnew
    ·rw[if_neg e] at h⊢; exact M.objs x ob h
   ·intro x h
    try dsimp only
    by_cases e:id=x
    ·exact(h _ (by rw[if_pos e]; exact hh)).elim
    ·rw[if_neg e]; exact M.gone x (fun ob hob=>h ob (by simp[e,hob]))
   ·intro x y hxy
    try dsimp only
    by_cases e:id=x
    ·subst e
     rw[if_pos rfl,if_neg hxy]; exact Disj.sub (M.apart _ _ hxy) hsubG (sub_refl _)
    ·by_cases e':id=y
     ·subst e'; rw[if_neg e,if_pos rfl]; exact Disj.sub (M.apart _ _ hxy) (sub_refl _) hsubG
     ·rw[if_neg e,if_neg e']; exact M.apart x y hxy
   ·intro x
    try dsimp only
    by_cases e:id=x
    ·subst e; rw[if_pos rfl]; exact fun b o h=>M.mem _ _ _ (hsubG _ _ h)
    ·rw[if_neg e]; exact M.mem x
   ·exact M.prot
   ·intro x l
    try dsimp only
    by_cases e:id=x
    ·subst e; rw[if_pos rfl]; exact Disj.sub (M.sep _ l) hsubG (sub_refl _)
    ·rw[if_neg e]; exact M.sep x l
  ·intro x
   try dsimp only
   by_cases e:id=x
   ·rw[if_pos e]; exact hdg
   ·rw[if_neg e]; exact Disj.sub (M.apart id x e) hsubg (sub_refl _)
  ·refine⟨rfl,fun x h=>?_,fun x q ob' h hl'=>?_⟩
   ·try dsimp only
    by_cases e:id=x
    ·simp[e,hh]
    ·rw[if_neg e]; exact h
   ·try dsimp only at hl'⊢
    by_cases e:id=x
    ·subst e
     simp only[if_true] at hl'⊢
     rw[hh] at hl'
     obtain⟨rfl,hst⟩:=look_some hl'
     obtain⟨hp,hst'⟩:=stale_cons hst
     refine⟨o,by rw[hO]; exact look_of hst',fun k2 rows2 v2 n=>?_⟩
     obtain ⟨d', n', hsh⟩ := htr q _ _ n (fun j' hj1 hj2 => by
      have:j'=j:=by omega
      subst this; exact hp rfl)
     rw[← es] at n'
     rcases hsh with rfl |⟨k3,r3,r3',e3,rfl,e4⟩
     ·exact⟨rows2,n',rfl⟩
     ·simp only[D.own.injEq] at e3
      obtain⟨rfl,rfl⟩:=e3
      exact⟨r3',n',e4⟩
    ·rw[if_neg e] at hl'; rw[if_neg e]
     exact⟨ob',hl',fun k' rows' v' n=>⟨rows',n,rfl⟩⟩
  ·intro _
   refine⟨_,hh,?_,?_⟩
   ·simp only[if_true]
    have hp:At ((one b (.cells arr t fz)).un gr) (.own o.k (setCell o.rows (p++ [(i,j)]) (.hole (lenAt o (p++ [(i,j)]))))) (hv id) p (.own k' (rows'.set i (splice row j [.hole (lenAt o (p++ [(i,j)]))]))) (.slice (some ⟨b,of,none⟩) rows'.length cap):=by
     have hno:∀j':Nat,j≤j'→j' < j+1→¬(p++ [(i,j')]) <+:p:=fun j' _ _ hpre=>absurd hpre.length_le (by simp)
     obtain⟨d',n',hsh⟩:=htr p _ _ hat2 hno
     rw[← es] at n'
     have hd':∃k2 r2,d'=.own k2 r2:=by
      rcases hsh with rfl |⟨k2,r2,r2',_,rfl,_⟩<;>exact⟨_,_,rfl⟩
     obtain⟨k2,r2,rfl⟩:=hd'
     have hnv:=n'.nav
     rw[es,nav_setNav h1] at hnv
     simp only[Option.some.injEq,Prod.mk.injEq] at hnv
     obtain⟨rfl,rfl⟩:=hnv
     exact n'
    refine hp.append (.cons (one_un_at _ _ _) (List.getElem?_set_self (List.getElem?_eq_some_iff.1 h2).1) ?_ hcell .nil)
    unfold splice
    rw[List.append_assoc,List.getElem?_append_right (by rw[List.length_take]; omega),List.length_take,Nat.min_eq_left (by omega)]
    simp
   ·intro q' d c' n hq
    simp only[if_true]
    obtain ⟨d', n', hsh⟩ := htr q' d c' n (fun j' hj1 hj2 => by
     have:j'=j:=by omega
     subst this; exact hq)
    rw[← es] at n'
    exact⟨d',n',hsh⟩
structure Held (H:Nat→Frag) (O:Id→OS) (hv:Id→Value) (G:Id→Frag) (w:World) (T:List (Id × OS)) (G':Id→Frag) (F:Frag):Prop where
 m:ObjsOK H (ov O T) hv G' w
 c:Carry ⟨H,O,hv,G⟩ ⟨H,ov O T,hv,G'⟩
 d:∀i,Disj F (G' i)
 h:∀l,Disj F (H l)
 w:F.inW w
 sub:∀i,Sub (G' i) (G i)
 from_:∀b o,F b=some o→∃i∈idsOf T,G i b=some o
 dead:∀i ob,ov O T i=.live ob→∃ob',O i=.live ob'
 none_:∀i,O i=.none→ov O T i=.none
theorem Held.start {H O hv G w} (M:ObjsOK H O hv G w):Held H O hv G w [] G emp where
 m:=by rw[ov_nil]; exact M
 c:=by rw[ov_nil]; exact Carry.refl _
 d _:=emp_disj _
 h _:=emp_disj _
 w b o h:=by cases h
 sub _:=sub_refl _
 from_ b o h:=by cases h
 dead i ob h:=⟨ob,by rwa [ov_nil] at h⟩
 none_ i h:=by rw[ov_nil]; exact h
theorem Held.takeAt {H O hv G w T G' F} (S:Held H O hv G w T G' F) {r:Ref} {v':Value} {o k rows} (hl:(ov O T r.id).look r.path=some o) (hat:At (G' r.id) (.own o.k o.rows) (hv r.id) r.path (.own k rows) v'):
  ∃G'' g,ORep H (.own k rows) v' g∧Disj F g∧Held H O hv G w ((r.id,hollow o r.path)::T) G'' (F.un g):=by
 have hn:=hat.nav
 obtain⟨g,G'',hg,hm,hd,hs1,hs2,hoth,hc,_⟩:=take_one S.m hl hn hat
 obtain⟨g2,hg2,hr2⟩:∃g2,Sub g2 g∧ORep H (.own k rows) v' g2:=⟨g,sub_refl _,hg⟩
 have hFg:Disj F g2:=Disj.sub (S.d r.id) (sub_refl _) (Sub.trans hg2 hs1)
 have hsubs:∀i,Sub (G'' i) (G' i):=fun i=>by
  by_cases e:i=r.id
  ·subst e; exact hs2
  ·rw[hoth i e]; exact sub_refl _
 refine⟨G'',g2,hr2,hFg,?_⟩
 constructor
 ·rw[ov_cons]; exact hm
 ·rw[ov_cons]; exact S.c.trans hc
 ·intro i
  exact un_disj.2 ⟨Disj.sub (S.d i) (sub_refl _) (hsubs i),Disj.sub (hd i) hg2 (sub_refl _)⟩
 ·intro l
  exact un_disj.2 ⟨S.h l,Disj.sub (S.m.sep r.id l) (Sub.trans hg2 hs1) (sub_refl _)⟩
 ·intro b o h
  simp only[un] at h
  cases hF:F b with
  |none=>rw[hF] at h; exact S.m.mem _ _ _ (hs1 _ _ (hg2 _ _ (by simpa using h)))
  |some x=>rw[hF] at h; exact S.w _ _ (by rw[hF]; simpa using h)
 ·intro i; exact Sub.trans (hsubs i) (S.sub i)
 ·intro b o h
  simp only[un] at h
  cases hF:F b with
  |none=>
   rw[hF] at h
   exact⟨r.id,by simp[idsOf],S.sub _ _ _ (hs1 _ _ (hg2 _ _ (by simpa using h)))⟩
  |some x=>
   rw[hF] at h
   obtain⟨i,hi,hb⟩:=S.from_ b o (by rw[hF]; simpa using h)
   exact⟨i,by simp only[idsOf,List.map_cons,List.mem_cons]; exact .inr hi,hb⟩
 ·intro i ob h
  rw[ov_cons] at h
  dsimp only at h
  by_cases e:r.id=i
  ·subst e
   exact S.dead _ _ (look_live hl)
  ·rw[if_neg e] at h; exact S.dead i ob h
 ·intro i h
  rw[ov_cons]
  try dsimp only
  by_cases e:r.id=i
  ·subst e
   have:=S.none_ _ h
   rw[look_live hl] at this; cases this
  ·rw[if_neg e]; exact S.none_ i h
theorem Held.takeV {H O hv G w T G' F} (S:Held H O hv G w T G' F) {r:Ref} {v:Value} {o k rows} (hx:CVRel ⟨H,O,hv,G⟩ (.ref r) v) (hl:(ov O T r.id).look r.path=some o) (hn:nav o.k o.rows r.path=some (k,rows)) (hlo:r.lo+r.n≤rows.length):
  ∃G'' g,ORep H (.own k ((rows.drop r.lo).take r.n)) v g∧Disj F g∧Held H O hv G w ((r.id,hollow o r.path)::T) G'' (F.un g):=by
 have hx':=hx.carry S.c
 obtain⟨_,hne,h3⟩:=hx'
 obtain⟨k2,rows2,v',hat,_,hw⟩:=h3 o hl
 have hn2:=hat.nav
 rw[hn] at hn2
 simp only[Option.some.injEq,Prod.mk.injEq] at hn2
 obtain⟨rfl,rfl⟩:=hn2
 obtain⟨g,G'',hg,hm,hd,hs1,hs2,hoth,hc,_⟩:=take_one S.m hl hn hat
 obtain⟨g2,hg2,hr2⟩:=own_view hg hw hlo
 have hFg:Disj F g2:=Disj.sub (S.d r.id) (sub_refl _) (Sub.trans hg2 hs1)
 have hsubs:∀i,Sub (G'' i) (G' i):=fun i=>by
  by_cases e:i=r.id
  ·subst e; exact hs2
  ·rw[hoth i e]; exact sub_refl _
 refine⟨G'',g2,hr2,hFg,?_⟩
 constructor
 ·rw[ov_cons]; exact hm
 ·rw[ov_cons]; exact S.c.trans hc
 ·intro i
  exact un_disj.2 ⟨Disj.sub (S.d i) (sub_refl _) (hsubs i),Disj.sub (hd i) hg2 (sub_refl _)⟩
 ·intro l
  exact un_disj.2 ⟨S.h l,Disj.sub (S.m.sep r.id l) (Sub.trans hg2 hs1) (sub_refl _)⟩
 ·intro b o h
  simp only[un] at h
  cases hF:F b with
  |none=>rw[hF] at h; exact S.m.mem _ _ _ (hs1 _ _ (hg2 _ _ (by simpa using h)))
  |some x=>rw[hF] at h; exact S.w _ _ (by rw[hF]; simpa using h)
 ·intro i; exact Sub.trans (hsubs i) (S.sub i)
 ·intro b o h
  simp only[un] at h
  cases hF:F b with
  |none=>
   rw[hF] at h
   exact⟨r.id,by simp[idsOf],S.sub _ _ _ (hs1 _ _ (hg2 _ _ (by simpa using h)))⟩
  |some x=>
   rw[hF] at h
   obtain⟨i,hi,hb⟩:=S.from_ b o (by rw[hF]; simpa using h)
   exact⟨i,by simp only[idsOf,List.map_cons,List.mem_cons]; exact .inr hi,hb⟩
 ·intro i ob h
  rw[ov_cons] at h
  dsimp only at h
  by_cases e:r.id=i
  ·subst e
   exact S.dead _ _ (look_live hl)
  ·rw[if_neg e] at h; exact S.dead i ob h
 ·intro i h
  rw[ov_cons]
  try dsimp only
  by_cases e:r.id=i
  ·subst e
   have:=S.none_ _ h
   rw[look_live hl] at this; cases this
  ·rw[if_neg e]; exact S.none_ i h
theorem Held.takeR {H O hv G w T G' F} (S:Held H O hv G w T G' F) {r:Ref} {v:Value} {k rows T'} (hx:CVRel ⟨H,O,hv,G⟩ (.ref r) v) (ht:V.takeR O T r=some (k,rows,T')):
  ∃G'' g,ORep H (.own k rows) v g∧Disj F g∧Held H O hv G w T' G'' (F.un g):=by
 unfold V.takeR at ht
 split at ht
 ·rename_i o hl
  split at ht
  ·rename_i k1 rows1 hn
   split at ht
   ·rename_i hlo
    simp only[Option.some.injEq,Prod.mk.injEq] at ht
    obtain⟨rfl,rfl,rfl⟩:=ht
    obtain⟨G'',g,h1,h2,h3⟩:=S.takeV hx hl hn (by omega)
    rw[hlo.1,hlo.2] at h1
    simp only[List.drop_zero,List.take_length] at h1
    exact⟨G'',g,h1,h2,h3⟩
   ·cases ht
  ·cases ht
 ·cases ht
theorem Held.takeC {H O hv G w T G' F} (S:Held H O hv G w T G' F) {c:CV} {v:Value} {d T'} (hx:CVRel ⟨H,O,hv,G⟩ c v) (ht:V.takeC O T c=some (d,T')):
  ∃G'' g,ORep H d v g∧Disj F g∧Held H O hv G w T' G'' (F.un g):=by
 cases c with
 |val x=>
  simp only[V.takeC,Option.some.injEq,Prod.mk.injEq] at ht
  obtain⟨rfl,rfl⟩:=ht
  exact⟨G',emp,by simp only[ORep]; exact⟨hx.1,hx.2,trivial⟩,disj_emp _,by rw[un_emp]; exact S⟩
 |nl k=>
  simp only[V.takeC,Option.some.injEq,Prod.mk.injEq] at ht
  obtain⟨rfl,rfl⟩:=ht
  exact⟨G',emp,by simp only[ORep]; exact .inl ⟨trivial,hx,trivial⟩,disj_emp _,by rw[un_emp]; exact S⟩
 |bor l rows=>
  simp only[V.takeC,Option.some.injEq,Prod.mk.injEq] at ht
  obtain⟨rfl,rfl⟩:=ht
  exact⟨G',emp,by simp only[ORep]; exact⟨hx,trivial⟩,disj_emp _,by rw[un_emp]; exact S⟩
 |ref r=>
  simp only[V.takeC] at ht
  split at ht
  ·rename_i k rows T2 h2
   simp only[Option.some.injEq,Prod.mk.injEq] at ht
   obtain⟨rfl,rfl⟩:=ht
   exact S.takeR hx h2
  ·cases ht
theorem Held.takeCs {H O hv G w}:∀ {cs:List CV} {vs:List Value} {T G' F ds T'},Held H O hv G w T G' F→CVRels ⟨H,O,hv,G⟩ cs vs→V.takeCs O T cs=some (ds,T')→
  ∃G'' g,ORepL H ds vs g∧Disj F g∧Held H O hv G w T' G'' (F.un g)
 |[],vs,T,G',F,ds,T',S,hx,ht=>by
  simp only[V.takeCs,Option.some.injEq,Prod.mk.injEq] at ht
  obtain⟨rfl,rfl⟩:=ht
  simp only[CVRels] at hx
  exact⟨G',emp,by simp only[ORepL]; exact⟨hx,trivial⟩,disj_emp _,by rw[un_emp]; exact S⟩
 |c::cs,vs,T,G',F,ds,T',S,hx,ht=>by
  simp only[CVRels] at hx
  obtain⟨v,vs,rfl,h1,h2⟩:=hx
  simp only[V.takeCs] at ht
  split at ht
  ·rename_i d T1 e1
   split at ht
   ·rename_i ds1 T2 e2
    simp only[Option.some.injEq,Prod.mk.injEq] at ht
    obtain⟨rfl,rfl⟩:=ht
    obtain⟨G1,g1,r1,d1,S1⟩:=S.takeC h1 e1
    obtain⟨G2,g2,r2,d2,S2⟩:=Held.takeCs S1 h2 e2
    obtain⟨d3,d4⟩:=un_disj.1 d2
    refine⟨G2,g1.un g2,?_,disj_un.2 ⟨d1,d3⟩,by rw[← un_assoc]; exact S2⟩
    simp only[ORepL]
    exact⟨v,vs,g1,g2,rfl,rfl,d4,r1,r2⟩
   ·cases ht
  ·cases ht
theorem takeC_sub' {O:Id→OS} {T T':List (Id × OS)} {c d} (h:takeC O T c=some (d,T')):idsOf T⊆idsOf T':=by
 cases c<;>simp only[takeC,Option.some.injEq,Prod.mk.injEq] at h
 case ref r=>
  split at h
  ·rename_i k rows T2 h'
   simp only[Option.some.injEq,Prod.mk.injEq] at h
   obtain⟨_,rfl⟩:=h
   unfold takeR at h'
   split at h'<;>try cases h'
   split at h'<;>try cases h'
   split at h'<;>try cases h'
   exact fun i hi=>List.mem_cons_of_mem _ hi
  ·cases h
 all_goals (obtain⟨_,rfl⟩:=h; exact fun _=>id)
theorem takeCs_sub' {O:Id→OS}:∀ {cs:List CV} {T T':List (Id × OS)} {ds},takeCs O T cs=some (ds,T')→idsOf T⊆idsOf T'
 |[],T,T',ds,h=>by simp only[takeCs,Option.some.injEq,Prod.mk.injEq] at h; rw[h.2]; exact fun _=>id
 |c::cs,T,T',ds,h=>by
  simp only[takeCs] at h
  split at h<;>try cases h
  rename_i h1
  split at h<;>try cases h
  rename_i h2
  exact fun i hi=>takeCs_sub' h2 (takeC_sub' h1 hi)
theorem newId_none {O:Id→OS} {d c:Nat} {i:Id} (h:newId O d c=some i):O i=.none∧(i=(d,c,0)∨i=(d,c,1)):=by
 unfold newId at h
 split at h
 ·injection h with h; subst h; exact⟨by assumption,.inl rfl⟩
 ·split at h
  ·injection h with h; subst h; exact⟨by assumption,.inr rfl⟩
  ·cases h
theorem Held.make {H O hv G w T G' F} (S:Held H O hv G w T G' F) {dst c:Nat} {i:Id} (hi:newId (ov O T) dst c=some i) {k:Nat} {rows:List (List D)} {v:Value} {g:Frag} {w':World}
  (hr:ORep H (.own k rows) v g) (hg:∀b,g b≠none→F b≠none∨w.heap.size≤b) (hw:g.inW w') (hk:∀(b:Nat) (o:Obj),w.heap[b]?=some o→F b=none→w'.heap[b]?=some o):
  ∃hv' G'',hv' i=v∧(∀j,j≠i→hv' j=hv j)∧G'' i=g∧ObjsOK H (ov O ((i,.live ⟨k,rows,[]⟩)::T)) hv' G'' w'∧Carry ⟨H,O,hv,G⟩ ⟨H,ov O ((i,.live ⟨k,rows,[]⟩)::T),hv',G''⟩:=by
 obtain⟨hn,_⟩:=newId_none hi
 have hnF:∀ {x:Frag},Disj F x→x.inW w→Disj g x:=by
  intro x hd hin b
  by_cases e:g b=none
  ·exact .inl e
  ·right
   rcases hg b e with h | h
   ·exact(hd b).resolve_left h
   ·cases hx:x b with
    |none=>rfl
    |some o=>
     have:=(Array.getElem?_eq_some_iff.1 (hin b o hx)).1
     omega
 have hkeep:∀ {x:Frag},Disj F x→x.inW w→x.inW w':=by
  intro x hd hin b o h
  refine hk b o (hin b o h) ?_
  rcases hd b with e | e
  ·exact e
  ·rw[e] at h; cases h
 have hO:ov O T i=.none:=hn
 refine⟨fun j=>if i=j then v else hv j,fun j=>if i=j then g else G' j,by simp,fun j hj=>by simp[Ne.symm hj],by simp,?_,?_⟩
 ·rw[ov_cons]
  constructor
  ·intro j ob h
   try dsimp only at h⊢
   by_cases e:i=j
   ·rw[if_pos e] at h; cases h
    rw[if_pos e,if_pos e]; exact hr
   ·rw[if_neg e] at h; rw[if_neg e,if_neg e]; exact S.m.objs j ob h
  ·intro j h
   try dsimp only at h⊢
   by_cases e:i=j
   ·exact(h _ (by rw[if_pos e])).elim
   ·rw[if_neg e]; exact S.m.gone j (fun ob hob=>h ob (by rw[if_neg e]; exact hob))
  ·intro j l hjl
   try dsimp only
   by_cases e:i=j
   ·subst e
    rw[if_pos rfl,if_neg hjl]; exact hnF (S.d l) (S.m.mem l)
   ·by_cases e':i=l
    ·subst e'; rw[if_neg e,if_pos rfl]; exact(hnF (S.d j) (S.m.mem j)).comm
    ·rw[if_neg e,if_neg e']; exact S.m.apart j l hjl
  ·intro j
   try dsimp only
   by_cases e:i=j
   ·rw[if_pos e]; exact hw
   ·rw[if_neg e]; exact hkeep (S.d j) (S.m.mem j)
  ·intro l; exact hkeep (S.h l) (S.m.prot l)
  ·intro j l
   try dsimp only
   by_cases e:i=j
   ·rw[if_pos e]; exact hnF (S.h l) (S.m.prot l)
   ·rw[if_neg e]; exact S.m.sep j l
 ·refine S.c.trans ⟨rfl,fun j h=>?_,fun j q ob' h hl=>?_⟩
  ·rw[ov_cons]; try dsimp only at h⊢
   by_cases e:i=j
   ·rw[if_pos e]; simp
   ·rw[if_neg e]; exact h
  ·rw[ov_cons] at hl⊢; try dsimp only at h hl⊢
   by_cases e:i=j
   ·subst e; exact(h hO).elim
   ·rw[if_neg e] at hl
    refine⟨ob',hl,fun k' rows' v' n=>⟨rows',?_,rfl⟩⟩
    rw[if_neg e,if_neg e]; exact n
end Go.Proofs.YtmdocdnidilaiaaGreat.V
