/- V: addresses, loads, cuts. -/
import Derived.Test.YtmdocdnidilaiaaGreatVOpsB
namespace Go.Proofs.YtmdocdnidilaiaaGreat.V
open Go Frag Go.RowKit
set_option linter.unusedSimpArgs false
section
variable {P:Program} {X:Ctx} {ρ:Operand→Value} {w:World} {dst:Option Tmp} {type:TypeId} {pos:String} {af:Array Edge} {gd:Option (Nat × Bool)}
theorem BRepL.take {hp:Frag}:∀ {d:List B} {v:List Value} (n:Nat),BRepL hp d v→BRepL hp (d.take n) (v.take n)
 |[],v,n,h=>by simp only[BRepL] at h; subst h; simp[BRepL]
 |d::ds,v,0,h=>by simp[BRepL]
 |d::ds,v,n+1,h=>by
  simp only[BRepL] at h
  obtain⟨u,us,rfl,h1,h2⟩:=h
  simp only[List.take_succ_cons,BRepL]
  exact⟨u,_,rfl,h1,BRepL.take n h2⟩
theorem BRepL.drop {hp:Frag}:∀ {d:List B} {v:List Value} (n:Nat),BRepL hp d v→BRepL hp (d.drop n) (v.drop n)
 |[],v,n,h=>by simp only[BRepL] at h; subst h; simp[BRepL]
 |d::ds,v,0,h=>by simpa using h
 |d::ds,v,n+1,h=>by
  simp only[BRepL] at h
  obtain⟨u,us,rfl,h1,h2⟩:=h
  simpa using BRepL.drop n h2
theorem CVRels.take {X:Ctx}:∀ {d:List CV} {v:List Value} (n:Nat),CVRels X d v→CVRels X (d.take n) (v.take n)
 |[],v,n,h=>by simp only[CVRels] at h; subst h; simp[CVRels]
 |d::ds,v,0,h=>by simp[CVRels]
 |d::ds,v,n+1,h=>by
  simp only[CVRels] at h
  obtain⟨u,us,rfl,h1,h2⟩:=h
  simp only[List.take_succ_cons,CVRels]
  exact⟨u,_,rfl,h1,CVRels.take n h2⟩
theorem CVRels.drop {X:Ctx}:∀ {d:List CV} {v:List Value} (n:Nat),CVRels X d v→CVRels X (d.drop n) (v.drop n)
 |[],v,n,h=>by simp only[CVRels] at h; subst h; simp[CVRels]
 |d::ds,v,0,h=>by simpa using h
 |d::ds,v,n+1,h=>by
  simp only[CVRels] at h
  obtain⟨u,us,rfl,h1,h2⟩:=h
  simpa using CVRels.drop n h2
theorem CVRels.append {X:Ctx}:∀ {d e:List CV} {u v:List Value},CVRels X d u→CVRels X e v→CVRels X (d++e) (u++v)
 |[],e,u,v,h,h'=>by simp only[CVRels] at h; subst h; simpa using h'
 |d::ds,e,u,v,h,h'=>by
  simp only[CVRels] at h
  obtain⟨x,xs,rfl,h1,h2⟩:=h
  simp only[List.cons_append,CVRels]
  exact⟨x,_,rfl,h1,CVRels.append h2 h'⟩
theorem drop_take_drop {α:Type} (l:List α) (o c off n:Nat) (h:off+n≤c):(((l.drop o).take c).drop off).take n=(l.drop (o+off)).take n:=by
 rw[List.drop_take,List.take_take,List.drop_drop,Nat.min_eq_left (by omega)]
structure FieldAt (P:Program) (t:TypeId) (f off n:Nat):Prop where
 h:∃fs fd i,P.underlying t=some (.struct fs)∧fs[f]?=some fd∧fd.offset=off∧P.info? fd.type=some i∧i.size=n∧n≠0
theorem y_fa_ptr {t:TypeId} {f off n:Nat} {x:Operand} {p:Ptr} (hf:FieldAt P t f off n) (hx:SVRel X (.ptr p) (ρ x)) (hp:off+n≤p.n):
  Yields_ P ρ ⟨dst,.fieldAddr t x f,type,pos,af,gd⟩ w X (.ptr {p with off:=p.off+off,n}):=by
 obtain⟨fs,fd,i,ht,hfd,ho,hi,hn,h0⟩:=hf.h
 simp only[SVRel,PtrRel] at hx
 obtain⟨⟨⟨b,o,s⟩,e⟩,h2,h3⟩:=hx
 subst ho hn
 refine⟨.pointer (some ((⟨b,o,s⟩:Addr).add fd.offset)),?_,?_⟩
 ·have h0':¬i.size=0:=h0
  simp only[execOp,e]
  refine run_v ?_
  simp only[Instr.fieldAt,run_bind,run_underlying ht,hfd,Instr.sureAddr,fieldPlace,run_sizeOf hi,if_neg h0',run_pure]
 ·simp only[SVRel,PtrRel]
  refine⟨⟨_,rfl⟩,h2,fun ob hob=>?_⟩
  obtain⟨k',rows',b',o',len,cap,nv,hl,hc,e'⟩:=h3 ob hob
  refine⟨k',rows',b',o',len,cap,nv,hl,(by show p.off+fd.offset+i.size≤k'; omega),?_⟩
  rw[e] at e'
  simp only[Value.pointer.injEq,Option.some.injEq,Addr.mk.injEq] at e'
  obtain⟨rfl,rfl,rfl⟩:=e'
  rw[addr_add,Nat.add_assoc]
theorem y_fa_bptr {t:TypeId} {f off n l:Nat} {cs:List B} {x:Operand} (hf:FieldAt P t f off n) (hx:SVRel X (.bptr l cs) (ρ x)) (hp:off+n≤cs.length):
  Yields_ P ρ ⟨dst,.fieldAddr t x f,type,pos,af,gd⟩ w X (.bptr l ((cs.drop off).take n)):=by
 obtain⟨fs,fd,i,ht,hfd,ho,hi,hn,h0⟩:=hf.h
 simp only[SVRel,BptrRel] at hx
 obtain⟨b,o,arr,t',fz,e,hb,ha,hr⟩:=hx
 refine⟨_,fieldAddr_run ht hfd ho hi hn h0 e,?_⟩
 simp only[SVRel,BptrRel]
 have hl:((cs.drop off).take n).length=n:=by rw[List.length_take,List.length_drop]; omega
 refine⟨b,o+off,arr,t',fz,rfl,hb,by rw[hl]; omega,?_⟩
 rw[hl]
 have:=(hr.drop off).take n
 rwa [drop_take_drop _ _ _ _ _ hp] at this
structure ElemAt (P:Program) (t e k:Nat):Prop where
 h:∃i,P.underlying t=some (.slice e)∧P.info? e=some i∧i.size=k
theorem indexAddr_run {t e k:Nat} {x y:Operand} {b o n:Nat} {cap:Nat} {i:Int} {kd:IntKind} (he:ElemAt P t e k) (hx:ρ x=.slice (some ⟨b,o,none⟩) n cap) (hy:ρ y=.int kd i) (h0:0≤i) (h1:i < n):
  (execOp ρ ⟨dst,.indexAddr t x y,type,pos,af,gd⟩).run P w=.ok (.value (.pointer (some ⟨b,o+i.toNat*k,none⟩))) w:=by
 obtain⟨ti,ht,hi,hk⟩:=he.h
 simp only[execOp,hx,hy]
 refine run_v ?_
 simp only[Instr.indexAt,run_bind,asIntOf,run_pure,run_underlying ht]
 rw[if_pos ⟨h0,h1⟩]
 simp only[run_bind,run_sizeOf hi,run_pure,addr_add,hk]
theorem y_ia_ref {t e k:Nat} {x y:Operand} {r:Ref} {i:Int} {kd:IntKind} {ob:VObj} {k':Nat} {rows:List (List D)} (he:ElemAt P t e k) (hx:SVRel X (.one (.ref r)) (ρ x)) (hy:ρ y=.int kd i)
  (hr:rowsAt X.O r=some (ob,k',rows)) (hk:k'=k) (h0:0≤i) (h1:i < r.n):
  Yields_ P ρ ⟨dst,.indexAddr t x y,type,pos,af,gd⟩ w X (.ptr ⟨r.id,r.path,r.lo+i.toNat,0,k⟩):=by
 simp only[SVRel,CVRel] at hx
 obtain⟨⟨a,cap,ev⟩,h2,h3⟩:=hx
 unfold rowsAt at hr
 split at hr
 ·rename_i o hob
  split at hr
  ·rename_i k2 rows2 hnav
   split at hr
   ·simp only[Option.some.injEq,Prod.mk.injEq] at hr
    obtain⟨rfl,rfl,rfl⟩:=hr
    obtain⟨k3,rows3,v',nv,hl,hw⟩:=h3 _ hob
    have:=nv.nav
    rw[hnav] at this
    simp only[Option.some.injEq,Prod.mk.injEq] at this
    obtain⟨rfl,rfl⟩:=this
    rcases hw with⟨b,off,len,cap',c,e1,e2,e3,e4⟩ |⟨e1,_⟩
    ·subst e1 hk
     refine⟨_,indexAddr_run he e2 hy h0 h1,?_⟩
     simp only[SVRel,PtrRel]
     refine⟨⟨_,rfl⟩,h2,fun ob' hob'=>?_⟩
     rw[hob] at hob'; cases hob'
     refine⟨_,_,b,off,len,cap',nv,by omega,by omega,?_⟩
     simp only[Nat.add_mul,Nat.add_zero,Nat.add_assoc]
    ·omega
   ·cases hr
  ·cases hr
 ·cases hr
theorem BRepR.at_ {hp:Frag} {k:Nat}:∀ {rows:List (List B)} {vs:List Value} {i:Nat} {row:List B},BRepR hp rows vs→(∀r∈rows,r.length=k)→rows[i]?=some row→
  BRepL hp row ((vs.drop (i*k)).take k)
 |[],_,_,_,_,_,e=>by simp at e
 |r::rs,vs,i,row,h,hk,e=>by
  simp only[BRepR] at h
  obtain⟨v1,v2,rfl,h1,h2⟩:=h
  have l1:v1.length=k:=by rw[h1.length]; exact hk r (List.mem_cons_self ..)
  cases i with
  |zero=>
   simp at e; subst e
   have:((v1++v2).drop (0*k)).take k=v1:=by rw[Nat.zero_mul,List.drop_zero,← l1]; simp
   rw[this]; exact h1
  |succ i=>
   have:((v1++v2).drop ((i+1)*k))=v2.drop (i*k):=by
    rw[Nat.succ_mul,Nat.add_comm,← List.drop_drop,← l1]; simp
   rw[this]
   exact BRepR.at_ h2 (fun r hr=>hk r (List.mem_cons_of_mem _ hr)) (by simpa using e)
theorem y_ia_bor {t e k l:Nat} {x y:Operand} {rows:List (List B)} {i:Int} {kd:IntKind} (he:ElemAt P t e k) (hx:SVRel X (.one (.bor l rows)) (ρ x)) (hy:ρ y=.int kd i)
  (h0:0≤i) (h1:i < rows.length) (hk:((rows[i.toNat]?).getD []).length=k):
  Yields_ P ρ ⟨dst,.indexAddr t x y,type,pos,af,gd⟩ w X (.bptr l ((rows[i.toNat]?).getD [])):=by
 simp only[SVRel,CVRel,BRep] at hx
 rcases hx with⟨rfl,_⟩ |⟨b,off,cap,k',arr,t',fz,ev,hb,hc,hu,ha,hr⟩
 ·simp at h1; omega
 ·have hi:i.toNat < rows.length:=by omega
  obtain⟨row,erow⟩:∃row,rows[i.toNat]?=some row:=⟨_,List.getElem?_eq_getElem hi⟩
  rw[erow] at hk⊢
  simp only[Option.getD_some] at hk⊢
  have hkk:k'=k:=by rw[← hu row (List.mem_of_getElem? erow)]; exact hk
  subst hkk
  refine⟨_,indexAddr_run he ev hy h0 h1,?_⟩
  simp only[SVRel,BptrRel]
  have hm:i.toNat*k'+k'≤rows.length*k':=by rw[← Nat.succ_mul]; exact Nat.mul_le_mul_right _ hi
  refine⟨b,off+i.toNat*k',arr,t',fz,rfl,hb,by rw[hk]; omega,?_⟩
  rw[hk]
  have:=hr.at_ hu erow
  rwa [drop_take_drop _ _ _ _ _ hm] at this
theorem At.snoc {g:Frag} {d0 v p k' rows' b o len cap i j arr t fz row d1 c} (n:At g d0 v p (.own k' rows') (.slice (some ⟨b,o,none⟩) len cap)) (hb:g b=some (.cells arr t fz)) (hi:rows'[i]?=some row) (hj:row[j]?=some d1)
  (hc:arr[o+i*k'+j]?=some c):At g d0 v (p++ [(i,j)]) d1 c:=n.append (.cons hb hi hj hc .nil)
theorem cellsOut_rel {id:Id} {path:Path} {row:Nat} {b o cap len k':Nat} {rows':List (List D)} {arr:Array Value} {t':TypeId} {fz:Nat × Nat} {ob:VObj} {full:List D}
  (hO:X.O id=.live ob) (nv:At (X.G id) (.own ob.k ob.rows) (X.hv id) path (.own k' rows') (.slice (some ⟨b,o,none⟩) len cap)) (hb:X.G id b=some (.cells arr t' fz)) (hrow:rows'[row]?=some full):
  ∀ {ds:List D} {off:Nat} {vs:List Value} {g:Frag} {cs:List CV},ORepL X.H ds vs g→(∀j d,ds[j]?=some d→full[off+j]?=some d)→(∀j v,vs[j]?=some v→arr[o+row*k'+off+j]?=some v)→
   cellsOut ob.dirty id path row off ds=some cs→CVRels X cs vs
 |[],off,vs,g,cs,h,_,_,e=>by
  simp only[ORepL] at h
  simp only[cellsOut,Option.some.injEq] at e
  subst e; simp only[CVRels]; exact h.1
 |d::ds,off,vs,g,cs,h,hf,ha,e=>by
  simp only[ORepL] at h
  obtain⟨v,vs',g1,g2,rfl,rfl,_,h1,h2⟩:=h
  simp only[cellsOut] at e
  split at e
  ·rename_i c cs' ec ecs
   injection e with e; subst e
   simp only[CVRels]
   refine ⟨v, vs', rfl, ?_, cellsOut_rel hO nv hb hrow h2 (fun j d' hd => by have := hf (j + 1) d' (by simpa using hd); rwa [show off + 1 + j = off + (j + 1) by omega])
    (fun j u hu=>by have:=ha (j+1) u (by simpa using hu); rwa [show o+row*k'+(off+1)+j=o+row*k'+off+(j+1) by omega]) ecs⟩
   cases d with
   |val x=>
    simp only[cellOut,Option.some.injEq] at ec; subst ec
    simp only[ORep] at h1
    simp only[CVRel]; exact⟨h1.1,h1.2.1⟩
   |bor l rows=>
    simp only[cellOut,Option.some.injEq] at ec; subst ec
    simp only[ORep] at h1
    simp only[CVRel]; exact h1.1
   |hole n1=>
    simp only[cellOut] at ec
    split at ec
    ·rename_i hst
     simp only[Option.some.injEq] at ec; subst ec
     simp only[ORep] at h1
     simp only[CVRel]
     refine⟨h1.1,by rw[hO]; simp,fun ob' hob'=>?_⟩
     have:=look_live hob'
     rw[hO] at this hob'; cases this
     simp only[OS.look,hst,if_true] at hob'
     cases hob'
    ·cases ec
   |own k1 rows1=>
    simp only[cellOut,Option.some.injEq] at ec; subst ec
    have hn:=nv.snoc hb hrow (by simpa using hf 0 _ rfl) (by simpa using ha 0 _ rfl)
    have hform:(∃a cap,v=.slice a rows1.length cap)∧ViewOf v k1 0 rows1.length v:=by
     simp only[ORep] at h1
     rcases h1 with⟨rfl,⟨a,rfl⟩,_⟩ |⟨b',o',cap',arr',t'',fz',g',rfl,_,_,hc,_⟩
     ·exact⟨⟨a,0,rfl⟩,.inr ⟨rfl,a,rfl,fun _=>rfl⟩⟩
     ·exact⟨⟨_,_,rfl⟩,.inl ⟨b',o',_,cap',cap',rfl,by simp,by omega,hc,hc⟩⟩
    simp only[CVRel]
    refine⟨hform.1,by rw[hO]; simp,fun ob' hob'=>?_⟩
    have:=look_live hob'
    rw[hO] at this; cases this
    exact⟨k1,rows1,v,hn,by omega,hform.2⟩
  ·cases e
theorem ofCells_rel {agg:Bool} {cs:List CV} {vs:List Value} {sv:SV} (h:CVRels X cs vs) (e:SV.ofCells agg cs=some sv):∃v,SVRel X sv v∧(agg=true→v=.agg vs.toArray)∧(agg=false→vs=[v]):=by
 unfold SV.ofCells at e
 cases agg with
 |true=>simp only[if_true,Option.some.injEq] at e; subst e; exact⟨_,by simp only[SVRel]; exact⟨vs,rfl,h⟩,fun _=>rfl,fun x=>by cases x⟩
 |false=>
  simp only[Bool.false_eq_true,if_false] at e
  split at e
  ·injection e with e; subst e
   simp only[CVRels] at h
   obtain⟨v,vs',rfl,h1,rfl⟩:=h
   exact⟨v,by simp only[SVRel]; exact h1,(by intro x; cases x),fun _=>rfl⟩
  ·cases e
structure Sized (P:Program) (t:TypeId) (agg:Bool) (n:Nat):Prop where
 h:aggT P t=some agg∧∃i,P.info? t=some i∧i.size=n
theorem loadVar_run {t:TypeId} {agg:Bool} {n b o:Nat} {vs:List Value} (hs:Sized P t agg n) (hn:vs.length=n) (h:∀j v,vs[j]?=some v→w.cell? ⟨b,o+j,none⟩=some v) {v:Value} (h1:agg=true→v=.agg vs.toArray) (h2:agg=false→vs=[v]):
  (loadVar t ⟨b,o,none⟩).run P w=.ok v w:=by
 obtain⟨ha,i,hi,hsz⟩:=hs.h
 simp only[loadVar,run_bind,run_isAgg ha]
 cases agg with
 |true=>simp only[if_true,run_bind,run_sizeOf hi,run_loadCells vs (n:=i.size) (by omega) h,run_pure]; rw[h1 rfl]
 |false=>
  simp only[Bool.false_eq_true,if_false]
  have:=h2 rfl; subst this
  exact run_load (by simpa using h 0 v rfl)
theorem rowAt_parts {O:Id→OS} {p:Ptr} {o:VObj} {k:Nat} {rows:List (List D)} {row:List D} (h:rowAt O p=some (o,k,rows,row)):
  (O p.id).look p.path=some o∧nav o.k o.rows p.path=some (k,rows)∧rows[p.row]?=some row∧p.off+p.n≤row.length:=by
 unfold rowAt at h
 split at h
 ·rename_i o' ho
  split at h
  ·rename_i k' rows' hn
   split at h
   ·rename_i row' hr
    split at h
    ·simp only[Option.some.injEq,Prod.mk.injEq] at h
     obtain⟨rfl,rfl,rfl,rfl⟩:=h
     exact⟨ho,hn,hr,by assumption⟩
    ·cases h
   ·cases h
  ·cases h
 ·cases h
theorem y_load_ptr {t:TypeId} {agg:Bool} {n:Nat} {x:Operand} {p:Ptr} {ob:VObj} {k:Nat} {rows:List (List D)} {row:List D} {cs:List CV} {sv:SV} (M:Mem X w) (hs:Sized P t agg n) (hx:SVRel X (.ptr p) (ρ x)) (hp:p.n=n)
  (hr:rowAt X.O p=some (ob,k,rows,row)) (hc:cellsOut ob.dirty p.id p.path p.row p.off ((row.drop p.off).take n)=some cs) (hv:SV.ofCells agg cs=some sv):
  Yields_ P ρ ⟨dst,.load t x,type,pos,af,gd⟩ w X sv:=by
 obtain⟨hl,hn,hrow,hlen⟩:=rowAt_parts hr
 have hO:=look_live hl
 simp only[SVRel,PtrRel] at hx
 obtain⟨_,_,h3⟩:=hx
 obtain⟨k',rows',b,o,len,cap,nv,hrl,hoff,ev⟩:=h3 ob hl
 obtain⟨b',o',cap',arr,t',fz,gs,gr,nv2,e2,_,_,_,hk,_,hin,_,hseg,_⟩:=(M.objs _ _ hO).change hn hrow hlen
 obtain⟨e0,e1⟩:=nv.det nv2
 simp only[D.own.injEq] at e0
 obtain⟨rfl,rfl⟩:=e0
 simp only[Value.slice.injEq,Option.some.injEq,Addr.mk.injEq] at e1
 obtain⟨⟨rfl,rfl,_⟩,rfl,rfl⟩:=e1
 have hG:X.G p.id b=some (.cells arr t' fz):=by
  rw[e2]; exact one_un_at _ _ _
 have hw:=M.mem _ _ _ hG
 subst hp
 have hcells:=stretch_cells (o:=o+p.row*k'+p.off) (n:=p.n) hw
 have hrel := cellsOut_rel hO nv hG hrow hseg (fun j d hd => by
   rw[List.getElem?_take] at hd
   split at hd
   ·simpa using hd
   ·cases hd) (fun j v hv'=>by
   have:=hcells j v hv'
   rwa [cell_of hw] at this) hc
 obtain⟨v,hv1,hv2,hv3⟩:=ofCells_rel hrel hv
 refine⟨v,?_,hv1⟩
 simp only[execOp,ev]
 refine run_v ?_
 simp only[Instr.loadAt,run_bind,Instr.sureAddr,run_pure]
 have hl2:=hseg.length
 exact loadVar_run hs (by rw[hl2,List.length_take,List.length_drop]; omega) hcells hv2 hv3
theorem cellB_rel {l:Nat}:∀ {cs:List B} {vs:List Value},BRepL (X.H l) cs vs→CVRels X (cs.map (cellB l)) vs
 |[],vs,h=>by simp only[BRepL] at h; subst h; simp[CVRels]
 |d::ds,vs,h=>by
  simp only[BRepL] at h
  obtain⟨v,vs',rfl,h1,h2⟩:=h
  simp only[List.map_cons,CVRels]
  refine⟨v,vs',rfl,?_,cellB_rel h2⟩
  cases d with
  |val x=>simpa only[cellB,CVRel,BRep] using h1
  |sl rows=>simpa only[cellB,CVRel] using h1
theorem y_load_bptr {t:TypeId} {agg:Bool} {n l:Nat} {x:Operand} {cs:List B} {sv:SV} (M:Mem X w) (hs:Sized P t agg n) (hx:SVRel X (.bptr l cs) (ρ x)) (hl:cs.length=n) (hv:SV.ofCells agg (cs.map (cellB l))=some sv):
  Yields_ P ρ ⟨dst,.load t x,type,pos,af,gd⟩ w X sv:=by
 simp only[SVRel,BptrRel] at hx
 obtain⟨b,o,arr,t',fz,ev,hb,ha,hr⟩:=hx
 have hw:=M.prot _ _ _ hb
 obtain⟨v,hv1,hv2,hv3⟩:=ofCells_rel (cellB_rel hr) hv
 refine⟨v,?_,hv1⟩
 simp only[execOp,ev]
 refine run_v ?_
 simp only[Instr.loadAt,run_bind,Instr.sureAddr,run_pure]
 exact loadVar_run hs (by rw[hr.length,hl]) (stretch_cells hw) hv2 hv3
end
end Go.Proofs.YtmdocdnidilaiaaGreat.V
