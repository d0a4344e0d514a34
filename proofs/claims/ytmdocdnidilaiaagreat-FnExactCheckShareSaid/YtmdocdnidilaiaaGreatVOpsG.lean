/- V: bytes out of a string, append. -/
import Derived.Test.YtmdocdnidilaiaaGreatVOpsF
namespace Go.Proofs.YtmdocdnidilaiaaGreat.V
open Go Frag Go.RowKit
set_option linter.unusedSimpArgs false
theorem byte_rows {H:Nat→Frag}:∀(l:List UInt8),ORepR H (l.map fun b=>[D.val (.int .u8 b.toNat)]) (l.map fun b=>Value.int .u8 b.toNat) emp
 |[]=>by simp[ORepR]
 |b::l=>by
  simp only[List.map_cons,ORepR]
  refine⟨[.int .u8 b.toNat],_,emp,emp,rfl,(emp_un _).symm,emp_disj _,?_,byte_rows l⟩
  exact cell_own (by simp only[ORep]; exact⟨trivial,rfl,trivial⟩)
theorem byteRows_length (s:ByteArray):(byteRows s).length=s.size:=by simp[byteRows]
section
variable {P:Program} {w:World}
def drew (w:World):World:={w with drawn:=w.drawn+1}
theorem drew_below:Below 0 w (drew w):=⟨rfl,rfl,rfl,Nat.le_refl _,fun _ _=>rfl⟩
theorem run_cap {need old:Nat} {t:TypeId}:∃c,(choose (.appendCap need old t)).run P w=.ok c (drew w)∧need≤c:=by
 exact⟨(Question.appendCap need old t).cut (w.tape w.drawn (.appendCap need old t)),rfl,by simp only[Question.cut]; omega⟩
end
section
variable {P:Program} {ρ:Operand→Value} {H:Nat→Frag} {O:Id→OS} {hv:Id→Value} {G:Id→Frag} {w:World} {dst:Nat} {type:TypeId} {pos:String} {af:Array Edge} {gd:Option (Nat × Bool)}
structure ElemS (P:Program) (t e k bytes:Nat):Prop where
 h:∃i z,P.underlying t=some (.slice e)∧P.info? e=some i∧i.size=k∧i.bytes=bytes∧i.zero=some z∧z.cells.size=k
theorem growBy_le (n:Nat):∀(r c:Nat),256≤c→c≤2*n→Builtin.growBy n r c≤2*n
 |0,c,_,h=>h
 |r+1,c,h1,h2=>by
  simp only[Builtin.growBy]
  split
  ·exact h2
  ·exact growBy_le n r _ (by omega) (by omega)
theorem nextslicecap_le {n c:Nat} (h:c < n):Builtin.nextslicecap n c≤2*n:=by
 unfold Builtin.nextslicecap
 split
 ·omega
 ·split
  ·omega
  ·exact growBy_le n 4 c (by omega) (by omega)
theorem zeroCells_length (z:Array Value) (n:Nat):(Builtin.zeroCells z n).size=n*z.size:=by simp[Builtin.zeroCells]
def RunApp (P:Program) (w:World) (t ty type e k:Nat) (a:Option Addr) (n cap m:Nat) (vy:Value) (vsx vsy:List Value):Prop:=
  (n+m≤cap∧∀w',(match a with | some a=>storeCells (a.add (n*k)) vsy | none=>Pure.pure ():Sem Unit).run P w=.ok () w'→(Builtin.append_ #[t,ty] type #[.slice a n cap,vy]).run P w=.ok (.slice a (n+m) cap) w')∨
  (cap < n+m∧∃(nc:Nat) (rest:List Value),n+m≤nc∧rest.length=(nc - (n+m))*k∧(Builtin.append_ #[t,ty] type #[.slice a n cap,vy]).run P w=.ok (.slice (some ⟨w.heap.size,0,none⟩) (n+m) nc) (more (drew w) (.cells (vsx++vsy++rest).toArray e)))
theorem run_append {t e k bytes ty:Nat} {td:TypeDesc} {a:Option Addr} {n cap m:Nat} {vy:Value} {vsx vsy:List Value} (hE:ElemS P t e k bytes) (hty:P.underlying ty=some td) (htd:∀q,td≠.int q)
  (hlen:(Builtin.lenOf vy).run P w=.ok m w) (hy:∀w1:World,w1.heap=w.heap→(Builtin.firstCells k m vy).run P w1=.ok vsy.toArray w1) (hx:∀w1:World,w1.heap=w.heap→(Builtin.firstCells k n (.slice a n cap)).run P w1=.ok vsx.toArray w1) (hbt1:1≤bytes) (hb:(n+m)*bytes≤70368744177664):
  RunApp P w t ty type e k a n cap m vy vsx vsy:=by
 unfold RunApp
 obtain⟨i,z,ht,hi,hk,hbt,hz,hzs⟩:=hE.h
 have hg:#[t,ty][0]?=some t∧#[t,ty][1]?=some ty∧#[Value.slice a n cap,vy][0]?=some (.slice a n cap)∧#[Value.slice a n cap,vy][1]?=some vy:=⟨rfl,rfl,rfl,rfl⟩
 have hmatch:(match (generalizing:=false) td with | .int _=>true | _=>false)=false:=by
  cases td<;>first | rfl | exact absurd rfl (htd _)
 unfold Builtin.append_
 simp only[hg.1,hg.2.1,hg.2.2.1,hg.2.2.2,run_bind,run_underlying ht,run_sizeOf hi,hk,run_underlying hty,run_pure,hmatch,Bool.false_eq_true,if_false,Bool.not_false,if_true,hlen]
 by_cases hc:n+m≤cap
 ·left
  refine⟨hc,fun w' h=>?_⟩
  simp only[if_pos hc,run_bind,hy w rfl]
  cases a with
  |none=>simp only[run_pure] at h⊢; cases h; rfl
  |some a=>simp only[run_bind,h,run_pure]
 ·right
  refine⟨by omega,?_⟩
  obtain⟨nc,hn1,hn2⟩:=run_cap (P:=P) (w:=w) (need:=n+m) (old:=cap) (t:=e)
  have hb0:¬(((n+m:Nat):Int) > IntKind.i64.max∧(False∨bytes=0)):=by
   rintro⟨_,h2⟩
   rcases h2 with h2 | h2
   ·exact h2
   ·omega
  have hb1:¬Builtin.nextslicecap (n+m) cap*bytes > 2 ^ 48:=by
   have:=nextslicecap_le (n:=n+m) (c:=cap) (by omega)
   have:=Nat.mul_le_mul_right bytes this
   rw[Nat.mul_assoc] at this
   omega
  refine⟨nc,(Builtin.zeroCells z.cells (nc - (n+m))).toList,hn2,by rw[Array.length_toList,zeroCells_length,hzs],?_⟩
  simp only[if_neg hc,run_bind,run_typeInfo hi,hbt,if_neg hb0,if_neg hb1,hn1]
  simp only[run_askRoom,hx (drew w) rfl,hy (drew w) rfl,run_zero hi hz,run_newRow,run_pure]
  have:vsx.toArray++vsy.toArray++Builtin.zeroCells z.cells (nc - (n+m))=(vsx++vsy++(Builtin.zeroCells z.cells (nc - (n+m))).toList).toArray:=by
   apply Array.toList_inj.1; simp
  rw[this]; rfl
theorem inW_heap {g:Frag} {w w1:World} (h:g.inW w) (e:w1.heap=w.heap):g.inW w1:=fun b o x=>by rw[e]; exact h b o x
theorem first_slice {b off c k n:Nat} {arr:Array Value} {t:TypeId} {fz:Nat × Nat} {w1:World} (h:w1.heap[b]?=some (.cells arr t fz)) (hl:off+n*k≤arr.size):
  (Builtin.firstCells k n (.slice (some ⟨b,off,none⟩) n c)).run P w1=.ok ((arr.toList.drop off).take (n*k)).toArray w1:=by
 simp only[Builtin.firstCells]
 exact run_loadCells _ (by rw[List.length_take,List.length_drop,Array.length_toList]; omega) (stretch_cells h)
theorem first_none {a:Option Addr} {c k:Nat} {w1:World}:(Builtin.firstCells k 0 (.slice a 0 c)).run P w1=.ok #[] w1:=by
 cases a with
 |none=>rfl
 |some a=>simp[Builtin.firstCells,loadCells,loadCellsFrom,run_pure]
theorem rows_k {k k':Nat} {α:Type} {rows:List (List α)} (h1:∀r∈rows,r.length=k') (h2:∀r∈rows,r.length=k):rows.length*k'=rows.length*k:=by
 cases rows with
 |nil=>simp
 |cons r l=>rw[← h1 r (List.mem_cons_self ..),← h2 r (List.mem_cons_self ..)]
theorem own_cells {k k':Nat} {rows:List (List D)} {v:Value} {g:Frag} (h:ORep H (.own k' rows) v g) (hg:g.inW w) (hk:∀r∈rows,r.length=k):
  ∃vs g',ORepR H rows vs g'∧Sub g' g∧(Builtin.lenOf v).run P w=.ok rows.length w∧∀w1:World,w1.heap=w.heap→(Builtin.firstCells k rows.length v).run P w1=.ok vs.toArray w1:=by
 simp only[ORep] at h
 rcases h with⟨rfl,⟨a,rfl⟩,rfl⟩ |⟨b,off,cap,arr,t,fz,g',rfl,rfl,hb,hc,hk',ha,hz,hr⟩
 ·exact⟨[],emp,by simp[ORepR],sub_refl _,rfl,fun w1 _=>first_none⟩
 ·have e:=rows_k hk' hk
  have hmul:=Nat.mul_le_mul_right k' hc
  refine⟨_,g',hr,sub_un_right (disj_one hb),rfl,fun w1 hw=>?_⟩
  rw[e]
  exact first_slice (inW_heap hg hw _ _ (one_un_at _ _ _)) (by omega)
mutual
theorem BRep.from_ {l:Nat}:∀ {d:B} {v:Value},BRep (H l) d v→ORep H (fromB l d) v emp
 |.val x,v,h=>by simp only[BRep] at h; simp only[fromB,ORep]; exact⟨h.1,h.2,trivial⟩
 |.sl rows,v,h=>by simp only[fromB,ORep]; exact⟨h,trivial⟩
theorem BRepL.from_ {l:Nat}:∀ {d:List B} {v:List Value},BRepL (H l) d v→ORepL H (d.map (fromB l)) v emp
 |[],v,h=>by simp only[BRepL] at h; simp only[List.map_nil,ORepL]; exact⟨h,trivial⟩
 |d::ds,v,h=>by
  simp only[BRepL] at h
  obtain⟨v,vs,rfl,h1,h2⟩:=h
  simp only[List.map_cons,ORepL]
  exact⟨v,vs,emp,emp,rfl,(emp_un _).symm,emp_disj _,BRep.from_ h1,BRepL.from_ h2⟩
end
theorem BRepR.from_ {l:Nat}:∀ {d:List (List B)} {v:List Value},BRepR (H l) d v→ORepR H (fromBR l d) v emp
 |[],v,h=>by simp only[BRepR] at h; simp only[fromBR,List.map_nil,ORepR]; exact⟨h,trivial⟩
 |d::ds,v,h=>by
  simp only[BRepR] at h
  obtain⟨v1,v2,rfl,h1,h2⟩:=h
  simp only[fromBR,List.map_cons,ORepR]
  exact⟨v1,v2,emp,emp,rfl,(emp_un _).symm,emp_disj _,BRepL.from_ h1,BRepR.from_ h2⟩
theorem copy_L:∀ {d:List D} {v:List Value} {g:Frag},ORepL H d v g→d.all copyable=true→ORepL H d v emp
 |[],v,g,h,_=>by simp only[ORepL] at h⊢; exact⟨h.1,trivial⟩
 |d::ds,v,g,h,hc=>by
  simp only[ORepL] at h⊢
  obtain⟨v,vs,g1,g2,rfl,_,_,h1,h2⟩:=h
  simp only[List.all_cons,Bool.and_eq_true] at hc
  refine⟨v,vs,emp,emp,rfl,(emp_un _).symm,emp_disj _,?_,copy_L h2 hc.2⟩
  cases d with
  |val x=>simp only[ORep] at h1⊢; exact⟨h1.1,h1.2.1,trivial⟩
  |bor l rows=>simp only[ORep] at h1⊢; exact⟨h1.1,trivial⟩
  |own k rows=>simp[copyable] at hc
  |hole _=>simp[copyable] at hc
theorem copy_R:∀ {d:List (List D)} {v:List Value} {g:Frag},ORepR H d v g→d.all (·.all copyable)=true→ORepR H d v emp
 |[],v,g,h,_=>by simp only[ORepR] at h⊢; exact⟨h.1,trivial⟩
 |d::ds,v,g,h,hc=>by
  simp only[ORepR] at h⊢
  obtain⟨v1,v2,g1,g2,rfl,_,_,h1,h2⟩:=h
  simp only[List.all_cons,Bool.and_eq_true] at hc
  exact⟨v1,v2,emp,emp,rfl,(emp_un _).symm,emp_disj _,copy_L h1 hc.1,copy_R h2 hc.2⟩
theorem source_rel {k:Nat} {T T':List (Id × OS)} {G':Id→Frag} {F:Frag} {sy:SV} {vy:Value} {new:List (List D)} {rd:List Id} (M:ObjsOK H O hv G w) (S:Held H O hv G w T G' F) (hy:SVRel ⟨H,O,hv,G⟩ sy vy) (hs:source O T sy=some (new,rd,T')) (hk:∀r∈new,r.length=k):
  ∃G'' gy vs g,Held H O hv G w T' G'' (F.un gy)∧Disj F gy∧Sub g gy∧ORepR H new vs g∧(Builtin.lenOf vy).run P w=.ok new.length w∧∀w1:World,w1.heap=w.heap→(Builtin.firstCells k new.length vy).run P w1=.ok vs.toArray w1:=by
 unfold source at hs
 split at hs
 ·-- a string
  rename_i s
  simp only[Option.some.injEq,Prod.mk.injEq] at hs
  obtain⟨rfl,rfl,rfl⟩:=hs
  obtain rfl:=strV_rel.1 hy
  refine⟨G',emp,_,emp,by rw[un_emp]; exact S,disj_emp _,sub_refl _,byte_rows _,by rw[byteRows_length]; rfl,fun w1 _=>?_⟩
  rw[byteRows_length]
  simp only[Builtin.firstCells,run_pure]
  have:s.extract 0 s.size=s:=by simp
  rw[this]
  congr 1
  apply Array.toList_inj.1
  simp
 ·-- nil
  simp only[Option.some.injEq,Prod.mk.injEq] at hs
  obtain⟨rfl,rfl,rfl⟩:=hs
  simp only[SVRel,CVRel] at hy
  obtain⟨a,rfl⟩:=hy
  exact⟨G',emp,[],emp,by rw[un_emp]; exact S,disj_emp _,sub_refl _,by simp[ORepR],rfl,fun w1 _=>first_none⟩
 ·-- what is only read
  rename_i l rows
  simp only[Option.some.injEq,Prod.mk.injEq] at hs
  obtain⟨rfl,rfl,rfl⟩:=hs
  simp only[SVRel,CVRel,BRep] at hy
  have hlen:(fromBR l rows).length=rows.length:=by simp[fromBR]
  rcases hy with⟨rfl,a,cap,rfl⟩ |⟨b,off,cap,k',arr,t,fz,rfl,hb,hc,hk',ha,hr⟩
  ·exact⟨G',emp,[],emp,by rw[un_emp]; exact S,disj_emp _,sub_refl _,by simp[ORepR,fromBR],rfl,fun w1 _=>first_none⟩
  ·have hkk:∀r∈rows,r.length=k:=fun r hr'=>by
    have:=hk (r.map (fromB l)) (List.mem_map_of_mem hr')
    simpa using this
   have e:=rows_k hk' hkk
   refine⟨G',emp,_,emp,by rw[un_emp]; exact S,disj_emp _,sub_refl _,hr.from_,by rw[hlen]; rfl,fun w1 hw=>?_⟩
   rw[hlen,e]
   exact first_slice (inW_heap (M.prot l) hw _ _ hb) (by omega)
 ·-- one's own
  rename_i r
  split at hs
  ·rename_i o k' rows hra
   split at hs
   ·rename_i hcopy
    simp only[Option.some.injEq,Prod.mk.injEq] at hs
    obtain⟨rfl,rfl,rfl⟩:=hs
    simp only[SVRel] at hy
    obtain⟨hlook,hnav,hle⟩:=rowsAt_parts hra
    obtain⟨hlive,v',hat,hw⟩:=ref_view hy hra
    obtain⟨_,h',hs',ho'⟩:=At.restrict (M.objs _ _ hlive) (sub_refl _) hat
    obtain⟨g2,hg2,ho2⟩:=own_view ho' hw hle
    obtain⟨vs,g3,h3,h4,h5,h6⟩:=own_cells (P:=P) (w:=w) (k:=k) ho2 (fun b o x=>M.mem _ _ _ (hs' _ _ (hg2 _ _ x))) hk
    exact⟨G',emp,vs,emp,by rw[un_emp]; exact S,disj_emp _,sub_refl _,copy_R h3 hcopy,h5,h6⟩
   ·split at hs
    ·rename_i k2 rows2 T2 ht
     simp only[Option.some.injEq,Prod.mk.injEq] at hs
     obtain⟨rfl,rfl,rfl⟩:=hs
     simp only[SVRel] at hy
     obtain⟨G'',g,ho,hd,S2⟩:=S.takeR hy ht
     obtain⟨vs,g3,h3,h4,h5,h6⟩:=own_cells (P:=P) (w:=w) (k:=k) ho (fun b o x=>S2.w _ _ (sub_un_right hd _ _ x)) hk
     exact⟨G'',g,vs,g3,S2,hd,h4,h3,h5,h6⟩
    ·cases hs
  ·cases hs
 ·cases hs
theorem ORepR.oneCells:∀ {ds:List (List D)} {vs:List Value} {g:Frag},ORepR H ds vs g→∀v∈vs,v.oneCell=true
 |[],vs,g,h=>by simp only[ORepR] at h; simp[h.1]
 |d::ds,vs,g,h=>by
  simp only[ORepR] at h
  obtain⟨v,vs',g1,g2,rfl,_,_,h1,h2⟩:=h
  intro u hu
  rcases List.mem_append.1 hu with hu | hu
  ·exact h1.oneCells u hu
  ·exact ORepR.oneCells h2 u hu
theorem own_k {k:Nat} {rows:List (List D)} {v:Value} {g:Frag} (h:ORep H (.own k rows) v g):∀r∈rows,r.length=k:=by
 simp only[ORep] at h
 rcases h with⟨rfl,_⟩ |⟨_,_,_,_,_,_,_,_,_,_,_,hk,_⟩
 ·simp
 ·exact hk
theorem d_trunc {t e k:Nat} {x hi:Operand} {r:Ref} {ob:VObj} {rows:List (List D)} {q:IntKind} {h:Int} {ef:Eff} {req:Prop} {rd:List Id} (M:ObjsOK H O hv G w) (hE:ElemAt P t e k) (hx:SVRel ⟨H,O,hv,G⟩ (.one (.ref r)) (ρ x)) (hh:ρ hi=.int q h)
  (hlook:(O r.id).look r.path=some ob) (hnav:nav ob.k ob.rows r.path=some (k,rows)) (hle:r.lo+r.n≤rows.length) (h0:0≤h) (h1:h≤r.n)
  (he:made O [(r.id,hollow ob r.path)] dst ⟨k,(rows.drop r.lo).take h.toNat,[]⟩ (fun i=>.one (.ref ⟨i,[],0,((rows.drop r.lo).take h.toNat).length⟩)) req rd=some ef):
  Does P ρ ⟨some dst,.slice t x none (some hi) none,type,pos,af,gd⟩ H O hv G w ef.sv ef.objs:=by
 have hra:rowsAt O r=some (ob,k,rows):=by simp[rowsAt,hlook,hnav,hle]
 obtain⟨v,hrun,hvv⟩:=y_cut_ref (P:=P) (ρ:=ρ) (w:=w) (dst:=some dst) (type:=type) (pos:=pos) (af:=af) (gd:=gd) (X:=⟨H,O,hv,G⟩) (lo:=none) (hi:=some hi) (l:=0) (h:=h) hE hx rfl ⟨q,hh⟩ (Int.le_refl 0) h0 h1 hra rfl
 have hvv':CVRel ⟨H,O,hv,G⟩ (.ref {r with lo:=r.lo,n:=h.toNat}) v:=by simpa[SVRel] using hvv
 obtain⟨G0,gx,ox,dx,S0⟩:=(Held.start M).takeV hvv' (by rw[ov_nil]; exact hlook) hnav (by simp only[]; omega)
 rw[emp_un] at S0
 exact S0.does rfl he (v:=v) (w':=w) hrun (Below.refl _ _) ox (fun b h=>.inl h) S0.w (fun b o h _=>h) fun Y j hO hhv=>ref_rel hO ox hhv
theorem d_appR {t e k ty:Nat} {x y:Operand} {T0 T:List (Id × OS)} {G0 G1:Id→Frag} {F0 gx gy gn:Frag} {rowsx new:List (List D)} {vs:List Value} {ef:Eff} {req:Prop} {rd:List Id}
  (hR:∀(a:Option Addr) (cap:Nat) (vsx:List Value),(∀w1:World,w1.heap=w.heap→(Builtin.firstCells k rowsx.length (.slice a rowsx.length cap)).run P w1=.ok vsx.toArray w1)→RunApp P w t ty type e k a rowsx.length cap new.length (ρ y) vsx vs)
  (S0:Held H O hv G w T0 G0 F0) (hx:ORep H (.own k rowsx) (ρ x) gx) (hgx:Sub gx F0)
  (S:Held H O hv G w T G1 (F0.un gy)) (hdj:Disj F0 gy) (hgy:Sub gn gy) (hn:ORepR H new vs gn) (hnk:∀r∈new,r.length=k)
  (he:made O T dst ⟨k,rowsx++new,[]⟩ (fun i=>.one (.ref ⟨i,[],0,(rowsx++new).length⟩)) req rd=some ef):
  Does P ρ ⟨some dst,.call ⟨.builtin .append,#[x,y],#[t,ty]⟩,type,pos,af,gd⟩ H O hv G w ef.sv ef.objs:=by
 have hgxw:gx.inW w:=fun b o h=>S0.w b o (hgx b o h)
 have hgnw:gn.inW w:=fun b o h=>S.w b o (sub_un_right hdj b o (hgy b o h))
 have hxk:=own_k hx
 obtain⟨vsx,gx',hxr,hxs,_,hxf⟩:=own_cells (P:=P) (w:=w) (k:=k) hx hgxw hxk
 have hdxn:Disj gx gn:=Disj.sub hdj hgx hgy
 have hvl:vs.length=new.length*k:=hn.length hnk
 have hvxl:vsx.length=rowsx.length*k:=hxr.length hxk
 obtain⟨⟨a,cap,ev⟩,_⟩:=hx.self
 have hrowk:∀r∈rowsx++new,r.length=k:=fun r hr=>by
  rcases List.mem_append.1 hr with h | h
  ·exact hxk r h
  ·exact hnk r h
 have hexec:∀u w',(Builtin.append_ #[t,ty] type #[ρ x,ρ y]).run P w=.ok u w'→(execOp ρ ⟨some dst,.call ⟨.builtin .append,#[x,y],#[t,ty]⟩,type,pos,af,gd⟩).run P w=.ok (.value u) w':=by
  intro u w' h
  simp only[execOp,resolve,invoke,builtin,run_bind,run_pure]
  have:(#[x,y].map ρ)=#[ρ x,ρ y]:=by simp
  rw[this,h]
 have hrun:=hR a cap vsx (by rw[← ev]; exact hxf)
 unfold RunApp at hrun
 rw[← ev] at hrun
 have hgnew:∀b,(gx'.un gn) b≠none→(F0.un gy) b≠none:=by
  intro b h h2
  obtain⟨n1,n2⟩:=un_none.1 h2
  apply h
  refine un_none.2 ⟨?_,?_⟩
  ·cases hc:gx' b with
   |none=>rfl
   |some o=>rw[hgx b o (hxs b o hc)] at n1; cases n1
  ·cases hc:gn b with
   |none=>rfl
   |some o=>rw[hgy b o hc] at n2; cases n2
 rcases hrun with⟨hcap,hin⟩ |⟨hcap,nc,rest,hnc,hrl,hgrow⟩
 ·-- in place
  have hx0:=hx
  simp only[ORep] at hx
  rcases hx with⟨rfl,⟨a',ea⟩,rfl⟩ |⟨b,off,cap',arr,t',fz,g',ea,rfl,hgb,hc,hk',ha,hz,hr⟩
  ·rw[ev] at ea
   simp only[Value.slice.injEq] at ea
   obtain⟨rfl,_,rfl⟩:=ea
   simp only[List.length_nil,Nat.zero_add,Nat.le_zero] at hcap
   have:new=[]:=List.eq_nil_of_length_eq_zero hcap
   subst this
   have hv0:vs=[]:=by simpa using hvl
   subst hv0
   have hrow:ORep H (.own k ([]++ [])) (ρ x) emp:=by simpa using hx0
   refine S.does rfl he (v:=ρ x) (w':=w) (hexec _ _ ?_) (Below.refl _ _) hrow (fun b h=>absurd rfl h) (fun b o h=>by cases h) (fun b o h _=>h) ?_
   ·rw[hin w ?_,ev]; rfl
    cases a with
    |none=>rfl
    |some a=>simp[storeCells,run_pure]
   ·intro Y j hO hhv
    exact ref_rel hO hrow hhv
  ·rw[ev] at ea
   simp only[Value.slice.injEq] at ea
   obtain⟨rfl,_,rfl⟩:=ea
   have hmul:(rowsx.length+new.length)*k≤cap*k:=Nat.mul_le_mul_right k hcap
   rw[Nat.add_mul] at hmul
   have hwb:w.heap[b]?=some (.cells arr t' fz):=hgxw _ _ (one_un_at _ _ _)
   obtain⟨w',hst,hwb',hoth,hbel,hsz⟩:=run_storeCells (P:=P) (b:=b) (o:=off+rowsx.length*k) (t:=t') (fz:=fz) vs 0 hwb (by omega) hz hn.oneCells
   rw[Nat.add_zero] at hwb'
   have hgF:∀ {z:Frag},Sub z g'∨Sub z gn→z b=none:=by
    intro z hz'
    rcases hz' with h | h
    ·cases hzb:z b with
     |none=>rfl
     |some o=>rw[h b o hzb] at hgb; cases hgb
    ·cases hzb:z b with
     |none=>rfl
     |some o=>
      have:=h b o hzb
      rcases hdxn b with e | e
      ·rw[one_un_at] at e; cases e
      ·rw[e] at this; cases this
   have hdg:Disj g' gn:=(un_disj.1 hdxn).2
   have hpl:off+rowsx.length*k+vs.length≤arr.size:=by omega
   have hval:((over arr (off+rowsx.length*k) vs).toList.drop off).take ((rowsx++new).length*k)=(arr.toList.drop off).take (rowsx.length*k)++vs:=by
    simp only[over,List.length_append,Nat.add_mul]
    have hl0:off+rowsx.length*k≤arr.toList.length:=by simpa using(by omega:off+rowsx.length*k≤arr.size)
    rw[List.append_assoc,List.drop_append,List.drop_take]
    have e1:off - (arr.toList.take (off+rowsx.length*k)).length=0:=by rw[List.length_take]; omega
    have e2:off+rowsx.length*k - off=rowsx.length*k:=by omega
    rw[e1,e2,List.drop_zero,List.take_append]
    have e3:((arr.toList.drop off).take (rowsx.length*k)).length=rowsx.length*k:=by rw[List.length_take,List.length_drop]; omega
    rw[List.take_of_length_le (by rw[e3]; omega),e3]
    congr 1
    rw[← hvl]
    have:rowsx.length*k+vs.length - rowsx.length*k=vs.length:=by omega
    rw[this,List.take_left]
   have hrow:ORep H (.own k (rowsx++new)) (.slice (some ⟨b,off,none⟩) (rowsx++new).length cap) ((one b (.cells (over arr (off+rowsx.length*k) vs) t' fz)).un (g'.un gn)):=by
    simp only[ORep]
    refine .inr ⟨b,off,cap,_,t',fz,g'.un gn,rfl,rfl,un_none.2 ⟨hgb,hgF (.inr (sub_refl _))⟩,by simpa using hcap,hrowk,by rw[over_size hpl]; exact ha,by rw[over_size hpl]; exact hz,?_⟩
    rw[hval]
    exact ORepR.append hr hn hdg
   refine S.does rfl he (v:=.slice (some ⟨b,off,none⟩) (rowsx.length+new.length) cap) (w':=w') (hexec _ _ (hin w' ?_)) hbel hrow ?_ ?_ ?_ ?_
   ·simp only[addr_add]; exact hst
   ·intro z h
    left
    intro h2
    obtain⟨n1,n2⟩:=un_none.1 h2
    apply h
    have hF0:((one b (.cells arr t' fz)).un g') z=none:=by
     cases hc:((one b (.cells arr t' fz)).un g') z with
     |none=>rfl
     |some o=>rw[hgx z o hc] at n1; cases n1
    obtain⟨m1,m2⟩:=un_none.1 hF0
    refine un_none.2 ⟨?_,un_none.2 ⟨m2,?_⟩⟩
    ·by_cases e:z=b
     ·subst e; rw[one_at] at m1; cases m1
     ·simp[one,e]
    ·cases hc:gn z with
     |none=>rfl
     |some o=>rw[hgy z o hc] at n2; cases n2
   ·intro z o h
    simp only[un] at h
    by_cases e:z=b
    ·subst e; rw[one_at] at h; simp only[Option.some_or,Option.some.injEq] at h; subst h; exact hwb'
    ·rw[hoth z e]
     simp only[one,if_neg e,Option.none_or] at h
     rcases hc:g' z with _ | o'
     ·rw[hc] at h; simp only[Option.none_or] at h; exact hgnw z o h
     ·rw[hc] at h; simp only[Option.some_or,Option.some.injEq] at h; subst h
      exact hgxw z o' (sub_un_right (disj_one hgb) _ _ hc)
   ·intro z o h hF
    have hzb:z≠b:=by
     rintro rfl
     have:=hgx _ _ (one_un_at z (.cells arr t' fz) g')
     rw[(un_none.1 hF).1] at this; cases this
    rw[hoth z hzb]; exact h
   ·intro Y j hO hhv
    simpa using ref_rel hO hrow hhv
 ·-- in a new row
  have hgw:(gx'.un gn).inW w:=by
   intro b o h
   simp only[un] at h
   rcases hc:gx' b with _ | o'
   ·rw[hc] at h; simp only[Option.none_or] at h; exact hgnw b o h
   ·rw[hc] at h; simp only[Option.some_or,Option.some.injEq] at h; subst h; exact hgxw b o' (hxs _ _ hc)
  have hrr:ORepR H (rowsx++new) (vsx++vs) (gx'.un gn):=ORepR.append hxr hn (Disj.sub hdxn hxs (sub_refl _))
  have hrow:ORep H (.own k (rowsx++new)) (.slice (some ⟨w.heap.size,0,none⟩) (rowsx++new).length nc) ((one w.heap.size (.cells (vsx++vs++rest).toArray e (0,0))).un (gx'.un gn)):=
   orep_row hgw hrr hrowk (by simpa using hnc) (by
    rw[List.length_append,List.length_append,hvxl,hvl,hrl,← Nat.add_mul,← Nat.add_mul]
    exact Nat.mul_le_mul_right k (by omega)) (free0 _)
  refine S.does rfl he (v:=.slice (some ⟨w.heap.size,0,none⟩) (rowsx.length+new.length) nc) (w':=more (drew w) (.cells (vsx++vs++rest).toArray e)) (hexec _ _ hgrow) (drew_below.trans more_below) hrow ?_ ?_ ?_ ?_
  ·intro b h
   rcases frag_new b h with h | h
   ·exact .inl (hgnew b h)
   ·exact .inr h
  ·exact frag_in_more (w:=drew w) (inW_heap hgw rfl) rfl
  ·intro b o h _; exact more_old (w:=drew w) b o h
  ·intro Y j hO hhv
   simpa using ref_rel hO hrow hhv
theorem d_app {t e k bytes ty:Nat} {td:TypeDesc} {x y:Operand} {T0 T:List (Id × OS)} {G0 G1:Id→Frag} {F0 gx gy gn:Frag} {rowsx new:List (List D)} {vs:List Value} {ef:Eff} {req:Prop} {rd:List Id}
  (hE:ElemS P t e k bytes) (hbt:1≤bytes) (hty:P.underlying ty=some td) (htd:∀q,td≠.int q) (S0:Held H O hv G w T0 G0 F0) (hx:ORep H (.own k rowsx) (ρ x) gx) (hgx:Sub gx F0)
  (S:Held H O hv G w T G1 (F0.un gy)) (hdj:Disj F0 gy) (hgy:Sub gn gy) (hn:ORepR H new vs gn) (hnk:∀r∈new,r.length=k) (hlen:(Builtin.lenOf (ρ y)).run P w=.ok new.length w)
  (hy:∀w1:World,w1.heap=w.heap→(Builtin.firstCells k new.length (ρ y)).run P w1=.ok vs.toArray w1) (hb:(rowsx++new).length*bytes≤70368744177664)
  (he:made O T dst ⟨k,rowsx++new,[]⟩ (fun i=>.one (.ref ⟨i,[],0,(rowsx++new).length⟩)) req rd=some ef):
  Does P ρ ⟨some dst,.call ⟨.builtin .append,#[x,y],#[t,ty]⟩,type,pos,af,gd⟩ H O hv G w ef.sv ef.objs:=by
 exact d_appR (e:=e) (fun a cap vsx hxf=>run_append (P:=P) (w:=w) (type:=type) (a:=a) (n:=rowsx.length) (cap:=cap) (vsx:=vsx) (vsy:=vs) hE hty htd hlen hy hxf hbt (by simpa using hb)) S0 hx hgx S hdj hgy hn hnk he
theorem run_appendz {t e k bytes ty:Nat} {q0 q:IntKind} {i:TypeInfo} {z:Value} {a:Option Addr} {n cap:Nat} {m:Int} {vsx:List Value} (ht:P.underlying t=some (.slice e)) (hi:P.info? e=some i) (hk:i.size=k) (hbt:i.bytes=bytes) (hz:i.zero=some z) (hzs:z.cells.size=k) (hty:P.underlying ty=some (.int q0)) (h0:0≤m)
  (hx:∀w1:World,w1.heap=w.heap→(Builtin.firstCells k n (.slice a n cap)).run P w1=.ok vsx.toArray w1) (hb0:n+m.toNat≤70368744177664) (hb:(n+m.toNat)*bytes≤70368744177664):
  RunApp P w t ty type e k a n cap m.toNat (.int q m) vsx (List.replicate m.toNat z.cells.toList).flatten:=by
 have wrap:IntKind.i64.wrap m=m:=wrap_small (by omega) (by omega)
 have hzc:∀j,Builtin.zeroCells z.cells j=((List.replicate j z.cells.toList).flatten).toArray:=by
  intro j
  apply Array.toList_inj.1
  simp only[Builtin.zeroCells]
  rw[zeros_arr]
 have happ : ∀ w1 : World, (if m.toNat * k = 0 then Pure.pure #[] else do
   let zv ← zeroValue e
   Pure.pure (Builtin.zeroCells zv.cells m.toNat):Sem (Array Value)).run P w1=.ok ((List.replicate m.toNat z.cells.toList).flatten).toArray w1:=by
  intro w1
  rw[← hzc]
  by_cases hk0:m.toNat*k=0
  ·rw[if_pos hk0,run_pure]
   have:(Builtin.zeroCells z.cells m.toNat).size=0:=by rw[zeroCells_length,hzs]; exact hk0
   rw[Array.eq_empty_of_size_eq_zero this]
  ·rw[if_neg hk0]
   simp only[run_bind,run_zero hi hz,run_pure]
 have hg:#[t,ty][0]?=some t∧#[t,ty][1]?=some ty∧#[Value.slice a n cap,Value.int q m][0]?=some (.slice a n cap)∧#[Value.slice a n cap,Value.int q m][1]?=some (.int q m):=⟨rfl,rfl,rfl,rfl⟩
 have n1:¬m < 0:=by omega
 have hmb:m.toNat*bytes≤(n+m.toNat)*bytes:=Nat.mul_le_mul_right bytes (by omega)
 have e1:((m.toNat*bytes:Nat):Int)=m*bytes:=by rw[Int.natCast_mul,Int.toNat_of_nonneg h0]
 have n2:¬m*(bytes:Int) > 2 ^ 48:=by omega
 unfold RunApp Builtin.append_
 simp only[hg.1,hg.2.1,hg.2.2.1,hg.2.2.2,run_bind,run_underlying ht,run_sizeOf hi,hk,run_underlying hty,run_pure,if_true,asInt,asIntOf,wrap,if_neg n1,run_typeInfo hi,hbt,if_neg n2,Bool.not_true,Bool.false_eq_true,if_false]
 by_cases hc:n+m.toNat≤cap
 ·left
  refine⟨hc,fun w' h=>?_⟩
  simp only[if_pos hc,run_bind,happ w]
  cases a with
  |none=>simp only[run_pure] at h⊢; cases h; rfl
  |some a=>simp only[run_bind,h,run_pure]
 ·right
  refine⟨by omega,?_⟩
  obtain⟨nc,hn1,hn2⟩:=run_cap (P:=P) (w:=w) (need:=n+m.toNat) (old:=cap) (t:=e)
  have n4:¬(((n+m.toNat:Nat):Int) > IntKind.i64.max∧(True∨bytes=0)):=by
   rintro⟨h,_⟩
   have:IntKind.i64.max=9223372036854775807:=rfl
   omega
  have n5:¬Builtin.nextslicecap (n+m.toNat) cap*bytes > 2 ^ 48:=by
   have:=nextslicecap_le (n:=n+m.toNat) (c:=cap) (by omega)
   have:=Nat.mul_le_mul_right bytes this
   rw[Nat.mul_assoc] at this
   omega
  refine⟨nc,(Builtin.zeroCells z.cells (nc - (n+m.toNat))).toList,hn2,by rw[Array.length_toList,zeroCells_length,hzs],?_⟩
  simp only[if_neg hc,run_bind,run_typeInfo hi,hbt,if_neg n4,if_neg n5,hn1]
  simp only[run_askRoom,hx (drew w) rfl,happ (drew w),run_zero hi hz,run_newRow,run_pure]
  have:vsx.toArray++(List.replicate m.toNat z.cells.toList).flatten.toArray++Builtin.zeroCells z.cells (nc - (n+m.toNat))=(vsx++(List.replicate m.toNat z.cells.toList).flatten++(Builtin.zeroCells z.cells (nc - (n+m.toNat))).toList).toArray:=by
   apply Array.toList_inj.1; simp
  rw[this]; rfl
theorem d_appn {t e k bytes ty:Nat} {q0:IntKind} {zero:List CV} {x y:Operand} {n:Int} {q:IntKind} {T0:List (Id × OS)} {G0:Id→Frag} {F0 gx:Frag} {rowsx:List (List D)} {ef:Eff} {req:Prop} {rd:List Id}
  (hE:ElemZ P t e k bytes zero) (hty:P.underlying ty=some (.int q0)) (S0:Held H O hv G w T0 G0 F0) (hx:ORep H (.own k rowsx) (ρ x) gx) (hgx:Sub gx F0) (hy:ρ y=.int q n)
  (h0:0≤n) (hb0:(rowsx++List.replicate n.toNat (zeroD zero)).length≤70368744177664) (hb:(rowsx++List.replicate n.toNat (zeroD zero)).length*bytes≤70368744177664)
  (he:made O T0 dst ⟨k,rowsx++List.replicate n.toNat (zeroD zero),[]⟩ (fun i=>.one (.ref ⟨i,[],0,(rowsx++List.replicate n.toNat (zeroD zero)).length⟩)) req rd=some ef):
  Does P ρ ⟨some dst,.call ⟨.builtin .append,#[x,y],#[t,ty]⟩,type,pos,af,gd⟩ H O hv G w ef.sv ef.objs:=by
 have hl:(rowsx++List.replicate n.toNat (zeroD zero)).length=rowsx.length+n.toNat:=by simp
 rw[hl] at hb0 hb
 have hnn:(List.replicate n.toNat (zeroD zero)).length=n.toNat:=by simp
 obtain⟨i,z,ht,hi,hk,hbt,hz,hm,hzk⟩:=hE.h
 have hzs:z.cells.size=k:=by simpa[hzk] using mZ_length hm
 refine d_appR (e:=e) (gy:=emp) (gn:=emp) (vs:=(List.replicate n.toNat z.cells.toList).flatten) ?_ S0 hx hgx (by rw[un_emp]; exact S0) (disj_emp _) (sub_refl _) (ORepR.replicate (mZ_orep hm) _) (fun r hr=>by rw[(List.mem_replicate.1 hr).2]; simp[zeroD,hzk]) he
 intro a cap vsx hxf
 rw[hnn,hy]
 exact run_appendz (P:=P) (w:=w) (type:=type) (q:=q) ht hi hk hbt hz hzs hty h0 hxf hb0 hb
end
end Go.Proofs.YtmdocdnidilaiaaGreat.V
