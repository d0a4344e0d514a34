/- V: making slices: make, literals, bytes out of a string. -/
import Derived.Test.YtmdocdnidilaiaaGreatVOpsE
namespace Go.Proofs.YtmdocdnidilaiaaGreat.V
open Go Frag Go.RowKit
set_option linter.unusedSimpArgs false
theorem ORepR.set {H:Nat→Frag} {k:Nat} {rows:List (List D)} {vs:List Value} {g:Frag} (h:ORepR H rows vs g) (hk:∀r∈rows,r.length=k) {i:Nat} (hi:i < rows.length) {ds:List D} {us:List Value} {gd:Frag} (hd:ORepL H ds us gd) (hg:Disj g gd):
  ∃g',Sub g' (g.un gd)∧ORepR H (rows.set i ds) (vs.take (i*k)++us++vs.drop (i*k+k)) g'∧i*k+k≤vs.length:=by
 have hrow:rows[i]?=some rows[i]:=List.getElem?_eq_getElem hi
 have h':=h
 rw[rows_at hrow] at h'
 obtain⟨A,R,gA,gR,rfl,rfl,dA,rA,rR⟩:=ORepR.split h'
 simp only[ORepR] at rR
 obtain⟨B,C,gB,gC,rfl,rfl,dR,rB,rC⟩:=rR
 have lA:A.length=i*k:=by
  have:=ORepR.length rA (fun r hr=>hk r (List.mem_of_mem_take hr))
  rw[List.length_take,Nat.min_eq_left (by omega)] at this; exact this
 have lB:B.length=k:=by rw[rB.length]; exact hk _ (List.getElem_mem hi)
 obtain⟨d1,d2⟩:=disj_un.1 dA
 obtain⟨d3,d4⟩:=un_disj.1 hg
 obtain⟨d5,d6⟩:=un_disj.1 d4
 have w1:ORepR H (ds::rows.drop (i+1)) (us++C) (gd.un gC):=by
  simp only[ORepR]
  exact⟨us,C,gd,gC,rfl,rfl,d6.comm,hd,rC⟩
 have w0:=ORepR.append rA w1 (disj_un.2 ⟨d3,d2⟩)
 refine⟨gA.un (gd.un gC),?_,?_,by simp[lA,lB]⟩
 rotate_left
 ·rw[rows_set hrow]
  have e1:(A++(B++C)).take (i*k)=A:=by rw[← lA]; simp
  have e3:i*k+k=(A++B).length:=by simp[lA,lB]
  have e2:(A++(B++C)).drop (i*k+k)=C:=by
   rw[← List.append_assoc,e3,List.drop_left]
  rw[e1,e2,List.append_assoc]
  exact w0
 ·refine un_sub (Sub.trans (sub_un_left _ _) (sub_un_left _ _)) (un_sub (sub_un_right hg) ?_)
  exact Sub.trans (Sub.trans (sub_un_right dR) (sub_un_right dA)) (sub_un_left _ _)
theorem ORepR.replicate {H:Nat→Frag} {ds:List D} {vs:List Value} (h:ORepL H ds vs emp):∀n,ORepR H (List.replicate n ds) (List.replicate n vs).flatten emp
 |0=>by simp[ORepR]
 |n+1=>by
  simp only[List.replicate_succ,List.flatten_cons,ORepR]
  exact⟨vs,_,emp,emp,rfl,(emp_un _).symm,emp_disj _,h,ORepR.replicate h n⟩
theorem flatten_range (z:List Value):∀n,(List.range (n*z.length)).map (fun i=>(z.toArray[i % z.length]!))=(List.replicate n z).flatten
 |0=>by simp
 |n+1=>by
  rw[Nat.succ_mul,Nat.add_comm,List.range_add,List.map_append,List.map_map,List.replicate_succ,List.flatten_cons]
  congr 1
  ·apply List.ext_getElem
   ·simp
   ·intro i h1 h2
    have h2':i < z.length:=h2
    simp[Nat.mod_eq_of_lt h2',h2']
  ·rw[← flatten_range z n]
   apply List.map_congr_left
   intro i _
   simp
theorem zeros_arr (z:Array Value) (n:Nat):((Array.range (n*z.size)).map (fun i=>z[i % z.size]!)).toList=(List.replicate n z.toList).flatten:=by
 have:=flatten_range z.toList n
 simpa using this
theorem flatten_length {z:List Value}:∀n,((List.replicate n z).flatten).length=n*z.length
 |0=>by simp
 |n+1=>by simp[List.replicate_succ,Nat.succ_mul]; omega
theorem wrap_small {m:Int} (h0:0≤m) (h1:m < 9223372036854775808):IntKind.i64.wrap m=m:=by
 have e1:(2:Int) ^ IntKind.i64.bits=18446744073709551616:=by decide
 have e2:(2:Int) ^(IntKind.i64.bits - 1)=9223372036854775808:=by decide
 have h:m % 2 ^ IntKind.i64.bits=m:=Int.emod_eq_of_lt h0 (by rw[e1]; omega)
 unfold IntKind.wrap
 rw[h,e2,if_neg]
 simp only[Bool.and_eq_true,decide_eq_true_eq,not_and]
 intro _; omega
theorem foldl_over:∀(us:List Value) (n off:Nat) (cs:Array Value),off+n+us.length≤cs.size→
  (us.zipIdx n).foldl (fun cs (c,j)=>cs.setIfInBounds (off+j) c) cs=over cs (off+n) us
 |[],n,off,cs,_=>by simp[over_nil]
 |u::us,n,off,cs,h=>by
  simp only[List.length_cons] at h
  simp only[List.zipIdx_cons,List.foldl_cons]
  rw[foldl_over us (n+1) off _ (by simp; omega),← Nat.add_assoc,over_cons (by omega)]
theorem fill_cons {place:Nat→Option (Nat × Nat)} {cells:Array Value} {i:Nat} {v:Value} {rest:List (Nat × Value)} {off:Nat} {us:List Value} (hp:place i=some (off,us.length)) (hv:v.cells=us.toArray) (hl:off+us.length≤cells.size):
  Instr.fill place cells ((i,v)::rest)=Instr.fill place (over cells off us) rest:=by
 simp only[Instr.fill,hp]
 rw[hv]
 have h1:¬(us.toArray.size≠us.length∨off+us.toArray.size > cells.size):=by simp; omega
 have h2:(us.toArray.size≠us.length || off+us.toArray.size > cells.size)=false:=by
  simp only[List.size_toArray,ne_eq,not_true_eq_false,decide_false,Bool.false_or,decide_eq_false_iff_not]; omega
 simp only[List.size_toArray] at h2
 have h3:(us.toArray.zipIdx.foldl (fun cs (c,j)=>cs.setIfInBounds (off+j) c) cells)=over cells off us:=by
  have:=foldl_over us 0 off cells (by omega)
  rw[Nat.add_zero] at this
  rw[← this,← Array.foldl_toList]
  simp
 simp only[List.size_toArray,h2,Bool.false_eq_true,if_false]
 rw[h3]
section
variable {P:Program} {ρ:Operand→Value} {H:Nat→Frag} {O:Id→OS} {hv:Id→Value} {G:Id→Frag} {w:World} {dst:Nat} {type:TypeId} {pos:String} {af:Array Edge} {gd:Option (Nat × Bool)}
structure ElemZ (P:Program) (t e k bytes:Nat) (zero:List CV):Prop where
 h:∃i z,P.underlying t=some (.slice e)∧P.info? e=some i∧i.size=k∧i.bytes=bytes∧i.zero=some z∧mZ zero z.cells.toList=true∧zero.length=k
theorem run_askRoom {n:Nat}:(askRoom n).run P w=.ok () w:=by unfold askRoom; split<;>rfl
theorem d_mk {t e k bytes:Nat} {zero:List CV} {x y:Operand} {n c:Int} {q q':IntKind} {ef:Eff} (M:ObjsOK H O hv G w) (hE:ElemZ P t e k bytes zero) (hx:ρ x=.int q n) (hy:ρ y=.int q' c)
  (h0:0≤n) (h1:n≤c) (h2:c≤140737488355328) (h3:c*bytes≤140737488355328)
  {req:Prop} (he:made O [] dst ⟨k,List.replicate n.toNat (zeroD zero),[]⟩ (fun i=>.one (.ref ⟨i,[],0,n.toNat⟩)) req []=some ef):Does P ρ ⟨some dst,.makeSlice t x y,type,pos,af,gd⟩ H O hv G w ef.sv ef.objs:=by
 obtain⟨i,z,ht,hi,hk,hbt,hz,hm,hzk⟩:=hE.h
 have S:=Held.start M
 have ho:=mZ_orep (H:=H) hm
 have hlen:=mZ_length hm
 have hzl:(zeroD zero).length=k:=by simp[zeroD,hzk]
 have hzs:z.cells.size=k:=by simpa[hzk] using hlen
 have wrap:∀m:Int,0≤m→m≤140737488355328→IntKind.i64.wrap m=m:=fun m hm0 hm1=>wrap_small hm0 (by omega)
 have hsplit:List.replicate c.toNat z.cells.toList=List.replicate n.toNat z.cells.toList++List.replicate (c.toNat - n.toNat) z.cells.toList:=by
  rw[List.replicate_append_replicate]; congr 1; omega
 have hrow:ORep H (.own k (List.replicate n.toNat (zeroD zero))) (.slice (some ⟨w.heap.size,0,none⟩) (List.replicate n.toNat (zeroD zero)).length c.toNat)
   ((one w.heap.size (.cells ((List.replicate n.toNat z.cells.toList).flatten++(List.replicate (c.toNat - n.toNat) z.cells.toList).flatten).toArray e (0,0))).un emp):=
  orep_row S.w (ORepR.replicate ho _) (fun r hr=>by rw[(List.mem_replicate.1 hr).2]; exact hzl) (by rw[List.length_replicate]; omega)
   (by rw[List.length_append,flatten_length,flatten_length,← Nat.add_mul,Array.length_toList,hzs]; exact Nat.mul_le_mul_right k (by omega)) (free0 _)
 rw[List.length_replicate] at hrow
 refine S.does rfl he (v:=.slice (some ⟨w.heap.size,0,none⟩) n.toNat c.toNat) (w':=more w (.cells ((List.replicate n.toNat z.cells.toList).flatten++(List.replicate (c.toNat - n.toNat) z.cells.toList).flatten).toArray e)) ?_ more_below hrow ?_ ?_ (fun b o h _=>more_old b o h) ?_
 ·simp only[execOp,hx,hy]
  refine run_v2 ?_
  have hbig:(decide (c < 0) || decide ((bytes:Int)*c > 2 ^ 48))=false:=by
   have:(bytes:Int)*c≤140737488355328:=by rw[Int.mul_comm]; exact h3
   simp only[Bool.or_eq_false_iff,decide_eq_false_iff_not]
   omega
  simp only[Instr.makeSlice,run_bind,run_underlying ht,asInt,asIntOf,run_pure,run_typeInfo hi,wrap n h0 (by omega),wrap c (by omega) h2,hbt]
  have hcond:((decide (c < 0) || decide ((bytes:Int)*c > 2 ^ 48)) || decide (n < 0) || decide (n > c))=false:=by
   rw[hbig]
   simp only[Bool.false_or,Bool.or_eq_false_iff,decide_eq_false_iff_not]; omega
  rw[if_neg (by simpa using hcond)]
  simp only[run_bind,run_askRoom,run_sizeOf hi,hk]
  have harr:((Array.range (c.toNat*k)).map (fun j=>z.cells[j % z.cells.size]!))=((List.replicate n.toNat z.cells.toList).flatten++(List.replicate (c.toNat - n.toNat) z.cells.toList).flatten).toArray:=by
   apply Array.toList_inj.1
   rw[← hzs,zeros_arr,hsplit,List.flatten_append]
  by_cases hzero:c.toNat*k=0
  ·rw[if_pos hzero]
   simp only[run_pure,hzero,run_newRow,run_bind]
   have:(Array.range 0).map (fun j=>(#[]:Array Value)[j %(#[]:Array Value).size]!)=((List.replicate n.toNat z.cells.toList).flatten++(List.replicate (c.toNat - n.toNat) z.cells.toList).flatten).toArray:=by
    rw[← harr,hzero]; simp
   rw[this]
  ·rw[if_neg hzero]
   simp only[run_bind,run_zero hi hz,run_pure,run_newRow,harr]
 ·intro b h; exact frag_new b h
 ·exact frag_in_more S.w rfl
 ·intro Y j hO hhv
  have:=ref_rel hO hrow (by rw[hhv])
  rw[List.length_replicate] at this
  exact this
def mParts:List (Nat × VX)→List (Nat × Operand)→Bool
 |[],[]=>true
 |(i,x)::l,(j,y)::m=>i==j && mX x y && mParts l m
 |_,_=>false
theorem lit_rel {S:Nat→SV} {k:Nat} (hS:∀x y,mX x y=true→SVRel ⟨H,O,hv,G⟩ (evx S x) (ρ y)):∀ {parts:List (Nat × VX)} {ps:List (Nat × Operand)} {T G' F rows vs g rows' T'},Held H O hv G w T G' F→
  mParts parts ps=true→ORepR H rows vs g→Sub g F→(∀r∈rows,r.length=k)→litR S O k T rows parts=some (rows',T')→
  ∃G'' F' g' vs',Held H O hv G w T' G'' F'∧ORepR H rows' vs' g'∧Sub g' F'∧(∀r∈rows',r.length=k)∧rows'.length=rows.length∧
   Instr.fill (fun i=>some (i*k,k)) vs.toArray (ps.map fun(i,y)=>(i,ρ y))=some vs'.toArray
 |[],[],T,G',F,rows,vs,g,rows',T',h,_,hr,hs,hk,e=>by
  simp only[litR,Option.some.injEq,Prod.mk.injEq] at e
  obtain⟨rfl,rfl⟩:=e
  exact⟨G',F,g,vs,h,hr,hs,hk,rfl,rfl⟩
 |[],_::_,_,_,_,_,_,_,_,_,_,hm,_,_,_,_=>by simp[mParts] at hm
 |_::_,[],_,_,_,_,_,_,_,_,_,hm,_,_,_,_=>by simp[mParts] at hm
 |(i,x)::parts,(j,y)::ps,T,G',F,rows,vs,g,rows',T',h,hm,hr,hs,hk,e=>by
  simp only[mParts,Bool.and_eq_true] at hm
  obtain⟨⟨hij,hxy⟩,hm⟩:=hm
  have:=eq_of_beq hij; subst this
  simp only[litR] at e
  split at e
  ·rename_i cs hcs
   split at e
   ·rename_i ds T1 ht
    split at e
    ·rename_i hc
     obtain⟨us,ev,hu⟩:=(hS _ _ hxy).cells hcs
     obtain⟨G1,gd,hd,hdj,h1⟩:=h.takeCs hu ht
     have hdg:Disj g gd:=Disj.sub hdj hs (sub_refl _)
     obtain⟨g2,hg2,hr2,hle⟩:=hr.set hk hc.2 hd hdg
     have hul:us.length=k:=by rw[hd.length,hc.1]
     obtain ⟨G2, F2, g3, vs3, r1, r2, r3, r4, r5, r6⟩ := lit_rel hS h1 hm hr2 (Sub.trans hg2 (un_sub (Sub.trans hs (sub_un_left _ _)) (sub_un_right hdj))) (fun r hr' => by
      rcases List.mem_or_eq_of_mem_set hr' with h | rfl
      ·exact hk r h
      ·exact hc.1) e
     refine⟨G2,F2,g3,vs3,r1,r2,r3,r4,by rw[r5]; simp,?_⟩
     simp only[List.map_cons]
     rw[fill_cons (us:=us) (off:=i*k) (by rw[hul]) ev (by simp; omega)]
     have:over vs.toArray (i*k) us=(vs.take (i*k)++us++vs.drop (i*k+k)).toArray:=by
      simp only[over,hul]
     rw[this]; exact r6
    ·cases e
   ·cases e
  ·cases e
theorem d_lit {S:Nat→SV} {t e k n bytes:Nat} {zero:List CV} {parts:List (Nat × VX)} {ps:Array (Nat × Operand)} {rows:List (List D)} {T:List (Id × OS)} {ef:Eff} (M:ObjsOK H O hv G w) (hE:ElemZ P t e k bytes zero) (hS:∀x y,mX x y=true→SVRel ⟨H,O,hv,G⟩ (evx S x) (ρ y))
  (hm:mParts parts ps.toList=true) (hn:n*k≤16777216) (hl:litR S O k [] (List.replicate n (zeroD zero)) parts=some (rows,T))
  (he:made O T dst ⟨k,rows,[]⟩ (fun i=>.one (.ref ⟨i,[],0,rows.length⟩)) True []=some ef):Does P ρ ⟨some dst,.buildSlice t n ps,type,pos,af,gd⟩ H O hv G w ef.sv ef.objs:=by
 obtain⟨i,z,ht,hi,hk,hbt,hz,hmz,hzk⟩:=hE.h
 have ho:=mZ_orep (H:=H) hmz
 have hlen:=mZ_length hmz
 have hzl:(zeroD zero).length=k:=by simp[zeroD,hzk]
 have hzs:z.cells.size=k:=by simpa[hzk] using hlen
 obtain⟨G',F,g,vs,h1,h2,h3,h4,h5,h6⟩:=lit_rel hS (Held.start M) hm (ORepR.replicate ho n) (sub_refl _) (fun r hr=>by rw[(List.mem_replicate.1 hr).2]; exact hzl) hl
 rw[List.length_replicate] at h5
 have hgw:g.inW w:=fun b o h=>h1.w b o (h3 b o h)
 have hvl:vs.length=rows.length*k:=h2.length h4
 have hrow:ORep H (.own k rows) (.slice (some ⟨w.heap.size,0,none⟩) rows.length n) ((one w.heap.size (.cells (vs++ []).toArray e (0,0))).un g):=
  orep_row hgw h2 h4 (by omega) (by rw[List.append_nil,hvl,h5]; exact Nat.le_refl _) (free0 _)
 refine h1.does rfl he (v:=.slice (some ⟨w.heap.size,0,none⟩) rows.length n) (w':=more w (.cells vs.toArray e)) ?_ more_below hrow ?_ ?_ (fun b o h _=>more_old b o h) ?_
 ·simp only[execOp]
  refine run_v2 ?_
  have hn':¬n*k > 2 ^ 24:=by omega
  simp only[Instr.buildSlice,run_bind,run_underlying ht,run_sizeOf hi,hk,if_neg hn',run_pure]
  have hfill:∀(zz:Array Value),(n*k=0∨zz=z.cells)→Instr.fill (fun i=>some (i*k,k)) ((Array.range (n*k)).map (fun j=>zz[j % zz.size]!)) ((ps.map fun(i,x)=>(i,ρ x)).toList)=some vs.toArray:=by
   intro zz hzz
   have:((Array.range (n*k)).map (fun j=>zz[j % zz.size]!))=(List.replicate n z.cells.toList).flatten.toArray:=by
    rcases hzz with h0 | rfl
    ·have:((List.replicate n z.cells.toList).flatten).length=0:=by rw[flatten_length,Array.length_toList,hzs,h0]
     rw[List.eq_nil_of_length_eq_zero this,h0]; simp
    ·apply Array.toList_inj.1
     rw[← hzs,zeros_arr]
   rw[this,Array.toList_map]
   exact h6
  by_cases h0:n*k=0
  ·simp only[if_pos h0,run_pure,hfill _ (.inl h0),run_bind,run_newRow,h5]
  ·simp only[if_neg h0,run_bind,run_zero hi hz,run_pure,hfill _ (.inr rfl),run_newRow,h5]
 ·intro b h
  rcases frag_new b h with h | h
  ·left
   cases hb:g b with
   |none=>exact absurd hb h
   |some o=>rw[h3 b o hb]; simp
  ·exact .inr h
 ·have:=frag_in_more (ob:=.cells vs.toArray e) hgw rfl
  simpa using this
 ·intro Y j hO hhv
  exact ref_rel hO hrow (by rw[hhv])
end
end Go.Proofs.YtmdocdnidilaiaaGreat.V
