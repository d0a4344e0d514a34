/- V: slices.Delete of one's own slice: its contract, of the library's own code, at elements of any number of cells. -/
import Derived.Test.YtmdocdnidilaiaaGreatVCode
import Derived.Shelf.SlLaysE
import Derived.Shelf.SlicesE.Kit
import Derived.Shelf.RegionOpenPlain
import Derived.WalkKit
import Derived.Deep.LoopGhost
import Derived.Deep.RegionLaw
import Derived.Lib.Walk
import Derived.Sort.WalkB12
import Derived.Lib.SliceRun
import Derived.Deep.MidRow
import Derived.Laws.IdiomCopy
namespace Go.Proofs.YtmdocdnidilaiaaGreat.V
section
open Go Go.Proofs Go.Shelf Go.RowKit Go.Lib Go.Sort
variable {P:Program} {ρ:Ren}
theorem run_clear_k (w:World) (t e ty:TypeId) (z:Value) (ht:P.underlying t=some (.slice e)) (hv:∀w,(zeroValue e).run P w=.ok z w) (h1:∀u∈z.cells.toList,u.oneCell'=true) (b o n c:Nat) (hn:0 < n)
  (hc:∀j,j < n*z.cells.size→(w.cell? ⟨b,o+j,none⟩).isSome=true) (hf:∀j,j < n*z.cells.size→w.frozen? ⟨b,o+j,none⟩=false):
  (Builtin.clear_ #[t] ty #[.slice (some ⟨b,o,none⟩) n c]).run P w=.ok (.tuple #[]) (w.setCells b o (Builtin.zeroCells z.cells n).toList):=by
 have hl:(Builtin.zeroCells z.cells n).toList.length=n*z.cells.size:=by simp[Builtin.zeroCells]
 have hst := run_storeCells_cells (P := P) b o (Builtin.zeroCells z.cells n).toList 0 w (by rw [hl]; simpa using hc) (by rw [hl]; simpa using hf) (by
  intro v hv'
  simp only[Builtin.zeroCells,Array.toList_map,List.mem_map] at hv'
  obtain⟨i,hi,rfl⟩:=hv'
  by_cases h0:z.cells.size=0
  ·simp[h0] at hi
  ·have:i % z.cells.size < z.cells.size:=Nat.mod_lt _ (by omega)
   rw[getElem!_pos z.cells _ this]
   exact h1 _ (by simp))
 simp only[Nat.add_zero] at hst
 obtain⟨m,rfl⟩:∃m,n=m+1:=⟨n - 1,by omega⟩
 simp[Builtin.clear_,run_underlying ht,hv,hst]
set_option maxHeartbeats 4000000 in
set_option maxRecDepth 1000000 in
theorem del_walk (mixed:P.follows .mixedOrders=true) (f45:Bears P (ρ.f 45) (SlBodyN.n45 ρ)) (t22:P.underlying (ρ.t 22)=some (TypeDesc.slice (ρ.t 23)))
  {k:Nat} (z23:∀w,(Go.sizeOf (ρ.t 23)).run P w=.ok k w) (z:Value) (v23:∀w,(zeroValue (ρ.t 23)).run P w=.ok z w) (hzk:z.cells.size=k) (hz1:∀u∈z.cells.toList,u.oneCell'=true) (i0:TypeInfo) (hi0:P.info? (ρ.t 23)=some i0) (hk:i0.size=k)
  (blk off cap n i j:Nat) (cs:List Value) (w:World) (hcs:cs.length=n*k) (hc:∀t u,cs[t]?=some u→w.cell? ⟨blk,off+t,none⟩=some u) (hf:∀t,t < n*k→w.frozen? ⟨blk,off+t,none⟩=false) (h1:∀u∈cs,u.oneCell'=true)
  (hcap:n≤cap) (hm:n≤9223372036854775807) (hij:i < j) (hj:j≤n):
  Calls P (ρ.f 45) #[.slice (some ⟨blk,off,none⟩) n cap,.int .i64 i,.int .i64 j] w fun e w'=>e=.returned (.slice (some ⟨blk,off,none⟩) (n - (j - i)) cap)∧w'=(w.drew.setCells blk (off+i*k) (cs.drop (j*k))).setCells blk (off+(i+(n - j))*k) (Builtin.zeroCells z.cells (j - i)).toList:=by
 have hjk:j*k≤n*k:=Nat.mul_le_mul_right k hj
 obtain⟨news,hnews⟩:∃news,news=cs.drop (j*k):=⟨_,rfl⟩
 have hlen:news.length=(n - j)*k:=by rw[hnews,List.length_drop,hcs,← Nat.sub_mul]
 have hget:∀t u,news[t]?=some u→w.cell? ⟨blk,off+(j*k+t),none⟩=some u:=by
  intro t u h
  rw[hnews,List.getElem?_drop] at h
  exact hc _ _ h
 obtain⟨A,hA,hsrc⟩:∃A:Addr,(if cap=j then some (⟨blk,off,none⟩:Addr) else some ⟨blk,off+j*k,none⟩)=some A∧Hid (∀t u,news[t]?=some u→w.drew.cell? (A.add t)=some u):=by
  by_cases h:cap=j
  ·refine⟨⟨blk,off,none⟩,by simp[h],fun t u hu=>?_⟩
   have h0:news.length=0:=by rw[hlen,show n - j=0 by omega,Nat.zero_mul]
   rw[List.length_eq_zero_iff.1 h0] at hu
   simp at hu
  ·refine⟨⟨blk,off+j*k,none⟩,by simp[h],fun t u hu=>?_⟩
   rw[Addr.add_lit,Nat.add_assoc]
   exact hget t u hu
 have s1:Hid (news.length=(n - j)*k):=hlen
 have s2:Hid (∀u∈news,u.oneCell'=true):=fun u hu=>h1 u (List.mem_of_mem_drop (hnews ▸ hu))
 have hsome:∀t,t < n*k→(w.cell? ⟨blk,off+t,none⟩).isSome=true:=by
  intro t ht
  rw[hc t cs[t] (List.getElem?_eq_getElem (by omega))]; rfl
 have hsum:i*k+(n - j)*k+(j - i)*k=n*k:=by rw[← Nat.add_mul,← Nat.add_mul]; congr 1; omega
 have s3:Hid (∀t,t < news.length→(w.drew.cell? ⟨blk,off+i*k+t,none⟩).isSome=true∧w.drew.frozen? ⟨blk,off+i*k+t,none⟩=false):=by
  intro t ht
  rw[hlen] at ht
  rw[Nat.add_assoc]
  exact⟨hsome _ (by omega),hf _ (by omega)⟩
 obtain⟨W1,hW1⟩:∃W1,W1=w.drew.setCells blk (off+i*k) news:=⟨_,rfl⟩
 obtain⟨W2,hW2⟩:∃W2,W2=W1.setCells blk (off+(i+(n - j))*k) (Builtin.zeroCells z.cells (n - (i+(n - j)))).toList:=⟨_,rfl⟩
 have hcl:∀ty,(Builtin.clear_ #[ρ.t 22] ty #[.slice (some ⟨blk,off+(i+(n - j))*k,none⟩) (n - (i+(n - j))) (cap - (i+(n - j)))]).run P W1=.ok (.tuple #[]) W2:=by
  intro ty
  rw[hW2]
  refine run_clear_k W1 _ _ ty z t22 v23 hz1 blk _ _ _ (by omega) ?_ ?_
  ·intro t ht
   rw[hW1,Nat.add_assoc]
   exact World.isSome_setCells _ _ _ _ _ (hsome _ (by rw[hzk,show n - (i+(n - j))=j - i by omega] at ht; rw[Nat.add_mul]; omega))
  ·intro t ht
   rw[hW1,Nat.add_assoc,World.frozen?_setCells]
   exact hf _ (by rw[hzk,show n - (i+(n - j))=j - i by omega] at ht; rw[Nat.add_mul]; omega)
 have hW:Hid (W1=w.drew.setCells blk (off+i*k) news):=hW1
 have hic:i≤cap:=by omega
 have hjc:j≤cap:=by omega
 have hY:Hid (W2=W1.setCells blk (off+(i+(n - j))*k) (Builtin.zeroCells z.cells (n - (i+(n - j)))).toList):=hW2
 have hX:Hid (news=cs.drop (j*k)):=hnews
 clear hW1 hget hlen hc hf hcs hsome h1 hW2 v23 hz1 hzk hnews
 obtain⟨_,_,FG⟩:=f45
 go_enter FG,SlBodyN.n45_ntmps ρ
 go_wp2_with fail
 go_region_law_o (refine step_append_room rfl (.tmp 22) (.tmp 25) (ρ.t 22) rfl (ρ.t 23) i0 k t22 hi0 hk blk off i cap (by simp[Act.eval,Act.put]) A (n - j) (cap - j) news (by simp[Act.eval,Act.put]) s1.out hsrc.out s2.out (by omega) s3.out ?_; rw[← hW.out])
 go_wp2
 go_ret
 refine⟨by rw[show n - (j - i)=i+(n - j) by omega]; rfl,?_⟩
 rw[hY.out,hW.out,hX.out,show n - (i+(n - j))=j - i by omega]
end
open Go Frag Go.RowKit
theorem setCells_at {P:Program} {w:World} {b o:Nat} {vs:List Value} {arr:Array Value} {t:TypeId} {fz:Nat × Nat} (h:w.heap[b]?=some (.cells arr t fz)) (hl:o+vs.length≤arr.size) (hz:free fz arr.size) (h1:∀v∈vs,v.oneCell=true):
  (w.setCells b o vs).heap[b]?=some (.cells (over arr o vs) t fz)∧(∀b',b'≠b→(w.setCells b o vs).heap[b']?=w.heap[b']?)∧Below 0 w (w.setCells b o vs):=by
 obtain⟨w',r1,r2,r3,r4,_⟩:=run_storeCells (P:=P) (o:=o) vs 0 h (by omega) hz h1
 have k := run_storeCells_cells (P := P) b o vs 0 w (fun j hj => by simp [World.cell?, h]; omega) (fun j hj => by
  have:=hz (o+j) (by omega)
  obtain⟨lo,hi⟩:=fz
  simp only[World.frozen?,h,Nat.add_zero]
  simpa using this) (fun v hv=>by have:=h1 v hv; cases v<;>simp_all [Value.oneCell,Value.oneCell'])
 rw[Nat.add_zero] at k
 rw[r1] at k
 have e:w'=w.setCells b o vs:=by injection k
 subst e
 rw[Nat.add_zero] at r2
 exact⟨r2,r3,r4⟩
def DelX (k:Nat) (args:List SV) (objs:List (Id × VObj)) (rs:List Ret):Prop:=
 ∃(id:Id) (rows:List (List D)) (i:Nat),rows.length≤9223372036854775807∧pureR rows=true∧i < rows.length∧objs=[(id,⟨k,rows,[]⟩)]∧
  args=[.one (.ref ⟨id,[],0,rows.length⟩),.one (.val (.int .i64 i)),.one (.val (.int .i64 ((i+1:Nat):Int)))]∧rs=[.one (.own k (rows.take i++rows.drop (i+1)))]
theorem pureR_app:∀(a b:List (List D)),pureR (a++b)=(pureR a && pureR b)
 |[],b=>rfl
 |x::a,b=>by simp only[List.cons_append,pureR,pureR_app a b,Bool.and_assoc]
theorem emp_inW' (w:World):emp.inW w:=fun b o e=>by simp[emp] at e
theorem del_ok {P:Program} {ρ:Go.Shelf.Ren} (mixed:P.follows .mixedOrders=true) (f45:Go.Proofs.Bears P (ρ.f 45) (Go.Proofs.SlBodyN.n45 ρ)) (t22:P.underlying (ρ.t 22)=some (TypeDesc.slice (ρ.t 23)))
  {k:Nat} (z23:∀w,(Go.sizeOf (ρ.t 23)).run P w=.ok k w) (z:Value) (v23:∀w,(zeroValue (ρ.t 23)).run P w=.ok z w) (hzk:z.cells.size=k) (hz1:∀u∈z.cells.toList,u.oneCell'=true) (i0:TypeInfo) (hi0:P.info? (ρ.t 23)=some i0) (hk:i0.size=k)
  (he:Enter P (ρ.f 45)) {args:List SV} {objs:List (Id × VObj)} {rs:List Ret} (h:DelX k args objs rs):CallOK P (ρ.f 45) args objs [] [] rs:=by
 obtain⟨id,rows,i,hbig,hpure,hi,rfl,rfl,rfl⟩:=h
 intro H hc Gc w vals M hargs
 simp only[SVRels,SVRel,CVRel] at hargs
 obtain⟨v,l1,e1,hv,u2,l2,rfl,⟨rfl,_⟩,u3,l3,rfl,⟨rfl,_⟩,rfl⟩:=hargs
 have hvals:vals=#[v,.int .i64 i,.int .i64 ((i+1:Nat):Int)]:=by cases vals; simpa using e1
 subst hvals
 obtain⟨G0,g,ox,_,S0⟩:=(Held.start M).takeV (r:=⟨id,[],0,rows.length⟩) (o:=⟨k,rows,[]⟩) hv (by rw[ov_nil]; simp[objsO,getA,OS.look,staleAt]) (k:=k) (rows:=rows) (by simp[nav]) (by simp)
 rw[emp_un] at S0
 simp only[List.drop_zero,List.take_length] at ox
 simp only[ORep] at ox
 rcases ox with⟨rfl,_⟩ |⟨b,off,cap,arr,t,fz,g',rfl,rfl,hgb,hcap,hrk,ha,hz,hr⟩
 ·simp at hi
 have hwb:w.heap[b]?=some (.cells arr t fz):=S0.w _ _ (one_un_at _ _ _)
 have hnk:rows.length*k≤cap*k:=Nat.mul_le_mul_right k hcap
 have hcs:((arr.toList.drop off).take (rows.length*k)).length=rows.length*k:=by
  have hal:arr.toList.length=arr.size:=Array.length_toList
  rw[List.length_take,List.length_drop,hal]; omega
 have hone:=hr.oneCells
 have hrows:rows=rows.take i++((rows.drop i).take 1++rows.drop (i+1)):=by rw[← List.drop_drop,List.take_append_drop,List.take_append_drop]
 rw[hrows] at hr
 obtain⟨v1,v23,g1,g23,e1,eg,d1,r1,r23⟩:=hr.split
 obtain⟨v2,v3,g2,g3,rfl,rfl,d2,r2,r3⟩:=r23.split
 have l1:=r1.length (k:=k) (fun r h=>hrk r (List.mem_of_mem_take h))
 have l2:=r2.length (k:=k) (fun r h=>hrk r (List.mem_of_mem_drop (List.mem_of_mem_take h)))
 have l3:=r3.length (k:=k) (fun r h=>hrk r (List.mem_of_mem_drop h))
 rw[List.length_take,Nat.min_eq_left (by omega)] at l1
 rw[List.length_take,List.length_drop,Nat.min_eq_left (by omega),Nat.one_mul] at l2
 rw[List.length_drop] at l3
 rw[← hrows] at e1
 have hdrop:((arr.toList.drop off).take (rows.length*k)).drop ((i+1)*k)=v3:=by
  rw[e1,← List.append_assoc,List.drop_left' (by rw[List.length_append,l1,l2,Nat.add_mul,Nat.one_mul])]
 have hsum:i*k+k+(rows.length - (i+1))*k=rows.length*k:=by
  have:rows.length=i+1+(rows.length - (i+1)):=by omega
  conv=>rhs; rw[this]
  rw[Nat.add_mul,Nat.add_mul,Nat.one_mul]
 have hzc:∀u∈(Builtin.zeroCells z.cells 1).toList,u.oneCell=true:=by
  intro u hu
  have:u∈z.cells.toList:=by
   simp only[Builtin.zeroCells] at hu
   rw[zeros_arr] at hu
   simpa only[List.replicate_succ,List.replicate_zero,List.flatten_cons,List.flatten_nil,List.append_nil] using hu
  have:=hz1 u this
  revert this
  cases u<;>simp[Value.oneCell,Value.oneCell']
 have hzl:(Builtin.zeroCells z.cells 1).toList.length=k:=by rw[Array.length_toList,zeroCells_length,hzk,Nat.one_mul]
 have hwalk:=del_walk (P:=P) (ρ:=ρ) mixed f45 t22 z23 z v23 hzk hz1 i0 hi0 hk b off cap rows.length i (i+1) ((arr.toList.drop off).take (rows.length*k)) w hcs
  (fun t u h => by
   have ht:t < rows.length*k:=by have:=(List.getElem?_eq_some_iff.1 h).1; omega
   rw[List.getElem?_take,if_pos ht,List.getElem?_drop] at h
   simpa[World.cell?,hwb] using h)
  (fun t ht => by
   have:=hz (off+t) (by omega)
   obtain⟨lo,hh⟩:=fz
   simp only[World.frozen?,hwb]
   rw[← Bool.not_eq_true,Bool.and_eq_true,decide_eq_true_eq,decide_eq_true_eq]
   exact this)
  (fun u hu => by
   have:=hone u hu
   revert this
   cases u<;>simp[Value.oneCell,Value.oneCell'])
  hcap hbig (by omega) (by omega)
 rw[hdrop,show i+1 - i=1 by omega,show i+(rows.length - (i+1))=rows.length - 1 by omega] at hwalk
 have hsub:∀u∈v3,u.oneCell=true:=r3.oneCells
 have hwd:(drew w).heap[b]?=some (.cells arr t fz):=hwb
 obtain⟨h1,h2,h3⟩:=setCells_at (P:=P) (w:=drew w) (b:=b) (o:=off+i*k) (vs:=v3) hwd (by rw[l3]; omega) hz hsub
 have hs1:(over arr (off+i*k) v3).size=arr.size:=over_size (by rw[l3]; omega)
 have hk1:(rows.length - 1)*k=i*k+(rows.length - (i+1))*k:=by rw[← Nat.add_mul]; congr 1; omega
 obtain⟨k1,k2,k3⟩:=setCells_at (P:=P) (w:=(drew w).setCells b (off+i*k) v3) (b:=b) (o:=off+(rows.length - 1)*k) (vs:=(Builtin.zeroCells z.cells 1).toList) h1 (by rw[hs1,hzl,hk1]; omega) (by rw[hs1]; exact hz) hzc
 generalize hW:((drew w).setCells b (off+i*k) v3).setCells b (off+(rows.length - 1)*k) (Builtin.zeroCells z.cells 1).toList=W at*
 refine .inl ⟨he,hwalk.mono ?_⟩
 rintro e w' ⟨rfl,hw'⟩
 have hw2:w'=W:=hw'.trans hW
 subst hw2
 have hoth:∀c,c≠b→w'.heap[c]?=w.heap[c]?:=fun c hc=>(k2 c hc).trans (h2 c hc)
 have hgw:(g1.un g3).inW w∧(g1.un g3) b=none:=by
  rw[eg,un_none,un_none] at hgb
  refine⟨fun c o h=>?_,un_none.2 ⟨hgb.1,hgb.2.2⟩⟩
  refine S0.w c o (sub_un_right (disj_one (by rw[eg,un_none,un_none]; exact hgb)) c o ?_)
  rw[eg]
  simp only[un] at h⊢
  cases hc:g1 c with
  |some o'=>rw[hc] at h; simpa using h
  |none=>
   rw[hc] at h
   simp only[Option.none_or] at h⊢
   have:g2 c=none:=by
    rcases d2 c with q | q
    ·exact q
    ·rw[q] at h; cases h
   rw[this]; simpa using h
 have d13:Disj g1 g3:=(disj_un.1 d1).2
 have hval:(((over (over arr (off+i*k) v3) (off+(rows.length - 1)*k) (Builtin.zeroCells z.cells 1).toList).toList.drop off).take ((rows.length - 1)*k))=v1++v3:=by
  have hal:arr.toList.length=arr.size:=Array.length_toList
  have hv13:(v1++v3).length=(rows.length - 1)*k:=by rw[List.length_append,l1,l3,hk1]
  have ha1:arr.toList.take (off+i*k)=arr.toList.take off++v1:=by
   rw[List.take_add]
   congr 1
   have:((arr.toList.drop off).take (rows.length*k)).take (i*k)=v1:=by rw[e1,List.take_left' l1]
   rw[← this,List.take_take,Nat.min_eq_left (by omega)]
  have htk:(arr.toList.take off).length=off:=by rw[List.length_take,hal]; omega
  have h5:(over (over arr (off+i*k) v3) (off+(rows.length - 1)*k) (Builtin.zeroCells z.cells 1).toList).toList=arr.toList.take off++((v1++v3)++((Builtin.zeroCells z.cells 1).toList++(over arr (off+i*k) v3).toList.drop (off+(rows.length - 1)*k+(Builtin.zeroCells z.cells 1).toList.length))):=by
   have h6:(over arr (off+i*k) v3).toList=arr.toList.take off++((v1++v3)++arr.toList.drop (off+i*k+v3.length)):=by
    show arr.toList.take (off+i*k)++v3++_=_
    rw[ha1]
    simp only[List.append_assoc]
   show (over arr (off+i*k) v3).toList.take (off+(rows.length - 1)*k)++_++_=_
   have h7:(over arr (off+i*k) v3).toList.take (off+(rows.length - 1)*k)=arr.toList.take off++(v1++v3):=by
    rw[h6,← List.append_assoc]
    exact List.take_left' (by rw[List.length_append,htk,hv13])
   rw[h7]
   simp only[List.append_assoc]
  rw[h5,List.drop_left' htk,List.take_left' hv13]
 have hrr:ORepR H (rows.take i++rows.drop (i+1)) (v1++v3) (g1.un g3):=ORepR.append r1 r3 d13
 refine⟨_,rfl,[_],fun _=>emp,(one b (.cells (over (over arr (off+i*k) v3) (off+(rows.length - 1)*k) (Builtin.zeroCells z.cells 1).toList) t fz)).un (g1.un g3),rfl,drew_below.trans (h3.trans k3),?_,rfl,?_,fun _=>emp_inW' _,?_,fun _ _ _=>emp_disj _,fun _=>emp_disj _,fun _ _=>emp_disj _,?_⟩
 ·intro l c o h
  have hne:c≠b:=by
   rintro rfl
   have:=S0.h l c
   rw[one_un_at] at this
   rcases this with q | q
   ·cases q
   ·rw[q] at h; cases h
  rw[hoth c hne]; exact M.prot l c o h
 ·simp only[RetsRel]
  refine⟨_,[],_,emp,rfl,(un_emp _).symm,disj_emp _,?_,rfl,rfl⟩
  simp only[RetRel,ORep]
  have hlen:(rows.take i++rows.drop (i+1)).length=rows.length - 1:=by rw[List.length_append,List.length_take,List.length_drop,Nat.min_eq_left (by omega)]; omega
  refine .inr ⟨b,off,cap,_,t,fz,g1.un g3,by rw[hlen],rfl,hgw.2,by rw[hlen]; omega,?_,?_,?_,?_⟩
  ·intro r h
   rcases List.mem_append.1 h with h | h
   ·exact hrk r (List.mem_of_mem_take h)
   ·exact hrk r (List.mem_of_mem_drop h)
  ·rw[over_size (by rw[hs1,hzl,hk1]; omega),hs1]; exact ha
  ·rw[over_size (by rw[hs1,hzl,hk1]; omega),hs1]; exact hz
  ·rw[hlen,hval]
   refine ORepR.pure_any hrr ?_
   rw[pureR_app]
   rw[hrows,pureR_app,pureR_app,Bool.and_eq_true,Bool.and_eq_true] at hpure
   rw[hpure.1,hpure.2.2]; rfl
 ·intro c o h
  simp only[un,one] at h
  by_cases e:c=b
  ·subst e; simp only[if_true,Option.some_or,Option.some.injEq] at h; subst h; exact k1
  ·rw[if_neg e,Option.none_or] at h
   rw[hoth c e]; exact hgw.1 c o h
 ·intro l c
  have h0:=S0.h l c
  rw[eg] at h0
  simp only[un,one] at h0⊢
  by_cases e:c=b
  ·subst e
   rcases h0 with q | q
   ·simp at q
   ·exact .inr q
  ·rw[if_neg e,Option.none_or] at h0⊢
   rcases h0 with q | q
   ·left
    cases q1:g1 c with
    |some o=>rw[q1] at q; simp at q
    |none=>
     rw[q1] at q
     simp only[Option.none_or] at q⊢
     cases q2:g2 c with
     |some o=>rw[q2] at q; simp at q
     |none=>rw[q2] at q; simpa using q
   ·exact .inr q
theorem del_ok2 {P:Program} {ρ:Go.Shelf.Ren} (mixed:P.follows .mixedOrders=true) (f45:Go.Proofs.Bears P (ρ.f 45) (Go.Proofs.SlBodyN.n45 ρ)) {k bytes:Nat} {zero:List CV} (hE:ElemZ P (ρ.t 22) (ρ.t 23) k bytes zero)
  (he:Enter P (ρ.f 45)) {args:List SV} {objs:List (Id × VObj)} {rs:List Ret} (h:DelX k args objs rs):CallOK P (ρ.f 45) args objs [] [] rs:=by
 obtain⟨i,z,ht,hi,hk,hb,hz,hm,hl⟩:=hE.h
 refine del_ok mixed f45 ht (fun w=>by rw[run_sizeOf hi,hk]) z (fun w=>run_zero hi hz) (by have:=mZ_length hm; simpa[hl] using this) (fun u hu=>?_) i hi hk he h
 have:=(mZ_orep (H:=fun _=>emp) hm).oneCells u hu
 revert this
 cases u<;>simp[Value.oneCell,Value.oneCell']
end Go.Proofs.YtmdocdnidilaiaaGreat.V
