/- V: a law's arguments, as V's values. -/
import Derived.Test.YtmdocdnidilaiaaGreatVCode
import Derived.ChangeArms
import Derived.WideShapes
import Derived.Carry
import Derived.SizedLaws
namespace Go.Proofs.YtmdocdnidilaiaaGreat.V
open Go Frag Go.RowKit
inductive Sh where
 |int (k:IntKind)
 |bool
 |str
 |sl (e:List Sh) (bytes:Nat)
mutual
def Sh.ok:Sh→B→Prop
 |.int k,.val (.int k' n)=>k'=k∧(Lit.int k n).wf=true
 |.bool,.val (.bool _)=>True
 |.str,.val (.string s)=>s.size≤140737488351232
 |.sl es n,.sl rows=>rows.length*n≤140737488351232∧∀r∈rows,Sh.okL es r
 |_,_=>False
def Sh.okL:List Sh→List B→Prop
 |[],bs=>bs=[]
 |s::l,bs=>∃b m,bs=b::m∧s.ok b∧Sh.okL l m
end
def shFields (P:Program) (rec:TypeId→Option (List Sh)):Nat→List Field→Option (List Sh)
 |_,[]=>some []
 |off,f::l=>match rec f.type with
  | some s => if f.offset = off ∧ s.length = P.cellsOf f.type then (match shFields P rec (off + s.length) l with
   |some r=>some (s++r)
   |none=>none) else none
  |none=>none
def shOf (P:Program):Nat→TypeId→Option (List Sh)
 |0,_=>none
 |n+1,t=>match P.underlying t with
  |some .bool=>some [.bool]
  |some (.int k)=>some [.int k]
  |some .string=>some [.str]
  |some (.slice e)=>match shOf P n e with
   |some es=>if es.length=P.cellsOf e∧0 < es.length then some [.sl es (P.bytesOf e)] else none
   |none=>none
  |some (.struct fs)=>match shFields P (shOf P n) 0 fs.toList with
   |some ss=>if ss.length=P.cellsOf t then some ss else none
   |none=>none
  |_=>none
theorem Sh.okL_append:∀ {a b:List Sh} {x y:List B},Sh.okL a x→Sh.okL b y→Sh.okL (a++b) (x++y)
 |[],b,x,y,h,k=>by simp only[Sh.okL] at h; subst h; exact k
 |s::a,b,x,y,h,k=>by
  simp only[Sh.okL] at h
  obtain⟨c,m,rfl,h1,h2⟩:=h
  simp only[List.cons_append,Sh.okL]
  exact⟨c,m++y,rfl,h1,Sh.okL_append h2 k⟩
theorem Sh.okL_length:∀ {a:List Sh} {x:List B},Sh.okL a x→x.length=a.length
 |[],x,h=>by simp only[Sh.okL] at h; simp[h]
 |s::a,x,h=>by
  simp only[Sh.okL] at h
  obtain⟨c,m,rfl,_,h2⟩:=h
  simp[Sh.okL_length h2]
theorem BRepL.append {hp:Frag}:∀ {a b:List B} {x y:List Value},BRepL hp a x→BRepL hp b y→BRepL hp (a++b) (x++y)
 |[],b,x,y,h,k=>by simp only[BRepL] at h; subst h; exact k
 |s::a,b,x,y,h,k=>by
  simp only[BRepL] at h
  obtain⟨c,m,rfl,h1,h2⟩:=h
  simp only[List.cons_append,BRepL]
  exact⟨c,m++y,rfl,h1,BRepL.append h2 k⟩
def heapF (w:World):Frag:=fun b=>w.heap[b]?
section
variable {H:Type} {enc:TypeId × Value→H} {P:Program} {w:World} {base:Nat} {sp:Nat→Bool} {held:Bool}
theorem mapM_get {α β:Type} {f:α→Option β}:∀ {l:List α} {r:List β},l.mapM f=some r→r.length=l.length∧∀(i:Nat) a,l[i]?=some a→f a=r[i]?
 |[],r,h=>by simp at h; subst h; exact⟨rfl,fun i a e=>by simp at e⟩
 |a::l,r,h=>by
  rw[List.mapM_cons] at h
  cases h1:f a with
  |none=>simp[h1] at h
  |some b=>
   cases h2:l.mapM f with
   |none=>simp[h1,h2] at h
   |some bs=>
    simp[h1,h2] at h
    subst h
    obtain⟨g1,g2⟩:=mapM_get h2
    refine⟨by simp[g1],fun i x e=>?_⟩
    cases i with
    |zero=>simp at e; subst e; simp[h1]
    |succ i=>simpa using g2 i x (by simpa using e)
theorem cells_get {a:Addr} {n:Nat} {cs:List Value} (h:w.cells? base a n=some cs):cs.length=n∧∀j,j < n→w.cell? (a.add j)=cs[j]?:=by
 unfold World.cells? at h
 split at h
 ·obtain⟨h1,h2⟩:=mapM_get h
  refine⟨by simpa using h1,fun j hj=>h2 j j (by simp[hj])⟩
 ·cases h
theorem cell_arr {a:Addr} {v:Value} (h:w.cell? a=some v):a.spot=none∧∃arr t fz,w.heap[a.block]?=some (.cells arr t fz)∧arr[a.off]?=some v:=by
 unfold World.cell? at h
 split at h
 ·rename_i arr t fz hh
  split at h
  ·cases h
  ·rename_i hs
   exact⟨by simpa using hs,arr,t,fz,hh,h⟩
 ·cases h
theorem add_at {a:Addr} (h:a.spot=none) (n j:Nat):((a.add n).add j).block=a.block∧((a.add n).add j).off=a.off+n+j∧((a.add n).add j).spot=none:=by
 obtain⟨b,o,sp⟩:=a
 subst h
 unfold Addr.add
 by_cases h1:n=0
 ·by_cases h2:j=0
  ·simp[h1,h2]
  ·simp[h1,h2]
 ·by_cases h2:j=0
  ·simp[h1,h2]
  ·simp[h1,h2]
theorem row_at {a:Addr} {k i:Nat} {arr:Array Value} {t:TypeId} {fz:Nat × Nat} {ci:List Value} (hspot:a.spot=none) (hh:w.heap[a.block]?=some (.cells arr t fz)) (h:w.cells? base (a.add (i*k)) k=some ci):
  (arr.toList.drop (a.off+i*k)).take k=ci∧(0 < k→a.off+i*k+k≤arr.size):=by
 obtain⟨k3,k4⟩:=cells_get h
 have hg:∀j,j < k→arr[a.off+i*k+j]?=ci[j]?:=fun j hj=>by
  rw[← k4 j hj]
  obtain⟨e1,e2,e3⟩:=add_at hspot (i*k) j
  unfold World.cell?
  rw[e1,hh]
  simp only[e3,Option.isSome_none,Bool.false_eq_true,if_false,e2]
 constructor
 ·apply List.ext_getElem?
  intro j
  by_cases hj:j < k
  ·rw[List.getElem?_take_of_lt hj,List.getElem?_drop,Array.getElem?_toList,hg j hj]
  ·rw[List.getElem?_eq_none (by simp; omega),List.getElem?_eq_none (by omega)]
 ·intro hk
  have h1:=hg (k - 1) (by omega)
  rw[List.getElem?_eq_getElem (by omega)] at h1
  have:=(Array.getElem?_eq_some_iff.1 h1).1
  omega
theorem fields_sh {rec:TypeId→Option (List Sh)} {m:Nat} {cs:List Value} (ih:∀t ss,rec t=some ss→∀cs x,DataW.trod enc P w base sp held m t cs=some x→(∀n∈x.1.weights P t,n≤reachBytes)→∃bs,BRepL (heapF w) bs cs∧Sh.okL ss bs):
  ∀ {l:List Field} {off:Nat} {ss:List Sh},shFields P rec off l=some ss→(∀f∈l,∃x,DataW.trod enc P w base sp held m f.type ((cs.drop f.offset).take (P.cellsOf f.type))=some x∧∀n∈x.1.weights P f.type,n≤reachBytes)→off+ss.length=cs.length→
   ∃bs,BRepL (heapF w) bs (cs.drop off)∧Sh.okL ss bs
 |[],off,ss,h,_,hl=>by
  simp only[shFields,Option.some.injEq] at h
  subst h
  refine⟨[],?_,by simp[Sh.okL]⟩
  simp only[BRepL]
  exact List.drop_eq_nil_of_le (by simp at hl; omega)
 |f::l,off,ss,h,hf,hl=>by
  simp only[shFields] at h
  split at h<;>try cases h
  rename_i s hs
  split at h<;>try cases h
  rename_i hc
  split at h<;>try cases h
  rename_i r hr
  obtain⟨x,hx,hwx⟩:=hf f (List.mem_cons_self ..)
  obtain⟨bs1,b1,o1⟩:=ih _ _ hs _ _ hx hwx
  obtain⟨bs2,b2,o2⟩:=fields_sh ih hr (fun g hg=>hf g (List.mem_cons_of_mem _ hg)) (by simp at hl; omega)
  refine⟨bs1++bs2,?_,Sh.okL_append o1 o2⟩
  have:cs.drop off=(cs.drop off).take s.length++cs.drop (off+s.length):=by
   rw[← List.drop_drop,List.take_append_drop]
  rw[this]
  rw[hc.1,← hc.2] at b1
  exact BRepL.append b1 b2
theorem rows_sh {es:List Sh} {k:Nat} (hk:es.length=k) {arr:Array Value} {off:Nat}:∀ {m s:Nat},(∀i,s≤i→i < s+m→∃bs,BRepL (heapF w) bs ((arr.toList.drop (off+i*k)).take k)∧Sh.okL es bs)→
  ∃rows,rows.length=m∧(∀r∈rows,Sh.okL es r)∧BRepR (heapF w) rows ((arr.toList.drop (off+s*k)).take (m*k))
 |0,s,_=>⟨[],rfl,fun r h=>(by cases h),by simp[BRepR]⟩
 |m+1,s,h=>by
  obtain⟨bs,b1,o1⟩:=h s (Nat.le_refl _) (by omega)
  obtain⟨rows,r1,r2,r3⟩:=rows_sh (es:=es) hk (arr:=arr) (off:=off) (m:=m) (s:=s+1) (fun i h1 h2=>h i (by omega) (by omega))
  refine⟨bs::rows,by simp[r1],?_,?_⟩
  ·intro r hr
   rcases List.mem_cons.1 hr with rfl | hr
   ·exact o1
   ·exact r2 r hr
  ·simp only[BRepR]
   refine⟨_,_,?_,b1,r3⟩
   have e1:(m+1)*k=k+m*k:=by rw[Nat.add_mul,Nat.one_mul,Nat.add_comm]
   have e2:off+(s+1)*k=off+s*k+k:=by rw[Nat.add_mul,Nat.one_mul]; omega
   rw[e1,List.take_add,List.drop_drop,e2]
theorem weights_all {e:TypeId} {d:DataW H}:∀ {l:List (DataW H)},d∈l→∀n∈d.weights P e,n∈DataW.weightsAll P e l
 |x::l,h,n,hn=>by
  simp only[DataW.weightsAll,List.mem_append]
  rcases List.mem_cons.1 h with rfl | h
  ·exact .inl hn
  ·exact .inr (weights_all h n hn)
theorem shOf_inv {n:Nat} {t:TypeId} {ss:List Sh} (h:shOf P (n+1) t=some ss):
  (P.underlying t=some .bool∧ss=[.bool])∨(∃k,P.underlying t=some (.int k)∧ss=[.int k])∨(P.underlying t=some .string∧ss=[.str])∨
  (∃e es,P.underlying t=some (.slice e)∧shOf P n e=some es∧es.length=P.cellsOf e∧0 < es.length∧ss=[.sl es (P.bytesOf e)])∨
  (∃fs,P.underlying t=some (.struct fs)∧shFields P (shOf P n) 0 fs.toList=some ss∧ss.length=P.cellsOf t):=by
 unfold shOf at h
 cases hu:P.underlying t with
 |none=>rw[hu] at h; cases h
 |some d=>
  rw[hu] at h
  cases d<;>simp only[reduceCtorEq,Option.some.injEq] at h
  case bool=>exact .inl ⟨rfl,h.symm⟩
  case int k=>exact .inr (.inl ⟨k,rfl,h.symm⟩)
  case string=>exact .inr (.inr (.inl ⟨rfl,h.symm⟩))
  case slice e=>
   cases he:shOf P n e with
   |none=>rw[he] at h; cases h
   |some es=>
    rw[he] at h
    simp only[Option.ite_none_right_eq_some,Option.some.injEq] at h
    exact .inr (.inr (.inr (.inl ⟨e,es,rfl,he,h.1.1,h.1.2,h.2.symm⟩)))
  case struct fs=>
   cases he:shFields P (shOf P n) 0 fs.toList with
   |none=>rw[he] at h; cases h
   |some es=>
    rw[he] at h
    simp only[Option.ite_none_right_eq_some,Option.some.injEq] at h
    obtain⟨h1,rfl⟩:=h
    exact .inr (.inr (.inr (.inr ⟨fs,rfl,he,h1⟩)))
theorem trod_sh:∀ {n:Nat} {t:TypeId} {ss:List Sh},shOf P n t=some ss→∀ {fuel:Nat} {cs:List Value} {x:DataW H × List MemPlace},DataW.trod enc P w base sp held fuel t cs=some x→(∀n∈x.1.weights P t,n≤reachBytes)→∃bs,BRepL (heapF w) bs cs∧Sh.okL ss bs:=by
 intro n
 induction n with
 |zero=>intro t ss h; simp[shOf] at h
 |succ n ih=>
  intro t ss h fuel cs x hx hwt
  rcases shOf_inv h with⟨ht,rfl⟩ |⟨k,ht,rfl⟩ |⟨ht,rfl⟩ |⟨e,es,ht,hes,hc1,hc2,rfl⟩ |⟨fs,ht,hss,hc⟩
  ·obtain⟨b,rfl,_⟩:=DataW.trod_bool ht hx
   exact⟨[.val (.bool b)],by simp[BRepL,BRep,flat],⟨_,[],rfl,trivial,rfl⟩⟩
  ·obtain⟨b,rfl,_,hw⟩:=DataW.trod_int ht hx
   exact⟨[.val (.int k b)],by simp[BRepL,BRep,flat],⟨_,[],rfl,⟨rfl,hw⟩,rfl⟩⟩
  ·obtain⟨b,rfl,rfl,hw⟩:=DataW.trod_string ht hx
   have:=hwt b.data.toList.length (by simp[DataW.weights])
   exact⟨[.val (.string b)],by simp[BRepL,BRep,flat],⟨_,[],rfl,(show b.size≤140737488351232 by simpa[reachBytes] using this),rfl⟩⟩
  ·have hc:=And.intro hc1 hc2
   rcases DataW.trod_slice ht hx with⟨rfl,_⟩ |⟨a,len,cap,elems,rest,m,rfl,rfl,rfl,hb,hl,hcap,hel,hall,_⟩
   ·exact⟨[.sl []],by simp[BRepL,BRep],⟨_,[],rfl,⟨by simp,fun r h=>by cases h⟩,rfl⟩⟩
   ·rcases Nat.eq_zero_or_pos len with h0 | h0
    ·subst h0
     exact⟨[.sl []],by simp[BRepL,BRep],⟨_,[],rfl,⟨by simp,fun r h=>by cases h⟩,rfl⟩⟩
    ·have hcell:∀i,i < len→∃ci,w.cells? base (a.add (i*P.cellsOf e)) (P.cellsOf e)=some ci∧∃y,DataW.trod enc P w base sp held m e ci=some y∧∀n∈y.1.weights P e,n≤reachBytes:=fun i hi=>by
      have h1:=hall i hi
      have h2:elems[i]?=some elems[i]:=List.getElem?_eq_getElem (by omega)
      rw[h2,Option.bind_eq_some_iff] at h1
      obtain⟨ci,h3,h4⟩:=h1
      exact ⟨ci, h3, _, h4, fun n hn => hwt n (by
       simp only[DataW.weights,ht,List.mem_cons,List.mem_append]
       exact .inr (.inl (weights_all (List.mem_map.2 ⟨_,List.getElem_mem (by omega),rfl⟩) n hn)))⟩
     have hkpos:0 < P.cellsOf e:=by rw[← hc.1]; exact hc.2
     obtain⟨c0,g0,_⟩:=hcell 0 h0
     obtain⟨g1,g2⟩:=cells_get g0
     have g3:=g2 0 hkpos
     have e0:(a.add (0*P.cellsOf e)).add 0=a:=by simp[Addr.add]
     rw[e0,List.getElem?_eq_getElem (by omega)] at g3
     obtain⟨hspot,arr,ta,fz,hh,_⟩:=cell_arr g3
     have hcs:∀i,i < len→∃bs,BRepL (heapF w) bs ((arr.toList.drop (a.off+i*P.cellsOf e)).take (P.cellsOf e))∧Sh.okL es bs:=fun i hi=>by
      obtain⟨ci,k1,y,k2,k3⟩:=hcell i hi
      rw[(row_at hspot hh k1).1]
      exact ih hes k2 k3
     obtain⟨rows,r1,r2,r3⟩:=rows_sh (w:=w) (es:=es) hc.1 (arr:=arr) (off:=a.off) (m:=len) (s:=0) (fun i _ hi=>hcs i (by omega))
     refine⟨[.sl rows],?_,?_⟩
     ·simp only[BRepL]
      refine⟨_,_,rfl,?_,rfl⟩
      simp only[BRep]
      refine .inr ⟨a.block,a.off,cap,P.cellsOf e,arr,ta,fz,?_,hh,by omega,fun r hr=>by rw[Sh.okL_length (r2 r hr)]; exact hc.1,?_,?_⟩
      ·rw[r1]
       cases a
       simp at hspot
       simp[hspot]
      ·obtain⟨ci,k1,y,k2⟩:=hcell (len - 1) (by omega)
       have h5:=(row_at hspot hh k1).2 hkpos
       rw[r1]
       have:len*P.cellsOf e=(len - 1)*P.cellsOf e+P.cellsOf e:=by
        rw[← Nat.succ_mul]; congr 1; omega
       omega
      ·rw[r1]; simpa using r3
     ·refine⟨_,[],rfl,⟨?_,r2⟩,rfl⟩
      have h1:=hwt ((elems.length+rest.length)*P.bytesOf e) (by simp[DataW.weights,ht])
      rw[r1,← hel]
      have h2:elems.length*P.bytesOf e≤(elems.length+rest.length)*P.bytesOf e:=Nat.mul_le_mul_right _ (by omega)
      have h3:reachBytes=140737488351232:=rfl
      omega
  ·obtain⟨xs,m,rfl,rfl,hl,hxl,hall⟩:=DataW.trod_struct ht hx
   obtain ⟨bs, b1, b2⟩ := fields_sh (enc := enc) (w := w) (base := base) (sp := sp) (held := held) (m := m) (cs := cs) (fun t ss h cs x hx hw => ih h hx hw) hss (fun f hf => by
    obtain⟨i,hi⟩:=List.mem_iff_getElem?.1 hf
    have hi':fs[i]?=some f:=by simpa using hi
    have h1:=hall i f hi'
    have:i < xs.length:=by rw[hxl]; exact(Array.getElem?_eq_some_iff.1 hi').1
    rw[List.getElem?_eq_getElem this] at h1
    refine⟨_,h1,fun n hn=>hwt n ?_⟩
    simp only[DataW.weights,ht]
    exact DataW.weights_mem_each (j:=i) (t:=f.type) (d:=(xs[i]).1) (by simp[hi]) (by simp[this]) n hn) (by omega)
   exact⟨bs,by simpa using b1,b2⟩
def argV (agg:Bool) (bs:List B):SV:=if agg then .agg (bs.map (cellB 0)) else match bs with
 |[b]=>.one (cellB 0 b)
 |_=>.dead
theorem argB_rel {X:Ctx} {b:B} {v:Value} (h:BRep (X.H 0) b v):CVRel X (cellB 0 b) v:=by
 cases b with
 |val x=>simpa only[cellB,CVRel,BRep] using h
 |sl rows=>simpa only[cellB,CVRel] using h
theorem argsB_rel {X:Ctx}:∀ {bs:List B} {vs:List Value},BRepL (X.H 0) bs vs→CVRels X (bs.map (cellB 0)) vs
 |[],vs,h=>by simpa only[BRepL,List.map_nil,CVRels] using h
 |b::bs,vs,h=>by
  simp only[BRepL] at h
  obtain⟨v,vs',rfl,h1,h2⟩:=h
  simp only[List.map_cons,CVRels]
  exact⟨v,vs',rfl,argB_rel h1,argsB_rel h2⟩
def isAgg (P:Program) (t:TypeId):Bool:=
 match P.underlying t with
 |some (.struct _)=>true
 |_=>false
theorem arg_sh {n:Nat} {t:TypeId} {ss:List Sh} (h:shOf P n t=some ss) {r:Reach} {b0:Nat} {v:Value} {d:DataW H} {ps:List MemPlace} (hval:Value.okWide P w r b0 t v) (hd:DataW.Trod enc P w base sp held t v d ps) (hwt:∀n∈d.weights P t,n≤reachBytes) {X:Ctx} (hX:X.H 0=heapF w):
  ∃bs,Sh.okL ss bs∧SVRel X (argV (isAgg P t) bs) v:=by
 obtain⟨fuel,hf⟩:=hd
 obtain⟨bs,b1,b2⟩:=trod_sh h hf hwt
 refine⟨bs,b2,?_⟩
 rw[← hX] at b1
 unfold isAgg
 have key:(∀fs,P.underlying t≠some (.struct fs))→v.cells=#[v]→SVRel X (argV false bs) v:=fun _ hc=>by
  rw[hc] at b1
  have hl:=BRepL.length b1
  match bs,b1,hl with
  |[b],b1,_=>
   simp only[BRepL] at b1
   obtain⟨u,us,e,h1,rfl⟩:=b1
   simp at e; subst e
   simp only[argV,Bool.false_eq_true,if_false,SVRel]
   exact argB_rel h1
  |[],b1,hl=>simp at hl
  |_::_::_,b1,hl=>simp at hl
 split
 ·rename_i fs hu
  obtain⟨cs,rfl,_⟩:=WideShapes.okWide_struct hu hval
  simp only[argV,if_true,SVRel]
  simp only[Value.cells] at b1
  exact⟨cs.toList,by simp,argsB_rel b1⟩
 ·rename_i hn
  refine key (fun fs e=>hn fs e) ?_
  cases n with
  |zero=>simp[shOf] at h
  |succ n=>
   simp only[shOf] at h
   split at h
   ·rename_i hu; obtain⟨b,rfl⟩:=WideShapes.okWide_bool hu hval; rfl
   ·rename_i hu; obtain⟨b,rfl⟩:=WideShapes.okWide_int hu hval; rfl
   ·rename_i hu; obtain⟨b,rfl⟩:=WideShapes.okWide_string hu hval; rfl
   ·rename_i hu; obtain⟨a,b,c,rfl⟩:=WideShapes.okWide_slice hu hval; rfl
   ·rename_i fs hu; exact absurd hu (hn fs)
   ·cases h
end
theorem sized_arg {H:Type} {P:Program} {ts:List TypeId} {ds:List (DataW H)} (h:(DataW.weightsEach P ts ds).all (· ≤reachBytes)=true) {j:Nat} {t:TypeId} {d:DataW H} (ht:ts[j]?=some t) (hd:ds[j]?=some d):∀n∈d.weights P t,n≤reachBytes:=
 fun n hn=>by simpa using List.all_eq_true.1 h n (DataW.weights_mem_each ht hd n hn)
def lawX (w:World):Ctx:=⟨fun _=>heapF w,objsO [],fun _=>undef,fun _=>emp⟩
theorem law_calls {P:Program} {F:FuncId→Option VFun} {X:Ext} (hm:P.follows .mixedOrders=true) (hF:∀f fn,F f=some fn→matchFun P f fn=true) (hX:∀f args objs rs,X f args objs rs→CallOK P f args objs [] [] rs)
  {f:FuncId} {fn:VFun} (hf:F f=some fn) {svs:List SV} {args:Array Value} {w:World} (hrel:SVRels (lawX w) svs args.toList) (hev:Ev F X (.call f svs [] [] [.one (.val (.bool true))])):
  Calls P f args w fun e w'=>e=.returned (.bool true)∧Below w.heap.size w w':=by
 have h:=sound hm hF hX hev (fun _=>heapF w) (fun _=>undef) (fun _=>emp) w args ⟨fun id ob h=>(by simp[objsO,getA] at h),fun _ _=>rfl,fun _ _ _=>emp_disj _,fun _ _ _ h=>(by cases h),fun _ b o h=>h,fun _ _=>emp_disj _⟩ hrel
 have hen:Enter P f:=by
  have:=hF f fn hf
  unfold matchFun at this
  split at this
  ·rename_i g hg
   split at this
   ·rename_i c hc
    simp only[Bool.and_eq_true,Bool.not_eq_true'] at this
    exact⟨g,c,hg,hc,this.1⟩
   ·cases this
  ·cases this
 have key:∀v w',Ans (fun _=>heapF w) (fun _=>undef) [] [] [.one (.val (.bool true))] w w' v→v=.bool true∧Below w.heap.size w w':=by
  rintro v w' ⟨vs,Gb,G,hres,hb,hH,_,hr,_⟩
  simp only[RetsRel] at hr
  obtain⟨v1,vs1,g1,g2,rfl,_,_,hr1,rfl,_⟩:=hr
  simp only[RetRel,ORep] at hr1
  simp only[ResV] at hres
  refine⟨by rw[hres,hr1.1],hb.os,hb.tape,hb.output,hb.size,fun k hk=>?_⟩
  rw[Array.getElem?_eq_getElem hk]
  exact hH 0 k _ (by simp[heapF,hk])
 rcases h with⟨_,h⟩ |⟨v,w',h,_⟩
 ·exact Calls.mono h fun e w' ⟨v,he,ha⟩=>by
   obtain⟨k1,k2⟩:=key v w' ha
   exact⟨by rw[he,k1],k2⟩
 ·rw[callFunc_enter hen] at h
  cases h
end Go.Proofs.YtmdocdnidilaiaaGreat.V
