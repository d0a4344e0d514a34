/- V: what an operation does depends on the slots that it names and on the objects that it tells. -/
import Derived.Test.YtmdocdnidilaiaaGreatVEv
namespace Go.Proofs.YtmdocdnidilaiaaGreat.V
open Go
abbrev Same (O O':Id→OS) (l:List Id):Prop:=∀i∈l,O' i=O i
section
variable {O O':Id→OS}
theorem ov_same {T:List (Id × OS)} {i:Id} (h:O' i=O i):ov O' T i=ov O T i:=by unfold ov; rw[h]
theorem newId_same {T:List (Id × OS)} {d c:Nat} (h:Same O O' (both d c)):newId (ov O' T) d c=newId (ov O T) d c:=by
 unfold newId
 rw[ov_same (h (d,c,0) (by simp[both])),ov_same (h (d,c,1) (by simp[both]))]
theorem newId_same0 {d c:Nat} (h:Same O O' (both d c)):newId O' d c=newId O d c:=newId_same (T:=[]) h
theorem takeR_mem {T T':List (Id × OS)} {r:Ref} {k rows} (h:takeR O T r=some (k,rows,T')):∃x,T'=(r.id,x)::T:=by
 unfold takeR at h
 split at h<;>try cases h
 split at h<;>try cases h
 split at h<;>try cases h
 exact⟨_,rfl⟩
theorem takeR_same {T T':List (Id × OS)} {r:Ref} {k rows} (h:takeR O T r=some (k,rows,T')) (a:Same O O' (idsOf T')):takeR O' T r=some (k,rows,T'):=by
 obtain⟨x,rfl⟩:=takeR_mem h
 unfold takeR at h⊢
 rw[ov_same (a r.id (by simp[idsOf]))]
 exact h
theorem takeC_sub {T T':List (Id × OS)} {c d} (h:takeC O T c=some (d,T')):idsOf T⊆idsOf T':=by
 cases c<;>simp only[takeC,Option.some.injEq,Prod.mk.injEq] at h
 ·obtain⟨_,rfl⟩:=h; exact fun _=>id
 ·obtain⟨_,rfl⟩:=h; exact fun _=>id
 ·obtain⟨_,rfl⟩:=h; exact fun _=>id
 ·split at h
  ·rename_i h'
   simp only[Option.some.injEq,Prod.mk.injEq] at h
   obtain⟨_,rfl⟩:=h
   obtain⟨x,rfl⟩:=takeR_mem h'
   exact fun i hi=>List.mem_cons_of_mem _ hi
  ·cases h
theorem takeC_same {T T':List (Id × OS)} {c d} (h:takeC O T c=some (d,T')) (a:Same O O' (idsOf T')):takeC O' T c=some (d,T'):=by
 cases c<;>simp only[takeC] at h⊢
 ·exact h
 ·exact h
 ·exact h
 ·split at h
  ·rename_i h'
   have h2:=h
   simp only[Option.some.injEq,Prod.mk.injEq] at h2
   obtain⟨_,rfl⟩:=h2
   rw[takeR_same h' a]; exact h
  ·cases h
theorem takeCs_sub:∀ {cs:List CV} {T T':List (Id × OS)} {ds},takeCs O T cs=some (ds,T')→idsOf T⊆idsOf T'
 |[],T,T',ds,h=>by simp only[takeCs,Option.some.injEq,Prod.mk.injEq] at h; rw[h.2]; exact fun _=>id
 |c::cs,T,T',ds,h=>by
  simp only[takeCs] at h
  split at h<;>try cases h
  rename_i h1
  split at h<;>try cases h
  rename_i h2
  exact fun i hi=>takeCs_sub h2 (takeC_sub h1 hi)
theorem takeCs_same:∀ {cs:List CV} {T T':List (Id × OS)} {ds},takeCs O T cs=some (ds,T')→Same O O' (idsOf T')→takeCs O' T cs=some (ds,T')
 |[],T,T',ds,h,_=>h
 |c::cs,T,T',ds,h,a=>by
  simp only[takeCs] at h⊢
  split at h<;>try cases h
  rename_i h1
  split at h<;>try cases h
  rename_i h2
  rw[takeC_same h1 (fun i hi=>a i (takeCs_sub h2 hi))]
  simp only[]
  rw[takeCs_same h2 a]
theorem litR_sub {S:Nat→SV} {k:Nat}:∀ {l:List (Nat × VX)} {T T':List (Id × OS)} {rows rows'},litR S O k T rows l=some (rows',T')→idsOf T⊆idsOf T'
 |[],T,T',rows,rows',h=>by simp only[litR,Option.some.injEq,Prod.mk.injEq] at h; rw[h.2]; exact fun _=>id
 |(i,x)::l,T,T',rows,rows',h=>by
  simp only[litR] at h
  split at h<;>try cases h
  split at h<;>try cases h
  rename_i h1
  split at h<;>try cases h
  exact fun i hi=>litR_sub h (takeCs_sub h1 hi)
theorem litR_same {S:Nat→SV} {k:Nat}:∀ {l:List (Nat × VX)} {T T':List (Id × OS)} {rows rows'},litR S O k T rows l=some (rows',T')→Same O O' (idsOf T')→litR S O' k T rows l=some (rows',T')
 |[],T,T',rows,rows',h,_=>h
 |(i,x)::l,T,T',rows,rows',h,a=>by
  simp only[litR] at h⊢
  split at h<;>try cases h
  split at h<;>try cases h
  rename_i h1
  split at h<;>try cases h
  rename_i h2
  rw[takeCs_same h1 (fun i hi=>a i (litR_sub h hi))]
  simp only[if_pos h2]
  exact litR_same h a
theorem rowsAt_same {r:Ref} (h:O' r.id=O r.id):rowsAt O' r=rowsAt O r:=by unfold rowsAt; rw[h]
theorem rowAt_same {p:Ptr} (h:O' p.id=O p.id):rowAt O' p=rowAt O p:=by unfold rowAt; rw[h]
theorem source_sub {T T':List (Id × OS)} {v:SV} {rows rd} (h:source O T v=some (rows,rd,T')):idsOf T⊆idsOf T':=by
 unfold source at h
 split at h
 ·simp only[Option.some.injEq,Prod.mk.injEq] at h; rw[h.2.2]; exact fun _=>id
 ·simp only[Option.some.injEq,Prod.mk.injEq] at h; rw[h.2.2]; exact fun _=>id
 ·simp only[Option.some.injEq,Prod.mk.injEq] at h; rw[h.2.2]; exact fun _=>id
 ·split at h<;>try cases h
  split at h
  ·simp only[Option.some.injEq,Prod.mk.injEq] at h; rw[h.2.2]; exact fun _=>id
  ·split at h<;>try cases h
   rename_i h1
   obtain⟨x,rfl⟩:=takeR_mem h1
   exact fun i hi=>List.mem_cons_of_mem _ hi
 ·cases h
theorem source_same {T T':List (Id × OS)} {v:SV} {rows rd} (h:source O T v=some (rows,rd,T')) (a:Same O O' rd) (b:Same O O' (idsOf T')):source O' T v=some (rows,rd,T'):=by
 unfold source at h⊢
 split at h
 ·exact h
 ·exact h
 ·exact h
 ·rename_i r
  split at h<;>try cases h
  rename_i h0
  split at h
  ·rename_i h1
   simp only[Option.some.injEq,Prod.mk.injEq] at h
   obtain⟨rfl,rfl,rfl⟩:=h
   simp only[rowsAt_same (a _ (List.mem_singleton_self r.id)),h0,if_pos h1]
  ·rename_i h1
   split at h<;>try cases h
   rename_i h2
   obtain⟨x,rfl⟩:=takeR_mem h2
   simp only[rowsAt_same (b r.id (by simp[idsOf])),h0,if_neg h1]
   rw[takeR_same h2 b]
 ·cases h
theorem made_same {T:List (Id × OS)} {dst:Nat} {o sv req rd e} (h:made O T dst o sv req rd=some e) (b:Same O O' e.wr):made O' T dst o sv req rd=some e∧(∀i∈idsOf T,i∈e.wr)∧e.rd=rd:=by
 unfold made at h⊢
 split at h
 ·rename_i h1
  simp only[Option.some.injEq] at h
  subst h
  rw[newId_same (fun i hi=>b i (by simp[hi])),h1]
  exact⟨rfl,fun i hi=>by simp[hi],rfl⟩
 ·cases h
theorem importC_same {dst c:Nat} {T T':List (Id × OS)} {d:D} {v is} (h:importC O dst c T d=some (v,T',is)) (b:Same O O' is):importC O' dst c T d=some (v,T',is):=by
 cases d<;>simp only[importC] at h⊢
 case own k rows=>
  split at h<;>try cases h
  rename_i h1
  rw[newId_same b,h1]
 all_goals exact h
theorem importCs_same {dst:Nat}:∀ {l:List D} {c:Nat} {T T':List (Id × OS)} {v is},importCs O dst c T l=some (v,T',is)→Same O O' is→importCs O' dst c T l=some (v,T',is)
 |[],_,_,_,_,_,h,_=>h
 |d::l,c,T,T',v,is,h,b=>by
  simp only[importCs] at h⊢
  split at h<;>try cases h
  rename_i h1
  split at h<;>try cases h
  rename_i h2
  rw[importC_same h1 (fun i hi=>b i (by simp[hi]))]
  simp only[]
  rw[importCs_same h2 (fun i hi=>b i (by simp[hi]))]
theorem importC_sub {dst c:Nat} {T T':List (Id × OS)} {d:D} {v is} (h:importC O dst c T d=some (v,T',is)):idsOf T⊆idsOf T':=by
 cases d<;>simp only[importC,Option.some.injEq,Prod.mk.injEq,reduceCtorEq] at h
 case own k rows=>
  split at h<;>try cases h
  exact fun i hi=>List.mem_cons_of_mem _ hi
 all_goals (obtain⟨_,rfl,_⟩:=h; exact fun _=>id)
theorem importCs_sub {dst:Nat}:∀ {l:List D} {c:Nat} {T T':List (Id × OS)} {v is},importCs O dst c T l=some (v,T',is)→idsOf T⊆idsOf T'
 |[],_,_,_,_,_,h=>by simp only[importCs,Option.some.injEq,Prod.mk.injEq] at h; rw[h.2.1]; exact fun _=>id
 |d::l,c,T,T',v,is,h=>by
  simp only[importCs] at h
  split at h<;>try cases h
  rename_i h1
  split at h<;>try cases h
  rename_i h2
  exact fun i hi=>importCs_sub h2 (importC_sub h1 hi)
theorem asgCell_same {T:List (Id × OS)} {t dst:Nat} {c:CV} (a:Same O O' c.ids) (b:Same O O' (both dst c.part)):asgCell O' T t dst c=asgCell O T t dst c:=by
 cases c with
 |ref r=>
  have h:=a r.id (by simp[CV.ids])
  have h':newId (ov O' T) dst r.id.2.1=newId (ov O T) dst r.id.2.1:=newId_same b
  simp only[asgCell]
  rw[ov_same h,h']
 |_=>rfl
theorem asgCells_same {t dst:Nat}:∀ {cs:List CV} {T:List (Id × OS)},Same O O' (cs.flatMap CV.ids)→Same O O' (cs.flatMap fun c=>both dst c.part)→asgCells O' t dst T cs=asgCells O t dst T cs
 |[],T,_,_=>rfl
 |c::cs,T,a,b=>by
  simp only[asgCells]
  rw [asgCell_same (fun i hi => a i (by simp [hi])) (fun i hi => b i (by simp [hi])), asgCells_same (fun i hi => a i (List.mem_flatMap.2 (by
   obtain⟨c',h1,h2⟩:=List.mem_flatMap.1 hi
   exact⟨c',List.mem_cons_of_mem _ h1,h2⟩))) (fun i hi=>b i (List.mem_flatMap.2 (by
   obtain⟨c',h1,h2⟩:=List.mem_flatMap.1 hi
   exact⟨c',List.mem_cons_of_mem _ h1,h2⟩)))]
theorem asgE_same {t dst:Nat} {v:SV} {e} (h:asgE O dst t v=some e) (a:Same O O' e.rd) (b:Same O O' e.wr):asgE O' dst t v=some e:=by
 cases v with
 |one c=>
  simp only[asgE,Option.some.injEq] at h⊢
  subst h
  rw[asgCell_same a (fun i hi=>b i (List.mem_append_right _ hi))]
 |agg cs=>
  simp only[asgE,Option.some.injEq] at h⊢
  subst h
  rw[asgCells_same a (fun i hi=>b i (List.mem_append_right _ hi))]
 |ptr p=>
  simp only[asgE] at h⊢
  split at h
  ·rename_i h0
   rw[if_pos h0]
   split at h<;>try cases h
   rename_i h1 h2 h3
   rw[h1,b p.id (by simp),newId_same0 (fun i hi=>b i (by simp[hi])),h2,h3]
  ·rename_i h0
   rw[if_neg h0]; exact h
 |_=>exact h
end
def VX.uses:VX→List Nat
 |.t i=>[i]
 |_=>[]
def usesO:Option VX→List Nat
 |some x=>x.uses
 |none=>[]
def VOp.uses:VOp→List Nat
 |.mov x | .asg x | .un _ x | .conv _ _ _ x | .box _ x | .nilc x | .fa _ _ _ _ x | .load _ _ _ x | .len _ _ x | .ext x _ | .capn _ x | .asgn x=>x.uses
 |.pick c a b=>c.uses++a.uses++b.uses
 |.bin _ _ _ x y | .eqs _ _ _ x y | .ia _ _ _ x y | .store _ _ x y | .app _ _ _ _ x y | .mk _ _ _ _ _ x y | .trunc _ _ _ x y | .appn _ _ _ _ _ x y=>x.uses++y.uses
 |.build _ _ ps=>ps.flatMap fun p=>p.2.2.2.uses
 |.lit _ _ _ _ _ ps=>ps.flatMap fun p=>p.2.uses
 |.alloc _ _=>[]
 |.cut _ _ _ x lo hi=>x.uses++usesO lo++usesO hi
 |.fn _ a b=>a.flatMap VX.uses++b.flatMap VX.uses
 |.call _ l=>l.flatMap VX.uses
 |.callv x l=>x.uses++l.flatMap VX.uses
section
variable {S S':Nat→SV}
abbrev SameS (S S':Nat→SV) (l:List Nat):Prop:=∀i∈l,S' i=S i
theorem evx_same {x:VX} (h:SameS S S' x.uses):evx S' x=evx S x:=by
 cases x with
 |t n=>exact h n (by simp[VX.uses])
 |_=>rfl
theorem lowE_same {x:Option VX} {d:Int} (h:SameS S S' (usesO x)):lowE S' x d=lowE S x d:=by
 cases x with
 |none=>rfl
 |some x=>simp only[lowE]; rw[evx_same h]
theorem map_same:∀ {l:List VX},SameS S S' (l.flatMap VX.uses)→l.map (evx S')=l.map (evx S)
 |[],_=>rfl
 |x::l,h=>by
  simp only[List.map_cons]
  rw[evx_same (fun i hi=>h i (by simp[hi])),map_same (fun i hi=>h i (by rw[List.flatMap_cons]; exact List.mem_append_right _ hi))]
theorem buildC_same:∀ {ps:List (Nat × Nat × Nat × VX)} {cs:List CV},SameS S S' (ps.flatMap fun p=>p.2.2.2.uses)→buildC S' cs ps=buildC S cs ps
 |[],_,_=>rfl
 |(_,off,n,x)::l,cs,h=>by
  simp only[buildC]
  rw[evx_same (fun i hi=>h i (by simp[hi]))]
  split
  ·split
   ·exact buildC_same (fun i hi=>h i (by rw[List.flatMap_cons]; exact List.mem_append_right _ hi))
   ·rfl
  ·rfl
theorem litR_sameS {O:Id→OS} {k:Nat}:∀ {ps:List (Nat × VX)} {T rows},SameS S S' (ps.flatMap fun p=>p.2.uses)→litR S' O k T rows ps=litR S O k T rows ps
 |[],_,_,_=>rfl
 |(j,x)::l,T,rows,h=>by
  simp only[litR]
  rw[evx_same (fun i hi=>h i (by simp[hi]))]
  split
  ·split
   ·split
    ·exact litR_sameS (fun i hi=>h i (by rw[List.flatMap_cons]; exact List.mem_append_right _ hi))
    ·rfl
   ·rfl
  ·rfl
theorem pstep_sameS {O:Id→OS} {d:Nat} {v:VOp} (h:SameS S S' v.uses):pstep S' O d v=pstep S O d v:=by
 cases v<;>simp only[VOp.uses] at h<;>simp only[pstep]
 case mov x=>rw[evx_same h]
 case asg x=>
  cases x with
  |t n=>simp only[]; rw[h n (by simp[VX.uses])]
  |_=>rfl
 case pick c a b=>
  rw[evx_same (x:=c) (fun i hi=>h i (by simp[hi]))]
  split
  ·rename_i c' _
   cases c'<;>simp only[Bool.false_eq_true,if_false,if_true]<;>rw[evx_same (fun i hi=>h i (by simp[hi]))]
  ·rfl
 case bin b op t x y=>rw[evx_same (x:=x) (fun i hi=>h i (by simp[hi])),evx_same (x:=y) (fun i hi=>h i (by simp[hi]))]
 case un=>rw[evx_same h]
 case eqs n t ks x y=>rw[evx_same (x:=x) (fun i hi=>h i (by simp[hi])),evx_same (x:=y) (fun i hi=>h i (by simp[hi]))]
 case conv=>rw[evx_same h]
 case build=>rw[buildC_same h]
 case lit=>rw[litR_sameS h]
 case box=>rw[evx_same h]
 case nilc=>rw[evx_same h]
 case fa=>rw[evx_same h]
 case ia t e k x y=>rw[evx_same (x:=x) (fun i hi=>h i (by simp[hi])),evx_same (x:=y) (fun i hi=>h i (by simp[hi]))]
 case load=>rw[evx_same h]
 case store t n x y=>rw[evx_same (x:=x) (fun i hi=>h i (by simp[hi])),evx_same (x:=y) (fun i hi=>h i (by simp[hi]))]
 case cut t e k x lo hi=>simp only[evx_same (x:=x) (fun i hi=>h i (by simp[hi])),lowE_same (x:=lo) (fun i hi=>h i (by simp[hi])),lowE_same (x:=hi) (fun i hi=>h i (by simp[hi]))]
 case mk t e k b z x y=>rw[evx_same (x:=x) (fun i hi=>h i (by simp[hi])),evx_same (x:=y) (fun i hi=>h i (by simp[hi]))]
 case app t e k b x y=>simp only[evx_same (x:=x) (fun i hi=>h i (by simp[hi])),evx_same (x:=y) (fun i hi=>h i (by simp[hi]))]
 case len=>rw[evx_same h]
 case ext=>rw[evx_same h]
 case fn f a b=>rw[map_same (l:=a) (fun i hi=>h i (List.mem_append_left _ hi)),map_same (l:=b) (fun i hi=>h i (List.mem_append_right _ hi))]
 case asgn=>rw[evx_same h]
 case capn=>rw[evx_same h]
 case appn t e k b z x y=>rw[evx_same (x:=x) (fun i hi=>h i (by simp[hi])),evx_same (x:=y) (fun i hi=>h i (by simp[hi]))]
 case trunc t e k x y=>rw[evx_same (x:=x) (fun i hi=>h i (by simp[hi])),evx_same (x:=y) (fun i hi=>h i (by simp[hi]))]
end
theorem pstep_sameO {S:Nat→SV} {O O':Id→OS} {d:Nat} {v:VOp} {e:Eff} (h:pstep S O d v=some e) (a:Same O O' e.rd) (b:Same O O' e.wr):pstep S O' d v=some e:=by
 cases v<;>simp only[pstep] at h⊢
 case asg x=>
  cases x with
  |t n=>
   simp only[] at h⊢
   split at h
   ·cases h
   ·rename_i h0
    rw[if_neg h0]; exact asgE_same h a b
  |_=>exact h
 case asgn x=>
  split at h
  ·split at h<;>try cases h
   rename_i h1
   split at h<;>try cases h
   rename_i h2
   rw[takeCs_same h1 (fun i hi=>b i (List.mem_append_right _ (importCs_sub h2 hi)))]
   simp only[]
   rw[importCs_same h2 (fun i hi=>b i (List.mem_append_left _ hi))]
  ·split at h<;>try cases h
   rename_i h1
   split at h<;>try cases h
   rename_i h2
   rw[takeCs_same h1 (fun i hi=>b i (List.mem_append_right _ (importCs_sub h2 hi)))]
   simp only[]
   rw[importCs_same h2 (fun i hi=>b i (List.mem_append_left _ hi))]
  ·cases h
 case lit=>
  split at h<;>try cases h
  rename_i h1
  split at h<;>try cases h
  rename_i h2
  obtain⟨h3,h4,_⟩:=made_same h b
  rw[litR_same h1 (fun i hi=>b i (h4 i hi))]
  simp only[if_pos h2,h3]
 case box=>
  split at h<;>try cases h
  rename_i cs0 _
  split at h<;>try cases h
  rename_i h1
  split at h<;>try cases h
  rename_i e0 he0
  have hb:Same O O' e0.wr:=by
   have:(boxE cs0 e0).wr=e0.wr:=by unfold boxE; split<;>rfl
   rw[← this]; exact b
  obtain⟨h3,h4,_⟩:=made_same he0 hb
  rw[takeCs_same h1 (fun i hi=>hb i (h4 i hi))]
  simp only[h3]
 case alloc=>exact(made_same h b).1
 case ia=>
  split at h<;>try cases h
  ·split at h<;>try cases h
   rename_i h1
   rw[rowsAt_same (a _ (by simp)),h1]
  ·rfl
 case load=>
  split at h<;>try cases h
  ·split at h<;>try cases h
   rename_i h4
   split at h<;>try cases h
   rename_i h1
   split at h<;>try cases h
   rename_i h2
   split at h<;>try cases h
   rename_i h3
   rw[rowAt_same (a _ (by simp only[ldRd]; split<;>simp)),h1,if_pos h4]
   simp only[h2,h3]
  ·exact h
 case store=>
  split at h<;>try cases h
  split at h<;>try cases h
  rename_i h0
  split at h<;>try cases h
  rename_i h1
  split at h<;>try cases h
  rename_i h2
  rw[if_pos h0,takeCs_same h1 (fun i hi=>b i (by simp[stWr,hi]))]
  simp only[]
  have:∀(T:List (Id × OS)) (p:Ptr),O' p.id=O p.id→rowAt (ov O' T) p=rowAt (ov O T) p:=fun T p hp=>by
   unfold rowAt; rw[ov_same hp]
  rw[this _ _ (b _ (by simp[stWr])),h2]
 case cut=>
  split at h
  ·exact h
  ·exact h
  ·exact h
  ·split at h<;>try cases h
   split at h<;>try cases h
   rename_i h1
   split at h<;>try cases h
   rename_i h2
   rw[rowsAt_same (a _ (by simp)),h1]
   simp only[if_pos h2]
  ·cases h
 case mk=>
  split at h<;>try cases h
  split at h<;>try cases h
  rename_i h1
  rw[if_pos h1]; exact(made_same h b).1
 case appn=>
  split at h
  ·split at h<;>try cases h
   rename_i h1
   rw[if_pos h1]; exact(made_same h b).1
  ·split at h<;>try cases h
   rename_i h0
   split at h<;>try cases h
   rename_i h1
   split at h<;>try cases h
   rename_i h2
   obtain⟨h5,h6,h7⟩:=made_same h b
   rw[b _ (h6 _ (by simp[idsOf]))]
   simp only[h0,h1,if_pos h2]
   exact h5
  ·cases h
 case trunc=>
  split at h<;>try cases h
  split at h<;>try cases h
  rename_i h0
  split at h<;>try cases h
  rename_i h1
  split at h<;>try cases h
  rename_i h2
  obtain⟨h5,h6,h7⟩:=made_same h b
  rw[b _ (h6 _ (by simp[idsOf]))]
  simp only[h0,h1,if_pos h2]
  exact h5
 case app=>
  split at h
  ·split at h<;>try cases h
   rename_i h1
   obtain⟨h3,h4,h5⟩:=made_same h b
   rw[source_same h1 (by rw[← h5]; exact a) (fun i hi=>b i (h4 i hi))]
   exact h3
  ·split at h<;>try cases h
   rename_i h0
   split at h<;>try cases h
   rename_i h1
   split at h<;>try cases h
   rename_i h2
   split at h<;>try cases h
   rename_i h3
   obtain⟨h5,h6,h7⟩:=made_same h b
   have hm:=source_sub h3
   rw[b _ (h6 _ (hm (by simp[idsOf])))]
   simp only[h0,h1,if_pos h2]
   rw[source_same h3 (by rw[← h7]; exact a) (fun i hi=>b i (h6 i hi))]
   exact h5
  ·cases h
 all_goals exact h
section
variable {O O':Id→OS}
theorem lendC_same {c c':CV} {rd} (h:lendC O c=some (c',rd)) (a:Same O O' rd):lendC O' c=some (c',rd):=by
 cases c with
 |ref r=>
  simp only[lendC] at h⊢
  split at h<;>try cases h
  rename_i h1
  split at h<;>try cases h
  rename_i h2
  rw[rowsAt_same (a _ (by simp)),h1]
  simp only[if_pos h2]
 |_=>exact h
theorem lendCs_same:∀ {l l':List CV} {rd},lendCs O l=some (l',rd)→Same O O' rd→lendCs O' l=some (l',rd)
 |[],_,_,h,_=>h
 |c::l,l',rd,h,a=>by
  simp only[lendCs] at h⊢
  split at h<;>try cases h
  rename_i h1 h2
  rw[lendC_same h1 (fun i hi=>a i (by simp[hi])),lendCs_same h2 (fun i hi=>a i (by simp[hi]))]
mutual
theorem lend_same:∀ {v v':SV} {rd},lend O v=some (v',rd)→Same O O' rd→lend O' v=some (v',rd)
 |.one c,v',rd,h,a=>by
  simp only[lend] at h⊢
  split at h<;>try cases h
  rename_i h1
  rw[lendC_same h1 a]
 |.agg cs,v',rd,h,a=>by
  simp only[lend] at h⊢
  split at h<;>try cases h
  rename_i h1
  rw[lendCs_same h1 a]
 |.ptr p,v',rd,h,a=>by
  simp only[lend] at h⊢
  split at h<;>try cases h
  rename_i h1
  split at h<;>try cases h
  rename_i h2
  rw[rowAt_same (a _ (by simp)),h1]
  simp only[if_pos h2]
 |.bptr l cs,v',rd,h,a=>h
 |.clo f x y,v',rd,h,a=>by
  simp only[lend] at h⊢
  split at h<;>try cases h
  rename_i h1 h2
  rw[lendL_same h1 (fun i hi=>a i (by simp[hi])),lendL_same h2 (fun i hi=>a i (by simp[hi]))]
 |.tup _,_,_,h,_=>h
 |.dead,_,_,h,_=>h
theorem lendL_same:∀ {l l':List SV} {rd},lendL O l=some (l',rd)→Same O O' rd→lendL O' l=some (l',rd)
 |[],_,_,h,_=>h
 |v::l,l',rd,h,a=>by
  simp only[lendL] at h⊢
  split at h<;>try cases h
  rename_i h1 h2
  rw[lend_same h1 (fun i hi=>a i (by simp[hi])),lendL_same h2 (fun i hi=>a i (by simp[hi]))]
end
theorem giveI_same {a:Nat} {g g':Give} {i c:Id} {q:Path} (h:giveI O a g i q=some (c,g')):(idsOf g.T⊆idsOf g'.T∧g'.rd=g.rd)∧(Same O O' (idsOf g'.T)→giveI O' a g i q=some (c,g')):=by
 have h':=h
 unfold giveI at h
 split at h<;>try cases h
 split at h<;>try cases h
 split at h<;>try cases h
 split at h<;>try cases h
 refine⟨⟨fun j hj=>List.mem_cons_of_mem _ hj,rfl⟩,fun b=>?_⟩
 unfold giveI at h'⊢
 rw[ov_same (b i (by simp[idsOf]))]
 exact h'
theorem giveC_same {a:Nat} {g g':Give} {c c':CV} (h:giveC O a g c=some (c',g')):(idsOf g.T⊆idsOf g'.T∧g'.rd=g.rd)∧(Same O O' (idsOf g'.T)→giveC O' a g c=some (c',g')):=by
 cases c<;>simp only[giveC] at h⊢
 case ref r=>
  split at h<;>try cases h
  rename_i h1
  obtain⟨h2,h3⟩:=giveI_same (O':=O') h1
  exact⟨h2,fun b=>by rw[h3 b]⟩
 all_goals
  simp only[Option.some.injEq,Prod.mk.injEq] at h⊢
  obtain⟨rfl,rfl⟩:=h
  exact⟨⟨fun _=>id,rfl⟩,fun _=>⟨rfl,rfl⟩⟩
theorem giveCs_same {a:Nat}:∀ {l l':List CV} {g g':Give},giveCs O a g l=some (l',g')→(idsOf g.T⊆idsOf g'.T∧g'.rd=g.rd)∧(Same O O' (idsOf g'.T)→giveCs O' a g l=some (l',g'))
 |[],l',g,g',h=>by
  simp only[giveCs,Option.some.injEq,Prod.mk.injEq] at h⊢
  obtain⟨rfl,rfl⟩:=h
  exact⟨⟨fun _=>id,rfl⟩,fun _=>⟨rfl,rfl⟩⟩
 |c::l,l',g,g',h=>by
  simp only[giveCs] at h⊢
  split at h<;>try cases h
  rename_i h1
  split at h<;>try cases h
  rename_i h2
  obtain⟨⟨s1,r1⟩,e1⟩:=giveC_same (O':=O') h1
  obtain⟨⟨s2,r2⟩,e2⟩:=giveCs_same h2
  refine⟨⟨fun i hi=>s2 (s1 hi),r2.trans r1⟩,fun b=>?_⟩
  rw[e1 (fun i hi=>b i (s2 hi))]
  simp only[]
  rw[e2 b]
mutual
theorem give_same {a:Nat}:∀ {v v':SV} {g g':Give},give O a g v=some (v',g')→(idsOf g.T⊆idsOf g'.T∧g'.rd=g.rd)∧(Same O O' (idsOf g'.T)→give O' a g v=some (v',g'))
 |.one c,v',g,g',h=>by
  simp only[give] at h⊢
  split at h<;>try cases h
  rename_i h1
  obtain⟨s,e⟩:=giveC_same (O':=O') h1
  exact⟨s,fun b=>by rw[e b]⟩
 |.agg c,v',g,g',h=>by
  simp only[give] at h⊢
  split at h<;>try cases h
  rename_i h1
  obtain⟨s,e⟩:=giveCs_same h1
  exact⟨s,fun b=>by rw[e b]⟩
 |.ptr p,v',g,g',h=>by
  simp only[give] at h⊢
  split at h<;>try cases h
  rename_i h1
  obtain⟨s,e⟩:=giveI_same (O':=O') h1
  exact⟨s,fun b=>by rw[e b]⟩
 |.bptr l cs,v',g,g',h=>by
  simp only[give,Option.some.injEq,Prod.mk.injEq] at h⊢
  obtain⟨rfl,rfl⟩:=h
  exact⟨⟨fun _=>id,rfl⟩,fun _=>⟨rfl,rfl⟩⟩
 |.clo f x y,v',g,g',h=>by
  simp only[give] at h⊢
  split at h<;>try cases h
  rename_i h1
  split at h<;>try cases h
  rename_i h2
  obtain⟨⟨s1,r1⟩,e1⟩:=giveL_same h1
  obtain⟨⟨s2,r2⟩,e2⟩:=giveL_same h2
  refine⟨⟨fun i hi=>s2 (s1 hi),r2.trans r1⟩,fun b=>?_⟩
  rw[e1 (fun i hi=>b i (s2 hi))]
  simp only[]
  rw[e2 b]
 |.tup _,v',g,g',h=>by simp[give] at h
 |.dead,v',g,g',h=>by simp[give] at h
theorem giveL_same {a:Nat}:∀ {l l':List SV} {g g':Give},giveL O a g l=some (l',g')→(idsOf g.T⊆idsOf g'.T∧g'.rd=g.rd)∧(Same O O' (idsOf g'.T)→giveL O' a g l=some (l',g'))
 |[],l',g,g',h=>by
  simp only[giveL,Option.some.injEq,Prod.mk.injEq] at h⊢
  obtain⟨rfl,rfl⟩:=h
  exact⟨⟨fun _=>id,rfl⟩,fun _=>⟨rfl,rfl⟩⟩
 |v::l,l',g,g',h=>by
  simp only[giveL] at h⊢
  split at h<;>try cases h
  rename_i h1
  split at h<;>try cases h
  rename_i h2
  obtain⟨⟨s1,r1⟩,e1⟩:=give_same h1
  obtain⟨⟨s2,r2⟩,e2⟩:=giveL_same h2
  refine⟨⟨fun i hi=>s2 (s1 hi),r2.trans r1⟩,fun b=>?_⟩
  rw[e1 (fun i hi=>b i (s2 hi))]
  simp only[]
  rw[e2 b]
end
theorem alias_same {g:Give} {v v':SV} (h:alias_ O g v=some v') (b:Same O O' (idsOf g.T)):alias_ O' g v=some v':=by
 unfold alias_ at h⊢
 split at h<;>try cases h
 rename_i p
 split at h<;>try cases h
 rename_i x o h1 h2
 split at h<;>try cases h
 rename_i h3
 simp only[h1]
 rw[b p.id (by simpa using h3),h2]
 simp only[h3,if_true]
theorem prep_same {ms:List Mode}:∀ {l l':List SV} {a:Nat} {g g':Give},prep O ms a g l=some (l',g')→(idsOf g.T⊆idsOf g'.T∧∀i∈g.rd,i∈g'.rd)∧(Same O O' (idsOf g'.T)→Same O O' g'.rd→prep O' ms a g l=some (l',g'))
 |[],l',a,g,g',h=>by
  simp only[prep,Option.some.injEq,Prod.mk.injEq] at h⊢
  obtain⟨rfl,rfl⟩:=h
  exact⟨⟨fun _=>id,fun _=>id⟩,fun _ _=>⟨rfl,rfl⟩⟩
 |v::l,l',a,g,g',h=>by
  simp only[prep] at h⊢
  cases hm:ms.getD a .lend with
  |lend=>
   simp only[hm] at h⊢
   split at h<;>try cases h
   rename_i h1
   split at h<;>try cases h
   rename_i h2
   obtain⟨⟨s2,r2⟩,e2⟩:=prep_same h2
   refine⟨⟨s2,fun i hi=>r2 i (List.mem_append_left _ hi)⟩,fun b c=>?_⟩
   rw[lend_same h1 (fun i hi=>c i (r2 i (List.mem_append_right _ hi)))]
   simp only[]
   rw[e2 b c]
  |io=>
   simp only[hm] at h⊢
   split at h<;>try cases h
   rename_i h1
   split at h<;>try cases h
   rename_i h2
   obtain⟨⟨s1,r1⟩,e1⟩:=give_same h1
   obtain⟨⟨s2,r2⟩,e2⟩:=prep_same h2
   refine⟨⟨fun i hi=>s2 (s1 hi),fun i hi=>r2 i (by rw[r1]; exact hi)⟩,fun b c=>?_⟩
   rw[e1 (fun i hi=>b i (s2 hi))]
   simp only[]
   rw[e2 b c]
  |nl=>
   simp only[hm] at h⊢
   split at h<;>try cases h
   split at h<;>try cases h
   rename_i h2
   obtain⟨⟨s2,r2⟩,e2⟩:=prep_same h2
   refine⟨⟨s2,r2⟩,fun b c=>?_⟩
   rw[e2 b c]
  |eat=>
   simp only[hm] at h⊢
   split at h<;>try cases h
   rename_i h1
   split at h<;>try cases h
   rename_i h2
   obtain⟨⟨s1,r1⟩,e1⟩:=give_same h1
   obtain⟨⟨s2,r2⟩,e2⟩:=prep_same h2
   refine⟨⟨fun i hi=>s2 (s1 hi),fun i hi=>r2 i (by rw[r1]; exact hi)⟩,fun b c=>?_⟩
   rw[e1 (fun i hi=>b i (s2 hi))]
   simp only[]
   rw[e2 b c]
  |al=>
   simp only[hm] at h⊢
   split at h<;>try cases h
   rename_i h1
   split at h<;>try cases h
   rename_i h2
   obtain⟨⟨s2,r2⟩,e2⟩:=prep_same h2
   refine⟨⟨s2,r2⟩,fun b c=>?_⟩
   rw[alias_same h1 (fun i hi=>b i (s2 hi))]
   simp only[]
   rw[e2 b c]
theorem callee_same {F:FuncId→Option VFun} {S S':Nat→SV} {v:VOp} {f:FuncId} {vs:List SV} {g:Give} (h:callee F S O v=some (f,vs,g)) (hs:SameS S S' v.uses) (a:Same O O' g.rd) (b:Same O O' (idsOf g.T)):callee F S' O' v=some (f,vs,g):=by
 cases v<;>simp only[callee,reduceCtorEq] at h⊢
 case call f' args=>
  simp only[VOp.uses] at hs
  rw[map_same hs]
  split at h<;>try cases h
  rename_i h1
  split at h<;>try cases h
  rename_i h2
  rw[(prep_same h1).2 b a]
  simp only[if_pos h2]
 case callv x args=>
  simp only[VOp.uses] at hs
  rw[map_same (l:=args) (fun i hi=>hs i (List.mem_append_right _ hi)),evx_same (x:=x) (fun i hi=>hs i (List.mem_append_left _ hi))]
  split at h<;>try cases h
  split at h<;>try cases h
  rename_i h1
  split at h<;>try cases h
  rename_i h2
  rw[(prep_same h1).2 b a]
  simp only[if_pos h2]
theorem refill_same {T T':List (Id × OS)} {i:Id} {p:Path} {k:Nat} {rows} (h:refill O T i p k rows=some T'):idsOf T⊆idsOf T'∧(Same O O' (idsOf T')→refill O' T i p k rows=some T'):=by
 have h':=h
 unfold refill at h
 have:∃x,T'=(i,x)::T:=by
  split at h
  ·split at h<;>try cases h
   exact⟨_,rfl⟩
  ·split at h<;>try cases h
   exact⟨_,rfl⟩
 obtain⟨x,rfl⟩:=this
 refine⟨fun j hj=>List.mem_cons_of_mem _ hj,fun b=>?_⟩
 unfold refill at h'⊢
 rw[ov_same (b i (by simp[idsOf])),b i (by simp[idsOf])]
 exact h'
theorem refills_same:∀ {items:List GItem} {outs:List (List (List D))} {T T':List (Id × OS)},refills O T items outs=some T'→idsOf T⊆idsOf T'∧(Same O O' (idsOf T')→refills O' T items outs=some T')
 |[],[],T,T',h=>by
  simp only[refills,Option.some.injEq] at h⊢; subst h
  exact⟨fun _=>id,fun _=>rfl⟩
 |[],_::_,T,T',h=>by simp[refills] at h
 |_::_,[],T,T',h=>by simp[refills] at h
 |x::l,rows::n,T,T',h=>by
  simp only[refills] at h⊢
  split at h<;>try cases h
  rename_i h1
  obtain⟨s1,e1⟩:=refill_same (O':=O') h1
  obtain⟨s2,e2⟩:=refills_same h
  refine⟨fun i hi=>s2 (s1 hi),fun b=>?_⟩
  rw[e1 (fun i hi=>b i (s2 hi))]
  exact e2 b
theorem importR_same {dst c:Nat} {T T':List (Id × OS)} {r:Ret} {v is} (h:importR O dst c T r=some (v,T',is)) (b:Same O O' is):importR O' dst c T r=some (v,T',is):=by
 cases r<;>simp only[importR] at h⊢
 case one d=>
  split at h<;>try cases h
  rename_i h1
  rw[importC_same h1 b]
 case agg ds=>
  split at h<;>try cases h
  rename_i h1
  rw[importCs_same h1 b]
 case ptr ds=>
  split at h<;>try cases h
  rename_i h1
  rw[newId_same b,h1]
theorem importRs_same {dst:Nat}:∀ {l:List Ret} {c:Nat} {T T':List (Id × OS)} {v is},importRs O dst c T l=some (v,T',is)→Same O O' is→importRs O' dst c T l=some (v,T',is)
 |[],_,_,_,_,_,h,_=>h
 |d::l,c,T,T',v,is,h,b=>by
  simp only[importRs] at h⊢
  split at h<;>try cases h
  rename_i h1
  split at h<;>try cases h
  rename_i h2
  rw[importR_same h1 (fun i hi=>b i (by simp[hi]))]
  simp only[]
  rw[importRs_same h2 (fun i hi=>b i (by simp[hi]))]
theorem importR_sub {dst c:Nat} {T T':List (Id × OS)} {r:Ret} {v is} (h:importR O dst c T r=some (v,T',is)):idsOf T⊆idsOf T':=by
 cases r<;>simp only[importR] at h
 case one d=>
  split at h<;>try cases h
  rename_i h1
  exact importC_sub h1
 case agg ds=>
  split at h<;>try cases h
  rename_i h1
  exact importCs_sub h1
 case ptr ds=>
  split at h<;>try cases h
  exact fun i hi=>List.mem_cons_of_mem _ hi
theorem importRs_sub {dst:Nat}:∀ {l:List Ret} {c:Nat} {T T':List (Id × OS)} {v is},importRs O dst c T l=some (v,T',is)→idsOf T⊆idsOf T'
 |[],_,_,_,_,_,h=>by simp only[importRs,Option.some.injEq,Prod.mk.injEq] at h; rw[h.2.1]; exact fun _=>id
 |d::l,c,T,T',v,is,h=>by
  simp only[importRs] at h
  split at h<;>try cases h
  rename_i h1
  split at h<;>try cases h
  rename_i h2
  exact fun i hi=>importRs_sub h2 (importR_sub h1 hi)
theorem behind_same {ms:List Mode} {g:Give} {dst:Option Nat} {outs rets e} (h:behind O ms g dst outs rets=some e):(e.rd=g.rd∧∀i∈idsOf g.T,i∈e.wr)∧(Same O O' e.wr→behind O' ms g dst outs rets=some e):=by
 unfold behind at h⊢
 split at h<;>try cases h
 rename_i h1
 obtain⟨s1,e1⟩:=refills_same (O':=O') h1
 split at h
 ·simp only[Option.some.injEq] at h
  subst h
  exact⟨⟨rfl,fun i hi=>s1 hi⟩,fun b=>by rw[e1 b]⟩
 ·split at h<;>try cases h
  rename_i h2
  refine⟨⟨rfl,fun i hi=>List.mem_append_right _ (importRs_sub h2 (s1 hi))⟩,fun b=>?_⟩
  rw[e1 (fun i hi=>b i (List.mem_append_right _ (importRs_sub h2 hi)))]
  simp only[]
  rw[importRs_same h2 (fun i hi=>b i (List.mem_append_left _ hi))]
end
end Go.Proofs.YtmdocdnidilaiaaGreat.V
