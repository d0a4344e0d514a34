/- V: a region, in the text's order or in any that the program allows. -/
import Derived.Test.YtmdocdnidilaiaaGreatVStep
import Derived.Test.YtmdocdnidilaiaaGreatVRes
import Derived.Test.YtmdocdnidilaiaaGreatVClean
import Derived.Test.YtmdocdnidilaiaaGreatVLocal
import Derived.Test.YtmdocdnidilaiaaGreatVLoad
import Derived.Orders
import Derived.Tactics
namespace Go.Proofs.YtmdocdnidilaiaaGreat.V
open Go Frag Go.RowKit
def Eff?.sv:Option Eff→SV
 |some e=>e.sv
 |none=>.tup []
def Eff?.objs:Option Eff→List (Id × OS)
 |some e=>e.objs
 |none=>[]
def Eff?.rd:Option Eff→List Id
 |some e=>e.rd
 |none=>[]
def Eff?.wr:Option Eff→List Id
 |some e=>e.wr
 |none=>[]
def Eff?.lb (o:VO):Option Eff→List Id
 |some e=>lbOf o.op e
 |none=>[]
def Eff?.to (o:VO):Option Eff→List Id
 |some e=>toOf o.op e
 |none=>[]
inductive Step1 (P:Program) (F:FuncId→Option VFun) (S:Nat→SV) (O:Id→OS) (o:VO):Option Eff→Prop
 |off:wanted S o.guard=some false→Step1 P F S O o none
 |op {e}:wanted S o.guard=some true→pstep S O (o.dst.getD 0) o.op=some e→e.req→Step1 P F S O o (some e)
 |opc {f vs g os rs e}:wanted S o.guard=some true→callee F S O o.op=some (f,vs,g)→CallOK P f vs g.objs (g.objs.filter (keepP (modesOf F f))) os rs→behind O (modesOf F f) g o.dst os rs=some e→Step1 P F S O o (some e)
def St.nx (σ:St) (o:VO) (x:Option Eff):St:=σ.upd o.dst (Eff?.sv x) (Eff?.objs x)
def VO.looks (o:VO):List Nat:=o.op.uses++(match o.guard with | some (s,_)=>[s] | none=>[])
theorem newId_both {O:Id→OS} {d c:Nat} {i:Id} (h:newId O d c=some i):i∈both d c:=by
 unfold newId at h
 split at h
 ·injection h with h; subst h; simp[both]
 ·split at h
  ·injection h with h; subst h; simp[both]
  ·cases h
theorem made_wr {O:Id→OS} {T:List (Id × OS)} {dst:Nat} {o sv req rd e} (h:made O T dst o sv req rd=some e):∀i∈idsOf e.objs,i∈e.wr:=by
 unfold made at h
 split at h
 ·rename_i h1
  simp only[Option.some.injEq] at h
  subst h
  intro i hi
  simp only[idsOf,List.map_cons,List.mem_cons] at hi
  rcases hi with rfl | hi
  ·exact List.mem_append_left _ (newId_both h1)
  ·exact List.mem_append_right _ hi
 ·cases h
theorem okE_wr {sv:SV} {e:Eff} (h:okE sv=some e):∀i∈idsOf e.objs,i∈e.wr:=by
 obtain⟨_,h2⟩:=eff_pure h
 rw[h2]; simp[idsOf]
theorem none_wr {r:Prop} {sv:SV} {rd wr}:∀i∈idsOf (Eff.mk r sv [] rd wr).objs,i∈(Eff.mk r sv [] rd wr).wr:=by simp[idsOf]
theorem intE_wr {op k a b e} (h:intE op k a b=some e):∀i∈idsOf e.objs,i∈e.wr:=by
 unfold intE at h
 split at h<;>first | exact okE_wr h |(injection h with h; subst h; exact none_wr) | cases h
theorem strE_wr {op a b e} (h:strE op a b=some e):∀i∈idsOf e.objs,i∈e.wr:=by
 unfold strE at h
 split at h<;>first | exact okE_wr h |(injection h with h; subst h; exact none_wr) | cases h
theorem shiftE_wr {op k a b e} (h:shiftE op k a b=some e):∀i∈idsOf e.objs,i∈e.wr:=by
 unfold shiftE at h
 split at h<;>first | exact okE_wr h |(injection h with h; subst h; exact none_wr) | cases h
theorem asgE_wr {O:Id→OS} {t dst:Nat} {v:SV} {e} (h:asgE O dst t v=some e):∀i∈idsOf e.objs,i∈e.wr:=by
 cases v with
 |one c=>
  simp only[asgE,Option.some.injEq] at h
  subst h
  intro i hi; exact List.mem_append_left _ hi
 |agg cs=>
  simp only[asgE,Option.some.injEq] at h
  subst h
  intro i hi; exact List.mem_append_left _ hi
 |ptr p=>
  simp only[asgE] at h
  split at h
  ·split at h<;>try cases h
   rename_i h1 h2 h3
   intro i hi
   simp only[idsOf,List.map_cons,List.map_nil,List.mem_cons,List.not_mem_nil,or_false] at hi
   rcases hi with rfl | rfl
   ·exact List.mem_cons_of_mem _ (newId_both h3)
   ·simp
  ·exact okE_wr h
 |dead=>simp[asgE] at h
 |bptr l cs=>exact okE_wr h
 |tup vs=>exact okE_wr h
 |clo f a b=>exact okE_wr h
theorem moves_sub {O:Id→OS} {k:Id}:∀ {cs:List CV} {T T':List (Id × OS)} {ds} {n:Nat},takeCs O T cs=some (ds,T')→∀i∈(movesOf k n cs).map (·.1),i∈idsOf T'
 |[],T,T',ds,n,h,i,hi=>by simp[movesOf] at hi
 |c::cs,T,T',ds,n,h,i,hi=>by
  simp only[takeCs] at h
  split at h<;>try cases h
  rename_i h1
  split at h<;>try cases h
  rename_i h2
  have ih:=fun hi=>moves_sub (k:=k) (n:=n+1) h2 i hi
  cases c<;>simp only[movesOf] at hi
  case ref r=>
   split at hi
   ·rcases List.mem_cons.1 hi with rfl | hi
    ·refine takeCs_sub' h2 ?_
     simp only[takeC] at h1
     split at h1<;>try cases h1
     rename_i h3
     obtain⟨x,rfl⟩:=takeR_mem h3
     simp[idsOf]
    ·exact ih hi
   ·exact ih hi
  all_goals exact ih hi
theorem pstep_wr {S:Nat→SV} {O:Id→OS} {d:Nat} {v:VOp} {e:Eff} (h:pstep S O d v=some e):∀i∈idsOf e.objs,i∈e.wr:=by
 cases v<;>simp only[pstep] at h
 case asgn x=>
  split at h
  ·split at h<;>try cases h
   split at h<;>try cases h
   exact fun i hi=>List.mem_append_right _ hi
  ·split at h<;>try cases h
   split at h<;>try cases h
   exact fun i hi=>List.mem_append_right _ hi
  ·cases h
 case asg x=>
  cases x with
  |t n=>
   simp only[] at h
   split at h
   ·cases h
   ·exact asgE_wr h
  |c v=>
   simp only[] at h
   split at h
   ·exact okE_wr h
   ·cases h
  |n k=>exact okE_wr h
  |f f=>exact okE_wr h
 case bin b op t x y=>
  unfold binE at h
  split at h
  ·split at h
   ·exact shiftE_wr h
   ·split at h
    ·exact intE_wr h
    ·cases h
  ·split at h
   ·split at h<;>first | exact okE_wr h | cases h
   ·cases h
  ·exact strE_wr h
  ·cases h
 case un=>
  unfold unE at h
  split at h
  ·split at h<;>first | exact okE_wr h | cases h
  ·split at h<;>first | exact okE_wr h | cases h
  ·cases h
 case box=>
  split at h<;>try cases h
  rename_i cs _
  split at h<;>try cases h
  rename_i ds T ht
  split at h<;>try cases h
  rename_i e0 he0
  have h0:=made_wr he0
  unfold made at he0
  split at he0<;>try cases he0
  intro i hi
  simp only[boxE,idsOf,List.map_cons,List.map_append,List.mem_cons,List.mem_append] at hi⊢
  rcases hi with rfl | hi | hi
  ·have:=h0 _ (by simp only[idsOf,List.map_cons,List.mem_cons]; exact .inl rfl)
   simpa[idsOf] using this
  ·right
   have:=moves_sub ht i hi
   simpa[idsOf] using this
  ·right
   simpa[idsOf] using hi
 case store=>
  split at h<;>try cases h
  split at h<;>try cases h
  split at h<;>try cases h
  split at h<;>try cases h
  intro i hi
  exact List.mem_append_left _ (by simpa[idsOf] using hi)
 all_goals
  first
   |exact okE_wr h
   |exact made_wr h
   |(repeat' split at h)<;>first | exact okE_wr h | exact made_wr h |(injection h with h; subst h; exact none_wr) |(cases h; done) |(simp at h; done)
theorem behind_wr {O:Id→OS} {ms:List Mode} {g:Give} {dst:Option Nat} {outs rets e} (h:behind O ms g dst outs rets=some e):∀i∈idsOf e.objs,i∈e.wr:=by
 unfold behind at h
 split at h<;>try cases h
 split at h
 ·injection h with h; subst h; exact fun i hi=>hi
 ·split at h<;>try cases h
  exact fun i hi=>List.mem_append_right _ hi
theorem giveI_nomove {O:Id→OS} {a:Nat} {g g':Give} {i c:Id} {q:Path} (h:giveI O a g i q=some (c,g')) (hT:NoMove g.T):NoMove g'.T:=by
 unfold giveI at h
 split at h<;>try cases h
 split at h<;>try cases h
 split at h<;>try cases h
 split at h<;>try cases h
 exact hT.cons (hollow_nomove _ _)
theorem giveC_nomove {O:Id→OS} {a:Nat} {g g':Give} {c c':CV} (h:giveC O a g c=some (c',g')) (hT:NoMove g.T):NoMove g'.T:=by
 cases c<;>simp only[giveC] at h
 case ref r=>
  split at h<;>try cases h
  rename_i h1
  exact giveI_nomove h1 hT
 all_goals (simp only[Option.some.injEq,Prod.mk.injEq] at h; rw[← h.2]; exact hT)
theorem giveCs_nomove {O:Id→OS} {a:Nat}:∀ {l l':List CV} {g g':Give},giveCs O a g l=some (l',g')→NoMove g.T→NoMove g'.T
 |[],l',g,g',h,hT=>by simp only[giveCs,Option.some.injEq,Prod.mk.injEq] at h; rw[← h.2]; exact hT
 |c::l,l',g,g',h,hT=>by
  simp only[giveCs] at h
  split at h<;>try cases h
  rename_i h1
  split at h<;>try cases h
  rename_i h2
  exact giveCs_nomove h2 (giveC_nomove h1 hT)
mutual
theorem give_nomove {O:Id→OS} {a:Nat}:∀ {v v':SV} {g g':Give},give O a g v=some (v',g')→NoMove g.T→NoMove g'.T
 |.one c,v',g,g',h,hT=>by
  simp only[give] at h
  split at h<;>try cases h
  rename_i h1
  exact giveC_nomove h1 hT
 |.agg c,v',g,g',h,hT=>by
  simp only[give] at h
  split at h<;>try cases h
  rename_i h1
  exact giveCs_nomove h1 hT
 |.ptr p,v',g,g',h,hT=>by
  simp only[give] at h
  split at h<;>try cases h
  rename_i h1
  exact giveI_nomove h1 hT
 |.bptr l cs,v',g,g',h,hT=>by simp only[give,Option.some.injEq,Prod.mk.injEq] at h; rw[← h.2]; exact hT
 |.clo f x y,v',g,g',h,hT=>by
  simp only[give] at h
  split at h<;>try cases h
  rename_i h1
  split at h<;>try cases h
  rename_i h2
  exact giveL_nomove h2 (giveL_nomove h1 hT)
 |.tup _,v',g,g',h,_=>by simp[give] at h
 |.dead,v',g,g',h,_=>by simp[give] at h
theorem giveL_nomove {O:Id→OS} {a:Nat}:∀ {l l':List SV} {g g':Give},giveL O a g l=some (l',g')→NoMove g.T→NoMove g'.T
 |[],l',g,g',h,hT=>by simp only[giveL,Option.some.injEq,Prod.mk.injEq] at h; rw[← h.2]; exact hT
 |v::l,l',g,g',h,hT=>by
  simp only[giveL] at h
  split at h<;>try cases h
  rename_i h1
  split at h<;>try cases h
  rename_i h2
  exact giveL_nomove h2 (give_nomove h1 hT)
end
theorem prep_nomove {O:Id→OS} {ms:List Mode}:∀ {l l':List SV} {a:Nat} {g g':Give},prep O ms a g l=some (l',g')→NoMove g.T→NoMove g'.T
 |[],l',a,g,g',h,hT=>by simp only[prep,Option.some.injEq,Prod.mk.injEq] at h; rw[← h.2]; exact hT
 |v::l,l',a,g,g',h,hT=>by
  simp only[prep] at h
  split at h
  ·split at h<;>try cases h
   split at h<;>try cases h
   rename_i h2
   exact prep_nomove (g:={g with rd:=_}) h2 hT
  ·split at h<;>try cases h
   rename_i h1
   split at h<;>try cases h
   rename_i h2
   exact prep_nomove h2 (give_nomove h1 hT)
  ·split at h<;>try cases h
   split at h<;>try cases h
   rename_i h2
   exact prep_nomove h2 hT
  ·split at h<;>try cases h
   rename_i h1
   split at h<;>try cases h
   rename_i h2
   exact prep_nomove h2 (give_nomove h1 hT)
  ·split at h<;>try cases h
   split at h<;>try cases h
   rename_i h2
   exact prep_nomove h2 hT
theorem refills_nomove {O:Id→OS}:∀ {items:List GItem} {outs:List (List (List D))} {T T':List (Id × OS)},refills O T items outs=some T'→NoMove T→NoMove T'
 |[],[],T,T',h,hT=>by simp only[refills,Option.some.injEq] at h; rw[← h]; exact hT
 |[],_::_,T,T',h,_=>by simp[refills] at h
 |_::_,[],T,T',h,_=>by simp[refills] at h
 |x::l,rows::n,T,T',h,hT=>by
  simp only[refills] at h
  split at h<;>try cases h
  rename_i h1
  refine refills_nomove h ?_
  unfold refill at h1
  split at h1
  ·split at h1<;>try cases h1
   exact hT.cons (by simp)
  ·split at h1<;>try cases h1
   exact hT.cons (by simp)
theorem importRs_nomove {O:Id→OS} {dst:Nat}:∀ {l:List Ret} {c:Nat} {T T':List (Id × OS)} {v is},importRs O dst c T l=some (v,T',is)→NoMove T→NoMove T'
 |[],_,_,_,_,_,h,hT=>by simp only[importRs,Option.some.injEq,Prod.mk.injEq] at h; rw[← h.2.1]; exact hT
 |r::l,c,T,T',v,is,h,hT=>by
  simp only[importRs] at h
  split at h<;>try cases h
  rename_i h1
  split at h<;>try cases h
  rename_i h2
  refine importRs_nomove h2 ?_
  cases r<;>simp only[importR] at h1
  case one d=>
   split at h1<;>try cases h1
   rename_i h3
   exact importC_nomove h3 hT
  case agg ds=>
   split at h1<;>try cases h1
   rename_i h3
   exact importCs_nomove h3 hT
  case ptr ds=>
   split at h1<;>try cases h1
   exact hT.cons (by simp)
theorem behind_nomove {O:Id→OS} {ms:List Mode} {g:Give} {dst:Option Nat} {outs rets e} (h:behind O ms g dst outs rets=some e) (hT:NoMove g.T):NoMove e.objs:=by
 unfold behind at h
 split at h<;>try cases h
 rename_i h1
 have h2:=refills_nomove h1 hT
 split at h
 ·simp only[Option.some.injEq] at h; subst h; exact h2
 ·split at h<;>try cases h
  rename_i h3
  exact importRs_nomove h3 h2
section
variable {P:Program} {F:FuncId→Option VFun}
theorem Step1.wr {S O o x} (h:Step1 P F S O o x):∀i∈idsOf (Eff?.objs x),i∈Eff?.wr x:=by
 cases h with
 |off=>simp[Eff?.objs,idsOf]
 |op _ h _=>exact pstep_wr h
 |opc _ _ _ h=>exact behind_wr h
theorem wanted_same {S S':Nat→SV} {o:VO} (h:SameS S S' o.looks):wanted S' o.guard=wanted S o.guard:=by
 unfold VO.looks at h
 cases hg:o.guard with
 |none=>rfl
 |some g=>
  obtain⟨s,b⟩:=g
  rw[hg] at h
  simp only[wanted]
  rw[h s (by simp)]
theorem Step1.local {S S' O O' o x} (h:Step1 P F S O o x) (hs:SameS S S' o.looks) (a:Same O O' (Eff?.rd x)) (b:Same O O' (Eff?.wr x)):Step1 P F S' O' o x:=by
 have hw:=wanted_same hs
 have hu:SameS S S' o.op.uses:=fun i hi=>hs i (List.mem_append_left _ hi)
 cases h with
 |off h=>exact .off (by rw[hw]; exact h)
 |op h1 h2 h3=>exact .op (by rw[hw]; exact h1) (by rw[pstep_sameS hu]; exact pstep_sameO h2 a b) h3
 |opc h1 h2 h3 h4=>
  obtain⟨⟨r1,r2⟩,r3⟩:=behind_same (O':=O') h4
  refine .opc (by rw[hw]; exact h1) (callee_same h2 hu ?_ ?_) h3 (r3 b)
  ·rw[← r1]; exact a
  ·exact fun i hi=>b i (r2 i hi)
theorem Step1.nocall {S O o f vs g} {e:Eff} (h2:callee F S O o=some (f,vs,g)):toOf o e=[]∧lbOf o e=[]:=by
 unfold callee at h2
 split at h2
 ·exact⟨rfl,rfl⟩
 ·exact⟨rfl,rfl⟩
 ·cases h2
theorem Step1.to {S O o x i} (h:Step1 P F S O o x) (hl:i.2.2 < 2) (hi:i∈Eff?.to o x):∃p,HolR p (O i) (ov O (Eff?.objs x) i):=by
 cases h with
 |off=>cases hi
 |op _ h _=>exact toOf_ok h hl hi
 |opc _ h2 _ _=>simp only[Eff?.to,(Step1.nocall h2).1] at hi; cases hi
theorem Step1.toS {S O o x i} (h:Step1 P F S O o x) (hi:shI i∈Eff?.to o x):ScaS (O i) (ov O (Eff?.objs x) i):=by
 cases h with
 |off=>cases hi
 |op _ h _=>exact toOf_sca h hi
 |opc _ h2 _ _=>simp only[Eff?.to,(Step1.nocall h2).1] at hi; cases hi
theorem Step1.soft {S S' O O' o x} (h:Step1 P F S O o x) (hs:SameS S S' o.looks) (a:∀i∈Eff?.rd x,O' i=O i∨(i.2.2 < 2∧i∈Eff?.lb o x∧∃p,HolR p (O i) (O' i)∨HolR p (O' i) (O i))∨(shI i∈Eff?.lb o x∧ScaS (O i) (O' i))) (b:Same O O' (Eff?.wr x)):Step1 P F S' O' o x:=by
 by_cases hall:∀i∈Eff?.rd x,O' i=O i
 ·exact h.local hs hall b
 ·obtain⟨i,hi,hne⟩:∃i,i∈Eff?.rd x∧O' i≠O i:=by
   apply Classical.byContradiction
   intro hno
   exact hall fun i hi=>Classical.byContradiction fun hne=>hno ⟨i,hi,hne⟩
  have hw:=wanted_same hs
  have hu:SameS S S' o.op.uses:=fun i hi=>hs i (List.mem_append_left _ hi)
  rcases(a i hi).resolve_left hne with⟨hl,hlb,hR⟩ |⟨hlb,hR⟩<;>cases h with
  |off h=>cases hi
  |op h1 h2 h3=>
   first
    |exact .op (by rw[hw]; exact h1) (by rw[pstep_sameS hu]; exact(load_soft h2 hl hlb hR).1) h3
    |exact .op (by rw[hw]; exact h1) (by rw[pstep_sameS hu]; exact sca_soft h2 hlb hR) h3
  |opc _ h2 _ _=>simp only[Eff?.lb,(Step1.nocall h2).2] at hlb; cases hlb
structure Apart (o:VO) (x:Option Eff) (o':VO) (x':Option Eff):Prop where
 s1:∀d,o.dst=some d→d∉o'.looks∧o'.dst≠some d
 s2:∀d,o'.dst=some d→d∉o.looks
 i1:∀i∈Eff?.wr x,(i∈Eff?.rd x'→Soft (Eff?.to o x) (Eff?.lb o' x') i)∧i∉Eff?.wr x'
 i2:∀i∈Eff?.wr x',i∈Eff?.rd x→Soft (Eff?.to o' x') (Eff?.lb o x) i
def Like (σ τ:St):Prop:=τ.slot=σ.slot∧τ.obj=σ.obj
theorem Like.rfl' {σ:St}:Like σ σ:=⟨rfl,rfl⟩
theorem Like.trans {a b c:St} (h:Like a b) (k:Like b c):Like a c:=⟨k.1.trans h.1,k.2.trans h.2⟩
theorem Like.nx {σ τ:St} (h:Like σ τ) (o:VO) (x:Option Eff):Like (σ.nx o x) (τ.nx o x):=by
 constructor
 ·funext i
  simp only[St.nx,slot_upd,h.1]
 ·simp only[St.nx,obj_upd,h.2]
theorem Rel.like {H w0 K σ τ a w hv G} (R:Rel H w0 K σ a w hv G) (h:Like σ τ):Rel H w0 K τ a w hv G:=by
 obtain⟨h1,h2,h3,h4,h5⟩:=R
 refine⟨?_,?_,h3,h4,?_⟩
 ·rw[h.1,h.2]; exact h1
 ·rw[h.2]; exact h2
 ·rw[h.2]; exact h5
theorem Step1.like {σ τ:St} (h:Like σ τ) {o x} (s:Step1 P F σ.slot σ.obj o x):Step1 P F τ.slot τ.obj o x:=by rw[h.1,h.2]; exact s
theorem ov_out {O:Id→OS}:∀ {T:List (Id × OS)} {i:Id},i∉idsOf T→ov O T i=O i
 |[],_,_=>rfl
 |(j,x)::T,i,h=>by
  simp only[idsOf,List.map_cons,List.mem_cons,not_or] at h
  simp only[ov,getA,if_neg (Ne.symm h.1)]
  exact ov_out h.2
theorem ov_in {O O':Id→OS}:∀ {T:List (Id × OS)} {i:Id},i∈idsOf T→ov O T i=ov O' T i
 |(j,x)::T,i,h=>by
  simp only[ov,getA]
  by_cases e:j=i
  ·simp[e]
  ·simp only[if_neg e]
   simp only[idsOf,List.map_cons,List.mem_cons] at h
   exact ov_in (h.resolve_left (Ne.symm e))
theorem swap {σ:St} {o x o' x'} (h:Step1 P F σ.slot σ.obj o x) (h':Step1 P F (σ.nx o x).slot (σ.nx o x).obj o' x') (A:Apart o x o' x'):
  Step1 P F σ.slot σ.obj o' x'∧Step1 P F (σ.nx o' x').slot (σ.nx o' x').obj o x∧Like ((σ.nx o x).nx o' x') ((σ.nx o' x').nx o x):=by
 have k1:Step1 P F σ.slot σ.obj o' x':=by
  refine h'.soft (fun i hi=>?_) (fun i hi=>?_) (fun i hi=>?_)
  ·simp only[St.nx,slot_upd]
   rw[if_neg (fun e=>(A.s1 i e).1 hi)]
  ·simp only[St.nx,obj_upd]
   by_cases hm:i∈idsOf (Eff?.objs x)
   ·rcases(A.i1 i (h.wr i hm)).1 hi with⟨h0,h1,h2⟩ |⟨h1,h2⟩
    ·obtain⟨p,hp⟩:=h.to h0 h1
     exact .inr (.inl ⟨h0,h2,p,.inr hp⟩)
    ·exact .inr (.inr ⟨h2,(h.toS h1).symm⟩)
   ·exact .inl (ov_out hm).symm
  ·simp only[St.nx,obj_upd]
   exact(ov_out fun hm=>(A.i1 i (h.wr i hm)).2 hi).symm
 refine⟨k1,?_,?_,?_⟩
 ·refine h.soft (fun i hi=>?_) (fun i hi=>?_) (fun i hi=>?_)
  ·simp only[St.nx,slot_upd]
   rw[if_neg (fun e=>A.s2 i e hi)]
  ·simp only[St.nx,obj_upd]
   by_cases hm:i∈idsOf (Eff?.objs x')
   ·rcases A.i2 i (k1.wr i hm) hi with⟨h0,h1,h2⟩ |⟨h1,h2⟩
    ·obtain⟨p,hp⟩:=k1.to h0 h1
     exact .inr (.inl ⟨h0,h2,p,.inl hp⟩)
    ·exact .inr (.inr ⟨h2,k1.toS h1⟩)
   ·exact .inl (ov_out hm)
  ·simp only[St.nx,obj_upd]
   exact ov_out fun hm=>(A.i1 i hi).2 (k1.wr i hm)
 ·funext i
  simp only[St.nx,slot_upd]
  by_cases e1:o.dst=some i
  ·rw[if_pos e1,if_neg (A.s1 i e1).2,if_pos e1]
  ·rw[if_neg e1,if_neg e1]
 ·funext i
  simp only[St.nx,obj_upd]
  by_cases e1:i∈idsOf (Eff?.objs x)
  ·have e2:i∉idsOf (Eff?.objs x'):=fun hm=>(A.i1 i (h.wr i e1)).2 (k1.wr i hm)
   rw[ov_out e2]
   exact ov_in e1
  ·rw[ov_out e1]
   by_cases e2:i∈idsOf (Eff?.objs x')
   ·exact ov_in e2
   ·rw[ov_out e2,ov_out e2,ov_out e1]
def Chain (P:Program) (F:FuncId→Option VFun):St→List (Nat × VO × Option Eff)→Prop
 |_,[]=>True
 |σ,y::l=>Step1 P F σ.slot σ.obj y.2.1 y.2.2∧Chain P F (σ.nx y.2.1 y.2.2) l
def endOf:St→List (Nat × VO × Option Eff)→St
 |σ,[]=>σ
 |σ,y::l=>endOf (σ.nx y.2.1 y.2.2) l
theorem Chain.like:∀ {l:List (Nat × VO × Option Eff)} {σ τ:St},Like σ τ→Chain P F σ l→Chain P F τ l∧Like (endOf σ l) (endOf τ l)
 |[],_,_,h,_=>⟨trivial,h⟩
 |y::l,σ,τ,h,⟨h1,h2⟩=>by
  obtain⟨a,b⟩:=Chain.like (h.nx y.2.1 y.2.2) h2
  exact⟨⟨h1.like h,a⟩,b⟩
theorem pull {y:Nat × VO × Option Eff} {L2:List (Nat × VO × Option Eff)}:∀ {L1:List (Nat × VO × Option Eff)} {σ:St},Chain P F σ (L1++y::L2)→(∀x∈L1,Apart x.2.1 x.2.2 y.2.1 y.2.2)→
  Chain P F σ (y::(L1++L2))∧Like (endOf σ (L1++y::L2)) (endOf σ (y::(L1++L2)))
 |[],σ,h,_=>⟨h,Like.rfl'⟩
 |x::L1,σ,⟨h1,h2⟩,ha=>by
  obtain⟨⟨p1,p2⟩,p3⟩:=pull h2 (fun z hz=>ha z (List.mem_cons_of_mem _ hz))
  obtain⟨s1,s2,s3⟩:=swap h1 p1 (ha x (List.mem_cons_self ..))
  obtain⟨q1,q2⟩:=Chain.like s3 p2
  exact⟨⟨s1,s2,q1⟩,Like.trans p3 q2⟩
end
end Go.Proofs.YtmdocdnidilaiaaGreat.V
