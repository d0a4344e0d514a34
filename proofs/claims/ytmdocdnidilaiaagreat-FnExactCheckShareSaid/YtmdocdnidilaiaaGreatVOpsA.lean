/- V: which operation is which; the operations that only compute or look. -/
import Derived.Test.YtmdocdnidilaiaaGreatVRel
import Derived.Tactics
namespace Go.Proofs.YtmdocdnidilaiaaGreat.V
open Go Frag Go.RowKit
def vEq:Value→Value→Bool
 |.bool a,.bool b=>a==b
 |.int k a,.int k' b=>decide (k=k') && a==b
 |.string a,.string b=>decide (a=b)
 |.pointer none,.pointer none=>true
 |.nilFunc,.nilFunc=>true
 |.nilIface,.nilIface=>true
 |_,_=>false
theorem vEq_eq {a b:Value} (h:vEq a b=true):a=b∧flat a=true:=by
 unfold vEq at h
 split at h<;>simp_all [flat]
def mX:VX→Operand→Bool
 |.t n,.tmp m=>n==m
 |.c v,.const u=>vEq v u
 |.n _,.const (.slice none 0 0)=>true
 |.f f,.func g=>f==g
 |_,_=>false
def mXs:List VX→List Operand→Bool
 |[],[]=>true
 |x::l,y::m=>mX x y && mXs l m
 |_,_=>false
def mXo:Option VX→Option Operand→Bool
 |none,none=>true
 |some x,some y=>mX x y
 |_,_=>false
section
variable {H:Nat→Frag} {w0:World} {K:Nat→Nat→Option Value} {σ:St} {a:Act} {w:World} {hv:Id→Value} {G:Id→Frag}
theorem Rel.evx (R:Rel H w0 K σ a w hv G) {x:VX} {y:Operand} (h:mX x y=true):SVRel ⟨H,σ.obj,hv,G⟩ (V.evx σ.slot x) (a.eval y):=by
 cases x with
 |t n=>
  cases y<;>simp[mX] at h
  subst h
  exact R.slots n
 |c v=>
  cases y<;>simp[mX] at h
  obtain⟨rfl,hf⟩:=vEq_eq h
  simp only[V.evx,hf,if_true,SVRel,CVRel,Act.eval]
  exact⟨trivial,trivial⟩
 |n k=>
  unfold mX at h
  split at h
  ·cases ‹VX.n k=_›
  ·cases ‹VX.n k=_›
  ·simp only[V.evx,SVRel,CVRel,Act.eval]; exact⟨none,rfl⟩
  ·cases ‹VX.n k=_›
  ·cases h
 |f f=>
  unfold mX at h
  split at h
  ·cases ‹VX.f f=_›
  ·cases ‹VX.f f=_›
  ·cases ‹VX.f f=_›
  ·cases ‹VX.f f=_›
   have:=eq_of_beq h; subst this
   simp only[V.evx,SVRel,SVRels,Act.eval]; exact⟨[],[],rfl,rfl,rfl⟩
  ·cases h
end
theorem cell_of {w:World} {b:Nat} {arr:Array Value} {t:TypeId} {fz:Nat × Nat} (h:w.heap[b]?=some (.cells arr t fz)) (o:Nat):w.cell? ⟨b,o,none⟩=arr[o]?:=by
 simp[World.cell?,h]
theorem addr_add (b o n:Nat):(⟨b,o,none⟩:Addr).add n=⟨b,o+n,none⟩:=by
 unfold Addr.add
 split<;>simp_all
theorem run_bind {α β:Type} (P:Program) (m:Sem α) (f:α→Sem β) (w:World):(m >>=f).run P w=match m.run P w with
  |.ok x w'=>(f x).run P w'
  |.halt h w'=>.halt h w':=by
 show (Sem.bind m f).run P w=_
 induction m generalizing w with
 |pure x=>rfl
 |load m a k ih=>
  simp only[Sem.bind,Sem.run]
  cases w.cell? a with
  |some v=>exact ih v w
  |none=>
   simp only[]
   cases w.farLoad P a (m==.atomic) with
   |ok r=>exact ih r.1 w
   |error h=>rfl
 |store m a v k ih=>
  cases v<;>simp only[Sem.bind,Sem.run]<;>first
   |rfl
   | (cases w.cell? a with
     |some u=>
      simp only[]
      split
      ·rfl
      ·exact ih _
     |none=>
      simp only[]
      split
      ·exact ih _
      ·rfl)
 |new o k ih=>simp only[Sem.bind,Sem.run]; exact ih _ _
 |shape r k ih=>simp only[Sem.bind,Sem.run]; exact ih _ _
 |freeze a n k ih=>simp only[Sem.bind,Sem.run]; exact ih _
 |frozen a k ih=>simp only[Sem.bind,Sem.run]; exact ih _ _
 |getObj r k ih=>
  simp only[Sem.bind,Sem.run]
  split
  ·rfl
  ·exact ih _ _
  ·rfl
 |setObj r o k ih=>
  simp only[Sem.bind,Sem.run]
  split
  ·rfl
  ·exact ih _
  ·rfl
 |choose q k ih=>
  simp only[Sem.bind,Sem.run]
  split
  ·exact ih _ _
  ·exact ih _ _
 |sys c k ih=>simp only[Sem.bind,Sem.run]; exact ih _ _
 |program k ih=>simp only[Sem.bind,Sem.run]; exact ih _ _
 |mark m k ih=>simp only[Sem.bind,Sem.run]; exact ih _
 |halt h=>rfl
theorem run_pure {α:Type} (P:Program) (x:α) (w:World):(Pure.pure x:Sem α).run P w=.ok x w:=rfl
theorem run_load {P:Program} {w:World} {a:Addr} {v:Value} (h:w.cell? a=some v):(Go.load a).run P w=.ok v w:=by
 simp[Go.load,Sem.run,h]
theorem run_loadCellsFrom {P:Program} {w:World} {b o:Nat}:∀(vs:List Value) (i:Nat) (acc:Array Value),(∀j v,vs[j]?=some v→w.cell? ⟨b,o+i+j,none⟩=some v)→
  (loadCellsFrom ⟨b,o,none⟩ i vs.length acc).run P w=.ok (acc++vs.toArray) w
 |[],i,acc,_=>by simp[loadCellsFrom]
 |v::vs,i,acc,h=>by
  simp only[List.length_cons,loadCellsFrom,run_bind,addr_add]
  rw[run_load (by simpa using h 0 v rfl)]
  simp only[]
  rw [run_loadCellsFrom vs (i + 1) (acc.push v) (fun j u e => by
   have:=h (j+1) u (by simpa using e)
   rw[show o+(i+1)+j=o+i+(j+1) by omega]; exact this)]
  simp
theorem run_loadCells {P:Program} {w:World} {b o:Nat} (vs:List Value) {n:Nat} (hn:n=vs.length) (h:∀j v,vs[j]?=some v→w.cell? ⟨b,o+j,none⟩=some v):
  (loadCells ⟨b,o,none⟩ n).run P w=.ok vs.toArray w:=by
 subst hn
 unfold loadCells
 rw[run_loadCellsFrom vs 0 #[] (fun j v e=>by simpa using h j v e)]
 simp
theorem stretch_cells {w:World} {b o n:Nat} {arr:Array Value} {t:TypeId} {fz:Nat × Nat} (h:w.heap[b]?=some (.cells arr t fz)):
  ∀j v,((arr.toList.drop o).take n)[j]?=some v→w.cell? ⟨b,o+j,none⟩=some v:=by
 intro j v e
 rw[cell_of h]
 rw[List.getElem?_take] at e
 split at e
 ·simpa using e
 ·cases e
end Go.Proofs.YtmdocdnidilaiaaGreat.V
