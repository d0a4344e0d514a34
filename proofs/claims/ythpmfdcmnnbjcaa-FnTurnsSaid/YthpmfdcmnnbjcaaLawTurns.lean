/- FnExact: the law 'FnTurns' holds at every input: walked by V (the texts V..), its functions' text in YthpmfdcmnnbjcaaTTurns, what they compute in YthpmfdcmnnbjcaaETurns, the plain law in YthpmfdcmnnbjcaaPureTurns. -/
import Derived.Test.YthpmfdcmnnbjcaaRows
import Derived.Test.YthpmfdcmnnbjcaaTTurns
import Derived.Test.YthpmfdcmnnbjcaaETurns
import Derived.Test.YthpmfdcmnnbjcaaPureTurns
import Derived.Test.YthpmfdcmnnbjcaaVArgs
import Derived.WalkKit
import Derived.ProofKit
import Derived.OpenShut
import Derived.ShutString
import Derived.ChangeOld
import Derived.Below
import Derived.SizedLaws
import Derived.Carry
namespace Go.Proofs.Ythpmfdcmnnbjcaa.Turns
open Go Go.Proofs.Ythpmfdcmnnbjcaa.V Go.ChangeShapes Go.WideShapes Go.ChangeAt Go.RowKit
set_option linter.unusedVariables false
theorem walk (x0 : (List Int)) (w0 : wf_LyE x0) {args : Array Value} {W : World} (hr : SVRels (lawX W) [(.one (.bor 0 (List.map b_y x0)))] args.toList) :
    Calls Try.prog 10 args W fun e W' => e = .returned (.bool true) ∧ Below W.heap.size W W' := by
  have h := e10 (a0 := x0) (l0_0 := 0) (fun z hz => wf8 (w0.2 z hz)) (by have := w0.1; omega)
  rw [pure x0 w0] at h
  exact law_calls (by kernel_rfl) F_ok X_ok (fn := v10) (by kernel_rfl) hr h
theorem own : ownKnob Try.prog.godebug = none := by kernel_rfl
theorem laid : laidOutB Try.prog = true := by kernel_rfl
set_option maxRecDepth 100000 in
theorem lifted (os : Os) (started : os.Started) (H : Type) (enc : TypeId × Value → H) :
    ReturnsInHanded {} Try.checked os 10 .any (Rows.fnTurnsSpec.pre6 enc Try.prog Try.f10 Rows.fnTurnsRow.domain false) (Rows.fnTurnsSpec.post enc Try.prog Try.f10 false true false false) := by
  refine returnsInHanded_of_change_sized (C := Try.checked) own started (by kernel_rfl) Try.func10
    (ChangeSpec.witness6 (enc := enc) (C := Try.checked) false ⟨#[], #[.slice none 0 0], []⟩ 8 (by kernel_rfl) (by kernel_rfl) (by kernel_rfl) (by kernel_rfl)) ?_
  intro W base args ds gs before hval0 hW hcnd hsz0 _
  have hval : ∀ (j : Nat) t v, Try.f10.params[j]? = some t → args[j]? = some v → Value.okWide Try.prog W .any base t v := hval0
  have hW' := hW
  obtain ⟨p, q, hA0, hV, rfl, hfz, hnd⟩ := hW
  have hA : DataW.TrodAll enc Try.prog W 0 (fun _ => true) true Try.f10.params.toList args.toList ds p := hA0
  have hsz : (DataW.weightsEach Try.prog (Try.f10.params.toList ++ Rows.fnTurnsSpec.plain.varTypes Try.prog) (ds ++ gs)).all (· ≤ reachBytes) = true := hsz0
  rw [Try.params10] at hA hval hsz
  obtain ⟨v0, vs0, d0, ds0, p0, q0, hargs, rfl, rfl, h0, r0⟩ := trodAll_cons hA
  obtain ⟨rfl, rfl, rfl⟩ := trodAll_nil r0
  obtain rfl : args = #[v0] := by cases args; simp_all
  obtain ⟨rfl, rfl⟩ := trodVars_none hV
  have hlt := fun x hx => hW'.lt x hx
  clear hA0 hval0 hsz0
  obtain ⟨bs0, o0, rel0⟩ := arg_sh (X := lawX W) (n := 12) (ss := [.sl [.int .u8] 1]) (by kernel_rfl) (hval 0 38 v0 rfl rfl) h0 (sized_arg hsz (j := 0) rfl rfl) rfl
  obtain ⟨x0, rfl, w0⟩ := un_LyE o0
  have hr : SVRels (lawX W) [(.one (.bor 0 (List.map b_y x0)))] [v0] := by
    simp only [SVRels]
    exact ⟨_, _, rfl, rel0, rfl⟩
  refine (walk x0 w0 (args := #[v0]) hr).mono fun e W' ⟨he, bel⟩ => ?_
  subst he
  exact ⟨_, rfl, _, _, _, [], _, [], hW', trodAll_mk1 (shut_bool Try.underlying4 _), (trodAll_cons_mk (Below.trod laid (by kernel_rfl) (of_decide_eq_true (by kernel_rfl)) h0 bel (fun x hx => hlt x (by simp [hx]))) trodAll_mk0), rfl, bel.frame _, fun h => by cases h⟩
theorem over : Rows.fnTurnsRow.holds Try.pinned (OpenSpec.ofChange Rows.fnTurnsSpec) :=
  OpenClaim.holds_of_wide 10 Try.f10 rfl rfl rfl rfl rfl rfl rfl ⟨rfl, rfl, rfl, rfl, rfl⟩ rfl rfl rfl rfl rfl (by kernel_rfl) Try.func10 (by kernel_rfl)
    (of_decide_eq_true (by kernel_rfl)) (by unfold Func.isWrapper; first | (rw [if_pos (by decide +kernel)]; kernel_rfl) | (rw [if_neg (by decide +kernel)]; exact ⟨rfl, rfl⟩))
    (fun os started H enc _ => lifted os started H enc)
theorem proved : Rows.FnTurnsSaid := over
#print axioms proved
end Go.Proofs.Ythpmfdcmnnbjcaa.Turns
namespace Go.Proofs.Ythpmfdcmnnbjcaa
/-- The row, under a short name, for the claim. -/
theorem fnTurns_holds : Rows.FnTurnsSaid := Turns.proved
end Go.Proofs.Ythpmfdcmnnbjcaa
