/- FnExact: the law 'FnMeters' holds at every input: walked by V (the texts V..), its functions' text in YthpmfdcmnnbjcaaTMeters, what they compute in YthpmfdcmnnbjcaaEMeters, the plain law in YthpmfdcmnnbjcaaPureMeters. -/
import Derived.Test.YthpmfdcmnnbjcaaRows
import Derived.Test.YthpmfdcmnnbjcaaTMeters
import Derived.Test.YthpmfdcmnnbjcaaEMeters
import Derived.Test.YthpmfdcmnnbjcaaPureMeters
import Derived.Test.YthpmfdcmnnbjcaaVArgs
import Derived.WalkKit
import Derived.ProofKit
import Derived.OpenShut
import Derived.ShutString
import Derived.ChangeOld
import Derived.Below
import Derived.SizedLaws
import Derived.Carry
namespace Go.Proofs.Ythpmfdcmnnbjcaa.Meters
open Go Go.Proofs.Ythpmfdcmnnbjcaa.V Go.ChangeShapes Go.WideShapes Go.ChangeAt Go.RowKit
set_option linter.unusedVariables false
theorem walk (x0 : (List Int)) (w0 : wf_LyE x0) {args : Array Value} {W : World} (hr : SVRels (lawX W) [(.one (.bor 0 (List.map b_y x0)))] args.toList) :
    Calls Try.prog 13 args W fun e W' => e = .returned (.bool true) ∧ Below W.heap.size W W' := by
  have h := e13 (a0 := x0) (l0_0 := 0) (fun z hz => wf8 (w0.2 z hz)) (by have := w0.1; omega)
  rw [pure x0 w0] at h
  exact law_calls (by kernel_rfl) F_ok X_ok (fn := v13) (by kernel_rfl) hr h
theorem own : ownKnob Try.prog.godebug = none := by kernel_rfl
theorem laid : laidOutB Try.prog = true := by kernel_rfl
set_option maxRecDepth 100000 in
theorem lifted (os : Os) (started : os.Started) (H : Type) (enc : TypeId × Value → H) :
    ReturnsInHanded {} Try.checked os 13 .any (Rows.fnMetersSpec.pre6 enc Try.prog Try.f13 Rows.fnMetersRow.domain false) (Rows.fnMetersSpec.post enc Try.prog Try.f13 false true false false) := by
  refine returnsInHanded_of_change_sized (C := Try.checked) own started (by kernel_rfl) Try.func13
    (ChangeSpec.witness6 (enc := enc) (C := Try.checked) false ⟨#[], #[.slice none 0 0], []⟩ 8 (by kernel_rfl) (by kernel_rfl) (by kernel_rfl) (by kernel_rfl)) ?_
  intro W base args ds gs before hval0 hW hcnd hsz0 _
  have hval : ∀ (j : Nat) t v, Try.f13.params[j]? = some t → args[j]? = some v → Value.okWide Try.prog W .any base t v := hval0
  have hW' := hW
  obtain ⟨p, q, hA0, hV, rfl, hfz, hnd⟩ := hW
  have hA : DataW.TrodAll enc Try.prog W 0 (fun _ => true) true Try.f13.params.toList args.toList ds p := hA0
  have hsz : (DataW.weightsEach Try.prog (Try.f13.params.toList ++ Rows.fnMetersSpec.plain.varTypes Try.prog) (ds ++ gs)).all (· ≤ reachBytes) = true := hsz0
  rw [Try.params13] at hA hval hsz
  obtain ⟨v0, vs0, d0, ds0, p0, q0, hargs, rfl, rfl, h0, r0⟩ := trodAll_cons hA
  obtain ⟨rfl, rfl, rfl⟩ := trodAll_nil r0
  obtain rfl : args = #[v0] := by cases args; simp_all
  obtain ⟨rfl, rfl⟩ := trodVars_none hV
  have hlt := fun x hx => hW'.lt x hx
  clear hA0 hval0 hsz0
  obtain ⟨bs0, o0, rel0⟩ := arg_sh (X := lawX W) (n := 12) (ss := [.sl [.int .u8] 1]) (by kernel_rfl) (hval 0 38 v0 rfl rfl) h0 (sized_arg hsz (j := 0) rfl rfl) rfl
  obtain ⟨x0, rfl, w0⟩ := un_LyE o0
  have hr : SVRels (lawX W) [(.one (.bor 0 (List.map b_y x0)))] [v0] := by
    simp only [SVRels]
    exact ⟨_, _, rfl, rel0, rfl⟩
  refine (walk x0 w0 (args := #[v0]) hr).mono fun e W' ⟨he, bel⟩ => ?_
  subst he
  exact ⟨_, rfl, _, _, _, [], _, [], hW', trodAll_mk1 (shut_bool Try.underlying4 _), (trodAll_cons_mk (Below.trod laid (by kernel_rfl) (of_decide_eq_true (by kernel_rfl)) h0 bel (fun x hx => hlt x (by simp [hx]))) trodAll_mk0), rfl, bel.frame _, fun h => by cases h⟩
theorem over : Rows.fnMetersRow.holds Try.pinned (OpenSpec.ofChange Rows.fnMetersSpec) :=
  OpenClaim.holds_of_wide 13 Try.f13 rfl rfl rfl rfl rfl rfl rfl ⟨rfl, rfl, rfl, rfl, rfl⟩ rfl rfl rfl rfl rfl (by kernel_rfl) Try.func13 (by kernel_rfl)
    (of_decide_eq_true (by kernel_rfl)) (by unfold Func.isWrapper; first | (rw [if_pos (by decide +kernel)]; kernel_rfl) | (rw [if_neg (by decide +kernel)]; exact ⟨rfl, rfl⟩))
    (fun os started H enc _ => lifted os started H enc)
theorem proved : Rows.FnMetersSaid := over
#print axioms proved
end Go.Proofs.Ythpmfdcmnnbjcaa.Meters
namespace Go.Proofs.Ythpmfdcmnnbjcaa
/-- The row, under a short name, for the claim. -/
theorem fnMeters_holds : Rows.FnMetersSaid := Meters.proved
end Go.Proofs.Ythpmfdcmnnbjcaa
