/- FnExact: the law 'FnExactFeedMeter' holds at every input: walked by V (the texts V..), its functions' text in YthpmfdcmnnbjcaaTFeedMeter, what they compute in YthpmfdcmnnbjcaaEFeedMeter, the plain law in YthpmfdcmnnbjcaaPureFeedMeter. -/
import Derived.Test.YthpmfdcmnnbjcaaRows
import Derived.Test.YthpmfdcmnnbjcaaTFeedMeter
import Derived.Test.YthpmfdcmnnbjcaaEFeedMeter
import Derived.Test.YthpmfdcmnnbjcaaPureFeedMeter
import Derived.Test.YthpmfdcmnnbjcaaVArgs
import Derived.WalkKit
import Derived.ProofKit
import Derived.OpenShut
import Derived.ShutString
import Derived.ChangeOld
import Derived.Below
import Derived.SizedLaws
import Derived.Carry
namespace Go.Proofs.Ythpmfdcmnnbjcaa.FeedMeter
open Go Go.Proofs.Ythpmfdcmnnbjcaa.V Go.ChangeShapes Go.WideShapes Go.ChangeAt Go.RowKit
set_option linter.unusedVariables false
theorem walk (x0 : K_iiiiiii) (x1 : Int) (w0 : wf_iiiiiii x0) (w1 : wf_i x1) {args : Array Value} {W : World} (hr : SVRels (lawX W) [(.agg [(.val (.int .i64 x0.f0)), (.val (.int .i64 x0.f1)), (.val (.int .i64 x0.f2)), (.val (.int .i64 x0.f3)), (.val (.int .i64 x0.f4)), (.val (.int .i64 x0.f5)), (.val (.int .i64 x0.f6))]), (.one (.val (.int .i64 x1)))] args.toList) :
    Calls Try.prog 9 args W fun e W' => e = .returned (.bool true) ∧ Below W.heap.size W W' := by
  have h := e9 (a0 := x0) (a1 := x1)
  rw [pure x0 x1 w0 w1] at h
  exact law_calls (by kernel_rfl) F_ok (fun _ _ _ h => h.elim) (fn := v9) (by kernel_rfl) hr h
theorem own : ownKnob Try.prog.godebug = none := by kernel_rfl
theorem laid : laidOutB Try.prog = true := by kernel_rfl
set_option maxRecDepth 100000 in
theorem lifted (os : Os) (started : os.Started) (H : Type) (enc : TypeId × Value → H) :
    ReturnsInHanded {} Try.checked os 9 .any (Rows.fnExactFeedMeterSpec.pre6 enc Try.prog Try.f9 Rows.fnExactFeedMeterRow.domain false) (Rows.fnExactFeedMeterSpec.post enc Try.prog Try.f9 false true false false) := by
  refine returnsInHanded_of_change_sized (C := Try.checked) own started (by kernel_rfl) Try.func9
    (ChangeSpec.witness6 (enc := enc) (C := Try.checked) false ⟨#[], #[.agg #[.int .i64 0, .int .i64 0, .int .i64 0, .int .i64 0, .int .i64 0, .int .i64 0, .int .i64 0], .int .i64 0], []⟩ 8 (by kernel_rfl) (by kernel_rfl) (by kernel_rfl) (by kernel_rfl)) ?_
  intro W base args ds gs before hval0 hW hcnd hsz0 _
  have hval : ∀ (j : Nat) t v, Try.f9.params[j]? = some t → args[j]? = some v → Value.okWide Try.prog W .any base t v := hval0
  have hW' := hW
  obtain ⟨p, q, hA0, hV, rfl, hfz, hnd⟩ := hW
  have hA : DataW.TrodAll enc Try.prog W 0 (fun _ => true) true Try.f9.params.toList args.toList ds p := hA0
  rw [Try.params9] at hA hval
  obtain ⟨v0, vs0, d0, ds0, p0, q0, hargs, rfl, rfl, h0, r0⟩ := trodAll_cons hA
  obtain ⟨v1, vs1, d1, ds1, p1, q1, rfl, rfl, rfl, h1, r1⟩ := trodAll_cons r0
  obtain ⟨rfl, rfl, rfl⟩ := trodAll_nil r1
  obtain rfl : args = #[v0, v1] := by cases args; simp_all
  obtain ⟨rfl, rfl⟩ := trodVars_none hV
  have hlt := fun x hx => hW'.lt x hx
  clear hA0 hval0 hsz0
  obtain ⟨bs0, o0, rel0⟩ := arg_sh (X := lawX W) (n := 12) (ss := [.int .i64, .int .i64, .int .i64, .int .i64, .int .i64, .int .i64, .int .i64]) (by kernel_rfl) (hval 0 28 v0 rfl rfl) h0 rfl
  obtain ⟨x0, rfl, w0⟩ := un_iiiiiii o0
  obtain ⟨bs1, o1, rel1⟩ := arg_sh (X := lawX W) (n := 12) (ss := [.int .i64]) (by kernel_rfl) (hval 1 2 v1 rfl rfl) h1 rfl
  obtain ⟨x1, rfl, w1⟩ := un_i o1
  have hr : SVRels (lawX W) [(.agg [(.val (.int .i64 x0.f0)), (.val (.int .i64 x0.f1)), (.val (.int .i64 x0.f2)), (.val (.int .i64 x0.f3)), (.val (.int .i64 x0.f4)), (.val (.int .i64 x0.f5)), (.val (.int .i64 x0.f6))]), (.one (.val (.int .i64 x1)))] [v0, v1] := by
    simp only [SVRels]
    exact ⟨_, _, rfl, rel0, ⟨_, _, rfl, rel1, rfl⟩⟩
  refine (walk x0 x1 w0 w1 (args := #[v0, v1]) hr).mono fun e W' ⟨he, bel⟩ => ?_
  subst he
  exact ⟨_, rfl, _, _, _, [], _, [], hW', trodAll_mk1 (shut_bool Try.underlying4 _), (trodAll_cons_mk (Below.trod laid (by kernel_rfl) (of_decide_eq_true (by kernel_rfl)) h0 bel (fun x hx => hlt x (by simp [hx]))) (trodAll_cons_mk (Below.trod laid (by kernel_rfl) (of_decide_eq_true (by kernel_rfl)) h1 bel (fun x hx => hlt x (by simp [hx]))) trodAll_mk0)), rfl, bel.frame _, fun h => by cases h⟩
theorem over : Rows.fnExactFeedMeterRow.holds Try.pinned (OpenSpec.ofChange Rows.fnExactFeedMeterSpec) :=
  OpenClaim.holds_of_wide 9 Try.f9 rfl rfl rfl rfl rfl rfl rfl ⟨rfl, rfl, rfl, rfl, rfl⟩ rfl rfl rfl rfl rfl (by kernel_rfl) Try.func9 (by kernel_rfl)
    (of_decide_eq_true (by kernel_rfl)) (by unfold Func.isWrapper; first | (rw [if_pos (by decide +kernel)]; kernel_rfl) | (rw [if_neg (by decide +kernel)]; exact ⟨rfl, rfl⟩))
    (fun os started H enc _ => lifted os started H enc)
theorem proved : Rows.FnExactFeedMeterSaid := over
#print axioms proved
end Go.Proofs.Ythpmfdcmnnbjcaa.FeedMeter
namespace Go.Proofs.Ythpmfdcmnnbjcaa
/-- The row, under a short name, for the claim. -/
theorem fnExactFeedMeter_holds : Rows.FnExactFeedMeterSaid := FeedMeter.proved
end Go.Proofs.Ythpmfdcmnnbjcaa
