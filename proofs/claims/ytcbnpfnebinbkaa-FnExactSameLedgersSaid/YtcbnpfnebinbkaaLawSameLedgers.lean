/- FnExact: the law 'FnExactSameLedgers' holds at every input: walked by V (the texts V..), its functions' text in YtcbnpfnebinbkaaTSameLedgers, what they compute in YtcbnpfnebinbkaaESameLedgers, the plain law in YtcbnpfnebinbkaaPureSameLedgers. -/
import Derived.Test.YtcbnpfnebinbkaaRows
import Derived.Test.YtcbnpfnebinbkaaTSameLedgers
import Derived.Test.YtcbnpfnebinbkaaESameLedgers
import Derived.Test.YtcbnpfnebinbkaaPureSameLedgers
import Derived.Test.YtcbnpfnebinbkaaVArgs
import Derived.WalkKit
import Derived.ProofKit
import Derived.OpenShut
import Derived.ShutString
import Derived.ChangeOld
import Derived.Below
import Derived.SizedLaws
import Derived.Carry
namespace Go.Proofs.Ytcbnpfnebinbkaa.SameLedgers
open Go Go.Proofs.Ytcbnpfnebinbkaa.V Go.ChangeShapes Go.WideShapes Go.ChangeAt Go.RowKit
set_option linter.unusedVariables false
theorem walk (x0 : K_iiLsiELiiiLsiEiELsiEiii) (x1 : K_iiLsiELiiiLsiEiELsiEiii) (w0 : wf_iiLsiELiiiLsiEiELsiEiii x0) (w1 : wf_iiLsiELiiiLsiEiELsiEiii x1) {args : Array Value} {W : World} (hr : SVRels (lawX W) [(.agg [(.val (.int .i64 x0.f0)), (.val (.int .i64 x0.f1)), (.bor 0 (List.map b_si x0.f2)), (.bor 0 (List.map b_iiiLsiEi x0.f3)), (.bor 0 (List.map b_si x0.f4)), (.val (.int .i64 x0.f5)), (.val (.int .i64 x0.f6)), (.val (.int .i64 x0.f7))]), (.agg [(.val (.int .i64 x1.f0)), (.val (.int .i64 x1.f1)), (.bor 0 (List.map b_si x1.f2)), (.bor 0 (List.map b_iiiLsiEi x1.f3)), (.bor 0 (List.map b_si x1.f4)), (.val (.int .i64 x1.f5)), (.val (.int .i64 x1.f6)), (.val (.int .i64 x1.f7))])] args.toList) :
    Calls Try.prog 5 args W fun e W' => e = .returned (.bool true) ∧ Below W.heap.size W W' := by
  have h := e5 (a0 := x0) (a1 := x1) (l0_2 := 0) (l0_3 := 0) (l0_4 := 0) (l1_2 := 0) (l1_3 := 0) (l1_4 := 0) w0.2.2.1.1 w0.2.2.2.1.1 (fun z hz => ok_wf_iiiLsiEi z (w0.2.2.2.1.2 z hz)) w0.2.2.2.2.1.1 w1.2.2.1.1 w1.2.2.2.1.1 (fun z hz => ok_wf_iiiLsiEi z (w1.2.2.2.1.2 z hz)) w1.2.2.2.2.1.1
  rw [pure x0 x1 w0 w1] at h
  exact law_calls (by kernel_rfl) F_ok X_ok (fn := v5) (by kernel_rfl) hr h
theorem own : ownKnob Try.prog.godebug = none := by kernel_rfl
theorem laid : laidOutB Try.prog = true := by kernel_rfl
set_option maxRecDepth 100000 in
theorem lifted (os : Os) (started : os.Started) (H : Type) (enc : TypeId × Value → H) :
    ReturnsInHanded {} Try.checked os 5 .any (Rows.fnExactSameLedgersSpec.pre6 enc Try.prog Try.f5 Rows.fnExactSameLedgersRow.domain false) (Rows.fnExactSameLedgersSpec.post enc Try.prog Try.f5 false true false false) := by
  refine returnsInHanded_of_change_sized (C := Try.checked) own started (by kernel_rfl) Try.func5
    (ChangeSpec.witness6 (enc := enc) (C := Try.checked) false ⟨#[], #[.agg #[.int .i64 0, .int .i64 0, .slice none 0 0, .slice none 0 0, .slice none 0 0, .int .i64 0, .int .i64 0, .int .i64 0], .agg #[.int .i64 0, .int .i64 0, .slice none 0 0, .slice none 0 0, .slice none 0 0, .int .i64 0, .int .i64 0, .int .i64 0]], []⟩ 8 (by kernel_rfl) (by kernel_rfl) (by kernel_rfl) (by kernel_rfl)) ?_
  intro W base args ds gs before hval0 hW hcnd hsz0 _
  have hval : ∀ (j : Nat) t v, Try.f5.params[j]? = some t → args[j]? = some v → Value.okWide Try.prog W .any base t v := hval0
  have hW' := hW
  obtain ⟨p, q, hA0, hV, rfl, hfz, hnd⟩ := hW
  have hA : DataW.TrodAll enc Try.prog W 0 (fun _ => true) true Try.f5.params.toList args.toList ds p := hA0
  have hsz : (DataW.weightsEach Try.prog (Try.f5.params.toList ++ Rows.fnExactSameLedgersSpec.plain.varTypes Try.prog) (ds ++ gs)).all (· ≤ reachBytes) = true := hsz0
  rw [Try.params5] at hA hval hsz
  obtain ⟨v0, vs0, d0, ds0, p0, q0, hargs, rfl, rfl, h0, r0⟩ := trodAll_cons hA
  obtain ⟨v1, vs1, d1, ds1, p1, q1, rfl, rfl, rfl, h1, r1⟩ := trodAll_cons r0
  obtain ⟨rfl, rfl, rfl⟩ := trodAll_nil r1
  obtain rfl : args = #[v0, v1] := by cases args; simp_all
  obtain ⟨rfl, rfl⟩ := trodVars_none hV
  have hlt := fun x hx => hW'.lt x hx
  clear hA0 hval0 hsz0
  obtain ⟨bs0, o0, rel0⟩ := arg_sh (X := lawX W) (n := 12) (ss := [.int .i64, .int .i64, .sl [.str, .int .i64] 24, .sl [.int .i64, .int .i64, .int .i64, .sl [.str, .int .i64] 24, .int .i64] 56, .sl [.str, .int .i64] 24, .int .i64, .int .i64, .int .i64]) (by kernel_rfl) (hval 0 45 v0 rfl rfl) h0 (sized_arg hsz (j := 0) rfl rfl) rfl
  obtain ⟨x0, rfl, w0⟩ := un_iiLsiELiiiLsiEiELsiEiii o0
  obtain ⟨bs1, o1, rel1⟩ := arg_sh (X := lawX W) (n := 12) (ss := [.int .i64, .int .i64, .sl [.str, .int .i64] 24, .sl [.int .i64, .int .i64, .int .i64, .sl [.str, .int .i64] 24, .int .i64] 56, .sl [.str, .int .i64] 24, .int .i64, .int .i64, .int .i64]) (by kernel_rfl) (hval 1 45 v1 rfl rfl) h1 (sized_arg hsz (j := 1) rfl rfl) rfl
  obtain ⟨x1, rfl, w1⟩ := un_iiLsiELiiiLsiEiELsiEiii o1
  have hr : SVRels (lawX W) [(.agg [(.val (.int .i64 x0.f0)), (.val (.int .i64 x0.f1)), (.bor 0 (List.map b_si x0.f2)), (.bor 0 (List.map b_iiiLsiEi x0.f3)), (.bor 0 (List.map b_si x0.f4)), (.val (.int .i64 x0.f5)), (.val (.int .i64 x0.f6)), (.val (.int .i64 x0.f7))]), (.agg [(.val (.int .i64 x1.f0)), (.val (.int .i64 x1.f1)), (.bor 0 (List.map b_si x1.f2)), (.bor 0 (List.map b_iiiLsiEi x1.f3)), (.bor 0 (List.map b_si x1.f4)), (.val (.int .i64 x1.f5)), (.val (.int .i64 x1.f6)), (.val (.int .i64 x1.f7))])] [v0, v1] := by
    simp only [SVRels]
    exact ⟨_, _, rfl, rel0, ⟨_, _, rfl, rel1, rfl⟩⟩
  refine (walk x0 x1 w0 w1 (args := #[v0, v1]) hr).mono fun e W' ⟨he, bel⟩ => ?_
  subst he
  exact ⟨_, rfl, _, _, _, [], _, [], hW', trodAll_mk1 (shut_bool Try.underlying4 _), (trodAll_cons_mk (Below.trod laid (by kernel_rfl) (of_decide_eq_true (by kernel_rfl)) h0 bel (fun x hx => hlt x (by simp [hx]))) (trodAll_cons_mk (Below.trod laid (by kernel_rfl) (of_decide_eq_true (by kernel_rfl)) h1 bel (fun x hx => hlt x (by simp [hx]))) trodAll_mk0)), rfl, bel.frame _, fun h => by cases h⟩
theorem over : Rows.fnExactSameLedgersRow.holds Try.pinned (OpenSpec.ofChange Rows.fnExactSameLedgersSpec) :=
  OpenClaim.holds_of_wide 5 Try.f5 rfl rfl rfl rfl rfl rfl rfl ⟨rfl, rfl, rfl, rfl, rfl⟩ rfl rfl rfl rfl rfl (by kernel_rfl) Try.func5 (by kernel_rfl)
    (of_decide_eq_true (by kernel_rfl)) (by unfold Func.isWrapper; first | (rw [if_pos (by decide +kernel)]; kernel_rfl) | (rw [if_neg (by decide +kernel)]; exact ⟨rfl, rfl⟩))
    (fun os started H enc _ => lifted os started H enc)
theorem proved : Rows.FnExactSameLedgersSaid := over
#print axioms proved
end Go.Proofs.Ytcbnpfnebinbkaa.SameLedgers
namespace Go.Proofs.Ytcbnpfnebinbkaa
/-- The row, under a short name, for the claim. -/
theorem fnExactSameLedgers_holds : Rows.FnExactSameLedgersSaid := SameLedgers.proved
end Go.Proofs.Ytcbnpfnebinbkaa
