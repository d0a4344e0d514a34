/- The plain law: what the functions compute answers as the statement says. -/
import Derived.Test.YtcbnpfnebinbkaaENewLedger
import Derived.Test.YtcbnpfnebinbkaaVArgs
namespace Go.Proofs.Ytcbnpfnebinbkaa.NewLedger
open Go Go.Proofs.Ytcbnpfnebinbkaa.V
set_option linter.unusedVariables false
def wf_i (x : Int) : Prop := (Lit.int .i64 x).wf = true
theorem un_i {bs : List B} (h : Sh.okL [.int .i64] bs) : ∃ x : Int, bs = [(.val (.int .i64 x))] ∧ wf_i x := by
  obtain ⟨b0, m0, rfl, o0, h0⟩ := h
  obtain ⟨x0, rfl, w0⟩ : ∃ z : Int, b0 = .val (.int .i64 z) ∧ (Lit.int .i64 z).wf = true := by
    cases b0 with
    | val v =>
      cases v <;> first | exact o0.elim | (obtain ⟨rfl, w⟩ := o0; exact ⟨_, rfl, w⟩)
    | sl r => exact o0.elim
  obtain rfl := h0
  exact ⟨x0, rfl, w0⟩
theorem uns_i : ∀ {rows : List (List B)}, (∀ r ∈ rows, Sh.okL [.int .i64] r) → ∃ z : List Int, rows = z.map b_i ∧ ∀ u ∈ z, wf_i u
  | [], _ => ⟨[], rfl, fun u h => (by cases h)⟩
  | r :: rows, h => by
    obtain ⟨x, e, w⟩ := un_i (h r (List.mem_cons_self ..))
    obtain ⟨z, rfl, hz⟩ := uns_i (fun r hr => h r (List.mem_cons_of_mem _ hr))
    refine ⟨x :: z, by rw [e]; rfl, fun u hu => ?_⟩
    rcases List.mem_cons.1 hu with rfl | hu
    · exact w
    · exact hz u hu
theorem in_iff (a b c : Int) : m44 a b c = true ↔ b ≤ a ∧ a ≤ c := by
  unfold m44; split <;> simp_all <;> omega
theorem l1In_iff (a b c : Int) : m42 a b c = true ↔ b ≤ a ∧ a ≤ c := by
  unfold m42; split <;> simp_all <;> omega
theorem in_eq (a b c : Int) : m44 a b c = m42 a b c := by
  rw [Bool.eq_iff_iff, in_iff, l1In_iff]

theorem same (a b : Int) : m11 a b = m12 a b := by
  unfold m11 m12 m25 m26
  have h : m42 0 0 1000000 = true := by rw [l1In_iff]; omega
  simp only [in_eq, h, if_true]
  (repeat' split) <;> simp_all
theorem pure (a0 : Int) (a1 : Int) (w0 : wf_i a0) (w1 : wf_i a1) : m4 a0 a1 = true := by
  have hw : wt_iiiiLsiELiiiLsiEiELsiEiii (m12 a0 a1) ≤ 10 := by
    unfold m12 wt_iiiiLsiELiiiLsiEiELsiEiii
    split <;> simp
  have hm := mh14 (m12 a0 a1) 1 (by omega) (by omega)
  unfold m4
  rw [same, eqd13, hm.1]
  (repeat' (first | rfl | (rw [if_neg (by first | (simp; done) | (simp only [decide_eq_true_eq]; omega) | (simp_all; done))]) | split))

end Go.Proofs.Ytcbnpfnebinbkaa.NewLedger
