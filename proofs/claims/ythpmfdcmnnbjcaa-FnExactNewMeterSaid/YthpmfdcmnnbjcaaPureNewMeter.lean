/- The plain law: what the functions compute answers as the statement says. -/
import Derived.Test.YthpmfdcmnnbjcaaENewMeter
import Derived.Test.YthpmfdcmnnbjcaaVArgs
namespace Go.Proofs.Ythpmfdcmnnbjcaa.NewMeter
open Go Go.Proofs.Ythpmfdcmnnbjcaa.V
set_option linter.unusedVariables false
def wf_i (x : Int) : Prop := (Lit.int .i64 x).wf = true
theorem un_i {bs : List B} (h : Sh.okL [.int .i64] bs) : ∃ x : Int, bs = [(.val (.int .i64 x))] ∧ wf_i x := by
  obtain ⟨b0, m0, rfl, o0, h0⟩ := h
  obtain ⟨x0, rfl, w0⟩ : ∃ z : Int, b0 = .val (.int .i64 z) ∧ (Lit.int .i64 z).wf = true := by
    cases b0 with
    | val v =>
      cases v <;> first | exact o0.elim | (obtain ⟨rfl, w⟩ := o0; exact ⟨_, rfl, w⟩)
    | sl r => exact o0.elim
  obtain rfl := h0
  exact ⟨x0, rfl, w0⟩
theorem uns_i : ∀ {rows : List (List B)}, (∀ r ∈ rows, Sh.okL [.int .i64] r) → ∃ z : List Int, rows = z.map b_i ∧ ∀ u ∈ z, wf_i u
  | [], _ => ⟨[], rfl, fun u h => (by cases h)⟩
  | r :: rows, h => by
    obtain ⟨x, e, w⟩ := un_i (h r (List.mem_cons_self ..))
    obtain ⟨z, rfl, hz⟩ := uns_i (fun r hr => h r (List.mem_cons_of_mem _ hr))
    refine ⟨x :: z, by rw [e]; rfl, fun u hu => ?_⟩
    rcases List.mem_cons.1 hu with rfl | hu
    · exact w
    · exact hz u hu
theorem i57 (a b c : Int) : m57 a b c = true ↔ b ≤ a ∧ a ≤ c := by
  unfold m57; split <;> simp_all <;> omega
theorem i60 (a b c : Int) : m60 a b c = true ↔ b ≤ a ∧ a ≤ c := by
  unfold m60; split <;> simp_all <;> omega
theorem n57 (a b c : Int) : (!(m57 a b c)) = true ↔ ¬ (b ≤ a ∧ a ≤ c) := by
  rw [← i57]; cases m57 a b c <;> simp
theorem n60 (a b c : Int) : (!(m60 a b c)) = true ↔ ¬ (b ≤ a ∧ a ≤ c) := by
  rw [← i60]; cases m60 a b c <;> simp
theorem fault_eq (a0 : K_iiiiiii) : m20 a0 = m59 a0 := by
  unfold m20 m59
  simp only [i60, n60, n57, decide_eq_true_eq]
  repeat' split
  all_goals first | rfl | omega

theorem eq_self (a : K_ibiiiiiii) : m23 a a = true := by
  simp [m23, m61]
theorem pure (a0 : Int) (a1 : Int) (a2 : Int) (a3 : Int) (w0 : wf_i a0) (w1 : wf_i a1) (w2 : wf_i a2) (w3 : wf_i a3) : m5 a0 a1 a2 a3 = true := by
  have h : m22 a0 a1 a2 a3 = m21 a0 a1 a2 a3 := by
    unfold m22 m21; rw [fault_eq]
  unfold m5
  rw [h, eq_self]; rfl

end Go.Proofs.Ythpmfdcmnnbjcaa.NewMeter
