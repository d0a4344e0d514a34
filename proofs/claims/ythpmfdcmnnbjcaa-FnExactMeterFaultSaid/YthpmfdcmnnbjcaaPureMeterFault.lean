/- The plain law: what the functions compute answers as the statement says. -/
import Derived.Test.YthpmfdcmnnbjcaaEMeterFault
import Derived.Test.YthpmfdcmnnbjcaaVArgs
namespace Go.Proofs.Ythpmfdcmnnbjcaa.MeterFault
open Go Go.Proofs.Ythpmfdcmnnbjcaa.V
set_option linter.unusedVariables false
def wf_iiiiiii (x : K_iiiiiii) : Prop := (Lit.int .i64 x.f0).wf = true ∧ (Lit.int .i64 x.f1).wf = true ∧ (Lit.int .i64 x.f2).wf = true ∧ (Lit.int .i64 x.f3).wf = true ∧ (Lit.int .i64 x.f4).wf = true ∧ (Lit.int .i64 x.f5).wf = true ∧ (Lit.int .i64 x.f6).wf = true
theorem un_iiiiiii {bs : List B} (h : Sh.okL [.int .i64, .int .i64, .int .i64, .int .i64, .int .i64, .int .i64, .int .i64] bs) : ∃ x : K_iiiiiii, bs = [(.val (.int .i64 x.f0)), (.val (.int .i64 x.f1)), (.val (.int .i64 x.f2)), (.val (.int .i64 x.f3)), (.val (.int .i64 x.f4)), (.val (.int .i64 x.f5)), (.val (.int .i64 x.f6))] ∧ wf_iiiiiii x := by
  obtain ⟨b0, m0, rfl, o0, h0⟩ := h
  obtain ⟨x0, rfl, w0⟩ : ∃ z : Int, b0 = .val (.int .i64 z) ∧ (Lit.int .i64 z).wf = true := by
    cases b0 with
    | val v =>
      cases v <;> first | exact o0.elim | (obtain ⟨rfl, w⟩ := o0; exact ⟨_, rfl, w⟩)
    | sl r => exact o0.elim
  obtain ⟨b1, m1, rfl, o1, h1⟩ := h0
  obtain ⟨x1, rfl, w1⟩ : ∃ z : Int, b1 = .val (.int .i64 z) ∧ (Lit.int .i64 z).wf = true := by
    cases b1 with
    | val v =>
      cases v <;> first | exact o1.elim | (obtain ⟨rfl, w⟩ := o1; exact ⟨_, rfl, w⟩)
    | sl r => exact o1.elim
  obtain ⟨b2, m2, rfl, o2, h2⟩ := h1
  obtain ⟨x2, rfl, w2⟩ : ∃ z : Int, b2 = .val (.int .i64 z) ∧ (Lit.int .i64 z).wf = true := by
    cases b2 with
    | val v =>
      cases v <;> first | exact o2.elim | (obtain ⟨rfl, w⟩ := o2; exact ⟨_, rfl, w⟩)
    | sl r => exact o2.elim
  obtain ⟨b3, m3, rfl, o3, h3⟩ := h2
  obtain ⟨x3, rfl, w3⟩ : ∃ z : Int, b3 = .val (.int .i64 z) ∧ (Lit.int .i64 z).wf = true := by
    cases b3 with
    | val v =>
      cases v <;> first | exact o3.elim | (obtain ⟨rfl, w⟩ := o3; exact ⟨_, rfl, w⟩)
    | sl r => exact o3.elim
  obtain ⟨b4, m4, rfl, o4, h4⟩ := h3
  obtain ⟨x4, rfl, w4⟩ : ∃ z : Int, b4 = .val (.int .i64 z) ∧ (Lit.int .i64 z).wf = true := by
    cases b4 with
    | val v =>
      cases v <;> first | exact o4.elim | (obtain ⟨rfl, w⟩ := o4; exact ⟨_, rfl, w⟩)
    | sl r => exact o4.elim
  obtain ⟨b5, m5, rfl, o5, h5⟩ := h4
  obtain ⟨x5, rfl, w5⟩ : ∃ z : Int, b5 = .val (.int .i64 z) ∧ (Lit.int .i64 z).wf = true := by
    cases b5 with
    | val v =>
      cases v <;> first | exact o5.elim | (obtain ⟨rfl, w⟩ := o5; exact ⟨_, rfl, w⟩)
    | sl r => exact o5.elim
  obtain ⟨b6, m6, rfl, o6, h6⟩ := h5
  obtain ⟨x6, rfl, w6⟩ : ∃ z : Int, b6 = .val (.int .i64 z) ∧ (Lit.int .i64 z).wf = true := by
    cases b6 with
    | val v =>
      cases v <;> first | exact o6.elim | (obtain ⟨rfl, w⟩ := o6; exact ⟨_, rfl, w⟩)
    | sl r => exact o6.elim
  obtain rfl := h6
  exact ⟨⟨x0, x1, x2, x3, x4, x5, x6⟩, rfl, ⟨w0, w1, w2, w3, w4, w5, w6⟩⟩
theorem uns_iiiiiii : ∀ {rows : List (List B)}, (∀ r ∈ rows, Sh.okL [.int .i64, .int .i64, .int .i64, .int .i64, .int .i64, .int .i64, .int .i64] r) → ∃ z : List K_iiiiiii, rows = z.map b_iiiiiii ∧ ∀ u ∈ z, wf_iiiiiii u
  | [], _ => ⟨[], rfl, fun u h => (by cases h)⟩
  | r :: rows, h => by
    obtain ⟨x, e, w⟩ := un_iiiiiii (h r (List.mem_cons_self ..))
    obtain ⟨z, rfl, hz⟩ := uns_iiiiiii (fun r hr => h r (List.mem_cons_of_mem _ hr))
    refine ⟨x :: z, by rw [e]; rfl, fun u hu => ?_⟩
    rcases List.mem_cons.1 hu with rfl | hu
    · exact w
    · exact hz u hu
theorem i57 (a b c : Int) : m57 a b c = true ↔ b ≤ a ∧ a ≤ c := by
  unfold m57; split <;> simp_all <;> omega
theorem i60 (a b c : Int) : m60 a b c = true ↔ b ≤ a ∧ a ≤ c := by
  unfold m60; split <;> simp_all <;> omega
theorem n57 (a b c : Int) : (!(m57 a b c)) = true ↔ ¬ (b ≤ a ∧ a ≤ c) := by
  rw [← i57]; cases m57 a b c <;> simp
theorem n60 (a b c : Int) : (!(m60 a b c)) = true ↔ ¬ (b ≤ a ∧ a ≤ c) := by
  rw [← i60]; cases m60 a b c <;> simp
theorem pure (a0 : K_iiiiiii) (w0 : wf_iiiiiii a0) : m4 a0 = true := by
  have h : m20 a0 = m59 a0 := by
    unfold m20 m59
    simp only [i60, n60, n57, decide_eq_true_eq]
    repeat' split
    all_goals first | rfl | omega
  unfold m4
  rw [h]; simp

end Go.Proofs.Ythpmfdcmnnbjcaa.MeterFault
