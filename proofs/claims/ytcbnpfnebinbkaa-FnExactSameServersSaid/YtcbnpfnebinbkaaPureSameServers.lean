/- The plain law: what the functions compute answers as the statement says. -/
import Derived.Test.YtcbnpfnebinbkaaESameServers
import Derived.Test.YtcbnpfnebinbkaaVArgs
namespace Go.Proofs.Ytcbnpfnebinbkaa.SameServers
open Go Go.Proofs.Ytcbnpfnebinbkaa.V
set_option linter.unusedVariables false
def wf_sisi (x : K_sisi) : Prop := x.f0.size ≤ 140737488351232 ∧ (Lit.int .i64 x.f1).wf = true ∧ x.f2.size ≤ 140737488351232 ∧ (Lit.int .i64 x.f3).wf = true
theorem un_sisi {bs : List B} (h : Sh.okL [.str, .int .i64, .str, .int .i64] bs) : ∃ x : K_sisi, bs = [(.val (.string x.f0)), (.val (.int .i64 x.f1)), (.val (.string x.f2)), (.val (.int .i64 x.f3))] ∧ wf_sisi x := by
  obtain ⟨b0, m0, rfl, o0, h0⟩ := h
  obtain ⟨x0, rfl, w0⟩ : ∃ z : ByteArray, b0 = .val (.string z) ∧ z.size ≤ 140737488351232 := by
    cases b0 with
    | val v => cases v <;> first | exact ⟨_, rfl, o0⟩ | exact o0.elim
    | sl r => exact o0.elim
  obtain ⟨b1, m1, rfl, o1, h1⟩ := h0
  obtain ⟨x1, rfl, w1⟩ : ∃ z : Int, b1 = .val (.int .i64 z) ∧ (Lit.int .i64 z).wf = true := by
    cases b1 with
    | val v =>
      cases v <;> first | exact o1.elim | (obtain ⟨rfl, w⟩ := o1; exact ⟨_, rfl, w⟩)
    | sl r => exact o1.elim
  obtain ⟨b2, m2, rfl, o2, h2⟩ := h1
  obtain ⟨x2, rfl, w2⟩ : ∃ z : ByteArray, b2 = .val (.string z) ∧ z.size ≤ 140737488351232 := by
    cases b2 with
    | val v => cases v <;> first | exact ⟨_, rfl, o2⟩ | exact o2.elim
    | sl r => exact o2.elim
  obtain ⟨b3, m3, rfl, o3, h3⟩ := h2
  obtain ⟨x3, rfl, w3⟩ : ∃ z : Int, b3 = .val (.int .i64 z) ∧ (Lit.int .i64 z).wf = true := by
    cases b3 with
    | val v =>
      cases v <;> first | exact o3.elim | (obtain ⟨rfl, w⟩ := o3; exact ⟨_, rfl, w⟩)
    | sl r => exact o3.elim
  obtain rfl := h3
  exact ⟨⟨x0, x1, x2, x3⟩, rfl, ⟨w0, w1, w2, w3⟩⟩
theorem uns_sisi : ∀ {rows : List (List B)}, (∀ r ∈ rows, Sh.okL [.str, .int .i64, .str, .int .i64] r) → ∃ z : List K_sisi, rows = z.map b_sisi ∧ ∀ u ∈ z, wf_sisi u
  | [], _ => ⟨[], rfl, fun u h => (by cases h)⟩
  | r :: rows, h => by
    obtain ⟨x, e, w⟩ := un_sisi (h r (List.mem_cons_self ..))
    obtain ⟨z, rfl, hz⟩ := uns_sisi (fun r hr => h r (List.mem_cons_of_mem _ hr))
    refine ⟨x :: z, by rw [e]; rfl, fun u hu => ?_⟩
    rcases List.mem_cons.1 hu with rfl | hu
    · exact w
    · exact hz u hu
def wf_LsisiEi (x : K_LsisiEi) : Prop := (x.f0.length * 48 ≤ 140737488351232 ∧ ∀ z ∈ x.f0, wf_sisi z) ∧ (Lit.int .i64 x.f1).wf = true
theorem un_LsisiEi {bs : List B} (h : Sh.okL [.sl [.str, .int .i64, .str, .int .i64] 48, .int .i64] bs) : ∃ x : K_LsisiEi, bs = [(.sl (List.map b_sisi x.f0)), (.val (.int .i64 x.f1))] ∧ wf_LsisiEi x := by
  obtain ⟨b0, m0, rfl, o0, h0⟩ := h
  obtain ⟨x0, rfl, w0⟩ : ∃ z : (List K_sisi), b0 = .sl (z.map b_sisi) ∧ z.length * 48 ≤ 140737488351232 ∧ ∀ u ∈ z, wf_sisi u := by
    cases b0 with
    | val v => cases v <;> exact o0.elim
    | sl r =>
      obtain ⟨z, rfl, hz⟩ := uns_sisi o0.2
      exact ⟨z, rfl, by simpa using o0.1, hz⟩
  obtain ⟨b1, m1, rfl, o1, h1⟩ := h0
  obtain ⟨x1, rfl, w1⟩ : ∃ z : Int, b1 = .val (.int .i64 z) ∧ (Lit.int .i64 z).wf = true := by
    cases b1 with
    | val v =>
      cases v <;> first | exact o1.elim | (obtain ⟨rfl, w⟩ := o1; exact ⟨_, rfl, w⟩)
    | sl r => exact o1.elim
  obtain rfl := h1
  exact ⟨⟨x0, x1⟩, rfl, ⟨w0, w1⟩⟩
theorem uns_LsisiEi : ∀ {rows : List (List B)}, (∀ r ∈ rows, Sh.okL [.sl [.str, .int .i64, .str, .int .i64] 48, .int .i64] r) → ∃ z : List K_LsisiEi, rows = z.map b_LsisiEi ∧ ∀ u ∈ z, wf_LsisiEi u
  | [], _ => ⟨[], rfl, fun u h => (by cases h)⟩
  | r :: rows, h => by
    obtain ⟨x, e, w⟩ := un_LsisiEi (h r (List.mem_cons_self ..))
    obtain ⟨z, rfl, hz⟩ := uns_LsisiEi (fun r hr => h r (List.mem_cons_of_mem _ hr))
    refine ⟨x :: z, by rw [e]; rfl, fun u hu => ?_⟩
    rcases List.mem_cons.1 hu with rfl | hu
    · exact w
    · exact hz u hu
theorem pure (a0 : K_LsisiEi) (a1 : K_LsisiEi) (w0 : wf_LsisiEi a0) (w1 : wf_LsisiEi a1) : m3 a0 a1 = true := by
  unfold m3
  have h : m9 a0 a1 = m7 a0 a1 := by rw [eqd9, eqd7]
  simp only [h, eqd10]
  (repeat' split) <;> (first | rfl | (simp_all; done) | (simp only [decide_eq_true_eq] at *; omega))

end Go.Proofs.Ytcbnpfnebinbkaa.SameServers
