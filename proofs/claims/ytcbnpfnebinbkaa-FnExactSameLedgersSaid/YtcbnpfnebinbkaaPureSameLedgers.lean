/- The plain law: what the functions compute answers as the statement says. -/
import Derived.Test.YtcbnpfnebinbkaaESameLedgers
import Derived.Test.YtcbnpfnebinbkaaVArgs
namespace Go.Proofs.Ytcbnpfnebinbkaa.SameLedgers
open Go Go.Proofs.Ytcbnpfnebinbkaa.V
set_option linter.unusedVariables false
def wf_si (x : K_si) : Prop := x.f0.size ≤ 140737488351232 ∧ (Lit.int .i64 x.f1).wf = true
theorem un_si {bs : List B} (h : Sh.okL [.str, .int .i64] bs) : ∃ x : K_si, bs = [(.val (.string x.f0)), (.val (.int .i64 x.f1))] ∧ wf_si x := by
  obtain ⟨b0, m0, rfl, o0, h0⟩ := h
  obtain ⟨x0, rfl, w0⟩ : ∃ z : ByteArray, b0 = .val (.string z) ∧ z.size ≤ 140737488351232 := by
    cases b0 with
    | val v => cases v <;> first | exact ⟨_, rfl, o0⟩ | exact o0.elim
    | sl r => exact o0.elim
  obtain ⟨b1, m1, rfl, o1, h1⟩ := h0
  obtain ⟨x1, rfl, w1⟩ : ∃ z : Int, b1 = .val (.int .i64 z) ∧ (Lit.int .i64 z).wf = true := by
    cases b1 with
    | val v =>
      cases v <;> first | exact o1.elim | (obtain ⟨rfl, w⟩ := o1; exact ⟨_, rfl, w⟩)
    | sl r => exact o1.elim
  obtain rfl := h1
  exact ⟨⟨x0, x1⟩, rfl, ⟨w0, w1⟩⟩
theorem uns_si : ∀ {rows : List (List B)}, (∀ r ∈ rows, Sh.okL [.str, .int .i64] r) → ∃ z : List K_si, rows = z.map b_si ∧ ∀ u ∈ z, wf_si u
  | [], _ => ⟨[], rfl, fun u h => (by cases h)⟩
  | r :: rows, h => by
    obtain ⟨x, e, w⟩ := un_si (h r (List.mem_cons_self ..))
    obtain ⟨z, rfl, hz⟩ := uns_si (fun r hr => h r (List.mem_cons_of_mem _ hr))
    refine ⟨x :: z, by rw [e]; rfl, fun u hu => ?_⟩
    rcases List.mem_cons.1 hu with rfl | hu
    · exact w
    · exact hz u hu
def wf_iiiLsiEi (x : K_iiiLsiEi) : Prop := (Lit.int .i64 x.f0).wf = true ∧ (Lit.int .i64 x.f1).wf = true ∧ (Lit.int .i64 x.f2).wf = true ∧ (x.f3.length * 24 ≤ 140737488351232 ∧ ∀ z ∈ x.f3, wf_si z) ∧ (Lit.int .i64 x.f4).wf = true
theorem un_iiiLsiEi {bs : List B} (h : Sh.okL [.int .i64, .int .i64, .int .i64, .sl [.str, .int .i64] 24, .int .i64] bs) : ∃ x : K_iiiLsiEi, bs = [(.val (.int .i64 x.f0)), (.val (.int .i64 x.f1)), (.val (.int .i64 x.f2)), (.sl (List.map b_si x.f3)), (.val (.int .i64 x.f4))] ∧ wf_iiiLsiEi x := by
  obtain ⟨b0, m0, rfl, o0, h0⟩ := h
  obtain ⟨x0, rfl, w0⟩ : ∃ z : Int, b0 = .val (.int .i64 z) ∧ (Lit.int .i64 z).wf = true := by
    cases b0 with
    | val v =>
      cases v <;> first | exact o0.elim | (obtain ⟨rfl, w⟩ := o0; exact ⟨_, rfl, w⟩)
    | sl r => exact o0.elim
  obtain ⟨b1, m1, rfl, o1, h1⟩ := h0
  obtain ⟨x1, rfl, w1⟩ : ∃ z : Int, b1 = .val (.int .i64 z) ∧ (Lit.int .i64 z).wf = true := by
    cases b1 with
    | val v =>
      cases v <;> first | exact o1.elim | (obtain ⟨rfl, w⟩ := o1; exact ⟨_, rfl, w⟩)
    | sl r => exact o1.elim
  obtain ⟨b2, m2, rfl, o2, h2⟩ := h1
  obtain ⟨x2, rfl, w2⟩ : ∃ z : Int, b2 = .val (.int .i64 z) ∧ (Lit.int .i64 z).wf = true := by
    cases b2 with
    | val v =>
      cases v <;> first | exact o2.elim | (obtain ⟨rfl, w⟩ := o2; exact ⟨_, rfl, w⟩)
    | sl r => exact o2.elim
  obtain ⟨b3, m3, rfl, o3, h3⟩ := h2
  obtain ⟨x3, rfl, w3⟩ : ∃ z : (List K_si), b3 = .sl (z.map b_si) ∧ z.length * 24 ≤ 140737488351232 ∧ ∀ u ∈ z, wf_si u := by
    cases b3 with
    | val v => cases v <;> exact o3.elim
    | sl r =>
      obtain ⟨z, rfl, hz⟩ := uns_si o3.2
      exact ⟨z, rfl, by simpa using o3.1, hz⟩
  obtain ⟨b4, m4, rfl, o4, h4⟩ := h3
  obtain ⟨x4, rfl, w4⟩ : ∃ z : Int, b4 = .val (.int .i64 z) ∧ (Lit.int .i64 z).wf = true := by
    cases b4 with
    | val v =>
      cases v <;> first | exact o4.elim | (obtain ⟨rfl, w⟩ := o4; exact ⟨_, rfl, w⟩)
    | sl r => exact o4.elim
  obtain rfl := h4
  exact ⟨⟨x0, x1, x2, x3, x4⟩, rfl, ⟨w0, w1, w2, w3, w4⟩⟩
theorem ok_wf_iiiLsiEi (x : K_iiiLsiEi) (w : wf_iiiLsiEi x) : ok_iiiLsiEi x := w.2.2.2.1.1
theorem uns_iiiLsiEi : ∀ {rows : List (List B)}, (∀ r ∈ rows, Sh.okL [.int .i64, .int .i64, .int .i64, .sl [.str, .int .i64] 24, .int .i64] r) → ∃ z : List K_iiiLsiEi, rows = z.map b_iiiLsiEi ∧ ∀ u ∈ z, wf_iiiLsiEi u
  | [], _ => ⟨[], rfl, fun u h => (by cases h)⟩
  | r :: rows, h => by
    obtain ⟨x, e, w⟩ := un_iiiLsiEi (h r (List.mem_cons_self ..))
    obtain ⟨z, rfl, hz⟩ := uns_iiiLsiEi (fun r hr => h r (List.mem_cons_of_mem _ hr))
    refine ⟨x :: z, by rw [e]; rfl, fun u hu => ?_⟩
    rcases List.mem_cons.1 hu with rfl | hu
    · exact w
    · exact hz u hu
def wf_iiLsiELiiiLsiEiELsiEiii (x : K_iiLsiELiiiLsiEiELsiEiii) : Prop := (Lit.int .i64 x.f0).wf = true ∧ (Lit.int .i64 x.f1).wf = true ∧ (x.f2.length * 24 ≤ 140737488351232 ∧ ∀ z ∈ x.f2, wf_si z) ∧ (x.f3.length * 56 ≤ 140737488351232 ∧ ∀ z ∈ x.f3, wf_iiiLsiEi z) ∧ (x.f4.length * 24 ≤ 140737488351232 ∧ ∀ z ∈ x.f4, wf_si z) ∧ (Lit.int .i64 x.f5).wf = true ∧ (Lit.int .i64 x.f6).wf = true ∧ (Lit.int .i64 x.f7).wf = true
theorem un_iiLsiELiiiLsiEiELsiEiii {bs : List B} (h : Sh.okL [.int .i64, .int .i64, .sl [.str, .int .i64] 24, .sl [.int .i64, .int .i64, .int .i64, .sl [.str, .int .i64] 24, .int .i64] 56, .sl [.str, .int .i64] 24, .int .i64, .int .i64, .int .i64] bs) : ∃ x : K_iiLsiELiiiLsiEiELsiEiii, bs = [(.val (.int .i64 x.f0)), (.val (.int .i64 x.f1)), (.sl (List.map b_si x.f2)), (.sl (List.map b_iiiLsiEi x.f3)), (.sl (List.map b_si x.f4)), (.val (.int .i64 x.f5)), (.val (.int .i64 x.f6)), (.val (.int .i64 x.f7))] ∧ wf_iiLsiELiiiLsiEiELsiEiii x := by
  obtain ⟨b0, m0, rfl, o0, h0⟩ := h
  obtain ⟨x0, rfl, w0⟩ : ∃ z : Int, b0 = .val (.int .i64 z) ∧ (Lit.int .i64 z).wf = true := by
    cases b0 with
    | val v =>
      cases v <;> first | exact o0.elim | (obtain ⟨rfl, w⟩ := o0; exact ⟨_, rfl, w⟩)
    | sl r => exact o0.elim
  obtain ⟨b1, m1, rfl, o1, h1⟩ := h0
  obtain ⟨x1, rfl, w1⟩ : ∃ z : Int, b1 = .val (.int .i64 z) ∧ (Lit.int .i64 z).wf = true := by
    cases b1 with
    | val v =>
      cases v <;> first | exact o1.elim | (obtain ⟨rfl, w⟩ := o1; exact ⟨_, rfl, w⟩)
    | sl r => exact o1.elim
  obtain ⟨b2, m2, rfl, o2, h2⟩ := h1
  obtain ⟨x2, rfl, w2⟩ : ∃ z : (List K_si), b2 = .sl (z.map b_si) ∧ z.length * 24 ≤ 140737488351232 ∧ ∀ u ∈ z, wf_si u := by
    cases b2 with
    | val v => cases v <;> exact o2.elim
    | sl r =>
      obtain ⟨z, rfl, hz⟩ := uns_si o2.2
      exact ⟨z, rfl, by simpa using o2.1, hz⟩
  obtain ⟨b3, m3, rfl, o3, h3⟩ := h2
  obtain ⟨x3, rfl, w3⟩ : ∃ z : (List K_iiiLsiEi), b3 = .sl (z.map b_iiiLsiEi) ∧ z.length * 56 ≤ 140737488351232 ∧ ∀ u ∈ z, wf_iiiLsiEi u := by
    cases b3 with
    | val v => cases v <;> exact o3.elim
    | sl r =>
      obtain ⟨z, rfl, hz⟩ := uns_iiiLsiEi o3.2
      exact ⟨z, rfl, by simpa using o3.1, hz⟩
  obtain ⟨b4, m4, rfl, o4, h4⟩ := h3
  obtain ⟨x4, rfl, w4⟩ : ∃ z : (List K_si), b4 = .sl (z.map b_si) ∧ z.length * 24 ≤ 140737488351232 ∧ ∀ u ∈ z, wf_si u := by
    cases b4 with
    | val v => cases v <;> exact o4.elim
    | sl r =>
      obtain ⟨z, rfl, hz⟩ := uns_si o4.2
      exact ⟨z, rfl, by simpa using o4.1, hz⟩
  obtain ⟨b5, m5, rfl, o5, h5⟩ := h4
  obtain ⟨x5, rfl, w5⟩ : ∃ z : Int, b5 = .val (.int .i64 z) ∧ (Lit.int .i64 z).wf = true := by
    cases b5 with
    | val v =>
      cases v <;> first | exact o5.elim | (obtain ⟨rfl, w⟩ := o5; exact ⟨_, rfl, w⟩)
    | sl r => exact o5.elim
  obtain ⟨b6, m6, rfl, o6, h6⟩ := h5
  obtain ⟨x6, rfl, w6⟩ : ∃ z : Int, b6 = .val (.int .i64 z) ∧ (Lit.int .i64 z).wf = true := by
    cases b6 with
    | val v =>
      cases v <;> first | exact o6.elim | (obtain ⟨rfl, w⟩ := o6; exact ⟨_, rfl, w⟩)
    | sl r => exact o6.elim
  obtain ⟨b7, m7, rfl, o7, h7⟩ := h6
  obtain ⟨x7, rfl, w7⟩ : ∃ z : Int, b7 = .val (.int .i64 z) ∧ (Lit.int .i64 z).wf = true := by
    cases b7 with
    | val v =>
      cases v <;> first | exact o7.elim | (obtain ⟨rfl, w⟩ := o7; exact ⟨_, rfl, w⟩)
    | sl r => exact o7.elim
  obtain rfl := h7
  exact ⟨⟨x0, x1, x2, x3, x4, x5, x6, x7⟩, rfl, ⟨w0, w1, w2, w3, w4, w5, w6, w7⟩⟩
theorem ok_wf_iiLsiELiiiLsiEiELsiEiii (x : K_iiLsiELiiiLsiEiELsiEiii) (w : wf_iiLsiELiiiLsiEiELsiEiii x) : ok_iiLsiELiiiLsiEiELsiEiii x := ⟨w.2.2.1.1, w.2.2.2.1.1, fun z hz => ok_wf_iiiLsiEi z (w.2.2.2.1.2 z hz), w.2.2.2.2.1.1⟩
theorem uns_iiLsiELiiiLsiEiELsiEiii : ∀ {rows : List (List B)}, (∀ r ∈ rows, Sh.okL [.int .i64, .int .i64, .sl [.str, .int .i64] 24, .sl [.int .i64, .int .i64, .int .i64, .sl [.str, .int .i64] 24, .int .i64] 56, .sl [.str, .int .i64] 24, .int .i64, .int .i64, .int .i64] r) → ∃ z : List K_iiLsiELiiiLsiEiELsiEiii, rows = z.map b_iiLsiELiiiLsiEiELsiEiii ∧ ∀ u ∈ z, wf_iiLsiELiiiLsiEiELsiEiii u
  | [], _ => ⟨[], rfl, fun u h => (by cases h)⟩
  | r :: rows, h => by
    obtain ⟨x, e, w⟩ := un_iiLsiELiiiLsiEiELsiEiii (h r (List.mem_cons_self ..))
    obtain ⟨z, rfl, hz⟩ := uns_iiLsiELiiiLsiEiELsiEiii (fun r hr => h r (List.mem_cons_of_mem _ hr))
    refine ⟨x :: z, by rw [e]; rfl, fun u hu => ?_⟩
    rcases List.mem_cons.1 hu with rfl | hu
    · exact w
    · exact hz u hu
theorem pure (a0 : K_iiLsiELiiiLsiEiELsiEiii) (a1 : K_iiLsiELiiiLsiEiELsiEiii) (w0 : wf_iiLsiELiiiLsiEiELsiEiii a0) (w1 : wf_iiLsiELiiiLsiEiELsiEiii a1) : m5 a0 a1 = true := by
  unfold m5
  have h : m19 a0 a1 = m17 a0 a1 := by rw [eqd19, eqd17]
  simp only [h, eqd20]
  (repeat' split) <;> (first | rfl | (simp_all; done) | (simp only [decide_eq_true_eq] at *; omega))

end Go.Proofs.Ytcbnpfnebinbkaa.SameLedgers
