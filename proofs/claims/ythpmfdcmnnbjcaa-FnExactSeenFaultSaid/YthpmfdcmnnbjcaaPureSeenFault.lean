/- The plain law: what the functions compute answers as the statement says. -/
import Derived.Test.YthpmfdcmnnbjcaaESeenFault
import Derived.Test.YthpmfdcmnnbjcaaVArgs
namespace Go.Proofs.Ythpmfdcmnnbjcaa.SeenFault
open Go Go.Proofs.Ythpmfdcmnnbjcaa.V
set_option linter.unusedVariables false
def wf_iiii (x : K_iiii) : Prop := (Lit.int .i64 x.f0).wf = true ∧ (Lit.int .i64 x.f1).wf = true ∧ (Lit.int .i64 x.f2).wf = true ∧ (Lit.int .i64 x.f3).wf = true
theorem un_iiii {bs : List B} (h : Sh.okL [.int .i64, .int .i64, .int .i64, .int .i64] bs) : ∃ x : K_iiii, bs = [(.val (.int .i64 x.f0)), (.val (.int .i64 x.f1)), (.val (.int .i64 x.f2)), (.val (.int .i64 x.f3))] ∧ wf_iiii x := by
  obtain ⟨b0, m0, rfl, o0, h0⟩ := h
  obtain ⟨x0, rfl, w0⟩ : ∃ z : Int, b0 = .val (.int .i64 z) ∧ (Lit.int .i64 z).wf = true := by
    cases b0 with
    | val v =>
      cases v <;> first | exact o0.elim | (obtain ⟨rfl, w⟩ := o0; exact ⟨_, rfl, w⟩)
    | sl r => exact o0.elim
  obtain ⟨b1, m1, rfl, o1, h1⟩ := h0
  obtain ⟨x1, rfl, w1⟩ : ∃ z : Int, b1 = .val (.int .i64 z) ∧ (Lit.int .i64 z).wf = true := by
    cases b1 with
    | val v =>
      cases v <;> first | exact o1.elim | (obtain ⟨rfl, w⟩ := o1; exact ⟨_, rfl, w⟩)
    | sl r => exact o1.elim
  obtain ⟨b2, m2, rfl, o2, h2⟩ := h1
  obtain ⟨x2, rfl, w2⟩ : ∃ z : Int, b2 = .val (.int .i64 z) ∧ (Lit.int .i64 z).wf = true := by
    cases b2 with
    | val v =>
      cases v <;> first | exact o2.elim | (obtain ⟨rfl, w⟩ := o2; exact ⟨_, rfl, w⟩)
    | sl r => exact o2.elim
  obtain ⟨b3, m3, rfl, o3, h3⟩ := h2
  obtain ⟨x3, rfl, w3⟩ : ∃ z : Int, b3 = .val (.int .i64 z) ∧ (Lit.int .i64 z).wf = true := by
    cases b3 with
    | val v =>
      cases v <;> first | exact o3.elim | (obtain ⟨rfl, w⟩ := o3; exact ⟨_, rfl, w⟩)
    | sl r => exact o3.elim
  obtain rfl := h3
  exact ⟨⟨x0, x1, x2, x3⟩, rfl, ⟨w0, w1, w2, w3⟩⟩
theorem uns_iiii : ∀ {rows : List (List B)}, (∀ r ∈ rows, Sh.okL [.int .i64, .int .i64, .int .i64, .int .i64] r) → ∃ z : List K_iiii, rows = z.map b_iiii ∧ ∀ u ∈ z, wf_iiii u
  | [], _ => ⟨[], rfl, fun u h => (by cases h)⟩
  | r :: rows, h => by
    obtain ⟨x, e, w⟩ := un_iiii (h r (List.mem_cons_self ..))
    obtain ⟨z, rfl, hz⟩ := uns_iiii (fun r hr => h r (List.mem_cons_of_mem _ hr))
    refine ⟨x :: z, by rw [e]; rfl, fun u hu => ?_⟩
    rcases List.mem_cons.1 hu with rfl | hu
    · exact w
    · exact hz u hu
def wf_LiiiiE (x : (List K_iiii)) : Prop := (x.length * 32 ≤ 140737488351232 ∧ ∀ z ∈ x, wf_iiii z)
theorem un_LiiiiE {bs : List B} (h : Sh.okL [.sl [.int .i64, .int .i64, .int .i64, .int .i64] 32] bs) : ∃ x : (List K_iiii), bs = [(.sl (List.map b_iiii x))] ∧ wf_LiiiiE x := by
  obtain ⟨b0, m0, rfl, o0, h0⟩ := h
  obtain ⟨x0, rfl, w0⟩ : ∃ z : (List K_iiii), b0 = .sl (z.map b_iiii) ∧ z.length * 32 ≤ 140737488351232 ∧ ∀ u ∈ z, wf_iiii u := by
    cases b0 with
    | val v => cases v <;> exact o0.elim
    | sl r =>
      obtain ⟨z, rfl, hz⟩ := uns_iiii o0.2
      exact ⟨z, rfl, by simpa using o0.1, hz⟩
  obtain rfl := h0
  exact ⟨x0, rfl, w0⟩
theorem uns_LiiiiE : ∀ {rows : List (List B)}, (∀ r ∈ rows, Sh.okL [.sl [.int .i64, .int .i64, .int .i64, .int .i64] 32] r) → ∃ z : List (List K_iiii), rows = z.map b_LiiiiE ∧ ∀ u ∈ z, wf_LiiiiE u
  | [], _ => ⟨[], rfl, fun u h => (by cases h)⟩
  | r :: rows, h => by
    obtain ⟨x, e, w⟩ := un_LiiiiE (h r (List.mem_cons_self ..))
    obtain ⟨z, rfl, hz⟩ := uns_LiiiiE (fun r hr => h r (List.mem_cons_of_mem _ hr))
    refine ⟨x :: z, by rw [e]; rfl, fun u hu => ?_⟩
    rcases List.mem_cons.1 hu with rfl | hu
    · exact w
    · exact hz u hu
theorem i57 (a b c : Int) : m57 a b c = true ↔ b ≤ a ∧ a ≤ c := by
  unfold m57; split <;> simp_all <;> omega
theorem i60 (a b c : Int) : m60 a b c = true ↔ b ≤ a ∧ a ≤ c := by
  unfold m60; split <;> simp_all <;> omega
theorem e5760 (a b c : Int) : m60 a b c = m57 a b c := by
  rw [Bool.eq_iff_iff, i57, i60]

theorem bc (a b : Int) : (a == b) = (b == a) := by rw [Bool.eq_iff_iff]; simp only [beq_iff_eq]; exact eq_comm
theorem key_eq (x : K_iiii) : m70 x = m88 x := by
  unfold m70 m88; simp only [e5760]
theorem has_eq (c c' : List K_iiii) (k : K_iiii) : ∀ (l : List K_iiii) (i j : Int), 0 ≤ i →
    (∃ w, r91_0 c k l i = .k1 w ∧ 0 ≤ w ∧ r89_0 c' k l j = .k1) ∨ (∃ u v p q, r91_0 c k l i = .k0 u v ∧ r89_0 c' k l j = .k0 p q)
  | [], i, j, _ => .inr ⟨_, _, _, _, rfl, rfl⟩
  | x :: l, i, j, h => by
    have ih := has_eq c c' k l (i + 1) (j + 1) (by omega)
    simp only [r91_0, r89_0, bc k.f0, bc k.f1, bc k.f2, bc k.f3]
    by_cases e : ((x.f0 == k.f0) && ((x.f1 == k.f1) && ((x.f2 == k.f2) && ((x.f3 == k.f3) && true)))) = true
    · simp only [if_pos e]
      exact .inl ⟨i, rfl, h, trivial⟩
    · simp only [if_neg e]
      exact ih
theorem contains_eq (l : List K_iiii) (k : K_iiii) : decide (m91 l k ≥ 0) = m89 l k := by
  unfold m91 m89
  rcases has_eq l l k l 0 0 (by omega) with ⟨w, h1, h2, h3⟩ | ⟨u, v, p, q, h1, h2⟩
  · rw [h1, h3]; simpa using h2
  · rw [h1, h2]; rfl
theorem seen_eq (a : List K_iiii) : ∀ (l : List K_iiii) (i : Int), (match r34_0 a l i with | .k0 _ _ => (0 : Int) | .k1 => 3 | .k2 => 6) = (match r68_0 a l i with | .k0 _ _ => 0 | .k1 => 3 | .k2 => 6)
  | [], i => rfl
  | x :: l, i => by
    have ih := seen_eq a l (i + 1)
    simp only [r34_0, r68_0, key_eq, contains_eq]
    by_cases h1 : (!(m88 x)) = true
    · simp only [if_pos h1]
    · simp only [if_neg h1]
      by_cases h2 : m89 (List.take (Int.toNat i) a) x = true
      · simp only [if_pos h2]
      · simp only [if_neg h2]; exact ih
theorem pure (a0 : (List K_iiii)) (w0 : wf_LiiiiE a0) : m8 a0 = true := by
  have h : m34 a0 = m68 a0 := by
    unfold m34 m68
    have e := seen_eq a0 a0 0
    revert e
    cases r34_0 a0 a0 0 <;> cases r68_0 a0 a0 0 <;> simp
  unfold m8
  rw [h, refl35]
  simp

end Go.Proofs.Ythpmfdcmnnbjcaa.SeenFault
