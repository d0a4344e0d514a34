/- The plain law: what the functions compute answers as the statement says. -/
import Derived.Test.YthpmfdcmnnbjcaaEMeters
import Derived.Test.YthpmfdcmnnbjcaaVArgs
namespace Go.Proofs.Ythpmfdcmnnbjcaa.Meters
open Go Go.Proofs.Ythpmfdcmnnbjcaa.V
set_option linter.unusedVariables false
def wf_y (x : Int) : Prop := (Lit.int .u8 x).wf = true
theorem un_y {bs : List B} (h : Sh.okL [.int .u8] bs) : ∃ x : Int, bs = [(.val (.int .u8 x))] ∧ wf_y x := by
  obtain ⟨b0, m0, rfl, o0, h0⟩ := h
  obtain ⟨x0, rfl, w0⟩ : ∃ z : Int, b0 = .val (.int .u8 z) ∧ (Lit.int .u8 z).wf = true := by
    cases b0 with
    | val v =>
      cases v <;> first | exact o0.elim | (obtain ⟨rfl, w⟩ := o0; exact ⟨_, rfl, w⟩)
    | sl r => exact o0.elim
  obtain rfl := h0
  exact ⟨x0, rfl, w0⟩
theorem uns_y : ∀ {rows : List (List B)}, (∀ r ∈ rows, Sh.okL [.int .u8] r) → ∃ z : List Int, rows = z.map b_y ∧ ∀ u ∈ z, wf_y u
  | [], _ => ⟨[], rfl, fun u h => (by cases h)⟩
  | r :: rows, h => by
    obtain ⟨x, e, w⟩ := un_y (h r (List.mem_cons_self ..))
    obtain ⟨z, rfl, hz⟩ := uns_y (fun r hr => h r (List.mem_cons_of_mem _ hr))
    refine ⟨x :: z, by rw [e]; rfl, fun u hu => ?_⟩
    rcases List.mem_cons.1 hu with rfl | hu
    · exact w
    · exact hz u hu
def wf_LyE (x : (List Int)) : Prop := (x.length * 1 ≤ 140737488351232 ∧ ∀ z ∈ x, wf_y z)
theorem un_LyE {bs : List B} (h : Sh.okL [.sl [.int .u8] 1] bs) : ∃ x : (List Int), bs = [(.sl (List.map b_y x))] ∧ wf_LyE x := by
  obtain ⟨b0, m0, rfl, o0, h0⟩ := h
  obtain ⟨x0, rfl, w0⟩ : ∃ z : (List Int), b0 = .sl (z.map b_y) ∧ z.length * 1 ≤ 140737488351232 ∧ ∀ u ∈ z, wf_y u := by
    cases b0 with
    | val v => cases v <;> exact o0.elim
    | sl r =>
      obtain ⟨z, rfl, hz⟩ := uns_y o0.2
      exact ⟨z, rfl, by simpa using o0.1, hz⟩
  obtain rfl := h0
  exact ⟨x0, rfl, w0⟩
theorem uns_LyE : ∀ {rows : List (List B)}, (∀ r ∈ rows, Sh.okL [.sl [.int .u8] 1] r) → ∃ z : List (List Int), rows = z.map b_LyE ∧ ∀ u ∈ z, wf_LyE u
  | [], _ => ⟨[], rfl, fun u h => (by cases h)⟩
  | r :: rows, h => by
    obtain ⟨x, e, w⟩ := un_LyE (h r (List.mem_cons_self ..))
    obtain ⟨z, rfl, hz⟩ := uns_LyE (fun r hr => h r (List.mem_cons_of_mem _ hr))
    refine ⟨x :: z, by rw [e]; rfl, fun u hu => ?_⟩
    rcases List.mem_cons.1 hu with rfl | hu
    · exact w
    · exact hz u hu
theorem i57 (a b c : Int) : m57 a b c = true ↔ b ≤ a ∧ a ≤ c := by
  unfold m57; split <;> simp_all <;> omega
theorem i60 (a b c : Int) : m60 a b c = true ↔ b ≤ a ∧ a ≤ c := by
  unfold m60; split <;> simp_all <;> omega
theorem n57 (a b c : Int) : (!(m57 a b c)) = true ↔ ¬ (b ≤ a ∧ a ≤ c) := by
  rw [← i57]; cases m57 a b c <;> simp
theorem n60 (a b c : Int) : (!(m60 a b c)) = true ↔ ¬ (b ≤ a ∧ a ≤ c) := by
  rw [← i60]; cases m60 a b c <;> simp
theorem fault_eq (a0 : K_iiiiiii) : m20 a0 = m59 a0 := by
  unfold m20 m59
  simp only [i60, n60, n57, decide_eq_true_eq]
  repeat' split
  all_goals first | rfl | omega

theorem fault_cases (a0 : K_iiiiiii) : (m59 a0 = 0 ∧ (1 ≤ a0.f1 ∧ a0.f1 ≤ 9999) ∧ (a0.f1 ≤ a0.f2 ∧ a0.f2 ≤ 9999) ∧ (a0.f1 ≤ a0.f0 ∧ a0.f0 ≤ a0.f2) ∧ (1 ≤ a0.f3 ∧ a0.f3 ≤ 999) ∧ (1 ≤ a0.f4 ∧ a0.f4 ≤ 99) ∧ (0 ≤ a0.f5 ∧ a0.f5 ≤ a0.f4 - 1) ∧ (0 ≤ a0.f6 ∧ a0.f6 ≤ 99999)) ∨ m59 a0 = 3 := by
  unfold m59
  simp only [n57]
  by_cases h : 1 ≤ a0.f4 ∧ a0.f4 ≤ 99
  · have : IntKind.wrap .i64 (a0.f4 - 1) = a0.f4 - 1 := wrap64 (by omega)
    rw [this]
    repeat' split
    all_goals first | (right; rfl) | (left; refine ⟨rfl, ?_⟩; omega)
  · right
    repeat' split
    all_goals first | rfl | omega
theorem next_eq (a0 : K_iiiiiii) (a1 : Int) (h0 : 1 ≤ a0.f0 ∧ a0.f0 ≤ 9999) (h1 : a0.f1 ≤ a0.f2) : m67 a0 a1 = m66 a0 a1 := by
  unfold m67 m66 m77 m87 vmax vmin
  have e1 : IntKind.wrap .i64 (a0.f0 + 3) = a0.f0 + 3 := wrap64 (by omega)
  have e2 : IntKind.wrap .i64 (a0.f0 + 4) = a0.f0 + 4 := wrap64 (by omega)
  have e3 : IntKind.wrap .i64 (a0.f0 + 4 - 1) = a0.f0 + 3 := by rw [wrap64 (by omega)]; omega
  have e4 : IntKind.wrap .i64 (4 * a0.f0) = 4 * a0.f0 := wrap64 (by omega)
  have e5 : IntKind.wrap .i64 (Int.tdiv (a0.f0 + 3) 4) = (a0.f0 + 3) / 4 := by
    rw [Int.tdiv_eq_ediv_of_nonneg (by omega)]; exact wrap64 (by omega)
  have e6 : (if 1 > a1 then 1 else a1) = (if decide (1 > a1) = true then 1 else a1) := by simp
  rw [e6]
  simp only [e1, e2, e3, e4, e5]
  generalize IntKind.wrap .i64 (Int.tdiv _ _) = n
  simp only [decide_eq_true_eq]
  repeat' split
  all_goals omega

theorem fault_iff (a : K_iiiiiii) : m20 a = 0 ↔ ((1 ≤ a.f1 ∧ a.f1 ≤ 9999) ∧ (a.f1 ≤ a.f2 ∧ a.f2 ≤ 9999) ∧ (a.f1 ≤ a.f0 ∧ a.f0 ≤ a.f2) ∧ (1 ≤ a.f3 ∧ a.f3 ≤ 999) ∧ (1 ≤ a.f4 ∧ a.f4 ≤ 99) ∧ (0 ≤ a.f5 ∧ a.f5 ≤ a.f4 - 1) ∧ (0 ≤ a.f6 ∧ a.f6 ≤ 99999)) := by
  rw [fault_eq]
  constructor
  · intro h
    rcases fault_cases a with ⟨_, h2⟩ | h2
    · exact h2
    · rw [h2] at h; cases h
  · rintro ⟨h1, h2, h3, h4, h5, h6, h7⟩
    have : IntKind.wrap .i64 (a.f4 - 1) = a.f4 - 1 := wrap64 (by omega)
    unfold m59
    simp only [n57, this]
    (repeat' split) <;> first | rfl | omega
theorem next_range (a0 : K_iiiiiii) (a1 : Int) (h1 : a0.f1 ≤ a0.f2) : a0.f1 ≤ m67 a0 a1 ∧ m67 a0 a1 ≤ a0.f2 := by
  unfold m67
  generalize vmax (vmin _ _) (IntKind.wrap .i64 _) = z
  unfold vmax vmin
  (repeat' split) <;> omega
theorem feed_eq (a0 : K_iiiiiii) (a1 : Int) : m37 a0 a1 = m36 a0 a1 := by
  unfold m37 m36
  rw [fault_eq]
  rcases fault_cases a0 with ⟨h, r1, r2, r3, _⟩ | h
  · have : (!(m60 a1 a0.f6 99999)) = (!(m57 a1 a0.f6 99999)) := by
      have e : m60 a1 a0.f6 99999 = m57 a1 a0.f6 99999 := by
        rw [Bool.eq_iff_iff, i57, i60]
      rw [e]
    rw [h, this]
    unfold m73
    rw [next_eq _ _ (by simp only; omega) (by simp only; omega)]
    simp
  · rw [h]; simp
theorem feed_ok (a0 : K_iiiiiii) (a1 : Int) (h : (m37 a0 a1).f0 = 0) : m20 (K_iiiiiii.mk (m37 a0 a1).f2 (m37 a0 a1).f3 (m37 a0 a1).f4 (m37 a0 a1).f5 (m37 a0 a1).f6 (m37 a0 a1).f7 (m37 a0 a1).f8) = 0 := by
  revert h
  unfold m37
  by_cases h1 : (m20 a0 != 0) = true
  · rw [if_pos h1]; intro h; cases h
  · rw [if_neg h1]
    by_cases h2 : (!(m60 a1 a0.f6 99999)) = true
    · rw [if_pos h2]; intro h; cases h
    · rw [if_neg h2]
      have hf := (fault_iff a0).1 (by simpa using h1)
      have ht := (not_congr (n60 a1 a0.f6 99999)).1 h2
      have ew : IntKind.wrap .i64 (a0.f5 + 1) = a0.f5 + 1 := wrap64 (by omega)
      have g := next_range (K_iiiiiii.mk a0.f0 a0.f1 a0.f2 a0.f3 a0.f4 (IntKind.wrap .i64 (a0.f5 + 1)) a0.f6) (IntKind.wrap .i64 (a1 - a0.f6)) hf.2.1.1
      by_cases h3 : (decide ((IntKind.wrap .i64 (a0.f5 + 1)) < a0.f4)) = true
      · rw [if_pos h3]; intro _
        rw [fault_iff]
        rw [ew] at h3 ⊢
        simp only [decide_eq_true_eq] at h3
        simp only
        omega
      · rw [if_neg h3]; intro _
        rw [fault_iff]
        simp only at g ⊢
        omega
theorem new_eq (a0 a1 a2 a3 : Int) : m22 a0 a1 a2 a3 = m21 a0 a1 a2 a3 := by
  unfold m22 m21; rw [fault_eq]
theorem new_ok (a b c d : Int) (h : (m22 a b c d).f0 = 0) : (m22 a b c d).f2 = a ∧ m20 (K_iiiiiii.mk (m22 a b c d).f2 (m22 a b c d).f3 (m22 a b c d).f4 (m22 a b c d).f5 (m22 a b c d).f6 (m22 a b c d).f7 (m22 a b c d).f8) = 0 := by
  revert h
  unfold m22
  by_cases h1 : ((m20 (K_iiiiiii.mk a a b c d 0 0)) != 0) = true
  · rw [if_pos h1]
    intro h; simp only at h; simp [h] at h1
  · rw [if_neg h1]
    intro _
    exact ⟨rfl, by simpa using h1⟩
theorem lev_eq (a0 : K_iiiiiii) (a1 : Int) : (m29 a0 a1).f0 = (m30 a0 a1).f0 ∧ ((m30 a0 a1).f0 = 0 → (m30 a0 a1).f1 = (m29 a0 a1).f1) := by
  unfold m30 m29
  rw [fault_eq]
  rcases fault_cases a0 with ⟨h, r1, r2, r3, _⟩ | h
  · have e : (!(m60 a1 0 99999)) = (!(m57 a1 0 99999)) := by
      rw [show m60 a1 0 99999 = m57 a1 0 99999 by rw [Bool.eq_iff_iff, i57, i60]]
    rw [h, e, next_eq a0 a1 (by omega) (by omega)]
    simp
  · rw [h]; simp
theorem mul_le3 {a b c A B C : Int} (ha : 0 ≤ a) (hA : a ≤ A) (hb : 0 ≤ b) (hB : b ≤ B) (hc : 0 ≤ c) (hC : c ≤ C) : 0 ≤ a * b ∧ a * b ≤ A * B ∧ 0 ≤ a * b * c ∧ a * b * c ≤ A * B * C := by
  have h1 := Int.mul_nonneg ha hb
  have h2 := Int.mul_le_mul hA hB hb (by omega)
  have h3 := Int.mul_nonneg h1 hc
  have h4 := Int.mul_le_mul h2 hC hc (by omega)
  exact ⟨h1, h2, h3, h4⟩
theorem step_same (a : K_iiiiiii) (h : m20 a = 0) (hs : ¬ (decide ((IntKind.wrap .i64 (a.f4 * a.f3)) > 99999)) = true) : (m30 a (IntKind.wrap .i64 (a.f4 * a.f3))).f1 = a.f0 := by
  have hf := (fault_iff a).1 h
  obtain ⟨p1, p2, p3, p4⟩ := mul_le3 (a := a.f0) (b := a.f4) (c := a.f3) (A := 9999) (B := 99) (C := 999) (by omega) (by omega) (by omega) (by omega) (by omega) (by omega)
  obtain ⟨q1, q2, _, _⟩ := mul_le3 (a := a.f4) (b := a.f3) (c := 0) (A := 99) (B := 999) (C := 0) (by omega) (by omega) (by omega) (by omega) (by omega) (by omega)
  have q3 : 1 ≤ a.f4 * a.f3 := by
    have := Int.mul_le_mul (a := 1) (b := 1) (c := a.f4) (d := a.f3) (by omega) (by omega) (by omega) (by omega)
    omega
  have e0 : IntKind.wrap .i64 (a.f4 * a.f3) = a.f4 * a.f3 := wrap64 (by omega)
  rw [e0] at hs ⊢
  simp only [decide_eq_true_eq] at hs
  unfold m30
  rw [if_neg (by rw [h]; simp), if_neg (by rw [n60]; omega)]
  show m67 a (a.f4 * a.f3) = a.f0
  unfold m67
  have e1 : IntKind.wrap .i64 (a.f0 * a.f4) = a.f0 * a.f4 := wrap64 (by omega)
  have e2 : IntKind.wrap .i64 (a.f0 * a.f4 * a.f3) = a.f0 * a.f4 * a.f3 := wrap64 (by omega)
  have e3 : vmax (a.f4 * a.f3) 1 = a.f4 * a.f3 := by unfold vmax; split <;> omega
  have e4 : Int.tdiv (a.f0 * a.f4 * a.f3) (a.f4 * a.f3) = a.f0 := by
    rw [Int.mul_assoc]; exact Int.mul_tdiv_cancel _ (by omega)
  have e5 : IntKind.wrap .i64 a.f0 = a.f0 := wrap64 (by omega)
  have e6 : IntKind.wrap .i64 (4 * a.f0) = 4 * a.f0 := wrap64 (by omega)
  have e7 : IntKind.wrap .i64 (IntKind.wrap .i64 (a.f0 + 4) - 1) = a.f0 + 3 := by
    rw [wrap64 (x := a.f0 + 4) (by omega), wrap64 (by omega)]; omega
  have e8 : IntKind.wrap .i64 (Int.tdiv (a.f0 + 3) 4) = (a.f0 + 3) / 4 := by
    rw [Int.tdiv_eq_ediv_of_nonneg (by omega)]; exact wrap64 (by omega)
  simp only [e1, e2, e3, e4, e5, e6, e7, e8]
  unfold vmax vmin
  (repeat' split) <;> omega
theorem lev_ok (a : K_iiiiiii) (t : Int) (h : (m30 a t).f0 = 0) : m20 a = 0 ∧ a.f1 ≤ (m30 a t).f1 ∧ (m30 a t).f1 ≤ a.f2 ∧ (m30 a t).f1 ≤ 4 * a.f0 ∧ a.f0 ≤ 4 * (m30 a t).f1 := by
  revert h
  unfold m30
  by_cases h1 : (m20 a != 0) = true
  · rw [if_pos h1]; intro h; cases h
  · rw [if_neg h1]
    by_cases h2 : (!(m60 t 0 99999)) = true
    · rw [if_pos h2]; intro h; cases h
    · rw [if_neg h2]
      intro _
      have h0 : m20 a = 0 := by simpa using h1
      have hf := (fault_iff a).1 h0
      refine ⟨h0, ?_⟩
      show a.f1 ≤ m67 a t ∧ m67 a t ≤ a.f2 ∧ m67 a t ≤ 4 * a.f0 ∧ a.f0 ≤ 4 * m67 a t
      unfold m67
      have e6 : IntKind.wrap .i64 (4 * a.f0) = 4 * a.f0 := wrap64 (by omega)
      have e7 : IntKind.wrap .i64 (IntKind.wrap .i64 (a.f0 + 4) - 1) = a.f0 + 3 := by
        rw [wrap64 (x := a.f0 + 4) (by omega), wrap64 (by omega)]; omega
      have e8 : IntKind.wrap .i64 (Int.tdiv (a.f0 + 3) 4) = (a.f0 + 3) / 4 := by
        rw [Int.tdiv_eq_ediv_of_nonneg (by omega)]; exact wrap64 (by omega)
      simp only [e6, e7, e8]
      generalize IntKind.wrap .i64 (Int.tdiv _ _) = z
      unfold vmax vmin
      (repeat' split) <;> omega
theorem pure (a0 : (List Int)) (w0 : wf_LyE a0) : m13 a0 = true := by
  unfold m13
  simp only [feed_eq, new_eq]
  generalize m53_0 a0 = x
  generalize m53_1 a0 = t
  generalize m54_0 a0 = a
  generalize m54_1 a0 = b
  generalize m54_2 a0 = c
  generalize m54_3 a0 = d
  generalize m52_0 a0 = m
  generalize m52_1 a0 = e
  have hfeed := feed_ok x t
  rw [feed_eq] at hfeed
  have hnew0 := new_ok a b c d
  rw [new_eq] at hnew0
  have hnewA : (m21 a b c d).f0 = 0 → (m21 a b c d).f2 = a := fun h => (hnew0 h).1
  have hnewB : (m21 a b c d).f0 = 0 → m20 (K_iiiiiii.mk a (m21 a b c d).f3 (m21 a b c d).f4 (m21 a b c d).f5 (m21 a b c d).f6 (m21 a b c d).f7 (m21 a b c d).f8) = 0 := fun h => by
    have := (hnew0 h).2
    rw [hnewA h] at this; exact this
  clear hnew0
  have hl := lev_eq m e
  have hlo := lev_ok m e
  have hss := step_same m
  by_cases g0 : m38 a0 = true
  · simp [g0]
  · by_cases g3 : (m30 m e).f0 = 0
    · obtain ⟨k1, k2, k3, k4, k5⟩ := hlo g3
      have hf := (fault_iff m).1 k1
      have w1 : IntKind.wrap .i64 (4 * m.f0) = 4 * m.f0 := wrap64 (by omega)
      have w2 : IntKind.wrap .i64 (4 * (m30 m e).f1) = 4 * (m30 m e).f1 := wrap64 (by omega)
      have hss' : 99999 < IntKind.wrap .i64 (m.f4 * m.f3) ∨ (m30 m (IntKind.wrap .i64 (m.f4 * m.f3))).f1 = m.f0 := by
        by_cases h : 99999 < IntKind.wrap .i64 (m.f4 * m.f3)
        · exact .inl h
        · exact .inr (hss k1 (by simpa using h))
      clear hss
      have hl2 := hl.2 g3
      by_cases g1 : (m36 x t).f0 = 0 <;> by_cases g2 : (m21 a b c d).f0 = 0 <;>
        simp_all
    · have hl1 := hl.1
      have hfe := fault_eq m
      by_cases g1 : (m36 x t).f0 = 0 <;> by_cases g2 : (m21 a b c d).f0 = 0 <;> simp_all

end Go.Proofs.Ythpmfdcmnnbjcaa.Meters
