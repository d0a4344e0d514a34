/- The plain law: what the functions compute answers as the statement says. -/
import Derived.Test.YthpmfdcmnnbjcaaETurnsTo
import Derived.Test.YthpmfdcmnnbjcaaVArgs
namespace Go.Proofs.Ythpmfdcmnnbjcaa.TurnsTo
open Go Go.Proofs.Ythpmfdcmnnbjcaa.V
set_option linter.unusedVariables false
def wf_iiiiiii (x : K_iiiiiii) : Prop := (Lit.int .i64 x.f0).wf = true ∧ (Lit.int .i64 x.f1).wf = true ∧ (Lit.int .i64 x.f2).wf = true ∧ (Lit.int .i64 x.f3).wf = true ∧ (Lit.int .i64 x.f4).wf = true ∧ (Lit.int .i64 x.f5).wf = true ∧ (Lit.int .i64 x.f6).wf = true
theorem un_iiiiiii {bs : List B} (h : Sh.okL [.int .i64, .int .i64, .int .i64, .int .i64, .int .i64, .int .i64, .int .i64] bs) : ∃ x : K_iiiiiii, bs = [(.val (.int .i64 x.f0)), (.val (.int .i64 x.f1)), (.val (.int .i64 x.f2)), (.val (.int .i64 x.f3)), (.val (.int .i64 x.f4)), (.val (.int .i64 x.f5)), (.val (.int .i64 x.f6))] ∧ wf_iiiiiii x := by
  obtain ⟨b0, m0, rfl, o0, h0⟩ := h
  obtain ⟨x0, rfl, w0⟩ : ∃ z : Int, b0 = .val (.int .i64 z) ∧ (Lit.int .i64 z).wf = true := by
    cases b0 with
    | val v =>
      cases v <;> first | exact o0.elim | (obtain ⟨rfl, w⟩ := o0; exact ⟨_, rfl, w⟩)
    | sl r => exact o0.elim
  obtain ⟨b1, m1, rfl, o1, h1⟩ := h0
  obtain ⟨x1, rfl, w1⟩ : ∃ z : Int, b1 = .val (.int .i64 z) ∧ (Lit.int .i64 z).wf = true := by
    cases b1 with
    | val v =>
      cases v <;> first | exact o1.elim | (obtain ⟨rfl, w⟩ := o1; exact ⟨_, rfl, w⟩)
    | sl r => exact o1.elim
  obtain ⟨b2, m2, rfl, o2, h2⟩ := h1
  obtain ⟨x2, rfl, w2⟩ : ∃ z : Int, b2 = .val (.int .i64 z) ∧ (Lit.int .i64 z).wf = true := by
    cases b2 with
    | val v =>
      cases v <;> first | exact o2.elim | (obtain ⟨rfl, w⟩ := o2; exact ⟨_, rfl, w⟩)
    | sl r => exact o2.elim
  obtain ⟨b3, m3, rfl, o3, h3⟩ := h2
  obtain ⟨x3, rfl, w3⟩ : ∃ z : Int, b3 = .val (.int .i64 z) ∧ (Lit.int .i64 z).wf = true := by
    cases b3 with
    | val v =>
      cases v <;> first | exact o3.elim | (obtain ⟨rfl, w⟩ := o3; exact ⟨_, rfl, w⟩)
    | sl r => exact o3.elim
  obtain ⟨b4, m4, rfl, o4, h4⟩ := h3
  obtain ⟨x4, rfl, w4⟩ : ∃ z : Int, b4 = .val (.int .i64 z) ∧ (Lit.int .i64 z).wf = true := by
    cases b4 with
    | val v =>
      cases v <;> first | exact o4.elim | (obtain ⟨rfl, w⟩ := o4; exact ⟨_, rfl, w⟩)
    | sl r => exact o4.elim
  obtain ⟨b5, m5, rfl, o5, h5⟩ := h4
  obtain ⟨x5, rfl, w5⟩ : ∃ z : Int, b5 = .val (.int .i64 z) ∧ (Lit.int .i64 z).wf = true := by
    cases b5 with
    | val v =>
      cases v <;> first | exact o5.elim | (obtain ⟨rfl, w⟩ := o5; exact ⟨_, rfl, w⟩)
    | sl r => exact o5.elim
  obtain ⟨b6, m6, rfl, o6, h6⟩ := h5
  obtain ⟨x6, rfl, w6⟩ : ∃ z : Int, b6 = .val (.int .i64 z) ∧ (Lit.int .i64 z).wf = true := by
    cases b6 with
    | val v =>
      cases v <;> first | exact o6.elim | (obtain ⟨rfl, w⟩ := o6; exact ⟨_, rfl, w⟩)
    | sl r => exact o6.elim
  obtain rfl := h6
  exact ⟨⟨x0, x1, x2, x3, x4, x5, x6⟩, rfl, ⟨w0, w1, w2, w3, w4, w5, w6⟩⟩
theorem uns_iiiiiii : ∀ {rows : List (List B)}, (∀ r ∈ rows, Sh.okL [.int .i64, .int .i64, .int .i64, .int .i64, .int .i64, .int .i64, .int .i64] r) → ∃ z : List K_iiiiiii, rows = z.map b_iiiiiii ∧ ∀ u ∈ z, wf_iiiiiii u
  | [], _ => ⟨[], rfl, fun u h => (by cases h)⟩
  | r :: rows, h => by
    obtain ⟨x, e, w⟩ := un_iiiiiii (h r (List.mem_cons_self ..))
    obtain ⟨z, rfl, hz⟩ := uns_iiiiiii (fun r hr => h r (List.mem_cons_of_mem _ hr))
    refine ⟨x :: z, by rw [e]; rfl, fun u hu => ?_⟩
    rcases List.mem_cons.1 hu with rfl | hu
    · exact w
    · exact hz u hu
def wf_i (x : Int) : Prop := (Lit.int .i64 x).wf = true
theorem un_i {bs : List B} (h : Sh.okL [.int .i64] bs) : ∃ x : Int, bs = [(.val (.int .i64 x))] ∧ wf_i x := by
  obtain ⟨b0, m0, rfl, o0, h0⟩ := h
  obtain ⟨x0, rfl, w0⟩ : ∃ z : Int, b0 = .val (.int .i64 z) ∧ (Lit.int .i64 z).wf = true := by
    cases b0 with
    | val v =>
      cases v <;> first | exact o0.elim | (obtain ⟨rfl, w⟩ := o0; exact ⟨_, rfl, w⟩)
    | sl r => exact o0.elim
  obtain rfl := h0
  exact ⟨x0, rfl, w0⟩
theorem uns_i : ∀ {rows : List (List B)}, (∀ r ∈ rows, Sh.okL [.int .i64] r) → ∃ z : List Int, rows = z.map b_i ∧ ∀ u ∈ z, wf_i u
  | [], _ => ⟨[], rfl, fun u h => (by cases h)⟩
  | r :: rows, h => by
    obtain ⟨x, e, w⟩ := un_i (h r (List.mem_cons_self ..))
    obtain ⟨z, rfl, hz⟩ := uns_i (fun r hr => h r (List.mem_cons_of_mem _ hr))
    refine ⟨x :: z, by rw [e]; rfl, fun u hu => ?_⟩
    rcases List.mem_cons.1 hu with rfl | hu
    · exact w
    · exact hz u hu
theorem i57 (a b c : Int) : m57 a b c = true ↔ b ≤ a ∧ a ≤ c := by
  unfold m57; split <;> simp_all <;> omega
theorem i60 (a b c : Int) : m60 a b c = true ↔ b ≤ a ∧ a ≤ c := by
  unfold m60; split <;> simp_all <;> omega
theorem n57 (a b c : Int) : (!(m57 a b c)) = true ↔ ¬ (b ≤ a ∧ a ≤ c) := by
  rw [← i57]; cases m57 a b c <;> simp
theorem n60 (a b c : Int) : (!(m60 a b c)) = true ↔ ¬ (b ≤ a ∧ a ≤ c) := by
  rw [← i60]; cases m60 a b c <;> simp
theorem fault_eq (a0 : K_iiiiiii) : m20 a0 = m59 a0 := by
  unfold m20 m59
  simp only [i60, n60, n57, decide_eq_true_eq]
  repeat' split
  all_goals first | rfl | omega

theorem fault_cases (a0 : K_iiiiiii) : (m59 a0 = 0 ∧ (1 ≤ a0.f1 ∧ a0.f1 ≤ 9999) ∧ (a0.f1 ≤ a0.f2 ∧ a0.f2 ≤ 9999) ∧ (a0.f1 ≤ a0.f0 ∧ a0.f0 ≤ a0.f2) ∧ (1 ≤ a0.f3 ∧ a0.f3 ≤ 999) ∧ (1 ≤ a0.f4 ∧ a0.f4 ≤ 99) ∧ (0 ≤ a0.f5 ∧ a0.f5 ≤ a0.f4 - 1) ∧ (0 ≤ a0.f6 ∧ a0.f6 ≤ 99999)) ∨ m59 a0 = 3 := by
  unfold m59
  simp only [n57]
  by_cases h : 1 ≤ a0.f4 ∧ a0.f4 ≤ 99
  · have : IntKind.wrap .i64 (a0.f4 - 1) = a0.f4 - 1 := wrap64 (by omega)
    rw [this]
    repeat' split
    all_goals first | (right; rfl) | (left; refine ⟨rfl, ?_⟩; omega)
  · right
    repeat' split
    all_goals first | rfl | omega
theorem next_eq (a0 : K_iiiiiii) (a1 : Int) (h0 : 1 ≤ a0.f0 ∧ a0.f0 ≤ 9999) (h1 : a0.f1 ≤ a0.f2) : m67 a0 a1 = m66 a0 a1 := by
  unfold m67 m66 m77 m87 vmax vmin
  have e1 : IntKind.wrap .i64 (a0.f0 + 3) = a0.f0 + 3 := wrap64 (by omega)
  have e2 : IntKind.wrap .i64 (a0.f0 + 4) = a0.f0 + 4 := wrap64 (by omega)
  have e3 : IntKind.wrap .i64 (a0.f0 + 4 - 1) = a0.f0 + 3 := by rw [wrap64 (by omega)]; omega
  have e4 : IntKind.wrap .i64 (4 * a0.f0) = 4 * a0.f0 := wrap64 (by omega)
  have e5 : IntKind.wrap .i64 (Int.tdiv (a0.f0 + 3) 4) = (a0.f0 + 3) / 4 := by
    rw [Int.tdiv_eq_ediv_of_nonneg (by omega)]; exact wrap64 (by omega)
  have e6 : (if 1 > a1 then 1 else a1) = (if decide (1 > a1) = true then 1 else a1) := by simp
  rw [e6]
  simp only [e1, e2, e3, e4, e5]
  generalize IntKind.wrap .i64 (Int.tdiv _ _) = n
  simp only [decide_eq_true_eq]
  repeat' split
  all_goals omega

theorem next_range (a0 : K_iiiiiii) (a1 : Int) (h1 : a0.f1 ≤ a0.f2) : a0.f1 ≤ m67 a0 a1 ∧ m67 a0 a1 ≤ a0.f2 := by
  unfold m67
  generalize vmax (vmin _ _) (IntKind.wrap .i64 _) = z
  unfold vmax vmin
  repeat' split
  all_goals omega
theorem min_eq (a b : Int) : vmin a b = m77 b a := by
  unfold m77 vmin; split <;> split <;> simp_all <;> omega
theorem r_eq (a : K_iiiiiii) (u t : Int) (hb : 1 ≤ a.f1 ∧ a.f1 ≤ a.f2 ∧ a.f2 ≤ 9999) : ∀ (n : Nat) (i j v : Int) (l : List Int), a.f1 ≤ v → v ≤ a.f2 →
    ∃ x L w b w' b', r40_0 a u t n i v l = .k0 x L w b ∧ r41_0 a u n j v l = .k0 x L w' b' ∧ L.length = l.length + n
  | 0, i, j, v, l, _, _ => ⟨_, _, _, _, _, _, rfl, rfl, rfl⟩
  | n + 1, i, j, v, l, h1, h2 => by
    have e := next_eq (K_iiiiiii.mk v a.f1 a.f2 a.f3 a.f4 a.f5 a.f6) (vmin (IntKind.wrap .i64 ((IntKind.wrap .i64 (a.f4 * u)) * v)) 99999) (by simp only []; omega) hb.2.1
    have g := next_range (K_iiiiiii.mk v a.f1 a.f2 a.f3 a.f4 a.f5 a.f6) (vmin (IntKind.wrap .i64 ((IntKind.wrap .i64 (a.f4 * u)) * v)) 99999) hb.2.1
    obtain ⟨x, L, w, b, w', b', q1, q2, q3⟩ := r_eq a u t hb n (i + 1) (j - 1) _ (l ++ [m67 (K_iiiiiii.mk v a.f1 a.f2 a.f3 a.f4 a.f5 a.f6) (vmin (IntKind.wrap .i64 ((IntKind.wrap .i64 (a.f4 * u)) * v)) 99999)]) g.1 g.2
    refine ⟨x, L, w, b, w', b', ?_, ?_, by simp at q3; omega⟩
    · simp only [r40_0]; exact q1
    · simp only [r41_0]
      rw [← min_eq, ← e]; exact q2
theorem turns_eq (a : K_iiiiiii) (u t : Int) : m40 a u t = m41 a u t := by
  unfold m40 m41
  rw [fault_eq]
  have e1 : (!(m60 u 1 99)) = (!(m57 u 1 99)) := by rw [show m60 u 1 99 = m57 u 1 99 by rw [Bool.eq_iff_iff, i57, i60]]
  have e2 : (!(m60 t 0 20)) = (!(m57 t 0 20)) := by rw [show m60 t 0 20 = m57 t 0 20 by rw [Bool.eq_iff_iff, i57, i60]]
  rcases fault_cases a with ⟨h, r1, r2, r3, _⟩ | h
  · rw [h, e1, e2]
    obtain ⟨x, L, w, b, w', b', q1, q2, _⟩ := r_eq a u t (by omega) (Int.toNat t) 0 t a.f0 [] r3.1 r3.2
    rw [q1, q2]
    simp
  · rw [h]; simp

def marksI : Nat → Int → List Int
  | 0, _ => []
  | n + 1, k => k :: marksI n (k + 1)
theorem marksI_length : ∀ (n : Nat) (k : Int), (marksI n k).length = n
  | 0, _ => rfl
  | n + 1, k => by simp [marksI, marksI_length n]
theorem rmarkI (a0 : List Int) : ∀ (l p q : List Int) (k : Int), q.length = l.length → 0 ≤ k → k + l.length ≤ 4611686018427387904 → ∃ i b, r79_0 a0 l (p.length : Int) (p ++ q) k = .k0 (p ++ marksI l.length k) (k + l.length) i b
  | [], p, [], k, _, _, _ => ⟨_, _, by simp [r79_0, marksI]; exact ⟨rfl, rfl⟩⟩
  | [], p, _ :: _, k, h, _, _ => by simp at h
  | _ :: _, p, [], k, h, _, _ => by simp at h
  | x :: l, p, y :: q, k, h, h0, h1 => by
    simp only [List.length_cons] at h1
    obtain ⟨i, b, ih⟩ := rmarkI a0 l (p ++ [k]) q (k + 1) (by simpa using h) (by omega) (by omega)
    refine ⟨i, b, ?_⟩
    have e : List.set (p ++ y :: q) (Int.toNat (p.length : Int)) k = (p ++ [k]) ++ q := by simp
    have e2 : ((p ++ [k]).length : Int) = (p.length : Int) + 1 := by simp
    rw [e2] at ih
    simp only [r79_0]
    rw [e, wrap64 (by omega), ih]
    simp only [List.length_cons, marksI, List.append_assoc, List.cons_append, List.nil_append]
    congr 1
    omega
theorem markI (a : List Int) (k : Int) (h0 : 0 ≤ k) (h1 : k + a.length ≤ 4611686018427387904) : m79 a k = k + a.length ∧ o79_0 a k = marksI a.length k := by
  obtain ⟨i, b, h⟩ := rmarkI a a [] a k rfl h0 h1
  simp only [List.length_nil, List.nil_append] at h
  rw [show ((0 : Nat) : Int) = 0 from rfl] at h
  unfold m79 o79_0
  rw [h]
  exact ⟨rfl, rfl⟩
theorem rheldI (a0 : List Int) : ∀ (n : Nat) (i k : Int), 0 ≤ k → k + n ≤ 4611686018427387904 → ∃ w b, r80_0 a0 (marksI n k) i k = .k0 (k + n) w b
  | 0, i, k, _, _ => ⟨_, _, by simp [r80_0, marksI]; exact ⟨rfl, rfl⟩⟩
  | n + 1, i, k, h0, h1 => by
    obtain ⟨w, b, ih⟩ := rheldI a0 n (i + 1) (k + 1) (by omega) (by omega)
    refine ⟨w, b, ?_⟩
    simp only [marksI, r80_0]
    rw [if_neg (by simp), wrap64 (by omega), ih]
    congr 1
    omega
theorem heldI (n : Nat) (k : Int) (h0 : 0 ≤ k) (h1 : k + n ≤ 4611686018427387904) : m80 (marksI n k) k = k + n := by
  obtain ⟨w, b, h⟩ := rheldI (marksI n k) n 0 k h0 h1
  unfold m80
  rw [h]

theorem pure (a0 : K_iiiiiii) (a1 : Int) (a2 : Int) (w0 : wf_iiiiiii a0) (w1 : wf_i a1) (w2 : wf_i a2) : m11 a0 a1 a2 = true := by
  have hl := len_impl a0 a1 a2
  obtain ⟨h1, h2⟩ := markI (m40 a0 a1 a2).f1 1 (by omega) (by omega)
  have h3 := heldI (m40 a0 a1 a2).f1.length 1 (by omega) (by omega)
  unfold m11 m45 m44 o44_0
  simp only []
  rw [h1, h2, h3, ← turns_eq, refl43]
  simp
  intros
  omega

end Go.Proofs.Ythpmfdcmnnbjcaa.TurnsTo
