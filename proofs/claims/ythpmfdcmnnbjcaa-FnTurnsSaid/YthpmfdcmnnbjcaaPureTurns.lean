/- The plain law: what the functions compute answers as the statement says. -/
import Derived.Test.YthpmfdcmnnbjcaaETurns
import Derived.Test.YthpmfdcmnnbjcaaVArgs
namespace Go.Proofs.Ythpmfdcmnnbjcaa.Turns
open Go Go.Proofs.Ythpmfdcmnnbjcaa.V
set_option linter.unusedVariables false
def wf_y (x : Int) : Prop := (Lit.int .u8 x).wf = true
theorem un_y {bs : List B} (h : Sh.okL [.int .u8] bs) : ∃ x : Int, bs = [(.val (.int .u8 x))] ∧ wf_y x := by
  obtain ⟨b0, m0, rfl, o0, h0⟩ := h
  obtain ⟨x0, rfl, w0⟩ : ∃ z : Int, b0 = .val (.int .u8 z) ∧ (Lit.int .u8 z).wf = true := by
    cases b0 with
    | val v =>
      cases v <;> first | exact o0.elim | (obtain ⟨rfl, w⟩ := o0; exact ⟨_, rfl, w⟩)
    | sl r => exact o0.elim
  obtain rfl := h0
  exact ⟨x0, rfl, w0⟩
theorem uns_y : ∀ {rows : List (List B)}, (∀ r ∈ rows, Sh.okL [.int .u8] r) → ∃ z : List Int, rows = z.map b_y ∧ ∀ u ∈ z, wf_y u
  | [], _ => ⟨[], rfl, fun u h => (by cases h)⟩
  | r :: rows, h => by
    obtain ⟨x, e, w⟩ := un_y (h r (List.mem_cons_self ..))
    obtain ⟨z, rfl, hz⟩ := uns_y (fun r hr => h r (List.mem_cons_of_mem _ hr))
    refine ⟨x :: z, by rw [e]; rfl, fun u hu => ?_⟩
    rcases List.mem_cons.1 hu with rfl | hu
    · exact w
    · exact hz u hu
def wf_LyE (x : (List Int)) : Prop := (x.length * 1 ≤ 140737488351232 ∧ ∀ z ∈ x, wf_y z)
theorem un_LyE {bs : List B} (h : Sh.okL [.sl [.int .u8] 1] bs) : ∃ x : (List Int), bs = [(.sl (List.map b_y x))] ∧ wf_LyE x := by
  obtain ⟨b0, m0, rfl, o0, h0⟩ := h
  obtain ⟨x0, rfl, w0⟩ : ∃ z : (List Int), b0 = .sl (z.map b_y) ∧ z.length * 1 ≤ 140737488351232 ∧ ∀ u ∈ z, wf_y u := by
    cases b0 with
    | val v => cases v <;> exact o0.elim
    | sl r =>
      obtain ⟨z, rfl, hz⟩ := uns_y o0.2
      exact ⟨z, rfl, by simpa using o0.1, hz⟩
  obtain rfl := h0
  exact ⟨x0, rfl, w0⟩
theorem uns_LyE : ∀ {rows : List (List B)}, (∀ r ∈ rows, Sh.okL [.sl [.int .u8] 1] r) → ∃ z : List (List Int), rows = z.map b_LyE ∧ ∀ u ∈ z, wf_LyE u
  | [], _ => ⟨[], rfl, fun u h => (by cases h)⟩
  | r :: rows, h => by
    obtain ⟨x, e, w⟩ := un_LyE (h r (List.mem_cons_self ..))
    obtain ⟨z, rfl, hz⟩ := uns_LyE (fun r hr => h r (List.mem_cons_of_mem _ hr))
    refine ⟨x :: z, by rw [e]; rfl, fun u hu => ?_⟩
    rcases List.mem_cons.1 hu with rfl | hu
    · exact w
    · exact hz u hu
theorem i57 (a b c : Int) : m57 a b c = true ↔ b ≤ a ∧ a ≤ c := by
  unfold m57; split <;> simp_all <;> omega
theorem i60 (a b c : Int) : m60 a b c = true ↔ b ≤ a ∧ a ≤ c := by
  unfold m60; split <;> simp_all <;> omega
theorem n57 (a b c : Int) : (!(m57 a b c)) = true ↔ ¬ (b ≤ a ∧ a ≤ c) := by
  rw [← i57]; cases m57 a b c <;> simp
theorem n60 (a b c : Int) : (!(m60 a b c)) = true ↔ ¬ (b ≤ a ∧ a ≤ c) := by
  rw [← i60]; cases m60 a b c <;> simp
theorem fault_eq (a0 : K_iiiiiii) : m20 a0 = m59 a0 := by
  unfold m20 m59
  simp only [i60, n60, n57, decide_eq_true_eq]
  repeat' split
  all_goals first | rfl | omega

theorem fault_cases (a0 : K_iiiiiii) : (m59 a0 = 0 ∧ (1 ≤ a0.f1 ∧ a0.f1 ≤ 9999) ∧ (a0.f1 ≤ a0.f2 ∧ a0.f2 ≤ 9999) ∧ (a0.f1 ≤ a0.f0 ∧ a0.f0 ≤ a0.f2) ∧ (1 ≤ a0.f3 ∧ a0.f3 ≤ 999) ∧ (1 ≤ a0.f4 ∧ a0.f4 ≤ 99) ∧ (0 ≤ a0.f5 ∧ a0.f5 ≤ a0.f4 - 1) ∧ (0 ≤ a0.f6 ∧ a0.f6 ≤ 99999)) ∨ m59 a0 = 3 := by
  unfold m59
  simp only [n57]
  by_cases h : 1 ≤ a0.f4 ∧ a0.f4 ≤ 99
  · have : IntKind.wrap .i64 (a0.f4 - 1) = a0.f4 - 1 := wrap64 (by omega)
    rw [this]
    repeat' split
    all_goals first | (right; rfl) | (left; refine ⟨rfl, ?_⟩; omega)
  · right
    repeat' split
    all_goals first | rfl | omega
theorem next_eq (a0 : K_iiiiiii) (a1 : Int) (h0 : 1 ≤ a0.f0 ∧ a0.f0 ≤ 9999) (h1 : a0.f1 ≤ a0.f2) : m67 a0 a1 = m66 a0 a1 := by
  unfold m67 m66 m77 m87 vmax vmin
  have e1 : IntKind.wrap .i64 (a0.f0 + 3) = a0.f0 + 3 := wrap64 (by omega)
  have e2 : IntKind.wrap .i64 (a0.f0 + 4) = a0.f0 + 4 := wrap64 (by omega)
  have e3 : IntKind.wrap .i64 (a0.f0 + 4 - 1) = a0.f0 + 3 := by rw [wrap64 (by omega)]; omega
  have e4 : IntKind.wrap .i64 (4 * a0.f0) = 4 * a0.f0 := wrap64 (by omega)
  have e5 : IntKind.wrap .i64 (Int.tdiv (a0.f0 + 3) 4) = (a0.f0 + 3) / 4 := by
    rw [Int.tdiv_eq_ediv_of_nonneg (by omega)]; exact wrap64 (by omega)
  have e6 : (if 1 > a1 then 1 else a1) = (if decide (1 > a1) = true then 1 else a1) := by simp
  rw [e6]
  simp only [e1, e2, e3, e4, e5]
  generalize IntKind.wrap .i64 (Int.tdiv _ _) = n
  simp only [decide_eq_true_eq]
  repeat' split
  all_goals omega

theorem next_range (a0 : K_iiiiiii) (a1 : Int) (h1 : a0.f1 ≤ a0.f2) : a0.f1 ≤ m67 a0 a1 ∧ m67 a0 a1 ≤ a0.f2 := by
  unfold m67
  generalize vmax (vmin _ _) (IntKind.wrap .i64 _) = z
  unfold vmax vmin
  repeat' split
  all_goals omega
theorem min_eq (a b : Int) : vmin a b = m77 b a := by
  unfold m77 vmin; split <;> split <;> simp_all <;> omega
theorem r_eq (a : K_iiiiiii) (u t : Int) (hb : 1 ≤ a.f1 ∧ a.f1 ≤ a.f2 ∧ a.f2 ≤ 9999) : ∀ (n : Nat) (i j v : Int) (l : List Int), a.f1 ≤ v → v ≤ a.f2 →
    ∃ x L w b w' b', r40_0 a u t n i v l = .k0 x L w b ∧ r41_0 a u n j v l = .k0 x L w' b' ∧ L.length = l.length + n
  | 0, i, j, v, l, _, _ => ⟨_, _, _, _, _, _, rfl, rfl, rfl⟩
  | n + 1, i, j, v, l, h1, h2 => by
    have e := next_eq (K_iiiiiii.mk v a.f1 a.f2 a.f3 a.f4 a.f5 a.f6) (vmin (IntKind.wrap .i64 ((IntKind.wrap .i64 (a.f4 * u)) * v)) 99999) (by simp only []; omega) hb.2.1
    have g := next_range (K_iiiiiii.mk v a.f1 a.f2 a.f3 a.f4 a.f5 a.f6) (vmin (IntKind.wrap .i64 ((IntKind.wrap .i64 (a.f4 * u)) * v)) 99999) hb.2.1
    obtain ⟨x, L, w, b, w', b', q1, q2, q3⟩ := r_eq a u t hb n (i + 1) (j - 1) _ (l ++ [m67 (K_iiiiiii.mk v a.f1 a.f2 a.f3 a.f4 a.f5 a.f6) (vmin (IntKind.wrap .i64 ((IntKind.wrap .i64 (a.f4 * u)) * v)) 99999)]) g.1 g.2
    refine ⟨x, L, w, b, w', b', ?_, ?_, by simp at q3; omega⟩
    · simp only [r40_0]; exact q1
    · simp only [r41_0]
      rw [← min_eq, ← e]; exact q2
theorem turns_eq (a : K_iiiiiii) (u t : Int) : m40 a u t = m41 a u t := by
  unfold m40 m41
  rw [fault_eq]
  have e1 : (!(m60 u 1 99)) = (!(m57 u 1 99)) := by rw [show m60 u 1 99 = m57 u 1 99 by rw [Bool.eq_iff_iff, i57, i60]]
  have e2 : (!(m60 t 0 20)) = (!(m57 t 0 20)) := by rw [show m60 t 0 20 = m57 t 0 20 by rw [Bool.eq_iff_iff, i57, i60]]
  rcases fault_cases a with ⟨h, r1, r2, r3, _⟩ | h
  · rw [h, e1, e2]
    obtain ⟨x, L, w, b, w', b', q1, q2, _⟩ := r_eq a u t (by omega) (Int.toNat t) 0 t a.f0 [] r3.1 r3.2
    rw [q1, q2]
    simp
  · rw [h]; simp

theorem fault_iff (a : K_iiiiiii) : m20 a = 0 ↔ ((1 ≤ a.f1 ∧ a.f1 ≤ 9999) ∧ (a.f1 ≤ a.f2 ∧ a.f2 ≤ 9999) ∧ (a.f1 ≤ a.f0 ∧ a.f0 ≤ a.f2) ∧ (1 ≤ a.f3 ∧ a.f3 ≤ 999) ∧ (1 ≤ a.f4 ∧ a.f4 ≤ 99) ∧ (0 ≤ a.f5 ∧ a.f5 ≤ a.f4 - 1) ∧ (0 ≤ a.f6 ∧ a.f6 ≤ 99999)) := by
  rw [fault_eq]
  constructor
  · intro h
    rcases fault_cases a with ⟨_, h2⟩ | h2
    · exact h2
    · rw [h2] at h; cases h
  · rintro ⟨h1, h2, h3, h4, h5, h6, h7⟩
    have : IntKind.wrap .i64 (a.f4 - 1) = a.f4 - 1 := wrap64 (by omega)
    unfold m59
    simp only [n57, this]
    (repeat' split) <;> first | rfl | omega
def nx (a : K_iiiiiii) (u v : Int) : Int := m67 (K_iiiiiii.mk v a.f1 a.f2 a.f3 a.f4 a.f5 a.f6) (vmin (IntKind.wrap .i64 ((IntKind.wrap .i64 (a.f4 * u)) * v)) 99999)
def itr (a : K_iiiiiii) (u : Int) : Nat → Int → Int
  | 0, v => v
  | n + 1, v => nx a u (itr a u n v)
theorem nine (a : K_iiiiiii) (u t v : Int) : ∃ w b, r40_0 a u t 9 0 v [] = .k0 (itr a u 9 v) [itr a u 1 v, itr a u 2 v, itr a u 3 v, itr a u 4 v, itr a u 5 v, itr a u 6 v, itr a u 7 v, itr a u 8 v, itr a u 9 v] w b := ⟨_, _, rfl⟩
def stp (T v lo hi : Int) : Int := vmax (vmin (vmax (vmin T (4 * v)) ((v + 3) / 4)) hi) lo
def goal (T lo hi : Int) : Int := vmax (vmin T hi) lo
def Q (g A B v : Int) : Prop := v = g ∨ (v < g ∧ A ≤ v) ∨ (g < v ∧ v ≤ B)
theorem Q_step (T v lo hi A B : Int) (hT : 0 ≤ T) (h1 : 1 ≤ lo) (h2 : lo ≤ v) (h3 : v ≤ hi) (h : Q (goal T lo hi) A B v) : Q (goal T lo hi) (4 * A) ((B + 3) / 4) (stp T v lo hi) := by
  unfold Q goal at h
  unfold Q goal stp
  unfold vmax vmin at *
  (repeat' split at h) <;> (repeat' split) <;> omega
theorem mul_le2 {a b A B : Int} (ha : 0 ≤ a) (hA : a ≤ A) (hb : 0 ≤ b) (hB : b ≤ B) : 0 ≤ a * b ∧ a * b ≤ A * B := ⟨Int.mul_nonneg ha hb, Int.mul_le_mul hA hB hb (by omega)⟩
theorem pos2 {a b : Int} (ha : 1 ≤ a) (hb : 1 ≤ b) : 1 ≤ a * b := by
  have := Int.mul_le_mul (a := 1) (b := 1) (c := a) (d := b) ha hb (by omega) (by omega)
  omega
theorem nx_eq (a : K_iiiiiii) (u v : Int) (hf : m20 a = 0) (hu : 1 ≤ u ∧ u ≤ 99) (hv : a.f1 ≤ v ∧ v ≤ a.f2) (hs : a.f4 * u * a.f2 ≤ 99999) : nx a u v = stp (a.f3 / u) v a.f1 a.f2 := by
  have hf := (fault_iff a).1 hf
  obtain ⟨p1, p2⟩ := mul_le2 (a := a.f4) (b := u) (A := 99) (B := 99) (by omega) (by omega) (by omega) (by omega)
  have p3 := pos2 (a := a.f4) (b := u) (by omega) (by omega)
  have p4 := pos2 (a := a.f4 * u) (b := v) p3 (by omega)
  have p5 : a.f4 * u * v ≤ a.f4 * u * a.f2 := Int.mul_le_mul_of_nonneg_left hv.2 p1
  obtain ⟨q1, q2⟩ := mul_le2 (a := v) (b := a.f4) (A := 9999) (B := 99) (by omega) (by omega) (by omega) (by omega)
  obtain ⟨q3, q4⟩ := mul_le2 (a := v * a.f4) (b := a.f3) (A := 9999 * 99) (B := 999) (by omega) (by omega) (by omega) (by omega)
  have q5 := pos2 (a := v) (b := a.f4) (by omega) (by omega)
  have e1 : IntKind.wrap .i64 (a.f4 * u) = a.f4 * u := wrap64 (by omega)
  have e2 : IntKind.wrap .i64 (a.f4 * u * v) = a.f4 * u * v := wrap64 (by omega)
  have e3 : vmin (a.f4 * u * v) 99999 = a.f4 * u * v := by unfold vmin; split <;> omega
  have e4 : vmax (a.f4 * u * v) 1 = a.f4 * u * v := by unfold vmax; split <;> omega
  have e5 : IntKind.wrap .i64 (v * a.f4) = v * a.f4 := wrap64 (by omega)
  have e6 : IntKind.wrap .i64 (v * a.f4 * a.f3) = v * a.f4 * a.f3 := wrap64 (by omega)
  have e7 : Int.tdiv (v * a.f4 * a.f3) (a.f4 * u * v) = a.f3 / u := by
    rw [show a.f4 * u * v = (v * a.f4) * u by rw [Int.mul_comm (a.f4 * u) v, Int.mul_assoc]]
    rw [Int.mul_tdiv_mul_of_pos _ _ (by omega), Int.tdiv_eq_ediv_of_nonneg (by omega)]
  have b1 : 0 ≤ a.f3 / u := Int.ediv_nonneg (by omega) (by omega)
  have b2 : a.f3 / u ≤ a.f3 := Int.ediv_le_self _ (by omega)
  have e8 : IntKind.wrap .i64 (a.f3 / u) = a.f3 / u := wrap64 (by omega)
  have e9 : IntKind.wrap .i64 (4 * v) = 4 * v := wrap64 (by omega)
  have e10 : IntKind.wrap .i64 (IntKind.wrap .i64 (v + 4) - 1) = v + 3 := by
    rw [wrap64 (x := v + 4) (by omega), wrap64 (by omega)]; omega
  have e11 : IntKind.wrap .i64 (Int.tdiv (v + 3) 4) = (v + 3) / 4 := by
    rw [Int.tdiv_eq_ediv_of_nonneg (by omega)]; exact wrap64 (by omega)
  unfold nx m67 stp
  simp only [e1, e2, e3, e4, e5, e6, e7, e8, e9, e10, e11]
theorem nx_range (a : K_iiiiiii) (u v : Int) (h1 : a.f1 ≤ a.f2) : a.f1 ≤ nx a u v ∧ nx a u v ≤ a.f2 := by
  unfold nx
  generalize vmin (IntKind.wrap .i64 ((IntKind.wrap .i64 (a.f4 * u)) * v)) 99999 = e
  exact next_range (K_iiiiiii.mk v a.f1 a.f2 a.f3 a.f4 a.f5 a.f6) e h1
theorem conv (a : K_iiiiiii) (u : Int) (hf : m20 a = 0) (hu : 1 ≤ u ∧ u ≤ 99) (hs : a.f4 * u * a.f2 ≤ 99999) : itr a u 9 a.f0 = goal (a.f3 / u) a.f1 a.f2 := by
  have hf' := (fault_iff a).1 hf
  have b1 : 0 ≤ a.f3 / u := Int.ediv_nonneg (by omega) (by omega)
  have key : ∀ (v A B : Int), a.f1 ≤ v → v ≤ a.f2 → Q (goal (a.f3 / u) a.f1 a.f2) A B v → a.f1 ≤ nx a u v ∧ nx a u v ≤ a.f2 ∧ Q (goal (a.f3 / u) a.f1 a.f2) (4 * A) ((B + 3) / 4) (nx a u v) := fun v A B h1 h2 h3 => by
    have hr := nx_range a u v hf'.2.1.1
    refine ⟨hr.1, hr.2, ?_⟩
    rw [nx_eq a u v hf hu ⟨h1, h2⟩ hs]
    exact Q_step _ _ _ _ _ _ b1 hf'.1.1 h1 h2 h3
  have q0 : Q (goal (a.f3 / u) a.f1 a.f2) 1 9999 a.f0 := by
    unfold Q; omega
  obtain ⟨a1, c1, q1⟩ := key _ _ _ hf'.2.2.1.1 hf'.2.2.1.2 q0
  obtain ⟨a2, c2, q2⟩ := key _ _ _ a1 c1 q1
  obtain ⟨a3, c3, q3⟩ := key _ _ _ a2 c2 q2
  obtain ⟨a4, c4, q4⟩ := key _ _ _ a3 c3 q3
  obtain ⟨a5, c5, q5⟩ := key _ _ _ a4 c4 q4
  obtain ⟨a6, c6, q6⟩ := key _ _ _ a5 c5 q5
  obtain ⟨a7, c7, q7⟩ := key _ _ _ a6 c6 q6
  obtain ⟨a8, c8, q8⟩ := key _ _ _ a7 c7 q7
  obtain ⟨a9, c9, q9⟩ := key _ _ _ a8 c8 q8
  show nx a u _ = _
  simp only [itr]
  revert a9 c9 q9
  generalize nx a u (nx a u (nx a u (nx a u (nx a u (nx a u (nx a u (nx a u (nx a u a.f0)))))))) = z
  intro a9 c9 q9
  have hg : a.f1 ≤ goal (a.f3 / u) a.f1 a.f2 := by unfold goal vmax vmin; (repeat' split) <;> omega
  unfold Q at q9
  omega
theorem m40_ok (a : K_iiiiiii) (u t : Int) (h : (m40 a u t).f0 = 0) : m20 a = 0 ∧ (1 ≤ u ∧ u ≤ 99) ∧ (0 ≤ t ∧ t ≤ 20) ∧ ((m40 a u t).f1.length : Int) = t := by
  revert h
  unfold m40
  by_cases h1 : (m20 a != 0) = true
  · rw [if_pos h1]; intro h; cases h
  rw [if_neg h1]
  by_cases h2 : (!(m60 u 1 99)) = true
  · rw [if_pos h2]; intro h; cases h
  rw [if_neg h2]
  by_cases h3 : (!(m60 t 0 20)) = true
  · rw [if_pos h3]; intro h; cases h
  rw [if_neg h3]
  intro _
  have g2 := (not_congr (n60 u 1 99)).1 h2
  have g3 := (not_congr (n60 t 0 20)).1 h3
  obtain ⟨x, L, w, b, h, e⟩ := len_r40 a u t (Int.toNat t) 0 a.f0 []
  rw [h]
  refine ⟨by simpa using h1, by omega, by omega, ?_⟩
  show (L.length : Int) = t
  simp at e
  omega
theorem m40_nine (a : K_iiiiiii) (u : Int) (h : m20 a = 0) (hu : 1 ≤ u ∧ u ≤ 99) : m40 a u 9 = K_iLiE.mk 0 [itr a u 1 a.f0, itr a u 2 a.f0, itr a u 3 a.f0, itr a u 4 a.f0, itr a u 5 a.f0, itr a u 6 a.f0, itr a u 7 a.f0, itr a u 8 a.f0, itr a u 9 a.f0] := by
  unfold m40
  rw [if_neg (by rw [h]; simp), if_neg (by rw [n60]; omega), if_neg (by rw [n60]; omega)]
  obtain ⟨w, b, e⟩ := nine a u 9 a.f0
  rw [show Int.toNat 9 = 9 from rfl, e]
theorem pure (a0 : (List Int)) (w0 : wf_LyE a0) : m10 a0 = true := by
  unfold m10
  generalize m39_0 a0 = m
  generalize m39_1 a0 = u
  generalize m39_2 a0 = t
  rw [← turns_eq]
  by_cases h0 : m38 a0 = true
  · rw [if_pos h0]
  rw [if_neg h0]
  by_cases h1 : (m40 m u t).f0 = 0
  · obtain ⟨hf, hu, ht, hl⟩ := m40_ok m u t h1
    have hf' := (fault_iff m).1 hf
    rw [if_neg (by rw [h1]; simp), if_neg (by simp only [List.length_map, hl]; simp), refl42]
    have b1 : 0 ≤ m.f3 / u := Int.ediv_nonneg (by omega) (by omega)
    have b2 : m.f3 / u ≤ m.f3 := Int.ediv_le_self _ (by omega)
    have e8 : IntKind.wrap .i64 (Int.tdiv m.f3 u) = m.f3 / u := by
      rw [Int.tdiv_eq_ediv_of_nonneg (by omega)]; exact wrap64 (by omega)
    obtain ⟨p1, p2⟩ := mul_le2 (a := m.f4) (b := u) (A := 99) (B := 99) (by omega) (by omega) (by omega) (by omega)
    obtain ⟨p3, p4⟩ := mul_le2 (a := m.f4 * u) (b := m.f2) (A := 99 * 99) (B := 9999) (by omega) (by omega) (by omega) (by omega)
    have e1 : IntKind.wrap .i64 (m.f4 * u) = m.f4 * u := wrap64 (by omega)
    have e2 : IntKind.wrap .i64 (m.f4 * u * m.f2) = m.f4 * u * m.f2 := wrap64 (by omega)
    rw [m40_nine m u hf hu, e8, e1, e2]
    by_cases hs : m.f4 * u * m.f2 ≤ 99999
    · have c := conv m u hf hu hs
      have g : ∀ x, goal (m.f3 / u) m.f1 m.f2 = x → itr m u 9 m.f0 = x := fun x hx => by rw [c, hx]
      have k1 : m.f3 / u < m.f1 → itr m u 9 m.f0 = m.f1 := fun h => g _ (by unfold goal vmax vmin; (repeat' split) <;> omega)
      have k2 : m.f3 / u > m.f2 → itr m u 9 m.f0 = m.f2 := fun h => g _ (by unfold goal vmax vmin; (repeat' split) <;> omega)
      have k3 : ¬ m.f3 / u < m.f1 → ¬ m.f3 / u > m.f2 → itr m u 9 m.f0 = m.f3 / u := fun h h' => g _ (by unfold goal vmax vmin; (repeat' split) <;> omega)
      have k4 : ¬ m.f1 > m.f2 := by omega
      have k5 : ¬ m.f4 * u * m.f2 > 99999 := by omega
      by_cases j1 : m.f3 / u < m.f1
      · simp [j1, k4, k5, k1 j1]
      · by_cases j2 : m.f3 / u > m.f2
        · simp [j1, j2, k5, k2 j2]
        · simp [j1, j2, k5, k3 j1 j2]
    · have k5 : m.f4 * u * m.f2 > 99999 := by omega
      simp [k5]
  · rw [if_pos (by simpa using h1)]
    simp

end Go.Proofs.Ythpmfdcmnnbjcaa.Turns
