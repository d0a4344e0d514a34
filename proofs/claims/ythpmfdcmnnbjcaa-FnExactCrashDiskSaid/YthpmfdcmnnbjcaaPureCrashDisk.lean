/- The plain law: what the functions compute answers as the statement says. -/
import Derived.Test.YthpmfdcmnnbjcaaECrashDisk
import Derived.Test.YthpmfdcmnnbjcaaVArgs
namespace Go.Proofs.Ythpmfdcmnnbjcaa.CrashDisk
open Go Go.Proofs.Ythpmfdcmnnbjcaa.V
set_option linter.unusedVariables false
def wf_y (x : Int) : Prop := (Lit.int .u8 x).wf = true
theorem un_y {bs : List B} (h : Sh.okL [.int .u8] bs) : ∃ x : Int, bs = [(.val (.int .u8 x))] ∧ wf_y x := by
  obtain ⟨b0, m0, rfl, o0, h0⟩ := h
  obtain ⟨x0, rfl, w0⟩ : ∃ z : Int, b0 = .val (.int .u8 z) ∧ (Lit.int .u8 z).wf = true := by
    cases b0 with
    | val v =>
      cases v <;> first | exact o0.elim | (obtain ⟨rfl, w⟩ := o0; exact ⟨_, rfl, w⟩)
    | sl r => exact o0.elim
  obtain rfl := h0
  exact ⟨x0, rfl, w0⟩
theorem uns_y : ∀ {rows : List (List B)}, (∀ r ∈ rows, Sh.okL [.int .u8] r) → ∃ z : List Int, rows = z.map b_y ∧ ∀ u ∈ z, wf_y u
  | [], _ => ⟨[], rfl, fun u h => (by cases h)⟩
  | r :: rows, h => by
    obtain ⟨x, e, w⟩ := un_y (h r (List.mem_cons_self ..))
    obtain ⟨z, rfl, hz⟩ := uns_y (fun r hr => h r (List.mem_cons_of_mem _ hr))
    refine ⟨x :: z, by rw [e]; rfl, fun u hu => ?_⟩
    rcases List.mem_cons.1 hu with rfl | hu
    · exact w
    · exact hz u hu
def wf_LyEi (x : K_LyEi) : Prop := (x.f0.length * 1 ≤ 140737488351232 ∧ ∀ z ∈ x.f0, wf_y z) ∧ (Lit.int .i64 x.f1).wf = true
theorem un_LyEi {bs : List B} (h : Sh.okL [.sl [.int .u8] 1, .int .i64] bs) : ∃ x : K_LyEi, bs = [(.sl (List.map b_y x.f0)), (.val (.int .i64 x.f1))] ∧ wf_LyEi x := by
  obtain ⟨b0, m0, rfl, o0, h0⟩ := h
  obtain ⟨x0, rfl, w0⟩ : ∃ z : (List Int), b0 = .sl (z.map b_y) ∧ z.length * 1 ≤ 140737488351232 ∧ ∀ u ∈ z, wf_y u := by
    cases b0 with
    | val v => cases v <;> exact o0.elim
    | sl r =>
      obtain ⟨z, rfl, hz⟩ := uns_y o0.2
      exact ⟨z, rfl, by simpa using o0.1, hz⟩
  obtain ⟨b1, m1, rfl, o1, h1⟩ := h0
  obtain ⟨x1, rfl, w1⟩ : ∃ z : Int, b1 = .val (.int .i64 z) ∧ (Lit.int .i64 z).wf = true := by
    cases b1 with
    | val v =>
      cases v <;> first | exact o1.elim | (obtain ⟨rfl, w⟩ := o1; exact ⟨_, rfl, w⟩)
    | sl r => exact o1.elim
  obtain rfl := h1
  exact ⟨⟨x0, x1⟩, rfl, ⟨w0, w1⟩⟩
theorem uns_LyEi : ∀ {rows : List (List B)}, (∀ r ∈ rows, Sh.okL [.sl [.int .u8] 1, .int .i64] r) → ∃ z : List K_LyEi, rows = z.map b_LyEi ∧ ∀ u ∈ z, wf_LyEi u
  | [], _ => ⟨[], rfl, fun u h => (by cases h)⟩
  | r :: rows, h => by
    obtain ⟨x, e, w⟩ := un_LyEi (h r (List.mem_cons_self ..))
    obtain ⟨z, rfl, hz⟩ := uns_LyEi (fun r hr => h r (List.mem_cons_of_mem _ hr))
    refine ⟨x :: z, by rw [e]; rfl, fun u hu => ?_⟩
    rcases List.mem_cons.1 hu with rfl | hu
    · exact w
    · exact hz u hu
def wf_i (x : Int) : Prop := (Lit.int .i64 x).wf = true
theorem un_i {bs : List B} (h : Sh.okL [.int .i64] bs) : ∃ x : Int, bs = [(.val (.int .i64 x))] ∧ wf_i x := by
  obtain ⟨b0, m0, rfl, o0, h0⟩ := h
  obtain ⟨x0, rfl, w0⟩ : ∃ z : Int, b0 = .val (.int .i64 z) ∧ (Lit.int .i64 z).wf = true := by
    cases b0 with
    | val v =>
      cases v <;> first | exact o0.elim | (obtain ⟨rfl, w⟩ := o0; exact ⟨_, rfl, w⟩)
    | sl r => exact o0.elim
  obtain rfl := h0
  exact ⟨x0, rfl, w0⟩
theorem uns_i : ∀ {rows : List (List B)}, (∀ r ∈ rows, Sh.okL [.int .i64] r) → ∃ z : List Int, rows = z.map b_i ∧ ∀ u ∈ z, wf_i u
  | [], _ => ⟨[], rfl, fun u h => (by cases h)⟩
  | r :: rows, h => by
    obtain ⟨x, e, w⟩ := un_i (h r (List.mem_cons_self ..))
    obtain ⟨z, rfl, hz⟩ := uns_i (fun r hr => h r (List.mem_cons_of_mem _ hr))
    refine ⟨x :: z, by rw [e]; rfl, fun u hu => ?_⟩
    rcases List.mem_cons.1 hu with rfl | hu
    · exact w
    · exact hz u hu
theorem i57 (a b c : Int) : m57 a b c = true ↔ b ≤ a ∧ a ≤ c := by
  unfold m57; split <;> simp_all <;> omega
theorem i60 (a b c : Int) : m60 a b c = true ↔ b ≤ a ∧ a ≤ c := by
  unfold m60; split <;> simp_all <;> omega
theorem e5760 (a b c : Int) : m60 a b c = m57 a b c := by
  rw [Bool.eq_iff_iff, i57, i60]

def marksY : Nat → Int → List Int
  | 0, _ => []
  | n + 1, k => IntKind.wrap .u8 k :: marksY n (k + 1)
theorem marksY_length : ∀ (n : Nat) (k : Int), (marksY n k).length = n
  | 0, _ => rfl
  | n + 1, k => by simp [marksY, marksY_length n]
theorem rmarkY (a0 : List Int) : ∀ (l p q : List Int) (k : Int), q.length = l.length → 0 ≤ k → k + l.length ≤ 4611686018427387904 → ∃ i b, r83_0 a0 l (p.length : Int) (p ++ q) k = .k0 (p ++ marksY l.length k) (k + l.length) i b
  | [], p, [], k, _, _, _ => ⟨_, _, by simp [r83_0, marksY]; exact ⟨rfl, rfl⟩⟩
  | [], p, _ :: _, k, h, _, _ => by simp at h
  | _ :: _, p, [], k, h, _, _ => by simp at h
  | x :: l, p, y :: q, k, h, h0, h1 => by
    simp only [List.length_cons] at h1
    obtain ⟨i, b, ih⟩ := rmarkY a0 l (p ++ [IntKind.wrap .u8 k]) q (k + 1) (by simpa using h) (by omega) (by omega)
    refine ⟨i, b, ?_⟩
    have e : List.set (p ++ y :: q) (Int.toNat (p.length : Int)) (IntKind.wrap .u8 k) = (p ++ [IntKind.wrap .u8 k]) ++ q := by simp
    have e2 : ((p ++ [IntKind.wrap .u8 k]).length : Int) = (p.length : Int) + 1 := by simp
    rw [e2] at ih
    simp only [r83_0]
    rw [e, wrap64 (by omega), ih]
    simp only [List.length_cons, marksY, List.append_assoc, List.cons_append, List.nil_append]
    congr 1
    omega
theorem markY (a : List Int) (k : Int) (h0 : 0 ≤ k) (h1 : k + a.length ≤ 4611686018427387904) : m83 a k = k + a.length ∧ o83_0 a k = marksY a.length k := by
  obtain ⟨i, b, h⟩ := rmarkY a a [] a k rfl h0 h1
  simp only [List.length_nil, List.nil_append] at h
  rw [show ((0 : Nat) : Int) = 0 from rfl] at h
  unfold m83 o83_0
  rw [h]
  exact ⟨rfl, rfl⟩
theorem rheldY (a0 : List Int) : ∀ (n : Nat) (i k : Int), 0 ≤ k → k + n ≤ 4611686018427387904 → ∃ w b, r93_0 a0 (marksY n k) i k = .k0 (k + n) w b
  | 0, i, k, _, _ => ⟨_, _, by simp [r93_0, marksY]; exact ⟨rfl, rfl⟩⟩
  | n + 1, i, k, h0, h1 => by
    obtain ⟨w, b, ih⟩ := rheldY a0 n (i + 1) (k + 1) (by omega) (by omega)
    refine ⟨w, b, ?_⟩
    simp only [marksY, r93_0]
    rw [if_neg (by simp), wrap64 (by omega), ih]
    congr 1
    omega
theorem heldY (n : Nat) (k : Int) (h0 : 0 ≤ k) (h1 : k + n ≤ 4611686018427387904) : m93 (marksY n k) k = k + n := by
  obtain ⟨w, b, h⟩ := rheldY (marksY n k) n 0 k h0 h1
  unfold m93
  rw [h]
theorem diskMark (d : K_iLyEi) (h : d.f1.length ≤ 140737488351232) : m50 d 1 = 1 + d.f1.length ∧ m51 (K_iLyEi.mk d.f0 (o50_0 d 1) d.f2) 1 = 1 + d.f1.length := by
  obtain ⟨h1, h2⟩ := markY d.f1 1 (by omega) (by omega)
  have h3 := heldY d.f1.length 1 (by omega) (by omega)
  constructor
  · unfold m50 m49; exact h1
  · unfold m51 m84 o50_0 o49_0
    simp only []
    rw [h2, h3]
    rw [if_neg (by simp; omega), if_neg (by simp; omega)]
theorem dMark (d : K_LyEi) (h : d.f0.length ≤ 140737488351232) : ¬ m49 d 1 < 0 := by
  obtain ⟨h1, h2⟩ := markY d.f0 1 (by omega) (by omega)
  unfold m49; rw [h1]; omega

theorem min_eq (a b : Int) : m77 a b = vmin a b := by
  unfold m77 vmin; split <;> split <;> simp_all <;> omega
theorem pure (a0 : K_LyEi) (a1 : Int) (w0 : wf_LyEi a0) (w1 : wf_i a1) : m14 a0 a1 = true := by
  have h : m27 a0 = m63 a0 := by
    unfold m27 m63
    rw [e5760]
  have hs : m56 a0 a1 = m55 a0 a1 := by
    unfold m56 m55 m86
    rw [h]; simp only [min_eq, List.nil_append]
  have hb := w0.1
  have hl := len_impl a0 a1
  obtain ⟨h1, h2⟩ := diskMark (m56 a0 a1) (by omega)
  have h3 := dMark a0 (by omega)
  unfold m14
  rw [hs] at h1 h2 ⊢
  rw [h1, h2, refl28, refl48]
  simp [h3]
  intros
  omega

end Go.Proofs.Ythpmfdcmnnbjcaa.CrashDisk
