/- The plain law: what the functions compute answers as the statement says. -/
import Derived.Test.YtfmkbpiobddhdaaDoorEFoundReward
import Derived.Test.YtfmkbpiobddhdaaDoorVArgs
namespace Go.Proofs.YtfmkbpiobddhdaaDoor.FoundReward
open Go Go.Proofs.YtfmkbpiobddhdaaDoor.V
set_option linter.unusedVariables false
set_option maxRecDepth 20000
def wf_si (x : K_si) : Prop := x.f0.size ≤ 140737488351232 ∧ (Lit.int .i64 x.f1).wf = true
theorem un_si {bs : List B} (h : Sh.okL [.str, .int .i64] bs) : ∃ x : K_si, bs = [(.val (.string x.f0)), (.val (.int .i64 x.f1))] ∧ wf_si x := by
 obtain ⟨b0, m0, rfl, o0, h0⟩ := h
 obtain ⟨x0, rfl, w0⟩ : ∃ z : ByteArray, b0 = .val (.string z) ∧ z.size ≤ 140737488351232 := by
  cases b0 with
  | val v => cases v <;> first | exact ⟨_, rfl, o0⟩ | exact o0.elim
  | sl r => exact o0.elim
 obtain ⟨b1, m1, rfl, o1, h1⟩ := h0
 obtain ⟨x1, rfl, w1⟩ : ∃ z : Int, b1 = .val (.int .i64 z) ∧ (Lit.int .i64 z).wf = true := by
  cases b1 with
  | val v =>
   cases v <;> first | exact o1.elim | (obtain ⟨rfl, w⟩ := o1; exact ⟨_, rfl, w⟩)
  | sl r => exact o1.elim
 obtain rfl := h1
 exact ⟨⟨x0, x1⟩, rfl, ⟨w0, w1⟩⟩
theorem os_wf_si (x : K_si) (w : wf_si x) : os_si x := w.1
theorem uns_si : ∀ {rows : List (List B)}, (∀ r ∈ rows, Sh.okL [.str, .int .i64] r) → ∃ z : List K_si, rows = z.map b_si ∧ ∀ u ∈ z, wf_si u
 | [], _ => ⟨[], rfl, fun u h => (by cases h)⟩
 | r :: rows, h => by
  obtain ⟨x, e, w⟩ := un_si (h r (List.mem_cons_self ..))
  obtain ⟨z, rfl, hz⟩ := uns_si (fun r hr => h r (List.mem_cons_of_mem _ hr))
  refine ⟨x :: z, by rw [e]; rfl, fun u hu => ?_⟩
  rcases List.mem_cons.1 hu with rfl | hu
  ·exact w
  ·exact hz u hu
def wf_R (x : K_R) : Prop := (Lit.int .i64 x.f0).wf = true ∧ (Lit.int .i64 x.f1).wf = true ∧ (Lit.int .i64 x.f2).wf = true ∧ (x.f3.length * 24 ≤ 140737488351232 ∧ ∀ z ∈ x.f3, wf_si z) ∧ (Lit.int .i64 x.f4).wf = true
theorem un_R {bs : List B} (h : Sh.okL [.int .i64, .int .i64, .int .i64, .sl [.str, .int .i64] 24, .int .i64] bs) : ∃ x : K_R, bs = [(.val (.int .i64 x.f0)), (.val (.int .i64 x.f1)), (.val (.int .i64 x.f2)), (.sl (List.map b_si x.f3)), (.val (.int .i64 x.f4))] ∧ wf_R x := by
 obtain ⟨b0, m0, rfl, o0, h0⟩ := h
 obtain ⟨x0, rfl, w0⟩ : ∃ z : Int, b0 = .val (.int .i64 z) ∧ (Lit.int .i64 z).wf = true := by
  cases b0 with
  | val v =>
   cases v <;> first | exact o0.elim | (obtain ⟨rfl, w⟩ := o0; exact ⟨_, rfl, w⟩)
  | sl r => exact o0.elim
 obtain ⟨b1, m1, rfl, o1, h1⟩ := h0
 obtain ⟨x1, rfl, w1⟩ : ∃ z : Int, b1 = .val (.int .i64 z) ∧ (Lit.int .i64 z).wf = true := by
  cases b1 with
  | val v =>
   cases v <;> first | exact o1.elim | (obtain ⟨rfl, w⟩ := o1; exact ⟨_, rfl, w⟩)
  | sl r => exact o1.elim
 obtain ⟨b2, m2, rfl, o2, h2⟩ := h1
 obtain ⟨x2, rfl, w2⟩ : ∃ z : Int, b2 = .val (.int .i64 z) ∧ (Lit.int .i64 z).wf = true := by
  cases b2 with
  | val v =>
   cases v <;> first | exact o2.elim | (obtain ⟨rfl, w⟩ := o2; exact ⟨_, rfl, w⟩)
  | sl r => exact o2.elim
 obtain ⟨b3, m3, rfl, o3, h3⟩ := h2
 obtain ⟨x3, rfl, w3⟩ : ∃ z : (List K_si), b3 = .sl (z.map b_si) ∧ z.length * 24 ≤ 140737488351232 ∧ ∀ u ∈ z, wf_si u := by
  cases b3 with
  | val v => cases v <;> exact o3.elim
  | sl r =>
   obtain ⟨z, rfl, hz⟩ := uns_si o3.2
   exact ⟨z, rfl, by simpa using o3.1, hz⟩
 obtain ⟨b4, m4, rfl, o4, h4⟩ := h3
 obtain ⟨x4, rfl, w4⟩ : ∃ z : Int, b4 = .val (.int .i64 z) ∧ (Lit.int .i64 z).wf = true := by
  cases b4 with
  | val v =>
   cases v <;> first | exact o4.elim | (obtain ⟨rfl, w⟩ := o4; exact ⟨_, rfl, w⟩)
  | sl r => exact o4.elim
 obtain rfl := h4
 exact ⟨⟨x0, x1, x2, x3, x4⟩, rfl, ⟨w0, w1, w2, w3, w4⟩⟩
theorem ok_wf_R (x : K_R) (w : wf_R x) : ok_R x := w.2.2.2.1.1
theorem os_wf_R (x : K_R) (w : wf_R x) : os_R x := ⟨w.2.2.2.1.1, fun z hz => os_wf_si z (w.2.2.2.1.2 z hz)⟩
theorem uns_R : ∀ {rows : List (List B)}, (∀ r ∈ rows, Sh.okL [.int .i64, .int .i64, .int .i64, .sl [.str, .int .i64] 24, .int .i64] r) → ∃ z : List K_R, rows = z.map b_R ∧ ∀ u ∈ z, wf_R u
 | [], _ => ⟨[], rfl, fun u h => (by cases h)⟩
 | r :: rows, h => by
  obtain ⟨x, e, w⟩ := un_R (h r (List.mem_cons_self ..))
  obtain ⟨z, rfl, hz⟩ := uns_R (fun r hr => h r (List.mem_cons_of_mem _ hr))
  refine ⟨x :: z, by rw [e]; rfl, fun u hu => ?_⟩
  rcases List.mem_cons.1 hu with rfl | hu
  ·exact w
  ·exact hz u hu
def wf_B (x : K_B) : Prop := (Lit.int .i64 x.f0).wf = true ∧ (Lit.int .i64 x.f1).wf = true ∧ (x.f2.length * 24 ≤ 140737488351232 ∧ ∀ z ∈ x.f2, wf_si z) ∧ (x.f3.length * 56 ≤ 140737488351232 ∧ ∀ z ∈ x.f3, wf_R z) ∧ (x.f4.length * 24 ≤ 140737488351232 ∧ ∀ z ∈ x.f4, wf_si z) ∧ (Lit.int .i64 x.f5).wf = true ∧ (Lit.int .i64 x.f6).wf = true ∧ (Lit.int .i64 x.f7).wf = true
theorem un_B {bs : List B} (h : Sh.okL [.int .i64, .int .i64, .sl [.str, .int .i64] 24, .sl [.int .i64, .int .i64, .int .i64, .sl [.str, .int .i64] 24, .int .i64] 56, .sl [.str, .int .i64] 24, .int .i64, .int .i64, .int .i64] bs) : ∃ x : K_B, bs = [(.val (.int .i64 x.f0)), (.val (.int .i64 x.f1)), (.sl (List.map b_si x.f2)), (.sl (List.map b_R x.f3)), (.sl (List.map b_si x.f4)), (.val (.int .i64 x.f5)), (.val (.int .i64 x.f6)), (.val (.int .i64 x.f7))] ∧ wf_B x := by
 obtain ⟨b0, m0, rfl, o0, h0⟩ := h
 obtain ⟨x0, rfl, w0⟩ : ∃ z : Int, b0 = .val (.int .i64 z) ∧ (Lit.int .i64 z).wf = true := by
  cases b0 with
  | val v =>
   cases v <;> first | exact o0.elim | (obtain ⟨rfl, w⟩ := o0; exact ⟨_, rfl, w⟩)
  | sl r => exact o0.elim
 obtain ⟨b1, m1, rfl, o1, h1⟩ := h0
 obtain ⟨x1, rfl, w1⟩ : ∃ z : Int, b1 = .val (.int .i64 z) ∧ (Lit.int .i64 z).wf = true := by
  cases b1 with
  | val v =>
   cases v <;> first | exact o1.elim | (obtain ⟨rfl, w⟩ := o1; exact ⟨_, rfl, w⟩)
  | sl r => exact o1.elim
 obtain ⟨b2, m2, rfl, o2, h2⟩ := h1
 obtain ⟨x2, rfl, w2⟩ : ∃ z : (List K_si), b2 = .sl (z.map b_si) ∧ z.length * 24 ≤ 140737488351232 ∧ ∀ u ∈ z, wf_si u := by
  cases b2 with
  | val v => cases v <;> exact o2.elim
  | sl r =>
   obtain ⟨z, rfl, hz⟩ := uns_si o2.2
   exact ⟨z, rfl, by simpa using o2.1, hz⟩
 obtain ⟨b3, m3, rfl, o3, h3⟩ := h2
 obtain ⟨x3, rfl, w3⟩ : ∃ z : (List K_R), b3 = .sl (z.map b_R) ∧ z.length * 56 ≤ 140737488351232 ∧ ∀ u ∈ z, wf_R u := by
  cases b3 with
  | val v => cases v <;> exact o3.elim
  | sl r =>
   obtain ⟨z, rfl, hz⟩ := uns_R o3.2
   exact ⟨z, rfl, by simpa using o3.1, hz⟩
 obtain ⟨b4, m4, rfl, o4, h4⟩ := h3
 obtain ⟨x4, rfl, w4⟩ : ∃ z : (List K_si), b4 = .sl (z.map b_si) ∧ z.length * 24 ≤ 140737488351232 ∧ ∀ u ∈ z, wf_si u := by
  cases b4 with
  | val v => cases v <;> exact o4.elim
  | sl r =>
   obtain ⟨z, rfl, hz⟩ := uns_si o4.2
   exact ⟨z, rfl, by simpa using o4.1, hz⟩
 obtain ⟨b5, m5, rfl, o5, h5⟩ := h4
 obtain ⟨x5, rfl, w5⟩ : ∃ z : Int, b5 = .val (.int .i64 z) ∧ (Lit.int .i64 z).wf = true := by
  cases b5 with
  | val v =>
   cases v <;> first | exact o5.elim | (obtain ⟨rfl, w⟩ := o5; exact ⟨_, rfl, w⟩)
  | sl r => exact o5.elim
 obtain ⟨b6, m6, rfl, o6, h6⟩ := h5
 obtain ⟨x6, rfl, w6⟩ : ∃ z : Int, b6 = .val (.int .i64 z) ∧ (Lit.int .i64 z).wf = true := by
  cases b6 with
  | val v =>
   cases v <;> first | exact o6.elim | (obtain ⟨rfl, w⟩ := o6; exact ⟨_, rfl, w⟩)
  | sl r => exact o6.elim
 obtain ⟨b7, m7, rfl, o7, h7⟩ := h6
 obtain ⟨x7, rfl, w7⟩ : ∃ z : Int, b7 = .val (.int .i64 z) ∧ (Lit.int .i64 z).wf = true := by
  cases b7 with
  | val v =>
   cases v <;> first | exact o7.elim | (obtain ⟨rfl, w⟩ := o7; exact ⟨_, rfl, w⟩)
  | sl r => exact o7.elim
 obtain rfl := h7
 exact ⟨⟨x0, x1, x2, x3, x4, x5, x6, x7⟩, rfl, ⟨w0, w1, w2, w3, w4, w5, w6, w7⟩⟩
theorem ok_wf_B (x : K_B) (w : wf_B x) : ok_B x := ⟨w.2.2.1.1, w.2.2.2.1.1, fun z hz => ok_wf_R z (w.2.2.2.1.2 z hz), w.2.2.2.2.1.1⟩
theorem os_wf_B (x : K_B) (w : wf_B x) : os_B x := ⟨w.2.2.1.1, fun z hz => os_wf_si z (w.2.2.1.2 z hz), w.2.2.2.1.1, fun z hz => os_wf_R z (w.2.2.2.1.2 z hz), w.2.2.2.2.1.1, fun z hz => os_wf_si z (w.2.2.2.2.1.2 z hz)⟩
theorem uns_B : ∀ {rows : List (List B)}, (∀ r ∈ rows, Sh.okL [.int .i64, .int .i64, .sl [.str, .int .i64] 24, .sl [.int .i64, .int .i64, .int .i64, .sl [.str, .int .i64] 24, .int .i64] 56, .sl [.str, .int .i64] 24, .int .i64, .int .i64, .int .i64] r) → ∃ z : List K_B, rows = z.map b_B ∧ ∀ u ∈ z, wf_B u
 | [], _ => ⟨[], rfl, fun u h => (by cases h)⟩
 | r :: rows, h => by
  obtain ⟨x, e, w⟩ := un_B (h r (List.mem_cons_self ..))
  obtain ⟨z, rfl, hz⟩ := uns_B (fun r hr => h r (List.mem_cons_of_mem _ hr))
  refine ⟨x :: z, by rw [e]; rfl, fun u hu => ?_⟩
  rcases List.mem_cons.1 hu with rfl | hu
  ·exact w
  ·exact hz u hu
def wf_i (x : Int) : Prop := (Lit.int .i64 x).wf = true
theorem un_i {bs : List B} (h : Sh.okL [.int .i64] bs) : ∃ x : Int, bs = [(.val (.int .i64 x))] ∧ wf_i x := by
 obtain ⟨b0, m0, rfl, o0, h0⟩ := h
 obtain ⟨x0, rfl, w0⟩ : ∃ z : Int, b0 = .val (.int .i64 z) ∧ (Lit.int .i64 z).wf = true := by
  cases b0 with
  | val v =>
   cases v <;> first | exact o0.elim | (obtain ⟨rfl, w⟩ := o0; exact ⟨_, rfl, w⟩)
  | sl r => exact o0.elim
 obtain rfl := h0
 exact ⟨x0, rfl, w0⟩
theorem uns_i : ∀ {rows : List (List B)}, (∀ r ∈ rows, Sh.okL [.int .i64] r) → ∃ z : List Int, rows = z.map b_i ∧ ∀ u ∈ z, wf_i u
 | [], _ => ⟨[], rfl, fun u h => (by cases h)⟩
 | r :: rows, h => by
  obtain ⟨x, e, w⟩ := un_i (h r (List.mem_cons_self ..))
  obtain ⟨z, rfl, hz⟩ := uns_i (fun r hr => h r (List.mem_cons_of_mem _ hr))
  refine ⟨x :: z, by rw [e]; rfl, fun u hu => ?_⟩
  rcases List.mem_cons.1 hu with rfl | hu
  ·exact w
  ·exact hz u hu
theorem in_iff (a b c : Int) : m93 a b c = true ↔ b ≤ a ∧ a ≤ c := by
 unfold m93; split <;> simp_all <;> omega
theorem l1In_iff (a b c : Int) : m110 a b c = true ↔ b ≤ a ∧ a ≤ c := by
 unfold m110; split <;> simp_all <;> omega
theorem in_eq (a b c : Int) : m93 a b c = m110 a b c := by
 rw [Bool.eq_iff_iff, in_iff, l1In_iff]
theorem letter_iff (c : Int) : m171 c = true ↔ (97 ≤ c ∧ c ≤ 122) ∨ (65 ≤ c ∧ c ≤ 90) ∨ (48 ≤ c ∧ c ≤ 57) := by
 unfold m171
 (repeat' split) <;> simp_all <;> omega
def signs : ByteArray := ⟨#[97, 98, 99, 100, 101, 102, 103, 104, 105, 106, 107, 108, 109, 110, 111, 112, 113, 114, 115, 116, 117, 118, 119, 120, 121, 122, 65, 66, 67, 68, 69, 70, 71, 72, 73, 74, 75, 76, 77, 78, 79, 80, 81, 82, 83, 84, 85, 86, 87, 88, 89, 90, 48, 49, 50, 51, 52, 53, 54, 55, 56, 57]⟩
theorem signs_iff (b : UInt8) : signs.data.toList.contains b = m171 (b.toNat : Int) := by
 have key : ∀ n : Fin 256, signs.data.toList.contains (UInt8.ofNat n.val) = m171 ((UInt8.ofNat n.val).toNat : Int) := by decide +kernel
 have := key ⟨b.toNat, b.toNat_lt⟩
 simpa using this
theorem dw_bad {p : UInt8 → Bool} {b : UInt8} (hp : p b = false) : ∀ {l : List UInt8}, b ∈ l → b ∈ l.dropWhile p
 | x :: l, h => by
  simp only [List.dropWhile]
  cases hx : p x with
  | true =>
   rcases List.mem_cons.1 h with rfl | h
   ·rw [hp] at hx; cases hx
   ·exact dw_bad hp h
  | false => exact h
theorem dw_nil {p : UInt8 → Bool} : ∀ {l : List UInt8}, (∀ b ∈ l, p b = true) → l.dropWhile p = []
 | [], _ => rfl
 | x :: l, h => by
  simp only [List.dropWhile, h x (List.mem_cons_self ..)]
  exact dw_nil fun b hb => h b (List.mem_cons_of_mem _ hb)
theorem trim_nil (l cs : List UInt8) : Lib.trimS l cs = [] ↔ ∀ b ∈ l, cs.contains b = true := by
 unfold Lib.trimS Lib.trimLeftS Lib.trimRightS
 constructor
 ·intro h b hb
  cases hc : cs.contains b with
  | true => rfl
  | false =>
   have h1 := dw_bad (p := (cs.contains ·)) hc (List.mem_reverse.2 hb)
   have h2 := dw_bad (p := (cs.contains ·)) hc (List.mem_reverse.2 h1)
   rw [h] at h2; cases h2
 ·intro h
  rw [dw_nil (p := (cs.contains ·)) (l := l.reverse) fun b hb => h b (List.mem_reverse.1 hb)]
  rfl
theorem byteAt_nat (s : ByteArray) (i : Nat) (h : i < s.size) : byteAt s (i : Int) = ((s.data.toList[i]'(by simpa using h)).toNat : Int) := by
 unfold byteAt
 rw [Int.toNat_natCast, List.getElem?_eq_getElem (by simpa using h)]
 rfl
theorem arg_loop (s : ByteArray) : ∀ (n i : Nat), i + n = s.size → (r154_0 s n (i : Int) = .k1 ∧ ∃ b ∈ s.data.toList.drop i, m171 (b.toNat : Int) = false) ∨ (∃ w b, r154_0 s n (i : Int) = .k0 w b ∧ ∀ b ∈ s.data.toList.drop i, m171 (b.toNat : Int) = true)
 | 0, i, h => .inr ⟨_, _, rfl, fun b hb => by
   rw [List.drop_eq_nil_of_le (by show s.data.toList.length ≤ i; rw [Array.length_toList]; have : s.data.size = s.size := rfl; omega)] at hb; cases hb⟩
 | n + 1, i, h => by
  have hi : i < s.size := by omega
  have hl : i < s.data.toList.length := by simpa using hi
  rw [List.drop_eq_getElem_cons hl]
  generalize hx : s.data.toList[i] = x
  simp only [r154_0]
  rw [byteAt_nat s i hi, hx]
  by_cases hc : m171 (x.toNat : Int) = true
  ·rw [if_neg (by simp [hc])]
   have ih := arg_loop s n (i + 1) (by omega)
   rw [show ((i : Int) + 1) = ((i + 1 : Nat) : Int) by omega]
   rcases ih with ⟨h1, b, h2, h3⟩ | ⟨w, b, h1, h2⟩
   ·exact .inl ⟨h1, b, List.mem_cons_of_mem _ h2, h3⟩
   ·refine .inr ⟨w, b, h1, fun c hcm => ?_⟩
    rcases List.mem_cons.1 hcm with rfl | hcm
    ·exact hc
    ·exact h2 c hcm
  ·have hf : m171 (x.toNat : Int) = false := by simpa using hc
   rw [if_pos (by simp [hf])]
   exact .inl ⟨rfl, _, List.mem_cons_self .., hf⟩
theorem arg_eq (s : ByteArray) : m155 s = m154 s := by
 have ht : ((trimB s signs).toList == (⟨#[]⟩ : ByteArray).toList) = decide (∀ b ∈ s.data.toList, m171 (b.toNat : Int) = true) := by
  rw [ba_eq, Bool.eq_iff_iff, decide_eq_true_eq, decide_eq_true_eq]
  have : trimB s signs = ⟨#[]⟩ ↔ Lib.trimS s.data.toList signs.data.toList = [] := by
   unfold trimB
   constructor
   ·intro h; injection h with h; simpa using congrArg Array.toList h
   ·intro h; rw [h]
  rw [this, trim_nil]
  constructor
  ·intro h b hb; rw [← signs_iff]; exact h b hb
  ·intro h b hb; rw [signs_iff]; exact h b hb
 have hl := arg_loop s s.size 0 (by omega)
 rw [List.drop_zero] at hl
 unfold m155 m154
 rw [show (⟨#[97, 98, 99, 100, 101, 102, 103, 104, 105, 106, 107, 108, 109, 110, 111, 112, 113, 114, 115, 116, 117, 118, 119, 120, 121, 122, 65, 66, 67, 68, 69, 70, 71, 72, 73, 74, 75, 76, 77, 78, 79, 80, 81, 82, 83, 84, 85, 86, 87, 88, 89, 90, 48, 49, 50, 51, 52, 53, 54, 55, 56, 57]⟩ : ByteArray) = signs from rfl, ht]
 rw [Int.toNat_natCast, show (0 : Int) = ((0 : Nat) : Int) from rfl]
 rcases hl with ⟨h1, b, h2, h3⟩ | ⟨w, b, h1, h2⟩
 ·rw [h1]
  have : ¬ ∀ b ∈ s.data.toList, m171 (b.toNat : Int) = true := fun h => by rw [h b h2] at h3; cases h3
  rw [decide_eq_false this]
  simp only []
  split <;> rfl
 ·rw [h1, decide_eq_true h2]
  simp only []
  cases decide ((s.size : Int) ≤ 12) <;> rfl
theorem one_eq (x : K_si) : m109 x = (if (!(m113 x.f0)) = true then 5 else if (!(m93 x.f1 1 9999)) = true then 3 else 0) := by
 unfold m109 m113
 rw [in_eq, arg_eq]
 generalize (x.f0.toList == (⟨#[]⟩ : ByteArray).toList) = A
 generalize m154 x.f0 = B
 cases A <;> cases B <;> rfl
theorem window_loop (a b : List K_si) : ∀ (l : List K_si) (i j : Int), (match r46_0 a l i with | .k0 .. => (0 : Int) | .k1 => 5 | .k2 => 3) = (match r107_0 b l j with | .k0 .. => 0 | .k1 w => w)
 | [], i, j => rfl
 | x :: l, i, j => by
  have ih := window_loop a b l (i + 1) (j + 1)
  simp only [r46_0, r107_0, one_eq]
  by_cases h1 : (!(m113 x.f0)) = true
  ·simp [h1]
  ·by_cases h2 : (!(m93 x.f1 1 9999)) = true
   ·simp [h1, h2]
   ·simp only [if_neg h1, if_neg h2]; simpa using ih
theorem window_eq (a : List K_si) : m46 a = m107 a := by
 unfold m46 m107
 split
 ·rfl
 ·exact window_loop a a a 0 0
def pos (w : ByteArray) : List K_si → Option Nat
 | [] => none
 | x :: l => if x.f0 = w then some 0 else (pos w l).map (· + 1)
theorem at_pos_loop (a : List K_si) (w : ByteArray) : ∀ (l : List K_si) (i : Int), (match r1014700_0 a w l i with | .k0 .. => (-1 : Int) | .k1 z => z) = (match pos w l with | none => (-1 : Int) | some p => i + p)
 | [], i => rfl
 | x :: l, i => by
  have ih := at_pos_loop a w l (i + 1)
  simp only [r1014700_0, pos, ba_eq]
  by_cases h : x.f0 = w
  ·simp [h]
  ·simp only [h, decide_false, if_false]
   rw [if_neg (by simp), ih]
   cases pos w l with
   | none => rfl
   | some p => show (i + 1 + (p : Int)) = i + ((p + 1 : Nat) : Int); omega
theorem at_pos (a : List K_si) (w : ByteArray) : m1014700 a w = (match pos w a with | none => (-1 : Int) | some p => (p : Int)) := by
 unfold m1014700
 refine (at_pos_loop a w a 0).trans ?_
 cases pos w a <;> simp
theorem pos_lt {w : ByteArray} : ∀ {l : List K_si} {p : Nat}, pos w l = some p → p < l.length
 | [], p, h => by cases h
 | x :: l, p, h => by
  simp only [pos] at h
  split at h
  ·injection h with h; subst h; simp
  ·cases hp : pos w l with
   | none => rw [hp] at h; cases h
   | some q => rw [hp] at h; injection h with h; subst h; have := pos_lt hp; simp; omega
def look (w : ByteArray) : List K_si → Int
 | [] => 0
 | x :: l => if x.f0 = w then x.f1 else look w l
theorem look_pos (d : K_si) {w : ByteArray} : ∀ {l : List K_si}, look w l = (match pos w l with | none => 0 | some p => (List.getD l p d).f1)
 | [] => rfl
 | x :: l => by
  simp only [look, pos]
  split
  ·rfl
  ·rw [look_pos d (l := l)]
   cases pos w l <;> rfl
theorem pos_at (d : K_si) {w : ByteArray} : ∀ {l : List K_si} {p : Nat}, pos w l = some p → (List.getD l p d).f0 = w
 | [], p, h => by cases h
 | x :: l, p, h => by
  simp only [pos] at h
  split at h
  ·injection h with h; subst h; assumption
  ·cases hp : pos w l with
   | none => rw [hp] at h; cases h
   | some q => rw [hp] at h; injection h with h; subst h; show (List.getD l q d).f0 = w; exact pos_at d hp
def upd (x : K_si) : List K_si → List K_si
 | [] => [x]
 | y :: l => if y.f0 = x.f0 then K_si.mk y.f0 (w64 (y.f1 + x.f1)) :: l else y :: upd x l
theorem upd_none {x : K_si} : ∀ {l : List K_si}, pos x.f0 l = none → upd x l = l ++ [x]
 | [], _ => rfl
 | y :: l, h => by
  simp only [pos] at h
  split at h
  ·cases h
  ·rename_i hy
   simp only [upd, if_neg hy, List.cons_append]
   rw [upd_none (l := l) (by cases hp : pos x.f0 l <;> simp_all)]
theorem upd_some (d : K_si) {x : K_si} : ∀ {l : List K_si} {p : Nat}, pos x.f0 l = some p → upd x l = List.set l p (K_si.mk (List.getD l p d).f0 (w64 ((List.getD l p d).f1 + x.f1)))
 | [], p, h => by cases h
 | y :: l, p, h => by
  simp only [pos] at h
  split at h
  ·rename_i hy
   injection h with h; subst h
   simp only [upd, if_pos hy]; rfl
  ·rename_i hy
   cases hp : pos x.f0 l with
   | none => rw [hp] at h; cases h
   | some q =>
    rw [hp] at h; injection h with h; subst h
    simp only [upd, if_neg hy]
    rw [upd_some d hp]; rfl
theorem step_upd (d x : K_si) (v : List K_si) : (if decide (m1014700 v x.f0 ≥ 0) = true then List.set v (Int.toNat (m1014700 v x.f0)) (K_si.mk ((List.getD v (Int.toNat (m1014700 v x.f0)) d).f0) (w64 (((List.getD v (Int.toNat (m1014700 v x.f0)) d).f1) + x.f1))) else v ++ [x]) = upd x v := by
 rw [at_pos]
 cases hp : pos x.f0 v with
 | none => rw [if_neg (by simp), upd_none hp]
 | some p =>
  simp only []
  rw [if_pos (by simp), Int.toNat_natCast, upd_some d hp]
def sumw (w : ByteArray) : List K_si → Int
 | [] => 0
 | x :: l => (if x.f0 = w then x.f1 else 0) + sumw w l
def tot : List K_si → Int
 | [] => 0
 | x :: l => x.f1 + tot l
def Pos (l : List K_si) : Prop := ∀ x ∈ l, 0 ≤ x.f1
theorem tot_nonneg : ∀ {l : List K_si}, Pos l → 0 ≤ tot l
 | [], _ => by simp [tot]
 | x :: l, h => by
  have h1 := h x (List.mem_cons_self ..)
  have h2 := tot_nonneg (l := l) fun y hy => h y (List.mem_cons_of_mem _ hy)
  simp only [tot]; omega
theorem look_le {w : ByteArray} : ∀ {l : List K_si}, Pos l → 0 ≤ look w l ∧ look w l ≤ tot l
 | [], _ => by simp [look, tot]
 | x :: l, h => by
  have h1 := h x (List.mem_cons_self ..)
  have hl : Pos l := fun y hy => h y (List.mem_cons_of_mem _ hy)
  have h2 := look_le (w := w) hl
  have h3 := tot_nonneg hl
  simp only [look, tot]; split <;> omega
theorem sumw_le {w : ByteArray} : ∀ {l : List K_si}, Pos l → 0 ≤ sumw w l ∧ sumw w l ≤ tot l
 | [], _ => by simp [sumw, tot]
 | x :: l, h => by
  have h1 := h x (List.mem_cons_self ..)
  have hl : Pos l := fun y hy => h y (List.mem_cons_of_mem _ hy)
  have h2 := sumw_le (w := w) hl
  simp only [sumw, tot]; split <;> omega
theorem upd_ok (x : K_si) (hx : 0 ≤ x.f1) : ∀ {l : List K_si}, Pos l → tot l + x.f1 ≤ 1000000000000 → (∀ w, look w (upd x l) = look w l + (if x.f0 = w then x.f1 else 0)) ∧ Pos (upd x l) ∧ tot (upd x l) = tot l + x.f1
 | [], _, h => by
  refine ⟨fun w => by simp [upd, look], fun y hy => ?_, by simp [upd, tot]⟩
  simp [upd] at hy; subst hy; exact hx
 | y :: l, hp, h => by
  have h1 := hp y (List.mem_cons_self ..)
  have hl : Pos l := fun z hz => hp z (List.mem_cons_of_mem _ hz)
  have h3 := tot_nonneg hl
  simp only [tot] at h
  by_cases hy : y.f0 = x.f0
  ·simp only [upd, if_pos hy]
   rw [wrap64 (by omega)]
   refine ⟨fun w => ?_, fun z hz => ?_, by simp only [tot]; omega⟩
   ·simp only [look, hy]; split <;> omega
   ·rcases List.mem_cons.1 hz with rfl | hz
    ·show 0 ≤ y.f1 + x.f1; omega
    ·exact hl z hz
  ·simp only [upd, if_neg hy]
   obtain ⟨i1, i2, i3⟩ := upd_ok x hx hl (by omega)
   refine ⟨fun w => ?_, fun z hz => ?_, by simp only [tot]; omega⟩
   ·simp only [look]
    by_cases hw : y.f0 = w
    ·simp only [if_pos hw]
     have : x.f0 ≠ w := fun e => hy (hw.trans e.symm)
     simp [this]
    ·simp only [if_neg hw]; exact i1 w
   ·rcases List.mem_cons.1 hz with rfl | hz
    ·exact h1
    ·exact i2 z hz
theorem fold_ok : ∀ {l v : List K_si}, Pos l → Pos v → tot v + tot l ≤ 1000000000000 → (∀ w, look w (l.foldl (fun v x => upd x v) v) = look w v + sumw w l) ∧ Pos (l.foldl (fun v x => upd x v) v) ∧ tot (l.foldl (fun v x => upd x v) v) = tot v + tot l
 | [], v, _, hv, _ => ⟨fun w => by simp [sumw], hv, by simp [tot]⟩
 | x :: l, v, hl, hv, h => by
  simp only [tot] at h
  have hx := hl x (List.mem_cons_self ..)
  have hl' : Pos l := fun z hz => hl z (List.mem_cons_of_mem _ hz)
  have ht := tot_nonneg hl'
  obtain ⟨i1, i2, i3⟩ := upd_ok x hx hv (by omega)
  obtain ⟨j1, j2, j3⟩ := fold_ok (l := l) (v := upd x v) hl' i2 (by omega)
  simp only [List.foldl_cons]
  refine ⟨fun w => ?_, j2, by simp only [tot]; omega⟩
  rw [j1, i1]; simp only [sumw]; omega
theorem tot_le {l : List K_si} {m : Int} (h : ∀ x ∈ l, x.f1 ≤ m) : tot l ≤ m * l.length := by
 induction l with
 | nil => simp [tot]
 | cons x l ih =>
  have h1 := h x (List.mem_cons_self ..)
  have h2 := ih fun y hy => h y (List.mem_cons_of_mem _ hy)
  simp only [tot, List.length_cons]
  rw [show m * ((l.length + 1 : Nat) : Int) = m * l.length + m by rw [Int.natCast_add, Int.mul_add]; simp]
  omega
def fidx {α : Type} (p : α → Bool) : List α → Option Nat
 | [] => none
 | x :: l => if p x = true then some 0 else (fidx p l).map (· + 1)
theorem fidx_at {α : Type} {p : α → Bool} : ∀ {l : List α} {i : Nat} {x : α}, l[i]? = some x → p x = true → (fidx p (l.take i) = none ∧ fidx p l = some i) ∨ (∃ k, fidx p (l.take i) = some k ∧ fidx p l = some k ∧ k < i)
 | y :: l, 0, x, h, hp => by
  simp only [List.getElem?_cons_zero, Option.some.injEq] at h
  subst h
  exact .inl ⟨rfl, by simp [fidx, hp]⟩
 | y :: l, i + 1, x, h, hp => by
  simp only [List.getElem?_cons_succ] at h
  simp only [List.take_succ_cons, fidx]
  by_cases hy : p y = true
  ·exact .inr ⟨0, by simp [hy], by simp [hy], by omega⟩
  ·rcases fidx_at h hp with ⟨h1, h2⟩ | ⟨k, h1, h2, h3⟩
   ·exact .inl ⟨by simp [hy, h1], by simp [hy, h2]⟩
   ·exact .inr ⟨k + 1, by simp [hy, h1], by simp [hy, h2], by omega⟩
theorem at_fidx (a : List K_si) (w : ByteArray) : ∀ (l : List K_si) (i : Int), (match r79_0 a w l i with | .k0 .. => (-1 : Int) | .k1 z => z) = (match fidx (fun x : K_si => x.f0.toList == w.toList) l with | none => (-1 : Int) | some p => i + p)
 | [], i => rfl
 | x :: l, i => by
  have ih := at_fidx a w l (i + 1)
  simp only [r79_0, fidx]
  by_cases h : (x.f0.toList == w.toList) = true
  ·simp only [if_pos h]; simp
  ·simp only [if_neg h]
   rw [ih]
   cases fidx (fun x : K_si => x.f0.toList == w.toList) l with
   | none => rfl
   | some p => show (i + 1 + (p : Int)) = i + ((p + 1 : Nat) : Int); omega
theorem ixw_fidx (a : List K_si) (w : ByteArray) : ∀ (l : List K_si) (i : Int), (match r1014700_0 a w l i with | .k0 .. => (-1 : Int) | .k1 z => z) = (match fidx (fun x : K_si => x.f0.toList == w.toList) l with | none => (-1 : Int) | some p => i + p)
 | [], i => rfl
 | x :: l, i => by
  have ih := ixw_fidx a w l (i + 1)
  simp only [r1014700_0, fidx]
  by_cases h : (x.f0.toList == w.toList) = true
  ·simp only [if_pos h]; simp
  ·simp only [if_neg h]
   rw [ih]
   cases fidx (fun x : K_si => x.f0.toList == w.toList) l with
   | none => rfl
   | some p => show (i + 1 + (p : Int)) = i + ((p + 1 : Nat) : Int); omega
theorem atw_eq (a : List K_si) (w : ByteArray) : m79 a w = (match fidx (fun x : K_si => x.f0.toList == w.toList) a with | none => (-1 : Int) | some p => (p : Int)) := by
 unfold m79
 refine (at_fidx a w a 0).trans ?_
 cases fidx (fun x : K_si => x.f0.toList == w.toList) a <;> simp
theorem ixw_eq (a : List K_si) (w : ByteArray) : m1014700 a w = (match fidx (fun x : K_si => x.f0.toList == w.toList) a with | none => (-1 : Int) | some p => (p : Int)) := by
 unfold m1014700
 refine (ixw_fidx a w a 0).trans ?_
 cases fidx (fun x : K_si => x.f0.toList == w.toList) a <;> simp
theorem find_fidx (a : List K_R) (w : Int) : ∀ (l : List K_R) (i : Int), (match r144_0 a w l i with | .k0 .. => (-1 : Int) | .k1 z => z) = (match fidx (fun x : K_R => x.f0 == w) l with | none => (-1 : Int) | some p => i + p)
 | [], i => rfl
 | x :: l, i => by
  have ih := find_fidx a w l (i + 1)
  simp only [r144_0, fidx]
  by_cases h : (x.f0 == w) = true
  ·simp only [if_pos h]; simp
  ·simp only [if_neg h]
   rw [ih]
   cases fidx (fun x : K_R => x.f0 == w) l with
   | none => rfl
   | some p => show (i + 1 + (p : Int)) = i + ((p + 1 : Nat) : Int); omega
theorem ixr_fidx (a : List K_R) (w : Int) : ∀ (l : List K_R) (i : Int), (match r1014500_0 a w l i with | .k0 .. => (-1 : Int) | .k1 z => z) = (match fidx (fun x : K_R => x.f0 == w) l with | none => (-1 : Int) | some p => i + p)
 | [], i => rfl
 | x :: l, i => by
  have ih := ixr_fidx a w l (i + 1)
  simp only [r1014500_0, fidx]
  by_cases h : (x.f0 == w) = true
  ·simp only [if_pos h]; simp
  ·simp only [if_neg h]
   rw [ih]
   cases fidx (fun x : K_R => x.f0 == w) l with
   | none => rfl
   | some p => show (i + 1 + (p : Int)) = i + ((p + 1 : Nat) : Int); omega
theorem findr_eq (a : List K_R) (w : Int) : m144 a w = (match fidx (fun x : K_R => x.f0 == w) a with | none => (-1 : Int) | some p => (p : Int)) := by
 unfold m144
 refine (find_fidx a w a 0).trans ?_
 cases fidx (fun x : K_R => x.f0 == w) a <;> simp
theorem ixr_eq (a : List K_R) (w : Int) : m1014500 a w = m144 a w := by
 rw [findr_eq]
 unfold m1014500
 refine (ixr_fidx a w a 0).trans ?_
 cases fidx (fun x : K_R => x.f0 == w) a <;> simp
theorem atix_eq (a : List K_si) (w : ByteArray) : m1014700 a w = m79 a w := by
 rw [atw_eq, ixw_eq]
theorem in_same (a b c : Int) : m93 a b c = m110 a b c := rfl
theorem worker_eq (s : ByteArray) : m113 s = (!(s.toList == (⟨#[]⟩ : ByteArray).toList) && m154 s) := by
 unfold m113
 rw [arg_eq]
 generalize (s.toList == (⟨#[]⟩ : ByteArray).toList) = A
 generalize m154 s = B
 cases A <;> cases B <;> rfl
theorem owed_loop (a : List K_si) : ∀ (l : List K_si) (i : Nat), a.drop i = l → (match r74_0 a l i with | .k0 .. => true | .k1 => false) = (match r133_0 a l i with | .k0 .. => true | .k1 => false)
 | [], i, _ => rfl
 | x :: l, i, h => by
  have hx : a[i]? = some x := by
   have := congrArg (fun z => z[0]?) h
   simpa using this
  have hd : a.drop (i + 1) = l := by rw [← List.drop_drop, h]; rfl
  have ih := owed_loop a l (i + 1) hd
  have hk : decide (m1014700 (List.take i a) x.f0 ≥ 0) = (m79 a x.f0 != (i : Int)) := by
   rw [ixw_eq, atw_eq]
   rcases fidx_at (p := fun y : K_si => y.f0.toList == x.f0.toList) hx (by simp) with ⟨j1, j2⟩ | ⟨k, j1, j2, j3⟩
   ·rw [j1, j2]; simp
   ·rw [j1, j2]
    have h1 : ((k : Int) ≥ 0) := by omega
    have h2 : ¬ (k : Int) = (i : Int) := by omega
    simp only [h1, decide_true]
    simp [h2]
  simp only [r74_0, r133_0, worker_eq, in_same, Int.toNat_natCast, hk]
  generalize (x.f0.toList == (⟨#[]⟩ : ByteArray).toList) = A
  generalize m154 x.f0 = B
  generalize m110 x.f1 0 1000000 = C
  generalize (m79 a x.f0 != (i : Int)) = K
  cases A <;> cases B <;> cases C <;> cases K <;> first | rfl | exact ih
theorem owed_eq (a : List K_si) (n : Int) : m74 a n = (m133 a && decide ((a.length : Int) ≤ n)) := by
 have h : (match r74_0 a a 0 with | .k0 .. => true | .k1 => false) = (match r133_0 a a 0 with | .k0 .. => true | .k1 => false) := owed_loop a a 0 rfl
 unfold m74 m133
 rw [List.length_map]
 revert h
 generalize r74_0 a a 0 = P
 generalize r133_0 a a 0 = Q
 intro h
 cases P <;> cases Q <;> simp_all
theorem sum_loop (a b : List K_si) : ∀ (l : List K_si) (i j v : Int), (match r75_0 a l i v with | .k0 w _ _ => w) = (match r134_0 b l j v with | .k0 w _ _ => w)
 | [], _, _, _ => rfl
 | x :: l, i, j, v => by simp only [r75_0, r134_0]; exact sum_loop a b l _ _ _
theorem sum_eq (a : List K_si) : m75 a = m134 a := sum_loop a a a 0 0 0
theorem tots_loop (a b : List K_R) (ripe : Bool) : ∀ (l : List K_R) (i j v : Int), (match r76_0 a (if ripe then 2 else 0) l i v with | .k0 w _ _ => w) = (match r135_0 b ripe l j v with | .k0 w _ _ => w)
 | [], _, _, _ => rfl
 | x :: l, i, j, v => by
  have ih := tots_loop a b ripe l (i + 1) (j + 1)
  simp only [r76_0, r135_0]
  cases ripe with
  | false => simp only [Bool.not_false, if_true, if_neg Bool.false_ne_true] at ih ⊢; rw [if_pos (by rfl)]; exact ih _
  | true =>
   simp only [if_true] at ih ⊢
   rw [if_neg (show ¬ (((2 : Int) == 0) = true) by decide), if_neg (show ¬ ((!true) = true) by decide)]
   split
   ·exact ih _
   ·exact ih _
theorem tots_ripe (a : List K_R) : m76 a 2 = m135 a true := tots_loop a a true a 0 0 0
theorem tots_all (a : List K_R) : m76 a 0 = m135 a false := tots_loop a a false a 0 0 0
theorem reward_eq (a : List K_R) (x : K_R) (i : Nat) (h : a[i]? = some x) : m73 x (List.take i a) = m132 a (i : Int) := by
 have hg : ∀ d, List.getD a i d = x := fun d => by rw [List.getD_eq_getElem?_getD, h]; rfl
 unfold m73 m132
 simp only [Int.toNat_natCast, hg, in_same, owed_eq, sum_eq, ixr_eq, List.length_map]
 by_cases h1 : (x.f3.length : Int) ≤ 12
 ·have h2 : ¬ (x.f3.length : Int) > 12 := by omega
  simp [h1, h2]
 ·have h2 : (x.f3.length : Int) > 12 := by omega
  simp [h1, h2]
theorem rewards_loop (a0 : K_B) : ∀ (l : List K_R) (i : Nat), a0.f3.drop i = l → (∃ x y u v, r17_0 a0 l i = .k0 x y ∧ r68_0 a0 l i = .k0 u v) ∨ (∃ w, r17_0 a0 l i = .k1 w ∧ r68_0 a0 l i = .k1 w)
 | [], i, _ => .inl ⟨_, _, _, _, rfl, rfl⟩
 | x :: l, i, h => by
  have hx : a0.f3[i]? = some x := by
   have := congrArg (fun z => z[0]?) h
   simpa using this
  have hd : a0.f3.drop (i + 1) = l := by rw [← List.drop_drop, h]; rfl
  have ih := rewards_loop a0 l (i + 1) hd
  simp only [r17_0, r68_0, Int.toNat_natCast, reward_eq a0.f3 x i hx]
  by_cases hc : ((m132 a0.f3 (i : Int)) != 0) = true
  ·simp only [if_pos hc]; exact .inr ⟨_, rfl, rfl⟩
  ·simp only [if_neg hc]; exact ih
theorem ledger_eq (a0 : K_B) : m17 a0 = m68 a0 := by
 unfold m17 m68 m131 m71
 simp only [in_same, window_eq, owed_eq, sum_eq, tots_ripe, tots_all, List.length_map]
 by_cases h0 : m110 a0.f0 1 12 = true
 ·by_cases h1 : m110 a0.f1 0 1000 = true
  ·by_cases h2 : m110 a0.f5 0 1000000 = true
   ·by_cases h3 : m110 a0.f6 0 1000000 = true
    ·by_cases h4 : m110 a0.f7 0 1000000 = true
     ·simp only [h0, h1, h2, h3, h4, if_true, Bool.not_true, if_neg Bool.false_ne_true]
      by_cases h8 : (a0.f4.length : Int) > 8
      ·simp only [h8, decide_true, if_true]
      ·have h9 : (a0.f4.length : Int) ≤ 8 := by omega
       simp only [h9, decide_true, Bool.and_true]
       rcases rewards_loop a0 a0.f3 0 rfl with ⟨x, y, u, v, j1, j2⟩ | ⟨w, j1, j2⟩
       ·rw [show ((0 : Nat) : Int) = 0 from rfl] at j1 j2
        rw [j1, j2]
       ·rw [show ((0 : Nat) : Int) = 0 from rfl] at j1 j2
        rw [j1, j2]
     ·simp [h0, h1, h2, h3, h4]
    ·simp [h0, h1, h2, h3]
   ·simp [h0, h1, h2]
  ·simp [h0, h1]
 ·simp [h0]
theorem fidx_none {α : Type} {p : α → Bool} : ∀ {l : List α}, (∀ y ∈ l, p y = false) → fidx p l = none
 | [], _ => rfl
 | x :: l, h => by
  have hx := h x (List.mem_cons_self ..)
  simp [fidx, hx, fidx_none (l := l) fun y hy => h y (List.mem_cons_of_mem _ hy)]
theorem fidx_get {α : Type} {p : α → Bool} : ∀ {l : List α} {k : Nat}, fidx p l = some k → ∃ x, l[k]? = some x ∧ p x = true
 | x :: l, k, h => by
  simp only [fidx] at h
  by_cases hx : p x = true
  ·rw [if_pos hx] at h; injection h with h; subst h; exact ⟨x, rfl, hx⟩
  ·rw [if_neg hx] at h
   cases hq : fidx p l with
   | none => rw [hq] at h; cases h
   | some q =>
    rw [hq] at h; injection h with h; subst h
    obtain ⟨y, h1, h2⟩ := fidx_get hq
    exact ⟨y, by simpa using h1, h2⟩
theorem parts_loop (a : List K_si) : ∀ (l : List K_si) (i : Nat), (match r133_0 a l i with | .k0 .. => true | .k1 => false) = true → ∀ (j : Nat) (x : K_si), l[j]? = some x → m110 x.f1 0 1000000 = true ∧ m79 a x.f0 = ((i + j : Nat) : Int)
 | [], _, _, j, x, h => by simp at h
 | y :: l, i, h, j, x, hx => by
  have ih := parts_loop a l (i + 1)
  simp only [r133_0] at h
  by_cases c1 : (y.f0.toList == (⟨#[]⟩ : ByteArray).toList) = true
  ·rw [if_pos c1] at h; cases h
  rw [if_neg c1] at h
  by_cases c2 : (!(m154 y.f0)) = true
  ·rw [if_pos c2] at h; cases h
  rw [if_neg c2] at h
  by_cases c3 : (!(m110 y.f1 0 1000000)) = true
  ·rw [if_pos c3] at h; cases h
  rw [if_neg c3] at h
  by_cases c4 : ((m79 a y.f0) != (i : Int)) = true
  ·rw [if_pos c4] at h; cases h
  rw [if_neg c4] at h
  cases j with
  | zero =>
   simp only [List.getElem?_cons_zero, Option.some.injEq] at hx
   subst hx
   refine ⟨by simpa using c3, ?_⟩
   simpa using c4
  | succ j =>
   simp only [List.getElem?_cons_succ] at hx
   obtain ⟨q1, q2⟩ := ih h j x hx
   exact ⟨q1, by rw [q2]; congr 1; omega⟩
theorem l1in {a b c : Int} (h : m110 a b c = true) : b ≤ a ∧ a ≤ c := by
 unfold m110 at h
 split at h <;> simp_all
theorem parts_ok {a : List K_si} (h : m133 a = true) {j : Nat} {x : K_si} (hx : a[j]? = some x) : 0 ≤ x.f1 ∧ x.f1 ≤ 1000000 ∧ fidx (fun y : K_si => y.f0.toList == x.f0.toList) a = some j := by
 obtain ⟨h1, h2⟩ := parts_loop a a 0 h j x hx
 obtain ⟨h3, h4⟩ := l1in h1
 refine ⟨h3, h4, ?_⟩
 rw [atw_eq] at h2
 cases hq : fidx (fun y : K_si => y.f0.toList == x.f0.toList) a with
 | none => rw [hq] at h2; simp at h2
 | some q => rw [hq] at h2; simp at h2; exact congrArg some (by omega)
theorem rew_ne (a0 : K_B) : ∀ (l : List K_R) (i : Int) (w : Int), r68_0 a0 l i = .k1 w → w ≠ 0
 | [], i, w, h => by simp [r68_0] at h
 | x :: l, i, w, h => by
  simp only [r68_0] at h
  split at h
  ·rename_i h1; injection h with h; subst h; simpa using h1
  ·exact rew_ne a0 l (i + 1) w h
theorem rew_zero (a0 : K_B) : ∀ (l : List K_R) (i : Nat) (u v), r68_0 a0 l i = .k0 u v → ∀ j : Nat, j < l.length → m132 a0.f3 ((i + j : Nat) : Int) = 0
 | x :: l, i, u, v, h, j, hj => by
  simp only [r68_0] at h
  split at h
  ·cases h
  ·rename_i h1
   cases j with
   | zero => simpa using h1
   | succ j =>
    have := rew_zero a0 l (i + 1) u v h j (by simpa using hj)
    rw [← this]; congr 1; omega
structure Sound (a0 : K_B) : Prop where
 ranges : m131 a0 = true
 window : m107 a0.f2 = 0
 winlen : (a0.f2.length : Int) ≤ a0.f0
 rewlen : a0.f3.length ≤ 6
 duelen : a0.f4.length ≤ 8
 rewards : ∀ j : Nat, j < a0.f3.length → m132 a0.f3 (j : Int) = 0
 dues : m133 a0.f4 = true
 sums : w64 (w64 (m134 a0.f4 + a0.f6) + a0.f5) = w64 (m135 a0.f3 true + a0.f7)
 all : m110 (m135 a0.f3 false) 0 1000000 = true
theorem sound {a0 : K_B} (h : m68 a0 = 0) : Sound a0 := by
 unfold m68 at h
 split at h
 ·cases h
 rename_i h1
 split at h
 ·rename_i h2; rw [h] at h2; simp at h2
 rename_i h2
 split at h
 ·cases h
 rename_i h3
 split at h
 ·cases h
 rename_i h4
 split at h
 ·cases h
 rename_i h5
 simp only [List.length_map, decide_eq_true_eq] at h3 h4 h5
 cases hr : r68_0 a0 a0.f3 0 with
 | k1 w => rw [hr] at h; exact absurd h (rew_ne a0 _ _ _ hr)
 | k0 u v =>
  rw [hr] at h
  simp only [] at h
  split at h
  ·cases h
  rename_i h6
  split at h
  ·cases h
  rename_i h7
  split at h
  ·cases h
  rename_i h8
  refine ⟨by simpa using h1, by simpa using h2, by omega, by omega, by omega, fun j hj => ?_, by simpa using h6, by simpa using h7, by simpa using h8⟩
  have := rew_zero a0 a0.f3 0 u v hr j hj
  simpa using this
theorem str_le {x : K_si} {v : Int} (hx : x.f0.size ≤ 140737488351232) (h0 : 0 ≤ v) (h1 : v ≤ 1099511627776) : m22 x v ≤ v := by
 unfold m22
 rw [wrap64 (by omega)]
 split <;> omega
theorem strs_loop (a : List K_si) : ∀ (l : List K_si) (i v : Int), (∀ z ∈ l, z.f0.size ≤ 140737488351232) → 0 ≤ v → v ≤ 1099511627776 → (match r66_0 a l i v with | .k0 w _ _ => w | .k1 => (-1 : Int)) ≤ v
 | [], _, _, _, _, _ => Int.le_refl _
 | x :: l, i, v, hs, h0, h1 => by
  have hx := str_le (v := v) (hs x (List.mem_cons_self ..)) h0 h1
  simp only [r66_0]
  by_cases hc : (decide (m22 x v < 0)) = true
  ·rw [if_pos hc]; show (-1 : Int) ≤ v; omega
  ·rw [if_neg hc]
   simp only [decide_eq_true_eq] at hc
   have ih := strs_loop a l (i + 1) (m22 x v) (fun z hz => hs z (List.mem_cons_of_mem _ hz)) (by omega) (by omega)
   omega
theorem list_le {a : List K_si} {v : Int} (hs : ∀ z ∈ a, z.f0.size ≤ 140737488351232) (hl : a.length * 24 ≤ 140737488351232) (h0 : 0 ≤ v) (h1 : v ≤ 1099511627776) : m66 a v + a.length ≤ v ∨ m66 a v < 0 := by
 unfold m66
 rw [List.length_map, wrap64 (by omega)]
 by_cases hc : (decide (v - (a.length : Int) < 0)) = true
 ·rw [if_pos hc]; right; omega
 ·rw [if_neg hc]
  simp only [decide_eq_true_eq] at hc
  have hf : ∀ z : Int, z ≤ v - (a.length : Int) → z + a.length ≤ v := fun z hz => by omega
  exact .inl (hf _ (strs_loop a a 0 (v - (a.length : Int)) hs (by omega) (by omega)))
theorem rew_le {x : K_R} {v : Int} (hs : os_R x) (h0 : 0 ≤ v) (h1 : v ≤ 1099511627776) : m130 x v + x.f3.length ≤ v ∨ m130 x v < 0 := by
 unfold m130
 by_cases hc : (decide (m66 x.f3 v < 0)) = true
 ·rw [if_pos hc]; right; omega
 ·rw [if_neg hc]; exact list_le (fun z hz => hs.2 z hz) hs.1 h0 h1
theorem rews_loop (a : List K_R) : ∀ (l : List K_R) (i v : Int), (∀ z ∈ l, os_R z) → 0 ≤ v → v ≤ 1099511627776 → (match r67_0 a l i v with | .k0 w _ _ => w | .k1 => (-1 : Int)) + ((l.map fun x => x.f3.length).sum : Nat) ≤ v ∨ (match r67_0 a l i v with | .k0 w _ _ => w | .k1 => (-1 : Int)) < 0
 | [], _, _, _, _, _ => .inl (by simp [r67_0])
 | x :: l, i, v, hs, h0, h1 => by
  have hx := rew_le (v := v) (hs x (List.mem_cons_self ..)) h0 h1
  simp only [r67_0, List.map_cons, List.sum_cons]
  by_cases hc : (decide (m130 x v < 0)) = true
  ·rw [if_pos hc]; right; show (-1 : Int) < 0; omega
  ·rw [if_neg hc]
   simp only [decide_eq_true_eq] at hc
   have ih := rews_loop a l (i + 1) (m130 x v) (fun z hz => hs z (List.mem_cons_of_mem _ hz)) (by omega) (by omega)
   omega
theorem rewlist_le {a : List K_R} {v : Int} (hs : ∀ z ∈ a, os_R z) (hl : a.length * 56 ≤ 140737488351232) (h0 : 0 ≤ v) (h1 : v ≤ 1099511627776) : m67 a v + a.length + ((a.map fun x => x.f3.length).sum : Nat) ≤ v ∨ m67 a v < 0 := by
 unfold m67
 rw [List.length_map, wrap64 (by omega)]
 by_cases hc : (decide (v - (a.length : Int) < 0)) = true
 ·rw [if_pos hc]; right; omega
 ·rw [if_neg hc]
  simp only [decide_eq_true_eq] at hc
  have hf : ∀ z : Int, z + ((a.map fun x => x.f3.length).sum : Nat) ≤ v - (a.length : Int) → z + a.length + ((a.map fun x => x.f3.length).sum : Nat) ≤ v := fun z hz => by omega
  rcases rews_loop a a 0 (v - (a.length : Int)) hs (by omega) (by omega) with h | h
  ·exact .inl (hf _ h)
  ·exact .inr h
theorem ledger_le {a0 : K_B} (hs : os_B a0) (h : ¬ (decide (m14 a0 1048576 < 0)) = true) : a0.f2.length + a0.f3.length + (a0.f3.map fun x => x.f3.length).sum + a0.f4.length ≤ 1048576 := by
 simp only [decide_eq_true_eq] at h
 unfold m14 at h
 obtain ⟨s1, s2, s3, s4, s5, s6⟩ := hs
 have h1 := list_le (v := 1048576) (fun z hz => s2 z hz) s1 (by omega) (by omega)
 split at h
 ·omega
 rename_i c1
 simp only [decide_eq_true_eq] at c1
 have h2 := rewlist_le (v := m66 a0.f2 1048576) s4 s3 (by omega) (by omega)
 split at h
 ·omega
 rename_i c2
 simp only [decide_eq_true_eq] at c2
 have h3 := list_le (v := m67 a0.f3 (m66 a0.f2 1048576)) (fun z hz => s6 z hz) s5 (by omega) (by omega)
 split at h
 ·omega
 ·omega
theorem wt_rews : ∀ l : List K_R, (List.map wt_R l).sum = 4 * l.length + 2 * (l.map fun x => x.f3.length).sum
 | [] => rfl
 | x :: l => by
  simp only [List.map_cons, List.sum_cons, wt_rews l, wt_R, wts_si, List.length_cons]; omega
theorem wt_ledger_le {a0 : K_B} (hs : os_B a0) (h : ¬ (decide (m14 a0 1048576 < 0)) = true) : wt_B a0 ≤ 10000000 := by
 have := ledger_le hs h
 simp only [wt_B, wts_si, wt_rews]; omega
theorem sum_set {α : Type} (f : α → Nat) (x : α) : ∀ (l : List α) (i : Nat), ((l.set i x).map f).sum ≤ (l.map f).sum + f x
 | [], _ => by simp
 | y :: l, 0 => by simp only [List.set_cons_zero, List.map_cons, List.sum_cons]; omega
 | y :: l, i + 1 => by
  have := sum_set f x l i
  simp only [List.set_cons_succ, List.map_cons, List.sum_cons]; omega
theorem sum_getD {α : Type} (f : α → Nat) (d : α) : ∀ (l : List α) (i : Nat), f (l.getD i d) ≤ (l.map f).sum + f d
 | [], _ => by simp
 | y :: l, 0 => by simp only [List.getD_cons_zero, List.map_cons, List.sum_cons]; omega
 | y :: l, i + 1 => by
  have := sum_getD f d l i
  simp only [List.getD_cons_succ, List.map_cons, List.sum_cons]; omega
theorem ranges_ok {a0 : K_B} (h : m131 a0 = true) : m110 a0.f7 0 1000000 = true := by
 unfold m131 at h
 simp only [Bool.if_false_right, Bool.and_eq_true] at h
 (repeat' split at h) <;> simp_all
theorem set12 {l : List K_R} {i : Nat} {x : K_R} (h : ∀ z ∈ l, z.f3.length ≤ 12) (hx : x.f3.length ≤ 12) : ∀ z ∈ l.set i x, z.f3.length ≤ 12 := by
 intro z hz
 rcases List.mem_or_eq_of_mem_set hz with hz | rfl
 ·exact h z hz
 ·exact hx
theorem app12 {l : List K_R} {x : K_R} (h : ∀ z ∈ l, z.f3.length ≤ 12) (hx : x.f3.length ≤ 12) : ∀ z ∈ l ++ [x], z.f3.length ≤ 12 := by
 intro z hz
 rcases List.mem_append.1 hz with hz | hz
 ·exact h z hz
 ·cases List.mem_singleton.1 hz; exact hx
theorem sum12 : ∀ {l : List K_R}, (∀ z ∈ l, z.f3.length ≤ 12) → (l.map fun x => x.f3.length).sum ≤ 12 * l.length
 | [], _ => by simp
 | x :: l, h => by
  have h1 := h x (List.mem_cons_self ..)
  have h2 := sum12 (l := l) fun z hz => h z (List.mem_cons_of_mem _ hz)
  simp only [List.map_cons, List.sum_cons, List.length_cons]; omega
theorem wt_res {r : K_C} (h1 : r.f4.length ≤ 1000) (h2 : r.f5.length ≤ 1000) (h3 : ∀ z ∈ r.f5, z.f3.length ≤ 12) (h4 : r.f6.length ≤ 1000) : wt_C r ≤ 1000000 := by
 have := sum12 h3
 simp only [wt_C, wts_si, wt_rews]; omega
theorem win_loop (a : List K_si) : ∀ (l : List K_si) (i : Int), (match r46_0 a l i with | .k0 .. => (0 : Int) | .k1 => 5 | .k2 => 3) = 0 → ∀ x ∈ l, m113 x.f0 = true ∧ 1 ≤ x.f1 ∧ x.f1 ≤ 9999
 | [], i, _, x, hx => by cases hx
 | y :: l, i, h, x, hx => by
  simp only [r46_0] at h
  by_cases h1 : (!(m113 y.f0)) = true
  ·simp [h1] at h
  ·by_cases h2 : (!(m93 y.f1 1 9999)) = true
   ·simp [h1, h2] at h
   ·simp only [if_neg h1, if_neg h2] at h
    rcases List.mem_cons.1 hx with rfl | hx
    ·have h3 : m93 x.f1 1 9999 = true := by simpa using h2
     exact ⟨by simpa using h1, (in_iff _ _ _).1 h3⟩
    ·exact win_loop a l (i + 1) h x hx
theorem win_ok {a : List K_si} (h : m46 a = 0) : a.length ≤ 12 ∧ ∀ x ∈ a, m113 x.f0 = true ∧ 1 ≤ x.f1 ∧ x.f1 ≤ 9999 := by
 unfold m46 at h
 split at h
 ·cases h
 ·rename_i h2
  simp only [decide_eq_true_eq, List.length_map] at h2
  exact ⟨by omega, win_loop a a 0 h⟩
theorem win_pos {a : List K_si} (h : m46 a = 0) : Pos a ∧ tot a ≤ 119988 := by
 obtain ⟨h1, h2⟩ := win_ok h
 refine ⟨fun x hx => by have := h2 x hx; omega, ?_⟩
 have := tot_le (l := a) (m := 9999) fun x hx => (h2 x hx).2.2
 omega
theorem at_loop (a b : List K_si) (w : ByteArray) : ∀ (l : List K_si) (i : Int), (match r79_0 a w l i with | .k0 .. => (-1 : Int) | .k1 z => z) = (match r1014700_0 b w l i with | .k0 .. => (-1 : Int) | .k1 z => z)
 | [], i => rfl
 | x :: l, i => by
  have ih := at_loop a b w l (i + 1)
  simp only [r79_0, r1014700_0]
  by_cases h : (x.f0.toList == w.toList) = true
  ·simp only [if_pos h]
  ·simp only [if_neg h]; exact ih
theorem atx_eq (a : List K_si) (w : ByteArray) : m79 a w = m1014700 a w := by
 unfold m79 m1014700
 exact at_loop a a w a 0
theorem merge_loop (a b : List K_si) : ∀ (l : List K_si) (i j : Int) (v : List K_si), (match r108_0 a l i v with | .k0 w .. => w) = (match r112_0 b l j v with | .k0 w .. => w)
 | [], i, j, v => rfl
 | x :: l, i, j, v => by
  simp only [r108_0, r112_0, atx_eq]
  by_cases h : decide (m1014700 v x.f0 ≥ 0) = true
  ·simp only [if_pos h]; exact merge_loop a b l (i + 1) (j + 1) _
  ·simp only [if_neg h]; exact merge_loop a b l (i + 1) (j + 1) _
theorem merge_eq (a : List K_si) : m108 a = m112 a := by
 unfold m108 m112
 exact merge_loop a a a 0 0 []
def part (t A : Int) (x : K_si) : Int := w64 (Int.tdiv (w64 (t * x.f1)) A)
def prt (t A : Int) (x : K_si) : K_si := K_si.mk x.f0 (part t A x)
def rst (t A : Int) (x : K_si) : Int := Int.tmod (w64 (t * x.f1)) A
def lft (t A : Int) (l : List K_si) (v : Int) : Int := l.foldl (fun v x => w64 (v - part t A x)) v
theorem d_loop (t : Int) (a : List K_si) : ∀ (l p : List K_si) (v1 : List Int) (v4 : Int), ∃ j b, r101_0 t a l (p.length : Int) (p ++ l) v1 v4 = .k0 (p ++ l.map (prt t (m75 a))) (v1 ++ l.map (rst t (m75 a))) (lft t (m75 a) l v4) j b
 | [], p, v1, v4 => ⟨_, _, by simp [r101_0, lft]; exact ⟨rfl, rfl⟩⟩
 | x :: l, p, v1, v4 => by
  obtain ⟨j, b, e⟩ := d_loop t a l (p ++ [prt t (m75 a) x]) (v1 ++ [rst t (m75 a) x]) (w64 (v4 - part t (m75 a) x))
  refine ⟨j, b, ?_⟩
  simp only [r101_0]
  have e1 : List.set (p ++ x :: l) (Int.toNat (p.length : Int)) (K_si.mk x.f0 (w64 (Int.tdiv (w64 (t * x.f1)) (m75 a)))) = (p ++ [prt t (m75 a) x]) ++ l := by simp [prt, part]
  rw [e1]
  rw [show (((p ++ [prt t (m75 a) x]).length : Nat) : Int) = (p.length : Int) + 1 by simp] at e
  refine Eq.trans e ?_
  simp only [List.map_cons, List.append_assoc, List.cons_append, List.nil_append, lft, List.foldl_cons]
theorem s_loop (t : Int) (a : List K_si) : ∀ (l : List K_si) (i : Int) (v0 : List K_si) (v1 : List Int) (v4 : Int), ∃ j b, r116_0 t a l i v0 v1 v4 = .k0 (v0 ++ l.map (prt t (m134 (m108 a)))) (v1 ++ l.map (rst t (m134 (m108 a)))) (lft t (m134 (m108 a)) l v4) j b
 | [], i, v0, v1, v4 => ⟨_, _, by simp [r116_0, lft]; exact ⟨rfl, rfl⟩⟩
 | x :: l, i, v0, v1, v4 => by
  obtain ⟨j, b, e⟩ := s_loop t a l (i + 1) (v0 ++ [prt t (m134 (m108 a)) x]) (v1 ++ [rst t (m134 (m108 a)) x]) (w64 (v4 - part t (m134 (m108 a)) x))
  refine ⟨j, b, ?_⟩
  simp only [r116_0]
  refine Eq.trans e ?_
  simp only [List.map_cons, List.append_assoc, List.cons_append, List.nil_append, lft, List.foldl_cons]
def gi (l : List Int) (i : Nat) : Int := List.getD l i 0
def FA (r : List Int) (b m : Nat) : Prop := b < m ∧ (∀ j, j < m → gi r j ≤ gi r b) ∧ ∀ j, j < b → gi r j < gi r b
theorem FA_uniq {r : List Int} {b c m : Nat} (h : FA r b m) (k : FA r c m) : b = c := by
 rcases Nat.lt_trichotomy b c with e | e | e
 ·have := k.2.2 b e; have := h.2.1 c k.1; omega
 ·exact e
 ·have := h.2.2 c e; have := k.2.1 b h.1; omega
theorem best_loop (c1 r : List Int) (hl : r.length = c1.length) (hm : r.length ≤ 1000) : ∀ (n b i : Nat), i + n = r.length → FA r b i → ∃ w j q, r116_2 c1 r n (b : Int) (i : Int) = .k0 (w : Int) j q ∧ ∃ w' : Nat, w = (w' : Int) ∧ FA r w' r.length
 | 0, b, i, h, hf => by
  have : i = r.length := by omega
  subst this
  exact ⟨_, _, _, rfl, b, rfl, hf⟩
 | n + 1, b, i, h, hf => by
  simp only [r116_2]
  rw [if_pos (by simp only [decide_eq_true_eq, List.length_map]; omega), wrap64 (by omega), Int.toNat_natCast, Int.toNat_natCast, show ((i : Int) + 1) = ((i + 1 : Nat) : Int) by omega]
  by_cases hc : (decide (List.getD r i 0 > List.getD r b 0)) = true
  ·rw [if_pos hc]
   simp only [decide_eq_true_eq] at hc
   refine best_loop c1 r hl hm n i (i + 1) (by omega) ⟨by omega, fun j hj => ?_, fun j hj => ?_⟩
   ·rcases Nat.lt_or_ge j i with hj' | hj'
    ·have := hf.2.1 j hj'; unfold gi at *; omega
    ·have : j = i := by omega
     subst this; exact Int.le_refl _
   ·have := hf.2.1 j hj; unfold gi at *; omega
  ·rw [if_neg hc]
   simp only [decide_eq_true_eq] at hc
   refine best_loop c1 r hl hm n b (i + 1) (by omega) ⟨by have := hf.1; omega, fun j hj => ?_, hf.2.2⟩
   rcases Nat.lt_or_ge j i with hj' | hj'
   ·exact hf.2.1 j hj'
   ·have : j = i := by omega
    subst this; unfold gi; omega
theorem mx_ge_r (a : List Int) (hl : a.length ≤ 1000) : ∀ (n : Nat) (v : Int) (i : Nat), i + n = a.length → (∀ j, j < i → gi a j ≤ v) → ∃ w j b, r152_0 a n v (i : Int) = .k0 w j b ∧ ∀ j, j < a.length → gi a j ≤ w
 | 0, v, i, h, hv => ⟨v, _, _, rfl, fun j hj => hv j (by omega)⟩
 | n + 1, v, i, h, hv => by
  simp only [r152_0]
  rw [if_pos (by simp only [decide_eq_true_eq, List.length_map]; omega), wrap64 (by omega), Int.toNat_natCast, show ((i : Int) + 1) = ((i + 1 : Nat) : Int) by omega]
  refine mx_ge_r a hl n _ (i + 1) (by omega) (fun j hj => ?_)
  have hi : gi a i = List.getD a i 0 := rfl
  rcases Nat.lt_or_ge j i with hj' | hj'
  ·have := hv j hj'
   unfold vmax; split <;> omega
  ·have : j = i := by omega
   subst this
   unfold vmax; split <;> omega
theorem mx_ge (a : List Int) (h1 : 1 ≤ a.length) (hl : a.length ≤ 1000) : ∀ j, j < a.length → gi a j ≤ m152 a := by
 obtain ⟨w, j, b, e, hw⟩ := mx_ge_r a hl (Int.toNat ((a.length : Int) - 1)) (List.getD a 0 0) 1 (by omega) (fun j hj => by
  have : j = 0 := by omega
  subst this; exact Int.le_refl _)
 unfold m152
 rw [if_neg (by simp only [decide_eq_true_eq, List.length_map]; omega), List.length_map]
 rw [show ((1 : Nat) : Int) = 1 from rfl] at e
 rw [e]; exact hw
theorem ix_first (a : List Int) (x : Int) : ∀ (l p : List Int), p ++ l = a → (∀ j, j < p.length → gi a j ≠ x) → x ∈ l → ∃ w : Nat, r151_0 a x l (p.length : Int) = .k1 (w : Int) ∧ w < a.length ∧ gi a w = x ∧ ∀ j, j < w → gi a j ≠ x
 | [], p, _, _, h => by cases h
 | y :: l, p, hp, hn, h => by
  have hy : gi a p.length = y := by unfold gi; rw [← hp, List.getD_eq_getElem?_getD]; simp
  simp only [r151_0]
  by_cases e : (x == y) = true
  ·rw [if_pos e]
   have e2 : x = y := by simpa using e
   exact ⟨p.length, rfl, by rw [← hp]; simp, by rw [hy, e2], hn⟩
  ·rw [if_neg e]
   have e2 : ¬ x = y := by simpa using e
   rcases List.mem_cons.1 h with rfl | h
   ·exact absurd rfl e2
   ·obtain ⟨w, h1, h2, h3, h4⟩ := ix_first a x l (p ++ [y]) (by rw [List.append_assoc]; exact hp) (fun j hj => by
     simp only [List.length_append, List.length_cons, List.length_nil] at hj
     rcases Nat.lt_or_ge j p.length with hj' | hj'
     ·exact hn j hj'
     ·have : j = p.length := by omega
      subst this; rw [hy]; exact fun e => e2 e.symm) h
    rw [show (((p ++ [y]).length : Nat) : Int) = (p.length : Int) + 1 by simp] at h1
    exact ⟨w, h1, h2, h3, h4⟩
theorem im_first (a : List Int) (h1 : 1 ≤ a.length) (hl : a.length ≤ 1000) : ∃ w : Nat, m151 a (m152 a) = (w : Int) ∧ FA a w a.length := by
 obtain ⟨w, e1, e2, e3, e4⟩ := ix_first a (m152 a) a [] rfl (fun j hj => by simp at hj) (mx_in a h1 hl)
 rw [show (([] : List Int).length : Int) = 0 from rfl] at e1
 refine ⟨w, by unfold m151; rw [e1], e2, fun j hj => by rw [e3]; exact mx_ge a h1 hl j hj, fun j hj => ?_⟩
 have q1 := mx_ge a h1 hl j (by omega)
 have q2 := e4 j hj
 rw [e3]; omega
theorem best_eq (c1 r : List Int) (hl : r.length = c1.length) (h1 : 1 ≤ r.length) (hm : r.length ≤ 1000) : ∃ j q, r116_2 c1 r (Int.toNat (((List.length (List.map d_i c1)) : Int) - 1)) 0 1 = .k0 (m151 r (m152 r)) j q := by
 obtain ⟨w, j, q, e, w', e2, hf⟩ := best_loop c1 r hl hm (Int.toNat (((List.length (List.map d_i c1)) : Int) - 1)) 0 1 (by rw [List.length_map]; omega) ⟨by omega, fun j hj => by
  have : j = 0 := by omega
  subst this; exact Int.le_refl _, fun j hj => by omega⟩
 obtain ⟨k, e3, hk⟩ := im_first r h1 hm
 have : w' = k := FA_uniq hf hk
 rw [show ((0 : Nat) : Int) = 0 from rfl, show ((1 : Nat) : Int) = 1 from rfl] at e
 exact ⟨j, q, by rw [e, e3, e2, this]⟩
theorem loops_eq (c : Int) (c1 : List Int) : ∀ (n : Nat) (i j : Int) (o : List K_si) (r : List Int), r.length = c1.length → 1 ≤ r.length → r.length ≤ 1000 → (match r101_1 c n i o r with | .k0 w .. => w) = (match r116_1 c1 n j o r with | .k0 w .. => w)
 | 0, i, j, o, r, _, _, _ => rfl
 | n + 1, i, j, o, r, hl, h1, hm => by
  obtain ⟨k, q, e⟩ := best_eq c1 r hl h1 hm
  simp only [r101_1, r116_1, e]
  exact loops_eq c c1 n (i + 1) (j - 1) _ _ (by rw [List.length_set]; exact hl) (by rw [List.length_set]; exact h1) (by rw [List.length_set]; exact hm)
theorem tot_eq_r (a : List K_si) : ∀ (l : List K_si) (i v : Int), Pos l → 0 ≤ v → v + tot l ≤ 1000000000000 → ∃ j b, r75_0 a l i v = .k0 (v + tot l) j b
 | [], i, v, _, _, _ => ⟨_, _, by simp [r75_0, tot]; exact ⟨rfl, rfl⟩⟩
 | x :: l, i, v, hp, hv, hb => by
  simp only [tot] at hb
  have hx := hp x (List.mem_cons_self ..)
  have hl : Pos l := fun z hz => hp z (List.mem_cons_of_mem _ hz)
  have ht := tot_nonneg hl
  obtain ⟨j, b, e⟩ := tot_eq_r a l (i + 1) (v + x.f1) hl (by omega) (by omega)
  refine ⟨j, b, ?_⟩
  simp only [r75_0]
  rw [wrap64 (by omega), e]
  simp only [tot]
  congr 1; omega
theorem tot_eq_i (a : List K_si) (hp : Pos a) (h : tot a ≤ 1000000000) : m75 a = tot a := by
 obtain ⟨j, b, e⟩ := tot_eq_r a a 0 0 hp (by omega) (by omega)
 unfold m75; rw [e]; simp
theorem tot_eq_sr (a : List K_si) : ∀ (l : List K_si) (i v : Int), Pos l → 0 ≤ v → v + tot l ≤ 1000000000000 → ∃ j b, r134_0 a l i v = .k0 (v + tot l) j b
 | [], i, v, _, _, _ => ⟨_, _, by simp [r134_0, tot]; exact ⟨rfl, rfl⟩⟩
 | x :: l, i, v, hp, hv, hb => by
  simp only [tot] at hb
  have hx := hp x (List.mem_cons_self ..)
  have hl : Pos l := fun z hz => hp z (List.mem_cons_of_mem _ hz)
  have ht := tot_nonneg hl
  obtain ⟨j, b, e⟩ := tot_eq_sr a l (i + 1) (v + x.f1) hl (by omega) (by omega)
  refine ⟨j, b, ?_⟩
  simp only [r134_0]
  rw [wrap64 (by omega), e]
  simp only [tot]
  congr 1; omega
theorem tot_eq_s (a : List K_si) (hp : Pos a) (h : tot a ≤ 1000000000) : m134 a = tot a := by
 obtain ⟨j, b, e⟩ := tot_eq_sr a a 0 0 hp (by omega) (by omega)
 unfold m134; rw [e]; simp
theorem merge_fold (a : List K_si) : ∀ (l : List K_si) (i : Int) (v : List K_si), ∃ j b, r112_0 a l i v = .k0 (l.foldl (fun v x => upd x v) v) j b
 | [], i, v => ⟨_, _, rfl⟩
 | x :: l, i, v => by
  have e := step_upd (K_si.mk (⟨#[]⟩ : ByteArray) 0) x v
  simp only [r112_0, List.foldl_cons]
  by_cases h : decide (m1014700 v x.f0 ≥ 0) = true
  ·rw [if_pos h] at e ⊢; rw [e]; exact merge_fold a l (i + 1) _
  ·rw [if_neg h] at e ⊢; rw [e]; exact merge_fold a l (i + 1) _
theorem merge_is (a : List K_si) : m112 a = a.foldl (fun v x => upd x v) [] := by
 obtain ⟨j, b, e⟩ := merge_fold a a 0 []
 unfold m112
 rw [e]
theorem all_eq {a : List K_si} (h : m46 a = 0) : m134 (m108 a) = m75 a ∧ m75 a = tot a ∧ Pos (m112 a) ∧ tot (m112 a) = tot a := by
 obtain ⟨hp, ht⟩ := win_pos h
 obtain ⟨j1, j2, j3⟩ := fold_ok (l := a) (v := []) hp (fun x hx => by cases hx) (by simp only [tot]; omega)
 rw [← merge_is] at j2 j3
 simp only [tot, Int.zero_add] at j3
 rw [merge_eq, tot_eq_s _ j2 (by omega), tot_eq_i _ hp (by omega)]
 exact ⟨j3, rfl, j2, j3⟩
theorem split_eq (t : Int) (a : List K_si) (h : m46 a = 0) (h0 : 0 < a.length) : m116 t a = m101 t a := by
 obtain ⟨hA, _, _, _⟩ := all_eq h
 have hw := win_ok h
 have hne := mne_112 a (fun z hz => (hw.2 z hz).2) hw.1
 have hml := mlen_112 a
 obtain ⟨j, b, e⟩ := d_loop t a (m112 a) [] [] t
 obtain ⟨j2, b2, e2⟩ := s_loop t a (m112 a) 0 [] [] t
 rw [List.nil_append, show (([] : List K_si).length : Int) = 0 from rfl] at e
 unfold m116 m101
 rw [merge_eq] at *
 rw [hA] at e2
 rw [e, e2]
 simp only [List.nil_append]
 exact (loops_eq _ _ _ 0 _ _ _ rfl (by rw [List.length_map]; exact hne.1 h0) (by rw [List.length_map]; omega)).symm
theorem found_eq (a0 : K_B) (w t : Int) : m1008300 a0 w t = m36 a0 w t := by
 unfold m1008300 m36
 rw [ledger_eq]
 by_cases h : (m68 a0 != 0) = true
 ·rw [if_pos h, if_pos h]
 ·rw [if_neg h, if_neg h]
  have hs := sound (a0 := a0) (by simpa using h)
  have hw : m46 a0.f2 = 0 := by
   rw [window_eq]
   have h0 : m68 a0 = 0 := by simpa using h
   unfold m68 at h0
   split at h0
   ·cases h0
   split at h0
   ·exact h0
   ·rename_i h2; simpa using h2
  simp only [cp140]
  unfold m1009900 o1009900_0 m98
  simp only [cp139, ixr_eq, in_same, tots_all, List.length_map]
  by_cases c1 : (!(m110 w 0 2147483646)) = true
  ·simp [c1]
  by_cases c2 : (!(m110 t 0 1000000)) = true
  ·simp [c1, c2]
  by_cases c3 : (decide (m144 a0.f3 w ≥ 0)) = true
  ·simp [c1, c2, c3]
  by_cases c4 : (decide (((a0.f3.length : Nat) : Int) ≥ 6)) = true
  ·simp [c1, c2, c3, c4]
  by_cases c5 : (!(m110 (w64 ((m135 a0.f3 false) + t)) 0 1000000)) = true
  ·simp [c1, c2, c3, c4, c5]
  by_cases c6 : (decide (((a0.f2.length : Nat) : Int) > 0)) = true
  ·have e : ∀ x, m101 x a0.f2 = m116 x a0.f2 := fun x => (split_eq x a0.f2 hw (by simp only [decide_eq_true_eq] at c6; omega)).symm
   simp only [if_neg c1, if_neg c2, if_neg c3, if_neg c4, if_neg c5, if_pos c6, e]
   rfl
  ·simp only [if_neg c1, if_neg c2, if_neg c3, if_neg c4, if_neg c5, if_neg c6]
   rfl
theorem fine (a0 : K_B) (w t : Int) : (m1008300 a0 w t).f4.length ≤ 1000 ∧ (m1008300 a0 w t).f5.length ≤ 1000 ∧ (∀ z ∈ (m1008300 a0 w t).f5, z.f3.length ≤ 12) ∧ (m1008300 a0 w t).f6.length ≤ 1000 := by
 unfold m1008300
 split
 ·simp
 ·rename_i h
  obtain ⟨q1, q2, q3, q4⟩ := fs17 h
  simp only [cp140]
  split
  ·simp
  ·unfold o1009900_0
   (repeat' split) <;> refine ⟨?_, ?_, ?_, ?_⟩ <;> first | (simp only []; omega) | (simp only [List.length_set, List.length_append, List.length_cons, List.length_nil]; omega) | exact q3 | exact app12 q3 (by simp only []; rw [dlen101]; exact Nat.le_trans (mlen_112 _) q1) | exact app12 q3 (by simp)
theorem pure (a0 : K_B) (a1 : Int) (a2 : Int) (w0 : wf_B a0) (w1 : wf_i a1) (w2 : wf_i a2) : m9 a0 a1 a2 = true := by
 unfold m9
 by_cases hz : (decide (m14 a0 1048576 < 0)) = true
 ·rw [if_pos hz]
 have hw := wt_ledger_le (os_wf_B a0 w0) hz
 have hm0 := mh27 a0 1 (by omega) (by omega)
 have hm := mh28 (m1008300 a0 a1 a2) 1 (by omega) (by
  have q := fine a0 a1 a2
  have := wt_res q.1 q.2.1 q.2.2.1 q.2.2.2
  omega)
 simp only [← found_eq, eqd26, eqd18, hm.1]
 (repeat' split) <;> (first | rfl | (simp_all; done) | (simp only [decide_eq_true_eq] at *; omega))
end Go.Proofs.YtfmkbpiobddhdaaDoor.FoundReward
