/- The plain law: what the functions compute answers as the statement says. -/
import Derived.Test.YtdnopbpdiineiaaDoorEAppendEntry
import Derived.Test.YtdnopbpdiineiaaDoorVArgs
namespace Go.Proofs.YtdnopbpdiineiaaDoor.AppendEntry
open Go Go.Proofs.YtdnopbpdiineiaaDoor.V
set_option linter.unusedVariables false
set_option maxRecDepth 20000
def wf_y (x : Int) : Prop := (Lit.int .u8 x).wf = true
theorem un_y {bs : List B} (h : Sh.okL [.int .u8] bs) : ∃ x : Int, bs = [(.val (.int .u8 x))] ∧ wf_y x := by
 obtain ⟨b0, m0, rfl, o0, h0⟩ := h
 obtain ⟨x0, rfl, w0⟩ : ∃ z : Int, b0 = .val (.int .u8 z) ∧ (Lit.int .u8 z).wf = true := by
  cases b0 with
  | val v =>
   cases v <;> first | exact o0.elim | (obtain ⟨rfl, w⟩ := o0; exact ⟨_, rfl, w⟩)
  | sl r => exact o0.elim
 obtain rfl := h0
 exact ⟨x0, rfl, w0⟩
theorem uns_y : ∀ {rows : List (List B)}, (∀ r ∈ rows, Sh.okL [.int .u8] r) → ∃ z : List Int, rows = z.map b_y ∧ ∀ u ∈ z, wf_y u
 | [], _ => ⟨[], rfl, fun u h => (by cases h)⟩
 | r :: rows, h => by
  obtain ⟨x, e, w⟩ := un_y (h r (List.mem_cons_self ..))
  obtain ⟨z, rfl, hz⟩ := uns_y (fun r hr => h r (List.mem_cons_of_mem _ hr))
  refine ⟨x :: z, by rw [e]; rfl, fun u hu => ?_⟩
  rcases List.mem_cons.1 hu with rfl | hu
  ·exact w
  ·exact hz u hu
def wf_LyEi (x : K_LyEi) : Prop := (x.f0.length * 1 ≤ 140737488351232 ∧ ∀ z ∈ x.f0, wf_y z) ∧ (Lit.int .i64 x.f1).wf = true
theorem un_LyEi {bs : List B} (h : Sh.okL [.sl [.int .u8] 1, .int .i64] bs) : ∃ x : K_LyEi, bs = [(.sl (List.map b_y x.f0)), (.val (.int .i64 x.f1))] ∧ wf_LyEi x := by
 obtain ⟨b0, m0, rfl, o0, h0⟩ := h
 obtain ⟨x0, rfl, w0⟩ : ∃ z : (List Int), b0 = .sl (z.map b_y) ∧ z.length * 1 ≤ 140737488351232 ∧ ∀ u ∈ z, wf_y u := by
  cases b0 with
  | val v => cases v <;> exact o0.elim
  | sl r =>
   obtain ⟨z, rfl, hz⟩ := uns_y o0.2
   exact ⟨z, rfl, by simpa using o0.1, hz⟩
 obtain ⟨b1, m1, rfl, o1, h1⟩ := h0
 obtain ⟨x1, rfl, w1⟩ : ∃ z : Int, b1 = .val (.int .i64 z) ∧ (Lit.int .i64 z).wf = true := by
  cases b1 with
  | val v =>
   cases v <;> first | exact o1.elim | (obtain ⟨rfl, w⟩ := o1; exact ⟨_, rfl, w⟩)
  | sl r => exact o1.elim
 obtain rfl := h1
 exact ⟨⟨x0, x1⟩, rfl, ⟨w0, w1⟩⟩
theorem ok_wf_LyEi (x : K_LyEi) (w : wf_LyEi x) : ok_LyEi x := w.1.1
theorem os_wf_LyEi (x : K_LyEi) (w : wf_LyEi x) : os_LyEi x := w.1.1
theorem uns_LyEi : ∀ {rows : List (List B)}, (∀ r ∈ rows, Sh.okL [.sl [.int .u8] 1, .int .i64] r) → ∃ z : List K_LyEi, rows = z.map b_LyEi ∧ ∀ u ∈ z, wf_LyEi u
 | [], _ => ⟨[], rfl, fun u h => (by cases h)⟩
 | r :: rows, h => by
  obtain ⟨x, e, w⟩ := un_LyEi (h r (List.mem_cons_self ..))
  obtain ⟨z, rfl, hz⟩ := uns_LyEi (fun r hr => h r (List.mem_cons_of_mem _ hr))
  refine ⟨x :: z, by rw [e]; rfl, fun u hu => ?_⟩
  rcases List.mem_cons.1 hu with rfl | hu
  ·exact w
  ·exact hz u hu
def wf_isii (x : K_isii) : Prop := (Lit.int .i64 x.f0).wf = true ∧ x.f1.size ≤ 140737488351232 ∧ (Lit.int .i64 x.f2).wf = true ∧ (Lit.int .i64 x.f3).wf = true
theorem un_isii {bs : List B} (h : Sh.okL [.int .i64, .str, .int .i64, .int .i64] bs) : ∃ x : K_isii, bs = [(.val (.int .i64 x.f0)), (.val (.string x.f1)), (.val (.int .i64 x.f2)), (.val (.int .i64 x.f3))] ∧ wf_isii x := by
 obtain ⟨b0, m0, rfl, o0, h0⟩ := h
 obtain ⟨x0, rfl, w0⟩ : ∃ z : Int, b0 = .val (.int .i64 z) ∧ (Lit.int .i64 z).wf = true := by
  cases b0 with
  | val v =>
   cases v <;> first | exact o0.elim | (obtain ⟨rfl, w⟩ := o0; exact ⟨_, rfl, w⟩)
  | sl r => exact o0.elim
 obtain ⟨b1, m1, rfl, o1, h1⟩ := h0
 obtain ⟨x1, rfl, w1⟩ : ∃ z : ByteArray, b1 = .val (.string z) ∧ z.size ≤ 140737488351232 := by
  cases b1 with
  | val v => cases v <;> first | exact ⟨_, rfl, o1⟩ | exact o1.elim
  | sl r => exact o1.elim
 obtain ⟨b2, m2, rfl, o2, h2⟩ := h1
 obtain ⟨x2, rfl, w2⟩ : ∃ z : Int, b2 = .val (.int .i64 z) ∧ (Lit.int .i64 z).wf = true := by
  cases b2 with
  | val v =>
   cases v <;> first | exact o2.elim | (obtain ⟨rfl, w⟩ := o2; exact ⟨_, rfl, w⟩)
  | sl r => exact o2.elim
 obtain ⟨b3, m3, rfl, o3, h3⟩ := h2
 obtain ⟨x3, rfl, w3⟩ : ∃ z : Int, b3 = .val (.int .i64 z) ∧ (Lit.int .i64 z).wf = true := by
  cases b3 with
  | val v =>
   cases v <;> first | exact o3.elim | (obtain ⟨rfl, w⟩ := o3; exact ⟨_, rfl, w⟩)
  | sl r => exact o3.elim
 obtain rfl := h3
 exact ⟨⟨x0, x1, x2, x3⟩, rfl, ⟨w0, w1, w2, w3⟩⟩
theorem os_wf_isii (x : K_isii) (w : wf_isii x) : os_isii x := w.2.1
theorem uns_isii : ∀ {rows : List (List B)}, (∀ r ∈ rows, Sh.okL [.int .i64, .str, .int .i64, .int .i64] r) → ∃ z : List K_isii, rows = z.map b_isii ∧ ∀ u ∈ z, wf_isii u
 | [], _ => ⟨[], rfl, fun u h => (by cases h)⟩
 | r :: rows, h => by
  obtain ⟨x, e, w⟩ := un_isii (h r (List.mem_cons_self ..))
  obtain ⟨z, rfl, hz⟩ := uns_isii (fun r hr => h r (List.mem_cons_of_mem _ hr))
  refine ⟨x :: z, by rw [e]; rfl, fun u hu => ?_⟩
  rcases List.mem_cons.1 hu with rfl | hu
  ·exact w
  ·exact hz u hu
theorem in_iff (a b c : Int) : m93 a b c = true ↔ b ≤ a ∧ a ≤ c := by
 unfold m93; split <;> simp_all <;> omega
theorem l1In_iff (a b c : Int) : m113 a b c = true ↔ b ≤ a ∧ a ≤ c := by
 unfold m113; split <;> simp_all <;> omega
theorem in_eq (a b c : Int) : m93 a b c = m113 a b c := by
 rw [Bool.eq_iff_iff, in_iff, l1In_iff]
theorem letter_iff (c : Int) : m148 c = true ↔ (97 ≤ c ∧ c ≤ 122) ∨ (65 ≤ c ∧ c ≤ 90) ∨ (48 ≤ c ∧ c ≤ 57) := by
 unfold m148
 (repeat' split) <;> simp_all <;> omega
def signs : ByteArray := ⟨#[97, 98, 99, 100, 101, 102, 103, 104, 105, 106, 107, 108, 109, 110, 111, 112, 113, 114, 115, 116, 117, 118, 119, 120, 121, 122, 65, 66, 67, 68, 69, 70, 71, 72, 73, 74, 75, 76, 77, 78, 79, 80, 81, 82, 83, 84, 85, 86, 87, 88, 89, 90, 48, 49, 50, 51, 52, 53, 54, 55, 56, 57]⟩
theorem signs_iff (b : UInt8) : signs.data.toList.contains b = m148 (b.toNat : Int) := by
 have key : ∀ n : Fin 256, signs.data.toList.contains (UInt8.ofNat n.val) = m148 ((UInt8.ofNat n.val).toNat : Int) := by decide +kernel
 have := key ⟨b.toNat, b.toNat_lt⟩
 simpa using this
theorem dw_bad {p : UInt8 → Bool} {b : UInt8} (hp : p b = false) : ∀ {l : List UInt8}, b ∈ l → b ∈ l.dropWhile p
 | x :: l, h => by
  simp only [List.dropWhile]
  cases hx : p x with
  | true =>
   rcases List.mem_cons.1 h with rfl | h
   ·rw [hp] at hx; cases hx
   ·exact dw_bad hp h
  | false => exact h
theorem dw_nil {p : UInt8 → Bool} : ∀ {l : List UInt8}, (∀ b ∈ l, p b = true) → l.dropWhile p = []
 | [], _ => rfl
 | x :: l, h => by
  simp only [List.dropWhile, h x (List.mem_cons_self ..)]
  exact dw_nil fun b hb => h b (List.mem_cons_of_mem _ hb)
theorem trim_nil (l cs : List UInt8) : Lib.trimS l cs = [] ↔ ∀ b ∈ l, cs.contains b = true := by
 unfold Lib.trimS Lib.trimLeftS Lib.trimRightS
 constructor
 ·intro h b hb
  cases hc : cs.contains b with
  | true => rfl
  | false =>
   have h1 := dw_bad (p := (cs.contains ·)) hc (List.mem_reverse.2 hb)
   have h2 := dw_bad (p := (cs.contains ·)) hc (List.mem_reverse.2 h1)
   rw [h] at h2; cases h2
 ·intro h
  rw [dw_nil (p := (cs.contains ·)) (l := l.reverse) fun b hb => h b (List.mem_reverse.1 hb)]
  rfl
theorem byteAt_nat (s : ByteArray) (i : Nat) (h : i < s.size) : byteAt s (i : Int) = ((s.data.toList[i]'(by simpa using h)).toNat : Int) := by
 unfold byteAt
 rw [Int.toNat_natCast, List.getElem?_eq_getElem (by simpa using h)]
 rfl
theorem arg_loop (s : ByteArray) : ∀ (n i : Nat), i + n = s.size → (r114_0 s n (i : Int) = .k1 ∧ ∃ b ∈ s.data.toList.drop i, m148 (b.toNat : Int) = false) ∨ (∃ w b, r114_0 s n (i : Int) = .k0 w b ∧ ∀ b ∈ s.data.toList.drop i, m148 (b.toNat : Int) = true)
 | 0, i, h => .inr ⟨_, _, rfl, fun b hb => by
   rw [List.drop_eq_nil_of_le (by show s.data.toList.length ≤ i; rw [Array.length_toList]; have : s.data.size = s.size := rfl; omega)] at hb; cases hb⟩
 | n + 1, i, h => by
  have hi : i < s.size := by omega
  have hl : i < s.data.toList.length := by simpa using hi
  rw [List.drop_eq_getElem_cons hl]
  generalize hx : s.data.toList[i] = x
  simp only [r114_0]
  rw [byteAt_nat s i hi, hx]
  by_cases hc : m148 (x.toNat : Int) = true
  ·rw [if_neg (by simp [hc])]
   have ih := arg_loop s n (i + 1) (by omega)
   rw [show ((i : Int) + 1) = ((i + 1 : Nat) : Int) by omega]
   rcases ih with ⟨h1, b, h2, h3⟩ | ⟨w, b, h1, h2⟩
   ·exact .inl ⟨h1, b, List.mem_cons_of_mem _ h2, h3⟩
   ·refine .inr ⟨w, b, h1, fun c hcm => ?_⟩
    rcases List.mem_cons.1 hcm with rfl | hcm
    ·exact hc
    ·exact h2 c hcm
  ·have hf : m148 (x.toNat : Int) = false := by simpa using hc
   rw [if_pos (by simp [hf])]
   exact .inl ⟨rfl, _, List.mem_cons_self .., hf⟩
theorem arg_eq (s : ByteArray) : m149 s = m114 s := by
 have ht : ((trimB s signs).toList == (⟨#[]⟩ : ByteArray).toList) = decide (∀ b ∈ s.data.toList, m148 (b.toNat : Int) = true) := by
  rw [ba_eq, Bool.eq_iff_iff, decide_eq_true_eq, decide_eq_true_eq]
  have : trimB s signs = ⟨#[]⟩ ↔ Lib.trimS s.data.toList signs.data.toList = [] := by
   unfold trimB
   constructor
   ·intro h; injection h with h; simpa using congrArg Array.toList h
   ·intro h; rw [h]
  rw [this, trim_nil]
  constructor
  ·intro h b hb; rw [← signs_iff]; exact h b hb
  ·intro h b hb; rw [signs_iff]; exact h b hb
 have hl := arg_loop s s.size 0 (by omega)
 rw [List.drop_zero] at hl
 unfold m149 m114
 rw [show (⟨#[97, 98, 99, 100, 101, 102, 103, 104, 105, 106, 107, 108, 109, 110, 111, 112, 113, 114, 115, 116, 117, 118, 119, 120, 121, 122, 65, 66, 67, 68, 69, 70, 71, 72, 73, 74, 75, 76, 77, 78, 79, 80, 81, 82, 83, 84, 85, 86, 87, 88, 89, 90, 48, 49, 50, 51, 52, 53, 54, 55, 56, 57]⟩ : ByteArray) = signs from rfl, ht]
 rw [Int.toNat_natCast, show (0 : Int) = ((0 : Nat) : Int) from rfl]
 rcases hl with ⟨h1, b, h2, h3⟩ | ⟨w, b, h1, h2⟩
 ·rw [h1]
  have : ¬ ∀ b ∈ s.data.toList, m148 (b.toNat : Int) = true := fun h => by rw [h b h2] at h3; cases h3
  rw [decide_eq_false this]
  simp only []
  split <;> rfl
 ·rw [h1, decide_eq_true h2]
  simp only []
  cases decide ((s.size : Int) ≤ 12) <;> rfl
theorem in_dec (a b c : Int) : m93 a b c = decide (b ≤ a ∧ a ≤ c) := by
 rw [Bool.eq_iff_iff, in_iff, decide_eq_true_eq]
theorem l1In_dec (a b c : Int) : m113 a b c = decide (b ≤ a ∧ a ≤ c) := by
 rw [Bool.eq_iff_iff, l1In_iff, decide_eq_true_eq]
theorem entry_eq (a : K_isii) : m64 a = m62 a := by
 unfold m64 m62 m112_0 m112_1 m112_2 m118
 simp only [in_dec, l1In_dec, arg_eq]
 generalize (a.f1.toList == (⟨#[]⟩ : ByteArray).toList) = A
 generalize m114 a.f1 = B
 generalize a.f0 = k
 generalize a.f2 = i
 generalize a.f3 = n
 by_cases h1 : k = 1
 ·subst h1
  cases A <;> cases B <;> simp <;> (repeat' split) <;> first | rfl | omega
 ·by_cases h5 : k = 5
  ·subst h5
   cases A <;> cases B <;> simp <;> (repeat' split) <;> first | rfl | omega
  ·by_cases h2 : k = 2
   ·subst h2
    cases A <;> cases B <;> simp <;> (repeat' split) <;> first | rfl | omega
   ·cases A <;> cases B <;> simp [h1, h5, h2] <;> (repeat' split) <;> first | rfl | omega
theorem wrap8 (x : Int) : IntKind.wrap .u8 x = x % 256 := by simp [IntKind.wrap, IntKind.bits, IntKind.signed]
theorem fd8 (x : Int) : Int.fdiv x (2 ^ (min (Int.toNat 8) (IntKind.bits .i64))) = x / 256 := by
 rw [show (2 ^ (min (Int.toNat 8) (IntKind.bits .i64)) : Int) = 256 from rfl]; exact Int.fdiv_eq_ediv_of_nonneg _ (by decide)
theorem fd16 (x : Int) : Int.fdiv x (2 ^ (min (Int.toNat 16) (IntKind.bits .i64))) = x / 65536 := by
 rw [show (2 ^ (min (Int.toNat 16) (IntKind.bits .i64)) : Int) = 65536 from rfl]; exact Int.fdiv_eq_ediv_of_nonneg _ (by decide)
theorem fd24 (x : Int) : Int.fdiv x (2 ^ (min (Int.toNat 24) (IntKind.bits .i64))) = x / 16777216 := by
 rw [show (2 ^ (min (Int.toNat 24) (IntKind.bits .i64)) : Int) = 16777216 from rfl]; exact Int.fdiv_eq_ediv_of_nonneg _ (by decide)
theorem four_is (a : Int) : m116 a = [a / 16777216 % 256, a / 65536 % 256, a / 256 % 256, a % 256] := by
 unfold m116
 simp only [fd8, fd16, fd24, wrap8]
theorem high4_is (a : Int) : m120 a 4 = [a / 256 / 256 / 256 % 256, a / 256 / 256 % 256, a / 256 % 256, a % 256] := by
 have h : m120 a 4 = [IntKind.wrap .u8 (Int.fdiv (Int.fdiv (Int.fdiv a (2 ^ (min (Int.toNat 8) (IntKind.bits .i64)))) (2 ^ (min (Int.toNat 8) (IntKind.bits .i64)))) (2 ^ (min (Int.toNat 8) (IntKind.bits .i64)))), IntKind.wrap .u8 (Int.fdiv (Int.fdiv a (2 ^ (min (Int.toNat 8) (IntKind.bits .i64)))) (2 ^ (min (Int.toNat 8) (IntKind.bits .i64)))), IntKind.wrap .u8 (Int.fdiv a (2 ^ (min (Int.toNat 8) (IntKind.bits .i64)))), IntKind.wrap .u8 a] := by kernel_rfl
 rw [h]
 simp only [fd8, wrap8]
theorem high2_is (a : Int) : m120 a 2 = [a / 256 % 256, a % 256] := by
 have h : m120 a 2 = [IntKind.wrap .u8 (Int.fdiv a (2 ^ (min (Int.toNat 8) (IntKind.bits .i64)))), IntKind.wrap .u8 a] := by kernel_rfl
 rw [h]
 simp only [fd8, wrap8]
theorem high4_eq (a : Int) : m120 a 4 = m116 a := by
 rw [high4_is, four_is]
 have h1 : a / 256 / 256 / 256 = a / 16777216 := by omega
 have h2 : a / 256 / 256 = a / 65536 := by omega
 rw [h1, h2]
theorem sum_loop (a b : List Int) : ∀ (l : List Int) (i j v : Int), (match r121_0 a l i v with | .k0 w .. => w) = (match r117_0 b l j v with | .k0 w .. => w)
 | [], i, j, v => rfl
 | x :: l, i, j, v => by
  simp only [r121_0, r117_0]
  rw [Int.mul_comm 33 v]
  exact sum_loop a b l (i + 1) (j + 1) _
theorem sum_eq (a : List Int) : m121 a = m117 a := by
 unfold m121 m117
 exact sum_loop a a a 0 0 5381
def Bs (l : List Int) : Prop := ∀ z ∈ l, (0 : Int) ≤ z ∧ z ≤ 255
theorem Bs.append {l m : List Int} (h : Bs l) (k : Bs m) : Bs (l ++ m) := fun z hz => by
 rcases List.mem_append.1 hz with hz | hz
 ·exact h z hz
 ·exact k z hz
theorem Bs_str (s : ByteArray) : Bs (strInts s) := fun z hz => by
 obtain ⟨b, _, rfl⟩ := List.mem_map.1 hz
 have := b.toNat_lt
 omega
theorem Bs_four (a : Int) : Bs (m116 a) := by
 rw [four_is]
 intro z hz
 simp only [List.mem_cons, List.not_mem_nil, or_false] at hz
 rcases hz with rfl | rfl | rfl | rfl <;> omega
theorem sum_range (a : List Int) : ∀ (l : List Int) (i v : Int), Bs l → 0 ≤ v → v ≤ 2147483646 → 0 ≤ (match r117_0 a l i v with | .k0 w .. => w) ∧ (match r117_0 a l i v with | .k0 w .. => w) ≤ 2147483646
 | [], i, v, _, h1, h2 => ⟨h1, h2⟩
 | x :: l, i, v, hb, h1, h2 => by
  have hx := hb x (List.mem_cons_self ..)
  simp only [r117_0]
  rw [wrap64 (x := v * 33) (by omega), wrap64 (x := x) (by omega), wrap64 (x := v * 33 + x) (by omega), wrap64 (x := v * 33 + x + 1) (by omega)]
  have e1 := Int.tmod_nonneg (a := v * 33 + x + 1) 2147483647 (by omega)
  have e2 := Int.tmod_lt_of_pos (v * 33 + x + 1) (show (0 : Int) < 2147483647 by omega)
  exact sum_range a l (i + 1) _ (fun z hz => hb z (List.mem_cons_of_mem _ hz)) e1 (by omega)
theorem sum_ok {a : List Int} (h : Bs a) : 0 ≤ m117 a ∧ m117 a ≤ 2147483646 := by
 unfold m117
 exact sum_range a a 0 5381 h (by omega) (by omega)
def bodyOf (a : K_isii) : List Int := ((([IntKind.wrap .u8 a.f0, IntKind.wrap .u8 ((ByteArray.size a.f1 : Int))] ++ strInts a.f1) ++ m116 a.f2) ++ m116 a.f3)
theorem Bs_body (a : K_isii) : Bs (bodyOf a) := by
 unfold bodyOf
 refine Bs.append (Bs.append (Bs.append ?_ (Bs_str _)) (Bs_four _)) (Bs_four _)
 intro z hz
 simp only [List.mem_cons, List.not_mem_nil, or_false, wrap8] at hz
 rcases hz with rfl | rfl <;> omega
theorem body_len (a : K_isii) : List.length (bodyOf a) = ByteArray.size a.f1 + 10 := by
 unfold bodyOf
 simp only [List.length_append, List.length_cons, List.length_nil, strInts_len, four_len]; omega
theorem spec_pack (a : K_isii) : m63 a = ([((ByteArray.size a.f1 : Int) + 10) % 256] ++ bodyOf a) ++ [m117 (bodyOf a) / 256 % 256, m117 (bodyOf a) % 256] := by
 unfold m63
 simp only [fd8]
 rw [wrap8 (m117 _), wrap8 (m117 _ / 256)]
 show _ = ([((ByteArray.size a.f1 : Int) + 10) % 256] ++ bodyOf a) ++ _
 unfold bodyOf
 congr 2
 rw [wrap8]
 simp only [List.length_append, List.length_cons, List.length_nil, List.length_take, List.length_drop, List.length_map, byteRows_len, strInts_len, four_len]
 congr 2
 omega
theorem pack_eq (a : K_isii) (h : ByteArray.size a.f1 ≤ 1000) : m65 a = m63 a := by
 have hc : m71 [[(IntKind.wrap .u8 (a.f0)), (IntKind.wrap .u8 ((ByteArray.size a.f1 : Int)))], (strInts a.f1), (m120 a.f2 4), (m120 a.f3 4)] = bodyOf a := by
  rw [concat_is _ (by simp only [List.flatten_cons, List.flatten_nil, List.append_nil, List.length_append, List.length_cons, List.length_nil, strInts_len, high4]; omega), high4_eq, high4_eq]
  unfold bodyOf
  simp only [List.flatten_cons, List.flatten_nil, List.append_nil, List.append_assoc]
 have hl := body_len a
 unfold m65
 rw [hc, concat_is _ (by simp only [List.flatten_cons, List.flatten_nil, List.append_nil, List.length_append, List.length_cons, List.length_nil, high2, hl]; omega), sum_eq, high2_is, spec_pack]
 obtain ⟨h1, h2⟩ := sum_ok (Bs_body a)
 rw [Int.tmod_eq_emod_of_nonneg h1, List.length_map, hl, wrap8]
 have e1 : m117 (bodyOf a) % 65536 / 256 % 256 = m117 (bodyOf a) / 256 % 256 := by omega
 have e2 : m117 (bodyOf a) % 65536 % 256 = m117 (bodyOf a) % 256 := by omega
 rw [e1, e2]
 simp only [List.flatten_cons, List.flatten_nil, List.append_nil, List.append_assoc]
 rfl
theorem disk_eq (a : K_LyEi) : m70 a = m68 a := by
 unfold m70 m68
 rw [in_eq]
theorem same (a : K_LyEi) (e : K_isii) : m21 a e = m19 a e := by
 unfold m21 m19
 rw [disk_eq]
 by_cases h1 : (m68 a != 0) = true
 ·rw [if_pos h1, if_pos h1]
 rw [if_neg h1, if_neg h1]
 have hd := disk_len68 h1
 unfold m14
 rw [entry_eq]
 by_cases h2 : (m62 e != 0) = true
 ·simp only [if_pos h2]
 simp only [if_neg h2]
 rw [if_neg (by simp)]
 have hs := fault_len62 h2
 have hp := pack_eq e (by omega)
 have hl := pack_len63 e (by omega)
 rw [hp, wrap64 (by simp only [List.length_map]; omega)]
 rw [concat_is _ (by simp only [List.flatten_cons, List.flatten_nil, List.append_nil, List.length_append]; omega)]
 unfold m69_1 m69_0
 simp only [List.length_map, List.length_append, List.nil_append, List.flatten_cons, List.flatten_nil, List.append_nil]
 by_cases h3 : ((a.f0.length : Int) + ((m63 e).length : Int) > 1200)
 ·rw [if_pos (by simpa using h3), if_pos (by simp; omega)]
 ·rw [if_neg (by simpa using h3), if_neg (by simp; omega)]
theorem pure (a0 : K_LyEi) (a1 : K_isii) (w0 : wf_LyEi a0) (w1 : wf_isii a1) : m4 a0 a1 = true := by
 have hok := okm21 a0 a1
 have hm0 := mh24 a0 1 (by omega) (by
  simp only [wt_LyEi, wts_y]; have := w0.1; omega)
 have hm := mh25 (m21 a0 a1) 1 (by omega) (by
  simp only [ok_iLyEi] at hok
  simp only [wt_iLyEi, wts_y]; omega)
 unfold m4
 simp only [← same, eqd22, eqd23, hm.1]
 (repeat' split) <;> (first | rfl | (simp_all; done) | (simp only [decide_eq_true_eq] at *; omega))
end Go.Proofs.YtdnopbpdiineiaaDoor.AppendEntry
