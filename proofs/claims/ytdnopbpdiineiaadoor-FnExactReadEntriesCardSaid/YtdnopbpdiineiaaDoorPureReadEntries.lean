/- The plain law: what the functions compute answers as the statement says. -/
import Derived.Test.YtdnopbpdiineiaaDoorEReadEntries
import Derived.Test.YtdnopbpdiineiaaDoorVArgs
namespace Go.Proofs.YtdnopbpdiineiaaDoor.ReadEntries
open Go Go.Proofs.YtdnopbpdiineiaaDoor.V
set_option linter.unusedVariables false
set_option maxRecDepth 20000
def wf_y (x : Int) : Prop := (Lit.int .u8 x).wf = true
theorem un_y {bs : List B} (h : Sh.okL [.int .u8] bs) : ∃ x : Int, bs = [(.val (.int .u8 x))] ∧ wf_y x := by
 obtain ⟨b0, m0, rfl, o0, h0⟩ := h
 obtain ⟨x0, rfl, w0⟩ : ∃ z : Int, b0 = .val (.int .u8 z) ∧ (Lit.int .u8 z).wf = true := by
  cases b0 with
  | val v =>
   cases v <;> first | exact o0.elim | (obtain ⟨rfl, w⟩ := o0; exact ⟨_, rfl, w⟩)
  | sl r => exact o0.elim
 obtain rfl := h0
 exact ⟨x0, rfl, w0⟩
theorem uns_y : ∀ {rows : List (List B)}, (∀ r ∈ rows, Sh.okL [.int .u8] r) → ∃ z : List Int, rows = z.map b_y ∧ ∀ u ∈ z, wf_y u
 | [], _ => ⟨[], rfl, fun u h => (by cases h)⟩
 | r :: rows, h => by
  obtain ⟨x, e, w⟩ := un_y (h r (List.mem_cons_self ..))
  obtain ⟨z, rfl, hz⟩ := uns_y (fun r hr => h r (List.mem_cons_of_mem _ hr))
  refine ⟨x :: z, by rw [e]; rfl, fun u hu => ?_⟩
  rcases List.mem_cons.1 hu with rfl | hu
  ·exact w
  ·exact hz u hu
def wf_LyE (x : (List Int)) : Prop := (x.length * 1 ≤ 140737488351232 ∧ ∀ z ∈ x, wf_y z)
theorem un_LyE {bs : List B} (h : Sh.okL [.sl [.int .u8] 1] bs) : ∃ x : (List Int), bs = [(.sl (List.map b_y x))] ∧ wf_LyE x := by
 obtain ⟨b0, m0, rfl, o0, h0⟩ := h
 obtain ⟨x0, rfl, w0⟩ : ∃ z : (List Int), b0 = .sl (z.map b_y) ∧ z.length * 1 ≤ 140737488351232 ∧ ∀ u ∈ z, wf_y u := by
  cases b0 with
  | val v => cases v <;> exact o0.elim
  | sl r =>
   obtain ⟨z, rfl, hz⟩ := uns_y o0.2
   exact ⟨z, rfl, by simpa using o0.1, hz⟩
 obtain rfl := h0
 exact ⟨x0, rfl, w0⟩
theorem ok_wf_LyE (x : (List Int)) (w : wf_LyE x) : ok_LyE x := w.1
theorem os_wf_LyE (x : (List Int)) (w : wf_LyE x) : os_LyE x := w.1
theorem uns_LyE : ∀ {rows : List (List B)}, (∀ r ∈ rows, Sh.okL [.sl [.int .u8] 1] r) → ∃ z : List (List Int), rows = z.map b_LyE ∧ ∀ u ∈ z, wf_LyE u
 | [], _ => ⟨[], rfl, fun u h => (by cases h)⟩
 | r :: rows, h => by
  obtain ⟨x, e, w⟩ := un_LyE (h r (List.mem_cons_self ..))
  obtain ⟨z, rfl, hz⟩ := uns_LyE (fun r hr => h r (List.mem_cons_of_mem _ hr))
  refine ⟨x :: z, by rw [e]; rfl, fun u hu => ?_⟩
  rcases List.mem_cons.1 hu with rfl | hu
  ·exact w
  ·exact hz u hu
theorem in_iff (a b c : Int) : m93 a b c = true ↔ b ≤ a ∧ a ≤ c := by
 unfold m93; split <;> simp_all <;> omega
theorem l1In_iff (a b c : Int) : m113 a b c = true ↔ b ≤ a ∧ a ≤ c := by
 unfold m113; split <;> simp_all <;> omega
theorem in_eq (a b c : Int) : m93 a b c = m113 a b c := by
 rw [Bool.eq_iff_iff, in_iff, l1In_iff]
theorem letter_iff (c : Int) : m148 c = true ↔ (97 ≤ c ∧ c ≤ 122) ∨ (65 ≤ c ∧ c ≤ 90) ∨ (48 ≤ c ∧ c ≤ 57) := by
 unfold m148
 (repeat' split) <;> simp_all <;> omega
def signs : ByteArray := ⟨#[97, 98, 99, 100, 101, 102, 103, 104, 105, 106, 107, 108, 109, 110, 111, 112, 113, 114, 115, 116, 117, 118, 119, 120, 121, 122, 65, 66, 67, 68, 69, 70, 71, 72, 73, 74, 75, 76, 77, 78, 79, 80, 81, 82, 83, 84, 85, 86, 87, 88, 89, 90, 48, 49, 50, 51, 52, 53, 54, 55, 56, 57]⟩
theorem signs_iff (b : UInt8) : signs.data.toList.contains b = m148 (b.toNat : Int) := by
 have key : ∀ n : Fin 256, signs.data.toList.contains (UInt8.ofNat n.val) = m148 ((UInt8.ofNat n.val).toNat : Int) := by decide +kernel
 have := key ⟨b.toNat, b.toNat_lt⟩
 simpa using this
theorem dw_bad {p : UInt8 → Bool} {b : UInt8} (hp : p b = false) : ∀ {l : List UInt8}, b ∈ l → b ∈ l.dropWhile p
 | x :: l, h => by
  simp only [List.dropWhile]
  cases hx : p x with
  | true =>
   rcases List.mem_cons.1 h with rfl | h
   ·rw [hp] at hx; cases hx
   ·exact dw_bad hp h
  | false => exact h
theorem dw_nil {p : UInt8 → Bool} : ∀ {l : List UInt8}, (∀ b ∈ l, p b = true) → l.dropWhile p = []
 | [], _ => rfl
 | x :: l, h => by
  simp only [List.dropWhile, h x (List.mem_cons_self ..)]
  exact dw_nil fun b hb => h b (List.mem_cons_of_mem _ hb)
theorem trim_nil (l cs : List UInt8) : Lib.trimS l cs = [] ↔ ∀ b ∈ l, cs.contains b = true := by
 unfold Lib.trimS Lib.trimLeftS Lib.trimRightS
 constructor
 ·intro h b hb
  cases hc : cs.contains b with
  | true => rfl
  | false =>
   have h1 := dw_bad (p := (cs.contains ·)) hc (List.mem_reverse.2 hb)
   have h2 := dw_bad (p := (cs.contains ·)) hc (List.mem_reverse.2 h1)
   rw [h] at h2; cases h2
 ·intro h
  rw [dw_nil (p := (cs.contains ·)) (l := l.reverse) fun b hb => h b (List.mem_reverse.1 hb)]
  rfl
theorem byteAt_nat (s : ByteArray) (i : Nat) (h : i < s.size) : byteAt s (i : Int) = ((s.data.toList[i]'(by simpa using h)).toNat : Int) := by
 unfold byteAt
 rw [Int.toNat_natCast, List.getElem?_eq_getElem (by simpa using h)]
 rfl
theorem arg_loop (s : ByteArray) : ∀ (n i : Nat), i + n = s.size → (r114_0 s n (i : Int) = .k1 ∧ ∃ b ∈ s.data.toList.drop i, m148 (b.toNat : Int) = false) ∨ (∃ w b, r114_0 s n (i : Int) = .k0 w b ∧ ∀ b ∈ s.data.toList.drop i, m148 (b.toNat : Int) = true)
 | 0, i, h => .inr ⟨_, _, rfl, fun b hb => by
   rw [List.drop_eq_nil_of_le (by show s.data.toList.length ≤ i; rw [Array.length_toList]; have : s.data.size = s.size := rfl; omega)] at hb; cases hb⟩
 | n + 1, i, h => by
  have hi : i < s.size := by omega
  have hl : i < s.data.toList.length := by simpa using hi
  rw [List.drop_eq_getElem_cons hl]
  generalize hx : s.data.toList[i] = x
  simp only [r114_0]
  rw [byteAt_nat s i hi, hx]
  by_cases hc : m148 (x.toNat : Int) = true
  ·rw [if_neg (by simp [hc])]
   have ih := arg_loop s n (i + 1) (by omega)
   rw [show ((i : Int) + 1) = ((i + 1 : Nat) : Int) by omega]
   rcases ih with ⟨h1, b, h2, h3⟩ | ⟨w, b, h1, h2⟩
   ·exact .inl ⟨h1, b, List.mem_cons_of_mem _ h2, h3⟩
   ·refine .inr ⟨w, b, h1, fun c hcm => ?_⟩
    rcases List.mem_cons.1 hcm with rfl | hcm
    ·exact hc
    ·exact h2 c hcm
  ·have hf : m148 (x.toNat : Int) = false := by simpa using hc
   rw [if_pos (by simp [hf])]
   exact .inl ⟨rfl, _, List.mem_cons_self .., hf⟩
theorem arg_eq (s : ByteArray) : m149 s = m114 s := by
 have ht : ((trimB s signs).toList == (⟨#[]⟩ : ByteArray).toList) = decide (∀ b ∈ s.data.toList, m148 (b.toNat : Int) = true) := by
  rw [ba_eq, Bool.eq_iff_iff, decide_eq_true_eq, decide_eq_true_eq]
  have : trimB s signs = ⟨#[]⟩ ↔ Lib.trimS s.data.toList signs.data.toList = [] := by
   unfold trimB
   constructor
   ·intro h; injection h with h; simpa using congrArg Array.toList h
   ·intro h; rw [h]
  rw [this, trim_nil]
  constructor
  ·intro h b hb; rw [← signs_iff]; exact h b hb
  ·intro h b hb; rw [signs_iff]; exact h b hb
 have hl := arg_loop s s.size 0 (by omega)
 rw [List.drop_zero] at hl
 unfold m149 m114
 rw [show (⟨#[97, 98, 99, 100, 101, 102, 103, 104, 105, 106, 107, 108, 109, 110, 111, 112, 113, 114, 115, 116, 117, 118, 119, 120, 121, 122, 65, 66, 67, 68, 69, 70, 71, 72, 73, 74, 75, 76, 77, 78, 79, 80, 81, 82, 83, 84, 85, 86, 87, 88, 89, 90, 48, 49, 50, 51, 52, 53, 54, 55, 56, 57]⟩ : ByteArray) = signs from rfl, ht]
 rw [Int.toNat_natCast, show (0 : Int) = ((0 : Nat) : Int) from rfl]
 rcases hl with ⟨h1, b, h2, h3⟩ | ⟨w, b, h1, h2⟩
 ·rw [h1]
  have : ¬ ∀ b ∈ s.data.toList, m148 (b.toNat : Int) = true := fun h => by rw [h b h2] at h3; cases h3
  rw [decide_eq_false this]
  simp only []
  split <;> rfl
 ·rw [h1, decide_eq_true h2]
  simp only []
  cases decide ((s.size : Int) ≤ 12) <;> rfl
theorem in_dec (a b c : Int) : m93 a b c = decide (b ≤ a ∧ a ≤ c) := by
 rw [Bool.eq_iff_iff, in_iff, decide_eq_true_eq]
theorem l1In_dec (a b c : Int) : m113 a b c = decide (b ≤ a ∧ a ≤ c) := by
 rw [Bool.eq_iff_iff, l1In_iff, decide_eq_true_eq]
theorem entry_eq (a : K_isii) : m64 a = m62 a := by
 unfold m64 m62 m112_0 m112_1 m112_2 m118
 simp only [in_dec, l1In_dec, arg_eq]
 generalize (a.f1.toList == (⟨#[]⟩ : ByteArray).toList) = A
 generalize m114 a.f1 = B
 generalize a.f0 = k
 generalize a.f2 = i
 generalize a.f3 = n
 by_cases h1 : k = 1
 ·subst h1
  cases A <;> cases B <;> simp <;> (repeat' split) <;> first | rfl | omega
 ·by_cases h5 : k = 5
  ·subst h5
   cases A <;> cases B <;> simp <;> (repeat' split) <;> first | rfl | omega
  ·by_cases h2 : k = 2
   ·subst h2
    cases A <;> cases B <;> simp <;> (repeat' split) <;> first | rfl | omega
   ·cases A <;> cases B <;> simp [h1, h5, h2] <;> (repeat' split) <;> first | rfl | omega
theorem wrap8 (x : Int) : IntKind.wrap .u8 x = x % 256 := by simp [IntKind.wrap, IntKind.bits, IntKind.signed]
theorem fd8 (x : Int) : Int.fdiv x (2 ^ (min (Int.toNat 8) (IntKind.bits .i64))) = x / 256 := by
 rw [show (2 ^ (min (Int.toNat 8) (IntKind.bits .i64)) : Int) = 256 from rfl]; exact Int.fdiv_eq_ediv_of_nonneg _ (by decide)
theorem fd16 (x : Int) : Int.fdiv x (2 ^ (min (Int.toNat 16) (IntKind.bits .i64))) = x / 65536 := by
 rw [show (2 ^ (min (Int.toNat 16) (IntKind.bits .i64)) : Int) = 65536 from rfl]; exact Int.fdiv_eq_ediv_of_nonneg _ (by decide)
theorem fd24 (x : Int) : Int.fdiv x (2 ^ (min (Int.toNat 24) (IntKind.bits .i64))) = x / 16777216 := by
 rw [show (2 ^ (min (Int.toNat 24) (IntKind.bits .i64)) : Int) = 16777216 from rfl]; exact Int.fdiv_eq_ediv_of_nonneg _ (by decide)
theorem four_is (a : Int) : m116 a = [a / 16777216 % 256, a / 65536 % 256, a / 256 % 256, a % 256] := by
 unfold m116
 simp only [fd8, fd16, fd24, wrap8]
theorem high4_is (a : Int) : m120 a 4 = [a / 256 / 256 / 256 % 256, a / 256 / 256 % 256, a / 256 % 256, a % 256] := by
 have h : m120 a 4 = [IntKind.wrap .u8 (Int.fdiv (Int.fdiv (Int.fdiv a (2 ^ (min (Int.toNat 8) (IntKind.bits .i64)))) (2 ^ (min (Int.toNat 8) (IntKind.bits .i64)))) (2 ^ (min (Int.toNat 8) (IntKind.bits .i64)))), IntKind.wrap .u8 (Int.fdiv (Int.fdiv a (2 ^ (min (Int.toNat 8) (IntKind.bits .i64)))) (2 ^ (min (Int.toNat 8) (IntKind.bits .i64)))), IntKind.wrap .u8 (Int.fdiv a (2 ^ (min (Int.toNat 8) (IntKind.bits .i64)))), IntKind.wrap .u8 a] := by kernel_rfl
 rw [h]
 simp only [fd8, wrap8]
theorem high2_is (a : Int) : m120 a 2 = [a / 256 % 256, a % 256] := by
 have h : m120 a 2 = [IntKind.wrap .u8 (Int.fdiv a (2 ^ (min (Int.toNat 8) (IntKind.bits .i64)))), IntKind.wrap .u8 a] := by kernel_rfl
 rw [h]
 simp only [fd8, wrap8]
theorem high4_eq (a : Int) : m120 a 4 = m116 a := by
 rw [high4_is, four_is]
 have h1 : a / 256 / 256 / 256 = a / 16777216 := by omega
 have h2 : a / 256 / 256 = a / 65536 := by omega
 rw [h1, h2]
theorem sum_loop (a b : List Int) : ∀ (l : List Int) (i j v : Int), (match r121_0 a l i v with | .k0 w .. => w) = (match r117_0 b l j v with | .k0 w .. => w)
 | [], i, j, v => rfl
 | x :: l, i, j, v => by
  simp only [r121_0, r117_0]
  rw [Int.mul_comm 33 v]
  exact sum_loop a b l (i + 1) (j + 1) _
theorem sum_eq (a : List Int) : m121 a = m117 a := by
 unfold m121 m117
 exact sum_loop a a a 0 0 5381
def Bs (l : List Int) : Prop := ∀ z ∈ l, (0 : Int) ≤ z ∧ z ≤ 255
theorem Bs.append {l m : List Int} (h : Bs l) (k : Bs m) : Bs (l ++ m) := fun z hz => by
 rcases List.mem_append.1 hz with hz | hz
 ·exact h z hz
 ·exact k z hz
theorem Bs_str (s : ByteArray) : Bs (strInts s) := fun z hz => by
 obtain ⟨b, _, rfl⟩ := List.mem_map.1 hz
 have := b.toNat_lt
 omega
theorem Bs_four (a : Int) : Bs (m116 a) := by
 rw [four_is]
 intro z hz
 simp only [List.mem_cons, List.not_mem_nil, or_false] at hz
 rcases hz with rfl | rfl | rfl | rfl <;> omega
theorem sum_range (a : List Int) : ∀ (l : List Int) (i v : Int), Bs l → 0 ≤ v → v ≤ 2147483646 → 0 ≤ (match r117_0 a l i v with | .k0 w .. => w) ∧ (match r117_0 a l i v with | .k0 w .. => w) ≤ 2147483646
 | [], i, v, _, h1, h2 => ⟨h1, h2⟩
 | x :: l, i, v, hb, h1, h2 => by
  have hx := hb x (List.mem_cons_self ..)
  simp only [r117_0]
  rw [wrap64 (x := v * 33) (by omega), wrap64 (x := x) (by omega), wrap64 (x := v * 33 + x) (by omega), wrap64 (x := v * 33 + x + 1) (by omega)]
  have e1 := Int.tmod_nonneg (a := v * 33 + x + 1) 2147483647 (by omega)
  have e2 := Int.tmod_lt_of_pos (v * 33 + x + 1) (show (0 : Int) < 2147483647 by omega)
  exact sum_range a l (i + 1) _ (fun z hz => hb z (List.mem_cons_of_mem _ hz)) e1 (by omega)
theorem sum_ok {a : List Int} (h : Bs a) : 0 ≤ m117 a ∧ m117 a ≤ 2147483646 := by
 unfold m117
 exact sum_range a a 0 5381 h (by omega) (by omega)
def bodyOf (a : K_isii) : List Int := ((([IntKind.wrap .u8 a.f0, IntKind.wrap .u8 ((ByteArray.size a.f1 : Int))] ++ strInts a.f1) ++ m116 a.f2) ++ m116 a.f3)
theorem Bs_body (a : K_isii) : Bs (bodyOf a) := by
 unfold bodyOf
 refine Bs.append (Bs.append (Bs.append ?_ (Bs_str _)) (Bs_four _)) (Bs_four _)
 intro z hz
 simp only [List.mem_cons, List.not_mem_nil, or_false, wrap8] at hz
 rcases hz with rfl | rfl <;> omega
theorem body_len (a : K_isii) : List.length (bodyOf a) = ByteArray.size a.f1 + 10 := by
 unfold bodyOf
 simp only [List.length_append, List.length_cons, List.length_nil, strInts_len, four_len]; omega
theorem spec_pack (a : K_isii) : m63 a = ([((ByteArray.size a.f1 : Int) + 10) % 256] ++ bodyOf a) ++ [m117 (bodyOf a) / 256 % 256, m117 (bodyOf a) % 256] := by
 unfold m63
 simp only [fd8]
 rw [wrap8 (m117 _), wrap8 (m117 _ / 256)]
 show _ = ([((ByteArray.size a.f1 : Int) + 10) % 256] ++ bodyOf a) ++ _
 unfold bodyOf
 congr 2
 rw [wrap8]
 simp only [List.length_append, List.length_cons, List.length_nil, List.length_take, List.length_drop, List.length_map, byteRows_len, strInts_len, four_len]
 congr 2
 omega
theorem pack_eq (a : K_isii) (h : ByteArray.size a.f1 ≤ 1000) : m65 a = m63 a := by
 have hc : m71 [[(IntKind.wrap .u8 (a.f0)), (IntKind.wrap .u8 ((ByteArray.size a.f1 : Int)))], (strInts a.f1), (m120 a.f2 4), (m120 a.f3 4)] = bodyOf a := by
  rw [concat_is _ (by simp only [List.flatten_cons, List.flatten_nil, List.append_nil, List.length_append, List.length_cons, List.length_nil, strInts_len, high4]; omega), high4_eq, high4_eq]
  unfold bodyOf
  simp only [List.flatten_cons, List.flatten_nil, List.append_nil, List.append_assoc]
 have hl := body_len a
 unfold m65
 rw [hc, concat_is _ (by simp only [List.flatten_cons, List.flatten_nil, List.append_nil, List.length_append, List.length_cons, List.length_nil, high2, hl]; omega), sum_eq, high2_is, spec_pack]
 obtain ⟨h1, h2⟩ := sum_ok (Bs_body a)
 rw [Int.tmod_eq_emod_of_nonneg h1, List.length_map, hl, wrap8]
 have e1 : m117 (bodyOf a) % 65536 / 256 % 256 = m117 (bodyOf a) / 256 % 256 := by omega
 have e2 : m117 (bodyOf a) % 65536 % 256 = m117 (bodyOf a) % 256 := by omega
 rw [e1, e2]
 simp only [List.flatten_cons, List.flatten_nil, List.append_nil, List.append_assoc]
 rfl
theorem or8 {v x : Int} (hv : 0 ≤ v) (hv2 : v ≤ 16777216) (hx : 0 ≤ x ∧ x ≤ 255) : bitsV .or .i64 (w64 (v * 2 ^ (min (Int.toNat 8) (IntKind.bits .i64)))) (w64 x) = v * 256 + x := by
 obtain ⟨n, rfl⟩ := Int.eq_ofNat_of_zero_le hv
 obtain ⟨m, rfl⟩ := Int.eq_ofNat_of_zero_le hx.1
 rw [show (2 ^ (min (Int.toNat 8) (IntKind.bits .i64)) : Int) = 256 from rfl, wrap64 (by omega), wrap64 (by omega)]
 show w64 (((BitVec.ofInt 64 ((n : Int) * 256) ||| BitVec.ofInt 64 (m : Int)).toNat : Nat) : Int) = _
 rw [BitVec.toNat_or, BitVec.toNat_ofInt, BitVec.toNat_ofInt]
 have e1 : (((n : Int) * 256) % ((2 ^ 64 : Nat) : Int)).toNat = 2 ^ 8 * n := by omega
 have e2 : ((m : Int) % ((2 ^ 64 : Nat) : Int)).toNat = m := by omega
 rw [e1, e2, ← Nat.two_pow_add_eq_or_of_lt (by omega) n, wrap64 (by omega)]
 omega
def four4 (l : List Int) : Int := ((List.getD l 0 0 * 256 + List.getD l 1 0) * 256 + List.getD l 2 0) * 256 + List.getD l 3 0
theorem num_s {l : List Int} (hb : ∀ z ∈ l, (0 : Int) ≤ z ∧ z ≤ 255) : m152 l = four4 l := by
 have g0 := gb hb 0
 have g1 := gb hb 1
 have g2 := gb hb 2
 have g3 := gb hb 3
 unfold m152 four4
 generalize List.getD l 0 0 = a at *
 generalize List.getD l 1 0 = b at *
 generalize List.getD l 2 0 = c at *
 generalize List.getD l 3 0 = d at *
 rw [show (2 ^ (min (Int.toNat 24) (IntKind.bits .i64)) : Int) = 16777216 from rfl, show (2 ^ (min (Int.toNat 16) (IntKind.bits .i64)) : Int) = 65536 from rfl, show (2 ^ (min (Int.toNat 8) (IntKind.bits .i64)) : Int) = 256 from rfl]
 rw [wrap64 (x := a) (by omega), wrap64 (x := b) (by omega), wrap64 (x := c) (by omega), wrap64 (x := d) (by omega), wrap64 (x := a * 16777216) (by omega), wrap64 (x := b * 65536) (by omega), wrap64 (x := c * 256) (by omega), wrap64 (x := a * 16777216 + b * 65536) (by omega), wrap64 (x := a * 16777216 + b * 65536 + c * 256) (by omega), wrap64 (by omega)]
 omega
theorem num_i {l : List Int} (hb : ∀ z ∈ l, (0 : Int) ≤ z ∧ z ≤ 255) (h4 : l.length = 4) : m132 l = four4 l := by
 match l, h4 with
 | [a, b, c, d], _ =>
  have g0 := hb a (by simp)
  have g1 := hb b (by simp)
  have g2 := hb c (by simp)
  have g3 := hb d (by simp)
  unfold m132 four4
  simp only [r132_0]
  rw [or8 (v := 0) (by omega) (by omega) g0, or8 (by omega) (by omega) g1, or8 (by omega) (by omega) g2, or8 (by omega) (by omega) g3]
  simp
theorem four4_take (l : List Int) (n : Nat) (h : 4 ≤ n) : four4 (List.take n l) = four4 l := by
 unfold four4
 have : ∀ i, i < 4 → List.getD (List.take n l) i 0 = List.getD l i 0 := fun i hi => by
  rw [List.getD_eq_getElem?_getD, List.getD_eq_getElem?_getD, List.getElem?_take, if_pos (by omega)]
 rw [this 0 (by omega), this 1 (by omega), this 2 (by omega), this 3 (by omega)]
theorem rd_eq (a0 : List Int) (hb : ∀ z ∈ a0, (0 : Int) ≤ z ∧ z ≤ 255) : m85_2 a0 = m131_1 a0 ∧ (m131_1 a0 = true → m85_0 a0 = m131_0 a0 ∧ m85_1 a0 = (List.length (m63 (m131_0 a0)) : Int)) := by
 obtain ⟨g0, g1, e0, e1, e2, e3, e4, e5, e6, e7, e8, e9⟩ := nums a0 hb
 unfold m85_2 m85_1 m85_0 m131_1 m131_0
 simp only [List.length_map, List.length_take, List.length_drop]
 have hbd := gtd hb (Int.toNat (w64 (1 + (w64 ((List.getD a0 0 0))))) - Int.toNat 1) 1
 have hlen : List.length (List.take (Int.toNat (w64 (1 + (w64 ((List.getD a0 0 0))))) - Int.toNat 1) (List.drop 1 a0)) = min (Int.toNat (List.getD a0 0 0)) (a0.length - 1) := by
  rw [List.length_take, List.length_drop, e1]; omega
 have hmin : min (Int.toNat (w64 (1 + (w64 ((List.getD a0 0 0))))) - Int.toNat 1) (a0.length - 1) = min (Int.toNat (List.getD a0 0 0)) (a0.length - 1) := by
  rw [e1]; omega
 rw [hmin]
 generalize List.take (Int.toNat (w64 (1 + (w64 ((List.getD a0 0 0))))) - Int.toNat 1) (List.drop 1 a0) = B at *
 generalize w64 (w64 (1 + (w64 ((List.getD a0 0 0)))) + 2) = w2 at *
 generalize w64 ((w64 ((List.getD a0 0 0))) + 3) = w3 at *
 generalize w64 (w64 (2 + (w64 ((List.getD B 1 0)))) + 8) = w6 at *
 generalize w64 (w64 (2 + (w64 ((List.getD B 1 0)))) + 4) = w7 at *
 generalize w64 (6 + (w64 ((List.getD B 1 0)))) = w8 at *
 generalize w64 (10 + (w64 ((List.getD B 1 0)))) = w9 at *
 generalize w64 (2 + (w64 ((List.getD B 1 0)))) = w5 at *
 generalize w64 (List.getD a0 0 0) = wd at *
 by_cases c0 : a0.length = 0
 ·rw [if_pos (by first | (simp only [beq_iff_eq]; omega) | (simp only [decide_eq_true_eq]; omega) | (simp only [bne_iff_ne, ne_eq]; omega)), if_pos (by first | (simp only [beq_iff_eq]; omega) | (simp only [decide_eq_true_eq]; omega) | (simp only [bne_iff_ne, ne_eq]; omega))]
  exact ⟨rfl, fun h => by cases h⟩
 have p0 : ¬ (((a0.length : Int) == 0)) = true := (by first | (simp only [beq_iff_eq]; omega) | (simp only [decide_eq_true_eq]; omega) | (simp only [bne_iff_ne, ne_eq]; omega))
 have s0 : ¬ (decide ((a0.length : Int) < 1)) = true := (by first | (simp only [beq_iff_eq]; omega) | (simp only [decide_eq_true_eq]; omega) | (simp only [bne_iff_ne, ne_eq]; omega))
 simp only [if_neg p0, if_neg s0]
 by_cases c1 : (a0.length : Int) < 3 + List.getD a0 0 0
 ·rw [if_pos (by first | (simp only [beq_iff_eq]; omega) | (simp only [decide_eq_true_eq]; omega) | (simp only [bne_iff_ne, ne_eq]; omega)), if_pos (by first | (simp only [beq_iff_eq]; omega) | (simp only [decide_eq_true_eq]; omega) | (simp only [bne_iff_ne, ne_eq]; omega))]
  exact ⟨rfl, fun h => by cases h⟩
 have p1 : ¬ (decide ((a0.length : Int) < w2)) = true := (by first | (simp only [beq_iff_eq]; omega) | (simp only [decide_eq_true_eq]; omega) | (simp only [bne_iff_ne, ne_eq]; omega))
 have s1 : ¬ (decide ((a0.length : Int) < w3)) = true := (by first | (simp only [beq_iff_eq]; omega) | (simp only [decide_eq_true_eq]; omega) | (simp only [bne_iff_ne, ne_eq]; omega))
 simp only [if_neg p1, if_neg s1]
 by_cases c2 : List.getD a0 0 0 < 10
 ·rw [if_pos (by first | (simp only [beq_iff_eq]; omega) | (simp only [decide_eq_true_eq]; omega) | (simp only [bne_iff_ne, ne_eq]; omega)), if_pos (by first | (simp only [beq_iff_eq]; omega) | (simp only [decide_eq_true_eq]; omega) | (simp only [bne_iff_ne, ne_eq]; omega))]
  exact ⟨rfl, fun h => by cases h⟩
 have p2 : ¬ (decide (wd < 10)) = true := (by first | (simp only [beq_iff_eq]; omega) | (simp only [decide_eq_true_eq]; omega) | (simp only [bne_iff_ne, ne_eq]; omega))
 have s2 : ¬ (decide (List.getD a0 0 0 < 10)) = true := (by first | (simp only [beq_iff_eq]; omega) | (simp only [decide_eq_true_eq]; omega) | (simp only [bne_iff_ne, ne_eq]; omega))
 simp only [if_neg p2, if_neg s2]
 by_cases c3n : ¬ List.getD a0 0 0 = 10 + List.getD B 1 0
 ·rw [if_pos (by first | (simp only [beq_iff_eq]; omega) | (simp only [decide_eq_true_eq]; omega) | (simp only [bne_iff_ne, ne_eq]; omega)), if_pos (by first | (simp only [beq_iff_eq]; omega) | (simp only [decide_eq_true_eq]; omega) | (simp only [bne_iff_ne, ne_eq]; omega))]
  exact ⟨rfl, fun h => by cases h⟩
 have c3 := Classical.not_not.1 c3n
 have p3 : ¬ ((wd != w6)) = true := (by first | (simp only [beq_iff_eq]; omega) | (simp only [decide_eq_true_eq]; omega) | (simp only [bne_iff_ne, ne_eq]; omega))
 have s3 : ¬ (((min (Int.toNat (List.getD a0 0 0)) (a0.length - 1) : Nat) : Int) != w9) = true := (by first | (simp only [beq_iff_eq]; omega) | (simp only [decide_eq_true_eq]; omega) | (simp only [bne_iff_ne, ne_eq]; omega))
 simp only [if_neg p3, if_neg s3]
 have q1 : m132 (List.take (Int.toNat w7 - Int.toNat w5) (List.drop (Int.toNat w5) B)) = m152 (List.drop (Int.toNat w5) B) := by
  rw [num_i (gtd hbd _ _) (by rw [List.length_take, List.length_drop, hlen]; omega), num_s (gdr hbd _), four4_take _ _ (by omega)]
 have q2 : m132 (List.drop (Int.toNat w7) B) = m152 (List.drop (Int.toNat w8) B) := by
  rw [num_i (gdr hbd _) (by rw [List.length_drop, hlen]; omega), num_s (gdr hbd _), e7, e8]
 rw [q1, q2, entry_eq]
 have hsz : ByteArray.size (bytesOf (List.take (Int.toNat w5 - Int.toNat 2) (List.drop 2 B))) = Int.toNat (List.getD B 1 0) := by
  rw [bo_size, List.length_take, List.length_drop, hlen]; omega
 generalize hE : K_isii.mk (w64 (List.getD B 0 0)) (bytesOf (List.take (Int.toNat w5 - Int.toNat 2) (List.drop 2 B))) (m152 (List.drop (Int.toNat w5) B)) (m152 (List.drop (Int.toNat w8) B)) = E
 have hE1 : ByteArray.size E.f1 = Int.toNat (List.getD B 1 0) := by rw [← hE]; exact hsz
 rw [pack_eq E (by omega)]
 have hpl := pack_exact E
 by_cases c4 : (m62 E != 0) = true
 ·simp only [if_pos c4]
  exact ⟨trivial, fun h => by cases h⟩
 simp only [if_neg c4]
 have hw2 : Int.toNat w2 = List.length (m63 E) := by omega
 rw [hw2, Int.toNat_natCast]
 have hz0 : (Int.toNat 0) = 0 := rfl
 simp only [ba_eq]
 by_cases c5 : bytesOf (m63 E) = bytesOf (List.take (List.length (m63 E)) a0)
 ·rw [if_neg (by simp [c5]), if_neg (by simp [c5]), if_neg (by simp [c5])]
  refine ⟨by simp [← c5], fun _ => ⟨rfl, ?_⟩⟩
  omega
 ·rw [if_pos (by simp; exact c5)]
  refine ⟨by simp; exact fun h => c5 h.symm, fun h => ?_⟩
  simp only [decide_eq_true_eq] at h
  exact absurd h.symm c5
theorem read_loop (a0 : List Int) (hb : ∀ z ∈ a0, (0 : Int) ≤ z ∧ z ≤ 255) (hl : a0.length ≤ 1200) : ∀ (n at_ : Nat) (o : List K_isii), at_ ≤ a0.length → ∃ u o', r38_0 n (at_ : Int) o (List.drop at_ a0) = .k0 u o' ∧ r84_0 a0 n o (at_ : Int) = .k0 o' u
 | 0, at_, o, _ => ⟨_, _, rfl, rfl⟩
 | n + 1, at_, o, h => by
  obtain ⟨h1, h2⟩ := rd_eq (List.drop at_ a0) (gdr hb _)
  simp only [r38_0, r84_0, Int.toNat_natCast]
  rw [h1]
  by_cases c : (!(m131_1 (List.drop at_ a0))) = true
  ·rw [if_pos c, if_pos c]
   exact ⟨_, _, rfl, rfl⟩
  ·rw [if_neg c, if_neg c]
   have c' : m131_1 (List.drop at_ a0) = true := by simpa using c
   obtain ⟨e1, e2⟩ := h2 c'
   obtain ⟨q1, q2, q3⟩ := rd_ok (gdr hb _) c'
   rw [List.length_drop] at q2
   rw [e1, e2, List.length_map, List.drop_drop, Int.toNat_natCast, wrap64 (by omega), ← Int.natCast_add]
   exact read_loop a0 hb hl n _ _ (by omega)
theorem same (a0 : List Int) (hb : ∀ z ∈ a0, (0 : Int) ≤ z ∧ z ≤ 255) : m38 a0 = m36 a0 := by
 unfold m38 m36
 by_cases h : (decide (((List.length (List.map b_y a0)) : Int) > 1200)) = true
 ·rw [if_pos h, if_pos h]
 rw [if_neg h, if_neg h]
 simp only [decide_eq_true_eq, List.length_map] at h
 obtain ⟨u, o, e1, e2⟩ := read_loop a0 hb (by omega) (List.length a0) 0 [] (by omega)
 rw [List.drop_zero, show ((0 : Nat) : Int) = 0 from rfl] at e1
 rw [show ((0 : Nat) : Int) = 0 from rfl] at e2
 unfold m84_1 m84_0
 rw [show List.length a0 - Int.toNat 0 = List.length a0 from rfl, e1, e2]
theorem mk_yl (a : List Int) : ∀ (l : List Int) (i : Int) (v : List Int) (k : Int), 0 ≤ k → k + (l.length : Int) ≤ 4611686018427387904 → ∃ w j b, r41_0 a l i v k = .k0 w (k + l.length) j b
 | [], i, v, k, _, _ => ⟨_, _, _, by simp [r41_0]; exact ⟨rfl, rfl, rfl⟩⟩
 | x :: l, i, v, k, h0, h1 => by
  simp only [List.length_cons] at h1
  obtain ⟨w, j, b, e⟩ := mk_yl a l (i + 1) (List.set v (Int.toNat i) (IntKind.wrap .u8 k)) (k + 1) (by omega) (by omega)
  refine ⟨w, j, b, ?_⟩
  simp only [r41_0]
  rw [wrap64 (by omega), e]
  simp only [List.length_cons]
  congr 1; omega
theorem mk_y (a : List Int) (h : a.length ≤ 140737488351232) : ¬ m41 a 1 < 0 := by
 obtain ⟨w, j, b, e⟩ := mk_yl a a 0 a 1 (by omega) (by omega)
 unfold m41
 rw [e]
 simp only []; omega
theorem pure (a0 : (List Int)) (w0 : wf_LyE a0) : m6 a0 = true := by
 have hb : ∀ z ∈ a0, (0 : Int) ≤ z ∧ z ≤ 255 := fun z hz => wf8 (w0.2 z hz)
 have hs := sze a0 hb (by have := w0.1; omega)
 have hws : ∀ (l : List K_isii), (∀ z ∈ l, ByteArray.size z.f1 ≤ 255) → (List.map wt_isii l).sum ≤ 1000 * l.length := by
  intro l
  induction l with
  | nil => intro _; simp
  | cons x l ih =>
   intro h
   have h1 := ih (fun z hz => h z (List.mem_cons_of_mem _ hz))
   have h2 := h x (List.mem_cons_self ..)
   simp only [List.map_cons, List.sum_cons, List.length_cons]
   have h3 : wt_isii x ≤ 1000 := by simp only [wt_isii]; omega
   omega
 have hw := hws _ hs.2
 have hm0 := mk_y a0 (by have := w0.1; omega)
 have hm := mh42 (m38 a0) 1 (by omega) (by
  simp only [wt_iiLisiiE]; omega)
 unfold m6
 simp only [← same a0 hb, eqd39, eqd40, hm.1]
 (repeat' split) <;> (first | rfl | (simp_all; done) | (simp only [decide_eq_true_eq] at *; omega))
end Go.Proofs.YtdnopbpdiineiaaDoor.ReadEntries
