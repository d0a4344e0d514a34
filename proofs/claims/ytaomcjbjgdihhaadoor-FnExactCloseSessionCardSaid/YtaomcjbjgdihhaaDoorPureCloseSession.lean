/- The plain law: what the functions compute answers as the statement says. -/
import Derived.Test.YtaomcjbjgdihhaaDoorECloseSession
import Derived.Test.YtaomcjbjgdihhaaDoorVArgs
namespace Go.Proofs.YtaomcjbjgdihhaaDoor.CloseSession
open Go Go.Proofs.YtaomcjbjgdihhaaDoor.V
set_option linter.unusedVariables false
set_option maxRecDepth 20000
def wf_sisi (x : K_sisi) : Prop := x.f0.size ≤ 140737488351232 ∧ (Lit.int .i64 x.f1).wf = true ∧ x.f2.size ≤ 140737488351232 ∧ (Lit.int .i64 x.f3).wf = true
theorem un_sisi {bs : List B} (h : Sh.okL [.str, .int .i64, .str, .int .i64] bs) : ∃ x : K_sisi, bs = [(.val (.string x.f0)), (.val (.int .i64 x.f1)), (.val (.string x.f2)), (.val (.int .i64 x.f3))] ∧ wf_sisi x := by
  obtain ⟨b0, m0, rfl, o0, h0⟩ := h
  obtain ⟨x0, rfl, w0⟩ : ∃ z : ByteArray, b0 = .val (.string z) ∧ z.size ≤ 140737488351232 := by
    cases b0 with
    | val v => cases v <;> first | exact ⟨_, rfl, o0⟩ | exact o0.elim
    | sl r => exact o0.elim
  obtain ⟨b1, m1, rfl, o1, h1⟩ := h0
  obtain ⟨x1, rfl, w1⟩ : ∃ z : Int, b1 = .val (.int .i64 z) ∧ (Lit.int .i64 z).wf = true := by
    cases b1 with
    | val v =>
      cases v <;> first | exact o1.elim | (obtain ⟨rfl, w⟩ := o1; exact ⟨_, rfl, w⟩)
    | sl r => exact o1.elim
  obtain ⟨b2, m2, rfl, o2, h2⟩ := h1
  obtain ⟨x2, rfl, w2⟩ : ∃ z : ByteArray, b2 = .val (.string z) ∧ z.size ≤ 140737488351232 := by
    cases b2 with
    | val v => cases v <;> first | exact ⟨_, rfl, o2⟩ | exact o2.elim
    | sl r => exact o2.elim
  obtain ⟨b3, m3, rfl, o3, h3⟩ := h2
  obtain ⟨x3, rfl, w3⟩ : ∃ z : Int, b3 = .val (.int .i64 z) ∧ (Lit.int .i64 z).wf = true := by
    cases b3 with
    | val v =>
      cases v <;> first | exact o3.elim | (obtain ⟨rfl, w⟩ := o3; exact ⟨_, rfl, w⟩)
    | sl r => exact o3.elim
  obtain rfl := h3
  exact ⟨⟨x0, x1, x2, x3⟩, rfl, ⟨w0, w1, w2, w3⟩⟩
theorem os_wf_sisi (x : K_sisi) (w : wf_sisi x) : os_sisi x := ⟨w.1, w.2.2.1⟩
theorem uns_sisi : ∀ {rows : List (List B)}, (∀ r ∈ rows, Sh.okL [.str, .int .i64, .str, .int .i64] r) → ∃ z : List K_sisi, rows = z.map b_sisi ∧ ∀ u ∈ z, wf_sisi u
  | [], _ => ⟨[], rfl, fun u h => (by cases h)⟩
  | r :: rows, h => by
    obtain ⟨x, e, w⟩ := un_sisi (h r (List.mem_cons_self ..))
    obtain ⟨z, rfl, hz⟩ := uns_sisi (fun r hr => h r (List.mem_cons_of_mem _ hr))
    refine ⟨x :: z, by rw [e]; rfl, fun u hu => ?_⟩
    rcases List.mem_cons.1 hu with rfl | hu
    · exact w
    · exact hz u hu
def wf_LsisiEi (x : K_LsisiEi) : Prop := (x.f0.length * 48 ≤ 140737488351232 ∧ ∀ z ∈ x.f0, wf_sisi z) ∧ (Lit.int .i64 x.f1).wf = true
theorem un_LsisiEi {bs : List B} (h : Sh.okL [.sl [.str, .int .i64, .str, .int .i64] 48, .int .i64] bs) : ∃ x : K_LsisiEi, bs = [(.sl (List.map b_sisi x.f0)), (.val (.int .i64 x.f1))] ∧ wf_LsisiEi x := by
  obtain ⟨b0, m0, rfl, o0, h0⟩ := h
  obtain ⟨x0, rfl, w0⟩ : ∃ z : (List K_sisi), b0 = .sl (z.map b_sisi) ∧ z.length * 48 ≤ 140737488351232 ∧ ∀ u ∈ z, wf_sisi u := by
    cases b0 with
    | val v => cases v <;> exact o0.elim
    | sl r =>
      obtain ⟨z, rfl, hz⟩ := uns_sisi o0.2
      exact ⟨z, rfl, by simpa using o0.1, hz⟩
  obtain ⟨b1, m1, rfl, o1, h1⟩ := h0
  obtain ⟨x1, rfl, w1⟩ : ∃ z : Int, b1 = .val (.int .i64 z) ∧ (Lit.int .i64 z).wf = true := by
    cases b1 with
    | val v =>
      cases v <;> first | exact o1.elim | (obtain ⟨rfl, w⟩ := o1; exact ⟨_, rfl, w⟩)
    | sl r => exact o1.elim
  obtain rfl := h1
  exact ⟨⟨x0, x1⟩, rfl, ⟨w0, w1⟩⟩
theorem ok_wf_LsisiEi (x : K_LsisiEi) (w : wf_LsisiEi x) : ok_LsisiEi x := w.1.1
theorem os_wf_LsisiEi (x : K_LsisiEi) (w : wf_LsisiEi x) : os_LsisiEi x := ⟨w.1.1, fun z hz => os_wf_sisi z (w.1.2 z hz)⟩
theorem uns_LsisiEi : ∀ {rows : List (List B)}, (∀ r ∈ rows, Sh.okL [.sl [.str, .int .i64, .str, .int .i64] 48, .int .i64] r) → ∃ z : List K_LsisiEi, rows = z.map b_LsisiEi ∧ ∀ u ∈ z, wf_LsisiEi u
  | [], _ => ⟨[], rfl, fun u h => (by cases h)⟩
  | r :: rows, h => by
    obtain ⟨x, e, w⟩ := un_LsisiEi (h r (List.mem_cons_self ..))
    obtain ⟨z, rfl, hz⟩ := uns_LsisiEi (fun r hr => h r (List.mem_cons_of_mem _ hr))
    refine ⟨x :: z, by rw [e]; rfl, fun u hu => ?_⟩
    rcases List.mem_cons.1 hu with rfl | hu
    · exact w
    · exact hz u hu
def wf_i (x : Int) : Prop := (Lit.int .i64 x).wf = true
theorem un_i {bs : List B} (h : Sh.okL [.int .i64] bs) : ∃ x : Int, bs = [(.val (.int .i64 x))] ∧ wf_i x := by
  obtain ⟨b0, m0, rfl, o0, h0⟩ := h
  obtain ⟨x0, rfl, w0⟩ : ∃ z : Int, b0 = .val (.int .i64 z) ∧ (Lit.int .i64 z).wf = true := by
    cases b0 with
    | val v =>
      cases v <;> first | exact o0.elim | (obtain ⟨rfl, w⟩ := o0; exact ⟨_, rfl, w⟩)
    | sl r => exact o0.elim
  obtain rfl := h0
  exact ⟨x0, rfl, w0⟩
theorem uns_i : ∀ {rows : List (List B)}, (∀ r ∈ rows, Sh.okL [.int .i64] r) → ∃ z : List Int, rows = z.map b_i ∧ ∀ u ∈ z, wf_i u
  | [], _ => ⟨[], rfl, fun u h => (by cases h)⟩
  | r :: rows, h => by
    obtain ⟨x, e, w⟩ := un_i (h r (List.mem_cons_self ..))
    obtain ⟨z, rfl, hz⟩ := uns_i (fun r hr => h r (List.mem_cons_of_mem _ hr))
    refine ⟨x :: z, by rw [e]; rfl, fun u hu => ?_⟩
    rcases List.mem_cons.1 hu with rfl | hu
    · exact w
    · exact hz u hu
theorem in_iff (a b c : Int) : m34 a b c = true ↔ b ≤ a ∧ a ≤ c := by
  unfold m34; split <;> simp_all <;> omega
theorem l1In_iff (a b c : Int) : m31 a b c = true ↔ b ≤ a ∧ a ≤ c := by
  unfold m31; split <;> simp_all <;> omega
theorem in_eq (a b c : Int) : m34 a b c = m31 a b c := by
  rw [Bool.eq_iff_iff, in_iff, l1In_iff]

theorem letter_iff (c : Int) : m51 c = true ↔ (97 ≤ c ∧ c ≤ 122) ∨ (65 ≤ c ∧ c ≤ 90) ∨ (48 ≤ c ∧ c ≤ 57) := by
  unfold m51
  (repeat' split) <;> simp_all <;> omega
def signs : ByteArray := ⟨#[97, 98, 99, 100, 101, 102, 103, 104, 105, 106, 107, 108, 109, 110, 111, 112, 113, 114, 115, 116, 117, 118, 119, 120, 121, 122, 65, 66, 67, 68, 69, 70, 71, 72, 73, 74, 75, 76, 77, 78, 79, 80, 81, 82, 83, 84, 85, 86, 87, 88, 89, 90, 48, 49, 50, 51, 52, 53, 54, 55, 56, 57]⟩
theorem signs_iff (b : UInt8) : signs.data.toList.contains b = m51 (b.toNat : Int) := by
  have key : ∀ n : Fin 256, signs.data.toList.contains (UInt8.ofNat n.val) = m51 ((UInt8.ofNat n.val).toNat : Int) := by decide +kernel
  have := key ⟨b.toNat, b.toNat_lt⟩
  simpa using this
theorem dw_bad {p : UInt8 → Bool} {b : UInt8} (hp : p b = false) : ∀ {l : List UInt8}, b ∈ l → b ∈ l.dropWhile p
  | x :: l, h => by
    simp only [List.dropWhile]
    cases hx : p x with
    | true =>
      rcases List.mem_cons.1 h with rfl | h
      · rw [hp] at hx; cases hx
      · exact dw_bad hp h
    | false => exact h
theorem dw_nil {p : UInt8 → Bool} : ∀ {l : List UInt8}, (∀ b ∈ l, p b = true) → l.dropWhile p = []
  | [], _ => rfl
  | x :: l, h => by
    simp only [List.dropWhile, h x (List.mem_cons_self ..)]
    exact dw_nil fun b hb => h b (List.mem_cons_of_mem _ hb)
theorem trim_nil (l cs : List UInt8) : Lib.trimS l cs = [] ↔ ∀ b ∈ l, cs.contains b = true := by
  unfold Lib.trimS Lib.trimLeftS Lib.trimRightS
  constructor
  · intro h b hb
    cases hc : cs.contains b with
    | true => rfl
    | false =>
      have h1 := dw_bad (p := (cs.contains ·)) hc (List.mem_reverse.2 hb)
      have h2 := dw_bad (p := (cs.contains ·)) hc (List.mem_reverse.2 h1)
      rw [h] at h2; cases h2
  · intro h
    rw [dw_nil (p := (cs.contains ·)) (l := l.reverse) fun b hb => h b (List.mem_reverse.1 hb)]
    rfl
theorem byteAt_nat (s : ByteArray) (i : Nat) (h : i < s.size) : byteAt s (i : Int) = ((s.data.toList[i]'(by simpa using h)).toNat : Int) := by
  unfold byteAt
  rw [Int.toNat_natCast, List.getElem?_eq_getElem (by simpa using h)]
  rfl
theorem arg_loop (s : ByteArray) : ∀ (n i : Nat), i + n = s.size → (r45_0 s n (i : Int) = .k1 ∧ ∃ b ∈ s.data.toList.drop i, m51 (b.toNat : Int) = false) ∨ (∃ w b, r45_0 s n (i : Int) = .k0 w b ∧ ∀ b ∈ s.data.toList.drop i, m51 (b.toNat : Int) = true)
  | 0, i, h => .inr ⟨_, _, rfl, fun b hb => by
      rw [List.drop_eq_nil_of_le (by show s.data.toList.length ≤ i; rw [Array.length_toList]; have : s.data.size = s.size := rfl; omega)] at hb; cases hb⟩
  | n + 1, i, h => by
    have hi : i < s.size := by omega
    have hl : i < s.data.toList.length := by simpa using hi
    rw [List.drop_eq_getElem_cons hl]
    generalize hx : s.data.toList[i] = x
    simp only [r45_0]
    rw [byteAt_nat s i hi, hx]
    by_cases hc : m51 (x.toNat : Int) = true
    · rw [if_neg (by simp [hc])]
      have ih := arg_loop s n (i + 1) (by omega)
      rw [show ((i : Int) + 1) = ((i + 1 : Nat) : Int) by omega]
      rcases ih with ⟨h1, b, h2, h3⟩ | ⟨w, b, h1, h2⟩
      · exact .inl ⟨h1, b, List.mem_cons_of_mem _ h2, h3⟩
      · refine .inr ⟨w, b, h1, fun c hcm => ?_⟩
        rcases List.mem_cons.1 hcm with rfl | hcm
        · exact hc
        · exact h2 c hcm
    · have hf : m51 (x.toNat : Int) = false := by simpa using hc
      rw [if_pos (by simp [hf])]
      exact .inl ⟨rfl, _, List.mem_cons_self .., hf⟩
theorem arg_eq (s : ByteArray) : m53 s = m45 s := by
  have ht : ((trimB s signs).toList == (⟨#[]⟩ : ByteArray).toList) = decide (∀ b ∈ s.data.toList, m51 (b.toNat : Int) = true) := by
    rw [ba_eq, Bool.eq_iff_iff, decide_eq_true_eq, decide_eq_true_eq]
    have : trimB s signs = ⟨#[]⟩ ↔ Lib.trimS s.data.toList signs.data.toList = [] := by
      unfold trimB
      constructor
      · intro h; injection h with h; simpa using congrArg Array.toList h
      · intro h; rw [h]
    rw [this, trim_nil]
    constructor
    · intro h b hb; rw [← signs_iff]; exact h b hb
    · intro h b hb; rw [signs_iff]; exact h b hb
  have hl := arg_loop s s.size 0 (by omega)
  rw [List.drop_zero] at hl
  unfold m53 m45
  rw [show (⟨#[97, 98, 99, 100, 101, 102, 103, 104, 105, 106, 107, 108, 109, 110, 111, 112, 113, 114, 115, 116, 117, 118, 119, 120, 121, 122, 65, 66, 67, 68, 69, 70, 71, 72, 73, 74, 75, 76, 77, 78, 79, 80, 81, 82, 83, 84, 85, 86, 87, 88, 89, 90, 48, 49, 50, 51, 52, 53, 54, 55, 56, 57]⟩ : ByteArray) = signs from rfl, ht]
  rw [Int.toNat_natCast, show (0 : Int) = ((0 : Nat) : Int) from rfl]
  rcases hl with ⟨h1, b, h2, h3⟩ | ⟨w, b, h1, h2⟩
  · rw [h1]
    have : ¬ ∀ b ∈ s.data.toList, m51 (b.toNat : Int) = true := fun h => by rw [h b h2] at h3; cases h3
    rw [decide_eq_false this]
    simp only []
    split <;> rfl
  · rw [h1, decide_eq_true h2]
    simp only []
    cases decide ((s.size : Int) ≤ 12) <;> rfl

theorem ixb (c : UInt8) : ∀ (l : List UInt8), (0 ≤ Lib.indexByte l c ↔ c ∈ l)
  | [] => by simp [Lib.indexByte]
  | b :: l => by
    have ih := ixb c l
    have hg := Lib.indexByte_ge l c
    simp only [Lib.indexByte, List.mem_cons]
    by_cases h : (b == c) = true
    · rw [if_pos h]
      have : b = c := by simpa using h
      simp [this]
    · rw [if_neg h]
      have hb : ¬ c = b := fun e => h (by simp [e])
      by_cases h2 : (Lib.indexByte l c == -1) = true
      · rw [if_pos h2]
        have h3 : Lib.indexByte l c = -1 := by simpa using h2
        rw [h3] at ih
        constructor
        · intro h; omega
        · rintro (h | h)
          · exact absurd h hb
          · exact absurd (ih.2 h) (by omega)
      · rw [if_neg h2]
        have h3 : ¬ Lib.indexByte l c = -1 := by simpa using h2
        constructor
        · intro _; exact .inr (ih.1 (by omega))
        · intro _; omega
theorem rest_loop (s : ByteArray) : ∀ (n i : Nat), i + n = s.size → (r44_0 s n (i : Int) = .k1 ∧ (10 : UInt8) ∈ s.data.toList.drop i) ∨ (∃ w b, r44_0 s n (i : Int) = .k0 w b ∧ (10 : UInt8) ∉ s.data.toList.drop i)
  | 0, i, h => .inr ⟨_, _, rfl, by
      rw [List.drop_eq_nil_of_le (by show s.data.toList.length ≤ i; rw [Array.length_toList]; have : s.data.size = s.size := rfl; omega)]; simp⟩
  | n + 1, i, h => by
    have hi : i < s.size := by omega
    have hl : i < s.data.toList.length := by simpa using hi
    rw [List.drop_eq_getElem_cons hl]
    generalize hx : s.data.toList[i] = x
    simp only [r44_0]
    rw [byteAt_nat s i hi, hx]
    by_cases hc : x = 10
    · rw [if_pos (by rw [hc]; rfl)]
      exact .inl ⟨rfl, by rw [hc]; exact List.mem_cons_self ..⟩
    · have hne : ¬ (((x.toNat : Nat) : Int) == 10) = true := by
        intro e
        apply hc
        have e2 : x.toNat = 10 := by
          have : ((x.toNat : Nat) : Int) = 10 := by simpa using e
          omega
        exact UInt8.toNat_inj.1 e2
      rw [if_neg hne]
      have ih := rest_loop s n (i + 1) (by omega)
      rw [show ((i : Int) + 1) = ((i + 1 : Nat) : Int) by omega]
      rcases ih with ⟨h1, h2⟩ | ⟨w, b, h1, h2⟩
      · exact .inl ⟨h1, List.mem_cons_of_mem _ h2⟩
      · refine .inr ⟨w, b, h1, fun hm => ?_⟩
        rcases List.mem_cons.1 hm with e | hm
        · exact hc e.symm
        · exact h2 hm
theorem rest_eq (s : ByteArray) : m44 s = (!(decide ((ByteArray.size s : Int) > 161)) && !(decide ((idxB s 10) ≥ 0))) := by
  have hi : (decide ((idxB s 10) ≥ 0)) = decide ((10 : UInt8) ∈ s.data.toList) := by
    rw [Bool.eq_iff_iff, decide_eq_true_eq, decide_eq_true_eq]
    exact ixb 10 s.data.toList
  have hl := rest_loop s s.size 0 (by omega)
  rw [List.drop_zero] at hl
  unfold m44
  rw [hi, Int.toNat_natCast, show (0 : Int) = ((0 : Nat) : Int) from rfl]
  rcases hl with ⟨h1, h2⟩ | ⟨w, b, h1, h2⟩
  · rw [h1, decide_eq_true h2]; simp
  · rw [h1, decide_eq_false h2]
    simp only [Bool.not_false, Bool.and_true]
    rw [Bool.eq_iff_iff]
    simp
/-- Has a session this number? -/
def hasX (v : Int) (l : List K_sisi) : Bool := l.any fun y => v == y.f1
theorem ix_iff (a : List K_sisi) (v : Int) : ∀ (l : List K_sisi) (i : Int), 0 ≤ i → ((match r1005000_0 a v l i with | .k0 .. => (-1 : Int) | .k1 w => w) ≥ 0 ↔ hasX v l = true)
  | [], i, _ => by simp [r1005000_0, hasX]
  | x :: l, i, h => by
    have ih := ix_iff a v l (i + 1) (by omega)
    simp only [r1005000_0]
    by_cases hx : (v == x.f1) = true
    · simp only [if_pos hx, hasX, List.any_cons, hx, Bool.true_or, iff_true]; exact h
    · have hx' : (v == x.f1) = false := by simpa using hx
      simp only [if_neg hx, hasX, List.any_cons, hx', Bool.false_or]; exact ih
def getS (l : List K_sisi) (i : Nat) : K_sisi := List.getD l i (K_sisi.mk (⟨#[]⟩ : ByteArray) 0 (⟨#[]⟩ : ByteArray) 0)
theorem take_succ' (l : List K_sisi) (i n : Nat) (h : i < l.length) : (l.drop i).take (n + 1) = getS l i :: (l.drop (i + 1)).take n := by
  rw [List.drop_eq_getElem_cons h, List.take_succ_cons]
  congr 1
  unfold getS
  rw [List.getD_eq_getElem?_getD, List.getElem?_eq_getElem h]; rfl
theorem taken_b (a : K_LsisiEi) (k : Int) (hx : (getS a.f0 k.toNat).f1 ≥ 0) : ∀ (n i : Nat), i + n ≤ a.f0.length → (match r40_0 a k n (i : Int) with | .k0 .. => false | .k1 => true) = hasX (getS a.f0 k.toNat).f1 ((a.f0.drop i).take n)
  | 0, i, _ => by simp [r40_0, hasX]
  | n + 1, i, h => by
    have ih := taken_b a k hx n (i + 1) (by omega)
    rw [take_succ' _ _ _ (by omega)]
    have hx2 : (decide ((List.getD a.f0 (Int.toNat k) (K_sisi.mk (⟨#[]⟩ : ByteArray) 0 (⟨#[]⟩ : ByteArray) 0)).f1 ≥ 0)) = true := by rw [decide_eq_true_eq]; exact hx
    have hgi : List.getD a.f0 (Int.toNat (i : Int)) (K_sisi.mk (⟨#[]⟩ : ByteArray) 0 (⟨#[]⟩ : ByteArray) 0) = getS a.f0 i := by rw [Int.toNat_natCast]; rfl
    have hgk : List.getD a.f0 (Int.toNat k) (K_sisi.mk (⟨#[]⟩ : ByteArray) 0 (⟨#[]⟩ : ByteArray) 0) = getS a.f0 k.toNat := rfl
    simp only [r40_0, hgi, hgk]
    rw [if_pos (by rw [decide_eq_true_eq]; exact hx)]
    by_cases hy : (getS a.f0 i).f1 = (getS a.f0 k.toNat).f1
    · rw [if_pos (by simpa using hy)]
      simp [hasX, hy]
    · have hy' : ((getS a.f0 k.toNat).f1 == (getS a.f0 i).f1) = false := by
        rw [beq_eq_false_iff_ne]; exact fun e => hy e.symm
      rw [if_neg (by simpa using hy), show ((i : Int) + 1) = ((i + 1 : Nat) : Int) by omega, ih]
      simp only [hasX, List.any_cons, hy', Bool.false_or]
theorem taken_loop (a : K_LsisiEi) (k : Int) (hx : (getS a.f0 k.toNat).f1 ≥ 0) (n i : Nat) (h : i + n ≤ a.f0.length) : (match r40_0 a k n (i : Int) with | .k0 .. => (0 : Int) | .k1 => 6) = if hasX (getS a.f0 k.toNat).f1 ((a.f0.drop i).take n) = true then 6 else 0 := by
  have e := taken_b a k hx n i h
  cases hr : r40_0 a k n (i : Int) with
  | k0 w b => rw [hr] at e; simp only [] at e; rw [← e]; rfl
  | k1 => rw [hr] at e; simp only [] at e; rw [← e]; rfl
theorem taken_neg (a : K_LsisiEi) (k : Int) (hx : ¬ (getS a.f0 k.toNat).f1 ≥ 0) : ∀ (n : Nat) (i : Int), (match r40_0 a k n i with | .k0 .. => (0 : Int) | .k1 => 6) = 0
  | 0, i => rfl
  | n + 1, i => by
    have ih := taken_neg a k hx n (i + 1)
    simp only [r40_0]
    rw [if_neg (by rw [decide_eq_true_eq]; exact hx)]
    exact ih
theorem one_same (a : K_LsisiEi) (k : Nat) (hk : k < a.f0.length) : m40 a (k : Int) = m41 (getS a.f0 k) (List.take k a.f0) := by
  have hz : ∀ v l, (decide ((m1005000 l (getS a.f0 k).f0 v (getS a.f0 k).f2 (getS a.f0 k).f3) ≥ 0)) = hasX v l := fun v l => by
    unfold m1005000
    rw [Bool.eq_iff_iff, decide_eq_true_eq]; exact ix_iff l v l 0 (by omega)
  have hd : ∀ l : List K_sisi, List.getD l k (K_sisi.mk (⟨#[]⟩ : ByteArray) 0 (⟨#[]⟩ : ByteArray) 0) = getS l k := fun l => rfl
  unfold m40 m41
  simp only [Int.toNat_natCast, hz, rest_eq, ← arg_eq, ← in_eq]
  simp only [hd]
  by_cases h1 : (decide ((ByteArray.size (getS a.f0 k).f0 : Int) > 161)) = true
  · simp [h1]
  by_cases h2 : (decide ((idxB (getS a.f0 k).f0 10) ≥ 0)) = true
  · simp [h2]
  simp only [Bool.not_eq_true] at h1 h2
  simp only [h1, h2, Bool.not_false, Bool.and_self, Bool.not_true, Bool.false_eq_true, if_false]
  by_cases h3 : (!(m53 (getS a.f0 k).f2)) = true
  · rw [if_pos h3, if_pos h3]
  rw [if_neg h3, if_neg h3]
  by_cases h4 : (!(m34 (getS a.f0 k).f1 (-1) 998)) = true
  · rw [if_pos h4, if_pos h4]
  rw [if_neg h4, if_neg h4]
  by_cases h5 : (!(m34 (getS a.f0 k).f3 1 9999)) = true
  · rw [if_pos h5, if_pos h5]
  rw [if_neg h5, if_neg h5]
  have hr := (in_iff _ _ _).1 (show m34 (getS a.f0 k).f1 (-1) 998 = true by simpa using h4)
  by_cases h6 : (getS a.f0 k).f1 ≥ 0
  · have e1 : ((getS a.f0 k).f1 == -1) = false := by
      rw [beq_eq_false_iff_ne]; omega
    have e2 : (decide ((getS a.f0 k).f1 < 0)) = false := by rw [decide_eq_false_iff_not]; omega
    have e3 := taken_loop a (k : Int) (by rw [Int.toNat_natCast]; exact h6) k 0 (by omega)
    rw [Int.toNat_natCast, List.drop_zero] at e3
    rw [show ((0 : Nat) : Int) = 0 from rfl] at e3
    simp only [e1, e2, bne, Bool.not_false, if_true, Bool.false_eq_true, if_false]
    cases hr0 : r40_0 a (k : Int) k 0 with
    | k0 w b => rw [hr0] at e3; simp only [] at e3; simp only [← e3]
    | k1 => rw [hr0] at e3; simp only [] at e3; simp only [← e3]
  · have e0 : (getS a.f0 k).f1 = -1 := by omega
    have e1 : ((getS a.f0 k).f1 == -1) = true := by simpa using e0
    have e2 : (decide ((getS a.f0 k).f1 < 0)) = true := by rw [decide_eq_true_eq]; omega
    have e3 := taken_neg a (k : Int) (by rw [Int.toNat_natCast]; exact h6) k 0
    simp only [e1, e2, bne, Bool.not_true, if_true, Bool.false_eq_true, if_false]
    cases hr0 : r40_0 a (k : Int) k 0 with
    | k0 w b => rfl
    | k1 => rw [hr0] at e3; cases e3
theorem ones_loop (a : K_LsisiEi) (X : Int) : ∀ (l p : List K_sisi), p ++ l = a.f0 → (match r30_0 a l (p.length : Int) with | .k0 .. => X | .k1 w => w) = (match r33_0 a l (p.length : Int) with | .k0 .. => X | .k1 w => w)
  | [], p, _ => rfl
  | x :: l, p, h => by
    have ih := ones_loop a X l (p ++ [x]) (by rw [List.append_assoc]; exact h)
    rw [show (((p ++ [x]).length : Nat) : Int) = (p.length : Int) + 1 by simp] at ih
    have hk : p.length < a.f0.length := by rw [← h]; simp
    have hx : getS a.f0 p.length = x := by
      unfold getS; rw [← h, List.getD_eq_getElem?_getD]; simp
    have e := one_same a p.length hk
    rw [hx] at e
    simp only [r30_0, r33_0, Int.toNat_natCast, e]
    by_cases hc : (m41 x (List.take p.length a.f0) != 0) = true
    · rw [if_pos hc, if_pos hc]
    · rw [if_neg hc, if_neg hc]; exact ih
def geX (v : Int) (l : List K_sisi) : Bool := l.any fun y => decide (y.f1 ≥ v)
theorem next_b (a : K_LsisiEi) : ∀ (l : List K_sisi) (i : Int), (match r30_1 a l i with | .k0 .. => false | .k1 => true) = geX a.f1 l
  | [], i => rfl
  | x :: l, i => by
    have ih := next_b a l (i + 1)
    simp only [r30_1]
    by_cases hx : (decide (x.f1 ≥ a.f1)) = true
    · rw [if_pos hx]; simp only [geX, List.any_cons, hx, Bool.true_or]
    · have hx' : (decide (x.f1 ≥ a.f1)) = false := by simpa using hx
      simp only [if_neg hx, geX, List.any_cons, hx', Bool.false_or]; exact ih
theorem ge_iff (a : List K_sisi) (v : Int) : ∀ (l : List K_sisi) (i : Int), 0 ≤ i → ((match r1005001_0 a v l i with | .k0 .. => (-1 : Int) | .k1 w => w) ≥ 0 ↔ geX v l = true)
  | [], i, _ => by simp [r1005001_0, geX]
  | x :: l, i, h => by
    have ih := ge_iff a v l (i + 1) (by omega)
    simp only [r1005001_0]
    by_cases hx : (decide (x.f1 ≥ v)) = true
    · simp only [if_pos hx, geX, List.any_cons, hx, Bool.true_or, iff_true]; exact h
    · have hx' : (decide (x.f1 ≥ v)) = false := by simpa using hx
      simp only [if_neg hx, geX, List.any_cons, hx', Bool.false_or]; exact ih
theorem next_loop (a : K_LsisiEi) : (match r30_1 a a.f0 0 with | .k0 .. => (0 : Int) | .k1 => 3) = if (decide ((m1005001 a.f0 a.f0 a.f1) ≥ 0)) = true then 3 else 0 := by
  have e := next_b a a.f0 0
  have h : (decide ((m1005001 a.f0 a.f0 a.f1) ≥ 0)) = geX a.f1 a.f0 := by
    unfold m1005001
    rw [Bool.eq_iff_iff, decide_eq_true_eq]; exact ge_iff a.f0 a.f1 a.f0 0 (by omega)
  rw [h, ← e]
  cases hr : r30_1 a a.f0 0 with
  | k0 w b => rfl
  | k1 => rfl
theorem server_eq (a : K_LsisiEi) : m30 a = m33 a := by
  unfold m30 m33
  split
  · rfl
  · rw [← in_eq, ← next_loop]
    exact ones_loop a (if (!(m34 a.f1 0 999)) = true then 3 else (match r30_1 a a.f0 0 with | .k0 .. => (0 : Int) | .k1 => 3)) a.f0 [] rfl

theorem asked_eq (a : K_LsisiEi) (w : Int) : m14 a w = m17 a w := by
  unfold m14 m17
  rw [server_eq, in_eq]
theorem close_eq (a : K_LsisiEi) (w : Int) : m5 a w = m7 a w := by
  unfold m5 m7
  rw [asked_eq]
  by_cases h : ((m17 a w) != 0) = true
  · rw [if_pos h, if_pos h]
  · have q := wh17 h
    rw [if_neg h, if_neg h, wrap64 (by omega), show Int.toNat (w + 1) = Int.toNat w + 1 by omega]
    simp only [List.nil_append]
theorem pure (a0 : K_LsisiEi) (a1 : Int) (w0 : wf_LsisiEi a0) (w1 : wf_i a1) : m3 a0 a1 = true := by
  have hok := okm7 a0 a1
  simp only [ok_iLsELiisiiiiELsisiEi] at hok
  have hm0 := mh10 a0 1 (by omega) (by simp only [wt_LsisiEi, wts_sisi]; have := w0.1; omega)
  have hm := mh11 (m7 a0 a1) 1 (by omega) (by simp only [wt_iLsELiisiiiiELsisiEi, wts_s, wts_iisiiii, wts_sisi]; omega)
  unfold m3
  simp only [close_eq, eqd9, eqd8, hm.1]
  (repeat' split) <;> (first | rfl | (simp_all; done) | (simp only [decide_eq_true_eq] at *; omega))

end Go.Proofs.YtaomcjbjgdihhaaDoor.CloseSession
