/- The plain law: what the functions compute answers as the statement says. -/
import Derived.Test.YtcbnpfnebinbkaaDoorEPushWeight
import Derived.Test.YtcbnpfnebinbkaaDoorVArgs
namespace Go.Proofs.YtcbnpfnebinbkaaDoor.PushWeight
open Go Go.Proofs.YtcbnpfnebinbkaaDoor.V
set_option linter.unusedVariables false
set_option maxRecDepth 20000
def wf_si (x : K_si) : Prop := x.f0.size ≤ 140737488351232 ∧ (Lit.int .i64 x.f1).wf = true
theorem un_si {bs : List B} (h : Sh.okL [.str, .int .i64] bs) : ∃ x : K_si, bs = [(.val (.string x.f0)), (.val (.int .i64 x.f1))] ∧ wf_si x := by
  obtain ⟨b0, m0, rfl, o0, h0⟩ := h
  obtain ⟨x0, rfl, w0⟩ : ∃ z : ByteArray, b0 = .val (.string z) ∧ z.size ≤ 140737488351232 := by
    cases b0 with
    | val v => cases v <;> first | exact ⟨_, rfl, o0⟩ | exact o0.elim
    | sl r => exact o0.elim
  obtain ⟨b1, m1, rfl, o1, h1⟩ := h0
  obtain ⟨x1, rfl, w1⟩ : ∃ z : Int, b1 = .val (.int .i64 z) ∧ (Lit.int .i64 z).wf = true := by
    cases b1 with
    | val v =>
      cases v <;> first | exact o1.elim | (obtain ⟨rfl, w⟩ := o1; exact ⟨_, rfl, w⟩)
    | sl r => exact o1.elim
  obtain rfl := h1
  exact ⟨⟨x0, x1⟩, rfl, ⟨w0, w1⟩⟩
theorem os_wf_si (x : K_si) (w : wf_si x) : os_si x := w.1
theorem uns_si : ∀ {rows : List (List B)}, (∀ r ∈ rows, Sh.okL [.str, .int .i64] r) → ∃ z : List K_si, rows = z.map b_si ∧ ∀ u ∈ z, wf_si u
  | [], _ => ⟨[], rfl, fun u h => (by cases h)⟩
  | r :: rows, h => by
    obtain ⟨x, e, w⟩ := un_si (h r (List.mem_cons_self ..))
    obtain ⟨z, rfl, hz⟩ := uns_si (fun r hr => h r (List.mem_cons_of_mem _ hr))
    refine ⟨x :: z, by rw [e]; rfl, fun u hu => ?_⟩
    rcases List.mem_cons.1 hu with rfl | hu
    · exact w
    · exact hz u hu
def wf_LsiE (x : (List K_si)) : Prop := (x.length * 24 ≤ 140737488351232 ∧ ∀ z ∈ x, wf_si z)
theorem un_LsiE {bs : List B} (h : Sh.okL [.sl [.str, .int .i64] 24] bs) : ∃ x : (List K_si), bs = [(.sl (List.map b_si x))] ∧ wf_LsiE x := by
  obtain ⟨b0, m0, rfl, o0, h0⟩ := h
  obtain ⟨x0, rfl, w0⟩ : ∃ z : (List K_si), b0 = .sl (z.map b_si) ∧ z.length * 24 ≤ 140737488351232 ∧ ∀ u ∈ z, wf_si u := by
    cases b0 with
    | val v => cases v <;> exact o0.elim
    | sl r =>
      obtain ⟨z, rfl, hz⟩ := uns_si o0.2
      exact ⟨z, rfl, by simpa using o0.1, hz⟩
  obtain rfl := h0
  exact ⟨x0, rfl, w0⟩
theorem ok_wf_LsiE (x : (List K_si)) (w : wf_LsiE x) : ok_LsiE x := w.1
theorem os_wf_LsiE (x : (List K_si)) (w : wf_LsiE x) : os_LsiE x := ⟨w.1, fun z hz => os_wf_si z (w.2 z hz)⟩
theorem uns_LsiE : ∀ {rows : List (List B)}, (∀ r ∈ rows, Sh.okL [.sl [.str, .int .i64] 24] r) → ∃ z : List (List K_si), rows = z.map b_LsiE ∧ ∀ u ∈ z, wf_LsiE u
  | [], _ => ⟨[], rfl, fun u h => (by cases h)⟩
  | r :: rows, h => by
    obtain ⟨x, e, w⟩ := un_LsiE (h r (List.mem_cons_self ..))
    obtain ⟨z, rfl, hz⟩ := uns_LsiE (fun r hr => h r (List.mem_cons_of_mem _ hr))
    refine ⟨x :: z, by rw [e]; rfl, fun u hu => ?_⟩
    rcases List.mem_cons.1 hu with rfl | hu
    · exact w
    · exact hz u hu
def wf_i (x : Int) : Prop := (Lit.int .i64 x).wf = true
theorem un_i {bs : List B} (h : Sh.okL [.int .i64] bs) : ∃ x : Int, bs = [(.val (.int .i64 x))] ∧ wf_i x := by
  obtain ⟨b0, m0, rfl, o0, h0⟩ := h
  obtain ⟨x0, rfl, w0⟩ : ∃ z : Int, b0 = .val (.int .i64 z) ∧ (Lit.int .i64 z).wf = true := by
    cases b0 with
    | val v =>
      cases v <;> first | exact o0.elim | (obtain ⟨rfl, w⟩ := o0; exact ⟨_, rfl, w⟩)
    | sl r => exact o0.elim
  obtain rfl := h0
  exact ⟨x0, rfl, w0⟩
theorem uns_i : ∀ {rows : List (List B)}, (∀ r ∈ rows, Sh.okL [.int .i64] r) → ∃ z : List Int, rows = z.map b_i ∧ ∀ u ∈ z, wf_i u
  | [], _ => ⟨[], rfl, fun u h => (by cases h)⟩
  | r :: rows, h => by
    obtain ⟨x, e, w⟩ := un_i (h r (List.mem_cons_self ..))
    obtain ⟨z, rfl, hz⟩ := uns_i (fun r hr => h r (List.mem_cons_of_mem _ hr))
    refine ⟨x :: z, by rw [e]; rfl, fun u hu => ?_⟩
    rcases List.mem_cons.1 hu with rfl | hu
    · exact w
    · exact hz u hu
theorem in_iff (a b c : Int) : m59 a b c = true ↔ b ≤ a ∧ a ≤ c := by
  unfold m59; split <;> simp_all <;> omega
theorem l1In_iff (a b c : Int) : m72 a b c = true ↔ b ≤ a ∧ a ≤ c := by
  unfold m72; split <;> simp_all <;> omega
theorem in_eq (a b c : Int) : m59 a b c = m72 a b c := by
  rw [Bool.eq_iff_iff, in_iff, l1In_iff]

theorem letter_iff (c : Int) : m111 c = true ↔ (97 ≤ c ∧ c ≤ 122) ∨ (65 ≤ c ∧ c ≤ 90) ∨ (48 ≤ c ∧ c ≤ 57) := by
  unfold m111
  (repeat' split) <;> simp_all <;> omega
def signs : ByteArray := ⟨#[97, 98, 99, 100, 101, 102, 103, 104, 105, 106, 107, 108, 109, 110, 111, 112, 113, 114, 115, 116, 117, 118, 119, 120, 121, 122, 65, 66, 67, 68, 69, 70, 71, 72, 73, 74, 75, 76, 77, 78, 79, 80, 81, 82, 83, 84, 85, 86, 87, 88, 89, 90, 48, 49, 50, 51, 52, 53, 54, 55, 56, 57]⟩
theorem signs_iff (b : UInt8) : signs.data.toList.contains b = m111 (b.toNat : Int) := by
  have key : ∀ n : Fin 256, signs.data.toList.contains (UInt8.ofNat n.val) = m111 ((UInt8.ofNat n.val).toNat : Int) := by decide +kernel
  have := key ⟨b.toNat, b.toNat_lt⟩
  simpa using this
theorem dw_bad {p : UInt8 → Bool} {b : UInt8} (hp : p b = false) : ∀ {l : List UInt8}, b ∈ l → b ∈ l.dropWhile p
  | x :: l, h => by
    simp only [List.dropWhile]
    cases hx : p x with
    | true =>
      rcases List.mem_cons.1 h with rfl | h
      · rw [hp] at hx; cases hx
      · exact dw_bad hp h
    | false => exact h
theorem dw_nil {p : UInt8 → Bool} : ∀ {l : List UInt8}, (∀ b ∈ l, p b = true) → l.dropWhile p = []
  | [], _ => rfl
  | x :: l, h => by
    simp only [List.dropWhile, h x (List.mem_cons_self ..)]
    exact dw_nil fun b hb => h b (List.mem_cons_of_mem _ hb)
theorem trim_nil (l cs : List UInt8) : Lib.trimS l cs = [] ↔ ∀ b ∈ l, cs.contains b = true := by
  unfold Lib.trimS Lib.trimLeftS Lib.trimRightS
  constructor
  · intro h b hb
    cases hc : cs.contains b with
    | true => rfl
    | false =>
      have h1 := dw_bad (p := (cs.contains ·)) hc (List.mem_reverse.2 hb)
      have h2 := dw_bad (p := (cs.contains ·)) hc (List.mem_reverse.2 h1)
      rw [h] at h2; cases h2
  · intro h
    rw [dw_nil (p := (cs.contains ·)) (l := l.reverse) fun b hb => h b (List.mem_reverse.1 hb)]
    rfl
theorem byteAt_nat (s : ByteArray) (i : Nat) (h : i < s.size) : byteAt s (i : Int) = ((s.data.toList[i]'(by simpa using h)).toNat : Int) := by
  unfold byteAt
  rw [Int.toNat_natCast, List.getElem?_eq_getElem (by simpa using h)]
  rfl
theorem arg_loop (s : ByteArray) : ∀ (n i : Nat), i + n = s.size → (r93_0 s n (i : Int) = .k1 ∧ ∃ b ∈ s.data.toList.drop i, m111 (b.toNat : Int) = false) ∨ (∃ w b, r93_0 s n (i : Int) = .k0 w b ∧ ∀ b ∈ s.data.toList.drop i, m111 (b.toNat : Int) = true)
  | 0, i, h => .inr ⟨_, _, rfl, fun b hb => by
      rw [List.drop_eq_nil_of_le (by show s.data.toList.length ≤ i; rw [Array.length_toList]; have : s.data.size = s.size := rfl; omega)] at hb; cases hb⟩
  | n + 1, i, h => by
    have hi : i < s.size := by omega
    have hl : i < s.data.toList.length := by simpa using hi
    rw [List.drop_eq_getElem_cons hl]
    generalize hx : s.data.toList[i] = x
    simp only [r93_0]
    rw [byteAt_nat s i hi, hx]
    by_cases hc : m111 (x.toNat : Int) = true
    · rw [if_neg (by simp [hc])]
      have ih := arg_loop s n (i + 1) (by omega)
      rw [show ((i : Int) + 1) = ((i + 1 : Nat) : Int) by omega]
      rcases ih with ⟨h1, b, h2, h3⟩ | ⟨w, b, h1, h2⟩
      · exact .inl ⟨h1, b, List.mem_cons_of_mem _ h2, h3⟩
      · refine .inr ⟨w, b, h1, fun c hcm => ?_⟩
        rcases List.mem_cons.1 hcm with rfl | hcm
        · exact hc
        · exact h2 c hcm
    · have hf : m111 (x.toNat : Int) = false := by simpa using hc
      rw [if_pos (by simp [hf])]
      exact .inl ⟨rfl, _, List.mem_cons_self .., hf⟩
theorem arg_eq (s : ByteArray) : m95 s = m93 s := by
  have ht : ((trimB s signs).toList == (⟨#[]⟩ : ByteArray).toList) = decide (∀ b ∈ s.data.toList, m111 (b.toNat : Int) = true) := by
    rw [ba_eq, Bool.eq_iff_iff, decide_eq_true_eq, decide_eq_true_eq]
    have : trimB s signs = ⟨#[]⟩ ↔ Lib.trimS s.data.toList signs.data.toList = [] := by
      unfold trimB
      constructor
      · intro h; injection h with h; simpa using congrArg Array.toList h
      · intro h; rw [h]
    rw [this, trim_nil]
    constructor
    · intro h b hb; rw [← signs_iff]; exact h b hb
    · intro h b hb; rw [signs_iff]; exact h b hb
  have hl := arg_loop s s.size 0 (by omega)
  rw [List.drop_zero] at hl
  unfold m95 m93
  rw [show (⟨#[97, 98, 99, 100, 101, 102, 103, 104, 105, 106, 107, 108, 109, 110, 111, 112, 113, 114, 115, 116, 117, 118, 119, 120, 121, 122, 65, 66, 67, 68, 69, 70, 71, 72, 73, 74, 75, 76, 77, 78, 79, 80, 81, 82, 83, 84, 85, 86, 87, 88, 89, 90, 48, 49, 50, 51, 52, 53, 54, 55, 56, 57]⟩ : ByteArray) = signs from rfl, ht]
  rw [Int.toNat_natCast, show (0 : Int) = ((0 : Nat) : Int) from rfl]
  rcases hl with ⟨h1, b, h2, h3⟩ | ⟨w, b, h1, h2⟩
  · rw [h1]
    have : ¬ ∀ b ∈ s.data.toList, m111 (b.toNat : Int) = true := fun h => by rw [h b h2] at h3; cases h3
    rw [decide_eq_false this]
    simp only []
    split <;> rfl
  · rw [h1, decide_eq_true h2]
    simp only []
    cases decide ((s.size : Int) ≤ 12) <;> rfl

theorem one_eq (x : K_si) : m71 x = (if (!(m60 x.f0)) = true then 5 else if (!(m59 x.f1 1 9999)) = true then 3 else 0) := by
  unfold m71 m60
  rw [in_eq, arg_eq]
  generalize (x.f0.toList == (⟨#[]⟩ : ByteArray).toList) = A
  generalize m93 x.f0 = B
  cases A <;> cases B <;> rfl
theorem window_loop (a b : List K_si) : ∀ (l : List K_si) (i j : Int), (match r19_0 a l i with | .k0 .. => (0 : Int) | .k1 => 5 | .k2 => 3) = (match r63_0 b l j with | .k0 .. => 0 | .k1 w => w)
  | [], i, j => rfl
  | x :: l, i, j => by
    have ih := window_loop a b l (i + 1) (j + 1)
    simp only [r19_0, r63_0, one_eq]
    by_cases h1 : (!(m60 x.f0)) = true
    · simp [h1]
    · by_cases h2 : (!(m59 x.f1 1 9999)) = true
      · simp [h1, h2]
      · simp only [if_neg h1, if_neg h2]; simpa using ih
theorem window_eq (a : List K_si) : m19 a = m63 a := by
  unfold m19 m63
  split
  · rfl
  · exact window_loop a a a 0 0

theorem win1 (a : K_si) : m63 [a] = m71 a := by
  unfold m63
  simp only [r63_0, List.map_cons, List.map_nil, List.length_cons, List.length_nil]
  by_cases h : (m71 a != 0) = true
  · simp [h]
  · simp only [if_neg h]
    simp only [bne_iff_ne, ne_eq, Decidable.not_not] at h
    simp [h]
theorem same (a : List K_si) (b : K_si) (c : Int) : m32 a b c = m30 a b c := by
  unfold m30 m32
  rw [window_eq, window_eq, win1, in_eq]
  split
  · rfl
  · split
    · rfl
    · split
      · rfl
      · have q1 := len12_63 a (by assumption)
        have q2 := jn72 (a := c) (b := 1) (c := 12) (by assumption)
        rw [push_73 a b c (by omega)]
        have h : Int.toNat (vmax (((a.length + 1 : Nat) : Int) - c) 0) = a.length + 1 - c.toNat := by unfold vmax; split <;> omega
        congr 1
        simp only [List.length_map, List.length_append, List.length_cons, List.length_nil, List.length_take, List.length_drop, Nat.sub_zero, Nat.min_self, Nat.zero_add]
        rw [wrap64 (by omega), h]
        rw [List.take_of_length_le (by simp only [List.length_drop, List.length_append, List.length_cons, List.length_nil]; omega)]
theorem pure (a0 : (List K_si)) (a1 : K_si) (a2 : Int) (w0 : wf_LsiE a0) (w1 : wf_si a1) (w2 : wf_i a2) : m7 a0 a1 a2 = true := by
  have hok := okm32 a0 a1 a2
  have hm0 := mh34 a0 1 (by omega) (by rw [wts_si]; have := w0.1; omega)
  have hm := mh35 (m32 a0 a1 a2) 1 (by omega) (by
    simp only [ok_iLsiE] at hok
    simp only [wt_iLsiE, wts_si]; omega)
  unfold m7
  simp only [← same, eqd20, eqd33, hm.1]
  (repeat' split) <;> (first | rfl | (simp_all; done) | (simp only [decide_eq_true_eq] at *; omega))

end Go.Proofs.YtcbnpfnebinbkaaDoor.PushWeight
