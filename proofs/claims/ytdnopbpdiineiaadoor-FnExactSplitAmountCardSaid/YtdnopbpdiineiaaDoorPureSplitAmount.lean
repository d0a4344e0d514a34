/- The plain law: what the functions compute answers as the statement says. -/
import Derived.Test.YtdnopbpdiineiaaDoorESplitAmount
import Derived.Test.YtdnopbpdiineiaaDoorVArgs
namespace Go.Proofs.YtdnopbpdiineiaaDoor.SplitAmount
open Go Go.Proofs.YtdnopbpdiineiaaDoor.V
set_option linter.unusedVariables false
set_option maxRecDepth 20000
def wf_i (x : Int) : Prop := (Lit.int .i64 x).wf = true
theorem un_i {bs : List B} (h : Sh.okL [.int .i64] bs) : ∃ x : Int, bs = [(.val (.int .i64 x))] ∧ wf_i x := by
  obtain ⟨b0, m0, rfl, o0, h0⟩ := h
  obtain ⟨x0, rfl, w0⟩ : ∃ z : Int, b0 = .val (.int .i64 z) ∧ (Lit.int .i64 z).wf = true := by
    cases b0 with
    | val v =>
      cases v <;> first | exact o0.elim | (obtain ⟨rfl, w⟩ := o0; exact ⟨_, rfl, w⟩)
    | sl r => exact o0.elim
  obtain rfl := h0
  exact ⟨x0, rfl, w0⟩
theorem uns_i : ∀ {rows : List (List B)}, (∀ r ∈ rows, Sh.okL [.int .i64] r) → ∃ z : List Int, rows = z.map b_i ∧ ∀ u ∈ z, wf_i u
  | [], _ => ⟨[], rfl, fun u h => (by cases h)⟩
  | r :: rows, h => by
    obtain ⟨x, e, w⟩ := un_i (h r (List.mem_cons_self ..))
    obtain ⟨z, rfl, hz⟩ := uns_i (fun r hr => h r (List.mem_cons_of_mem _ hr))
    refine ⟨x :: z, by rw [e]; rfl, fun u hu => ?_⟩
    rcases List.mem_cons.1 hu with rfl | hu
    · exact w
    · exact hz u hu
def wf_si (x : K_si) : Prop := x.f0.size ≤ 140737488351232 ∧ (Lit.int .i64 x.f1).wf = true
theorem un_si {bs : List B} (h : Sh.okL [.str, .int .i64] bs) : ∃ x : K_si, bs = [(.val (.string x.f0)), (.val (.int .i64 x.f1))] ∧ wf_si x := by
  obtain ⟨b0, m0, rfl, o0, h0⟩ := h
  obtain ⟨x0, rfl, w0⟩ : ∃ z : ByteArray, b0 = .val (.string z) ∧ z.size ≤ 140737488351232 := by
    cases b0 with
    | val v => cases v <;> first | exact ⟨_, rfl, o0⟩ | exact o0.elim
    | sl r => exact o0.elim
  obtain ⟨b1, m1, rfl, o1, h1⟩ := h0
  obtain ⟨x1, rfl, w1⟩ : ∃ z : Int, b1 = .val (.int .i64 z) ∧ (Lit.int .i64 z).wf = true := by
    cases b1 with
    | val v =>
      cases v <;> first | exact o1.elim | (obtain ⟨rfl, w⟩ := o1; exact ⟨_, rfl, w⟩)
    | sl r => exact o1.elim
  obtain rfl := h1
  exact ⟨⟨x0, x1⟩, rfl, ⟨w0, w1⟩⟩
theorem os_wf_si (x : K_si) (w : wf_si x) : os_si x := w.1
theorem uns_si : ∀ {rows : List (List B)}, (∀ r ∈ rows, Sh.okL [.str, .int .i64] r) → ∃ z : List K_si, rows = z.map b_si ∧ ∀ u ∈ z, wf_si u
  | [], _ => ⟨[], rfl, fun u h => (by cases h)⟩
  | r :: rows, h => by
    obtain ⟨x, e, w⟩ := un_si (h r (List.mem_cons_self ..))
    obtain ⟨z, rfl, hz⟩ := uns_si (fun r hr => h r (List.mem_cons_of_mem _ hr))
    refine ⟨x :: z, by rw [e]; rfl, fun u hu => ?_⟩
    rcases List.mem_cons.1 hu with rfl | hu
    · exact w
    · exact hz u hu
def wf_LsiE (x : (List K_si)) : Prop := (x.length * 24 ≤ 140737488351232 ∧ ∀ z ∈ x, wf_si z)
theorem un_LsiE {bs : List B} (h : Sh.okL [.sl [.str, .int .i64] 24] bs) : ∃ x : (List K_si), bs = [(.sl (List.map b_si x))] ∧ wf_LsiE x := by
  obtain ⟨b0, m0, rfl, o0, h0⟩ := h
  obtain ⟨x0, rfl, w0⟩ : ∃ z : (List K_si), b0 = .sl (z.map b_si) ∧ z.length * 24 ≤ 140737488351232 ∧ ∀ u ∈ z, wf_si u := by
    cases b0 with
    | val v => cases v <;> exact o0.elim
    | sl r =>
      obtain ⟨z, rfl, hz⟩ := uns_si o0.2
      exact ⟨z, rfl, by simpa using o0.1, hz⟩
  obtain rfl := h0
  exact ⟨x0, rfl, w0⟩
theorem ok_wf_LsiE (x : (List K_si)) (w : wf_LsiE x) : ok_LsiE x := w.1
theorem os_wf_LsiE (x : (List K_si)) (w : wf_LsiE x) : os_LsiE x := ⟨w.1, fun z hz => os_wf_si z (w.2 z hz)⟩
theorem uns_LsiE : ∀ {rows : List (List B)}, (∀ r ∈ rows, Sh.okL [.sl [.str, .int .i64] 24] r) → ∃ z : List (List K_si), rows = z.map b_LsiE ∧ ∀ u ∈ z, wf_LsiE u
  | [], _ => ⟨[], rfl, fun u h => (by cases h)⟩
  | r :: rows, h => by
    obtain ⟨x, e, w⟩ := un_LsiE (h r (List.mem_cons_self ..))
    obtain ⟨z, rfl, hz⟩ := uns_LsiE (fun r hr => h r (List.mem_cons_of_mem _ hr))
    refine ⟨x :: z, by rw [e]; rfl, fun u hu => ?_⟩
    rcases List.mem_cons.1 hu with rfl | hu
    · exact w
    · exact hz u hu
theorem in_iff (a b c : Int) : m93 a b c = true ↔ b ≤ a ∧ a ≤ c := by
  unfold m93; split <;> simp_all <;> omega
theorem l1In_iff (a b c : Int) : m113 a b c = true ↔ b ≤ a ∧ a ≤ c := by
  unfold m113; split <;> simp_all <;> omega
theorem in_eq (a b c : Int) : m93 a b c = m113 a b c := by
  rw [Bool.eq_iff_iff, in_iff, l1In_iff]

theorem letter_iff (c : Int) : m148 c = true ↔ (97 ≤ c ∧ c ≤ 122) ∨ (65 ≤ c ∧ c ≤ 90) ∨ (48 ≤ c ∧ c ≤ 57) := by
  unfold m148
  (repeat' split) <;> simp_all <;> omega
def signs : ByteArray := ⟨#[97, 98, 99, 100, 101, 102, 103, 104, 105, 106, 107, 108, 109, 110, 111, 112, 113, 114, 115, 116, 117, 118, 119, 120, 121, 122, 65, 66, 67, 68, 69, 70, 71, 72, 73, 74, 75, 76, 77, 78, 79, 80, 81, 82, 83, 84, 85, 86, 87, 88, 89, 90, 48, 49, 50, 51, 52, 53, 54, 55, 56, 57]⟩
theorem signs_iff (b : UInt8) : signs.data.toList.contains b = m148 (b.toNat : Int) := by
  have key : ∀ n : Fin 256, signs.data.toList.contains (UInt8.ofNat n.val) = m148 ((UInt8.ofNat n.val).toNat : Int) := by decide +kernel
  have := key ⟨b.toNat, b.toNat_lt⟩
  simpa using this
theorem dw_bad {p : UInt8 → Bool} {b : UInt8} (hp : p b = false) : ∀ {l : List UInt8}, b ∈ l → b ∈ l.dropWhile p
  | x :: l, h => by
    simp only [List.dropWhile]
    cases hx : p x with
    | true =>
      rcases List.mem_cons.1 h with rfl | h
      · rw [hp] at hx; cases hx
      · exact dw_bad hp h
    | false => exact h
theorem dw_nil {p : UInt8 → Bool} : ∀ {l : List UInt8}, (∀ b ∈ l, p b = true) → l.dropWhile p = []
  | [], _ => rfl
  | x :: l, h => by
    simp only [List.dropWhile, h x (List.mem_cons_self ..)]
    exact dw_nil fun b hb => h b (List.mem_cons_of_mem _ hb)
theorem trim_nil (l cs : List UInt8) : Lib.trimS l cs = [] ↔ ∀ b ∈ l, cs.contains b = true := by
  unfold Lib.trimS Lib.trimLeftS Lib.trimRightS
  constructor
  · intro h b hb
    cases hc : cs.contains b with
    | true => rfl
    | false =>
      have h1 := dw_bad (p := (cs.contains ·)) hc (List.mem_reverse.2 hb)
      have h2 := dw_bad (p := (cs.contains ·)) hc (List.mem_reverse.2 h1)
      rw [h] at h2; cases h2
  · intro h
    rw [dw_nil (p := (cs.contains ·)) (l := l.reverse) fun b hb => h b (List.mem_reverse.1 hb)]
    rfl
theorem byteAt_nat (s : ByteArray) (i : Nat) (h : i < s.size) : byteAt s (i : Int) = ((s.data.toList[i]'(by simpa using h)).toNat : Int) := by
  unfold byteAt
  rw [Int.toNat_natCast, List.getElem?_eq_getElem (by simpa using h)]
  rfl
theorem arg_loop (s : ByteArray) : ∀ (n i : Nat), i + n = s.size → (r114_0 s n (i : Int) = .k1 ∧ ∃ b ∈ s.data.toList.drop i, m148 (b.toNat : Int) = false) ∨ (∃ w b, r114_0 s n (i : Int) = .k0 w b ∧ ∀ b ∈ s.data.toList.drop i, m148 (b.toNat : Int) = true)
  | 0, i, h => .inr ⟨_, _, rfl, fun b hb => by
      rw [List.drop_eq_nil_of_le (by show s.data.toList.length ≤ i; rw [Array.length_toList]; have : s.data.size = s.size := rfl; omega)] at hb; cases hb⟩
  | n + 1, i, h => by
    have hi : i < s.size := by omega
    have hl : i < s.data.toList.length := by simpa using hi
    rw [List.drop_eq_getElem_cons hl]
    generalize hx : s.data.toList[i] = x
    simp only [r114_0]
    rw [byteAt_nat s i hi, hx]
    by_cases hc : m148 (x.toNat : Int) = true
    · rw [if_neg (by simp [hc])]
      have ih := arg_loop s n (i + 1) (by omega)
      rw [show ((i : Int) + 1) = ((i + 1 : Nat) : Int) by omega]
      rcases ih with ⟨h1, b, h2, h3⟩ | ⟨w, b, h1, h2⟩
      · exact .inl ⟨h1, b, List.mem_cons_of_mem _ h2, h3⟩
      · refine .inr ⟨w, b, h1, fun c hcm => ?_⟩
        rcases List.mem_cons.1 hcm with rfl | hcm
        · exact hc
        · exact h2 c hcm
    · have hf : m148 (x.toNat : Int) = false := by simpa using hc
      rw [if_pos (by simp [hf])]
      exact .inl ⟨rfl, _, List.mem_cons_self .., hf⟩
theorem arg_eq (s : ByteArray) : m149 s = m114 s := by
  have ht : ((trimB s signs).toList == (⟨#[]⟩ : ByteArray).toList) = decide (∀ b ∈ s.data.toList, m148 (b.toNat : Int) = true) := by
    rw [ba_eq, Bool.eq_iff_iff, decide_eq_true_eq, decide_eq_true_eq]
    have : trimB s signs = ⟨#[]⟩ ↔ Lib.trimS s.data.toList signs.data.toList = [] := by
      unfold trimB
      constructor
      · intro h; injection h with h; simpa using congrArg Array.toList h
      · intro h; rw [h]
    rw [this, trim_nil]
    constructor
    · intro h b hb; rw [← signs_iff]; exact h b hb
    · intro h b hb; rw [signs_iff]; exact h b hb
  have hl := arg_loop s s.size 0 (by omega)
  rw [List.drop_zero] at hl
  unfold m149 m114
  rw [show (⟨#[97, 98, 99, 100, 101, 102, 103, 104, 105, 106, 107, 108, 109, 110, 111, 112, 113, 114, 115, 116, 117, 118, 119, 120, 121, 122, 65, 66, 67, 68, 69, 70, 71, 72, 73, 74, 75, 76, 77, 78, 79, 80, 81, 82, 83, 84, 85, 86, 87, 88, 89, 90, 48, 49, 50, 51, 52, 53, 54, 55, 56, 57]⟩ : ByteArray) = signs from rfl, ht]
  rw [Int.toNat_natCast, show (0 : Int) = ((0 : Nat) : Int) from rfl]
  rcases hl with ⟨h1, b, h2, h3⟩ | ⟨w, b, h1, h2⟩
  · rw [h1]
    have : ¬ ∀ b ∈ s.data.toList, m148 (b.toNat : Int) = true := fun h => by rw [h b h2] at h3; cases h3
    rw [decide_eq_false this]
    simp only []
    split <;> rfl
  · rw [h1, decide_eq_true h2]
    simp only []
    cases decide ((s.size : Int) ≤ 12) <;> rfl

theorem one_eq (x : K_si) : m124 x = (if (!(m118 x.f0)) = true then 5 else if (!(m93 x.f1 1 9999)) = true then 3 else 0) := by
  unfold m124 m118
  rw [in_eq, arg_eq]
  generalize (x.f0.toList == (⟨#[]⟩ : ByteArray).toList) = A
  generalize m114 x.f0 = B
  cases A <;> cases B <;> rfl
theorem window_loop (a b : List K_si) : ∀ (l : List K_si) (i j : Int), (match r78_0 a l i with | .k0 .. => (0 : Int) | .k1 => 5 | .k2 => 3) = (match r74_0 b l j with | .k0 .. => 0 | .k1 w => w)
  | [], i, j => rfl
  | x :: l, i, j => by
    have ih := window_loop a b l (i + 1) (j + 1)
    simp only [r78_0, r74_0, one_eq]
    by_cases h1 : (!(m118 x.f0)) = true
    · simp [h1]
    · by_cases h2 : (!(m93 x.f1 1 9999)) = true
      · simp [h1, h2]
      · simp only [if_neg h1, if_neg h2]; simpa using ih
theorem window_eq (a : List K_si) : m78 a = m74 a := by
  unfold m78 m74
  split
  · rfl
  · exact window_loop a a a 0 0

/-- The first place of a worker. -/
def pos (w : ByteArray) : List K_si → Option Nat
  | [] => none
  | x :: l => if x.f0 = w then some 0 else (pos w l).map (· + 1)
theorem at_pos_loop (a : List K_si) (w : ByteArray) : ∀ (l : List K_si) (i : Int), (match r1015700_0 a w l i with | .k0 .. => (-1 : Int) | .k1 z => z) = (match pos w l with | none => (-1 : Int) | some p => i + p)
  | [], i => rfl
  | x :: l, i => by
    have ih := at_pos_loop a w l (i + 1)
    simp only [r1015700_0, pos, ba_eq]
    by_cases h : x.f0 = w
    · simp [h]
    · simp only [h, decide_false, if_false]
      rw [if_neg (by simp), ih]
      cases pos w l with
      | none => rfl
      | some p => show (i + 1 + (p : Int)) = i + ((p + 1 : Nat) : Int); omega
theorem at_pos (a : List K_si) (w : ByteArray) : m1015700 a w = (match pos w a with | none => (-1 : Int) | some p => (p : Int)) := by
  unfold m1015700
  refine (at_pos_loop a w a 0).trans ?_
  cases pos w a <;> simp
theorem pos_lt {w : ByteArray} : ∀ {l : List K_si} {p : Nat}, pos w l = some p → p < l.length
  | [], p, h => by cases h
  | x :: l, p, h => by
    simp only [pos] at h
    split at h
    · injection h with h; subst h; simp
    · cases hp : pos w l with
      | none => rw [hp] at h; cases h
      | some q => rw [hp] at h; injection h with h; subst h; have := pos_lt hp; simp; omega
/-- What a list owes to a worker. -/
def look (w : ByteArray) : List K_si → Int
  | [] => 0
  | x :: l => if x.f0 = w then x.f1 else look w l
theorem look_pos (d : K_si) {w : ByteArray} : ∀ {l : List K_si}, look w l = (match pos w l with | none => 0 | some p => (List.getD l p d).f1)
  | [] => rfl
  | x :: l => by
    simp only [look, pos]
    split
    · rfl
    · rw [look_pos d (l := l)]
      cases pos w l <;> rfl
theorem pos_at (d : K_si) {w : ByteArray} : ∀ {l : List K_si} {p : Nat}, pos w l = some p → (List.getD l p d).f0 = w
  | [], p, h => by cases h
  | x :: l, p, h => by
    simp only [pos] at h
    split at h
    · injection h with h; subst h; assumption
    · cases hp : pos w l with
      | none => rw [hp] at h; cases h
      | some q => rw [hp] at h; injection h with h; subst h; show (List.getD l q d).f0 = w; exact pos_at d hp
/-- A worker gets more. -/
def upd (x : K_si) : List K_si → List K_si
  | [] => [x]
  | y :: l => if y.f0 = x.f0 then K_si.mk y.f0 (IntKind.wrap .i64 (y.f1 + x.f1)) :: l else y :: upd x l
theorem upd_none {x : K_si} : ∀ {l : List K_si}, pos x.f0 l = none → upd x l = l ++ [x]
  | [], _ => rfl
  | y :: l, h => by
    simp only [pos] at h
    split at h
    · cases h
    · rename_i hy
      simp only [upd, if_neg hy, List.cons_append]
      rw [upd_none (l := l) (by cases hp : pos x.f0 l <;> simp_all)]
theorem upd_some (d : K_si) {x : K_si} : ∀ {l : List K_si} {p : Nat}, pos x.f0 l = some p → upd x l = List.set l p (K_si.mk (List.getD l p d).f0 (IntKind.wrap .i64 ((List.getD l p d).f1 + x.f1)))
  | [], p, h => by cases h
  | y :: l, p, h => by
    simp only [pos] at h
    split at h
    · rename_i hy
      injection h with h; subst h
      simp only [upd, if_pos hy]; rfl
    · rename_i hy
      cases hp : pos x.f0 l with
      | none => rw [hp] at h; cases h
      | some q =>
        rw [hp] at h; injection h with h; subst h
        simp only [upd, if_neg hy]
        rw [upd_some d hp]; rfl
theorem step_upd (d x : K_si) (v : List K_si) : (if decide (m1015700 v x.f0 ≥ 0) = true then List.set v (Int.toNat (m1015700 v x.f0)) (K_si.mk ((List.getD v (Int.toNat (m1015700 v x.f0)) d).f0) (IntKind.wrap .i64 (((List.getD v (Int.toNat (m1015700 v x.f0)) d).f1) + x.f1))) else v ++ [x]) = upd x v := by
  rw [at_pos]
  cases hp : pos x.f0 v with
  | none => rw [if_neg (by simp), upd_none hp]
  | some p =>
    simp only []
    rw [if_pos (by simp), Int.toNat_natCast, upd_some d hp]
/-- All that is there for a worker; for all. -/
def sumw (w : ByteArray) : List K_si → Int
  | [] => 0
  | x :: l => (if x.f0 = w then x.f1 else 0) + sumw w l
def tot : List K_si → Int
  | [] => 0
  | x :: l => x.f1 + tot l
def Pos (l : List K_si) : Prop := ∀ x ∈ l, 0 ≤ x.f1
theorem tot_nonneg : ∀ {l : List K_si}, Pos l → 0 ≤ tot l
  | [], _ => by simp [tot]
  | x :: l, h => by
    have h1 := h x (List.mem_cons_self ..)
    have h2 := tot_nonneg (l := l) fun y hy => h y (List.mem_cons_of_mem _ hy)
    simp only [tot]; omega
theorem look_le {w : ByteArray} : ∀ {l : List K_si}, Pos l → 0 ≤ look w l ∧ look w l ≤ tot l
  | [], _ => by simp [look, tot]
  | x :: l, h => by
    have h1 := h x (List.mem_cons_self ..)
    have hl : Pos l := fun y hy => h y (List.mem_cons_of_mem _ hy)
    have h2 := look_le (w := w) hl
    have h3 := tot_nonneg hl
    simp only [look, tot]; split <;> omega
theorem sumw_le {w : ByteArray} : ∀ {l : List K_si}, Pos l → 0 ≤ sumw w l ∧ sumw w l ≤ tot l
  | [], _ => by simp [sumw, tot]
  | x :: l, h => by
    have h1 := h x (List.mem_cons_self ..)
    have hl : Pos l := fun y hy => h y (List.mem_cons_of_mem _ hy)
    have h2 := sumw_le (w := w) hl
    simp only [sumw, tot]; split <;> omega
theorem upd_ok (x : K_si) (hx : 0 ≤ x.f1) : ∀ {l : List K_si}, Pos l → tot l + x.f1 ≤ 1000000000000 → (∀ w, look w (upd x l) = look w l + (if x.f0 = w then x.f1 else 0)) ∧ Pos (upd x l) ∧ tot (upd x l) = tot l + x.f1
  | [], _, h => by
    refine ⟨fun w => by simp [upd, look], fun y hy => ?_, by simp [upd, tot]⟩
    simp [upd] at hy; subst hy; exact hx
  | y :: l, hp, h => by
    have h1 := hp y (List.mem_cons_self ..)
    have hl : Pos l := fun z hz => hp z (List.mem_cons_of_mem _ hz)
    have h3 := tot_nonneg hl
    simp only [tot] at h
    by_cases hy : y.f0 = x.f0
    · simp only [upd, if_pos hy]
      rw [wrap64 (by omega)]
      refine ⟨fun w => ?_, fun z hz => ?_, by simp only [tot]; omega⟩
      · simp only [look, hy]; split <;> omega
      · rcases List.mem_cons.1 hz with rfl | hz
        · show 0 ≤ y.f1 + x.f1; omega
        · exact hl z hz
    · simp only [upd, if_neg hy]
      obtain ⟨i1, i2, i3⟩ := upd_ok x hx hl (by omega)
      refine ⟨fun w => ?_, fun z hz => ?_, by simp only [tot]; omega⟩
      · simp only [look]
        by_cases hw : y.f0 = w
        · simp only [if_pos hw]
          have : x.f0 ≠ w := fun e => hy (hw.trans e.symm)
          simp [this]
        · simp only [if_neg hw]; exact i1 w
      · rcases List.mem_cons.1 hz with rfl | hz
        · exact h1
        · exact i2 z hz
theorem fold_ok : ∀ {l v : List K_si}, Pos l → Pos v → tot v + tot l ≤ 1000000000000 → (∀ w, look w (l.foldl (fun v x => upd x v) v) = look w v + sumw w l) ∧ Pos (l.foldl (fun v x => upd x v) v) ∧ tot (l.foldl (fun v x => upd x v) v) = tot v + tot l
  | [], v, _, hv, _ => ⟨fun w => by simp [sumw], hv, by simp [tot]⟩
  | x :: l, v, hl, hv, h => by
    simp only [tot] at h
    have hx := hl x (List.mem_cons_self ..)
    have hl' : Pos l := fun z hz => hl z (List.mem_cons_of_mem _ hz)
    have ht := tot_nonneg hl'
    obtain ⟨i1, i2, i3⟩ := upd_ok x hx hv (by omega)
    obtain ⟨j1, j2, j3⟩ := fold_ok (l := l) (v := upd x v) hl' i2 (by omega)
    simp only [List.foldl_cons]
    refine ⟨fun w => ?_, j2, by simp only [tot]; omega⟩
    rw [j1, i1]; simp only [sumw]; omega
theorem tot_le {l : List K_si} {m : Int} (h : ∀ x ∈ l, x.f1 ≤ m) : tot l ≤ m * l.length := by
  induction l with
  | nil => simp [tot]
  | cons x l ih =>
    have h1 := h x (List.mem_cons_self ..)
    have h2 := ih fun y hy => h y (List.mem_cons_of_mem _ hy)
    simp only [tot, List.length_cons]
    rw [show m * ((l.length + 1 : Nat) : Int) = m * l.length + m by rw [Int.natCast_add, Int.mul_add]; simp]
    omega

theorem win_loop (a : List K_si) : ∀ (l : List K_si) (i : Int), (match r78_0 a l i with | .k0 .. => (0 : Int) | .k1 => 5 | .k2 => 3) = 0 → ∀ x ∈ l, m118 x.f0 = true ∧ 1 ≤ x.f1 ∧ x.f1 ≤ 9999
  | [], i, _, x, hx => by cases hx
  | y :: l, i, h, x, hx => by
    simp only [r78_0] at h
    by_cases h1 : (!(m118 y.f0)) = true
    · simp [h1] at h
    · by_cases h2 : (!(m93 y.f1 1 9999)) = true
      · simp [h1, h2] at h
      · simp only [if_neg h1, if_neg h2] at h
        rcases List.mem_cons.1 hx with rfl | hx
        · have h3 : m93 x.f1 1 9999 = true := by simpa using h2
          exact ⟨by simpa using h1, (in_iff _ _ _).1 h3⟩
        · exact win_loop a l (i + 1) h x hx
theorem win_ok {a : List K_si} (h : m78 a = 0) : a.length ≤ 12 ∧ ∀ x ∈ a, m118 x.f0 = true ∧ 1 ≤ x.f1 ∧ x.f1 ≤ 9999 := by
  unfold m78 at h
  split at h
  · cases h
  · rename_i h2
    simp only [decide_eq_true_eq, List.length_map] at h2
    exact ⟨by omega, win_loop a a 0 h⟩
theorem win_pos {a : List K_si} (h : m78 a = 0) : Pos a ∧ tot a ≤ 119988 := by
  obtain ⟨h1, h2⟩ := win_ok h
  refine ⟨fun x hx => by have := h2 x hx; omega, ?_⟩
  have := tot_le (l := a) (m := 9999) fun x hx => (h2 x hx).2.2
  omega


theorem at_loop (a b : List K_si) (w : ByteArray) : ∀ (l : List K_si) (i : Int), (match r150_0 a w l i with | .k0 .. => (-1 : Int) | .k1 z => z) = (match r1015700_0 b w l i with | .k0 .. => (-1 : Int) | .k1 z => z)
  | [], i => rfl
  | x :: l, i => by
    have ih := at_loop a b w l (i + 1)
    simp only [r150_0, r1015700_0]
    by_cases h : (x.f0.toList == w.toList) = true
    · simp only [if_pos h]
    · simp only [if_neg h]; exact ih
theorem atx_eq (a : List K_si) (w : ByteArray) : m150 a w = m1015700 a w := by
  unfold m150 m1015700
  exact at_loop a a w a 0

theorem merge_loop (a b : List K_si) : ∀ (l : List K_si) (i j : Int) (v : List K_si), (match r125_0 a l i v with | .k0 w .. => w) = (match r127_0 b l j v with | .k0 w .. => w)
  | [], i, j, v => rfl
  | x :: l, i, j, v => by
    simp only [r125_0, r127_0, atx_eq]
    by_cases h : decide (m1015700 v x.f0 ≥ 0) = true
    · simp only [if_pos h]; exact merge_loop a b l (i + 1) (j + 1) _
    · simp only [if_neg h]; exact merge_loop a b l (i + 1) (j + 1) _
theorem merge_eq (a : List K_si) : m125 a = m127 a := by
  unfold m125 m127
  exact merge_loop a a a 0 0 []

def part (t A : Int) (x : K_si) : Int := IntKind.wrap .i64 (Int.tdiv (IntKind.wrap .i64 (t * x.f1)) A)
def prt (t A : Int) (x : K_si) : K_si := K_si.mk x.f0 (part t A x)
def rst (t A : Int) (x : K_si) : Int := Int.tmod (IntKind.wrap .i64 (t * x.f1)) A
def lft (t A : Int) (l : List K_si) (v : Int) : Int := l.foldl (fun v x => IntKind.wrap .i64 (v - part t A x)) v
theorem d_loop (t : Int) (a : List K_si) : ∀ (l p : List K_si) (v1 : List Int) (v4 : Int), ∃ j b, r80_0 t a l (p.length : Int) (p ++ l) v1 v4 = .k0 (p ++ l.map (prt t (m128 a))) (v1 ++ l.map (rst t (m128 a))) (lft t (m128 a) l v4) j b
  | [], p, v1, v4 => ⟨_, _, by simp [r80_0, lft]; exact ⟨rfl, rfl⟩⟩
  | x :: l, p, v1, v4 => by
    obtain ⟨j, b, e⟩ := d_loop t a l (p ++ [prt t (m128 a) x]) (v1 ++ [rst t (m128 a) x]) (IntKind.wrap .i64 (v4 - part t (m128 a) x))
    refine ⟨j, b, ?_⟩
    simp only [r80_0]
    have e1 : List.set (p ++ x :: l) (Int.toNat (p.length : Int)) (K_si.mk x.f0 (IntKind.wrap .i64 (Int.tdiv (IntKind.wrap .i64 (t * x.f1)) (m128 a)))) = (p ++ [prt t (m128 a) x]) ++ l := by simp [prt, part]
    rw [e1]
    rw [show (((p ++ [prt t (m128 a) x]).length : Nat) : Int) = (p.length : Int) + 1 by simp] at e
    refine Eq.trans e ?_
    simp only [List.map_cons, List.append_assoc, List.cons_append, List.nil_append, lft, List.foldl_cons]
theorem s_loop (t : Int) (a : List K_si) : ∀ (l : List K_si) (i : Int) (v0 : List K_si) (v1 : List Int) (v4 : Int), ∃ j b, r76_0 t a l i v0 v1 v4 = .k0 (v0 ++ l.map (prt t (m126 (m125 a)))) (v1 ++ l.map (rst t (m126 (m125 a)))) (lft t (m126 (m125 a)) l v4) j b
  | [], i, v0, v1, v4 => ⟨_, _, by simp [r76_0, lft]; exact ⟨rfl, rfl⟩⟩
  | x :: l, i, v0, v1, v4 => by
    obtain ⟨j, b, e⟩ := s_loop t a l (i + 1) (v0 ++ [prt t (m126 (m125 a)) x]) (v1 ++ [rst t (m126 (m125 a)) x]) (IntKind.wrap .i64 (v4 - part t (m126 (m125 a)) x))
    refine ⟨j, b, ?_⟩
    simp only [r76_0]
    refine Eq.trans e ?_
    simp only [List.map_cons, List.append_assoc, List.cons_append, List.nil_append, lft, List.foldl_cons]
def gi (l : List Int) (i : Nat) : Int := List.getD l i 0
/-- The first place of the most, among the first m. -/
def FA (r : List Int) (b m : Nat) : Prop := b < m ∧ (∀ j, j < m → gi r j ≤ gi r b) ∧ ∀ j, j < b → gi r j < gi r b
theorem FA_uniq {r : List Int} {b c m : Nat} (h : FA r b m) (k : FA r c m) : b = c := by
  rcases Nat.lt_trichotomy b c with e | e | e
  · have := k.2.2 b e; have := h.2.1 c k.1; omega
  · exact e
  · have := h.2.2 c e; have := k.2.1 b h.1; omega
theorem best_loop (c1 r : List Int) (hl : r.length = c1.length) (hm : r.length ≤ 1000) : ∀ (n b i : Nat), i + n = r.length → FA r b i → ∃ w j q, r76_2 c1 r n (b : Int) (i : Int) = .k0 (w : Int) j q ∧ ∃ w' : Nat, w = (w' : Int) ∧ FA r w' r.length
  | 0, b, i, h, hf => by
    have : i = r.length := by omega
    subst this
    exact ⟨_, _, _, rfl, b, rfl, hf⟩
  | n + 1, b, i, h, hf => by
    simp only [r76_2]
    rw [if_pos (by simp only [decide_eq_true_eq, List.length_map]; omega), wrap64 (by omega), Int.toNat_natCast, Int.toNat_natCast, show ((i : Int) + 1) = ((i + 1 : Nat) : Int) by omega]
    by_cases hc : (decide (List.getD r i 0 > List.getD r b 0)) = true
    · rw [if_pos hc]
      simp only [decide_eq_true_eq] at hc
      refine best_loop c1 r hl hm n i (i + 1) (by omega) ⟨by omega, fun j hj => ?_, fun j hj => ?_⟩
      · rcases Nat.lt_or_ge j i with hj' | hj'
        · have := hf.2.1 j hj'; unfold gi at *; omega
        · have : j = i := by omega
          subst this; exact Int.le_refl _
      · have := hf.2.1 j hj; unfold gi at *; omega
    · rw [if_neg hc]
      simp only [decide_eq_true_eq] at hc
      refine best_loop c1 r hl hm n b (i + 1) (by omega) ⟨by have := hf.1; omega, fun j hj => ?_, hf.2.2⟩
      rcases Nat.lt_or_ge j i with hj' | hj'
      · exact hf.2.1 j hj'
      · have : j = i := by omega
        subst this; unfold gi; omega
theorem mx_ge_r (a : List Int) (hl : a.length ≤ 1000) : ∀ (n : Nat) (v : Int) (i : Nat), i + n = a.length → (∀ j, j < i → gi a j ≤ v) → ∃ w j b, r130_0 a n v (i : Int) = .k0 w j b ∧ ∀ j, j < a.length → gi a j ≤ w
  | 0, v, i, h, hv => ⟨v, _, _, rfl, fun j hj => hv j (by omega)⟩
  | n + 1, v, i, h, hv => by
    simp only [r130_0]
    rw [if_pos (by simp only [decide_eq_true_eq, List.length_map]; omega), wrap64 (by omega), Int.toNat_natCast, show ((i : Int) + 1) = ((i + 1 : Nat) : Int) by omega]
    refine mx_ge_r a hl n _ (i + 1) (by omega) (fun j hj => ?_)
    have hi : gi a i = List.getD a i 0 := rfl
    rcases Nat.lt_or_ge j i with hj' | hj'
    · have := hv j hj'
      unfold vmax; split <;> omega
    · have : j = i := by omega
      subst this
      unfold vmax; split <;> omega
theorem mx_ge (a : List Int) (h1 : 1 ≤ a.length) (hl : a.length ≤ 1000) : ∀ j, j < a.length → gi a j ≤ m130 a := by
  obtain ⟨w, j, b, e, hw⟩ := mx_ge_r a hl (Int.toNat ((a.length : Int) - 1)) (List.getD a 0 0) 1 (by omega) (fun j hj => by
    have : j = 0 := by omega
    subst this; exact Int.le_refl _)
  unfold m130
  rw [if_neg (by simp only [decide_eq_true_eq, List.length_map]; omega), List.length_map]
  rw [show ((1 : Nat) : Int) = 1 from rfl] at e
  rw [e]; exact hw
theorem ix_first (a : List Int) (x : Int) : ∀ (l p : List Int), p ++ l = a → (∀ j, j < p.length → gi a j ≠ x) → x ∈ l → ∃ w : Nat, r129_0 a x l (p.length : Int) = .k1 (w : Int) ∧ w < a.length ∧ gi a w = x ∧ ∀ j, j < w → gi a j ≠ x
  | [], p, _, _, h => by cases h
  | y :: l, p, hp, hn, h => by
    have hy : gi a p.length = y := by unfold gi; rw [← hp, List.getD_eq_getElem?_getD]; simp
    simp only [r129_0]
    by_cases e : (x == y) = true
    · rw [if_pos e]
      have e2 : x = y := by simpa using e
      exact ⟨p.length, rfl, by rw [← hp]; simp, by rw [hy, e2], hn⟩
    · rw [if_neg e]
      have e2 : ¬ x = y := by simpa using e
      rcases List.mem_cons.1 h with rfl | h
      · exact absurd rfl e2
      · obtain ⟨w, h1, h2, h3, h4⟩ := ix_first a x l (p ++ [y]) (by rw [List.append_assoc]; exact hp) (fun j hj => by
          simp only [List.length_append, List.length_cons, List.length_nil] at hj
          rcases Nat.lt_or_ge j p.length with hj' | hj'
          · exact hn j hj'
          · have : j = p.length := by omega
            subst this; rw [hy]; exact fun e => e2 e.symm) h
        rw [show (((p ++ [y]).length : Nat) : Int) = (p.length : Int) + 1 by simp] at h1
        exact ⟨w, h1, h2, h3, h4⟩
theorem im_first (a : List Int) (h1 : 1 ≤ a.length) (hl : a.length ≤ 1000) : ∃ w : Nat, m129 a (m130 a) = (w : Int) ∧ FA a w a.length := by
  obtain ⟨w, e1, e2, e3, e4⟩ := ix_first a (m130 a) a [] rfl (fun j hj => by simp at hj) (mx_in a h1 hl)
  rw [show (([] : List Int).length : Int) = 0 from rfl] at e1
  refine ⟨w, by unfold m129; rw [e1], e2, fun j hj => by rw [e3]; exact mx_ge a h1 hl j hj, fun j hj => ?_⟩
  have q1 := mx_ge a h1 hl j (by omega)
  have q2 := e4 j hj
  rw [e3]; omega
theorem best_eq (c1 r : List Int) (hl : r.length = c1.length) (h1 : 1 ≤ r.length) (hm : r.length ≤ 1000) : ∃ j q, r76_2 c1 r (Int.toNat (((List.length (List.map d_i c1)) : Int) - 1)) 0 1 = .k0 (m129 r (m130 r)) j q := by
  obtain ⟨w, j, q, e, w', e2, hf⟩ := best_loop c1 r hl hm (Int.toNat (((List.length (List.map d_i c1)) : Int) - 1)) 0 1 (by rw [List.length_map]; omega) ⟨by omega, fun j hj => by
    have : j = 0 := by omega
    subst this; exact Int.le_refl _, fun j hj => by omega⟩
  obtain ⟨k, e3, hk⟩ := im_first r h1 hm
  have : w' = k := FA_uniq hf hk
  rw [show ((0 : Nat) : Int) = 0 from rfl, show ((1 : Nat) : Int) = 1 from rfl] at e
  exact ⟨j, q, by rw [e, e3, e2, this]⟩
theorem loops_eq (c : Int) (c1 : List Int) : ∀ (n : Nat) (i j : Int) (o : List K_si) (r : List Int), r.length = c1.length → 1 ≤ r.length → r.length ≤ 1000 → (match r80_1 c n i o r with | .k0 w .. => w) = (match r76_1 c1 n j o r with | .k0 w .. => w)
  | 0, i, j, o, r, _, _, _ => rfl
  | n + 1, i, j, o, r, hl, h1, hm => by
    obtain ⟨k, q, e⟩ := best_eq c1 r hl h1 hm
    simp only [r80_1, r76_1, e]
    exact loops_eq c c1 n (i + 1) (j - 1) _ _ (by rw [List.length_set]; exact hl) (by rw [List.length_set]; exact h1) (by rw [List.length_set]; exact hm)
theorem tot_eq_r (a : List K_si) : ∀ (l : List K_si) (i v : Int), Pos l → 0 ≤ v → v + tot l ≤ 1000000000000 → ∃ j b, r128_0 a l i v = .k0 (v + tot l) j b
  | [], i, v, _, _, _ => ⟨_, _, by simp [r128_0, tot]; exact ⟨rfl, rfl⟩⟩
  | x :: l, i, v, hp, hv, hb => by
    simp only [tot] at hb
    have hx := hp x (List.mem_cons_self ..)
    have hl : Pos l := fun z hz => hp z (List.mem_cons_of_mem _ hz)
    have ht := tot_nonneg hl
    obtain ⟨j, b, e⟩ := tot_eq_r a l (i + 1) (v + x.f1) hl (by omega) (by omega)
    refine ⟨j, b, ?_⟩
    simp only [r128_0]
    rw [wrap64 (by omega), e]
    simp only [tot]
    congr 1; omega
theorem tot_eq_i (a : List K_si) (hp : Pos a) (h : tot a ≤ 1000000000) : m128 a = tot a := by
  obtain ⟨j, b, e⟩ := tot_eq_r a a 0 0 hp (by omega) (by omega)
  unfold m128; rw [e]; simp
theorem tot_eq_sr (a : List K_si) : ∀ (l : List K_si) (i v : Int), Pos l → 0 ≤ v → v + tot l ≤ 1000000000000 → ∃ j b, r126_0 a l i v = .k0 (v + tot l) j b
  | [], i, v, _, _, _ => ⟨_, _, by simp [r126_0, tot]; exact ⟨rfl, rfl⟩⟩
  | x :: l, i, v, hp, hv, hb => by
    simp only [tot] at hb
    have hx := hp x (List.mem_cons_self ..)
    have hl : Pos l := fun z hz => hp z (List.mem_cons_of_mem _ hz)
    have ht := tot_nonneg hl
    obtain ⟨j, b, e⟩ := tot_eq_sr a l (i + 1) (v + x.f1) hl (by omega) (by omega)
    refine ⟨j, b, ?_⟩
    simp only [r126_0]
    rw [wrap64 (by omega), e]
    simp only [tot]
    congr 1; omega
theorem tot_eq_s (a : List K_si) (hp : Pos a) (h : tot a ≤ 1000000000) : m126 a = tot a := by
  obtain ⟨j, b, e⟩ := tot_eq_sr a a 0 0 hp (by omega) (by omega)
  unfold m126; rw [e]; simp
theorem merge_fold (a : List K_si) : ∀ (l : List K_si) (i : Int) (v : List K_si), ∃ j b, r127_0 a l i v = .k0 (l.foldl (fun v x => upd x v) v) j b
  | [], i, v => ⟨_, _, rfl⟩
  | x :: l, i, v => by
    have e := step_upd (K_si.mk (⟨#[]⟩ : ByteArray) 0) x v
    simp only [r127_0, List.foldl_cons]
    by_cases h : decide (m1015700 v x.f0 ≥ 0) = true
    · rw [if_pos h] at e ⊢; rw [e]; exact merge_fold a l (i + 1) _
    · rw [if_neg h] at e ⊢; rw [e]; exact merge_fold a l (i + 1) _
theorem merge_is (a : List K_si) : m127 a = a.foldl (fun v x => upd x v) [] := by
  obtain ⟨j, b, e⟩ := merge_fold a a 0 []
  unfold m127
  rw [e]
theorem all_eq {a : List K_si} (h : m78 a = 0) : m126 (m125 a) = m128 a ∧ m128 a = tot a ∧ Pos (m127 a) ∧ tot (m127 a) = tot a := by
  obtain ⟨hp, ht⟩ := win_pos h
  obtain ⟨j1, j2, j3⟩ := fold_ok (l := a) (v := []) hp (fun x hx => by cases hx) (by simp only [tot]; omega)
  rw [← merge_is] at j2 j3
  simp only [tot, Int.zero_add] at j3
  rw [merge_eq, tot_eq_s _ j2 (by omega), tot_eq_i _ hp (by omega)]
  exact ⟨j3, rfl, j2, j3⟩
theorem split_eq (t : Int) (a : List K_si) (h : m78 a = 0) (h0 : 0 < a.length) : m76 t a = m80 t a := by
  obtain ⟨hA, _, _, _⟩ := all_eq h
  have hw := win_ok h
  have hne := mne_127 a (fun z hz => (hw.2 z hz).2) hw.1
  have hml := mlen_127 a
  obtain ⟨j, b, e⟩ := d_loop t a (m127 a) [] [] t
  obtain ⟨j2, b2, e2⟩ := s_loop t a (m127 a) 0 [] [] t
  rw [List.nil_append, show (([] : List K_si).length : Int) = 0 from rfl] at e
  unfold m76 m80
  rw [merge_eq] at *
  rw [hA] at e2
  rw [e, e2]
  simp only [List.nil_append]
  exact (loops_eq _ _ _ 0 _ _ _ rfl (by rw [List.length_map]; exact hne.1 h0) (by rw [List.length_map]; omega)).symm

theorem same (t : Int) (a : List K_si) : m30 t a = m28 t a := by
  unfold m30 m28
  rw [window_eq]
  by_cases h : (m74 a != 0) = true
  · rw [if_pos h, if_pos h]
  rw [if_neg h, if_neg h, in_eq]
  by_cases h2 : (!(m113 t 0 1000000)) = true
  · rw [if_pos h2, if_pos h2]
  rw [if_neg h2, if_neg h2]
  by_cases h3 : (((List.length (List.map b_si a)) : Int) == 0) = true
  · rw [if_pos h3, if_pos h3]
  rw [if_neg h3, if_neg h3]
  rw [split_eq t a (by rw [window_eq]; simpa using h) (by simp only [List.length_map, beq_iff_eq] at h3; omega)]
theorem pure (a0 : Int) (a1 : (List K_si)) (w0 : wf_i a0) (w1 : wf_LsiE a1) : m5 a0 a1 = true := by
  have hok := okm30 a0 a1
  simp only [ok_iLsiE] at hok
  have hm0 := mh33 a1 1 (by omega) (by rw [wts_si]; have := w1.1; omega)
  have hm := mh34 (m30 a0 a1) 1 (by omega) (by
    simp only [wt_iLsiE, wts_si]; omega)
  unfold m5
  simp only [← same, eqd32, eqd31, hm.1]
  (repeat' split) <;> (first | rfl | (simp_all; done) | (simp only [decide_eq_true_eq] at *; omega))

end Go.Proofs.YtdnopbpdiineiaaDoor.SplitAmount
