/- The plain law: what the functions compute answers as the statement says. -/
import Derived.Test.YtfmkbpiobddhdaaDoorESplits
import Derived.Test.YtfmkbpiobddhdaaDoorVArgs
namespace Go.Proofs.YtfmkbpiobddhdaaDoor.Splits
open Go Go.Proofs.YtfmkbpiobddhdaaDoor.V
set_option linter.unusedVariables false
set_option maxRecDepth 20000
def wf_y (x : Int) : Prop := (Lit.int .u8 x).wf = true
theorem un_y {bs : List B} (h : Sh.okL [.int .u8] bs) : ∃ x : Int, bs = [(.val (.int .u8 x))] ∧ wf_y x := by
  obtain ⟨b0, m0, rfl, o0, h0⟩ := h
  obtain ⟨x0, rfl, w0⟩ : ∃ z : Int, b0 = .val (.int .u8 z) ∧ (Lit.int .u8 z).wf = true := by
    cases b0 with
    | val v =>
      cases v <;> first | exact o0.elim | (obtain ⟨rfl, w⟩ := o0; exact ⟨_, rfl, w⟩)
    | sl r => exact o0.elim
  obtain rfl := h0
  exact ⟨x0, rfl, w0⟩
theorem uns_y : ∀ {rows : List (List B)}, (∀ r ∈ rows, Sh.okL [.int .u8] r) → ∃ z : List Int, rows = z.map b_y ∧ ∀ u ∈ z, wf_y u
  | [], _ => ⟨[], rfl, fun u h => (by cases h)⟩
  | r :: rows, h => by
    obtain ⟨x, e, w⟩ := un_y (h r (List.mem_cons_self ..))
    obtain ⟨z, rfl, hz⟩ := uns_y (fun r hr => h r (List.mem_cons_of_mem _ hr))
    refine ⟨x :: z, by rw [e]; rfl, fun u hu => ?_⟩
    rcases List.mem_cons.1 hu with rfl | hu
    · exact w
    · exact hz u hu
def wf_LyE (x : (List Int)) : Prop := (x.length * 1 ≤ 140737488351232 ∧ ∀ z ∈ x, wf_y z)
theorem un_LyE {bs : List B} (h : Sh.okL [.sl [.int .u8] 1] bs) : ∃ x : (List Int), bs = [(.sl (List.map b_y x))] ∧ wf_LyE x := by
  obtain ⟨b0, m0, rfl, o0, h0⟩ := h
  obtain ⟨x0, rfl, w0⟩ : ∃ z : (List Int), b0 = .sl (z.map b_y) ∧ z.length * 1 ≤ 140737488351232 ∧ ∀ u ∈ z, wf_y u := by
    cases b0 with
    | val v => cases v <;> exact o0.elim
    | sl r =>
      obtain ⟨z, rfl, hz⟩ := uns_y o0.2
      exact ⟨z, rfl, by simpa using o0.1, hz⟩
  obtain rfl := h0
  exact ⟨x0, rfl, w0⟩
theorem ok_wf_LyE (x : (List Int)) (w : wf_LyE x) : ok_LyE x := w.1
theorem os_wf_LyE (x : (List Int)) (w : wf_LyE x) : os_LyE x := w.1
theorem uns_LyE : ∀ {rows : List (List B)}, (∀ r ∈ rows, Sh.okL [.sl [.int .u8] 1] r) → ∃ z : List (List Int), rows = z.map b_LyE ∧ ∀ u ∈ z, wf_LyE u
  | [], _ => ⟨[], rfl, fun u h => (by cases h)⟩
  | r :: rows, h => by
    obtain ⟨x, e, w⟩ := un_LyE (h r (List.mem_cons_self ..))
    obtain ⟨z, rfl, hz⟩ := uns_LyE (fun r hr => h r (List.mem_cons_of_mem _ hr))
    refine ⟨x :: z, by rw [e]; rfl, fun u hu => ?_⟩
    rcases List.mem_cons.1 hu with rfl | hu
    · exact w
    · exact hz u hu
theorem in_iff (a b c : Int) : m93 a b c = true ↔ b ≤ a ∧ a ≤ c := by
  unfold m93; split <;> simp_all <;> omega
theorem l1In_iff (a b c : Int) : m110 a b c = true ↔ b ≤ a ∧ a ≤ c := by
  unfold m110; split <;> simp_all <;> omega
theorem in_eq (a b c : Int) : m93 a b c = m110 a b c := by
  rw [Bool.eq_iff_iff, in_iff, l1In_iff]

theorem letter_iff (c : Int) : m171 c = true ↔ (97 ≤ c ∧ c ≤ 122) ∨ (65 ≤ c ∧ c ≤ 90) ∨ (48 ≤ c ∧ c ≤ 57) := by
  unfold m171
  (repeat' split) <;> simp_all <;> omega
def signs : ByteArray := ⟨#[97, 98, 99, 100, 101, 102, 103, 104, 105, 106, 107, 108, 109, 110, 111, 112, 113, 114, 115, 116, 117, 118, 119, 120, 121, 122, 65, 66, 67, 68, 69, 70, 71, 72, 73, 74, 75, 76, 77, 78, 79, 80, 81, 82, 83, 84, 85, 86, 87, 88, 89, 90, 48, 49, 50, 51, 52, 53, 54, 55, 56, 57]⟩
theorem signs_iff (b : UInt8) : signs.data.toList.contains b = m171 (b.toNat : Int) := by
  have key : ∀ n : Fin 256, signs.data.toList.contains (UInt8.ofNat n.val) = m171 ((UInt8.ofNat n.val).toNat : Int) := by decide +kernel
  have := key ⟨b.toNat, b.toNat_lt⟩
  simpa using this
theorem dw_bad {p : UInt8 → Bool} {b : UInt8} (hp : p b = false) : ∀ {l : List UInt8}, b ∈ l → b ∈ l.dropWhile p
  | x :: l, h => by
    simp only [List.dropWhile]
    cases hx : p x with
    | true =>
      rcases List.mem_cons.1 h with rfl | h
      · rw [hp] at hx; cases hx
      · exact dw_bad hp h
    | false => exact h
theorem dw_nil {p : UInt8 → Bool} : ∀ {l : List UInt8}, (∀ b ∈ l, p b = true) → l.dropWhile p = []
  | [], _ => rfl
  | x :: l, h => by
    simp only [List.dropWhile, h x (List.mem_cons_self ..)]
    exact dw_nil fun b hb => h b (List.mem_cons_of_mem _ hb)
theorem trim_nil (l cs : List UInt8) : Lib.trimS l cs = [] ↔ ∀ b ∈ l, cs.contains b = true := by
  unfold Lib.trimS Lib.trimLeftS Lib.trimRightS
  constructor
  · intro h b hb
    cases hc : cs.contains b with
    | true => rfl
    | false =>
      have h1 := dw_bad (p := (cs.contains ·)) hc (List.mem_reverse.2 hb)
      have h2 := dw_bad (p := (cs.contains ·)) hc (List.mem_reverse.2 h1)
      rw [h] at h2; cases h2
  · intro h
    rw [dw_nil (p := (cs.contains ·)) (l := l.reverse) fun b hb => h b (List.mem_reverse.1 hb)]
    rfl
theorem byteAt_nat (s : ByteArray) (i : Nat) (h : i < s.size) : byteAt s (i : Int) = ((s.data.toList[i]'(by simpa using h)).toNat : Int) := by
  unfold byteAt
  rw [Int.toNat_natCast, List.getElem?_eq_getElem (by simpa using h)]
  rfl
theorem arg_loop (s : ByteArray) : ∀ (n i : Nat), i + n = s.size → (r154_0 s n (i : Int) = .k1 ∧ ∃ b ∈ s.data.toList.drop i, m171 (b.toNat : Int) = false) ∨ (∃ w b, r154_0 s n (i : Int) = .k0 w b ∧ ∀ b ∈ s.data.toList.drop i, m171 (b.toNat : Int) = true)
  | 0, i, h => .inr ⟨_, _, rfl, fun b hb => by
      rw [List.drop_eq_nil_of_le (by show s.data.toList.length ≤ i; rw [Array.length_toList]; have : s.data.size = s.size := rfl; omega)] at hb; cases hb⟩
  | n + 1, i, h => by
    have hi : i < s.size := by omega
    have hl : i < s.data.toList.length := by simpa using hi
    rw [List.drop_eq_getElem_cons hl]
    generalize hx : s.data.toList[i] = x
    simp only [r154_0]
    rw [byteAt_nat s i hi, hx]
    by_cases hc : m171 (x.toNat : Int) = true
    · rw [if_neg (by simp [hc])]
      have ih := arg_loop s n (i + 1) (by omega)
      rw [show ((i : Int) + 1) = ((i + 1 : Nat) : Int) by omega]
      rcases ih with ⟨h1, b, h2, h3⟩ | ⟨w, b, h1, h2⟩
      · exact .inl ⟨h1, b, List.mem_cons_of_mem _ h2, h3⟩
      · refine .inr ⟨w, b, h1, fun c hcm => ?_⟩
        rcases List.mem_cons.1 hcm with rfl | hcm
        · exact hc
        · exact h2 c hcm
    · have hf : m171 (x.toNat : Int) = false := by simpa using hc
      rw [if_pos (by simp [hf])]
      exact .inl ⟨rfl, _, List.mem_cons_self .., hf⟩
theorem arg_eq (s : ByteArray) : m155 s = m154 s := by
  have ht : ((trimB s signs).toList == (⟨#[]⟩ : ByteArray).toList) = decide (∀ b ∈ s.data.toList, m171 (b.toNat : Int) = true) := by
    rw [ba_eq, Bool.eq_iff_iff, decide_eq_true_eq, decide_eq_true_eq]
    have : trimB s signs = ⟨#[]⟩ ↔ Lib.trimS s.data.toList signs.data.toList = [] := by
      unfold trimB
      constructor
      · intro h; injection h with h; simpa using congrArg Array.toList h
      · intro h; rw [h]
    rw [this, trim_nil]
    constructor
    · intro h b hb; rw [← signs_iff]; exact h b hb
    · intro h b hb; rw [signs_iff]; exact h b hb
  have hl := arg_loop s s.size 0 (by omega)
  rw [List.drop_zero] at hl
  unfold m155 m154
  rw [show (⟨#[97, 98, 99, 100, 101, 102, 103, 104, 105, 106, 107, 108, 109, 110, 111, 112, 113, 114, 115, 116, 117, 118, 119, 120, 121, 122, 65, 66, 67, 68, 69, 70, 71, 72, 73, 74, 75, 76, 77, 78, 79, 80, 81, 82, 83, 84, 85, 86, 87, 88, 89, 90, 48, 49, 50, 51, 52, 53, 54, 55, 56, 57]⟩ : ByteArray) = signs from rfl, ht]
  rw [Int.toNat_natCast, show (0 : Int) = ((0 : Nat) : Int) from rfl]
  rcases hl with ⟨h1, b, h2, h3⟩ | ⟨w, b, h1, h2⟩
  · rw [h1]
    have : ¬ ∀ b ∈ s.data.toList, m171 (b.toNat : Int) = true := fun h => by rw [h b h2] at h3; cases h3
    rw [decide_eq_false this]
    simp only []
    split <;> rfl
  · rw [h1, decide_eq_true h2]
    simp only []
    cases decide ((s.size : Int) ≤ 12) <;> rfl

theorem one_eq (x : K_si) : m109 x = (if (!(m113 x.f0)) = true then 5 else if (!(m93 x.f1 1 9999)) = true then 3 else 0) := by
  unfold m109 m113
  rw [in_eq, arg_eq]
  generalize (x.f0.toList == (⟨#[]⟩ : ByteArray).toList) = A
  generalize m154 x.f0 = B
  cases A <;> cases B <;> rfl
theorem window_loop (a b : List K_si) : ∀ (l : List K_si) (i j : Int), (match r46_0 a l i with | .k0 .. => (0 : Int) | .k1 => 5 | .k2 => 3) = (match r107_0 b l j with | .k0 .. => 0 | .k1 w => w)
  | [], i, j => rfl
  | x :: l, i, j => by
    have ih := window_loop a b l (i + 1) (j + 1)
    simp only [r46_0, r107_0, one_eq]
    by_cases h1 : (!(m113 x.f0)) = true
    · simp [h1]
    · by_cases h2 : (!(m93 x.f1 1 9999)) = true
      · simp [h1, h2]
      · simp only [if_neg h1, if_neg h2]; simpa using ih
theorem window_eq (a : List K_si) : m46 a = m107 a := by
  unfold m46 m107
  split
  · rfl
  · exact window_loop a a a 0 0

/-- The first place of a worker. -/
def pos (w : ByteArray) : List K_si → Option Nat
  | [] => none
  | x :: l => if x.f0 = w then some 0 else (pos w l).map (· + 1)
theorem at_pos_loop (a : List K_si) (w : ByteArray) : ∀ (l : List K_si) (i : Int), (match r1014700_0 a w l i with | .k0 .. => (-1 : Int) | .k1 z => z) = (match pos w l with | none => (-1 : Int) | some p => i + p)
  | [], i => rfl
  | x :: l, i => by
    have ih := at_pos_loop a w l (i + 1)
    simp only [r1014700_0, pos, ba_eq]
    by_cases h : x.f0 = w
    · simp [h]
    · simp only [h, decide_false, if_false]
      rw [if_neg (by simp), ih]
      cases pos w l with
      | none => rfl
      | some p => show (i + 1 + (p : Int)) = i + ((p + 1 : Nat) : Int); omega
theorem at_pos (a : List K_si) (w : ByteArray) : m1014700 a w = (match pos w a with | none => (-1 : Int) | some p => (p : Int)) := by
  unfold m1014700
  refine (at_pos_loop a w a 0).trans ?_
  cases pos w a <;> simp
theorem pos_lt {w : ByteArray} : ∀ {l : List K_si} {p : Nat}, pos w l = some p → p < l.length
  | [], p, h => by cases h
  | x :: l, p, h => by
    simp only [pos] at h
    split at h
    · injection h with h; subst h; simp
    · cases hp : pos w l with
      | none => rw [hp] at h; cases h
      | some q => rw [hp] at h; injection h with h; subst h; have := pos_lt hp; simp; omega
/-- What a list owes to a worker. -/
def look (w : ByteArray) : List K_si → Int
  | [] => 0
  | x :: l => if x.f0 = w then x.f1 else look w l
theorem look_pos (d : K_si) {w : ByteArray} : ∀ {l : List K_si}, look w l = (match pos w l with | none => 0 | some p => (List.getD l p d).f1)
  | [] => rfl
  | x :: l => by
    simp only [look, pos]
    split
    · rfl
    · rw [look_pos d (l := l)]
      cases pos w l <;> rfl
theorem pos_at (d : K_si) {w : ByteArray} : ∀ {l : List K_si} {p : Nat}, pos w l = some p → (List.getD l p d).f0 = w
  | [], p, h => by cases h
  | x :: l, p, h => by
    simp only [pos] at h
    split at h
    · injection h with h; subst h; assumption
    · cases hp : pos w l with
      | none => rw [hp] at h; cases h
      | some q => rw [hp] at h; injection h with h; subst h; show (List.getD l q d).f0 = w; exact pos_at d hp
/-- A worker gets more. -/
def upd (x : K_si) : List K_si → List K_si
  | [] => [x]
  | y :: l => if y.f0 = x.f0 then K_si.mk y.f0 (IntKind.wrap .i64 (y.f1 + x.f1)) :: l else y :: upd x l
theorem upd_none {x : K_si} : ∀ {l : List K_si}, pos x.f0 l = none → upd x l = l ++ [x]
  | [], _ => rfl
  | y :: l, h => by
    simp only [pos] at h
    split at h
    · cases h
    · rename_i hy
      simp only [upd, if_neg hy, List.cons_append]
      rw [upd_none (l := l) (by cases hp : pos x.f0 l <;> simp_all)]
theorem upd_some (d : K_si) {x : K_si} : ∀ {l : List K_si} {p : Nat}, pos x.f0 l = some p → upd x l = List.set l p (K_si.mk (List.getD l p d).f0 (IntKind.wrap .i64 ((List.getD l p d).f1 + x.f1)))
  | [], p, h => by cases h
  | y :: l, p, h => by
    simp only [pos] at h
    split at h
    · rename_i hy
      injection h with h; subst h
      simp only [upd, if_pos hy]; rfl
    · rename_i hy
      cases hp : pos x.f0 l with
      | none => rw [hp] at h; cases h
      | some q =>
        rw [hp] at h; injection h with h; subst h
        simp only [upd, if_neg hy]
        rw [upd_some d hp]; rfl
theorem step_upd (d x : K_si) (v : List K_si) : (if decide (m1014700 v x.f0 ≥ 0) = true then List.set v (Int.toNat (m1014700 v x.f0)) (K_si.mk ((List.getD v (Int.toNat (m1014700 v x.f0)) d).f0) (IntKind.wrap .i64 (((List.getD v (Int.toNat (m1014700 v x.f0)) d).f1) + x.f1))) else v ++ [x]) = upd x v := by
  rw [at_pos]
  cases hp : pos x.f0 v with
  | none => rw [if_neg (by simp), upd_none hp]
  | some p =>
    simp only []
    rw [if_pos (by simp), Int.toNat_natCast, upd_some d hp]
/-- All that is there for a worker; for all. -/
def sumw (w : ByteArray) : List K_si → Int
  | [] => 0
  | x :: l => (if x.f0 = w then x.f1 else 0) + sumw w l
def tot : List K_si → Int
  | [] => 0
  | x :: l => x.f1 + tot l
def Pos (l : List K_si) : Prop := ∀ x ∈ l, 0 ≤ x.f1
theorem tot_nonneg : ∀ {l : List K_si}, Pos l → 0 ≤ tot l
  | [], _ => by simp [tot]
  | x :: l, h => by
    have h1 := h x (List.mem_cons_self ..)
    have h2 := tot_nonneg (l := l) fun y hy => h y (List.mem_cons_of_mem _ hy)
    simp only [tot]; omega
theorem look_le {w : ByteArray} : ∀ {l : List K_si}, Pos l → 0 ≤ look w l ∧ look w l ≤ tot l
  | [], _ => by simp [look, tot]
  | x :: l, h => by
    have h1 := h x (List.mem_cons_self ..)
    have hl : Pos l := fun y hy => h y (List.mem_cons_of_mem _ hy)
    have h2 := look_le (w := w) hl
    have h3 := tot_nonneg hl
    simp only [look, tot]; split <;> omega
theorem sumw_le {w : ByteArray} : ∀ {l : List K_si}, Pos l → 0 ≤ sumw w l ∧ sumw w l ≤ tot l
  | [], _ => by simp [sumw, tot]
  | x :: l, h => by
    have h1 := h x (List.mem_cons_self ..)
    have hl : Pos l := fun y hy => h y (List.mem_cons_of_mem _ hy)
    have h2 := sumw_le (w := w) hl
    simp only [sumw, tot]; split <;> omega
theorem upd_ok (x : K_si) (hx : 0 ≤ x.f1) : ∀ {l : List K_si}, Pos l → tot l + x.f1 ≤ 1000000000000 → (∀ w, look w (upd x l) = look w l + (if x.f0 = w then x.f1 else 0)) ∧ Pos (upd x l) ∧ tot (upd x l) = tot l + x.f1
  | [], _, h => by
    refine ⟨fun w => by simp [upd, look], fun y hy => ?_, by simp [upd, tot]⟩
    simp [upd] at hy; subst hy; exact hx
  | y :: l, hp, h => by
    have h1 := hp y (List.mem_cons_self ..)
    have hl : Pos l := fun z hz => hp z (List.mem_cons_of_mem _ hz)
    have h3 := tot_nonneg hl
    simp only [tot] at h
    by_cases hy : y.f0 = x.f0
    · simp only [upd, if_pos hy]
      rw [wrap64 (by omega)]
      refine ⟨fun w => ?_, fun z hz => ?_, by simp only [tot]; omega⟩
      · simp only [look, hy]; split <;> omega
      · rcases List.mem_cons.1 hz with rfl | hz
        · show 0 ≤ y.f1 + x.f1; omega
        · exact hl z hz
    · simp only [upd, if_neg hy]
      obtain ⟨i1, i2, i3⟩ := upd_ok x hx hl (by omega)
      refine ⟨fun w => ?_, fun z hz => ?_, by simp only [tot]; omega⟩
      · simp only [look]
        by_cases hw : y.f0 = w
        · simp only [if_pos hw]
          have : x.f0 ≠ w := fun e => hy (hw.trans e.symm)
          simp [this]
        · simp only [if_neg hw]; exact i1 w
      · rcases List.mem_cons.1 hz with rfl | hz
        · exact h1
        · exact i2 z hz
theorem fold_ok : ∀ {l v : List K_si}, Pos l → Pos v → tot v + tot l ≤ 1000000000000 → (∀ w, look w (l.foldl (fun v x => upd x v) v) = look w v + sumw w l) ∧ Pos (l.foldl (fun v x => upd x v) v) ∧ tot (l.foldl (fun v x => upd x v) v) = tot v + tot l
  | [], v, _, hv, _ => ⟨fun w => by simp [sumw], hv, by simp [tot]⟩
  | x :: l, v, hl, hv, h => by
    simp only [tot] at h
    have hx := hl x (List.mem_cons_self ..)
    have hl' : Pos l := fun z hz => hl z (List.mem_cons_of_mem _ hz)
    have ht := tot_nonneg hl'
    obtain ⟨i1, i2, i3⟩ := upd_ok x hx hv (by omega)
    obtain ⟨j1, j2, j3⟩ := fold_ok (l := l) (v := upd x v) hl' i2 (by omega)
    simp only [List.foldl_cons]
    refine ⟨fun w => ?_, j2, by simp only [tot]; omega⟩
    rw [j1, i1]; simp only [sumw]; omega
theorem tot_le {l : List K_si} {m : Int} (h : ∀ x ∈ l, x.f1 ≤ m) : tot l ≤ m * l.length := by
  induction l with
  | nil => simp [tot]
  | cons x l ih =>
    have h1 := h x (List.mem_cons_self ..)
    have h2 := ih fun y hy => h y (List.mem_cons_of_mem _ hy)
    simp only [tot, List.length_cons]
    rw [show m * ((l.length + 1 : Nat) : Int) = m * l.length + m by rw [Int.natCast_add, Int.mul_add]; simp]
    omega

theorem win_loop (a : List K_si) : ∀ (l : List K_si) (i : Int), (match r46_0 a l i with | .k0 .. => (0 : Int) | .k1 => 5 | .k2 => 3) = 0 → ∀ x ∈ l, m113 x.f0 = true ∧ 1 ≤ x.f1 ∧ x.f1 ≤ 9999
  | [], i, _, x, hx => by cases hx
  | y :: l, i, h, x, hx => by
    simp only [r46_0] at h
    by_cases h1 : (!(m113 y.f0)) = true
    · simp [h1] at h
    · by_cases h2 : (!(m93 y.f1 1 9999)) = true
      · simp [h1, h2] at h
      · simp only [if_neg h1, if_neg h2] at h
        rcases List.mem_cons.1 hx with rfl | hx
        · have h3 : m93 x.f1 1 9999 = true := by simpa using h2
          exact ⟨by simpa using h1, (in_iff _ _ _).1 h3⟩
        · exact win_loop a l (i + 1) h x hx
theorem win_ok {a : List K_si} (h : m46 a = 0) : a.length ≤ 12 ∧ ∀ x ∈ a, m113 x.f0 = true ∧ 1 ≤ x.f1 ∧ x.f1 ≤ 9999 := by
  unfold m46 at h
  split at h
  · cases h
  · rename_i h2
    simp only [decide_eq_true_eq, List.length_map] at h2
    exact ⟨by omega, win_loop a a 0 h⟩
theorem win_pos {a : List K_si} (h : m46 a = 0) : Pos a ∧ tot a ≤ 119988 := by
  obtain ⟨h1, h2⟩ := win_ok h
  refine ⟨fun x hx => by have := h2 x hx; omega, ?_⟩
  have := tot_le (l := a) (m := 9999) fun x hx => (h2 x hx).2.2
  omega


theorem at_loop (a b : List K_si) (w : ByteArray) : ∀ (l : List K_si) (i : Int), (match r79_0 a w l i with | .k0 .. => (-1 : Int) | .k1 z => z) = (match r1014700_0 b w l i with | .k0 .. => (-1 : Int) | .k1 z => z)
  | [], i => rfl
  | x :: l, i => by
    have ih := at_loop a b w l (i + 1)
    simp only [r79_0, r1014700_0]
    by_cases h : (x.f0.toList == w.toList) = true
    · simp only [if_pos h]
    · simp only [if_neg h]; exact ih
theorem atx_eq (a : List K_si) (w : ByteArray) : m79 a w = m1014700 a w := by
  unfold m79 m1014700
  exact at_loop a a w a 0

theorem merge_loop (a b : List K_si) : ∀ (l : List K_si) (i j : Int) (v : List K_si), (match r108_0 a l i v with | .k0 w .. => w) = (match r112_0 b l j v with | .k0 w .. => w)
  | [], i, j, v => rfl
  | x :: l, i, j, v => by
    simp only [r108_0, r112_0, atx_eq]
    by_cases h : decide (m1014700 v x.f0 ≥ 0) = true
    · simp only [if_pos h]; exact merge_loop a b l (i + 1) (j + 1) _
    · simp only [if_neg h]; exact merge_loop a b l (i + 1) (j + 1) _
theorem merge_eq (a : List K_si) : m108 a = m112 a := by
  unfold m108 m112
  exact merge_loop a a a 0 0 []

def part (t A : Int) (x : K_si) : Int := IntKind.wrap .i64 (Int.tdiv (IntKind.wrap .i64 (t * x.f1)) A)
def prt (t A : Int) (x : K_si) : K_si := K_si.mk x.f0 (part t A x)
def rst (t A : Int) (x : K_si) : Int := Int.tmod (IntKind.wrap .i64 (t * x.f1)) A
def lft (t A : Int) (l : List K_si) (v : Int) : Int := l.foldl (fun v x => IntKind.wrap .i64 (v - part t A x)) v
theorem d_loop (t : Int) (a : List K_si) : ∀ (l p : List K_si) (v1 : List Int) (v4 : Int), ∃ j b, r101_0 t a l (p.length : Int) (p ++ l) v1 v4 = .k0 (p ++ l.map (prt t (m75 a))) (v1 ++ l.map (rst t (m75 a))) (lft t (m75 a) l v4) j b
  | [], p, v1, v4 => ⟨_, _, by simp [r101_0, lft]; exact ⟨rfl, rfl⟩⟩
  | x :: l, p, v1, v4 => by
    obtain ⟨j, b, e⟩ := d_loop t a l (p ++ [prt t (m75 a) x]) (v1 ++ [rst t (m75 a) x]) (IntKind.wrap .i64 (v4 - part t (m75 a) x))
    refine ⟨j, b, ?_⟩
    simp only [r101_0]
    have e1 : List.set (p ++ x :: l) (Int.toNat (p.length : Int)) (K_si.mk x.f0 (IntKind.wrap .i64 (Int.tdiv (IntKind.wrap .i64 (t * x.f1)) (m75 a)))) = (p ++ [prt t (m75 a) x]) ++ l := by simp [prt, part]
    rw [e1]
    rw [show (((p ++ [prt t (m75 a) x]).length : Nat) : Int) = (p.length : Int) + 1 by simp] at e
    refine Eq.trans e ?_
    simp only [List.map_cons, List.append_assoc, List.cons_append, List.nil_append, lft, List.foldl_cons]
theorem s_loop (t : Int) (a : List K_si) : ∀ (l : List K_si) (i : Int) (v0 : List K_si) (v1 : List Int) (v4 : Int), ∃ j b, r116_0 t a l i v0 v1 v4 = .k0 (v0 ++ l.map (prt t (m134 (m108 a)))) (v1 ++ l.map (rst t (m134 (m108 a)))) (lft t (m134 (m108 a)) l v4) j b
  | [], i, v0, v1, v4 => ⟨_, _, by simp [r116_0, lft]; exact ⟨rfl, rfl⟩⟩
  | x :: l, i, v0, v1, v4 => by
    obtain ⟨j, b, e⟩ := s_loop t a l (i + 1) (v0 ++ [prt t (m134 (m108 a)) x]) (v1 ++ [rst t (m134 (m108 a)) x]) (IntKind.wrap .i64 (v4 - part t (m134 (m108 a)) x))
    refine ⟨j, b, ?_⟩
    simp only [r116_0]
    refine Eq.trans e ?_
    simp only [List.map_cons, List.append_assoc, List.cons_append, List.nil_append, lft, List.foldl_cons]
def gi (l : List Int) (i : Nat) : Int := List.getD l i 0
/-- The first place of the most, among the first m. -/
def FA (r : List Int) (b m : Nat) : Prop := b < m ∧ (∀ j, j < m → gi r j ≤ gi r b) ∧ ∀ j, j < b → gi r j < gi r b
theorem FA_uniq {r : List Int} {b c m : Nat} (h : FA r b m) (k : FA r c m) : b = c := by
  rcases Nat.lt_trichotomy b c with e | e | e
  · have := k.2.2 b e; have := h.2.1 c k.1; omega
  · exact e
  · have := h.2.2 c e; have := k.2.1 b h.1; omega
theorem best_loop (c1 r : List Int) (hl : r.length = c1.length) (hm : r.length ≤ 1000) : ∀ (n b i : Nat), i + n = r.length → FA r b i → ∃ w j q, r116_2 c1 r n (b : Int) (i : Int) = .k0 (w : Int) j q ∧ ∃ w' : Nat, w = (w' : Int) ∧ FA r w' r.length
  | 0, b, i, h, hf => by
    have : i = r.length := by omega
    subst this
    exact ⟨_, _, _, rfl, b, rfl, hf⟩
  | n + 1, b, i, h, hf => by
    simp only [r116_2]
    rw [if_pos (by simp only [decide_eq_true_eq, List.length_map]; omega), wrap64 (by omega), Int.toNat_natCast, Int.toNat_natCast, show ((i : Int) + 1) = ((i + 1 : Nat) : Int) by omega]
    by_cases hc : (decide (List.getD r i 0 > List.getD r b 0)) = true
    · rw [if_pos hc]
      simp only [decide_eq_true_eq] at hc
      refine best_loop c1 r hl hm n i (i + 1) (by omega) ⟨by omega, fun j hj => ?_, fun j hj => ?_⟩
      · rcases Nat.lt_or_ge j i with hj' | hj'
        · have := hf.2.1 j hj'; unfold gi at *; omega
        · have : j = i := by omega
          subst this; exact Int.le_refl _
      · have := hf.2.1 j hj; unfold gi at *; omega
    · rw [if_neg hc]
      simp only [decide_eq_true_eq] at hc
      refine best_loop c1 r hl hm n b (i + 1) (by omega) ⟨by have := hf.1; omega, fun j hj => ?_, hf.2.2⟩
      rcases Nat.lt_or_ge j i with hj' | hj'
      · exact hf.2.1 j hj'
      · have : j = i := by omega
        subst this; unfold gi; omega
theorem mx_ge_r (a : List Int) (hl : a.length ≤ 1000) : ∀ (n : Nat) (v : Int) (i : Nat), i + n = a.length → (∀ j, j < i → gi a j ≤ v) → ∃ w j b, r152_0 a n v (i : Int) = .k0 w j b ∧ ∀ j, j < a.length → gi a j ≤ w
  | 0, v, i, h, hv => ⟨v, _, _, rfl, fun j hj => hv j (by omega)⟩
  | n + 1, v, i, h, hv => by
    simp only [r152_0]
    rw [if_pos (by simp only [decide_eq_true_eq, List.length_map]; omega), wrap64 (by omega), Int.toNat_natCast, show ((i : Int) + 1) = ((i + 1 : Nat) : Int) by omega]
    refine mx_ge_r a hl n _ (i + 1) (by omega) (fun j hj => ?_)
    have hi : gi a i = List.getD a i 0 := rfl
    rcases Nat.lt_or_ge j i with hj' | hj'
    · have := hv j hj'
      unfold vmax; split <;> omega
    · have : j = i := by omega
      subst this
      unfold vmax; split <;> omega
theorem mx_ge (a : List Int) (h1 : 1 ≤ a.length) (hl : a.length ≤ 1000) : ∀ j, j < a.length → gi a j ≤ m152 a := by
  obtain ⟨w, j, b, e, hw⟩ := mx_ge_r a hl (Int.toNat ((a.length : Int) - 1)) (List.getD a 0 0) 1 (by omega) (fun j hj => by
    have : j = 0 := by omega
    subst this; exact Int.le_refl _)
  unfold m152
  rw [if_neg (by simp only [decide_eq_true_eq, List.length_map]; omega), List.length_map]
  rw [show ((1 : Nat) : Int) = 1 from rfl] at e
  rw [e]; exact hw
theorem ix_first (a : List Int) (x : Int) : ∀ (l p : List Int), p ++ l = a → (∀ j, j < p.length → gi a j ≠ x) → x ∈ l → ∃ w : Nat, r151_0 a x l (p.length : Int) = .k1 (w : Int) ∧ w < a.length ∧ gi a w = x ∧ ∀ j, j < w → gi a j ≠ x
  | [], p, _, _, h => by cases h
  | y :: l, p, hp, hn, h => by
    have hy : gi a p.length = y := by unfold gi; rw [← hp, List.getD_eq_getElem?_getD]; simp
    simp only [r151_0]
    by_cases e : (x == y) = true
    · rw [if_pos e]
      have e2 : x = y := by simpa using e
      exact ⟨p.length, rfl, by rw [← hp]; simp, by rw [hy, e2], hn⟩
    · rw [if_neg e]
      have e2 : ¬ x = y := by simpa using e
      rcases List.mem_cons.1 h with rfl | h
      · exact absurd rfl e2
      · obtain ⟨w, h1, h2, h3, h4⟩ := ix_first a x l (p ++ [y]) (by rw [List.append_assoc]; exact hp) (fun j hj => by
          simp only [List.length_append, List.length_cons, List.length_nil] at hj
          rcases Nat.lt_or_ge j p.length with hj' | hj'
          · exact hn j hj'
          · have : j = p.length := by omega
            subst this; rw [hy]; exact fun e => e2 e.symm) h
        rw [show (((p ++ [y]).length : Nat) : Int) = (p.length : Int) + 1 by simp] at h1
        exact ⟨w, h1, h2, h3, h4⟩
theorem im_first (a : List Int) (h1 : 1 ≤ a.length) (hl : a.length ≤ 1000) : ∃ w : Nat, m151 a (m152 a) = (w : Int) ∧ FA a w a.length := by
  obtain ⟨w, e1, e2, e3, e4⟩ := ix_first a (m152 a) a [] rfl (fun j hj => by simp at hj) (mx_in a h1 hl)
  rw [show (([] : List Int).length : Int) = 0 from rfl] at e1
  refine ⟨w, by unfold m151; rw [e1], e2, fun j hj => by rw [e3]; exact mx_ge a h1 hl j hj, fun j hj => ?_⟩
  have q1 := mx_ge a h1 hl j (by omega)
  have q2 := e4 j hj
  rw [e3]; omega
theorem best_eq (c1 r : List Int) (hl : r.length = c1.length) (h1 : 1 ≤ r.length) (hm : r.length ≤ 1000) : ∃ j q, r116_2 c1 r (Int.toNat (((List.length (List.map d_i c1)) : Int) - 1)) 0 1 = .k0 (m151 r (m152 r)) j q := by
  obtain ⟨w, j, q, e, w', e2, hf⟩ := best_loop c1 r hl hm (Int.toNat (((List.length (List.map d_i c1)) : Int) - 1)) 0 1 (by rw [List.length_map]; omega) ⟨by omega, fun j hj => by
    have : j = 0 := by omega
    subst this; exact Int.le_refl _, fun j hj => by omega⟩
  obtain ⟨k, e3, hk⟩ := im_first r h1 hm
  have : w' = k := FA_uniq hf hk
  rw [show ((0 : Nat) : Int) = 0 from rfl, show ((1 : Nat) : Int) = 1 from rfl] at e
  exact ⟨j, q, by rw [e, e3, e2, this]⟩
theorem loops_eq (c : Int) (c1 : List Int) : ∀ (n : Nat) (i j : Int) (o : List K_si) (r : List Int), r.length = c1.length → 1 ≤ r.length → r.length ≤ 1000 → (match r101_1 c n i o r with | .k0 w .. => w) = (match r116_1 c1 n j o r with | .k0 w .. => w)
  | 0, i, j, o, r, _, _, _ => rfl
  | n + 1, i, j, o, r, hl, h1, hm => by
    obtain ⟨k, q, e⟩ := best_eq c1 r hl h1 hm
    simp only [r101_1, r116_1, e]
    exact loops_eq c c1 n (i + 1) (j - 1) _ _ (by rw [List.length_set]; exact hl) (by rw [List.length_set]; exact h1) (by rw [List.length_set]; exact hm)
theorem tot_eq_r (a : List K_si) : ∀ (l : List K_si) (i v : Int), Pos l → 0 ≤ v → v + tot l ≤ 1000000000000 → ∃ j b, r75_0 a l i v = .k0 (v + tot l) j b
  | [], i, v, _, _, _ => ⟨_, _, by simp [r75_0, tot]; exact ⟨rfl, rfl⟩⟩
  | x :: l, i, v, hp, hv, hb => by
    simp only [tot] at hb
    have hx := hp x (List.mem_cons_self ..)
    have hl : Pos l := fun z hz => hp z (List.mem_cons_of_mem _ hz)
    have ht := tot_nonneg hl
    obtain ⟨j, b, e⟩ := tot_eq_r a l (i + 1) (v + x.f1) hl (by omega) (by omega)
    refine ⟨j, b, ?_⟩
    simp only [r75_0]
    rw [wrap64 (by omega), e]
    simp only [tot]
    congr 1; omega
theorem tot_eq_i (a : List K_si) (hp : Pos a) (h : tot a ≤ 1000000000) : m75 a = tot a := by
  obtain ⟨j, b, e⟩ := tot_eq_r a a 0 0 hp (by omega) (by omega)
  unfold m75; rw [e]; simp
theorem tot_eq_sr (a : List K_si) : ∀ (l : List K_si) (i v : Int), Pos l → 0 ≤ v → v + tot l ≤ 1000000000000 → ∃ j b, r134_0 a l i v = .k0 (v + tot l) j b
  | [], i, v, _, _, _ => ⟨_, _, by simp [r134_0, tot]; exact ⟨rfl, rfl⟩⟩
  | x :: l, i, v, hp, hv, hb => by
    simp only [tot] at hb
    have hx := hp x (List.mem_cons_self ..)
    have hl : Pos l := fun z hz => hp z (List.mem_cons_of_mem _ hz)
    have ht := tot_nonneg hl
    obtain ⟨j, b, e⟩ := tot_eq_sr a l (i + 1) (v + x.f1) hl (by omega) (by omega)
    refine ⟨j, b, ?_⟩
    simp only [r134_0]
    rw [wrap64 (by omega), e]
    simp only [tot]
    congr 1; omega
theorem tot_eq_s (a : List K_si) (hp : Pos a) (h : tot a ≤ 1000000000) : m134 a = tot a := by
  obtain ⟨j, b, e⟩ := tot_eq_sr a a 0 0 hp (by omega) (by omega)
  unfold m134; rw [e]; simp
theorem merge_fold (a : List K_si) : ∀ (l : List K_si) (i : Int) (v : List K_si), ∃ j b, r112_0 a l i v = .k0 (l.foldl (fun v x => upd x v) v) j b
  | [], i, v => ⟨_, _, rfl⟩
  | x :: l, i, v => by
    have e := step_upd (K_si.mk (⟨#[]⟩ : ByteArray) 0) x v
    simp only [r112_0, List.foldl_cons]
    by_cases h : decide (m1014700 v x.f0 ≥ 0) = true
    · rw [if_pos h] at e ⊢; rw [e]; exact merge_fold a l (i + 1) _
    · rw [if_neg h] at e ⊢; rw [e]; exact merge_fold a l (i + 1) _
theorem merge_is (a : List K_si) : m112 a = a.foldl (fun v x => upd x v) [] := by
  obtain ⟨j, b, e⟩ := merge_fold a a 0 []
  unfold m112
  rw [e]
theorem all_eq {a : List K_si} (h : m46 a = 0) : m134 (m108 a) = m75 a ∧ m75 a = tot a ∧ Pos (m112 a) ∧ tot (m112 a) = tot a := by
  obtain ⟨hp, ht⟩ := win_pos h
  obtain ⟨j1, j2, j3⟩ := fold_ok (l := a) (v := []) hp (fun x hx => by cases hx) (by simp only [tot]; omega)
  rw [← merge_is] at j2 j3
  simp only [tot, Int.zero_add] at j3
  rw [merge_eq, tot_eq_s _ j2 (by omega), tot_eq_i _ hp (by omega)]
  exact ⟨j3, rfl, j2, j3⟩
theorem split_eq (t : Int) (a : List K_si) (h : m46 a = 0) (h0 : 0 < a.length) : m116 t a = m101 t a := by
  obtain ⟨hA, _, _, _⟩ := all_eq h
  have hw := win_ok h
  have hne := mne_112 a (fun z hz => (hw.2 z hz).2) hw.1
  have hml := mlen_112 a
  obtain ⟨j, b, e⟩ := d_loop t a (m112 a) [] [] t
  obtain ⟨j2, b2, e2⟩ := s_loop t a (m112 a) 0 [] [] t
  rw [List.nil_append, show (([] : List K_si).length : Int) = 0 from rfl] at e
  unfold m116 m101
  rw [merge_eq] at *
  rw [hA] at e2
  rw [e, e2]
  simp only [List.nil_append]
  exact (loops_eq _ _ _ 0 _ _ _ rfl (by rw [List.length_map]; exact hne.1 h0) (by rw [List.length_map]; omega)).symm

def gk (l : List K_si) (i : Nat) : K_si := List.getD l i (K_si.mk (⟨#[]⟩ : ByteArray) 0)
theorem gk_at {l : List K_si} {i : Nat} (h : i < l.length) : l[i]? = some (gk l i) := by
  unfold gk
  rw [List.getD_eq_getElem?_getD, List.getElem?_eq_getElem h]; rfl
theorem gk_mem {l : List K_si} {i : Nat} (h : i < l.length) : gk l i ∈ l := List.mem_of_getElem? (gk_at h)
theorem gk_set (l : List K_si) (k j : Nat) (v : K_si) (hk : k < l.length) : gk (l.set k v) j = if j = k then v else gk l j := by
  unfold gk
  rw [List.getD_eq_getElem?_getD, List.getD_eq_getElem?_getD, List.getElem?_set]
  by_cases h : k = j
  · subst h; rw [if_pos rfl, if_pos hk, if_pos rfl]; rfl
  · rw [if_neg h, if_neg (fun e => h e.symm)]
theorem gi_set (l : List Int) (k j : Nat) (v : Int) (hk : k < l.length) : gi (l.set k v) j = if j = k then v else gi l j := by
  unfold gi
  rw [List.getD_eq_getElem?_getD, List.getD_eq_getElem?_getD, List.getElem?_set]
  by_cases h : k = j
  · subst h; rw [if_pos rfl, if_pos hk, if_pos rfl]; rfl
  · rw [if_neg h, if_neg (fun e => h e.symm)]
theorem gk_map (f : K_si → K_si) (l : List K_si) (j : Nat) (h : j < l.length) : gk (l.map f) j = f (gk l j) := by
  have h2 := gk_at (l := l.map f) (i := j) (by simpa using h)
  rw [List.getElem?_map, gk_at h] at h2
  injection h2 with h2; exact h2.symm
theorem gi_map (f : K_si → Int) (l : List K_si) (j : Nat) (h : j < l.length) : gi (l.map f) j = f (gk l j) := by
  unfold gi
  rw [List.getD_eq_getElem?_getD, List.getElem?_map, gk_at h]; rfl
theorem tot_set : ∀ (l : List K_si) (k : Nat) (v : K_si), k < l.length → tot (l.set k v) = tot l - (gk l k).f1 + v.f1
  | [], k, v, h => by simp at h
  | x :: l, 0, v, _ => by simp only [List.set_cons_zero, tot]; show _ = x.f1 + tot l - x.f1 + v.f1; omega
  | x :: l, k + 1, v, h => by
    have ih := tot_set l k v (by simpa using h)
    simp only [List.set_cons_succ, tot]
    rw [ih]
    show _ = x.f1 + tot l - (gk l k).f1 + v.f1
    omega
theorem tot_up : ∀ (o p : List K_si), o.length = p.length → (∀ j, j < o.length → (gk o j).f1 = (gk p j).f1 + 1) → tot o = tot p + o.length
  | [], [], _, _ => by simp [tot]
  | [], _ :: _, h, _ => by simp at h
  | _ :: _, [], h, _ => by simp at h
  | x :: o, y :: p, h, hj => by
    have ih := tot_up o p (by simpa using h) (fun j hj2 => hj (j + 1) (by simpa using hj2))
    have h0 := hj 0 (by simp)
    have h0' : x.f1 = y.f1 + 1 := h0
    simp only [tot, List.length_cons]
    omega
/-- What the parts are asked. -/
def Fit (t A : Int) (l : List K_si) : Prop := 0 ≤ t ∧ t ≤ 1000000 ∧ 1 ≤ A ∧ A ≤ 1000000000 ∧ l.length ≤ 12 ∧ ∀ z ∈ l, 1 ≤ z.f1 ∧ z.f1 ≤ 119988
theorem prod_ok {t x : Int} (h0 : 0 ≤ t) (h1 : t ≤ 1000000) (h2 : 1 ≤ x) (h3 : x ≤ 119988) : 0 ≤ t * x ∧ t * x ≤ 119988000000 := by
  have q1 := Int.mul_nonneg h0 (show 0 ≤ x by omega)
  have q2 := Int.mul_le_mul h1 h3 (by omega) (by omega)
  omega
theorem part_is {t A : Int} {l : List K_si} (h : Fit t A l) {x : K_si} (hx : x ∈ l) : part t A x = t * x.f1 / A ∧ rst t A x = t * x.f1 % A ∧ 0 ≤ t * x.f1 / A ∧ t * x.f1 / A ≤ 119988000000 ∧ 0 ≤ t * x.f1 % A ∧ t * x.f1 % A < A ∧ A * (t * x.f1 / A) + t * x.f1 % A = t * x.f1 := by
  obtain ⟨h0, h1, h2, h3, h4, h5⟩ := h
  obtain ⟨q1, q2⟩ := prod_ok h0 h1 (h5 x hx).1 (h5 x hx).2
  have d1 : 0 ≤ t * x.f1 / A := Int.ediv_nonneg q1 (by omega)
  have d2 : t * x.f1 / A ≤ t * x.f1 := Int.ediv_le_self _ q1
  have e1 : IntKind.wrap .i64 (t * x.f1) = t * x.f1 := wrap64 (by omega)
  refine ⟨?_, ?_, d1, by omega, Int.emod_nonneg _ (by omega), Int.emod_lt_of_pos _ (by omega), Int.mul_ediv_add_emod _ _⟩
  · unfold part; rw [e1, Int.tdiv_eq_ediv_of_nonneg q1, wrap64 (by omega)]
  · unfold rst; rw [e1, Int.tmod_eq_emod_of_nonneg q1]
def sumr : List Int → Int
  | [] => 0
  | x :: l => x + sumr l
theorem sums_rel {t A : Int} {m : List K_si} (h : Fit t A m) : ∀ (l : List K_si), (∀ z ∈ l, z ∈ m) → A * tot (l.map (prt t A)) + sumr (l.map (rst t A)) = t * tot l ∧ 0 ≤ sumr (l.map (rst t A)) ∧ sumr (l.map (rst t A)) + l.length ≤ l.length * A ∧ 0 ≤ tot (l.map (prt t A)) ∧ tot (l.map (prt t A)) ≤ 119988000000 * l.length
  | [], _ => by simp [tot, sumr]
  | x :: l, hm => by
    obtain ⟨i1, i2, i3, i4, i5⟩ := sums_rel h l (fun z hz => hm z (List.mem_cons_of_mem _ hz))
    obtain ⟨e1, e2, e3, e4, e5, e6, e7⟩ := part_is h (hm x (List.mem_cons_self ..))
    simp only [List.map_cons, tot, sumr, List.length_cons]
    have ep : (prt t A x).f1 = t * x.f1 / A := e1
    rw [ep, e2, Int.mul_add, Int.mul_add]
    have : ((l.length + 1 : Nat) : Int) * A = (l.length : Int) * A + A := by rw [Int.natCast_add, Int.add_mul]; simp
    rw [this]
    refine ⟨by omega, by omega, by omega, by omega, by omega⟩
theorem lft_is {t A : Int} {m : List K_si} (h : Fit t A m) (l : List K_si) (v : Int) (hm : ∀ z ∈ l, z ∈ m) (h1 : 119988000000 * (l.length : Int) - 1000000000000000 ≤ v) (h2 : v ≤ 1000000000000000) : lft t A l v = v - tot (l.map (prt t A)) := by
  induction l generalizing v with
  | nil => simp [lft, tot]
  | cons x l ih =>
    obtain ⟨e1, e2, e3, e4, e5, e6, e7⟩ := part_is h (hm x (List.mem_cons_self ..))
    simp only [List.length_cons] at h1
    have ih := ih (v - part t A x) (fun z hz => hm z (List.mem_cons_of_mem _ hz)) (by rw [e1]; omega) (by rw [e1]; omega)
    simp only [lft, List.foldl_cons] at ih ⊢
    rw [wrap64 (by rw [e1]; omega), ih]
    simp only [List.map_cons, tot]
    have ep : (prt t A x).f1 = part t A x := rfl
    rw [ep]; omega
theorem left_ok {t A : Int} {m : List K_si} (h : Fit t A m) (hA : A = tot m) (hn : 0 < m.length) : 0 ≤ t - tot (m.map (prt t A)) ∧ t - tot (m.map (prt t A)) < m.length := by
  obtain ⟨i1, i2, i3, i4, i5⟩ := sums_rel h m (fun z hz => hz)
  have h1 : 1 ≤ A := h.2.2.1
  rw [← hA] at i1
  have e : A * (t - tot (m.map (prt t A))) = sumr (m.map (rst t A)) := by
    rw [Int.mul_sub, Int.mul_comm A t]; omega
  constructor
  · rcases (by omega : t - tot (m.map (prt t A)) < 0 ∨ 0 ≤ t - tot (m.map (prt t A))) with hneg | hpos
    · have := Int.mul_le_mul_of_nonneg_left (show t - tot (m.map (prt t A)) ≤ -1 by omega) (show 0 ≤ A by omega)
      rw [e] at this; omega
    · exact hpos
  · rcases (by omega : t - tot (m.map (prt t A)) < m.length ∨ m.length ≤ t - tot (m.map (prt t A))) with hlt | hge
    · exact hlt
    · have := Int.mul_le_mul_of_nonneg_left hge (show 0 ≤ A by omega)
      rw [e, Int.mul_comm A (m.length : Int)] at this
      omega
/-- The state of the division of what is left. -/
structure Inv (t A : Int) (m o : List K_si) (r : List Int) (s : Int) : Prop where
  lo : o.length = m.length
  lr : r.length = m.length
  each : ∀ j, j < m.length → (gi r j = rst t A (gk m j) ∧ gk o j = prt t A (gk m j)) ∨ (gi r j = -1 ∧ gk o j = K_si.mk (gk m j).f0 (part t A (gk m j) + 1))
  sum : tot o = tot (m.map (prt t A)) + s
  fair : ∀ i k, i < m.length → k < m.length → gi r i ≠ -1 → gi r k = -1 → rst t A (gk m i) ≤ rst t A (gk m k)
theorem inv_start {t A : Int} {m : List K_si} (h : Fit t A m) : Inv t A m (m.map (prt t A)) (m.map (rst t A)) 0 where
  lo := by simp
  lr := by simp
  each j hj := .inl ⟨gi_map _ _ _ hj, gk_map _ _ _ hj⟩
  sum := by omega
  fair i k hi hk _ hb := by
    rw [gi_map _ _ _ hk] at hb
    obtain ⟨e1, e2, e3, e4, e5, e6, e7⟩ := part_is h (gk_mem hk)
    rw [e2] at hb; omega
theorem inv_step {t A : Int} {m o : List K_si} {r : List Int} {s : Int} (h : Fit t A m) (hn : 0 < m.length) (v : Inv t A m o r s) (hs : s < m.length) : Inv t A m (List.set o (Int.toNat (m151 r (m152 r))) (K_si.mk ((List.getD o (Int.toNat (m151 r (m152 r))) (K_si.mk (⟨#[]⟩ : ByteArray) 0)).f0) (IntKind.wrap .i64 (((List.getD o (Int.toNat (m151 r (m152 r))) (K_si.mk (⟨#[]⟩ : ByteArray) 0)).f1) + 1)))) (List.set r (Int.toNat (m151 r (m152 r))) (-1)) (s + 1) := by
  have h12 : m.length ≤ 12 := h.2.2.2.2.1
  obtain ⟨k, ek, hk, hmax, _⟩ := im_first r (by rw [v.lr]; exact hn) (by rw [v.lr]; omega)
  rw [v.lr] at hk
  rw [ek, Int.toNat_natCast]
  show Inv t A m (List.set o k (K_si.mk (gk o k).f0 (IntKind.wrap .i64 ((gk o k).f1 + 1)))) (List.set r k (-1)) (s + 1)
  have pos : ∀ j, j < m.length → 0 ≤ rst t A (gk m j) := fun j hj => by
    obtain ⟨e1, e2, e3, e4, e5, e6, e7⟩ := part_is h (gk_mem hj)
    rw [e2]; exact e5
  -- one that has not been picked
  have hfree : gi r k ≠ -1 := by
    intro hb
    have hall : ∀ j, j < m.length → gi r j = -1 := fun j hj => by
      have h1 := hmax j (by rw [v.lr]; exact hj)
      rw [hb] at h1
      rcases v.each j hj with ⟨e, _⟩ | ⟨e, _⟩
      · have := pos j hj; omega
      · exact e
    have := tot_up o (m.map (prt t A)) (by rw [v.lo]; simp) (fun j hj => by
      rw [v.lo] at hj
      rcases v.each j hj with ⟨e, _⟩ | ⟨_, e⟩
      · have := pos j hj; have := hall j hj; omega
      · rw [e, gk_map _ _ _ hj]; rfl)
    have h2 := v.sum
    rw [this, v.lo] at h2
    omega
  obtain ⟨er, eo⟩ : gi r k = rst t A (gk m k) ∧ gk o k = prt t A (gk m k) := by
    rcases v.each k hk with e | ⟨e, _⟩
    · exact e
    · exact absurd e hfree
  obtain ⟨e1, e2, e3, e4, e5, e6, e7⟩ := part_is h (gk_mem hk)
  have ev : K_si.mk (gk o k).f0 (IntKind.wrap .i64 ((gk o k).f1 + 1)) = K_si.mk (gk m k).f0 (part t A (gk m k) + 1) := by
    rw [eo]
    show K_si.mk (gk m k).f0 (IntKind.wrap .i64 (part t A (gk m k) + 1)) = _
    rw [wrap64 (by rw [e1]; omega)]
  rw [ev]
  refine ⟨by rw [List.length_set]; exact v.lo, by rw [List.length_set]; exact v.lr, fun j hj => ?_, ?_, fun i q hi hq hfi hfq => ?_⟩
  · rw [gi_set _ _ _ _ (by rw [v.lr]; exact hk), gk_set _ _ _ _ (by rw [v.lo]; exact hk)]
    by_cases e : j = k
    · subst e; exact .inr ⟨by rw [if_pos rfl], by rw [if_pos rfl]⟩
    · rw [if_neg e, if_neg e]; exact v.each j hj
  · rw [tot_set _ _ _ (by rw [v.lo]; exact hk), v.sum, eo]
    show _ - part t A (gk m k) + (part t A (gk m k) + 1) = _
    omega
  · rw [gi_set _ _ _ _ (by rw [v.lr]; exact hk)] at hfi hfq
    by_cases ei : i = k
    · rw [if_pos ei] at hfi; exact absurd rfl hfi
    · rw [if_neg ei] at hfi
      by_cases eq : q = k
      · subst eq
        have h1 := hmax i (by rw [v.lr]; exact hi)
        rcases v.each i hi with ⟨e, _⟩ | ⟨e, _⟩
        · rw [← e, ← er]; exact h1
        · exact absurd e hfi
      · rw [if_neg eq] at hfq
        exact v.fair i q hi hq hfi hfq
theorem inv_iter {t A : Int} {m : List K_si} (c : Int) (h : Fit t A m) (hn : 0 < m.length) : ∀ (n : Nat) (i : Int) (o : List K_si) (r : List Int) (s : Int), Inv t A m o r s → s + n ≤ m.length → ∃ o' r' j b, r101_1 c n i o r = .k0 o' r' j b ∧ Inv t A m o' r' (s + n)
  | 0, i, o, r, s, v, _ => ⟨o, r, _, _, rfl, by simpa using v⟩
  | n + 1, i, o, r, s, v, hs => by
    simp only [r101_1]
    obtain ⟨o', r', j, b, e, hv⟩ := inv_iter c h hn n (i + 1) _ _ (s + 1) (inv_step h hn v (by omega)) (by omega)
    refine ⟨o', r', j, b, e, ?_⟩
    rw [show s + ((n + 1 : Nat) : Int) = s + 1 + n by omega]; exact hv
theorem divided_ok (t : Int) (a : List K_si) (h : m46 a = 0) (h0 : 0 < a.length) (ht : 0 ≤ t) (ht2 : t ≤ 1000000) : ∃ r, Fit t (tot a) (m112 a) ∧ Inv t (tot a) (m112 a) (m101 t a) r (t - tot ((m112 a).map (prt t (tot a)))) ∧ 0 < (m112 a).length ∧ tot (m112 a) = tot a := by
  obtain ⟨hA, hA2, hp, htm⟩ := all_eq h
  have hw := win_ok h
  have hne := mne_112 a (fun z hz => (hw.2 z hz).2) hw.1
  have hml := mlen_112 a
  have hn := hne.1 h0
  have htl : tot a ≤ 119988 := (win_pos h).2
  have hta : 1 ≤ tot a := by
    have q := tot_75 a (fun z hz => by have := (hw.2 z hz).2; omega) hw.1
    rw [hA2] at q; omega
  have hf : Fit t (tot a) (m112 a) := ⟨ht, ht2, hta, by omega, by omega, hne.2⟩
  obtain ⟨l1, l2⟩ := left_ok hf htm.symm hn
  obtain ⟨j, b, e⟩ := d_loop t a (m112 a) [] [] t
  rw [List.nil_append, show (([] : List K_si).length : Int) = 0 from rfl, hA2] at e
  simp only [List.nil_append] at e
  have el : lft t (tot a) (m112 a) t = t - tot ((m112 a).map (prt t (tot a))) := lft_is hf _ t (fun z hz => hz) (by omega) (by omega)
  obtain ⟨o', r', j2, b2, e2, hv⟩ := inv_iter (lft t (tot a) (m112 a) t) hf hn (Int.toNat (lft t (tot a) (m112 a) t)) 0 _ _ 0 (inv_start hf) (by rw [el]; omega)
  refine ⟨r', hf, ?_, hn, htm⟩
  have ed : m101 t a = o' := by
    unfold m101
    rw [e]; simp only []
    rw [e2]
  rw [ed]
  rw [el, show (0 : Int) + ((Int.toNat (t - tot ((m112 a).map (prt t (tot a)))) : Nat) : Int) = t - tot ((m112 a).map (prt t (tot a))) by omega] at hv
  exact hv

theorem same (t : Int) (a : List K_si) : m48 t a = m49 t a := by
  unfold m48 m49
  rw [window_eq]
  by_cases h : (m107 a != 0) = true
  · rw [if_pos h, if_pos h]
  rw [if_neg h, if_neg h, in_eq]
  by_cases h2 : (!(m110 t 0 1000000)) = true
  · rw [if_pos h2, if_pos h2]
  rw [if_neg h2, if_neg h2]
  by_cases h3 : (((List.length (List.map b_si a)) : Int) == 0) = true
  · rw [if_pos h3, if_pos h3]
  rw [if_neg h3, if_neg h3]
  rw [split_eq t a (by rw [window_eq]; simpa using h) (by simp only [List.length_map, beq_iff_eq] at h3; omega)]
/-- What fault 0 says. -/
theorem free {t : Int} {a : List K_si} (h : (m48 t a).f0 = 0) : m46 a = 0 ∧ 0 < a.length ∧ 0 ≤ t ∧ t ≤ 1000000 ∧ (m48 t a).f1 = m101 t a ∧ (m45 a).f1 = m112 a ∧ (m45 a).f0 = 0 := by
  unfold m48 at h ⊢
  unfold m45
  by_cases h1 : (m46 a != 0) = true
  · rw [if_pos h1] at h
    have h2 : m46 a = 0 := h
    rw [h2] at h1; cases h1
  rw [if_neg h1] at h ⊢
  rw [if_neg h1]
  by_cases h2 : (!(m93 t 0 1000000)) = true
  · rw [if_pos h2] at h; cases h
  rw [if_neg h2] at h ⊢
  by_cases h3 : (((List.length (List.map b_si a)) : Int) == 0) = true
  · rw [if_pos h3] at h; cases h
  rw [if_neg h3]
  have h4 : m93 t 0 1000000 = true := by simpa using h2
  obtain ⟨q1, q2⟩ := (in_iff _ _ _).1 h4
  simp only [List.length_map, beq_iff_eq] at h3
  exact ⟨by simpa using h1, by omega, q1, q2, rfl, rfl, rfl⟩
theorem sum0 (a0 : List Int) : ∀ (l0 l1 : List K_si) (i v w : Int), l0.length = l1.length → (∀ z ∈ l0, 0 ≤ z.f1 ∧ z.f1 ≤ 1000000000000) → (∀ z ∈ l1, 0 ≤ z.f1 ∧ z.f1 ≤ 1000000000000) → 0 ≤ v → 0 ≤ w → v + 1000000000000 * (l0.length : Int) ≤ 1000000000000000 → w + 1000000000000 * (l1.length : Int) ≤ 1000000000000000 → ∃ j b, r11_0 a0 l0 l1 i v w = .k0 (v + tot l0) (w + tot l1) j b
  | [], [], i, v, w, _, _, _, _, _, _, _ => ⟨_, _, by simp [r11_0, tot]; exact ⟨rfl, rfl⟩⟩
  | [], _ :: _, _, _, _, h, _, _, _, _, _, _ => by simp at h
  | _ :: _, [], _, _, _, h, _, _, _, _, _, _ => by simp at h
  | x :: l0, y :: l1, i, v, w, h, hx, hy, hv, hw, bv, bw => by
    have hx0 := hx x (List.mem_cons_self ..)
    have hy0 := hy y (List.mem_cons_self ..)
    simp only [List.length_cons] at bv bw h
    obtain ⟨j, b, e⟩ := sum0 a0 l0 l1 (i + 1) (v + x.f1) (w + y.f1) (by omega) (fun z hz => hx z (List.mem_cons_of_mem _ hz)) (fun z hz => hy z (List.mem_cons_of_mem _ hz)) (by omega) (by omega) (by omega) (by omega)
    refine ⟨j, b, ?_⟩
    simp only [r11_0]
    rw [wrap64 (by omega), wrap64 (by omega), e]
    simp only [tot]
    congr 1 <;> omega
theorem fair2 (a0 : List Int) (c0 c2 : Int) (c3 : K_si) : ∀ (l0 l1 : List K_si) (i : Int), (∀ j, j < l0.length → j < l1.length → ¬ (rst (m47_0 a0) c0 (gk (m45 (m47_1 a0)).f1 (Int.toNat c2)) > rst (m47_0 a0) c0 (gk l0 j) ∧ IntKind.wrap .i64 ((gk (m48 (m47_0 a0) (m47_1 a0)).f1 (Int.toNat c2)).f1 - part (m47_0 a0) c0 c3) < IntKind.wrap .i64 ((gk l1 j).f1 - part (m47_0 a0) c0 (gk l0 j)))) → ∃ w b, r11_2 a0 c0 c2 c3 l0 l1 i = .k0 w b
  | [], l1, i, _ => by cases l1 <;> exact ⟨_, _, by simp only [r11_2]; exact rfl⟩
  | _ :: _, [], i, _ => ⟨_, _, by simp only [r11_2]; exact rfl⟩
  | x :: l0, y :: l1, i, h => by
    obtain ⟨w, b, e⟩ := fair2 a0 c0 c2 c3 l0 l1 (i + 1) (fun j h1 h2 => h (j + 1) (by simpa using h1) (by simpa using h2))
    refine ⟨w, b, ?_⟩
    simp only [r11_2]
    have h0 := h 0 (by simp) (by simp)
    rw [e]
    simp only [decide_eq_true_eq]
    by_cases q1 : Int.tmod (IntKind.wrap .i64 ((m47_0 a0) * ((List.getD ((m45 (m47_1 a0)).f1) (Int.toNat c2) (K_si.mk (⟨#[]⟩ : ByteArray) 0)).f1))) c0 > Int.tmod (IntKind.wrap .i64 ((m47_0 a0) * x.f1)) c0
    · rw [if_pos q1]
      split
      · rename_i q2; exact absurd ⟨q1, q2⟩ h0
      · rfl
    · rw [if_neg q1]
theorem fair1 (a0 : List Int) (c0 : Int) (hc : 1 ≤ c0) : ∀ (l0 l1 : List K_si) (i : Int), (∀ j, j < l0.length → j < l1.length → (gk l1 j).f0 = (gk l0 j).f0 ∧ part (m47_0 a0) c0 (gk l0 j) ≤ (gk l1 j).f1 ∧ (gk l1 j).f1 ≤ IntKind.wrap .i64 (part (m47_0 a0) c0 (gk l0 j) + 1) ∧ ∃ w b, r11_2 a0 c0 (i + j) (gk l0 j) ((m45 (m47_1 a0)).f1) ((m48 (m47_0 a0) (m47_1 a0)).f1) 0 = .k0 w b) → ∃ w b, r11_1 a0 c0 l0 l1 i = .k0 w b
  | [], l1, i, _ => by cases l1 <;> exact ⟨_, _, by simp only [r11_1]; exact rfl⟩
  | _ :: _, [], i, _ => ⟨_, _, by simp only [r11_1]; exact rfl⟩
  | x :: l0, y :: l1, i, h => by
    obtain ⟨w, b, e⟩ := fair1 a0 c0 hc l0 l1 (i + 1) (fun j h1 h2 => by
      have := h (j + 1) (by simpa using h1) (by simpa using h2)
      rw [show i + ((j + 1 : Nat) : Int) = i + 1 + (j : Int) by omega] at this
      exact this)
    refine ⟨w, b, ?_⟩
    simp only [r11_1]
    obtain ⟨h0, h1, h2, w2, b2, h3⟩ := h 0 (by simp) (by simp)
    have h0' : y.f0 = x.f0 := h0
    have h1' : IntKind.wrap .i64 (Int.tdiv (IntKind.wrap .i64 ((m47_0 a0) * x.f1)) c0) ≤ y.f1 := h1
    have h2' : y.f1 ≤ IntKind.wrap .i64 (IntKind.wrap .i64 (Int.tdiv (IntKind.wrap .i64 ((m47_0 a0) * x.f1)) c0) + 1) := h2
    have h3' : r11_2 a0 c0 i x ((m45 (m47_1 a0)).f1) ((m48 (m47_0 a0) (m47_1 a0)).f1) 0 = .k0 w2 b2 := by
      rw [show i + ((0 : Nat) : Int) = i by omega] at h3; exact h3
    rw [if_neg (by simp only [decide_eq_true_eq]; omega), if_neg (by rw [h0']; simp), if_neg (by simp only [decide_eq_true_eq]; omega), if_neg (by simp only [decide_eq_true_eq]; omega), h3']
    exact e
theorem gk_of_mem {l : List K_si} {z : K_si} (h : z ∈ l) : ∃ j, j < l.length ∧ gk l j = z := by
  obtain ⟨j, hj, e⟩ := List.getElem_of_mem h
  refine ⟨j, hj, ?_⟩
  have := gk_at hj
  rw [List.getElem?_eq_getElem hj, e] at this
  injection this with this; exact this.symm
theorem pure (a0 : (List Int)) (w0 : wf_LyE a0) : m11 a0 = true := by
  unfold m11
  by_cases hb : (m38 a0) = true
  · rw [if_pos hb]
  rw [if_neg hb, ← same]
  by_cases h0 : ((m48 (m47_0 a0) (m47_1 a0)).f0 != 0) = true
  · rw [if_pos h0, if_pos (by simp), window_eq]; simp
  rw [if_neg h0]
  obtain ⟨f1, f2, f3, f4, f5, f6, f7⟩ := free (t := m47_0 a0) (a := m47_1 a0) (by simpa using h0)
  obtain ⟨r, hf, hv, hn, htm⟩ := divided_ok _ _ f1 f2 f3 f4
  rw [← f5, ← f6] at hv
  rw [← f6] at hf hn htm
  have each : ∀ j, j < (m45 (m47_1 a0)).f1.length → (gk (m48 (m47_0 a0) (m47_1 a0)).f1 j).f0 = (gk (m45 (m47_1 a0)).f1 j).f0 ∧ ((gk (m48 (m47_0 a0) (m47_1 a0)).f1 j).f1 = part (m47_0 a0) (tot (m47_1 a0)) (gk (m45 (m47_1 a0)).f1 j) ∧ gi r j ≠ -1 ∨ (gk (m48 (m47_0 a0) (m47_1 a0)).f1 j).f1 = part (m47_0 a0) (tot (m47_1 a0)) (gk (m45 (m47_1 a0)).f1 j) + 1 ∧ gi r j = -1) ∧ 0 ≤ part (m47_0 a0) (tot (m47_1 a0)) (gk (m45 (m47_1 a0)).f1 j) ∧ part (m47_0 a0) (tot (m47_1 a0)) (gk (m45 (m47_1 a0)).f1 j) ≤ 119988000000 := by
    intro j hj
    obtain ⟨e1, e2, e3, e4, e5, e6, e7⟩ := part_is hf (gk_mem hj)
    rw [← e1] at e3 e4
    rcases hv.each j hj with ⟨g1, g2⟩ | ⟨g1, g2⟩
    · rw [g2]; exact ⟨rfl, .inl ⟨rfl, by rw [g1, e2]; omega⟩, e3, e4⟩
    · rw [g2]; exact ⟨rfl, .inr ⟨rfl, g1⟩, e3, e4⟩
  have hl := hv.lo
  have hlen : (m45 (m47_1 a0)).f1.length ≤ 12 := hf.2.2.2.2.1
  obtain ⟨j, b, e0⟩ := sum0 a0 (m45 (m47_1 a0)).f1 (m48 (m47_0 a0) (m47_1 a0)).f1 0 0 0 hl.symm (fun z hz => by
    have := hf.2.2.2.2.2 z hz; omega) (fun z hz => by
    obtain ⟨j, hj, rfl⟩ := gk_of_mem hz
    obtain ⟨_, q1, q2, q3⟩ := each j (by omega)
    rcases q1 with ⟨q, _⟩ | ⟨q, _⟩ <;> omega) (by omega) (by omega) (by omega) (by omega)
  have hsum : tot (m48 (m47_0 a0) (m47_1 a0)).f1 = m47_0 a0 := by
    rw [hv.sum]; omega
  rw [htm, hsum, Int.zero_add, Int.zero_add] at e0
  obtain ⟨w, b2, e1⟩ := fair1 a0 (tot (m47_1 a0)) hf.2.2.1 (m45 (m47_1 a0)).f1 (m48 (m47_0 a0) (m47_1 a0)).f1 0 (fun i hi hi2 => by
    obtain ⟨p1, p2, p3, p4⟩ := each i hi
    refine ⟨p1, by omega, by rw [wrap64 (by omega)]; omega, ?_⟩
    refine fair2 a0 _ _ _ _ _ 0 (fun k hk hk2 hh => ?_)
    obtain ⟨s1, s2, s3, s4⟩ := each k hk
    rw [Int.zero_add, Int.toNat_natCast] at hh
    obtain ⟨hh1, hh2⟩ := hh
    rw [wrap64 (by omega), wrap64 (by omega)] at hh2
    rcases p2 with ⟨p2, pr⟩ | ⟨p2, pr⟩
    · rcases s2 with ⟨s2, sr⟩ | ⟨s2, sr⟩
      · omega
      · have := hv.fair i k hi hk pr sr
        omega
    · rcases s2 with ⟨s2, sr⟩ | ⟨s2, sr⟩ <;> omega)
  rw [if_neg (by simp only [List.length_map]; rw [hl]; simp), if_neg (by rw [f7]; simp), e0]
  simp only []
  rw [e1]
  simp only []
  rw [if_pos (by simp)]
  simp only [List.length_map, decide_eq_true_eq]
  omega

end Go.Proofs.YtfmkbpiobddhdaaDoor.Splits
