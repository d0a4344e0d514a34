/- The plain law: what the functions compute answers as the statement says. -/
import Derived.Test.YtfmkbpiobddhdaaDoorEWindows
import Derived.Test.YtfmkbpiobddhdaaDoorVArgs
namespace Go.Proofs.YtfmkbpiobddhdaaDoor.Windows
open Go Go.Proofs.YtfmkbpiobddhdaaDoor.V
set_option linter.unusedVariables false
set_option maxRecDepth 20000
def wf_y (x : Int) : Prop := (Lit.int .u8 x).wf = true
theorem un_y {bs : List B} (h : Sh.okL [.int .u8] bs) : ∃ x : Int, bs = [(.val (.int .u8 x))] ∧ wf_y x := by
  obtain ⟨b0, m0, rfl, o0, h0⟩ := h
  obtain ⟨x0, rfl, w0⟩ : ∃ z : Int, b0 = .val (.int .u8 z) ∧ (Lit.int .u8 z).wf = true := by
    cases b0 with
    | val v =>
      cases v <;> first | exact o0.elim | (obtain ⟨rfl, w⟩ := o0; exact ⟨_, rfl, w⟩)
    | sl r => exact o0.elim
  obtain rfl := h0
  exact ⟨x0, rfl, w0⟩
theorem uns_y : ∀ {rows : List (List B)}, (∀ r ∈ rows, Sh.okL [.int .u8] r) → ∃ z : List Int, rows = z.map b_y ∧ ∀ u ∈ z, wf_y u
  | [], _ => ⟨[], rfl, fun u h => (by cases h)⟩
  | r :: rows, h => by
    obtain ⟨x, e, w⟩ := un_y (h r (List.mem_cons_self ..))
    obtain ⟨z, rfl, hz⟩ := uns_y (fun r hr => h r (List.mem_cons_of_mem _ hr))
    refine ⟨x :: z, by rw [e]; rfl, fun u hu => ?_⟩
    rcases List.mem_cons.1 hu with rfl | hu
    · exact w
    · exact hz u hu
def wf_LyE (x : (List Int)) : Prop := (x.length * 1 ≤ 140737488351232 ∧ ∀ z ∈ x, wf_y z)
theorem un_LyE {bs : List B} (h : Sh.okL [.sl [.int .u8] 1] bs) : ∃ x : (List Int), bs = [(.sl (List.map b_y x))] ∧ wf_LyE x := by
  obtain ⟨b0, m0, rfl, o0, h0⟩ := h
  obtain ⟨x0, rfl, w0⟩ : ∃ z : (List Int), b0 = .sl (z.map b_y) ∧ z.length * 1 ≤ 140737488351232 ∧ ∀ u ∈ z, wf_y u := by
    cases b0 with
    | val v => cases v <;> exact o0.elim
    | sl r =>
      obtain ⟨z, rfl, hz⟩ := uns_y o0.2
      exact ⟨z, rfl, by simpa using o0.1, hz⟩
  obtain rfl := h0
  exact ⟨x0, rfl, w0⟩
theorem ok_wf_LyE (x : (List Int)) (w : wf_LyE x) : ok_LyE x := w.1
theorem os_wf_LyE (x : (List Int)) (w : wf_LyE x) : os_LyE x := w.1
theorem uns_LyE : ∀ {rows : List (List B)}, (∀ r ∈ rows, Sh.okL [.sl [.int .u8] 1] r) → ∃ z : List (List Int), rows = z.map b_LyE ∧ ∀ u ∈ z, wf_LyE u
  | [], _ => ⟨[], rfl, fun u h => (by cases h)⟩
  | r :: rows, h => by
    obtain ⟨x, e, w⟩ := un_LyE (h r (List.mem_cons_self ..))
    obtain ⟨z, rfl, hz⟩ := uns_LyE (fun r hr => h r (List.mem_cons_of_mem _ hr))
    refine ⟨x :: z, by rw [e]; rfl, fun u hu => ?_⟩
    rcases List.mem_cons.1 hu with rfl | hu
    · exact w
    · exact hz u hu
theorem in_iff (a b c : Int) : m93 a b c = true ↔ b ≤ a ∧ a ≤ c := by
  unfold m93; split <;> simp_all <;> omega
theorem l1In_iff (a b c : Int) : m110 a b c = true ↔ b ≤ a ∧ a ≤ c := by
  unfold m110; split <;> simp_all <;> omega
theorem in_eq (a b c : Int) : m93 a b c = m110 a b c := by
  rw [Bool.eq_iff_iff, in_iff, l1In_iff]

theorem letter_iff (c : Int) : m171 c = true ↔ (97 ≤ c ∧ c ≤ 122) ∨ (65 ≤ c ∧ c ≤ 90) ∨ (48 ≤ c ∧ c ≤ 57) := by
  unfold m171
  (repeat' split) <;> simp_all <;> omega
def signs : ByteArray := ⟨#[97, 98, 99, 100, 101, 102, 103, 104, 105, 106, 107, 108, 109, 110, 111, 112, 113, 114, 115, 116, 117, 118, 119, 120, 121, 122, 65, 66, 67, 68, 69, 70, 71, 72, 73, 74, 75, 76, 77, 78, 79, 80, 81, 82, 83, 84, 85, 86, 87, 88, 89, 90, 48, 49, 50, 51, 52, 53, 54, 55, 56, 57]⟩
theorem signs_iff (b : UInt8) : signs.data.toList.contains b = m171 (b.toNat : Int) := by
  have key : ∀ n : Fin 256, signs.data.toList.contains (UInt8.ofNat n.val) = m171 ((UInt8.ofNat n.val).toNat : Int) := by decide +kernel
  have := key ⟨b.toNat, b.toNat_lt⟩
  simpa using this
theorem dw_bad {p : UInt8 → Bool} {b : UInt8} (hp : p b = false) : ∀ {l : List UInt8}, b ∈ l → b ∈ l.dropWhile p
  | x :: l, h => by
    simp only [List.dropWhile]
    cases hx : p x with
    | true =>
      rcases List.mem_cons.1 h with rfl | h
      · rw [hp] at hx; cases hx
      · exact dw_bad hp h
    | false => exact h
theorem dw_nil {p : UInt8 → Bool} : ∀ {l : List UInt8}, (∀ b ∈ l, p b = true) → l.dropWhile p = []
  | [], _ => rfl
  | x :: l, h => by
    simp only [List.dropWhile, h x (List.mem_cons_self ..)]
    exact dw_nil fun b hb => h b (List.mem_cons_of_mem _ hb)
theorem trim_nil (l cs : List UInt8) : Lib.trimS l cs = [] ↔ ∀ b ∈ l, cs.contains b = true := by
  unfold Lib.trimS Lib.trimLeftS Lib.trimRightS
  constructor
  · intro h b hb
    cases hc : cs.contains b with
    | true => rfl
    | false =>
      have h1 := dw_bad (p := (cs.contains ·)) hc (List.mem_reverse.2 hb)
      have h2 := dw_bad (p := (cs.contains ·)) hc (List.mem_reverse.2 h1)
      rw [h] at h2; cases h2
  · intro h
    rw [dw_nil (p := (cs.contains ·)) (l := l.reverse) fun b hb => h b (List.mem_reverse.1 hb)]
    rfl
theorem byteAt_nat (s : ByteArray) (i : Nat) (h : i < s.size) : byteAt s (i : Int) = ((s.data.toList[i]'(by simpa using h)).toNat : Int) := by
  unfold byteAt
  rw [Int.toNat_natCast, List.getElem?_eq_getElem (by simpa using h)]
  rfl
theorem arg_loop (s : ByteArray) : ∀ (n i : Nat), i + n = s.size → (r154_0 s n (i : Int) = .k1 ∧ ∃ b ∈ s.data.toList.drop i, m171 (b.toNat : Int) = false) ∨ (∃ w b, r154_0 s n (i : Int) = .k0 w b ∧ ∀ b ∈ s.data.toList.drop i, m171 (b.toNat : Int) = true)
  | 0, i, h => .inr ⟨_, _, rfl, fun b hb => by
      rw [List.drop_eq_nil_of_le (by show s.data.toList.length ≤ i; rw [Array.length_toList]; have : s.data.size = s.size := rfl; omega)] at hb; cases hb⟩
  | n + 1, i, h => by
    have hi : i < s.size := by omega
    have hl : i < s.data.toList.length := by simpa using hi
    rw [List.drop_eq_getElem_cons hl]
    generalize hx : s.data.toList[i] = x
    simp only [r154_0]
    rw [byteAt_nat s i hi, hx]
    by_cases hc : m171 (x.toNat : Int) = true
    · rw [if_neg (by simp [hc])]
      have ih := arg_loop s n (i + 1) (by omega)
      rw [show ((i : Int) + 1) = ((i + 1 : Nat) : Int) by omega]
      rcases ih with ⟨h1, b, h2, h3⟩ | ⟨w, b, h1, h2⟩
      · exact .inl ⟨h1, b, List.mem_cons_of_mem _ h2, h3⟩
      · refine .inr ⟨w, b, h1, fun c hcm => ?_⟩
        rcases List.mem_cons.1 hcm with rfl | hcm
        · exact hc
        · exact h2 c hcm
    · have hf : m171 (x.toNat : Int) = false := by simpa using hc
      rw [if_pos (by simp [hf])]
      exact .inl ⟨rfl, _, List.mem_cons_self .., hf⟩
theorem arg_eq (s : ByteArray) : m155 s = m154 s := by
  have ht : ((trimB s signs).toList == (⟨#[]⟩ : ByteArray).toList) = decide (∀ b ∈ s.data.toList, m171 (b.toNat : Int) = true) := by
    rw [ba_eq, Bool.eq_iff_iff, decide_eq_true_eq, decide_eq_true_eq]
    have : trimB s signs = ⟨#[]⟩ ↔ Lib.trimS s.data.toList signs.data.toList = [] := by
      unfold trimB
      constructor
      · intro h; injection h with h; simpa using congrArg Array.toList h
      · intro h; rw [h]
    rw [this, trim_nil]
    constructor
    · intro h b hb; rw [← signs_iff]; exact h b hb
    · intro h b hb; rw [signs_iff]; exact h b hb
  have hl := arg_loop s s.size 0 (by omega)
  rw [List.drop_zero] at hl
  unfold m155 m154
  rw [show (⟨#[97, 98, 99, 100, 101, 102, 103, 104, 105, 106, 107, 108, 109, 110, 111, 112, 113, 114, 115, 116, 117, 118, 119, 120, 121, 122, 65, 66, 67, 68, 69, 70, 71, 72, 73, 74, 75, 76, 77, 78, 79, 80, 81, 82, 83, 84, 85, 86, 87, 88, 89, 90, 48, 49, 50, 51, 52, 53, 54, 55, 56, 57]⟩ : ByteArray) = signs from rfl, ht]
  rw [Int.toNat_natCast, show (0 : Int) = ((0 : Nat) : Int) from rfl]
  rcases hl with ⟨h1, b, h2, h3⟩ | ⟨w, b, h1, h2⟩
  · rw [h1]
    have : ¬ ∀ b ∈ s.data.toList, m171 (b.toNat : Int) = true := fun h => by rw [h b h2] at h3; cases h3
    rw [decide_eq_false this]
    simp only []
    split <;> rfl
  · rw [h1, decide_eq_true h2]
    simp only []
    cases decide ((s.size : Int) ≤ 12) <;> rfl

theorem one_eq (x : K_si) : m109 x = (if (!(m113 x.f0)) = true then 5 else if (!(m93 x.f1 1 9999)) = true then 3 else 0) := by
  unfold m109 m113
  rw [in_eq, arg_eq]
  generalize (x.f0.toList == (⟨#[]⟩ : ByteArray).toList) = A
  generalize m154 x.f0 = B
  cases A <;> cases B <;> rfl
theorem window_loop (a b : List K_si) : ∀ (l : List K_si) (i j : Int), (match r46_0 a l i with | .k0 .. => (0 : Int) | .k1 => 5 | .k2 => 3) = (match r107_0 b l j with | .k0 .. => 0 | .k1 w => w)
  | [], i, j => rfl
  | x :: l, i, j => by
    have ih := window_loop a b l (i + 1) (j + 1)
    simp only [r46_0, r107_0, one_eq]
    by_cases h1 : (!(m113 x.f0)) = true
    · simp [h1]
    · by_cases h2 : (!(m93 x.f1 1 9999)) = true
      · simp [h1, h2]
      · simp only [if_neg h1, if_neg h2]; simpa using ih
theorem window_eq (a : List K_si) : m46 a = m107 a := by
  unfold m46 m107
  split
  · rfl
  · exact window_loop a a a 0 0

/-- The first place of a worker. -/
def pos (w : ByteArray) : List K_si → Option Nat
  | [] => none
  | x :: l => if x.f0 = w then some 0 else (pos w l).map (· + 1)
theorem at_pos_loop (a : List K_si) (w : ByteArray) : ∀ (l : List K_si) (i : Int), (match r1014700_0 a w l i with | .k0 .. => (-1 : Int) | .k1 z => z) = (match pos w l with | none => (-1 : Int) | some p => i + p)
  | [], i => rfl
  | x :: l, i => by
    have ih := at_pos_loop a w l (i + 1)
    simp only [r1014700_0, pos, ba_eq]
    by_cases h : x.f0 = w
    · simp [h]
    · simp only [h, decide_false, if_false]
      rw [if_neg (by simp), ih]
      cases pos w l with
      | none => rfl
      | some p => show (i + 1 + (p : Int)) = i + ((p + 1 : Nat) : Int); omega
theorem at_pos (a : List K_si) (w : ByteArray) : m1014700 a w = (match pos w a with | none => (-1 : Int) | some p => (p : Int)) := by
  unfold m1014700
  refine (at_pos_loop a w a 0).trans ?_
  cases pos w a <;> simp
theorem pos_lt {w : ByteArray} : ∀ {l : List K_si} {p : Nat}, pos w l = some p → p < l.length
  | [], p, h => by cases h
  | x :: l, p, h => by
    simp only [pos] at h
    split at h
    · injection h with h; subst h; simp
    · cases hp : pos w l with
      | none => rw [hp] at h; cases h
      | some q => rw [hp] at h; injection h with h; subst h; have := pos_lt hp; simp; omega
/-- What a list owes to a worker. -/
def look (w : ByteArray) : List K_si → Int
  | [] => 0
  | x :: l => if x.f0 = w then x.f1 else look w l
theorem look_pos (d : K_si) {w : ByteArray} : ∀ {l : List K_si}, look w l = (match pos w l with | none => 0 | some p => (List.getD l p d).f1)
  | [] => rfl
  | x :: l => by
    simp only [look, pos]
    split
    · rfl
    · rw [look_pos d (l := l)]
      cases pos w l <;> rfl
theorem pos_at (d : K_si) {w : ByteArray} : ∀ {l : List K_si} {p : Nat}, pos w l = some p → (List.getD l p d).f0 = w
  | [], p, h => by cases h
  | x :: l, p, h => by
    simp only [pos] at h
    split at h
    · injection h with h; subst h; assumption
    · cases hp : pos w l with
      | none => rw [hp] at h; cases h
      | some q => rw [hp] at h; injection h with h; subst h; show (List.getD l q d).f0 = w; exact pos_at d hp
/-- A worker gets more. -/
def upd (x : K_si) : List K_si → List K_si
  | [] => [x]
  | y :: l => if y.f0 = x.f0 then K_si.mk y.f0 (IntKind.wrap .i64 (y.f1 + x.f1)) :: l else y :: upd x l
theorem upd_none {x : K_si} : ∀ {l : List K_si}, pos x.f0 l = none → upd x l = l ++ [x]
  | [], _ => rfl
  | y :: l, h => by
    simp only [pos] at h
    split at h
    · cases h
    · rename_i hy
      simp only [upd, if_neg hy, List.cons_append]
      rw [upd_none (l := l) (by cases hp : pos x.f0 l <;> simp_all)]
theorem upd_some (d : K_si) {x : K_si} : ∀ {l : List K_si} {p : Nat}, pos x.f0 l = some p → upd x l = List.set l p (K_si.mk (List.getD l p d).f0 (IntKind.wrap .i64 ((List.getD l p d).f1 + x.f1)))
  | [], p, h => by cases h
  | y :: l, p, h => by
    simp only [pos] at h
    split at h
    · rename_i hy
      injection h with h; subst h
      simp only [upd, if_pos hy]; rfl
    · rename_i hy
      cases hp : pos x.f0 l with
      | none => rw [hp] at h; cases h
      | some q =>
        rw [hp] at h; injection h with h; subst h
        simp only [upd, if_neg hy]
        rw [upd_some d hp]; rfl
theorem step_upd (d x : K_si) (v : List K_si) : (if decide (m1014700 v x.f0 ≥ 0) = true then List.set v (Int.toNat (m1014700 v x.f0)) (K_si.mk ((List.getD v (Int.toNat (m1014700 v x.f0)) d).f0) (IntKind.wrap .i64 (((List.getD v (Int.toNat (m1014700 v x.f0)) d).f1) + x.f1))) else v ++ [x]) = upd x v := by
  rw [at_pos]
  cases hp : pos x.f0 v with
  | none => rw [if_neg (by simp), upd_none hp]
  | some p =>
    simp only []
    rw [if_pos (by simp), Int.toNat_natCast, upd_some d hp]
/-- All that is there for a worker; for all. -/
def sumw (w : ByteArray) : List K_si → Int
  | [] => 0
  | x :: l => (if x.f0 = w then x.f1 else 0) + sumw w l
def tot : List K_si → Int
  | [] => 0
  | x :: l => x.f1 + tot l
def Pos (l : List K_si) : Prop := ∀ x ∈ l, 0 ≤ x.f1
theorem tot_nonneg : ∀ {l : List K_si}, Pos l → 0 ≤ tot l
  | [], _ => by simp [tot]
  | x :: l, h => by
    have h1 := h x (List.mem_cons_self ..)
    have h2 := tot_nonneg (l := l) fun y hy => h y (List.mem_cons_of_mem _ hy)
    simp only [tot]; omega
theorem look_le {w : ByteArray} : ∀ {l : List K_si}, Pos l → 0 ≤ look w l ∧ look w l ≤ tot l
  | [], _ => by simp [look, tot]
  | x :: l, h => by
    have h1 := h x (List.mem_cons_self ..)
    have hl : Pos l := fun y hy => h y (List.mem_cons_of_mem _ hy)
    have h2 := look_le (w := w) hl
    have h3 := tot_nonneg hl
    simp only [look, tot]; split <;> omega
theorem sumw_le {w : ByteArray} : ∀ {l : List K_si}, Pos l → 0 ≤ sumw w l ∧ sumw w l ≤ tot l
  | [], _ => by simp [sumw, tot]
  | x :: l, h => by
    have h1 := h x (List.mem_cons_self ..)
    have hl : Pos l := fun y hy => h y (List.mem_cons_of_mem _ hy)
    have h2 := sumw_le (w := w) hl
    simp only [sumw, tot]; split <;> omega
theorem upd_ok (x : K_si) (hx : 0 ≤ x.f1) : ∀ {l : List K_si}, Pos l → tot l + x.f1 ≤ 1000000000000 → (∀ w, look w (upd x l) = look w l + (if x.f0 = w then x.f1 else 0)) ∧ Pos (upd x l) ∧ tot (upd x l) = tot l + x.f1
  | [], _, h => by
    refine ⟨fun w => by simp [upd, look], fun y hy => ?_, by simp [upd, tot]⟩
    simp [upd] at hy; subst hy; exact hx
  | y :: l, hp, h => by
    have h1 := hp y (List.mem_cons_self ..)
    have hl : Pos l := fun z hz => hp z (List.mem_cons_of_mem _ hz)
    have h3 := tot_nonneg hl
    simp only [tot] at h
    by_cases hy : y.f0 = x.f0
    · simp only [upd, if_pos hy]
      rw [wrap64 (by omega)]
      refine ⟨fun w => ?_, fun z hz => ?_, by simp only [tot]; omega⟩
      · simp only [look, hy]; split <;> omega
      · rcases List.mem_cons.1 hz with rfl | hz
        · show 0 ≤ y.f1 + x.f1; omega
        · exact hl z hz
    · simp only [upd, if_neg hy]
      obtain ⟨i1, i2, i3⟩ := upd_ok x hx hl (by omega)
      refine ⟨fun w => ?_, fun z hz => ?_, by simp only [tot]; omega⟩
      · simp only [look]
        by_cases hw : y.f0 = w
        · simp only [if_pos hw]
          have : x.f0 ≠ w := fun e => hy (hw.trans e.symm)
          simp [this]
        · simp only [if_neg hw]; exact i1 w
      · rcases List.mem_cons.1 hz with rfl | hz
        · exact h1
        · exact i2 z hz
theorem fold_ok : ∀ {l v : List K_si}, Pos l → Pos v → tot v + tot l ≤ 1000000000000 → (∀ w, look w (l.foldl (fun v x => upd x v) v) = look w v + sumw w l) ∧ Pos (l.foldl (fun v x => upd x v) v) ∧ tot (l.foldl (fun v x => upd x v) v) = tot v + tot l
  | [], v, _, hv, _ => ⟨fun w => by simp [sumw], hv, by simp [tot]⟩
  | x :: l, v, hl, hv, h => by
    simp only [tot] at h
    have hx := hl x (List.mem_cons_self ..)
    have hl' : Pos l := fun z hz => hl z (List.mem_cons_of_mem _ hz)
    have ht := tot_nonneg hl'
    obtain ⟨i1, i2, i3⟩ := upd_ok x hx hv (by omega)
    obtain ⟨j1, j2, j3⟩ := fold_ok (l := l) (v := upd x v) hl' i2 (by omega)
    simp only [List.foldl_cons]
    refine ⟨fun w => ?_, j2, by simp only [tot]; omega⟩
    rw [j1, i1]; simp only [sumw]; omega
theorem tot_le {l : List K_si} {m : Int} (h : ∀ x ∈ l, x.f1 ≤ m) : tot l ≤ m * l.length := by
  induction l with
  | nil => simp [tot]
  | cons x l ih =>
    have h1 := h x (List.mem_cons_self ..)
    have h2 := ih fun y hy => h y (List.mem_cons_of_mem _ hy)
    simp only [tot, List.length_cons]
    rw [show m * ((l.length + 1 : Nat) : Int) = m * l.length + m by rw [Int.natCast_add, Int.mul_add]; simp]
    omega

theorem amount_loop (a : List K_si) (w : ByteArray) : ∀ (l : List K_si) (i v : Int), Pos l → 0 ≤ v → v + tot l ≤ 1000000000000 → ∃ j b, r80_0 a w l i v = .k0 (v + sumw w l) j b
  | [], i, v, _, _, _ => ⟨_, _, by simp [r80_0, sumw]; exact ⟨rfl, rfl⟩⟩
  | x :: l, i, v, hp, hv, h => by
    simp only [tot] at h
    have hx := hp x (List.mem_cons_self ..)
    have hl : Pos l := fun z hz => hp z (List.mem_cons_of_mem _ hz)
    have ht := tot_nonneg hl
    simp only [r80_0, ba_eq, sumw]
    by_cases hw : x.f0 = w
    · obtain ⟨j, b, e⟩ := amount_loop a w l (i + 1) (v + x.f1) hl (by omega) (by omega)
      refine ⟨j, b, ?_⟩
      rw [if_pos (by simp [hw]), wrap64 (by omega), e, if_pos hw]
      congr 1; omega
    · obtain ⟨j, b, e⟩ := amount_loop a w l (i + 1) v hl hv (by omega)
      refine ⟨j, b, ?_⟩
      rw [if_neg (by simp [hw]), e, if_neg hw]
      congr 1; omega
theorem amount_eq (a : List K_si) (w : ByteArray) (h : Pos a) (ht : tot a ≤ 1000000000000) : m80 a w = sumw w a := by
  obtain ⟨j, b, e⟩ := amount_loop a w a 0 0 h (by omega) (by omega)
  unfold m80
  rw [e]; simp

theorem win_loop (a : List K_si) : ∀ (l : List K_si) (i : Int), (match r46_0 a l i with | .k0 .. => (0 : Int) | .k1 => 5 | .k2 => 3) = 0 → ∀ x ∈ l, m113 x.f0 = true ∧ 1 ≤ x.f1 ∧ x.f1 ≤ 9999
  | [], i, _, x, hx => by cases hx
  | y :: l, i, h, x, hx => by
    simp only [r46_0] at h
    by_cases h1 : (!(m113 y.f0)) = true
    · simp [h1] at h
    · by_cases h2 : (!(m93 y.f1 1 9999)) = true
      · simp [h1, h2] at h
      · simp only [if_neg h1, if_neg h2] at h
        rcases List.mem_cons.1 hx with rfl | hx
        · have h3 : m93 x.f1 1 9999 = true := by simpa using h2
          exact ⟨by simpa using h1, (in_iff _ _ _).1 h3⟩
        · exact win_loop a l (i + 1) h x hx
theorem win_ok {a : List K_si} (h : m46 a = 0) : a.length ≤ 12 ∧ ∀ x ∈ a, m113 x.f0 = true ∧ 1 ≤ x.f1 ∧ x.f1 ≤ 9999 := by
  unfold m46 at h
  split at h
  · cases h
  · rename_i h2
    simp only [decide_eq_true_eq, List.length_map] at h2
    exact ⟨by omega, win_loop a a 0 h⟩
theorem win_pos {a : List K_si} (h : m46 a = 0) : Pos a ∧ tot a ≤ 119988 := by
  obtain ⟨h1, h2⟩ := win_ok h
  refine ⟨fun x hx => by have := h2 x hx; omega, ?_⟩
  have := tot_le (l := a) (m := 9999) fun x hx => (h2 x hx).2.2
  omega


theorem at_loop (a b : List K_si) (w : ByteArray) : ∀ (l : List K_si) (i : Int), (match r79_0 a w l i with | .k0 .. => (-1 : Int) | .k1 z => z) = (match r1014700_0 b w l i with | .k0 .. => (-1 : Int) | .k1 z => z)
  | [], i => rfl
  | x :: l, i => by
    have ih := at_loop a b w l (i + 1)
    simp only [r79_0, r1014700_0]
    by_cases h : (x.f0.toList == w.toList) = true
    · simp only [if_pos h]
    · simp only [if_neg h]; exact ih
theorem atx_eq (a : List K_si) (w : ByteArray) : m79 a w = m1014700 a w := by
  unfold m79 m1014700
  exact at_loop a a w a 0

theorem merge_loop (a b : List K_si) : ∀ (l : List K_si) (i j : Int) (v : List K_si), (match r108_0 a l i v with | .k0 w .. => w) = (match r112_0 b l j v with | .k0 w .. => w)
  | [], i, j, v => rfl
  | x :: l, i, j, v => by
    simp only [r108_0, r112_0, atx_eq]
    by_cases h : decide (m1014700 v x.f0 ≥ 0) = true
    · simp only [if_pos h]; exact merge_loop a b l (i + 1) (j + 1) _
    · simp only [if_neg h]; exact merge_loop a b l (i + 1) (j + 1) _
theorem merge_eq (a : List K_si) : m108 a = m112 a := by
  unfold m108 m112
  exact merge_loop a a a 0 0 []

theorem win1 (a : K_si) : m107 [a] = m109 a := by
  unfold m107
  simp only [r107_0, List.map_cons, List.map_nil, List.length_cons, List.length_nil]
  by_cases h : (m109 a != 0) = true
  · simp [h]
  · simp only [if_neg h]
    simp only [bne_iff_ne, ne_eq, Decidable.not_not] at h
    simp [h]
theorem push_is (a : List K_si) (b : K_si) (c : Int) : m40 a b c = (if ((m107 a) != 0) = true then (K_iLsiE.mk (m107 a) []) else if ((m109 b) != 0) = true then (K_iLsiE.mk (m109 b) []) else if (!(m110 c 1 12)) = true then (K_iLsiE.mk 3 []) else K_iLsiE.mk 0 (m111 a b c)) := by
  unfold m40
  rw [window_eq, window_eq, win1, in_eq]
  split
  · rfl
  · split
    · rfl
    · split
      · rfl
      · have q1 := len12_107 a (by assumption)
        have q2 := jn110 (a := c) (b := 1) (c := 12) (by assumption)
        rw [push_111 a b c (by omega)]
        have h : Int.toNat (vmax (((a.length + 1 : Nat) : Int) - c) 0) = a.length + 1 - c.toNat := by unfold vmax; split <;> omega
        congr 1
        simp only [List.length_map, List.length_append, List.length_cons, List.length_nil, List.length_take, List.length_drop, Nat.sub_zero, Nat.min_self, Nat.zero_add]
        rw [wrap64 (by omega), h]
        rw [List.take_of_length_le (by simp only [List.length_drop, List.length_append, List.length_cons, List.length_nil]; omega)]

theorem merge_fold (a : List K_si) : ∀ (l : List K_si) (i : Int) (v : List K_si), ∃ j b, r112_0 a l i v = .k0 (l.foldl (fun v x => upd x v) v) j b
  | [], i, v => ⟨_, _, rfl⟩
  | x :: l, i, v => by
    have e := step_upd (K_si.mk (⟨#[]⟩ : ByteArray) 0) x v
    simp only [r112_0, List.foldl_cons]
    by_cases h : decide (m1014700 v x.f0 ≥ 0) = true
    · rw [if_pos h] at e ⊢; rw [e]; exact merge_fold a l (i + 1) _
    · rw [if_neg h] at e ⊢; rw [e]; exact merge_fold a l (i + 1) _
theorem merge_is (a : List K_si) : m112 a = a.foldl (fun v x => upd x v) [] := by
  obtain ⟨j, b, e⟩ := merge_fold a a 0 []
  unfold m112
  rw [e]
theorem same (a : List K_si) (w : ByteArray) : m43 a w = m42 a w := by
  unfold m43 m42
  rw [window_eq]
  by_cases h : (m107 a != 0) = true
  · rw [if_pos h, if_pos h]
  · rw [if_neg h, if_neg h]
    have h0 : m46 a = 0 := by rw [window_eq]; simpa using h
    obtain ⟨hp, ht⟩ := win_pos h0
    rw [amount_eq a w hp (by omega)]
    obtain ⟨j1, j2, j3⟩ := fold_ok (l := a) (v := []) hp (fun x hx => by cases hx) (by simp [tot]; omega)
    have hl := j1 w
    rw [← merge_is, ← merge_eq] at hl
    simp only [look, Int.zero_add] at hl
    rw [atx_eq, at_pos, ← hl, look_pos (K_si.mk (⟨#[]⟩ : ByteArray) 0)]
    cases hpos : pos w (m108 a) with
    | none => simp
    | some p =>
      simp only []
      rw [if_neg (by simp), Int.toNat_natCast]
/-- Each worker once. -/
theorem upd_names (x : K_si) : ∀ (l : List K_si), (x.f0 ∈ l.map (fun z => z.f0) ∧ (upd x l).map (fun z => z.f0) = l.map (fun z => z.f0)) ∨ (x.f0 ∉ l.map (fun z => z.f0) ∧ (upd x l).map (fun z => z.f0) = l.map (fun z => z.f0) ++ [x.f0])
  | [] => .inr (by simp [upd])
  | y :: l => by
    by_cases hy : y.f0 = x.f0
    · exact .inl (by simp [upd, hy])
    · have hy' : ¬ x.f0 = y.f0 := fun e => hy e.symm
      simp only [upd, if_neg hy, List.map_cons]
      rcases upd_names x l with ⟨h1, h2⟩ | ⟨h1, h2⟩
      · exact .inl ⟨List.mem_cons_of_mem _ h1, by rw [h2]⟩
      · exact .inr ⟨by simp only [List.mem_cons, not_or]; exact ⟨hy', h1⟩, by rw [h2]; rfl⟩
def Once (l : List K_si) : Prop := (l.map (fun z => z.f0)).Nodup
theorem upd_once (x : K_si) {l : List K_si} (h : Once l) : Once (upd x l) := by
  unfold Once at h ⊢
  rcases upd_names x l with ⟨_, h2⟩ | ⟨hm, h2⟩
  · rw [h2]; exact h
  · rw [h2, List.nodup_append]
    refine ⟨h, by simp, ?_⟩
    intro a ha b hb e
    rw [List.mem_singleton.1 hb] at e
    exact hm (e ▸ ha)
theorem fold_once : ∀ (l : List K_si) {v : List K_si}, Once v → Once (l.foldl (fun v x => upd x v) v)
  | [], _, h => h
  | x :: l, _, h => fold_once l (upd_once x h)
theorem look_once : ∀ {l : List K_si}, Once l → ∀ x ∈ l, look x.f0 l = x.f1
  | [], _, x, hx => by cases hx
  | y :: l, h, x, hx => by
    unfold Once at h
    simp only [List.map_cons, List.nodup_cons] at h
    rcases List.mem_cons.1 hx with rfl | hx
    · simp [look]
    · have : ¬ y.f0 = x.f0 := fun e => h.1 (e ▸ List.mem_map.2 ⟨x, hx, rfl⟩)
      simp only [look, if_neg this]
      exact look_once h.2 x hx
theorem win_back (a : List K_si) : ∀ (l : List K_si) (i : Int), (∀ x ∈ l, m113 x.f0 = true ∧ 1 ≤ x.f1 ∧ x.f1 ≤ 9999) → (match r46_0 a l i with | .k0 .. => (0 : Int) | .k1 => 5 | .k2 => 3) = 0
  | [], i, _ => rfl
  | y :: l, i, h => by
    obtain ⟨h1, h2⟩ := h y (List.mem_cons_self ..)
    have h3 : m93 y.f1 1 9999 = true := (in_iff _ _ _).2 h2
    simp only [r46_0, h1, h3, Bool.not_true, Bool.false_eq_true, if_false]
    exact win_back a l (i + 1) fun x hx => h x (List.mem_cons_of_mem _ hx)
theorem win_is {a : List K_si} (hl : a.length ≤ 12) (h : ∀ x ∈ a, m113 x.f0 = true ∧ 1 ≤ x.f1 ∧ x.f1 ≤ 9999) : m46 a = 0 := by
  unfold m46
  rw [if_neg (by simp only [decide_eq_true_eq, List.length_map]; omega)]
  exact win_back a a 0 h
theorem one_ok {x : K_si} (h : m109 x = 0) : m113 x.f0 = true ∧ 1 ≤ x.f1 ∧ x.f1 ≤ 9999 := by
  rw [one_eq] at h
  split at h
  · cases h
  · rename_i h1
    split at h
    · cases h
    · rename_i h2
      exact ⟨by simpa using h1, (in_iff _ _ _).1 (by simpa using h2)⟩
theorem psame (a : List K_si) (b : K_si) (c : Int) : m40 a b c = m44 a b c := by
  rw [push_is]; unfold m44; rfl
theorem w_r0 (a0 : List Int) : ∀ (l : List K_si) (i v : Int), (∀ x ∈ l, (m42 (m40 (m39_0 a0) (m39_1 a0) (m39_2 a0)).f1 x.f0).f1 = x.f1) → Pos l → 0 ≤ v → v + tot l ≤ 1000000000000 → ∃ j b, r10_0 a0 l i v = .k0 (v + tot l) j b
  | [], i, v, _, _, _, _ => ⟨_, _, by simp [r10_0, tot]; exact ⟨rfl, rfl⟩⟩
  | x :: l, i, v, h, hp, hv, hb => by
    simp only [tot] at hb
    have hx := hp x (List.mem_cons_self ..)
    have hl : Pos l := fun z hz => hp z (List.mem_cons_of_mem _ hz)
    have ht := tot_nonneg hl
    have he := h x (List.mem_cons_self ..)
    obtain ⟨j, b, e⟩ := w_r0 a0 l (i + 1) (v + x.f1) (fun z hz => h z (List.mem_cons_of_mem _ hz)) hl (by omega) (by omega)
    refine ⟨j, b, ?_⟩
    simp only [r10_0]
    rw [if_neg (by rw [he]; simp), wrap64 (by omega), e]
    simp only [tot]
    congr 1; omega
theorem w_r1 (a0 : List Int) : ∀ (l : List K_si) (i v : Int), Pos l → tot l ≤ v → v ≤ 1000000000000 → ∃ j b, r10_1 a0 l i v = .k0 (v - tot l) j b
  | [], i, v, _, _, _ => ⟨_, _, by simp [r10_1, tot]; exact ⟨rfl, rfl⟩⟩
  | x :: l, i, v, hp, hv, hb => by
    simp only [tot] at hv
    have hx := hp x (List.mem_cons_self ..)
    have hl : Pos l := fun z hz => hp z (List.mem_cons_of_mem _ hz)
    have ht := tot_nonneg hl
    obtain ⟨j, b, e⟩ := w_r1 a0 l (i + 1) (v - x.f1) hl (by omega) (by omega)
    refine ⟨j, b, ?_⟩
    simp only [r10_1]
    rw [wrap64 (by omega), e]
    simp only [tot]
    congr 1; omega
theorem push_facts {L : List K_si} {W : K_si} {Z : Int} (hc : (m40 L W Z).f0 = 0) : ∃ q : List K_si, m40 L W Z = K_iLsiE.mk 0 (q ++ [W]) ∧ q.length = L.length - (L.length + 1 - Z.toNat) ∧ 1 ≤ Z ∧ Z ≤ 12 ∧ L.length ≤ 12 ∧ ∀ x ∈ q ++ [W], m113 x.f0 = true ∧ 1 ≤ x.f1 ∧ x.f1 ≤ 9999 := by
  rw [push_is] at hc ⊢
  by_cases h1 : ((m107 L) != 0) = true
  · rw [if_pos h1] at hc; simp only at hc; simp [hc] at h1
  rw [if_neg h1] at hc ⊢
  by_cases h2 : ((m109 W) != 0) = true
  · rw [if_pos h2] at hc; simp only at hc; simp [hc] at h2
  rw [if_neg h2] at hc ⊢
  by_cases h3 : (!(m110 Z 1 12)) = true
  · rw [if_pos h3] at hc; cases hc
  rw [if_neg h3]
  have q2 := jn110 (a := Z) (b := 1) (c := 12) h3
  have hL := win_ok (a := L) (by rw [window_eq]; simpa using h1)
  have hW := one_ok (x := W) (by simpa using h2)
  rw [push_111 L W Z (by omega)]
  have hk : L.length + 1 - Z.toNat ≤ L.length := by omega
  refine ⟨List.drop (L.length + 1 - Z.toNat) L, ?_, by rw [List.length_drop], q2.1, q2.2, hL.1, ?_⟩
  · rw [List.drop_append_of_le_length hk]
  · intro x hx
    rcases List.mem_append.1 hx with hx | hx
    · exact hL.2 x (List.mem_of_mem_drop hx)
    · rw [List.mem_singleton.1 hx]; exact hW
theorem pure (a0 : (List Int)) (w0 : wf_LyE a0) : m10 a0 = true := by
  unfold m10
  simp only [same]
  split
  · rfl
  rw [if_neg (by simp), if_neg (by simp)]
  by_cases hc : ((m40 (m39_0 a0) (m39_1 a0) (m39_2 a0)).f0 != 0) = true
  · rw [if_pos hc, ← psame]; simp
  rw [if_neg hc]
  obtain ⟨q, e, hq, hz1, hz2, hl, hok⟩ := push_facts (L := m39_0 a0) (W := m39_1 a0) (Z := m39_2 a0) (by simpa using hc)
  have hlen : (q ++ [m39_1 a0]).length = q.length + 1 := by simp
  have hf : m46 (q ++ [m39_1 a0]) = 0 := win_is (by rw [hlen]; omega) hok
  obtain ⟨hp, ht⟩ := win_pos hf
  obtain ⟨j1, j2, j3⟩ := fold_ok (l := q ++ [m39_1 a0]) (v := []) hp (fun x hx => by cases hx) (by simp only [tot]; omega)
  have ho := fold_once (q ++ [m39_1 a0]) (v := []) (by simp [Once])
  rw [← merge_is] at j1 j2 j3 ho
  have hm : m45 (q ++ [m39_1 a0]) = K_iLsiE.mk 0 (m112 (q ++ [m39_1 a0])) := by
    unfold m45; rw [hf]; rfl
  have ha : ∀ w, (m42 (q ++ [m39_1 a0]) w).f1 = sumw w (q ++ [m39_1 a0]) := by
    intro w
    unfold m42; rw [hf, amount_eq _ w hp (by omega)]; rfl
  have ht0 := tot_nonneg hp
  simp only [tot, Int.zero_add] at j3
  obtain ⟨a, b, e0⟩ := w_r0 a0 (m112 (q ++ [m39_1 a0])) 0 0 (by
    intro x hx
    rw [e]
    show (m42 (q ++ [m39_1 a0]) x.f0).f1 = x.f1
    rw [ha, ← look_once ho x hx, j1]
    simp [look]) j2 (by omega) (by omega)
  obtain ⟨c, d, e1⟩ := w_r1 a0 (q ++ [m39_1 a0]) 0 (tot (q ++ [m39_1 a0])) hp (by omega) (by omega)
  rw [e]
  simp only [hm, e0, j3, Int.zero_add, e1, Int.sub_self, hf, List.length_map, hlen]
  have hw1 : IntKind.wrap .i64 (((q.length + 1 : Nat) : Int) - 1) = (q.length : Int) := by rw [wrap64 (by omega)]; omega
  have hw2 : IntKind.wrap .i64 (((m39_0 a0).length : Int) + 1) = ((m39_0 a0).length : Int) + 1 := wrap64 (by omega)
  rw [hw1, hw2]
  have hg : List.getD (q ++ [m39_1 a0]) (Int.toNat (q.length : Int)) (K_si.mk (⟨#[]⟩ : ByteArray) 0) = m39_1 a0 := by
    rw [Int.toNat_natCast, List.getD_eq_getElem?_getD]; simp
  rw [hg]
  simp only [beq_self_eq_true, Bool.and_self, if_true, decide_eq_true_eq]
  rw [if_pos (by omega), if_pos (by omega)]
  simp only [beq_iff_eq]
  (repeat' split) <;> first | rfl | (exfalso; omega)

end Go.Proofs.YtfmkbpiobddhdaaDoor.Windows
