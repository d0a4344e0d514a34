/- What the functions compute. -/
import Derived.Test.YtfmkbpiobddhdaaDoorTCreditShare
import Derived.Test.YtfmkbpiobddhdaaDoorVNum
import Derived.Test.YtfmkbpiobddhdaaDoorVClone
import Derived.Test.YtfmkbpiobddhdaaDoorVExt
import Derived.Test.YtfmkbpiobddhdaaDoorXCreditShare
import Derived.KernelRfl
namespace Go.Proofs.YtfmkbpiobddhdaaDoor.CreditShare
open Go Go.Proofs.YtfmkbpiobddhdaaDoor.V
set_option linter.unusedVariables false
set_option linter.unusedSimpArgs false
set_option maxRecDepth 20000
abbrev _root_.Go.Proofs.YtfmkbpiobddhdaaDoor.V.B.i (x : Int) : B := .val (.int .i64 x)
abbrev _root_.Go.Proofs.YtfmkbpiobddhdaaDoor.V.D.i (x : Int) : D := .val (.int .i64 x)
abbrev _root_.Go.Proofs.YtfmkbpiobddhdaaDoor.V.CV.i (x : Int) : CV := .val (.int .i64 x)
abbrev _root_.Go.Proofs.YtfmkbpiobddhdaaDoor.V.SV.oi (x : Int) : SV := .one (.val (.int .i64 x))
abbrev _root_.Go.Proofs.YtfmkbpiobddhdaaDoor.V.Ret.oi (x : Int) : Ret := .one (.val (.int .i64 x))
open List (length_replicate length_map length_set length_append length_cons length_nil length_take length_drop take_of_length_le map_take map_drop map_set append_assoc getElem?_map map length take drop getD set)
def X : Ext := fun f args rs => (f = 106 ∧ CloneX 2 24 args rs) ∨ (f = 172 ∧ TrimX args rs)
structure K_si where
  f0 : ByteArray
  f1 : Int
def b_si (x : K_si) : List B := [(.val (.string x.f0)), (.val (.int .i64 x.f1))]
def d_si (x : K_si) : List D := [(.val (.string x.f0)), (.val (.int .i64 x.f1))]
theorem toBR_si : ∀ (l : List K_si), toBR (l.map d_si) = l.map b_si
  | [] => rfl
  | x :: l => by simp [toBR, toBL, toB, d_si, b_si, toBR_si l]
theorem fullR_si : ∀ (l : List K_si), fullR (l.map d_si) = true
  | [] => rfl
  | x :: l => by simp [fullR, fullL, full, d_si, fullR_si l]
theorem pureR_si : ∀ (l : List K_si), pureR (l.map d_si) = true
  | [] => rfl
  | x :: l => by simp [pureR, pureL, V.pure, d_si, pureR_si l]
theorem ft_si (a b : Nat) (l : List K_si) : fullR (take a (drop b (l.map d_si))) = true := by rw [← map_drop, ← map_take]; exact fullR_si _
theorem tbt_si (a b : Nat) (l : List K_si) : toBR (take a (drop b (l.map d_si))) = (take a (drop b l)).map b_si := by rw [← map_drop, ← map_take]; exact toBR_si _
theorem tb_si (l : List K_si) : toBR (take (l.map d_si).length (drop 0 (l.map d_si))) = l.map b_si := by rw [List.drop_zero, List.take_length]; exact toBR_si l
theorem lenB_si (l : List K_si) : ∀ r ∈ l.map b_si, r.length = 2 := by intro r h; obtain ⟨x, _, rfl⟩ := List.mem_map.1 h; rfl
theorem lenD_si (l : List K_si) : ∀ r ∈ l.map d_si, r.length = 2 := by intro r h; obtain ⟨x, _, rfl⟩ := List.mem_map.1 h; rfl
def os_si (x : K_si) : Prop := (ByteArray.size x.f0 ≤ 140737488351232)
theorem gos_si {l : List K_si} (h : ∀ z ∈ l, os_si z) (n : Nat) (d : K_si) (hd : os_si d) : os_si (l.getD n d) := by
  rw [List.getD_eq_getElem?_getD]; cases h2 : l[n]? with
  | none => simpa using hd
  | some x => exact h x (List.mem_of_getElem? h2)
theorem fromBR_si (n : Nat) (l : List K_si) : fromBR n (l.map b_si) = l.map d_si := by simp [fromBR, b_si, d_si, fromB, Function.comp_def]
theorem copy_si (l : List K_si) : (l.map d_si).all (fun x => x.all copyable) = true := by simp [d_si, copyable, Function.comp_def]
theorem ct_si (a b : Nat) (l : List K_si) : ((take a (drop b (l.map d_si))).all fun x => x.all copyable) = true := by rw [← map_drop, ← map_take]; exact copy_si _
structure K_R where
  f0 : Int
  f1 : Int
  f2 : Int
  f3 : (List K_si)
  f4 : Int
def b_R (x : K_R) : List B := [(.val (.int .i64 x.f0)), (.val (.int .i64 x.f1)), (.val (.int .i64 x.f2)), (.sl (map b_si x.f3)), (.val (.int .i64 x.f4))]
def d_R (x : K_R) : List D := [(.val (.int .i64 x.f0)), (.val (.int .i64 x.f1)), (.val (.int .i64 x.f2)), (.own 2 (map d_si x.f3)), (.val (.int .i64 x.f4))]
theorem toBR_R : ∀ (l : List K_R), toBR (l.map d_R) = l.map b_R
  | [] => rfl
  | x :: l => by simp [toBR, toBL, toB, d_R, b_R, toBR_R l, toBR_si]
theorem fullR_R : ∀ (l : List K_R), fullR (l.map d_R) = true
  | [] => rfl
  | x :: l => by simp [fullR, fullL, full, d_R, fullR_R l, fullR_si]
theorem pureR_R : ∀ (l : List K_R), pureR (l.map d_R) = true
  | [] => rfl
  | x :: l => by simp [pureR, pureL, V.pure, d_R, pureR_R l, pureR_si]
theorem ft_R (a b : Nat) (l : List K_R) : fullR (take a (drop b (l.map d_R))) = true := by rw [← map_drop, ← map_take]; exact fullR_R _
theorem tbt_R (a b : Nat) (l : List K_R) : toBR (take a (drop b (l.map d_R))) = (take a (drop b l)).map b_R := by rw [← map_drop, ← map_take]; exact toBR_R _
theorem tb_R (l : List K_R) : toBR (take (l.map d_R).length (drop 0 (l.map d_R))) = l.map b_R := by rw [List.drop_zero, List.take_length]; exact toBR_R l
theorem lenB_R (l : List K_R) : ∀ r ∈ l.map b_R, r.length = 5 := by intro r h; obtain ⟨x, _, rfl⟩ := List.mem_map.1 h; rfl
theorem lenD_R (l : List K_R) : ∀ r ∈ l.map d_R, r.length = 5 := by intro r h; obtain ⟨x, _, rfl⟩ := List.mem_map.1 h; rfl
def ok_R (x : K_R) : Prop := (length x.f3 * 24 ≤ 140737488351232)
def os_R (x : K_R) : Prop := (length x.f3 * 24 ≤ 140737488351232) ∧ (∀ z ∈ x.f3, os_si z)
theorem os_ok_R (x : K_R) (h : os_R x) : ok_R x := h.1
theorem gos_R {l : List K_R} (h : ∀ z ∈ l, os_R z) (n : Nat) (d : K_R) (hd : os_R d) : os_R (l.getD n d) := by
  rw [List.getD_eq_getElem?_getD]; cases h2 : l[n]? with
  | none => simpa using hd
  | some x => exact h x (List.mem_of_getElem? h2)
theorem gok_R {l : List K_R} (h : ∀ z ∈ l, ok_R z) (n : Nat) (d : K_R) (hd : ok_R d) : ok_R (l.getD n d) := by
  rw [List.getD_eq_getElem?_getD]; cases h2 : l[n]? with
  | none => simpa using hd
  | some x => exact h x (List.mem_of_getElem? h2)
structure K_B where
  f0 : Int
  f1 : Int
  f2 : (List K_si)
  f3 : (List K_R)
  f4 : (List K_si)
  f5 : Int
  f6 : Int
  f7 : Int
def b_B (x : K_B) : List B := [(.val (.int .i64 x.f0)), (.val (.int .i64 x.f1)), (.sl (map b_si x.f2)), (.sl (map b_R x.f3)), (.sl (map b_si x.f4)), (.val (.int .i64 x.f5)), (.val (.int .i64 x.f6)), (.val (.int .i64 x.f7))]
def d_B (x : K_B) : List D := [(.val (.int .i64 x.f0)), (.val (.int .i64 x.f1)), (.own 2 (map d_si x.f2)), (.own 5 (map d_R x.f3)), (.own 2 (map d_si x.f4)), (.val (.int .i64 x.f5)), (.val (.int .i64 x.f6)), (.val (.int .i64 x.f7))]
theorem toBR_B : ∀ (l : List K_B), toBR (l.map d_B) = l.map b_B
  | [] => rfl
  | x :: l => by simp [toBR, toBL, toB, d_B, b_B, toBR_B l, toBR_si, toBR_R]
theorem fullR_B : ∀ (l : List K_B), fullR (l.map d_B) = true
  | [] => rfl
  | x :: l => by simp [fullR, fullL, full, d_B, fullR_B l, fullR_si, fullR_R]
theorem pureR_B : ∀ (l : List K_B), pureR (l.map d_B) = true
  | [] => rfl
  | x :: l => by simp [pureR, pureL, V.pure, d_B, pureR_B l, pureR_si, pureR_R]
theorem ft_B (a b : Nat) (l : List K_B) : fullR (take a (drop b (l.map d_B))) = true := by rw [← map_drop, ← map_take]; exact fullR_B _
theorem tbt_B (a b : Nat) (l : List K_B) : toBR (take a (drop b (l.map d_B))) = (take a (drop b l)).map b_B := by rw [← map_drop, ← map_take]; exact toBR_B _
theorem tb_B (l : List K_B) : toBR (take (l.map d_B).length (drop 0 (l.map d_B))) = l.map b_B := by rw [List.drop_zero, List.take_length]; exact toBR_B l
theorem lenB_B (l : List K_B) : ∀ r ∈ l.map b_B, r.length = 8 := by intro r h; obtain ⟨x, _, rfl⟩ := List.mem_map.1 h; rfl
theorem lenD_B (l : List K_B) : ∀ r ∈ l.map d_B, r.length = 8 := by intro r h; obtain ⟨x, _, rfl⟩ := List.mem_map.1 h; rfl
def ok_B (x : K_B) : Prop := (length x.f2 * 24 ≤ 140737488351232) ∧ (length x.f3 * 56 ≤ 140737488351232) ∧ (∀ z ∈ x.f3, ok_R z) ∧ (length x.f4 * 24 ≤ 140737488351232)
def os_B (x : K_B) : Prop := (length x.f2 * 24 ≤ 140737488351232) ∧ (∀ z ∈ x.f2, os_si z) ∧ (length x.f3 * 56 ≤ 140737488351232) ∧ (∀ z ∈ x.f3, os_R z) ∧ (length x.f4 * 24 ≤ 140737488351232) ∧ (∀ z ∈ x.f4, os_si z)
theorem os_ok_B (x : K_B) (h : os_B x) : ok_B x := ⟨h.1, h.2.2.1, fun z hz => os_ok_R z (h.2.2.2.1 z hz), h.2.2.2.2.1⟩
theorem gos_B {l : List K_B} (h : ∀ z ∈ l, os_B z) (n : Nat) (d : K_B) (hd : os_B d) : os_B (l.getD n d) := by
  rw [List.getD_eq_getElem?_getD]; cases h2 : l[n]? with
  | none => simpa using hd
  | some x => exact h x (List.mem_of_getElem? h2)
theorem gok_B {l : List K_B} (h : ∀ z ∈ l, ok_B z) (n : Nat) (d : K_B) (hd : ok_B d) : ok_B (l.getD n d) := by
  rw [List.getD_eq_getElem?_getD]; cases h2 : l[n]? with
  | none => simpa using hd
  | some x => exact h x (List.mem_of_getElem? h2)
def b_b (x : Bool) : List B := [(.val (.bool x))]
def d_b (x : Bool) : List D := [(.val (.bool x))]
theorem toBR_b : ∀ (l : List Bool), toBR (l.map d_b) = l.map b_b
  | [] => rfl
  | x :: l => by simp [toBR, toBL, toB, d_b, b_b, toBR_b l]
theorem fullR_b : ∀ (l : List Bool), fullR (l.map d_b) = true
  | [] => rfl
  | x :: l => by simp [fullR, fullL, full, d_b, fullR_b l]
theorem pureR_b : ∀ (l : List Bool), pureR (l.map d_b) = true
  | [] => rfl
  | x :: l => by simp [pureR, pureL, V.pure, d_b, pureR_b l]
theorem ft_b (a b : Nat) (l : List Bool) : fullR (take a (drop b (l.map d_b))) = true := by rw [← map_drop, ← map_take]; exact fullR_b _
theorem tbt_b (a b : Nat) (l : List Bool) : toBR (take a (drop b (l.map d_b))) = (take a (drop b l)).map b_b := by rw [← map_drop, ← map_take]; exact toBR_b _
theorem tb_b (l : List Bool) : toBR (take (l.map d_b).length (drop 0 (l.map d_b))) = l.map b_b := by rw [List.drop_zero, List.take_length]; exact toBR_b l
theorem lenB_b (l : List Bool) : ∀ r ∈ l.map b_b, r.length = 1 := by intro r h; obtain ⟨x, _, rfl⟩ := List.mem_map.1 h; rfl
theorem lenD_b (l : List Bool) : ∀ r ∈ l.map d_b, r.length = 1 := by intro r h; obtain ⟨x, _, rfl⟩ := List.mem_map.1 h; rfl
theorem fromBR_b (n : Nat) (l : List Bool) : fromBR n (l.map b_b) = l.map d_b := by simp [fromBR, b_b, d_b, fromB, Function.comp_def]
theorem copy_b (l : List Bool) : (l.map d_b).all (fun x => x.all copyable) = true := by simp [d_b, copyable, Function.comp_def]
theorem ct_b (a b : Nat) (l : List Bool) : ((take a (drop b (l.map d_b))).all fun x => x.all copyable) = true := by rw [← map_drop, ← map_take]; exact copy_b _
def b_i (x : Int) : List B := [(.val (.int .i64 x))]
def d_i (x : Int) : List D := [(.val (.int .i64 x))]
theorem toBR_i : ∀ (l : List Int), toBR (l.map d_i) = l.map b_i
  | [] => rfl
  | x :: l => by simp [toBR, toBL, toB, d_i, b_i, toBR_i l]
theorem fullR_i : ∀ (l : List Int), fullR (l.map d_i) = true
  | [] => rfl
  | x :: l => by simp [fullR, fullL, full, d_i, fullR_i l]
theorem pureR_i : ∀ (l : List Int), pureR (l.map d_i) = true
  | [] => rfl
  | x :: l => by simp [pureR, pureL, V.pure, d_i, pureR_i l]
theorem ft_i (a b : Nat) (l : List Int) : fullR (take a (drop b (l.map d_i))) = true := by rw [← map_drop, ← map_take]; exact fullR_i _
theorem tbt_i (a b : Nat) (l : List Int) : toBR (take a (drop b (l.map d_i))) = (take a (drop b l)).map b_i := by rw [← map_drop, ← map_take]; exact toBR_i _
theorem tb_i (l : List Int) : toBR (take (l.map d_i).length (drop 0 (l.map d_i))) = l.map b_i := by rw [List.drop_zero, List.take_length]; exact toBR_i l
theorem lenB_i (l : List Int) : ∀ r ∈ l.map b_i, r.length = 1 := by intro r h; obtain ⟨x, _, rfl⟩ := List.mem_map.1 h; rfl
theorem lenD_i (l : List Int) : ∀ r ∈ l.map d_i, r.length = 1 := by intro r h; obtain ⟨x, _, rfl⟩ := List.mem_map.1 h; rfl
theorem fromBR_i (n : Nat) (l : List Int) : fromBR n (l.map b_i) = l.map d_i := by simp [fromBR, b_i, d_i, fromB, Function.comp_def]
theorem copy_i (l : List Int) : (l.map d_i).all (fun x => x.all copyable) = true := by simp [d_i, copyable, Function.comp_def]
theorem ct_i (a b : Nat) (l : List Int) : ((take a (drop b (l.map d_i))).all fun x => x.all copyable) = true := by rw [← map_drop, ← map_take]; exact copy_i _
structure K_C where
  f0 : Int
  f1 : Int
  f2 : Int
  f3 : Int
  f4 : (List K_si)
  f5 : (List K_R)
  f6 : (List K_si)
  f7 : Int
  f8 : Int
  f9 : Int
def b_C (x : K_C) : List B := [(.val (.int .i64 x.f0)), (.val (.int .i64 x.f1)), (.val (.int .i64 x.f2)), (.val (.int .i64 x.f3)), (.sl (map b_si x.f4)), (.sl (map b_R x.f5)), (.sl (map b_si x.f6)), (.val (.int .i64 x.f7)), (.val (.int .i64 x.f8)), (.val (.int .i64 x.f9))]
def d_C (x : K_C) : List D := [(.val (.int .i64 x.f0)), (.val (.int .i64 x.f1)), (.val (.int .i64 x.f2)), (.val (.int .i64 x.f3)), (.own 2 (map d_si x.f4)), (.own 5 (map d_R x.f5)), (.own 2 (map d_si x.f6)), (.val (.int .i64 x.f7)), (.val (.int .i64 x.f8)), (.val (.int .i64 x.f9))]
theorem toBR_C : ∀ (l : List K_C), toBR (l.map d_C) = l.map b_C
  | [] => rfl
  | x :: l => by simp [toBR, toBL, toB, d_C, b_C, toBR_C l, toBR_si, toBR_R]
theorem fullR_C : ∀ (l : List K_C), fullR (l.map d_C) = true
  | [] => rfl
  | x :: l => by simp [fullR, fullL, full, d_C, fullR_C l, fullR_si, fullR_R]
theorem pureR_C : ∀ (l : List K_C), pureR (l.map d_C) = true
  | [] => rfl
  | x :: l => by simp [pureR, pureL, V.pure, d_C, pureR_C l, pureR_si, pureR_R]
theorem ft_C (a b : Nat) (l : List K_C) : fullR (take a (drop b (l.map d_C))) = true := by rw [← map_drop, ← map_take]; exact fullR_C _
theorem tbt_C (a b : Nat) (l : List K_C) : toBR (take a (drop b (l.map d_C))) = (take a (drop b l)).map b_C := by rw [← map_drop, ← map_take]; exact toBR_C _
theorem tb_C (l : List K_C) : toBR (take (l.map d_C).length (drop 0 (l.map d_C))) = l.map b_C := by rw [List.drop_zero, List.take_length]; exact toBR_C l
theorem lenB_C (l : List K_C) : ∀ r ∈ l.map b_C, r.length = 10 := by intro r h; obtain ⟨x, _, rfl⟩ := List.mem_map.1 h; rfl
theorem lenD_C (l : List K_C) : ∀ r ∈ l.map d_C, r.length = 10 := by intro r h; obtain ⟨x, _, rfl⟩ := List.mem_map.1 h; rfl
def ok_C (x : K_C) : Prop := (length x.f4 * 24 ≤ 140737488351232) ∧ (length x.f5 * 56 ≤ 140737488351232) ∧ (∀ z ∈ x.f5, ok_R z) ∧ (length x.f6 * 24 ≤ 140737488351232)
def os_C (x : K_C) : Prop := (length x.f4 * 24 ≤ 140737488351232) ∧ (∀ z ∈ x.f4, os_si z) ∧ (length x.f5 * 56 ≤ 140737488351232) ∧ (∀ z ∈ x.f5, os_R z) ∧ (length x.f6 * 24 ≤ 140737488351232) ∧ (∀ z ∈ x.f6, os_si z)
theorem os_ok_C (x : K_C) (h : os_C x) : ok_C x := ⟨h.1, h.2.2.1, fun z hz => os_ok_R z (h.2.2.2.1 z hz), h.2.2.2.2.1⟩
theorem gos_C {l : List K_C} (h : ∀ z ∈ l, os_C z) (n : Nat) (d : K_C) (hd : os_C d) : os_C (l.getD n d) := by
  rw [List.getD_eq_getElem?_getD]; cases h2 : l[n]? with
  | none => simpa using hd
  | some x => exact h x (List.mem_of_getElem? h2)
theorem gok_C {l : List K_C} (h : ∀ z ∈ l, ok_C z) (n : Nat) (d : K_C) (hd : ok_C d) : ok_C (l.getD n d) := by
  rw [List.getD_eq_getElem?_getD]; cases h2 : l[n]? with
  | none => simpa using hd
  | some x => exact h x (List.mem_of_getElem? h2)
def b_LsiE (x : (List K_si)) : List B := [(.sl (map b_si x))]
def d_LsiE (x : (List K_si)) : List D := [(.own 2 (map d_si x))]
theorem toBR_LsiE : ∀ (l : List (List K_si)), toBR (l.map d_LsiE) = l.map b_LsiE
  | [] => rfl
  | x :: l => by simp [toBR, toBL, toB, d_LsiE, b_LsiE, toBR_LsiE l, toBR_si]
theorem fullR_LsiE : ∀ (l : List (List K_si)), fullR (l.map d_LsiE) = true
  | [] => rfl
  | x :: l => by simp [fullR, fullL, full, d_LsiE, fullR_LsiE l, fullR_si]
theorem pureR_LsiE : ∀ (l : List (List K_si)), pureR (l.map d_LsiE) = true
  | [] => rfl
  | x :: l => by simp [pureR, pureL, V.pure, d_LsiE, pureR_LsiE l, pureR_si]
theorem ft_LsiE (a b : Nat) (l : List (List K_si)) : fullR (take a (drop b (l.map d_LsiE))) = true := by rw [← map_drop, ← map_take]; exact fullR_LsiE _
theorem tbt_LsiE (a b : Nat) (l : List (List K_si)) : toBR (take a (drop b (l.map d_LsiE))) = (take a (drop b l)).map b_LsiE := by rw [← map_drop, ← map_take]; exact toBR_LsiE _
theorem tb_LsiE (l : List (List K_si)) : toBR (take (l.map d_LsiE).length (drop 0 (l.map d_LsiE))) = l.map b_LsiE := by rw [List.drop_zero, List.take_length]; exact toBR_LsiE l
theorem lenB_LsiE (l : List (List K_si)) : ∀ r ∈ l.map b_LsiE, r.length = 1 := by intro r h; obtain ⟨x, _, rfl⟩ := List.mem_map.1 h; rfl
theorem lenD_LsiE (l : List (List K_si)) : ∀ r ∈ l.map d_LsiE, r.length = 1 := by intro r h; obtain ⟨x, _, rfl⟩ := List.mem_map.1 h; rfl
def ok_LsiE (x : (List K_si)) : Prop := (length x * 24 ≤ 140737488351232)
def os_LsiE (x : (List K_si)) : Prop := (length x * 24 ≤ 140737488351232) ∧ (∀ z ∈ x, os_si z)
theorem os_ok_LsiE (x : (List K_si)) (h : os_LsiE x) : ok_LsiE x := h.1
theorem gos_LsiE {l : List (List K_si)} (h : ∀ z ∈ l, os_LsiE z) (n : Nat) (d : (List K_si)) (hd : os_LsiE d) : os_LsiE (l.getD n d) := by
  rw [List.getD_eq_getElem?_getD]; cases h2 : l[n]? with
  | none => simpa using hd
  | some x => exact h x (List.mem_of_getElem? h2)
theorem gok_LsiE {l : List (List K_si)} (h : ∀ z ∈ l, ok_LsiE z) (n : Nat) (d : (List K_si)) (hd : ok_LsiE d) : ok_LsiE (l.getD n d) := by
  rw [List.getD_eq_getElem?_getD]; cases h2 : l[n]? with
  | none => simpa using hd
  | some x => exact h x (List.mem_of_getElem? h2)
structure K_iLsiE where
  f0 : Int
  f1 : (List K_si)
def b_iLsiE (x : K_iLsiE) : List B := [(.val (.int .i64 x.f0)), (.sl (map b_si x.f1))]
def d_iLsiE (x : K_iLsiE) : List D := [(.val (.int .i64 x.f0)), (.own 2 (map d_si x.f1))]
theorem toBR_iLsiE : ∀ (l : List K_iLsiE), toBR (l.map d_iLsiE) = l.map b_iLsiE
  | [] => rfl
  | x :: l => by simp [toBR, toBL, toB, d_iLsiE, b_iLsiE, toBR_iLsiE l, toBR_si]
theorem fullR_iLsiE : ∀ (l : List K_iLsiE), fullR (l.map d_iLsiE) = true
  | [] => rfl
  | x :: l => by simp [fullR, fullL, full, d_iLsiE, fullR_iLsiE l, fullR_si]
theorem pureR_iLsiE : ∀ (l : List K_iLsiE), pureR (l.map d_iLsiE) = true
  | [] => rfl
  | x :: l => by simp [pureR, pureL, V.pure, d_iLsiE, pureR_iLsiE l, pureR_si]
theorem ft_iLsiE (a b : Nat) (l : List K_iLsiE) : fullR (take a (drop b (l.map d_iLsiE))) = true := by rw [← map_drop, ← map_take]; exact fullR_iLsiE _
theorem tbt_iLsiE (a b : Nat) (l : List K_iLsiE) : toBR (take a (drop b (l.map d_iLsiE))) = (take a (drop b l)).map b_iLsiE := by rw [← map_drop, ← map_take]; exact toBR_iLsiE _
theorem tb_iLsiE (l : List K_iLsiE) : toBR (take (l.map d_iLsiE).length (drop 0 (l.map d_iLsiE))) = l.map b_iLsiE := by rw [List.drop_zero, List.take_length]; exact toBR_iLsiE l
theorem lenB_iLsiE (l : List K_iLsiE) : ∀ r ∈ l.map b_iLsiE, r.length = 2 := by intro r h; obtain ⟨x, _, rfl⟩ := List.mem_map.1 h; rfl
theorem lenD_iLsiE (l : List K_iLsiE) : ∀ r ∈ l.map d_iLsiE, r.length = 2 := by intro r h; obtain ⟨x, _, rfl⟩ := List.mem_map.1 h; rfl
def ok_iLsiE (x : K_iLsiE) : Prop := (length x.f1 * 24 ≤ 140737488351232)
def os_iLsiE (x : K_iLsiE) : Prop := (length x.f1 * 24 ≤ 140737488351232) ∧ (∀ z ∈ x.f1, os_si z)
theorem os_ok_iLsiE (x : K_iLsiE) (h : os_iLsiE x) : ok_iLsiE x := h.1
theorem gos_iLsiE {l : List K_iLsiE} (h : ∀ z ∈ l, os_iLsiE z) (n : Nat) (d : K_iLsiE) (hd : os_iLsiE d) : os_iLsiE (l.getD n d) := by
  rw [List.getD_eq_getElem?_getD]; cases h2 : l[n]? with
  | none => simpa using hd
  | some x => exact h x (List.mem_of_getElem? h2)
theorem gok_iLsiE {l : List K_iLsiE} (h : ∀ z ∈ l, ok_iLsiE z) (n : Nat) (d : K_iLsiE) (hd : ok_iLsiE d) : ok_iLsiE (l.getD n d) := by
  rw [List.getD_eq_getElem?_getD]; cases h2 : l[n]? with
  | none => simpa using hd
  | some x => exact h x (List.mem_of_getElem? h2)
def b_Q (x : (List K_R)) : List B := [(.sl (map b_R x))]
def d_Q (x : (List K_R)) : List D := [(.own 5 (map d_R x))]
theorem toBR_Q : ∀ (l : List (List K_R)), toBR (l.map d_Q) = l.map b_Q
  | [] => rfl
  | x :: l => by simp [toBR, toBL, toB, d_Q, b_Q, toBR_Q l, toBR_R]
theorem fullR_Q : ∀ (l : List (List K_R)), fullR (l.map d_Q) = true
  | [] => rfl
  | x :: l => by simp [fullR, fullL, full, d_Q, fullR_Q l, fullR_R]
theorem pureR_Q : ∀ (l : List (List K_R)), pureR (l.map d_Q) = true
  | [] => rfl
  | x :: l => by simp [pureR, pureL, V.pure, d_Q, pureR_Q l, pureR_R]
theorem ft_Q (a b : Nat) (l : List (List K_R)) : fullR (take a (drop b (l.map d_Q))) = true := by rw [← map_drop, ← map_take]; exact fullR_Q _
theorem tbt_Q (a b : Nat) (l : List (List K_R)) : toBR (take a (drop b (l.map d_Q))) = (take a (drop b l)).map b_Q := by rw [← map_drop, ← map_take]; exact toBR_Q _
theorem tb_Q (l : List (List K_R)) : toBR (take (l.map d_Q).length (drop 0 (l.map d_Q))) = l.map b_Q := by rw [List.drop_zero, List.take_length]; exact toBR_Q l
theorem lenB_Q (l : List (List K_R)) : ∀ r ∈ l.map b_Q, r.length = 1 := by intro r h; obtain ⟨x, _, rfl⟩ := List.mem_map.1 h; rfl
theorem lenD_Q (l : List (List K_R)) : ∀ r ∈ l.map d_Q, r.length = 1 := by intro r h; obtain ⟨x, _, rfl⟩ := List.mem_map.1 h; rfl
def ok_Q (x : (List K_R)) : Prop := (length x * 56 ≤ 140737488351232) ∧ (∀ z ∈ x, ok_R z)
def os_Q (x : (List K_R)) : Prop := (length x * 56 ≤ 140737488351232) ∧ (∀ z ∈ x, os_R z)
theorem os_ok_Q (x : (List K_R)) (h : os_Q x) : ok_Q x := ⟨h.1, fun z hz => os_ok_R z (h.2 z hz)⟩
theorem gos_Q {l : List (List K_R)} (h : ∀ z ∈ l, os_Q z) (n : Nat) (d : (List K_R)) (hd : os_Q d) : os_Q (l.getD n d) := by
  rw [List.getD_eq_getElem?_getD]; cases h2 : l[n]? with
  | none => simpa using hd
  | some x => exact h x (List.mem_of_getElem? h2)
theorem gok_Q {l : List (List K_R)} (h : ∀ z ∈ l, ok_Q z) (n : Nat) (d : (List K_R)) (hd : ok_Q d) : ok_Q (l.getD n d) := by
  rw [List.getD_eq_getElem?_getD]; cases h2 : l[n]? with
  | none => simpa using hd
  | some x => exact h x (List.mem_of_getElem? h2)
def b_s (x : ByteArray) : List B := [(.val (.string x))]
def d_s (x : ByteArray) : List D := [(.val (.string x))]
theorem toBR_s : ∀ (l : List ByteArray), toBR (l.map d_s) = l.map b_s
  | [] => rfl
  | x :: l => by simp [toBR, toBL, toB, d_s, b_s, toBR_s l]
theorem fullR_s : ∀ (l : List ByteArray), fullR (l.map d_s) = true
  | [] => rfl
  | x :: l => by simp [fullR, fullL, full, d_s, fullR_s l]
theorem pureR_s : ∀ (l : List ByteArray), pureR (l.map d_s) = true
  | [] => rfl
  | x :: l => by simp [pureR, pureL, V.pure, d_s, pureR_s l]
theorem ft_s (a b : Nat) (l : List ByteArray) : fullR (take a (drop b (l.map d_s))) = true := by rw [← map_drop, ← map_take]; exact fullR_s _
theorem tbt_s (a b : Nat) (l : List ByteArray) : toBR (take a (drop b (l.map d_s))) = (take a (drop b l)).map b_s := by rw [← map_drop, ← map_take]; exact toBR_s _
theorem tb_s (l : List ByteArray) : toBR (take (l.map d_s).length (drop 0 (l.map d_s))) = l.map b_s := by rw [List.drop_zero, List.take_length]; exact toBR_s l
theorem lenB_s (l : List ByteArray) : ∀ r ∈ l.map b_s, r.length = 1 := by intro r h; obtain ⟨x, _, rfl⟩ := List.mem_map.1 h; rfl
theorem lenD_s (l : List ByteArray) : ∀ r ∈ l.map d_s, r.length = 1 := by intro r h; obtain ⟨x, _, rfl⟩ := List.mem_map.1 h; rfl
def os_s (x : ByteArray) : Prop := (ByteArray.size x ≤ 140737488351232)
theorem gos_s {l : List ByteArray} (h : ∀ z ∈ l, os_s z) (n : Nat) (d : ByteArray) (hd : os_s d) : os_s (l.getD n d) := by
  rw [List.getD_eq_getElem?_getD]; cases h2 : l[n]? with
  | none => simpa using hd
  | some x => exact h x (List.mem_of_getElem? h2)
theorem fromBR_s (n : Nat) (l : List ByteArray) : fromBR n (l.map b_s) = l.map d_s := by simp [fromBR, b_s, d_s, fromB, Function.comp_def]
theorem copy_s (l : List ByteArray) : (l.map d_s).all (fun x => x.all copyable) = true := by simp [d_s, copyable, Function.comp_def]
theorem ct_s (a b : Nat) (l : List ByteArray) : ((take a (drop b (l.map d_s))).all fun x => x.all copyable) = true := by rw [← map_drop, ← map_take]; exact copy_s _
def b_y (x : Int) : List B := [(.val (.int .u8 x))]
def d_y (x : Int) : List D := [(.val (.int .u8 x))]
theorem toBR_y : ∀ (l : List Int), toBR (l.map d_y) = l.map b_y
  | [] => rfl
  | x :: l => by simp [toBR, toBL, toB, d_y, b_y, toBR_y l]
theorem fullR_y : ∀ (l : List Int), fullR (l.map d_y) = true
  | [] => rfl
  | x :: l => by simp [fullR, fullL, full, d_y, fullR_y l]
theorem pureR_y : ∀ (l : List Int), pureR (l.map d_y) = true
  | [] => rfl
  | x :: l => by simp [pureR, pureL, V.pure, d_y, pureR_y l]
theorem ft_y (a b : Nat) (l : List Int) : fullR (take a (drop b (l.map d_y))) = true := by rw [← map_drop, ← map_take]; exact fullR_y _
theorem tbt_y (a b : Nat) (l : List Int) : toBR (take a (drop b (l.map d_y))) = (take a (drop b l)).map b_y := by rw [← map_drop, ← map_take]; exact toBR_y _
theorem tb_y (l : List Int) : toBR (take (l.map d_y).length (drop 0 (l.map d_y))) = l.map b_y := by rw [List.drop_zero, List.take_length]; exact toBR_y l
theorem lenB_y (l : List Int) : ∀ r ∈ l.map b_y, r.length = 1 := by intro r h; obtain ⟨x, _, rfl⟩ := List.mem_map.1 h; rfl
theorem lenD_y (l : List Int) : ∀ r ∈ l.map d_y, r.length = 1 := by intro r h; obtain ⟨x, _, rfl⟩ := List.mem_map.1 h; rfl
theorem fromBR_y (n : Nat) (l : List Int) : fromBR n (l.map b_y) = l.map d_y := by simp [fromBR, b_y, d_y, fromB, Function.comp_def]
theorem copy_y (l : List Int) : (l.map d_y).all (fun x => x.all copyable) = true := by simp [d_y, copyable, Function.comp_def]
theorem ct_y (a b : Nat) (l : List Int) : ((take a (drop b (l.map d_y))).all fun x => x.all copyable) = true := by rw [← map_drop, ← map_take]; exact copy_y _
def strInts (s : ByteArray) : List Int := s.data.toList.map fun b => (b.toNat : Int)
theorem byteRows_eq (s : ByteArray) : byteRows s = (strInts s).map d_y := by simp [byteRows, strInts, d_y, Function.comp_def]
theorem ints_y : ∀ (l : List Int), rowsInts .u8 (l.map d_y) = some l
  | [] => rfl
  | x :: l => by simp only [List.map_cons, d_y, rowsInts, ints_y l]; rfl
attribute [local simp] toBR_si fullR_si pureR_si lenB_si lenD_si fromBR_si copy_si toBR_R fullR_R pureR_R lenB_R lenD_R toBR_B fullR_B pureR_B lenB_B lenD_B toBR_b fullR_b pureR_b lenB_b lenD_b fromBR_b copy_b toBR_i fullR_i pureR_i lenB_i lenD_i fromBR_i copy_i toBR_C fullR_C pureR_C lenB_C lenD_C toBR_LsiE fullR_LsiE pureR_LsiE lenB_LsiE lenD_LsiE toBR_iLsiE fullR_iLsiE pureR_iLsiE lenB_iLsiE lenD_iLsiE toBR_Q fullR_Q pureR_Q lenB_Q lenD_Q toBR_s fullR_s pureR_s lenB_s lenD_s fromBR_s copy_s toBR_y fullR_y pureR_y lenB_y lenD_y fromBR_y copy_y

/-! loop.example/g00539/laws.szWeight -/
def m22 (a0 : K_si) (a1 : Int) : Int :=
  if (decide ((IntKind.wrap .i64 (a1 - (ByteArray.size a0.f0 : Int))) < 0)) = true then (-1) else
  (IntKind.wrap .i64 (a1 - (ByteArray.size a0.f0 : Int)))
theorem e22 {a0 : K_si} {a1 : Int} : Ev F X (.call 22 [(.agg [(.val (.string a0.f0)), (.val (.int .i64 a0.f1))]), (.one (.val (.int .i64 a1)))] [] [] [(.one (.val (.int .i64 (m22 a0 a1))))]) := by
  unfold m22
  by_cases h0 : (decide ((IntKind.wrap .i64 (a1 - (ByteArray.size a0.f0 : Int))) < 0)) = true
  · try simp only [if_pos h0]
    exact callP_ok (ps := []) (os := []) (rs := [(.oi (-1))]) (by kernel_rfl) (.f h0 (.h 20 (.b true) .nil))
  · try simp only [if_neg h0]
    exact callP_ok (ps := []) (os := []) (rs := [(.oi (IntKind.wrap .i64 (a1 - (ByteArray.size a0.f0 : Int))))]) (by kernel_rfl) (.f (nt h0) (.h 20 (.b false) .nil))
/-! loop 66_0 -/
inductive O66_0 where
  | k0 (w0 : Int) (w1 : Int) (w2 : Bool)
  | k1
def r66_0 (a0 : (List K_si)) : List K_si → Int → Int → O66_0
  | x0 :: y0, i, v0 =>
    if (decide ((m22 x0 v0) < 0)) = true then (O66_0.k1) else
    (r66_0 a0 y0 (i + 1) (m22 x0 v0))
  | [], i, v0 => (O66_0.k0 v0 i (decide (i < ((length (map b_si a0)) : Int))))
def h66_0 (l0_0 : Nat) (a0 : (List K_si)) (a1 : Int) (i : Int) (v0 : Int) : St := ⟨[(0, (.one (.bor l0_0 (map b_si a0)))), (1, (.one (.val (.int .i64 v0)))), (5, (.one (.val (.int .i64 i))))], []⟩
def ex66_0 : O66_0 → VX.Exit
  | .k0 _ _ _ => (.exit 0)
  | .k1 => .ret
def fin66_0 (l0_0 : Nat) (a0 : (List K_si)) (a1 : Int) : O66_0 → St
  | .k0 w0 w1 w2 => ⟨[(0, (.one (.bor l0_0 (map b_si a0)))), (1, (.one (.val (.int .i64 w0)))), (5, (.one (.val (.int .i64 w1)))), (15, (.one (.val (.bool w2))))], []⟩
  | .k1 => ⟨[(4, (.one (.val (.int .i64 (-1)))))], []⟩
theorem t66_0 {l0_0 : Nat} {a0 : (List K_si)} {a1 : Int} (hy0 : length a0 * 24 ≤ 140737488351232) : ∀ (y0 : List K_si) (p : List K_si) (v0 : Int), p ++ y0 = a0 → Ev F X (.code l66_0 (h66_0 l0_0 a0 a1 (length p : Int) v0) (ex66_0 (r66_0 a0 y0 (length p : Int) v0)) (fin66_0 l0_0 a0 a1 (r66_0 a0 y0 (length p : Int) v0)))
  | [], p, v0, hp0 => by
    have hc : ¬ (decide ((length p : Int) < ((length (map b_si a0)) : Int))) = true := by
      rw [← hp0]; simp only [length_map, length_set, length_append, length_replicate, length_cons, length_nil, decide_eq_true_eq]; omega
    have st := codeH_ok (F := F) (X := X) (c := b66_0) (t := 0) (hs := [(8, .b false)]) (σ := h66_0 l0_0 a0 a1 (length p : Int) v0) (σ' := fin66_0 l0_0 a0 a1 (.k0 v0 (length p : Int) (decide ((length p : Int) < ((length (map b_si a0)) : Int))))) (e := (.exit 0)) (t' := 9) (hs' := []) (q := [(decide ((length p : Int) < ((length (map b_si a0)) : Int))) = false]) (by kernel_rfl) ⟨(nt hc), trivial⟩
    exact .loopX st (show ((.exit 0) : VX.Exit) ≠ .normal from by simp)
  | x0 :: y0, p, v0, hp0 => by
    have hc : (decide ((length p : Int) < ((length (map b_si a0)) : Int))) = true := by
      rw [← hp0]; simp only [length_map, length_set, length_append, length_replicate, length_cons, length_nil, decide_eq_true_eq]; omega
    have Hx0 : (a0)[Int.toNat (length p : Int)]? = some x0 := by
      rw [← hp0, Int.toNat_natCast]; simp
    have hlen : length (a0) = length p + length y0 + 1 := by rw [← hp0]; simp; omega
    have hw : IntKind.wrap .i64 ((length p : Int) + 1) = (length p : Int) + 1 := wrap64 (by omega)
    simp only [r66_0]
    by_cases h_1 : (decide ((m22 x0 v0) < 0)) = true
    · try simp only [if_pos h_1]
      have st := codeH_ok (F := F) (X := X) (c := b66_0) (t := 0) (hs := [(8, .b true), (14, .row [(.val (.string x0.f0)), (.i x0.f1)]), (20, .ret [] [(.oi (m22 x0 v0))] [] []), (27, .b true)]) (σ := h66_0 l0_0 a0 a1 (length p : Int) v0) (σ' := fin66_0 l0_0 a0 a1 (.k1)) (e := .ret) (t' := 30) (hs' := []) (q := [(decide ((length p : Int) < ((length (map b_si a0)) : Int))) = true, 0 ≤ (length p : Int), (map b_si a0)[(Int.toNat (length p : Int))]? = some [(.val (.string x0.f0)), (.i x0.f1)], Ev F X (.call 22 [(.agg [(.val (.string x0.f0)), (.i x0.f1)]), (.oi v0)] [] [] [(.oi (m22 x0 v0))]), (decide ((m22 x0 v0) < 0)) = true]) (by kernel_rfl) ⟨hc, (by omega), (by rw [getElem?_map, Hx0]; rfl), (e22 (a0 := x0) (a1 := v0)), h_1, trivial⟩
      exact .loopX st (show (.ret : VX.Exit) ≠ .normal from by simp)
    · try simp only [if_neg h_1]
      have st := codeH_ok (F := F) (X := X) (c := b66_0) (t := 0) (hs := [(8, .b true), (14, .row [(.val (.string x0.f0)), (.i x0.f1)]), (20, .ret [] [(.oi (m22 x0 v0))] [] []), (27, .b false)]) (σ := h66_0 l0_0 a0 a1 (length p : Int) v0) (σ' := ⟨[(0, (.one (.bor l0_0 (map b_si a0)))), (1, (.oi (m22 x0 v0))), (5, (.oi (IntKind.wrap .i64 ((length p : Int) + 1))))], []⟩) (e := .normal) (t' := 34) (hs' := []) (q := [(decide ((length p : Int) < ((length (map b_si a0)) : Int))) = true, 0 ≤ (length p : Int), (map b_si a0)[(Int.toNat (length p : Int))]? = some [(.val (.string x0.f0)), (.i x0.f1)], Ev F X (.call 22 [(.agg [(.val (.string x0.f0)), (.i x0.f1)]), (.oi v0)] [] [] [(.oi (m22 x0 v0))]), (decide ((m22 x0 v0) < 0)) = false, True]) (by kernel_rfl) ⟨hc, (by omega), (by rw [getElem?_map, Hx0]; rfl), (e22 (a0 := x0) (a1 := v0)), (nt h_1), trivial, trivial⟩
      have ih := t66_0 (l0_0 := l0_0) (a0 := a0) (a1 := a1) hy0 y0 (p ++ [x0]) (m22 x0 v0) (by rw [append_assoc]; exact hp0)
      rw [show ((p ++ [x0]).length : Int) = (p.length : Int) + 1 from by simp] at ih
      rw [show (⟨[(0, (.one (.bor l0_0 (map b_si a0)))), (1, (.oi (m22 x0 v0))), (5, (.oi (IntKind.wrap .i64 ((length p : Int) + 1))))], []⟩ : St) = h66_0 l0_0 a0 a1 ((length p : Int) + 1) (m22 x0 v0) from (by unfold h66_0; simp only [hw]; done)] at st
      exact .loopN st ih
/-! loop.example/g00539/laws.szWeightS -/
def m66 (a0 : (List K_si)) (a1 : Int) : Int :=
  if (decide ((IntKind.wrap .i64 (a1 - ((length (map b_si a0)) : Int))) < 0)) = true then (-1) else
  (match r66_0 a0 a0 0 (IntKind.wrap .i64 (a1 - ((length (map b_si a0)) : Int))) with | .k0 w0_1 w1_1 w2_1 => w0_1 | .k1 => (-1))
theorem e66 {l0_0 : Nat} {a0 : (List K_si)} {a1 : Int} (hy0 : length a0 * 24 ≤ 140737488351232) : Ev F X (.call 66 [(.one (.bor l0_0 (map b_si a0))), (.one (.val (.int .i64 a1)))] [] [] [(.one (.val (.int .i64 (m66 a0 a1))))]) := by
  unfold m66
  by_cases h0 : (decide ((IntKind.wrap .i64 (a1 - ((length (map b_si a0)) : Int))) < 0)) = true
  · try simp only [if_pos h0]
    exact callP_ok (ps := []) (os := []) (rs := [(.oi (-1))]) (by kernel_rfl) (.f h0 (.h 16 (.b true) .nil))
  · try simp only [if_neg h0]
    cases h1 : r66_0 a0 a0 0 (IntKind.wrap .i64 (a1 - ((length (map b_si a0)) : Int))) with
    | k0 w0_1 w1_1 w2_1 =>
      try dsimp only
      have f1 : (⟨[(0, (.one (.bor l0_0 (map b_si a0)))), (1, (.oi (IntKind.wrap .i64 (a1 - ((length (map b_si a0)) : Int))))), (5, (.oi 0))], []⟩ : St) = h66_0 l0_0 a0 a1 0 (IntKind.wrap .i64 (a1 - ((length (map b_si a0)) : Int))) := (by rfl)
      have f2 : Ev F X (.code l66_0 (h66_0 l0_0 a0 a1 0 (IntKind.wrap .i64 (a1 - ((length (map b_si a0)) : Int)))) (.exit 0) ⟨[(0, (.one (.bor l0_0 (map b_si a0)))), (1, (.oi w0_1)), (5, (.oi w1_1)), (15, (.one (.val (.bool w2_1))))], []⟩) := (by have t : Ev F X (.code l66_0 (h66_0 l0_0 a0 a1 0 (IntKind.wrap .i64 (a1 - ((length (map b_si a0)) : Int)))) (ex66_0 (r66_0 a0 a0 0 (IntKind.wrap .i64 (a1 - ((length (map b_si a0)) : Int))))) (fin66_0 l0_0 a0 a1 (r66_0 a0 a0 0 (IntKind.wrap .i64 (a1 - ((length (map b_si a0)) : Int)))))) := t66_0 (l0_0 := l0_0) (a0 := a0) (a1 := a1) (by assumption) a0 [] (IntKind.wrap .i64 (a1 - ((length (map b_si a0)) : Int))) rfl; rw [h1] at t; exact t)
      exact callP_ok (ps := []) (os := []) (rs := [(.oi w0_1)]) (by kernel_rfl) (.f (nt h0) (.f f1 (.f f2 (.h 16 (.b false) (.h 19 (.loop (h66_0 l0_0 a0 a1 0 (IntKind.wrap .i64 (a1 - ((length (map b_si a0)) : Int)))) (.exit 0) ⟨[(0, (.one (.bor l0_0 (map b_si a0)))), (1, (.oi w0_1)), (5, (.oi w1_1)), (15, (.one (.val (.bool w2_1))))], []⟩) .nil)))))
    | k1 =>
      try dsimp only
      have f1 : (⟨[(0, (.one (.bor l0_0 (map b_si a0)))), (1, (.oi (IntKind.wrap .i64 (a1 - ((length (map b_si a0)) : Int))))), (5, (.oi 0))], []⟩ : St) = h66_0 l0_0 a0 a1 0 (IntKind.wrap .i64 (a1 - ((length (map b_si a0)) : Int))) := (by rfl)
      have f2 : Ev F X (.code l66_0 (h66_0 l0_0 a0 a1 0 (IntKind.wrap .i64 (a1 - ((length (map b_si a0)) : Int)))) .ret ⟨[(4, (.oi (-1)))], []⟩) := (by have t : Ev F X (.code l66_0 (h66_0 l0_0 a0 a1 0 (IntKind.wrap .i64 (a1 - ((length (map b_si a0)) : Int)))) (ex66_0 (r66_0 a0 a0 0 (IntKind.wrap .i64 (a1 - ((length (map b_si a0)) : Int))))) (fin66_0 l0_0 a0 a1 (r66_0 a0 a0 0 (IntKind.wrap .i64 (a1 - ((length (map b_si a0)) : Int)))))) := t66_0 (l0_0 := l0_0) (a0 := a0) (a1 := a1) (by assumption) a0 [] (IntKind.wrap .i64 (a1 - ((length (map b_si a0)) : Int))) rfl; rw [h1] at t; exact t)
      exact callP_ok (ps := []) (os := []) (rs := [(.oi (-1))]) (by kernel_rfl) (.f (nt h0) (.f f1 (.f f2 (.h 16 (.b false) (.h 19 (.loop (h66_0 l0_0 a0 a1 0 (IntKind.wrap .i64 (a1 - ((length (map b_si a0)) : Int)))) .ret ⟨[(4, (.oi (-1)))], []⟩) .nil)))))
/-! loop.example/g00539/laws.szReward -/
def m130 (a0 : K_R) (a1 : Int) : Int :=
  if (decide ((m66 a0.f3 a1) < 0)) = true then (-1) else
  (m66 a0.f3 a1)
theorem e130 {l0_3 : Nat} {a0 : K_R} {a1 : Int} (hy0 : length a0.f3 * 24 ≤ 140737488351232) : Ev F X (.call 130 [(.agg [(.val (.int .i64 a0.f0)), (.val (.int .i64 a0.f1)), (.val (.int .i64 a0.f2)), (.bor l0_3 (map b_si a0.f3)), (.val (.int .i64 a0.f4))]), (.one (.val (.int .i64 a1)))] [] [] [(.one (.val (.int .i64 (m130 a0 a1))))]) := by
  unfold m130
  have f0 : Ev F X (.call 66 [(.one (.bor (l0_3 + 1) (map b_si a0.f3))), (.oi a1)] [] [] [(.oi (m66 a0.f3 a1))]) := (e66 (a0 := a0.f3) (a1 := a1) (by with_reducible assumption))
  by_cases h0 : (decide ((m66 a0.f3 a1) < 0)) = true
  · try simp only [if_pos h0]
    exact callP_ok (ps := []) (os := []) (rs := [(.oi (-1))]) (by kernel_rfl) (.r 11 [] [] f0 (.f h0 (.h 18 (.b true) .nil)))
  · try simp only [if_neg h0]
    exact callP_ok (ps := []) (os := []) (rs := [(.oi (m66 a0.f3 a1))]) (by kernel_rfl) (.r 11 [] [] f0 (.f (nt h0) (.h 18 (.b false) .nil)))
/-! loop 67_0 -/
inductive O67_0 where
  | k0 (w0 : Int) (w1 : Int) (w2 : Bool)
  | k1
def r67_0 (a0 : (List K_R)) : List K_R → Int → Int → O67_0
  | x0 :: y0, i, v0 =>
    if (decide ((m130 x0 v0) < 0)) = true then (O67_0.k1) else
    (r67_0 a0 y0 (i + 1) (m130 x0 v0))
  | [], i, v0 => (O67_0.k0 v0 i (decide (i < ((length (map b_R a0)) : Int))))
def h67_0 (l0_0 : Nat) (a0 : (List K_R)) (a1 : Int) (i : Int) (v0 : Int) : St := ⟨[(0, (.one (.bor l0_0 (map b_R a0)))), (1, (.one (.val (.int .i64 v0)))), (5, (.one (.val (.int .i64 i))))], []⟩
def ex67_0 : O67_0 → VX.Exit
  | .k0 _ _ _ => (.exit 0)
  | .k1 => .ret
def fin67_0 (l0_0 : Nat) (a0 : (List K_R)) (a1 : Int) : O67_0 → St
  | .k0 w0 w1 w2 => ⟨[(0, (.one (.bor l0_0 (map b_R a0)))), (1, (.one (.val (.int .i64 w0)))), (5, (.one (.val (.int .i64 w1)))), (15, (.one (.val (.bool w2))))], []⟩
  | .k1 => ⟨[(4, (.one (.val (.int .i64 (-1)))))], []⟩
theorem t67_0 {l0_0 : Nat} {a0 : (List K_R)} {a1 : Int} (hy0 : length a0 * 56 ≤ 140737488351232) (hy1 : ∀ z ∈ a0, ok_R z) : ∀ (y0 : List K_R) (p : List K_R) (v0 : Int), p ++ y0 = a0 → Ev F X (.code l67_0 (h67_0 l0_0 a0 a1 (length p : Int) v0) (ex67_0 (r67_0 a0 y0 (length p : Int) v0)) (fin67_0 l0_0 a0 a1 (r67_0 a0 y0 (length p : Int) v0)))
  | [], p, v0, hp0 => by
    have hc : ¬ (decide ((length p : Int) < ((length (map b_R a0)) : Int))) = true := by
      rw [← hp0]; simp only [length_map, length_set, length_append, length_replicate, length_cons, length_nil, decide_eq_true_eq]; omega
    have st := codeH_ok (F := F) (X := X) (c := b67_0) (t := 0) (hs := [(8, .b false)]) (σ := h67_0 l0_0 a0 a1 (length p : Int) v0) (σ' := fin67_0 l0_0 a0 a1 (.k0 v0 (length p : Int) (decide ((length p : Int) < ((length (map b_R a0)) : Int))))) (e := (.exit 0)) (t' := 9) (hs' := []) (q := [(decide ((length p : Int) < ((length (map b_R a0)) : Int))) = false]) (by kernel_rfl) ⟨(nt hc), trivial⟩
    exact .loopX st (show ((.exit 0) : VX.Exit) ≠ .normal from by simp)
  | x0 :: y0, p, v0, hp0 => by
    have hc : (decide ((length p : Int) < ((length (map b_R a0)) : Int))) = true := by
      rw [← hp0]; simp only [length_map, length_set, length_append, length_replicate, length_cons, length_nil, decide_eq_true_eq]; omega
    have Hx0 : (a0)[Int.toNat (length p : Int)]? = some x0 := by
      rw [← hp0, Int.toNat_natCast]; simp
    have Mx0_0 := hy1 x0 (List.mem_of_getElem? Hx0)
    have hlen : length (a0) = length p + length y0 + 1 := by rw [← hp0]; simp; omega
    have hw : IntKind.wrap .i64 ((length p : Int) + 1) = (length p : Int) + 1 := wrap64 (by omega)
    simp only [r67_0]
    by_cases h_1 : (decide ((m130 x0 v0) < 0)) = true
    · try simp only [if_pos h_1]
      have st := codeH_ok (F := F) (X := X) (c := b67_0) (t := 0) (hs := [(8, .b true), (14, .row [(.i x0.f0), (.i x0.f1), (.i x0.f2), (.sl (map b_si x0.f3)), (.i x0.f4)]), (20, .ret [] [(.oi (m130 x0 v0))] [] []), (27, .b true)]) (σ := h67_0 l0_0 a0 a1 (length p : Int) v0) (σ' := fin67_0 l0_0 a0 a1 (.k1)) (e := .ret) (t' := 30) (hs' := []) (q := [(decide ((length p : Int) < ((length (map b_R a0)) : Int))) = true, 0 ≤ (length p : Int), (map b_R a0)[(Int.toNat (length p : Int))]? = some [(.i x0.f0), (.i x0.f1), (.i x0.f2), (.sl (map b_si x0.f3)), (.i x0.f4)], Ev F X (.call 130 [(.agg [(.i x0.f0), (.i x0.f1), (.i x0.f2), (.bor (l0_0 + 1) (map b_si x0.f3)), (.i x0.f4)]), (.oi v0)] [] [] [(.oi (m130 x0 v0))]), (decide ((m130 x0 v0) < 0)) = true]) (by kernel_rfl) ⟨hc, (by omega), (by rw [getElem?_map, Hx0]; rfl), (e130 (a0 := x0) (a1 := v0) (by assumption)), h_1, trivial⟩
      exact .loopX st (show (.ret : VX.Exit) ≠ .normal from by simp)
    · try simp only [if_neg h_1]
      have st := codeH_ok (F := F) (X := X) (c := b67_0) (t := 0) (hs := [(8, .b true), (14, .row [(.i x0.f0), (.i x0.f1), (.i x0.f2), (.sl (map b_si x0.f3)), (.i x0.f4)]), (20, .ret [] [(.oi (m130 x0 v0))] [] []), (27, .b false)]) (σ := h67_0 l0_0 a0 a1 (length p : Int) v0) (σ' := ⟨[(0, (.one (.bor l0_0 (map b_R a0)))), (1, (.oi (m130 x0 v0))), (5, (.oi (IntKind.wrap .i64 ((length p : Int) + 1))))], []⟩) (e := .normal) (t' := 34) (hs' := []) (q := [(decide ((length p : Int) < ((length (map b_R a0)) : Int))) = true, 0 ≤ (length p : Int), (map b_R a0)[(Int.toNat (length p : Int))]? = some [(.i x0.f0), (.i x0.f1), (.i x0.f2), (.sl (map b_si x0.f3)), (.i x0.f4)], Ev F X (.call 130 [(.agg [(.i x0.f0), (.i x0.f1), (.i x0.f2), (.bor (l0_0 + 1) (map b_si x0.f3)), (.i x0.f4)]), (.oi v0)] [] [] [(.oi (m130 x0 v0))]), (decide ((m130 x0 v0) < 0)) = false, True]) (by kernel_rfl) ⟨hc, (by omega), (by rw [getElem?_map, Hx0]; rfl), (e130 (a0 := x0) (a1 := v0) (by assumption)), (nt h_1), trivial, trivial⟩
      have ih := t67_0 (l0_0 := l0_0) (a0 := a0) (a1 := a1) hy0 hy1 y0 (p ++ [x0]) (m130 x0 v0) (by rw [append_assoc]; exact hp0)
      rw [show ((p ++ [x0]).length : Int) = (p.length : Int) + 1 from by simp] at ih
      rw [show (⟨[(0, (.one (.bor l0_0 (map b_R a0)))), (1, (.oi (m130 x0 v0))), (5, (.oi (IntKind.wrap .i64 ((length p : Int) + 1))))], []⟩ : St) = h67_0 l0_0 a0 a1 ((length p : Int) + 1) (m130 x0 v0) from (by unfold h67_0; simp only [hw]; done)] at st
      exact .loopN st ih
/-! loop.example/g00539/laws.szRewardS -/
def m67 (a0 : (List K_R)) (a1 : Int) : Int :=
  if (decide ((IntKind.wrap .i64 (a1 - ((length (map b_R a0)) : Int))) < 0)) = true then (-1) else
  (match r67_0 a0 a0 0 (IntKind.wrap .i64 (a1 - ((length (map b_R a0)) : Int))) with | .k0 w0_1 w1_1 w2_1 => w0_1 | .k1 => (-1))
theorem e67 {l0_0 : Nat} {a0 : (List K_R)} {a1 : Int} (hy0 : length a0 * 56 ≤ 140737488351232) (hy1 : ∀ z ∈ a0, ok_R z) : Ev F X (.call 67 [(.one (.bor l0_0 (map b_R a0))), (.one (.val (.int .i64 a1)))] [] [] [(.one (.val (.int .i64 (m67 a0 a1))))]) := by
  unfold m67
  by_cases h0 : (decide ((IntKind.wrap .i64 (a1 - ((length (map b_R a0)) : Int))) < 0)) = true
  · try simp only [if_pos h0]
    exact callP_ok (ps := []) (os := []) (rs := [(.oi (-1))]) (by kernel_rfl) (.f h0 (.h 16 (.b true) .nil))
  · try simp only [if_neg h0]
    cases h1 : r67_0 a0 a0 0 (IntKind.wrap .i64 (a1 - ((length (map b_R a0)) : Int))) with
    | k0 w0_1 w1_1 w2_1 =>
      try dsimp only
      have f1 : (⟨[(0, (.one (.bor l0_0 (map b_R a0)))), (1, (.oi (IntKind.wrap .i64 (a1 - ((length (map b_R a0)) : Int))))), (5, (.oi 0))], []⟩ : St) = h67_0 l0_0 a0 a1 0 (IntKind.wrap .i64 (a1 - ((length (map b_R a0)) : Int))) := (by rfl)
      have f2 : Ev F X (.code l67_0 (h67_0 l0_0 a0 a1 0 (IntKind.wrap .i64 (a1 - ((length (map b_R a0)) : Int)))) (.exit 0) ⟨[(0, (.one (.bor l0_0 (map b_R a0)))), (1, (.oi w0_1)), (5, (.oi w1_1)), (15, (.one (.val (.bool w2_1))))], []⟩) := (by have t : Ev F X (.code l67_0 (h67_0 l0_0 a0 a1 0 (IntKind.wrap .i64 (a1 - ((length (map b_R a0)) : Int)))) (ex67_0 (r67_0 a0 a0 0 (IntKind.wrap .i64 (a1 - ((length (map b_R a0)) : Int))))) (fin67_0 l0_0 a0 a1 (r67_0 a0 a0 0 (IntKind.wrap .i64 (a1 - ((length (map b_R a0)) : Int)))))) := t67_0 (l0_0 := l0_0) (a0 := a0) (a1 := a1) (by assumption) (by assumption) a0 [] (IntKind.wrap .i64 (a1 - ((length (map b_R a0)) : Int))) rfl; rw [h1] at t; exact t)
      exact callP_ok (ps := []) (os := []) (rs := [(.oi w0_1)]) (by kernel_rfl) (.f (nt h0) (.f f1 (.f f2 (.h 16 (.b false) (.h 19 (.loop (h67_0 l0_0 a0 a1 0 (IntKind.wrap .i64 (a1 - ((length (map b_R a0)) : Int)))) (.exit 0) ⟨[(0, (.one (.bor l0_0 (map b_R a0)))), (1, (.oi w0_1)), (5, (.oi w1_1)), (15, (.one (.val (.bool w2_1))))], []⟩) .nil)))))
    | k1 =>
      try dsimp only
      have f1 : (⟨[(0, (.one (.bor l0_0 (map b_R a0)))), (1, (.oi (IntKind.wrap .i64 (a1 - ((length (map b_R a0)) : Int))))), (5, (.oi 0))], []⟩ : St) = h67_0 l0_0 a0 a1 0 (IntKind.wrap .i64 (a1 - ((length (map b_R a0)) : Int))) := (by rfl)
      have f2 : Ev F X (.code l67_0 (h67_0 l0_0 a0 a1 0 (IntKind.wrap .i64 (a1 - ((length (map b_R a0)) : Int)))) .ret ⟨[(4, (.oi (-1)))], []⟩) := (by have t : Ev F X (.code l67_0 (h67_0 l0_0 a0 a1 0 (IntKind.wrap .i64 (a1 - ((length (map b_R a0)) : Int)))) (ex67_0 (r67_0 a0 a0 0 (IntKind.wrap .i64 (a1 - ((length (map b_R a0)) : Int))))) (fin67_0 l0_0 a0 a1 (r67_0 a0 a0 0 (IntKind.wrap .i64 (a1 - ((length (map b_R a0)) : Int)))))) := t67_0 (l0_0 := l0_0) (a0 := a0) (a1 := a1) (by assumption) (by assumption) a0 [] (IntKind.wrap .i64 (a1 - ((length (map b_R a0)) : Int))) rfl; rw [h1] at t; exact t)
      exact callP_ok (ps := []) (os := []) (rs := [(.oi (-1))]) (by kernel_rfl) (.f (nt h0) (.f f1 (.f f2 (.h 16 (.b false) (.h 19 (.loop (h67_0 l0_0 a0 a1 0 (IntKind.wrap .i64 (a1 - ((length (map b_R a0)) : Int)))) .ret ⟨[(4, (.oi (-1)))], []⟩) .nil)))))
/-! loop.example/g00539/laws.szLedger -/
def m14 (a0 : K_B) (a1 : Int) : Int :=
  if (decide ((m66 a0.f2 a1) < 0)) = true then (-1) else
  if (decide ((m67 a0.f3 (m66 a0.f2 a1)) < 0)) = true then (-1) else
    if (decide ((m66 a0.f4 (m67 a0.f3 (m66 a0.f2 a1))) < 0)) = true then (-1) else
      (m66 a0.f4 (m67 a0.f3 (m66 a0.f2 a1)))
theorem e14 {l0_2 : Nat} {l0_3 : Nat} {l0_4 : Nat} {a0 : K_B} {a1 : Int} (hy0 : length a0.f2 * 24 ≤ 140737488351232) (hy1 : length a0.f3 * 56 ≤ 140737488351232) (hy2 : ∀ z ∈ a0.f3, ok_R z) (hy3 : length a0.f4 * 24 ≤ 140737488351232) : Ev F X (.call 14 [(.agg [(.val (.int .i64 a0.f0)), (.val (.int .i64 a0.f1)), (.bor l0_2 (map b_si a0.f2)), (.bor l0_3 (map b_R a0.f3)), (.bor l0_4 (map b_si a0.f4)), (.val (.int .i64 a0.f5)), (.val (.int .i64 a0.f6)), (.val (.int .i64 a0.f7))]), (.one (.val (.int .i64 a1)))] [] [] [(.one (.val (.int .i64 (m14 a0 a1))))]) := by
  unfold m14
  have f0 : Ev F X (.call 66 [(.one (.bor (l0_2 + 1) (map b_si a0.f2))), (.oi a1)] [] [] [(.oi (m66 a0.f2 a1))]) := (e66 (a0 := a0.f2) (a1 := a1) (by with_reducible assumption))
  by_cases h0 : (decide ((m66 a0.f2 a1) < 0)) = true
  · try simp only [if_pos h0]
    exact callP_ok (ps := []) (os := []) (rs := [(.oi (-1))]) (by kernel_rfl) (.r 11 [] [] f0 (.f h0 (.h 18 (.b true) .nil)))
  · try simp only [if_neg h0]
    have f2 : Ev F X (.call 67 [(.one (.bor (l0_3 + 1) (map b_R a0.f3))), (.oi (m66 a0.f2 a1))] [] [] [(.oi (m67 a0.f3 (m66 a0.f2 a1)))]) := (e67 (a0 := a0.f3) (a1 := (m66 a0.f2 a1)) (by with_reducible assumption) (by with_reducible assumption))
    by_cases h1 : (decide ((m67 a0.f3 (m66 a0.f2 a1)) < 0)) = true
    · try simp only [if_pos h1]
      exact callP_ok (ps := []) (os := []) (rs := [(.oi (-1))]) (by kernel_rfl) (.r 11 [] [] f0 (.f (nt h0) (.h 18 (.b false) (.r 26 [] [] f2 (.f h1 (.h 33 (.b true) .nil))))))
    · try simp only [if_neg h1]
      have f4 : Ev F X (.call 66 [(.one (.bor (l0_4 + 1) (map b_si a0.f4))), (.oi (m67 a0.f3 (m66 a0.f2 a1)))] [] [] [(.oi (m66 a0.f4 (m67 a0.f3 (m66 a0.f2 a1))))]) := (e66 (a0 := a0.f4) (a1 := (m67 a0.f3 (m66 a0.f2 a1))) (by with_reducible assumption))
      by_cases h2 : (decide ((m66 a0.f4 (m67 a0.f3 (m66 a0.f2 a1))) < 0)) = true
      · try simp only [if_pos h2]
        exact callP_ok (ps := []) (os := []) (rs := [(.oi (-1))]) (by kernel_rfl) (.r 11 [] [] f0 (.f (nt h0) (.h 18 (.b false) (.r 26 [] [] f2 (.f (nt h1) (.h 33 (.b false) (.r 41 [] [] f4 (.f h2 (.h 48 (.b true) .nil)))))))))
      · try simp only [if_neg h2]
        exact callP_ok (ps := []) (os := []) (rs := [(.oi (m66 a0.f4 (m67 a0.f3 (m66 a0.f2 a1))))]) (by kernel_rfl) (.r 11 [] [] f0 (.f (nt h0) (.h 18 (.b false) (.r 26 [] [] f2 (.f (nt h1) (.h 33 (.b false) (.r 41 [] [] f4 (.f (nt h2) (.h 48 (.b false) .nil)))))))))
/-! loop.example/g00539/laws.toWeight -/
def m24 (a0 : K_si) : K_si :=
  a0
theorem e24 {a0 : K_si} : Ev F X (.call 24 [(.agg [(.val (.string a0.f0)), (.val (.int .i64 a0.f1))])] [] [] [(.agg [(.val (.string a0.f0)), (.val (.int .i64 a0.f1))])]) := by
  exact callP_ok (ps := []) (os := []) (rs := [(.agg [(.val (.string a0.f0)), (.i a0.f1)])]) (by kernel_rfl) .nil
/-! loop 69_0 -/
inductive O69_0 where
  | k0 (w0 : List K_si) (w1 : Int) (w2 : Bool)
def r69_0 (a0 : (List K_si)) : List K_si → Int → List K_si → O69_0
  | x0 :: y0, i, v0 =>
    (r69_0 a0 y0 (i + 1) (set v0 (Int.toNat i) x0))
  | [], i, v0 => (O69_0.k0 v0 i (decide (i < ((length (map b_si a0)) : Int))))
def h69_0 (l0_0 : Nat) (a0 : (List K_si)) (i : Int) (v0 : List K_si) : St := ⟨[(0, (.one (.bor l0_0 (map b_si a0)))), (3, (.one (.ref ⟨(3, 0, 0), [], 0, (Int.toNat ((length (map b_si a0)) : Int))⟩))), (4, (.one (.val (.int .i64 i))))], [((3, 0, 0), .live ⟨2, (map d_si v0), []⟩)]⟩
def ex69_0 : O69_0 → VX.Exit
  | .k0 _ _ _ => (.exit 0)
def fin69_0 (l0_0 : Nat) (a0 : (List K_si)) : O69_0 → St
  | .k0 w0 w1 w2 => ⟨[(0, (.one (.bor l0_0 (map b_si a0)))), (3, (.one (.ref ⟨(3, 0, 0), [], 0, (Int.toNat ((length (map b_si a0)) : Int))⟩))), (4, (.one (.val (.int .i64 w1)))), (11, (.one (.val (.bool w2))))], [((3, 0, 0), .live ⟨2, (map d_si w0), []⟩)]⟩
theorem t69_0 {l0_0 : Nat} {a0 : (List K_si)} (hy0 : length a0 * 24 ≤ 140737488351232) : ∀ (y0 : List K_si) (p : List K_si) (v0 : List K_si), p ++ y0 = a0 → length v0 = (Int.toNat ((length (map b_si a0)) : Int)) → Ev F X (.code l69_0 (h69_0 l0_0 a0 (length p : Int) v0) (ex69_0 (r69_0 a0 y0 (length p : Int) v0)) (fin69_0 l0_0 a0 (r69_0 a0 y0 (length p : Int) v0)))
  | [], p, v0, hp0, hi0 => by
    have hc : ¬ (decide ((length p : Int) < ((length (map b_si a0)) : Int))) = true := by
      rw [← hp0]; simp only [length_map, length_set, length_append, length_replicate, length_cons, length_nil, decide_eq_true_eq]; omega
    have hj0 := hi0; try simp only [length_map, length_set, length_append, length_replicate, length_cons, length_nil, Int.toNat_natCast] at hj0
    have st := codeH_ok (F := F) (X := X) (c := b69_0) (t := 0) (hs := [(8, .b false)]) (σ := h69_0 l0_0 a0 (length p : Int) v0) (σ' := fin69_0 l0_0 a0 (.k0 v0 (length p : Int) (decide ((length p : Int) < ((length (map b_si a0)) : Int))))) (e := (.exit 0)) (t' := 9) (hs' := []) (q := [(decide ((length p : Int) < ((length (map b_si a0)) : Int))) = false]) (by kernel_rfl) ⟨(nt hc), trivial⟩
    exact .loopX st (show ((.exit 0) : VX.Exit) ≠ .normal from by simp)
  | x0 :: y0, p, v0, hp0, hi0 => by
    have hc : (decide ((length p : Int) < ((length (map b_si a0)) : Int))) = true := by
      rw [← hp0]; simp only [length_map, length_set, length_append, length_replicate, length_cons, length_nil, decide_eq_true_eq]; omega
    have Hx0 : (a0)[Int.toNat (length p : Int)]? = some x0 := by
      rw [← hp0, Int.toNat_natCast]; simp
    have hlen : length (a0) = length p + length y0 + 1 := by rw [← hp0]; simp; omega
    have hw : IntKind.wrap .i64 ((length p : Int) + 1) = (length p : Int) + 1 := wrap64 (by omega)
    have hj0 := hi0; try simp only [length_map, length_set, length_append, length_replicate, length_cons, length_nil, Int.toNat_natCast] at hj0
    obtain ⟨x1, Hx1⟩ : ∃ y, v0[Int.toNat (length p : Int)]? = some y := ⟨_, List.getElem?_eq_getElem (by omega)⟩
    simp only [r69_0]
    have st := codeH_ok (F := F) (X := X) (c := b69_0) (t := 0) (hs := [(8, .b true), (18, .row [(.val (.string x0.f0)), (.i x0.f1)]), (22, .ret [] [(.agg [(.val (.string x0.f0)), (.i x0.f1)])] [] []), (26, .rowD [(.val (.string x1.f0)), (.i x1.f1)]), (27, .norm (3, 0, 0) (map d_si (set v0 (Int.toNat (length p : Int)) x0)))]) (σ := h69_0 l0_0 a0 (length p : Int) v0) (σ' := ⟨[(0, (.one (.bor l0_0 (map b_si a0)))), (3, (.one (.ref ⟨(3, 0, 0), [], 0, (Int.toNat ((length (map b_si a0)) : Int))⟩))), (4, (.oi (IntKind.wrap .i64 ((length p : Int) + 1))))], [((3, 0, 0), .live ⟨2, (map d_si (set v0 (Int.toNat (length p : Int)) x0)), []⟩)]⟩) (e := .normal) (t' := 34) (hs' := []) (q := [(decide ((length p : Int) < ((length (map b_si a0)) : Int))) = true, 0 ≤ (length p : Int), (map b_si a0)[(Int.toNat (length p : Int))]? = some [(.val (.string x0.f0)), (.i x0.f1)], Ev F X (.call 24 [(.agg [(.val (.string x0.f0)), (.i x0.f1)])] [] [] [(.agg [(.val (.string x0.f0)), (.i x0.f1)])]), 0 + (Int.toNat ((length (map b_si a0)) : Int)) ≤ (length (map d_si v0)), 0 ≤ (length p : Int) ∧ (length p : Int) < ((Int.toNat ((length (map b_si a0)) : Int)) : Int), (map d_si v0)[(0 + (Int.toNat (length p : Int)))]? = some [(.val (.string x1.f0)), (.i x1.f1)], (set (map d_si v0) (0 + (Int.toNat (length p : Int))) [(.val (.string x0.f0)), (.i x0.f1)]) = (map d_si (set v0 (Int.toNat (length p : Int)) x0)), True]) (by kernel_rfl) ⟨hc, (by omega), (by rw [getElem?_map, Hx0]; rfl), (e24 (a0 := x0)), (by simp only [length_map]; omega), (by omega), (by rw [Nat.zero_add, getElem?_map, Hx1]; rfl), (by simp [byteRows_eq, ints_y, take_of_length_le, d_si, d_R, d_B, d_b, d_i, d_C, d_LsiE, d_iLsiE, d_Q, d_s, d_y, fromBR_si, fromBR_b, fromBR_i, fromBR_s, fromBR_y]; done), trivial, trivial⟩
    have ih := t69_0 (l0_0 := l0_0) (a0 := a0) hy0 y0 (p ++ [x0]) (set v0 (Int.toNat (length p : Int)) x0) (by rw [append_assoc]; exact hp0) (by simp only [length_map, length_set, length_append, length_replicate, length_cons, length_nil]; omega)
    rw [show ((p ++ [x0]).length : Int) = (p.length : Int) + 1 from by simp] at ih
    rw [show (⟨[(0, (.one (.bor l0_0 (map b_si a0)))), (3, (.one (.ref ⟨(3, 0, 0), [], 0, (Int.toNat ((length (map b_si a0)) : Int))⟩))), (4, (.oi (IntKind.wrap .i64 ((length p : Int) + 1))))], [((3, 0, 0), .live ⟨2, (map d_si (set v0 (Int.toNat (length p : Int)) x0)), []⟩)]⟩ : St) = h69_0 l0_0 a0 ((length p : Int) + 1) (set v0 (Int.toNat (length p : Int)) x0) from (by unfold h69_0; simp only [hw]; done)] at st
    exact .loopN st ih
def post69_0 (n0 : Nat) : O69_0 → Prop
  | .k0 w0 _ _ => length w0 = n0
theorem z69_0 {a0 : (List K_si)} : ∀ (y0 : List K_si) (i : Int) (v0 : List K_si), post69_0 (length v0) (r69_0 a0 y0 i v0)
  | [], i, v0 => by
    first | trivial | (simp only [post69_0, length_nil, Nat.add_zero]; done) | (simp [post69_0]; done)
  | x0 :: y0, i, v0 => by
    simp only [r69_0]
    have z := z69_0 (a0 := a0) y0 (i + 1) (set v0 (Int.toNat i) x0)
    rw [show (length v0) = (length (set v0 (Int.toNat i) x0)) from by first | omega | (simp only [length_map, length_set, length_append, length_replicate, length_cons, length_nil]; done) | (simp only [length_map, length_set, length_append, length_replicate, length_cons, length_nil]; omega)]
    exact z
/-! loop.example/g00539/laws.toWeightS -/
def m69 (a0 : (List K_si)) : (List K_si) :=
  (match r69_0 a0 a0 0 (List.replicate (Int.toNat ((length (map b_si a0)) : Int)) (K_si.mk (⟨#[]⟩ : ByteArray) 0)) with | .k0 w0_1 w1_1 w2_1 => w0_1)
theorem e69 {l0_0 : Nat} {a0 : (List K_si)} (hy0 : length a0 * 24 ≤ 140737488351232) : Ev F X (.call 69 [(.one (.bor l0_0 (map b_si a0)))] [] [] [(.one (.own 2 (map d_si (m69 a0))))]) := by
  unfold m69
  have f0 : 0 ≤ ((length (map b_si a0)) : Int) ∧ ((length (map b_si a0)) : Int) ≤ ((length (map b_si a0)) : Int) ∧ ((length (map b_si a0)) : Int) ≤ 140737488355328 ∧ ((length (map b_si a0)) : Int) * 24 ≤ 140737488355328 := (by simp only [length_map]; omega)
  have f1 : (List.replicate (Int.toNat ((length (map b_si a0)) : Int)) [(.val (.string (⟨#[]⟩ : ByteArray))), (.val (.int .i64 0))]) = (map d_si (List.replicate (Int.toNat ((length (map b_si a0)) : Int)) (K_si.mk (⟨#[]⟩ : ByteArray) 0))) := (by simp [byteRows_eq, ints_y, take_of_length_le, d_si, d_R, d_B, d_b, d_i, d_C, d_LsiE, d_iLsiE, d_Q, d_s, d_y, fromBR_si, fromBR_b, fromBR_i, fromBR_s, fromBR_y]; done)
  cases h0 : r69_0 a0 a0 0 (List.replicate (Int.toNat ((length (map b_si a0)) : Int)) (K_si.mk (⟨#[]⟩ : ByteArray) 0)) with
  | k0 w0_1 w1_1 w2_1 =>
    try dsimp only
    have zh0 := z69_0 (a0 := a0) a0 0 (List.replicate (Int.toNat ((length (map b_si a0)) : Int)) (K_si.mk (⟨#[]⟩ : ByteArray) 0)); rw [h0] at zh0; simp only [post69_0, length_map, length_set, length_append, length_replicate, length_cons, length_nil, Int.toNat_natCast] at zh0
    have f2 : (⟨[(0, (.one (.bor l0_0 (map b_si a0)))), (3, (.one (.ref ⟨(3, 0, 0), [], 0, (Int.toNat ((length (map b_si a0)) : Int))⟩))), (4, (.oi 0))], [((3, 0, 0), .live ⟨2, (map d_si (List.replicate (Int.toNat ((length (map b_si a0)) : Int)) (K_si.mk (⟨#[]⟩ : ByteArray) 0))), []⟩)]⟩ : St) = h69_0 l0_0 a0 0 (List.replicate (Int.toNat ((length (map b_si a0)) : Int)) (K_si.mk (⟨#[]⟩ : ByteArray) 0)) := (by rfl)
    have f3 : Ev F X (.code l69_0 (h69_0 l0_0 a0 0 (List.replicate (Int.toNat ((length (map b_si a0)) : Int)) (K_si.mk (⟨#[]⟩ : ByteArray) 0))) (.exit 0) ⟨[(0, (.one (.bor l0_0 (map b_si a0)))), (3, (.one (.ref ⟨(3, 0, 0), [], 0, (Int.toNat ((length (map b_si a0)) : Int))⟩))), (4, (.oi w1_1)), (11, (.one (.val (.bool w2_1))))], [((3, 0, 0), .live ⟨2, (map d_si w0_1), []⟩)]⟩) := (by have t : Ev F X (.code l69_0 (h69_0 l0_0 a0 0 (List.replicate (Int.toNat ((length (map b_si a0)) : Int)) (K_si.mk (⟨#[]⟩ : ByteArray) 0))) (ex69_0 (r69_0 a0 a0 0 (List.replicate (Int.toNat ((length (map b_si a0)) : Int)) (K_si.mk (⟨#[]⟩ : ByteArray) 0)))) (fin69_0 l0_0 a0 (r69_0 a0 a0 0 (List.replicate (Int.toNat ((length (map b_si a0)) : Int)) (K_si.mk (⟨#[]⟩ : ByteArray) 0))))) := t69_0 (l0_0 := l0_0) (a0 := a0) (by assumption) a0 [] (List.replicate (Int.toNat ((length (map b_si a0)) : Int)) (K_si.mk (⟨#[]⟩ : ByteArray) 0)) rfl (by simp only [length_map, length_set, length_append, length_replicate, length_cons, length_nil]; done); rw [h0] at t; exact t)
    have f4 : 0 = 0 := rfl
    have f5 : (Int.toNat ((length (map b_si a0)) : Int)) = (length (map d_si w0_1)) := (by simp only [length_map]; omega)
    have f6 : pureR (map d_si w0_1) = true := (pureR_si _)
    exact callP_ok (ps := []) (os := []) (rs := [(.one (.own 2 (map d_si w0_1)))]) (by kernel_rfl) (.f f0 (.f f1 (.f f2 (.f f3 (.f f4 (.f f5 (.f f6 (.h 10 (.norm (3, 0, 0) (map d_si (List.replicate (Int.toNat ((length (map b_si a0)) : Int)) (K_si.mk (⟨#[]⟩ : ByteArray) 0)))) (.h 13 (.loop (h69_0 l0_0 a0 0 (List.replicate (Int.toNat ((length (map b_si a0)) : Int)) (K_si.mk (⟨#[]⟩ : ByteArray) 0))) (.exit 0) ⟨[(0, (.one (.bor l0_0 (map b_si a0)))), (3, (.one (.ref ⟨(3, 0, 0), [], 0, (Int.toNat ((length (map b_si a0)) : Int))⟩))), (4, (.oi w1_1)), (11, (.one (.val (.bool w2_1))))], [((3, 0, 0), .live ⟨2, (map d_si w0_1), []⟩)]⟩) .nil)))))))))
theorem c69_0 (a0 : List K_si) : ∀ (l p q : List K_si), q.length = l.length → ∃ w1 w2, r69_0 a0 l (p.length : Int) (p ++ q) = .k0 (p ++ l) w1 w2
  | [], p, [], _ => ⟨_, _, rfl⟩
  | [], _, _ :: _, h => by simp at h
  | _ :: _, _, [], h => by simp at h
  | x :: l, p, y :: q, h => by
    have ih := c69_0 a0 l (p ++ [x]) q (by simpa using h)
    have e : set (p ++ y :: q) (Int.toNat (p.length : Int)) x = (p ++ [x]) ++ q := by simp
    have e2 : ((p ++ [x]).length : Int) = (p.length : Int) + 1 := by simp
    rw [e2] at ih
    simp only [r69_0]
    rw [show p ++ x :: l = (p ++ [x]) ++ l by simp]
    first | (rw [e]; exact ih) | (simp only [e]; exact ih)
theorem q69 (a0 : (List K_si)) (hy0 : length a0 * 24 ≤ 140737488351232) : (m69 a0) = a0 := by
  have h := c69_0 a0 a0 [] (List.replicate (Int.toNat ((length (map b_si a0)) : Int)) (K_si.mk (⟨#[]⟩ : ByteArray) 0)) (by simp)
  unfold m69
  simp only [List.nil_append, length_nil] at h
  obtain ⟨_, _, h⟩ := h
  rw [show ((0 : Nat) : Int) = 0 from rfl] at h
  rw [h]
theorem g69 {l0_0 : Nat} {a0 : (List K_si)} (hy0 : length a0 * 24 ≤ 140737488351232) : Ev F X (.call 69 [(.one (.bor l0_0 (map b_si a0)))] [] [] [(.one (.own 2 (map d_si a0)))]) := by
  have t := e69 (l0_0 := l0_0) (a0 := a0) hy0
  rw [q69 a0 hy0] at t
  exact t
/-! loop.example/g00539/laws.toReward -/
def m136 (a0 : K_R) : K_R :=
  a0
theorem e136 {l0_3 : Nat} {a0 : K_R} (hy0 : length a0.f3 * 24 ≤ 140737488351232) : Ev F X (.call 136 [(.agg [(.val (.int .i64 a0.f0)), (.val (.int .i64 a0.f1)), (.val (.int .i64 a0.f2)), (.bor l0_3 (map b_si a0.f3)), (.val (.int .i64 a0.f4))])] [] [] [(.agg [(.val (.int .i64 a0.f0)), (.val (.int .i64 a0.f1)), (.val (.int .i64 a0.f2)), (.own 2 (map d_si a0.f3)), (.val (.int .i64 a0.f4))])]) := by
  have f0 : Ev F X (.call 69 [(.one (.bor (l0_3 + 1) (map b_si a0.f3)))] [] [] [(.one (.own 2 (map d_si a0.f3)))]) := (g69 (a0 := a0.f3) (by with_reducible assumption))
  have f1 : 0 = 0 := rfl
  have f2 : (length (map d_si a0.f3)) = (length (map d_si a0.f3)) := rfl
  have f3 : 0 = 0 := rfl
  have f4 : (length (map d_si a0.f3)) = (length (map d_si a0.f3)) := rfl
  have f5 : pureR (map d_si a0.f3) = true := (pureR_si _)
  exact callP_ok (ps := []) (os := []) (rs := [(.agg [(.i a0.f0), (.i a0.f1), (.i a0.f2), (.own 2 (map d_si a0.f3)), (.i a0.f4)])]) (by kernel_rfl) (.r 35 [] [] f0 (.f f1 (.f f2 (.f f3 (.f f4 (.f f5 .nil))))))
/-! loop 70_0 -/
inductive O70_0 where
  | k0 (w0 : List K_R) (w1 : Int) (w2 : Bool)
def r70_0 (a0 : (List K_R)) : List K_R → Int → List K_R → O70_0
  | x0 :: y0, i, v0 =>
    (r70_0 a0 y0 (i + 1) (set v0 (Int.toNat i) x0))
  | [], i, v0 => (O70_0.k0 v0 i (decide (i < ((length (map b_R a0)) : Int))))
def h70_0 (l0_0 : Nat) (a0 : (List K_R)) (i : Int) (v0 : List K_R) : St := ⟨[(0, (.one (.bor l0_0 (map b_R a0)))), (3, (.one (.ref ⟨(3, 0, 0), [], 0, (Int.toNat ((length (map b_R a0)) : Int))⟩))), (4, (.one (.val (.int .i64 i))))], [((3, 0, 0), .live ⟨5, (map d_R v0), []⟩)]⟩
def ex70_0 : O70_0 → VX.Exit
  | .k0 _ _ _ => (.exit 0)
def fin70_0 (l0_0 : Nat) (a0 : (List K_R)) : O70_0 → St
  | .k0 w0 w1 w2 => ⟨[(0, (.one (.bor l0_0 (map b_R a0)))), (3, (.one (.ref ⟨(3, 0, 0), [], 0, (Int.toNat ((length (map b_R a0)) : Int))⟩))), (4, (.one (.val (.int .i64 w1)))), (11, (.one (.val (.bool w2))))], [((3, 0, 0), .live ⟨5, (map d_R w0), []⟩)]⟩
theorem t70_0 {l0_0 : Nat} {a0 : (List K_R)} (hy0 : length a0 * 56 ≤ 140737488351232) (hy1 : ∀ z ∈ a0, ok_R z) : ∀ (y0 : List K_R) (p : List K_R) (v0 : List K_R), p ++ y0 = a0 → length v0 = (Int.toNat ((length (map b_R a0)) : Int)) → Ev F X (.code l70_0 (h70_0 l0_0 a0 (length p : Int) v0) (ex70_0 (r70_0 a0 y0 (length p : Int) v0)) (fin70_0 l0_0 a0 (r70_0 a0 y0 (length p : Int) v0)))
  | [], p, v0, hp0, hi0 => by
    have hc : ¬ (decide ((length p : Int) < ((length (map b_R a0)) : Int))) = true := by
      rw [← hp0]; simp only [length_map, length_set, length_append, length_replicate, length_cons, length_nil, decide_eq_true_eq]; omega
    have hj0 := hi0; try simp only [length_map, length_set, length_append, length_replicate, length_cons, length_nil, Int.toNat_natCast] at hj0
    have st := codeH_ok (F := F) (X := X) (c := b70_0) (t := 0) (hs := [(8, .b false)]) (σ := h70_0 l0_0 a0 (length p : Int) v0) (σ' := fin70_0 l0_0 a0 (.k0 v0 (length p : Int) (decide ((length p : Int) < ((length (map b_R a0)) : Int))))) (e := (.exit 0)) (t' := 9) (hs' := []) (q := [(decide ((length p : Int) < ((length (map b_R a0)) : Int))) = false]) (by kernel_rfl) ⟨(nt hc), trivial⟩
    exact .loopX st (show ((.exit 0) : VX.Exit) ≠ .normal from by simp)
  | x0 :: y0, p, v0, hp0, hi0 => by
    have hc : (decide ((length p : Int) < ((length (map b_R a0)) : Int))) = true := by
      rw [← hp0]; simp only [length_map, length_set, length_append, length_replicate, length_cons, length_nil, decide_eq_true_eq]; omega
    have Hx0 : (a0)[Int.toNat (length p : Int)]? = some x0 := by
      rw [← hp0, Int.toNat_natCast]; simp
    have Mx0_0 := hy1 x0 (List.mem_of_getElem? Hx0)
    have hlen : length (a0) = length p + length y0 + 1 := by rw [← hp0]; simp; omega
    have hw : IntKind.wrap .i64 ((length p : Int) + 1) = (length p : Int) + 1 := wrap64 (by omega)
    have hj0 := hi0; try simp only [length_map, length_set, length_append, length_replicate, length_cons, length_nil, Int.toNat_natCast] at hj0
    obtain ⟨x1, Hx1⟩ : ∃ y, v0[Int.toNat (length p : Int)]? = some y := ⟨_, List.getElem?_eq_getElem (by omega)⟩
    simp only [r70_0]
    have st := codeH_ok (F := F) (X := X) (c := b70_0) (t := 0) (hs := [(8, .b true), (18, .row [(.i x0.f0), (.i x0.f1), (.i x0.f2), (.sl (map b_si x0.f3)), (.i x0.f4)]), (22, .ret [] [(.agg [(.i x0.f0), (.i x0.f1), (.i x0.f2), (.own 2 (map d_si x0.f3)), (.i x0.f4)])] [] []), (26, .rowD [(.i x1.f0), (.i x1.f1), (.i x1.f2), (.own 2 (map d_si x1.f3)), (.i x1.f4)]), (27, .norm (3, 0, 0) (map d_R (set v0 (Int.toNat (length p : Int)) x0)))]) (σ := h70_0 l0_0 a0 (length p : Int) v0) (σ' := ⟨[(0, (.one (.bor l0_0 (map b_R a0)))), (3, (.one (.ref ⟨(3, 0, 0), [], 0, (Int.toNat ((length (map b_R a0)) : Int))⟩))), (4, (.oi (IntKind.wrap .i64 ((length p : Int) + 1))))], [((3, 0, 0), .live ⟨5, (map d_R (set v0 (Int.toNat (length p : Int)) x0)), []⟩)]⟩) (e := .normal) (t' := 34) (hs' := []) (q := [(decide ((length p : Int) < ((length (map b_R a0)) : Int))) = true, 0 ≤ (length p : Int), (map b_R a0)[(Int.toNat (length p : Int))]? = some [(.i x0.f0), (.i x0.f1), (.i x0.f2), (.sl (map b_si x0.f3)), (.i x0.f4)], Ev F X (.call 136 [(.agg [(.i x0.f0), (.i x0.f1), (.i x0.f2), (.bor (l0_0 + 1) (map b_si x0.f3)), (.i x0.f4)])] [] [] [(.agg [(.i x0.f0), (.i x0.f1), (.i x0.f2), (.own 2 (map d_si x0.f3)), (.i x0.f4)])]), 0 + (Int.toNat ((length (map b_R a0)) : Int)) ≤ (length (map d_R v0)), 0 ≤ (length p : Int) ∧ (length p : Int) < ((Int.toNat ((length (map b_R a0)) : Int)) : Int), 0 = 0, (length (map d_si x0.f3)) = (length (map d_si x0.f3)), (map d_R v0)[(0 + (Int.toNat (length p : Int)))]? = some [(.i x1.f0), (.i x1.f1), (.i x1.f2), (.own 2 (map d_si x1.f3)), (.i x1.f4)], (set (map d_R v0) (0 + (Int.toNat (length p : Int))) [(.i x0.f0), (.i x0.f1), (.i x0.f2), (.own 2 (map d_si x0.f3)), (.i x0.f4)]) = (map d_R (set v0 (Int.toNat (length p : Int)) x0)), True]) (by kernel_rfl) ⟨hc, (by omega), (by rw [getElem?_map, Hx0]; rfl), (e136 (a0 := x0) (by assumption)), (by simp only [length_map]; omega), (by omega), rfl, rfl, (by rw [Nat.zero_add, getElem?_map, Hx1]; rfl), (by simp [byteRows_eq, ints_y, take_of_length_le, d_si, d_R, d_B, d_b, d_i, d_C, d_LsiE, d_iLsiE, d_Q, d_s, d_y, fromBR_si, fromBR_b, fromBR_i, fromBR_s, fromBR_y]; done), trivial, trivial⟩
    have ih := t70_0 (l0_0 := l0_0) (a0 := a0) hy0 hy1 y0 (p ++ [x0]) (set v0 (Int.toNat (length p : Int)) x0) (by rw [append_assoc]; exact hp0) (by simp only [length_map, length_set, length_append, length_replicate, length_cons, length_nil]; omega)
    rw [show ((p ++ [x0]).length : Int) = (p.length : Int) + 1 from by simp] at ih
    rw [show (⟨[(0, (.one (.bor l0_0 (map b_R a0)))), (3, (.one (.ref ⟨(3, 0, 0), [], 0, (Int.toNat ((length (map b_R a0)) : Int))⟩))), (4, (.oi (IntKind.wrap .i64 ((length p : Int) + 1))))], [((3, 0, 0), .live ⟨5, (map d_R (set v0 (Int.toNat (length p : Int)) x0)), []⟩)]⟩ : St) = h70_0 l0_0 a0 ((length p : Int) + 1) (set v0 (Int.toNat (length p : Int)) x0) from (by unfold h70_0; simp only [hw]; done)] at st
    exact .loopN st ih
def post70_0 (n0 : Nat) : O70_0 → Prop
  | .k0 w0 _ _ => length w0 = n0
theorem z70_0 {a0 : (List K_R)} : ∀ (y0 : List K_R) (i : Int) (v0 : List K_R), post70_0 (length v0) (r70_0 a0 y0 i v0)
  | [], i, v0 => by
    first | trivial | (simp only [post70_0, length_nil, Nat.add_zero]; done) | (simp [post70_0]; done)
  | x0 :: y0, i, v0 => by
    simp only [r70_0]
    have z := z70_0 (a0 := a0) y0 (i + 1) (set v0 (Int.toNat i) x0)
    rw [show (length v0) = (length (set v0 (Int.toNat i) x0)) from by first | omega | (simp only [length_map, length_set, length_append, length_replicate, length_cons, length_nil]; done) | (simp only [length_map, length_set, length_append, length_replicate, length_cons, length_nil]; omega)]
    exact z
/-! loop.example/g00539/laws.toRewardS -/
def m70 (a0 : (List K_R)) : (List K_R) :=
  (match r70_0 a0 a0 0 (List.replicate (Int.toNat ((length (map b_R a0)) : Int)) (K_R.mk 0 0 0 [] 0)) with | .k0 w0_1 w1_1 w2_1 => w0_1)
theorem e70 {l0_0 : Nat} {a0 : (List K_R)} (hy0 : length a0 * 56 ≤ 140737488351232) (hy1 : ∀ z ∈ a0, ok_R z) : Ev F X (.call 70 [(.one (.bor l0_0 (map b_R a0)))] [] [] [(.one (.own 5 (map d_R (m70 a0))))]) := by
  unfold m70
  have f0 : 0 ≤ ((length (map b_R a0)) : Int) ∧ ((length (map b_R a0)) : Int) ≤ ((length (map b_R a0)) : Int) ∧ ((length (map b_R a0)) : Int) ≤ 140737488355328 ∧ ((length (map b_R a0)) : Int) * 56 ≤ 140737488355328 := (by simp only [length_map]; omega)
  have f1 : (List.replicate (Int.toNat ((length (map b_R a0)) : Int)) [(.val (.int .i64 0)), (.val (.int .i64 0)), (.val (.int .i64 0)), (.own 2 []), (.val (.int .i64 0))]) = (map d_R (List.replicate (Int.toNat ((length (map b_R a0)) : Int)) (K_R.mk 0 0 0 [] 0))) := (by simp [byteRows_eq, ints_y, take_of_length_le, d_si, d_R, d_B, d_b, d_i, d_C, d_LsiE, d_iLsiE, d_Q, d_s, d_y, fromBR_si, fromBR_b, fromBR_i, fromBR_s, fromBR_y]; done)
  cases h0 : r70_0 a0 a0 0 (List.replicate (Int.toNat ((length (map b_R a0)) : Int)) (K_R.mk 0 0 0 [] 0)) with
  | k0 w0_1 w1_1 w2_1 =>
    try dsimp only
    have zh0 := z70_0 (a0 := a0) a0 0 (List.replicate (Int.toNat ((length (map b_R a0)) : Int)) (K_R.mk 0 0 0 [] 0)); rw [h0] at zh0; simp only [post70_0, length_map, length_set, length_append, length_replicate, length_cons, length_nil, Int.toNat_natCast] at zh0
    have f2 : (⟨[(0, (.one (.bor l0_0 (map b_R a0)))), (3, (.one (.ref ⟨(3, 0, 0), [], 0, (Int.toNat ((length (map b_R a0)) : Int))⟩))), (4, (.oi 0))], [((3, 0, 0), .live ⟨5, (map d_R (List.replicate (Int.toNat ((length (map b_R a0)) : Int)) (K_R.mk 0 0 0 [] 0))), []⟩)]⟩ : St) = h70_0 l0_0 a0 0 (List.replicate (Int.toNat ((length (map b_R a0)) : Int)) (K_R.mk 0 0 0 [] 0)) := (by rfl)
    have f3 : Ev F X (.code l70_0 (h70_0 l0_0 a0 0 (List.replicate (Int.toNat ((length (map b_R a0)) : Int)) (K_R.mk 0 0 0 [] 0))) (.exit 0) ⟨[(0, (.one (.bor l0_0 (map b_R a0)))), (3, (.one (.ref ⟨(3, 0, 0), [], 0, (Int.toNat ((length (map b_R a0)) : Int))⟩))), (4, (.oi w1_1)), (11, (.one (.val (.bool w2_1))))], [((3, 0, 0), .live ⟨5, (map d_R w0_1), []⟩)]⟩) := (by have t : Ev F X (.code l70_0 (h70_0 l0_0 a0 0 (List.replicate (Int.toNat ((length (map b_R a0)) : Int)) (K_R.mk 0 0 0 [] 0))) (ex70_0 (r70_0 a0 a0 0 (List.replicate (Int.toNat ((length (map b_R a0)) : Int)) (K_R.mk 0 0 0 [] 0)))) (fin70_0 l0_0 a0 (r70_0 a0 a0 0 (List.replicate (Int.toNat ((length (map b_R a0)) : Int)) (K_R.mk 0 0 0 [] 0))))) := t70_0 (l0_0 := l0_0) (a0 := a0) (by assumption) (by assumption) a0 [] (List.replicate (Int.toNat ((length (map b_R a0)) : Int)) (K_R.mk 0 0 0 [] 0)) rfl (by simp only [length_map, length_set, length_append, length_replicate, length_cons, length_nil]; done); rw [h0] at t; exact t)
    have f4 : 0 = 0 := rfl
    have f5 : (Int.toNat ((length (map b_R a0)) : Int)) = (length (map d_R w0_1)) := (by simp only [length_map]; omega)
    have f6 : pureR (map d_R w0_1) = true := (pureR_R _)
    exact callP_ok (ps := []) (os := []) (rs := [(.one (.own 5 (map d_R w0_1)))]) (by kernel_rfl) (.f f0 (.f f1 (.f f2 (.f f3 (.f f4 (.f f5 (.f f6 (.h 10 (.norm (3, 0, 0) (map d_R (List.replicate (Int.toNat ((length (map b_R a0)) : Int)) (K_R.mk 0 0 0 [] 0)))) (.h 13 (.loop (h70_0 l0_0 a0 0 (List.replicate (Int.toNat ((length (map b_R a0)) : Int)) (K_R.mk 0 0 0 [] 0))) (.exit 0) ⟨[(0, (.one (.bor l0_0 (map b_R a0)))), (3, (.one (.ref ⟨(3, 0, 0), [], 0, (Int.toNat ((length (map b_R a0)) : Int))⟩))), (4, (.oi w1_1)), (11, (.one (.val (.bool w2_1))))], [((3, 0, 0), .live ⟨5, (map d_R w0_1), []⟩)]⟩) .nil)))))))))
theorem c70_0 (a0 : List K_R) : ∀ (l p q : List K_R), q.length = l.length → ∃ w1 w2, r70_0 a0 l (p.length : Int) (p ++ q) = .k0 (p ++ l) w1 w2
  | [], p, [], _ => ⟨_, _, rfl⟩
  | [], _, _ :: _, h => by simp at h
  | _ :: _, _, [], h => by simp at h
  | x :: l, p, y :: q, h => by
    have ih := c70_0 a0 l (p ++ [x]) q (by simpa using h)
    have e : set (p ++ y :: q) (Int.toNat (p.length : Int)) x = (p ++ [x]) ++ q := by simp
    have e2 : ((p ++ [x]).length : Int) = (p.length : Int) + 1 := by simp
    rw [e2] at ih
    simp only [r70_0]
    rw [show p ++ x :: l = (p ++ [x]) ++ l by simp]
    first | (rw [e]; exact ih) | (simp only [e]; exact ih)
theorem q70 (a0 : (List K_R)) (hy0 : length a0 * 56 ≤ 140737488351232) (hy1 : ∀ z ∈ a0, ok_R z) : (m70 a0) = a0 := by
  have h := c70_0 a0 a0 [] (List.replicate (Int.toNat ((length (map b_R a0)) : Int)) (K_R.mk 0 0 0 [] 0)) (by simp)
  unfold m70
  simp only [List.nil_append, length_nil] at h
  obtain ⟨_, _, h⟩ := h
  rw [show ((0 : Nat) : Int) = 0 from rfl] at h
  rw [h]
theorem g70 {l0_0 : Nat} {a0 : (List K_R)} (hy0 : length a0 * 56 ≤ 140737488351232) (hy1 : ∀ z ∈ a0, ok_R z) : Ev F X (.call 70 [(.one (.bor l0_0 (map b_R a0)))] [] [] [(.one (.own 5 (map d_R a0)))]) := by
  have t := e70 (l0_0 := l0_0) (a0 := a0) hy0 hy1
  rw [q70 a0 hy0 hy1] at t
  exact t
/-! loop.example/g00539/laws.toLedger -/
def m16 (a0 : K_B) : K_B :=
  a0
theorem e16 {l0_2 : Nat} {l0_3 : Nat} {l0_4 : Nat} {a0 : K_B} (hy0 : length a0.f2 * 24 ≤ 140737488351232) (hy1 : length a0.f3 * 56 ≤ 140737488351232) (hy2 : ∀ z ∈ a0.f3, ok_R z) (hy3 : length a0.f4 * 24 ≤ 140737488351232) : Ev F X (.call 16 [(.agg [(.val (.int .i64 a0.f0)), (.val (.int .i64 a0.f1)), (.bor l0_2 (map b_si a0.f2)), (.bor l0_3 (map b_R a0.f3)), (.bor l0_4 (map b_si a0.f4)), (.val (.int .i64 a0.f5)), (.val (.int .i64 a0.f6)), (.val (.int .i64 a0.f7))])] [] [] [(.agg [(.val (.int .i64 a0.f0)), (.val (.int .i64 a0.f1)), (.own 2 (map d_si a0.f2)), (.own 5 (map d_R a0.f3)), (.own 2 (map d_si a0.f4)), (.val (.int .i64 a0.f5)), (.val (.int .i64 a0.f6)), (.val (.int .i64 a0.f7))])]) := by
  have f0 : Ev F X (.call 69 [(.one (.bor (l0_2 + 1) (map b_si a0.f2)))] [] [] [(.one (.own 2 (map d_si a0.f2)))]) := (g69 (a0 := a0.f2) (by with_reducible assumption))
  have f1 : 0 = 0 := rfl
  have f2 : (length (map d_si a0.f2)) = (length (map d_si a0.f2)) := rfl
  have f3 : Ev F X (.call 70 [(.one (.bor (l0_3 + 1) (map b_R a0.f3)))] [] [] [(.one (.own 5 (map d_R a0.f3)))]) := (g70 (a0 := a0.f3) (by with_reducible assumption) (by with_reducible assumption))
  have f4 : 0 = 0 := rfl
  have f5 : (length (map d_R a0.f3)) = (length (map d_R a0.f3)) := rfl
  have f6 : Ev F X (.call 69 [(.one (.bor (l0_4 + 1) (map b_si a0.f4)))] [] [] [(.one (.own 2 (map d_si a0.f4)))]) := (g69 (a0 := a0.f4) (by with_reducible assumption))
  have f7 : 0 = 0 := rfl
  have f8 : (length (map d_si a0.f4)) = (length (map d_si a0.f4)) := rfl
  have f9 : 0 = 0 := rfl
  have f10 : (length (map d_si a0.f2)) = (length (map d_si a0.f2)) := rfl
  have f11 : 0 = 0 := rfl
  have f12 : (length (map d_R a0.f3)) = (length (map d_R a0.f3)) := rfl
  have f13 : 0 = 0 := rfl
  have f14 : (length (map d_si a0.f4)) = (length (map d_si a0.f4)) := rfl
  have f15 : pureR (map d_si a0.f2) = true := (pureR_si _)
  have f16 : pureR (map d_R a0.f3) = true := (pureR_R _)
  have f17 : pureR (map d_si a0.f4) = true := (pureR_si _)
  exact callP_ok (ps := []) (os := []) (rs := [(.agg [(.i a0.f0), (.i a0.f1), (.own 2 (map d_si a0.f2)), (.own 5 (map d_R a0.f3)), (.own 2 (map d_si a0.f4)), (.i a0.f5), (.i a0.f6), (.i a0.f7)])]) (by kernel_rfl) (.r 27 [] [] f0 (.f f1 (.f f2 (.r 37 [] [] f3 (.f f4 (.f f5 (.r 47 [] [] f6 (.f f7 (.f f8 (.f f9 (.f f10 (.f f11 (.f f12 (.f f13 (.f f14 (.f f15 (.f f16 (.f f17 .nil))))))))))))))))))
/-! loop.example/g00539/laws.eqWeight -/
def m137 (a0 : K_si) (a1 : K_si) : Bool :=
  if (!(a0.f0.toList == a1.f0.toList)) = true then false else
  if (a0.f1 != a1.f1) = true then false else
    true
theorem e137 {a0 : K_si} {a1 : K_si} : Ev F X (.call 137 [(.agg [(.val (.string a0.f0)), (.val (.int .i64 a0.f1))]), (.agg [(.val (.string a1.f0)), (.val (.int .i64 a1.f1))])] [] [] [(.one (.val (.bool (m137 a0 a1))))]) := by
  unfold m137
  by_cases h0 : (!(a0.f0.toList == a1.f0.toList)) = true
  · try simp only [if_pos h0]
    exact callP_ok (ps := []) (os := []) (rs := [(.one (.val (.bool false)))]) (by kernel_rfl) (.f h0 (.h 16 (.b true) .nil))
  · try simp only [if_neg h0]
    by_cases h1 : (a0.f1 != a1.f1) = true
    · try simp only [if_pos h1]
      exact callP_ok (ps := []) (os := []) (rs := [(.one (.val (.bool false)))]) (by kernel_rfl) (.f (nt h0) (.f h1 (.h 16 (.b false) (.h 27 (.b true) .nil))))
    · try simp only [if_neg h1]
      exact callP_ok (ps := []) (os := []) (rs := [(.one (.val (.bool true)))]) (by kernel_rfl) (.f (nt h0) (.f (nt h1) (.h 16 (.b false) (.h 27 (.b false) .nil))))
open Classical in
theorem eqd137 (a b : K_si) : m137 a b = decide (a = b) := by
  rw [Bool.eq_iff_iff, decide_eq_true_eq]
  constructor
  · intro h
    unfold m137 at h
    cases a; cases b
    (repeat' split at h) <;> simp_all [ba_eq]
  · rintro rfl
    simp [m137, ba_eq]
/-! loop 77_0 -/
inductive O77_0 where
  | k0 (w0 : Int) (w1 : Bool)
  | k1
def r77_0 (a0 : (List K_si)) : List K_si → List K_si → Int → O77_0
  | x0 :: y0, x1 :: y1, i =>
    if (!(m137 x0 x1)) = true then (O77_0.k1) else
    (r77_0 a0 y0 y1 (i + 1) )
  | _, _, i => (O77_0.k0 i (decide (i < ((length (map b_si a0)) : Int))))
def h77_0 (l0_0 : Nat) (l1_0 : Nat) (a0 : (List K_si)) (a1 : (List K_si)) (i : Int)  : St := ⟨[(0, (.one (.bor l0_0 (map b_si a0)))), (1, (.one (.bor l1_0 (map b_si a1)))), (5, (.one (.val (.int .i64 i))))], []⟩
def ex77_0 : O77_0 → VX.Exit
  | .k0 _ _ => (.exit 0)
  | .k1 => .ret
def fin77_0 (l0_0 : Nat) (l1_0 : Nat) (a0 : (List K_si)) (a1 : (List K_si)) : O77_0 → St
  | .k0 w0 w1 => ⟨[(0, (.one (.bor l0_0 (map b_si a0)))), (1, (.one (.bor l1_0 (map b_si a1)))), (5, (.one (.val (.int .i64 w0)))), (14, (.one (.val (.bool w1))))], []⟩
  | .k1 => ⟨[(4, (.one (.val (.bool false))))], []⟩
theorem t77_0 {l0_0 : Nat} {l1_0 : Nat} {a0 : (List K_si)} {a1 : (List K_si)} (hy0 : length a0 * 24 ≤ 140737488351232) (hy1 : length a1 * 24 ≤ 140737488351232) : ∀ (y0 : List K_si) (y1 : List K_si) (p : List K_si) (p_1 : List K_si) , p ++ y0 = a0 → p_1 ++ y1 = a1 → length p = length p_1 → length y0 = length y1 → Ev F X (.code l77_0 (h77_0 l0_0 l1_0 a0 a1 (length p : Int) ) (ex77_0 (r77_0 a0 y0 y1 (length p : Int) )) (fin77_0 l0_0 l1_0 a0 a1 (r77_0 a0 y0 y1 (length p : Int) )))
  | [], [], p, p_1, hp0, hp1, hq1, hl1 => by
    have hc : ¬ (decide ((length p : Int) < ((length (map b_si a0)) : Int))) = true := by
      rw [← hp0]; simp only [length_map, length_set, length_append, length_replicate, length_cons, length_nil, decide_eq_true_eq]; omega
    have st := codeH_ok (F := F) (X := X) (c := b77_0) (t := 0) (hs := [(8, .b false)]) (σ := h77_0 l0_0 l1_0 a0 a1 (length p : Int) ) (σ' := fin77_0 l0_0 l1_0 a0 a1 (.k0 (length p : Int) (decide ((length p : Int) < ((length (map b_si a0)) : Int))))) (e := (.exit 0)) (t' := 9) (hs' := []) (q := [(decide ((length p : Int) < ((length (map b_si a0)) : Int))) = false]) (by kernel_rfl) ⟨(nt hc), trivial⟩
    exact .loopX st (show ((.exit 0) : VX.Exit) ≠ .normal from by simp)
  | x0 :: y0, x1 :: y1, p, p_1, hp0, hp1, hq1, hl1 => by
    have hc : (decide ((length p : Int) < ((length (map b_si a0)) : Int))) = true := by
      rw [← hp0]; simp only [length_map, length_set, length_append, length_replicate, length_cons, length_nil, decide_eq_true_eq]; omega
    have Hx0 : (a0)[Int.toNat (length p : Int)]? = some x0 := by
      rw [← hp0, Int.toNat_natCast]; simp
    have Hx1 : (a1)[Int.toNat (length p : Int)]? = some x1 := by
      rw [← hp1, hq1, Int.toNat_natCast]; simp
    have hlen : length (a0) = length p + length y0 + 1 := by rw [← hp0]; simp; omega
    have hw : IntKind.wrap .i64 ((length p : Int) + 1) = (length p : Int) + 1 := wrap64 (by omega)
    simp only [r77_0]
    by_cases h_1 : (!(m137 x0 x1)) = true
    · try simp only [if_pos h_1]
      have st := codeH_ok (F := F) (X := X) (c := b77_0) (t := 0) (hs := [(8, .b true), (14, .row [(.val (.string x0.f0)), (.i x0.f1)]), (22, .row [(.val (.string x1.f0)), (.i x1.f1)]), (26, .ret [] [(.one (.val (.bool (m137 x0 x1))))] [] []), (29, .b true)]) (σ := h77_0 l0_0 l1_0 a0 a1 (length p : Int) ) (σ' := fin77_0 l0_0 l1_0 a0 a1 (.k1)) (e := .ret) (t' := 32) (hs' := []) (q := [(decide ((length p : Int) < ((length (map b_si a0)) : Int))) = true, 0 ≤ (length p : Int), (map b_si a0)[(Int.toNat (length p : Int))]? = some [(.val (.string x0.f0)), (.i x0.f1)], 0 ≤ (length p : Int), (map b_si a1)[(Int.toNat (length p : Int))]? = some [(.val (.string x1.f0)), (.i x1.f1)], Ev F X (.call 137 [(.agg [(.val (.string x0.f0)), (.i x0.f1)]), (.agg [(.val (.string x1.f0)), (.i x1.f1)])] [] [] [(.one (.val (.bool (m137 x0 x1))))]), (!(m137 x0 x1)) = true]) (by kernel_rfl) ⟨hc, (by omega), (by rw [getElem?_map, Hx0]; rfl), (by omega), (by rw [getElem?_map, Hx1]; rfl), (e137 (a0 := x0) (a1 := x1)), h_1, trivial⟩
      exact .loopX st (show (.ret : VX.Exit) ≠ .normal from by simp)
    · try simp only [if_neg h_1]
      have st := codeH_ok (F := F) (X := X) (c := b77_0) (t := 0) (hs := [(8, .b true), (14, .row [(.val (.string x0.f0)), (.i x0.f1)]), (22, .row [(.val (.string x1.f0)), (.i x1.f1)]), (26, .ret [] [(.one (.val (.bool (m137 x0 x1))))] [] []), (29, .b false)]) (σ := h77_0 l0_0 l1_0 a0 a1 (length p : Int) ) (σ' := ⟨[(0, (.one (.bor l0_0 (map b_si a0)))), (1, (.one (.bor l1_0 (map b_si a1)))), (5, (.oi (IntKind.wrap .i64 ((length p : Int) + 1))))], []⟩) (e := .normal) (t' := 36) (hs' := []) (q := [(decide ((length p : Int) < ((length (map b_si a0)) : Int))) = true, 0 ≤ (length p : Int), (map b_si a0)[(Int.toNat (length p : Int))]? = some [(.val (.string x0.f0)), (.i x0.f1)], 0 ≤ (length p : Int), (map b_si a1)[(Int.toNat (length p : Int))]? = some [(.val (.string x1.f0)), (.i x1.f1)], Ev F X (.call 137 [(.agg [(.val (.string x0.f0)), (.i x0.f1)]), (.agg [(.val (.string x1.f0)), (.i x1.f1)])] [] [] [(.one (.val (.bool (m137 x0 x1))))]), (!(m137 x0 x1)) = false, True]) (by kernel_rfl) ⟨hc, (by omega), (by rw [getElem?_map, Hx0]; rfl), (by omega), (by rw [getElem?_map, Hx1]; rfl), (e137 (a0 := x0) (a1 := x1)), (nt h_1), trivial, trivial⟩
      have ih := t77_0 (l0_0 := l0_0) (l1_0 := l1_0) (a0 := a0) (a1 := a1) hy0 hy1 y0 y1 (p ++ [x0]) (p_1 ++ [x1])  (by rw [append_assoc]; exact hp0) (by rw [append_assoc]; exact hp1) (by simp only [length_map, length_set, length_append, length_replicate, length_cons, length_nil]; omega) (by simp only [length_map, length_set, length_append, length_replicate, length_cons, length_nil] at hl1; omega)
      rw [show ((p ++ [x0]).length : Int) = (p.length : Int) + 1 from by simp] at ih
      rw [show (⟨[(0, (.one (.bor l0_0 (map b_si a0)))), (1, (.one (.bor l1_0 (map b_si a1)))), (5, (.oi (IntKind.wrap .i64 ((length p : Int) + 1))))], []⟩ : St) = h77_0 l0_0 l1_0 a0 a1 ((length p : Int) + 1)  from (by unfold h77_0; simp only [hw]; done)] at st
      exact .loopN st ih
/-! loop.example/g00539/laws.eqWeightS -/
def m77 (a0 : (List K_si)) (a1 : (List K_si)) : Bool :=
  if (((length (map b_si a0)) : Int) != ((length (map b_si a1)) : Int)) = true then false else
  (match r77_0 a0 a0 a1 0 with | .k0 w0_1 w1_1 => true | .k1 => false)
theorem e77 {l0_0 : Nat} {a0 : (List K_si)} {l1_0 : Nat} {a1 : (List K_si)} (hy0 : length a0 * 24 ≤ 140737488351232) (hy1 : length a1 * 24 ≤ 140737488351232) : Ev F X (.call 77 [(.one (.bor l0_0 (map b_si a0))), (.one (.bor l1_0 (map b_si a1)))] [] [] [(.one (.val (.bool (m77 a0 a1))))]) := by
  unfold m77
  by_cases h0 : (((length (map b_si a0)) : Int) != ((length (map b_si a1)) : Int)) = true
  · try simp only [if_pos h0]
    exact callP_ok (ps := []) (os := []) (rs := [(.one (.val (.bool false)))]) (by kernel_rfl) (.f h0 (.h 12 (.b true) .nil))
  · try simp only [if_neg h0]
    cases h1 : r77_0 a0 a0 a1 0 with
    | k0 w0_1 w1_1 =>
      try dsimp only
      have f1 : (⟨[(0, (.one (.bor l0_0 (map b_si a0)))), (1, (.one (.bor l1_0 (map b_si a1)))), (5, (.oi 0))], []⟩ : St) = h77_0 l0_0 l1_0 a0 a1 0  := (by rfl)
      have f2 : Ev F X (.code l77_0 (h77_0 l0_0 l1_0 a0 a1 0 ) (.exit 0) ⟨[(0, (.one (.bor l0_0 (map b_si a0)))), (1, (.one (.bor l1_0 (map b_si a1)))), (5, (.oi w0_1)), (14, (.one (.val (.bool w1_1))))], []⟩) := (by have t : Ev F X (.code l77_0 (h77_0 l0_0 l1_0 a0 a1 0 ) (ex77_0 (r77_0 a0 a0 a1 0)) (fin77_0 l0_0 l1_0 a0 a1 (r77_0 a0 a0 a1 0))) := t77_0 (l0_0 := l0_0) (l1_0 := l1_0) (a0 := a0) (a1 := a1) (by assumption) (by assumption) a0 a1 [] []  rfl rfl rfl (by simp at *; omega); rw [h1] at t; exact t)
      exact callP_ok (ps := []) (os := []) (rs := [(.one (.val (.bool true)))]) (by kernel_rfl) (.f (nt h0) (.f f1 (.f f2 (.h 12 (.b false) (.h 15 (.loop (h77_0 l0_0 l1_0 a0 a1 0 ) (.exit 0) ⟨[(0, (.one (.bor l0_0 (map b_si a0)))), (1, (.one (.bor l1_0 (map b_si a1)))), (5, (.oi w0_1)), (14, (.one (.val (.bool w1_1))))], []⟩) .nil)))))
    | k1 =>
      try dsimp only
      have f1 : (⟨[(0, (.one (.bor l0_0 (map b_si a0)))), (1, (.one (.bor l1_0 (map b_si a1)))), (5, (.oi 0))], []⟩ : St) = h77_0 l0_0 l1_0 a0 a1 0  := (by rfl)
      have f2 : Ev F X (.code l77_0 (h77_0 l0_0 l1_0 a0 a1 0 ) .ret ⟨[(4, (.one (.val (.bool false))))], []⟩) := (by have t : Ev F X (.code l77_0 (h77_0 l0_0 l1_0 a0 a1 0 ) (ex77_0 (r77_0 a0 a0 a1 0)) (fin77_0 l0_0 l1_0 a0 a1 (r77_0 a0 a0 a1 0))) := t77_0 (l0_0 := l0_0) (l1_0 := l1_0) (a0 := a0) (a1 := a1) (by assumption) (by assumption) a0 a1 [] []  rfl rfl rfl (by simp at *; omega); rw [h1] at t; exact t)
      exact callP_ok (ps := []) (os := []) (rs := [(.one (.val (.bool false)))]) (by kernel_rfl) (.f (nt h0) (.f f1 (.f f2 (.h 12 (.b false) (.h 15 (.loop (h77_0 l0_0 l1_0 a0 a1 0 ) .ret ⟨[(4, (.one (.val (.bool false))))], []⟩) .nil)))))
theorem eqr77_0 (a0 : (List K_si)) : ∀ (l m : List K_si) (i : Int), l.length = m.length → (r77_0 a0 l m i = .k1 ∧ l ≠ m) ∨ (∃ w0 w1, r77_0 a0 l m i = .k0 w0 w1 ∧ l = m)
  | [], [], i, _ => .inr ⟨_, _, rfl, rfl⟩
  | [], _ :: _, i, h => by simp at h
  | _ :: _, [], i, h => by simp at h
  | x :: l, y :: m, i, h => by
    have ih := eqr77_0 a0 l m (i + 1) (by simpa using h)
    by_cases hxy : x = y
    · subst hxy
      have e : r77_0 a0 (x :: l) (x :: m) i = r77_0 a0 l m (i + 1) := by simp [r77_0, ba_eq, eqd137]
      rw [e]
      rcases ih with ⟨h1, h2⟩ | ⟨w0, w1, h1, h2⟩
      · exact .inl ⟨h1, by simp [h2]⟩
      · exact .inr ⟨_, _, h1, by rw [h2]⟩
    · have e : r77_0 a0 (x :: l) (y :: m) i = .k1 := by
        simp only [r77_0]
        first
          | ((repeat' split) <;> simp_all [ba_eq, eqd137]; done)
          | (cases x; cases y; (repeat' split) <;> simp_all [ba_eq, eqd137])
      exact .inl ⟨e, by simp [hxy]⟩
open Classical in
theorem eqd77 (a b : (List K_si)) : m77 a b = decide (a = b) := by
  rw [Bool.eq_iff_iff, decide_eq_true_eq]
  unfold m77
  by_cases hl : length a = length b
  · rcases eqr77_0 a a b 0 hl with ⟨h1, h2⟩ | ⟨w0, w1, h1, h2⟩
    · simp only [h1, length_map, hl]
      first
        | (simp [h2, ba_eq, eqd137]; done)
        | (cases a; cases b; simp_all [ba_eq, eqd137]; done)
        | (cases a; cases b; (repeat' split) <;> simp_all [ba_eq, eqd137])
    · simp only [h1, length_map, hl]
      first
        | (simp [h2, ba_eq, eqd137]; done)
        | (cases a; cases b; simp_all [ba_eq, eqd137]; done)
        | (cases a; cases b; (repeat' split) <;> simp_all [ba_eq, eqd137])
  · have hn : a ≠ b := by rintro rfl; exact hl rfl
    simp only [length_map]
    first
      | (simp [hn, hl, ba_eq, eqd137]; done)
      | ((repeat' split) <;> simp_all [ba_eq, eqd137]; done)
      | (simp [hn]; omega)
/-! loop.example/g00539/laws.eqReward -/
def m138 (a0 : K_R) (a1 : K_R) : Bool :=
  if (a0.f0 != a1.f0) = true then false else
  if (a0.f1 != a1.f1) = true then false else
    if (a0.f2 != a1.f2) = true then false else
      if (!(m77 a0.f3 a1.f3)) = true then false else
        if (a0.f4 != a1.f4) = true then false else
          true
theorem e138 {l0_3 : Nat} {a0 : K_R} {l1_3 : Nat} {a1 : K_R} (hy0 : length a0.f3 * 24 ≤ 140737488351232) (hy1 : length a1.f3 * 24 ≤ 140737488351232) : Ev F X (.call 138 [(.agg [(.val (.int .i64 a0.f0)), (.val (.int .i64 a0.f1)), (.val (.int .i64 a0.f2)), (.bor l0_3 (map b_si a0.f3)), (.val (.int .i64 a0.f4))]), (.agg [(.val (.int .i64 a1.f0)), (.val (.int .i64 a1.f1)), (.val (.int .i64 a1.f2)), (.bor l1_3 (map b_si a1.f3)), (.val (.int .i64 a1.f4))])] [] [] [(.one (.val (.bool (m138 a0 a1))))]) := by
  unfold m138
  by_cases h0 : (a0.f0 != a1.f0) = true
  · try simp only [if_pos h0]
    exact callP_ok (ps := []) (os := []) (rs := [(.one (.val (.bool false)))]) (by kernel_rfl) (.f h0 (.h 16 (.b true) .nil))
  · try simp only [if_neg h0]
    by_cases h1 : (a0.f1 != a1.f1) = true
    · try simp only [if_pos h1]
      exact callP_ok (ps := []) (os := []) (rs := [(.one (.val (.bool false)))]) (by kernel_rfl) (.f (nt h0) (.f h1 (.h 16 (.b false) (.h 27 (.b true) .nil))))
    · try simp only [if_neg h1]
      by_cases h2 : (a0.f2 != a1.f2) = true
      · try simp only [if_pos h2]
        exact callP_ok (ps := []) (os := []) (rs := [(.one (.val (.bool false)))]) (by kernel_rfl) (.f (nt h0) (.f (nt h1) (.f h2 (.h 16 (.b false) (.h 27 (.b false) (.h 38 (.b true) .nil))))))
      · try simp only [if_neg h2]
        have f3 : Ev F X (.call 77 [(.one (.bor (l0_3 + 1) (map b_si a0.f3))), (.one (.bor (l1_3 + 1) (map b_si a1.f3)))] [] [] [(.one (.val (.bool (m77 a0.f3 a1.f3))))]) := (e77 (a0 := a0.f3) (a1 := a1.f3) (by with_reducible assumption) (by with_reducible assumption))
        by_cases h3 : (!(m77 a0.f3 a1.f3)) = true
        · try simp only [if_pos h3]
          exact callP_ok (ps := []) (os := []) (rs := [(.one (.val (.bool false)))]) (by kernel_rfl) (.f (nt h0) (.f (nt h1) (.f (nt h2) (.h 16 (.b false) (.h 27 (.b false) (.h 38 (.b false) (.r 48 [] [] f3 (.f h3 (.h 51 (.b true) .nil)))))))))
        · try simp only [if_neg h3]
          by_cases h4 : (a0.f4 != a1.f4) = true
          · try simp only [if_pos h4]
            exact callP_ok (ps := []) (os := []) (rs := [(.one (.val (.bool false)))]) (by kernel_rfl) (.f (nt h0) (.f (nt h1) (.f (nt h2) (.h 16 (.b false) (.h 27 (.b false) (.h 38 (.b false) (.r 48 [] [] f3 (.f (nt h3) (.f h4 (.h 51 (.b false) (.h 62 (.b true) .nil)))))))))))
          · try simp only [if_neg h4]
            exact callP_ok (ps := []) (os := []) (rs := [(.one (.val (.bool true)))]) (by kernel_rfl) (.f (nt h0) (.f (nt h1) (.f (nt h2) (.h 16 (.b false) (.h 27 (.b false) (.h 38 (.b false) (.r 48 [] [] f3 (.f (nt h3) (.f (nt h4) (.h 51 (.b false) (.h 62 (.b false) .nil)))))))))))
open Classical in
theorem eqd138 (a b : K_R) : m138 a b = decide (a = b) := by
  rw [Bool.eq_iff_iff, decide_eq_true_eq]
  constructor
  · intro h
    unfold m138 at h
    cases a; cases b
    (repeat' split at h) <;> simp_all [ba_eq, eqd77]
  · rintro rfl
    simp [m138, ba_eq, eqd77]
/-! loop 78_0 -/
inductive O78_0 where
  | k0 (w0 : Int) (w1 : Bool)
  | k1
def r78_0 (a0 : (List K_R)) : List K_R → List K_R → Int → O78_0
  | x0 :: y0, x1 :: y1, i =>
    if (!(m138 x0 x1)) = true then (O78_0.k1) else
    (r78_0 a0 y0 y1 (i + 1) )
  | _, _, i => (O78_0.k0 i (decide (i < ((length (map b_R a0)) : Int))))
def h78_0 (l0_0 : Nat) (l1_0 : Nat) (a0 : (List K_R)) (a1 : (List K_R)) (i : Int)  : St := ⟨[(0, (.one (.bor l0_0 (map b_R a0)))), (1, (.one (.bor l1_0 (map b_R a1)))), (5, (.one (.val (.int .i64 i))))], []⟩
def ex78_0 : O78_0 → VX.Exit
  | .k0 _ _ => (.exit 0)
  | .k1 => .ret
def fin78_0 (l0_0 : Nat) (l1_0 : Nat) (a0 : (List K_R)) (a1 : (List K_R)) : O78_0 → St
  | .k0 w0 w1 => ⟨[(0, (.one (.bor l0_0 (map b_R a0)))), (1, (.one (.bor l1_0 (map b_R a1)))), (5, (.one (.val (.int .i64 w0)))), (14, (.one (.val (.bool w1))))], []⟩
  | .k1 => ⟨[(4, (.one (.val (.bool false))))], []⟩
theorem t78_0 {l0_0 : Nat} {l1_0 : Nat} {a0 : (List K_R)} {a1 : (List K_R)} (hy0 : length a0 * 56 ≤ 140737488351232) (hy1 : ∀ z ∈ a0, ok_R z) (hy2 : length a1 * 56 ≤ 140737488351232) (hy3 : ∀ z ∈ a1, ok_R z) : ∀ (y0 : List K_R) (y1 : List K_R) (p : List K_R) (p_1 : List K_R) , p ++ y0 = a0 → p_1 ++ y1 = a1 → length p = length p_1 → length y0 = length y1 → Ev F X (.code l78_0 (h78_0 l0_0 l1_0 a0 a1 (length p : Int) ) (ex78_0 (r78_0 a0 y0 y1 (length p : Int) )) (fin78_0 l0_0 l1_0 a0 a1 (r78_0 a0 y0 y1 (length p : Int) )))
  | [], [], p, p_1, hp0, hp1, hq1, hl1 => by
    have hc : ¬ (decide ((length p : Int) < ((length (map b_R a0)) : Int))) = true := by
      rw [← hp0]; simp only [length_map, length_set, length_append, length_replicate, length_cons, length_nil, decide_eq_true_eq]; omega
    have st := codeH_ok (F := F) (X := X) (c := b78_0) (t := 0) (hs := [(8, .b false)]) (σ := h78_0 l0_0 l1_0 a0 a1 (length p : Int) ) (σ' := fin78_0 l0_0 l1_0 a0 a1 (.k0 (length p : Int) (decide ((length p : Int) < ((length (map b_R a0)) : Int))))) (e := (.exit 0)) (t' := 9) (hs' := []) (q := [(decide ((length p : Int) < ((length (map b_R a0)) : Int))) = false]) (by kernel_rfl) ⟨(nt hc), trivial⟩
    exact .loopX st (show ((.exit 0) : VX.Exit) ≠ .normal from by simp)
  | x0 :: y0, x1 :: y1, p, p_1, hp0, hp1, hq1, hl1 => by
    have hc : (decide ((length p : Int) < ((length (map b_R a0)) : Int))) = true := by
      rw [← hp0]; simp only [length_map, length_set, length_append, length_replicate, length_cons, length_nil, decide_eq_true_eq]; omega
    have Hx0 : (a0)[Int.toNat (length p : Int)]? = some x0 := by
      rw [← hp0, Int.toNat_natCast]; simp
    have Hx1 : (a1)[Int.toNat (length p : Int)]? = some x1 := by
      rw [← hp1, hq1, Int.toNat_natCast]; simp
    have Mx0_0 := hy1 x0 (List.mem_of_getElem? Hx0)
    have Mx1_0 := hy3 x1 (List.mem_of_getElem? Hx1)
    have hlen : length (a0) = length p + length y0 + 1 := by rw [← hp0]; simp; omega
    have hw : IntKind.wrap .i64 ((length p : Int) + 1) = (length p : Int) + 1 := wrap64 (by omega)
    simp only [r78_0]
    by_cases h_1 : (!(m138 x0 x1)) = true
    · try simp only [if_pos h_1]
      have st := codeH_ok (F := F) (X := X) (c := b78_0) (t := 0) (hs := [(8, .b true), (14, .row [(.i x0.f0), (.i x0.f1), (.i x0.f2), (.sl (map b_si x0.f3)), (.i x0.f4)]), (22, .row [(.i x1.f0), (.i x1.f1), (.i x1.f2), (.sl (map b_si x1.f3)), (.i x1.f4)]), (26, .ret [] [(.one (.val (.bool (m138 x0 x1))))] [] []), (29, .b true)]) (σ := h78_0 l0_0 l1_0 a0 a1 (length p : Int) ) (σ' := fin78_0 l0_0 l1_0 a0 a1 (.k1)) (e := .ret) (t' := 32) (hs' := []) (q := [(decide ((length p : Int) < ((length (map b_R a0)) : Int))) = true, 0 ≤ (length p : Int), (map b_R a0)[(Int.toNat (length p : Int))]? = some [(.i x0.f0), (.i x0.f1), (.i x0.f2), (.sl (map b_si x0.f3)), (.i x0.f4)], 0 ≤ (length p : Int), (map b_R a1)[(Int.toNat (length p : Int))]? = some [(.i x1.f0), (.i x1.f1), (.i x1.f2), (.sl (map b_si x1.f3)), (.i x1.f4)], Ev F X (.call 138 [(.agg [(.i x0.f0), (.i x0.f1), (.i x0.f2), (.bor (l0_0 + 1) (map b_si x0.f3)), (.i x0.f4)]), (.agg [(.i x1.f0), (.i x1.f1), (.i x1.f2), (.bor (l1_0 + 1) (map b_si x1.f3)), (.i x1.f4)])] [] [] [(.one (.val (.bool (m138 x0 x1))))]), (!(m138 x0 x1)) = true]) (by kernel_rfl) ⟨hc, (by omega), (by rw [getElem?_map, Hx0]; rfl), (by omega), (by rw [getElem?_map, Hx1]; rfl), (e138 (a0 := x0) (a1 := x1) (by assumption) (by assumption)), h_1, trivial⟩
      exact .loopX st (show (.ret : VX.Exit) ≠ .normal from by simp)
    · try simp only [if_neg h_1]
      have st := codeH_ok (F := F) (X := X) (c := b78_0) (t := 0) (hs := [(8, .b true), (14, .row [(.i x0.f0), (.i x0.f1), (.i x0.f2), (.sl (map b_si x0.f3)), (.i x0.f4)]), (22, .row [(.i x1.f0), (.i x1.f1), (.i x1.f2), (.sl (map b_si x1.f3)), (.i x1.f4)]), (26, .ret [] [(.one (.val (.bool (m138 x0 x1))))] [] []), (29, .b false)]) (σ := h78_0 l0_0 l1_0 a0 a1 (length p : Int) ) (σ' := ⟨[(0, (.one (.bor l0_0 (map b_R a0)))), (1, (.one (.bor l1_0 (map b_R a1)))), (5, (.oi (IntKind.wrap .i64 ((length p : Int) + 1))))], []⟩) (e := .normal) (t' := 36) (hs' := []) (q := [(decide ((length p : Int) < ((length (map b_R a0)) : Int))) = true, 0 ≤ (length p : Int), (map b_R a0)[(Int.toNat (length p : Int))]? = some [(.i x0.f0), (.i x0.f1), (.i x0.f2), (.sl (map b_si x0.f3)), (.i x0.f4)], 0 ≤ (length p : Int), (map b_R a1)[(Int.toNat (length p : Int))]? = some [(.i x1.f0), (.i x1.f1), (.i x1.f2), (.sl (map b_si x1.f3)), (.i x1.f4)], Ev F X (.call 138 [(.agg [(.i x0.f0), (.i x0.f1), (.i x0.f2), (.bor (l0_0 + 1) (map b_si x0.f3)), (.i x0.f4)]), (.agg [(.i x1.f0), (.i x1.f1), (.i x1.f2), (.bor (l1_0 + 1) (map b_si x1.f3)), (.i x1.f4)])] [] [] [(.one (.val (.bool (m138 x0 x1))))]), (!(m138 x0 x1)) = false, True]) (by kernel_rfl) ⟨hc, (by omega), (by rw [getElem?_map, Hx0]; rfl), (by omega), (by rw [getElem?_map, Hx1]; rfl), (e138 (a0 := x0) (a1 := x1) (by assumption) (by assumption)), (nt h_1), trivial, trivial⟩
      have ih := t78_0 (l0_0 := l0_0) (l1_0 := l1_0) (a0 := a0) (a1 := a1) hy0 hy1 hy2 hy3 y0 y1 (p ++ [x0]) (p_1 ++ [x1])  (by rw [append_assoc]; exact hp0) (by rw [append_assoc]; exact hp1) (by simp only [length_map, length_set, length_append, length_replicate, length_cons, length_nil]; omega) (by simp only [length_map, length_set, length_append, length_replicate, length_cons, length_nil] at hl1; omega)
      rw [show ((p ++ [x0]).length : Int) = (p.length : Int) + 1 from by simp] at ih
      rw [show (⟨[(0, (.one (.bor l0_0 (map b_R a0)))), (1, (.one (.bor l1_0 (map b_R a1)))), (5, (.oi (IntKind.wrap .i64 ((length p : Int) + 1))))], []⟩ : St) = h78_0 l0_0 l1_0 a0 a1 ((length p : Int) + 1)  from (by unfold h78_0; simp only [hw]; done)] at st
      exact .loopN st ih
/-! loop.example/g00539/laws.eqRewardS -/
def m78 (a0 : (List K_R)) (a1 : (List K_R)) : Bool :=
  if (((length (map b_R a0)) : Int) != ((length (map b_R a1)) : Int)) = true then false else
  (match r78_0 a0 a0 a1 0 with | .k0 w0_1 w1_1 => true | .k1 => false)
theorem e78 {l0_0 : Nat} {a0 : (List K_R)} {l1_0 : Nat} {a1 : (List K_R)} (hy0 : length a0 * 56 ≤ 140737488351232) (hy1 : ∀ z ∈ a0, ok_R z) (hy2 : length a1 * 56 ≤ 140737488351232) (hy3 : ∀ z ∈ a1, ok_R z) : Ev F X (.call 78 [(.one (.bor l0_0 (map b_R a0))), (.one (.bor l1_0 (map b_R a1)))] [] [] [(.one (.val (.bool (m78 a0 a1))))]) := by
  unfold m78
  by_cases h0 : (((length (map b_R a0)) : Int) != ((length (map b_R a1)) : Int)) = true
  · try simp only [if_pos h0]
    exact callP_ok (ps := []) (os := []) (rs := [(.one (.val (.bool false)))]) (by kernel_rfl) (.f h0 (.h 12 (.b true) .nil))
  · try simp only [if_neg h0]
    cases h1 : r78_0 a0 a0 a1 0 with
    | k0 w0_1 w1_1 =>
      try dsimp only
      have f1 : (⟨[(0, (.one (.bor l0_0 (map b_R a0)))), (1, (.one (.bor l1_0 (map b_R a1)))), (5, (.oi 0))], []⟩ : St) = h78_0 l0_0 l1_0 a0 a1 0  := (by rfl)
      have f2 : Ev F X (.code l78_0 (h78_0 l0_0 l1_0 a0 a1 0 ) (.exit 0) ⟨[(0, (.one (.bor l0_0 (map b_R a0)))), (1, (.one (.bor l1_0 (map b_R a1)))), (5, (.oi w0_1)), (14, (.one (.val (.bool w1_1))))], []⟩) := (by have t : Ev F X (.code l78_0 (h78_0 l0_0 l1_0 a0 a1 0 ) (ex78_0 (r78_0 a0 a0 a1 0)) (fin78_0 l0_0 l1_0 a0 a1 (r78_0 a0 a0 a1 0))) := t78_0 (l0_0 := l0_0) (l1_0 := l1_0) (a0 := a0) (a1 := a1) (by assumption) (by assumption) (by assumption) (by assumption) a0 a1 [] []  rfl rfl rfl (by simp at *; omega); rw [h1] at t; exact t)
      exact callP_ok (ps := []) (os := []) (rs := [(.one (.val (.bool true)))]) (by kernel_rfl) (.f (nt h0) (.f f1 (.f f2 (.h 12 (.b false) (.h 15 (.loop (h78_0 l0_0 l1_0 a0 a1 0 ) (.exit 0) ⟨[(0, (.one (.bor l0_0 (map b_R a0)))), (1, (.one (.bor l1_0 (map b_R a1)))), (5, (.oi w0_1)), (14, (.one (.val (.bool w1_1))))], []⟩) .nil)))))
    | k1 =>
      try dsimp only
      have f1 : (⟨[(0, (.one (.bor l0_0 (map b_R a0)))), (1, (.one (.bor l1_0 (map b_R a1)))), (5, (.oi 0))], []⟩ : St) = h78_0 l0_0 l1_0 a0 a1 0  := (by rfl)
      have f2 : Ev F X (.code l78_0 (h78_0 l0_0 l1_0 a0 a1 0 ) .ret ⟨[(4, (.one (.val (.bool false))))], []⟩) := (by have t : Ev F X (.code l78_0 (h78_0 l0_0 l1_0 a0 a1 0 ) (ex78_0 (r78_0 a0 a0 a1 0)) (fin78_0 l0_0 l1_0 a0 a1 (r78_0 a0 a0 a1 0))) := t78_0 (l0_0 := l0_0) (l1_0 := l1_0) (a0 := a0) (a1 := a1) (by assumption) (by assumption) (by assumption) (by assumption) a0 a1 [] []  rfl rfl rfl (by simp at *; omega); rw [h1] at t; exact t)
      exact callP_ok (ps := []) (os := []) (rs := [(.one (.val (.bool false)))]) (by kernel_rfl) (.f (nt h0) (.f f1 (.f f2 (.h 12 (.b false) (.h 15 (.loop (h78_0 l0_0 l1_0 a0 a1 0 ) .ret ⟨[(4, (.one (.val (.bool false))))], []⟩) .nil)))))
theorem eqr78_0 (a0 : (List K_R)) : ∀ (l m : List K_R) (i : Int), l.length = m.length → (r78_0 a0 l m i = .k1 ∧ l ≠ m) ∨ (∃ w0 w1, r78_0 a0 l m i = .k0 w0 w1 ∧ l = m)
  | [], [], i, _ => .inr ⟨_, _, rfl, rfl⟩
  | [], _ :: _, i, h => by simp at h
  | _ :: _, [], i, h => by simp at h
  | x :: l, y :: m, i, h => by
    have ih := eqr78_0 a0 l m (i + 1) (by simpa using h)
    by_cases hxy : x = y
    · subst hxy
      have e : r78_0 a0 (x :: l) (x :: m) i = r78_0 a0 l m (i + 1) := by simp [r78_0, ba_eq, eqd138]
      rw [e]
      rcases ih with ⟨h1, h2⟩ | ⟨w0, w1, h1, h2⟩
      · exact .inl ⟨h1, by simp [h2]⟩
      · exact .inr ⟨_, _, h1, by rw [h2]⟩
    · have e : r78_0 a0 (x :: l) (y :: m) i = .k1 := by
        simp only [r78_0]
        first
          | ((repeat' split) <;> simp_all [ba_eq, eqd138]; done)
          | (cases x; cases y; (repeat' split) <;> simp_all [ba_eq, eqd138])
      exact .inl ⟨e, by simp [hxy]⟩
open Classical in
theorem eqd78 (a b : (List K_R)) : m78 a b = decide (a = b) := by
  rw [Bool.eq_iff_iff, decide_eq_true_eq]
  unfold m78
  by_cases hl : length a = length b
  · rcases eqr78_0 a a b 0 hl with ⟨h1, h2⟩ | ⟨w0, w1, h1, h2⟩
    · simp only [h1, length_map, hl]
      first
        | (simp [h2, ba_eq, eqd138]; done)
        | (cases a; cases b; simp_all [ba_eq, eqd138]; done)
        | (cases a; cases b; (repeat' split) <;> simp_all [ba_eq, eqd138])
    · simp only [h1, length_map, hl]
      first
        | (simp [h2, ba_eq, eqd138]; done)
        | (cases a; cases b; simp_all [ba_eq, eqd138]; done)
        | (cases a; cases b; (repeat' split) <;> simp_all [ba_eq, eqd138])
  · have hn : a ≠ b := by rintro rfl; exact hl rfl
    simp only [length_map]
    first
      | (simp [hn, hl, ba_eq, eqd138]; done)
      | ((repeat' split) <;> simp_all [ba_eq, eqd138]; done)
      | (simp [hn]; omega)
/-! loop.example/g00539/laws.eqLedger -/
def m18 (a0 : K_B) (a1 : K_B) : Bool :=
  if (a0.f0 != a1.f0) = true then false else
  if (a0.f1 != a1.f1) = true then false else
    if (!(m77 a0.f2 a1.f2)) = true then false else
      if (!(m78 a0.f3 a1.f3)) = true then false else
        if (!(m77 a0.f4 a1.f4)) = true then false else
          if (a0.f5 != a1.f5) = true then false else
            if (a0.f6 != a1.f6) = true then false else
              if (a0.f7 != a1.f7) = true then false else
                true
theorem e18 {l0_2 : Nat} {l0_3 : Nat} {l0_4 : Nat} {a0 : K_B} {l1_2 : Nat} {l1_3 : Nat} {l1_4 : Nat} {a1 : K_B} (hy0 : length a0.f2 * 24 ≤ 140737488351232) (hy1 : length a0.f3 * 56 ≤ 140737488351232) (hy2 : ∀ z ∈ a0.f3, ok_R z) (hy3 : length a0.f4 * 24 ≤ 140737488351232) (hy4 : length a1.f2 * 24 ≤ 140737488351232) (hy5 : length a1.f3 * 56 ≤ 140737488351232) (hy6 : ∀ z ∈ a1.f3, ok_R z) (hy7 : length a1.f4 * 24 ≤ 140737488351232) : Ev F X (.call 18 [(.agg [(.val (.int .i64 a0.f0)), (.val (.int .i64 a0.f1)), (.bor l0_2 (map b_si a0.f2)), (.bor l0_3 (map b_R a0.f3)), (.bor l0_4 (map b_si a0.f4)), (.val (.int .i64 a0.f5)), (.val (.int .i64 a0.f6)), (.val (.int .i64 a0.f7))]), (.agg [(.val (.int .i64 a1.f0)), (.val (.int .i64 a1.f1)), (.bor l1_2 (map b_si a1.f2)), (.bor l1_3 (map b_R a1.f3)), (.bor l1_4 (map b_si a1.f4)), (.val (.int .i64 a1.f5)), (.val (.int .i64 a1.f6)), (.val (.int .i64 a1.f7))])] [] [] [(.one (.val (.bool (m18 a0 a1))))]) := by
  unfold m18
  by_cases h0 : (a0.f0 != a1.f0) = true
  · try simp only [if_pos h0]
    exact callP_ok (ps := []) (os := []) (rs := [(.one (.val (.bool false)))]) (by kernel_rfl) (.f h0 (.h 16 (.b true) .nil))
  · try simp only [if_neg h0]
    by_cases h1 : (a0.f1 != a1.f1) = true
    · try simp only [if_pos h1]
      exact callP_ok (ps := []) (os := []) (rs := [(.one (.val (.bool false)))]) (by kernel_rfl) (.f (nt h0) (.f h1 (.h 16 (.b false) (.h 27 (.b true) .nil))))
    · try simp only [if_neg h1]
      have f2 : Ev F X (.call 77 [(.one (.bor (l0_2 + 1) (map b_si a0.f2))), (.one (.bor (l1_2 + 1) (map b_si a1.f2)))] [] [] [(.one (.val (.bool (m77 a0.f2 a1.f2))))]) := (e77 (a0 := a0.f2) (a1 := a1.f2) (by with_reducible assumption) (by with_reducible assumption))
      by_cases h2 : (!(m77 a0.f2 a1.f2)) = true
      · try simp only [if_pos h2]
        exact callP_ok (ps := []) (os := []) (rs := [(.one (.val (.bool false)))]) (by kernel_rfl) (.f (nt h0) (.f (nt h1) (.h 16 (.b false) (.h 27 (.b false) (.r 37 [] [] f2 (.f h2 (.h 40 (.b true) .nil)))))))
      · try simp only [if_neg h2]
        have f4 : Ev F X (.call 78 [(.one (.bor (l0_3 + 1) (map b_R a0.f3))), (.one (.bor (l1_3 + 1) (map b_R a1.f3)))] [] [] [(.one (.val (.bool (m78 a0.f3 a1.f3))))]) := (e78 (a0 := a0.f3) (a1 := a1.f3) (by with_reducible assumption) (by with_reducible assumption) (by with_reducible assumption) (by with_reducible assumption))
        by_cases h3 : (!(m78 a0.f3 a1.f3)) = true
        · try simp only [if_pos h3]
          exact callP_ok (ps := []) (os := []) (rs := [(.one (.val (.bool false)))]) (by kernel_rfl) (.f (nt h0) (.f (nt h1) (.h 16 (.b false) (.h 27 (.b false) (.r 37 [] [] f2 (.f (nt h2) (.h 40 (.b false) (.r 50 [] [] f4 (.f h3 (.h 53 (.b true) .nil))))))))))
        · try simp only [if_neg h3]
          have f6 : Ev F X (.call 77 [(.one (.bor (l0_4 + 1) (map b_si a0.f4))), (.one (.bor (l1_4 + 1) (map b_si a1.f4)))] [] [] [(.one (.val (.bool (m77 a0.f4 a1.f4))))]) := (e77 (a0 := a0.f4) (a1 := a1.f4) (by with_reducible assumption) (by with_reducible assumption))
          by_cases h4 : (!(m77 a0.f4 a1.f4)) = true
          · try simp only [if_pos h4]
            exact callP_ok (ps := []) (os := []) (rs := [(.one (.val (.bool false)))]) (by kernel_rfl) (.f (nt h0) (.f (nt h1) (.h 16 (.b false) (.h 27 (.b false) (.r 37 [] [] f2 (.f (nt h2) (.h 40 (.b false) (.r 50 [] [] f4 (.f (nt h3) (.h 53 (.b false) (.r 63 [] [] f6 (.f h4 (.h 66 (.b true) .nil)))))))))))))
          · try simp only [if_neg h4]
            by_cases h5 : (a0.f5 != a1.f5) = true
            · try simp only [if_pos h5]
              exact callP_ok (ps := []) (os := []) (rs := [(.one (.val (.bool false)))]) (by kernel_rfl) (.f (nt h0) (.f (nt h1) (.h 16 (.b false) (.h 27 (.b false) (.r 37 [] [] f2 (.f (nt h2) (.h 40 (.b false) (.r 50 [] [] f4 (.f (nt h3) (.h 53 (.b false) (.r 63 [] [] f6 (.f (nt h4) (.f h5 (.h 66 (.b false) (.h 77 (.b true) .nil)))))))))))))))
            · try simp only [if_neg h5]
              by_cases h6 : (a0.f6 != a1.f6) = true
              · try simp only [if_pos h6]
                exact callP_ok (ps := []) (os := []) (rs := [(.one (.val (.bool false)))]) (by kernel_rfl) (.f (nt h0) (.f (nt h1) (.h 16 (.b false) (.h 27 (.b false) (.r 37 [] [] f2 (.f (nt h2) (.h 40 (.b false) (.r 50 [] [] f4 (.f (nt h3) (.h 53 (.b false) (.r 63 [] [] f6 (.f (nt h4) (.f (nt h5) (.f h6 (.h 66 (.b false) (.h 77 (.b false) (.h 88 (.b true) .nil)))))))))))))))))
              · try simp only [if_neg h6]
                by_cases h7 : (a0.f7 != a1.f7) = true
                · try simp only [if_pos h7]
                  exact callP_ok (ps := []) (os := []) (rs := [(.one (.val (.bool false)))]) (by kernel_rfl) (.f (nt h0) (.f (nt h1) (.h 16 (.b false) (.h 27 (.b false) (.r 37 [] [] f2 (.f (nt h2) (.h 40 (.b false) (.r 50 [] [] f4 (.f (nt h3) (.h 53 (.b false) (.r 63 [] [] f6 (.f (nt h4) (.f (nt h5) (.f (nt h6) (.f h7 (.h 66 (.b false) (.h 77 (.b false) (.h 88 (.b false) (.h 99 (.b true) .nil)))))))))))))))))))
                · try simp only [if_neg h7]
                  exact callP_ok (ps := []) (os := []) (rs := [(.one (.val (.bool true)))]) (by kernel_rfl) (.f (nt h0) (.f (nt h1) (.h 16 (.b false) (.h 27 (.b false) (.r 37 [] [] f2 (.f (nt h2) (.h 40 (.b false) (.r 50 [] [] f4 (.f (nt h3) (.h 53 (.b false) (.r 63 [] [] f6 (.f (nt h4) (.f (nt h5) (.f (nt h6) (.f (nt h7) (.h 66 (.b false) (.h 77 (.b false) (.h 88 (.b false) (.h 99 (.b false) .nil)))))))))))))))))))
open Classical in
theorem eqd18 (a b : K_B) : m18 a b = decide (a = b) := by
  rw [Bool.eq_iff_iff, decide_eq_true_eq]
  constructor
  · intro h
    unfold m18 at h
    cases a; cases b
    (repeat' split at h) <;> simp_all [ba_eq, eqd77, eqd78]
  · rintro rfl
    simp [m18, ba_eq, eqd77, eqd78]
/-! loop.example/g00539/spec.l1In -/
def m110 (a0 : Int) (a1 : Int) (a2 : Int) : Bool :=
  if (decide (a0 ≥ a1)) = true then (decide (a0 ≤ a2)) else
  false
theorem e110 {a0 : Int} {a1 : Int} {a2 : Int} : Ev F X (.call 110 [(.one (.val (.int .i64 a0))), (.one (.val (.int .i64 a1))), (.one (.val (.int .i64 a2)))] [] [] [(.one (.val (.bool (m110 a0 a1 a2))))]) := by
  unfold m110
  by_cases h0 : (decide (a0 ≥ a1)) = true
  · try simp only [if_pos h0]
    exact callP_ok (ps := []) (os := []) (rs := [(.one (.val (.bool (decide (a0 ≤ a2)))))]) (by kernel_rfl) (.f h0 (.f h0 (.f h0 (.f h0 (.h 10 (.b true) (.h 12 (.b true) (.h 14 (.b true) (.h 17 (.b true) .nil))))))))
  · try simp only [if_neg h0]
    exact callP_ok (ps := []) (os := []) (rs := [(.one (.val (.bool false)))]) (by kernel_rfl) (.f (nt h0) (.f (nt h0) (.f (nt h0) (.f (nt h0) (.h 10 (.b false) (.h 12 (.b false) (.h 14 (.b false) (.h 17 (.b false) .nil))))))))
theorem jn110 {a b c : Int} (h : ¬ (!(m110 a b c)) = true) : b ≤ a ∧ a ≤ c := by
  simp only [Bool.not_eq_true', Bool.not_eq_false] at h
  unfold m110 at h; split at h <;> simp_all <;> omega
/-! loop.example/g00539/spec.l9Letter -/
def m171 (a0 : Int) : Bool :=
  if (decide (a0 ≥ 97)) = true then (if (decide (a0 ≤ 122)) = true then true else
    if (decide (a0 ≥ 65)) = true then (if (decide (a0 ≤ 90)) = true then true else
        if (decide (a0 ≥ 48)) = true then (decide (a0 ≤ 57)) else
          false) else
      if (decide (a0 ≥ 48)) = true then (decide (a0 ≤ 57)) else
        false) else
  if (decide (a0 ≥ 65)) = true then (if (decide (a0 ≤ 90)) = true then true else
      if (decide (a0 ≥ 48)) = true then (decide (a0 ≤ 57)) else
        false) else
    if (decide (a0 ≥ 48)) = true then (decide (a0 ≤ 57)) else
      false
theorem e171 {a0 : Int} : Ev F X (.call 171 [(.one (.val (.int .u8 a0)))] [] [] [(.one (.val (.bool (m171 a0))))]) := by
  unfold m171
  by_cases h0 : (decide (a0 ≥ 97)) = true
  · try simp only [if_pos h0]
    by_cases h1 : (decide (a0 ≤ 122)) = true
    · try simp only [if_pos h1]
      exact callP_ok (ps := []) (os := []) (rs := [(.one (.val (.bool true)))]) (by kernel_rfl) (.f h0 (.f h0 (.f h0 (.f h1 (.f h1 (.f h1 (.f h1 (.f h1 (.h 8 (.b true) (.h 10 (.b true) (.h 13 (.b true) (.h 16 (.b true) (.h 18 (.b true) (.h 20 (.b true) (.h 26 (.b true) (.h 29 (.b true) .nil))))))))))))))))
    · try simp only [if_neg h1]
      by_cases h2 : (decide (a0 ≥ 65)) = true
      · try simp only [if_pos h2]
        by_cases h3 : (decide (a0 ≤ 90)) = true
        · try simp only [if_pos h3]
          exact callP_ok (ps := []) (os := []) (rs := [(.one (.val (.bool true)))]) (by kernel_rfl) (.f h0 (.f h0 (.f h0 (.f (nt h1) (.f (nt h1) (.f (nt h1) (.f h2 (.f h2 (.f (nt h1) (.f h2 (.f (nt h1) (.f h3 (.f h3 (.f h3 (.f h3 (.f h3 (.h 8 (.b true) (.h 10 (.b true) (.h 13 (.b true) (.h 16 (.b false) (.h 18 (.b false) (.h 20 (.b false) (.h 22 (.b true) (.h 24 (.b true) (.h 26 (.b false) (.h 27 (.b true) (.h 29 (.b false) (.h 32 (.b true) (.h 34 (.b true) (.h 36 (.b true) (.h 42 (.b true) (.h 45 (.b true) .nil))))))))))))))))))))))))))))))))
        · try simp only [if_neg h3]
          by_cases h4 : (decide (a0 ≥ 48)) = true
          · try simp only [if_pos h4]
            exact callP_ok (ps := []) (os := []) (rs := [(.one (.val (.bool (decide (a0 ≤ 57)))))]) (by kernel_rfl) (.f h0 (.f h0 (.f h0 (.f (nt h1) (.f (nt h1) (.f (nt h1) (.f h2 (.f h2 (.f (nt h1) (.f h2 (.f (nt h1) (.f (nt h3) (.f (nt h3) (.f (nt h3) (.f h4 (.f h4 (.f (nt h3) (.f h4 (.f (nt h3) (.h 8 (.b true) (.h 10 (.b true) (.h 13 (.b true) (.h 16 (.b false) (.h 18 (.b false) (.h 20 (.b false) (.h 22 (.b true) (.h 24 (.b true) (.h 26 (.b false) (.h 27 (.b true) (.h 29 (.b false) (.h 32 (.b false) (.h 34 (.b false) (.h 36 (.b false) (.h 38 (.b true) (.h 40 (.b true) (.h 42 (.b false) (.h 43 (.b true) (.h 45 (.b false) .nil))))))))))))))))))))))))))))))))))))))
          · try simp only [if_neg h4]
            exact callP_ok (ps := []) (os := []) (rs := [(.one (.val (.bool false)))]) (by kernel_rfl) (.f h0 (.f h0 (.f h0 (.f (nt h1) (.f (nt h1) (.f (nt h1) (.f h2 (.f h2 (.f (nt h1) (.f h2 (.f (nt h1) (.f (nt h3) (.f (nt h3) (.f (nt h3) (.f (nt h4) (.f (nt h4) (.f (nt h3) (.f (nt h4) (.f (nt h3) (.h 8 (.b true) (.h 10 (.b true) (.h 13 (.b true) (.h 16 (.b false) (.h 18 (.b false) (.h 20 (.b false) (.h 22 (.b true) (.h 24 (.b true) (.h 26 (.b false) (.h 27 (.b true) (.h 29 (.b false) (.h 32 (.b false) (.h 34 (.b false) (.h 36 (.b false) (.h 38 (.b false) (.h 40 (.b false) (.h 42 (.b false) (.h 43 (.b false) (.h 45 (.b false) .nil))))))))))))))))))))))))))))))))))))))
      · try simp only [if_neg h2]
        by_cases h3 : (decide (a0 ≥ 48)) = true
        · try simp only [if_pos h3]
          exact callP_ok (ps := []) (os := []) (rs := [(.one (.val (.bool (decide (a0 ≤ 57)))))]) (by kernel_rfl) (.f h0 (.f h0 (.f h0 (.f (nt h1) (.f (nt h1) (.f (nt h1) (.f (nt h2) (.f (nt h2) (.f (nt h1) (.f (nt h2) (.f (nt h1) (.f h3 (.f h3 (.f h3 (.h 8 (.b true) (.h 10 (.b true) (.h 13 (.b true) (.h 16 (.b false) (.h 18 (.b false) (.h 20 (.b false) (.h 22 (.b false) (.h 24 (.b false) (.h 26 (.b false) (.h 27 (.b false) (.h 29 (.b false) (.h 38 (.b true) (.h 40 (.b true) (.h 43 (.b true) .nil))))))))))))))))))))))))))))
        · try simp only [if_neg h3]
          exact callP_ok (ps := []) (os := []) (rs := [(.one (.val (.bool false)))]) (by kernel_rfl) (.f h0 (.f h0 (.f h0 (.f (nt h1) (.f (nt h1) (.f (nt h1) (.f (nt h2) (.f (nt h2) (.f (nt h1) (.f (nt h2) (.f (nt h1) (.f (nt h3) (.f (nt h3) (.f (nt h3) (.h 8 (.b true) (.h 10 (.b true) (.h 13 (.b true) (.h 16 (.b false) (.h 18 (.b false) (.h 20 (.b false) (.h 22 (.b false) (.h 24 (.b false) (.h 26 (.b false) (.h 27 (.b false) (.h 29 (.b false) (.h 38 (.b false) (.h 40 (.b false) (.h 43 (.b false) .nil))))))))))))))))))))))))))))
  · try simp only [if_neg h0]
    by_cases h1 : (decide (a0 ≥ 65)) = true
    · try simp only [if_pos h1]
      by_cases h2 : (decide (a0 ≤ 90)) = true
      · try simp only [if_pos h2]
        exact callP_ok (ps := []) (os := []) (rs := [(.one (.val (.bool true)))]) (by kernel_rfl) (.f (nt h0) (.f (nt h0) (.f (nt h0) (.f h1 (.f h1 (.f h1 (.f h2 (.f h2 (.f h2 (.f h2 (.f h2 (.h 8 (.b false) (.h 10 (.b false) (.h 13 (.b false) (.h 22 (.b true) (.h 24 (.b true) (.h 27 (.b true) (.h 32 (.b true) (.h 34 (.b true) (.h 36 (.b true) (.h 42 (.b true) (.h 45 (.b true) .nil))))))))))))))))))))))
      · try simp only [if_neg h2]
        by_cases h3 : (decide (a0 ≥ 48)) = true
        · try simp only [if_pos h3]
          exact callP_ok (ps := []) (os := []) (rs := [(.one (.val (.bool (decide (a0 ≤ 57)))))]) (by kernel_rfl) (.f (nt h0) (.f (nt h0) (.f (nt h0) (.f h1 (.f h1 (.f h1 (.f (nt h2) (.f (nt h2) (.f (nt h2) (.f h3 (.f h3 (.f (nt h2) (.f h3 (.f (nt h2) (.h 8 (.b false) (.h 10 (.b false) (.h 13 (.b false) (.h 22 (.b true) (.h 24 (.b true) (.h 27 (.b true) (.h 32 (.b false) (.h 34 (.b false) (.h 36 (.b false) (.h 38 (.b true) (.h 40 (.b true) (.h 42 (.b false) (.h 43 (.b true) (.h 45 (.b false) .nil))))))))))))))))))))))))))))
        · try simp only [if_neg h3]
          exact callP_ok (ps := []) (os := []) (rs := [(.one (.val (.bool false)))]) (by kernel_rfl) (.f (nt h0) (.f (nt h0) (.f (nt h0) (.f h1 (.f h1 (.f h1 (.f (nt h2) (.f (nt h2) (.f (nt h2) (.f (nt h3) (.f (nt h3) (.f (nt h2) (.f (nt h3) (.f (nt h2) (.h 8 (.b false) (.h 10 (.b false) (.h 13 (.b false) (.h 22 (.b true) (.h 24 (.b true) (.h 27 (.b true) (.h 32 (.b false) (.h 34 (.b false) (.h 36 (.b false) (.h 38 (.b false) (.h 40 (.b false) (.h 42 (.b false) (.h 43 (.b false) (.h 45 (.b false) .nil))))))))))))))))))))))))))))
    · try simp only [if_neg h1]
      by_cases h2 : (decide (a0 ≥ 48)) = true
      · try simp only [if_pos h2]
        exact callP_ok (ps := []) (os := []) (rs := [(.one (.val (.bool (decide (a0 ≤ 57)))))]) (by kernel_rfl) (.f (nt h0) (.f (nt h0) (.f (nt h0) (.f (nt h1) (.f (nt h1) (.f (nt h1) (.f h2 (.f h2 (.f h2 (.h 8 (.b false) (.h 10 (.b false) (.h 13 (.b false) (.h 22 (.b false) (.h 24 (.b false) (.h 27 (.b false) (.h 38 (.b true) (.h 40 (.b true) (.h 43 (.b true) .nil))))))))))))))))))
      · try simp only [if_neg h2]
        exact callP_ok (ps := []) (os := []) (rs := [(.one (.val (.bool false)))]) (by kernel_rfl) (.f (nt h0) (.f (nt h0) (.f (nt h0) (.f (nt h1) (.f (nt h1) (.f (nt h1) (.f (nt h2) (.f (nt h2) (.f (nt h2) (.h 8 (.b false) (.h 10 (.b false) (.h 13 (.b false) (.h 22 (.b false) (.h 24 (.b false) (.h 27 (.b false) (.h 38 (.b false) (.h 40 (.b false) (.h 43 (.b false) .nil))))))))))))))))))
/-! loop 154_0 -/
inductive O154_0 where
  | k0 (w0 : Int) (w1 : Bool)
  | k1
def r154_0 (a0 : ByteArray) : Nat → Int → O154_0
  | n + 1, i =>
    if (!(m171 (byteAt a0 i))) = true then (O154_0.k1) else
    (r154_0 a0 n (i + 1) )
  | 0, i => (O154_0.k0 i (decide (i < (ByteArray.size a0 : Int))))
def h154_0 (a0 : ByteArray) (i : Int)  : St := ⟨[(0, (.one (.val (.string a0)))), (3, (.one (.val (.int .i64 i))))], []⟩
def ex154_0 : O154_0 → VX.Exit
  | .k0 _ _ => (.exit 0)
  | .k1 => .ret
def fin154_0 (a0 : ByteArray) : O154_0 → St
  | .k0 w0 w1 => ⟨[(0, (.one (.val (.string a0)))), (3, (.one (.val (.int .i64 w0)))), (7, (.one (.val (.bool w1))))], []⟩
  | .k1 => ⟨[(2, (.one (.val (.bool false))))], []⟩
theorem t154_0 {a0 : ByteArray} (hy0 : ByteArray.size a0 ≤ 140737488351232) : ∀ (n : Nat) (i : Int) , 0 ≤ i → n = Int.toNat ((ByteArray.size a0 : Int) - i) → (ByteArray.size a0 : Int) ≤ 9223372036854775807 → Ev F X (.code l154_0 (h154_0 a0 i ) (ex154_0 (r154_0 a0 n i )) (fin154_0 a0 (r154_0 a0 n i )))
  | 0, i, hn0, hn, hi0 => by
    have hc : ¬ (decide (i < (ByteArray.size a0 : Int))) = true := by
      simp only [decide_eq_true_eq]; omega
    have st := codeH_ok (F := F) (X := X) (c := b154_0) (t := 0) (hs := [(8, .b false)]) (σ := h154_0 a0 i ) (σ' := fin154_0 a0 (.k0 i (decide (i < (ByteArray.size a0 : Int))))) (e := (.exit 0)) (t' := 9) (hs' := []) (q := [(decide (i < (ByteArray.size a0 : Int))) = false]) (by kernel_rfl) ⟨(nt hc), trivial⟩
    exact .loopX st (show ((.exit 0) : VX.Exit) ≠ .normal from by simp)
  | n + 1, i, hn0, hn, hi0 => by
    have hc : (decide (i < (ByteArray.size a0 : Int))) = true := by
      simp only [decide_eq_true_eq]; omega
    have hw : IntKind.wrap .i64 (i + 1) = i + 1 := wrap64 (by omega)
    have hj0 := hi0; try simp only [length_map, length_set, length_append, length_replicate, length_cons, length_nil, Int.toNat_natCast] at hj0
    simp only [r154_0]
    by_cases h_1 : (!(m171 (byteAt a0 i))) = true
    · try simp only [if_pos h_1]
      have st := codeH_ok (F := F) (X := X) (c := b154_0) (t := 0) (hs := [(8, .b true), (16, .ret [] [(.one (.val (.bool (m171 (byteAt a0 i)))))] [] []), (19, .b true)]) (σ := h154_0 a0 i ) (σ' := fin154_0 a0 (.k1)) (e := .ret) (t' := 22) (hs' := []) (q := [(decide (i < (ByteArray.size a0 : Int))) = true, 0 ≤ i ∧ i < (ByteArray.size a0 : Int), Ev F X (.call 171 [(.one (.val (.int .u8 (byteAt a0 i))))] [] [] [(.one (.val (.bool (m171 (byteAt a0 i)))))]), (!(m171 (byteAt a0 i))) = true]) (by kernel_rfl) ⟨hc, (by omega), (e171 (a0 := (byteAt a0 i))), h_1, trivial⟩
      exact .loopX st (show (.ret : VX.Exit) ≠ .normal from by simp)
    · try simp only [if_neg h_1]
      have st := codeH_ok (F := F) (X := X) (c := b154_0) (t := 0) (hs := [(8, .b true), (16, .ret [] [(.one (.val (.bool (m171 (byteAt a0 i)))))] [] []), (19, .b false)]) (σ := h154_0 a0 i ) (σ' := ⟨[(0, (.one (.val (.string a0)))), (3, (.oi (IntKind.wrap .i64 (i + 1))))], []⟩) (e := .normal) (t' := 26) (hs' := []) (q := [(decide (i < (ByteArray.size a0 : Int))) = true, 0 ≤ i ∧ i < (ByteArray.size a0 : Int), Ev F X (.call 171 [(.one (.val (.int .u8 (byteAt a0 i))))] [] [] [(.one (.val (.bool (m171 (byteAt a0 i)))))]), (!(m171 (byteAt a0 i))) = false, True]) (by kernel_rfl) ⟨hc, (by omega), (e171 (a0 := (byteAt a0 i))), (nt h_1), trivial, trivial⟩
      have ih := t154_0 (a0 := a0) hy0 n (i + 1)  (by omega) (by omega) (by omega)
      rw [show (⟨[(0, (.one (.val (.string a0)))), (3, (.oi (IntKind.wrap .i64 (i + 1))))], []⟩ : St) = h154_0 a0 (i + 1)  from (by unfold h154_0; simp only [hw]; done)] at st
      exact .loopN st ih
/-! loop.example/g00539/spec.l9Arg -/
def m154 (a0 : ByteArray) : Bool :=
  (match r154_0 a0 (Int.toNat (ByteArray.size a0 : Int)) 0 with | .k0 w0_0 w1_0 => (decide ((ByteArray.size a0 : Int) ≤ 12)) | .k1 => false)
theorem e154 {a0 : ByteArray} (hy0 : ByteArray.size a0 ≤ 140737488351232) : Ev F X (.call 154 [(.one (.val (.string a0)))] [] [] [(.one (.val (.bool (m154 a0))))]) := by
  unfold m154
  cases h0 : r154_0 a0 (Int.toNat (ByteArray.size a0 : Int)) 0 with
  | k0 w0_0 w1_0 =>
    try dsimp only
    have f0 : (⟨[(0, (.one (.val (.string a0)))), (3, (.oi 0))], []⟩ : St) = h154_0 a0 0  := (by rfl)
    have f1 : Ev F X (.code l154_0 (h154_0 a0 0 ) (.exit 0) ⟨[(0, (.one (.val (.string a0)))), (3, (.oi w0_0)), (7, (.one (.val (.bool w1_0))))], []⟩) := (by have t : Ev F X (.code l154_0 (h154_0 a0 0 ) (ex154_0 (r154_0 a0 (Int.toNat (ByteArray.size a0 : Int)) 0)) (fin154_0 a0 (r154_0 a0 (Int.toNat (ByteArray.size a0 : Int)) 0))) := t154_0 (a0 := a0) (by assumption) _ 0  (by omega) (by omega) (by omega); rw [h0] at t; exact t)
    exact callP_ok (ps := []) (os := []) (rs := [(.one (.val (.bool (decide ((ByteArray.size a0 : Int) ≤ 12)))))]) (by kernel_rfl) (.f f0 (.f f1 (.h 4 (.loop (h154_0 a0 0 ) (.exit 0) ⟨[(0, (.one (.val (.string a0)))), (3, (.oi w0_0)), (7, (.one (.val (.bool w1_0))))], []⟩) .nil)))
  | k1 =>
    try dsimp only
    have f0 : (⟨[(0, (.one (.val (.string a0)))), (3, (.oi 0))], []⟩ : St) = h154_0 a0 0  := (by rfl)
    have f1 : Ev F X (.code l154_0 (h154_0 a0 0 ) .ret ⟨[(2, (.one (.val (.bool false))))], []⟩) := (by have t : Ev F X (.code l154_0 (h154_0 a0 0 ) (ex154_0 (r154_0 a0 (Int.toNat (ByteArray.size a0 : Int)) 0)) (fin154_0 a0 (r154_0 a0 (Int.toNat (ByteArray.size a0 : Int)) 0))) := t154_0 (a0 := a0) (by assumption) _ 0  (by omega) (by omega) (by omega); rw [h0] at t; exact t)
    exact callP_ok (ps := []) (os := []) (rs := [(.one (.val (.bool false)))]) (by kernel_rfl) (.f f0 (.f f1 (.h 4 (.loop (h154_0 a0 0 ) .ret ⟨[(2, (.one (.val (.bool false))))], []⟩) .nil)))
/-! loop.example/g00539/spec.l13One -/
def m109 (a0 : K_si) : Int :=
  if (a0.f0.toList == (⟨#[]⟩ : ByteArray).toList) = true then 5 else
  if (!(m154 a0.f0)) = true then 5 else
    if (!(m110 a0.f1 1 9999)) = true then 3 else
      0
theorem e109 {l0 : Nat} {a0 : K_si} (hy0 : ByteArray.size a0.f0 ≤ 140737488351232) : Ev F X (.call 109 [(.bptr l0 [(.val (.string a0.f0)), (.val (.int .i64 a0.f1))])] [] [] [(.one (.val (.int .i64 (m109 a0))))]) := by
  unfold m109
  by_cases h0 : (a0.f0.toList == (⟨#[]⟩ : ByteArray).toList) = true
  · try simp only [if_pos h0]
    exact callP_ok (ps := []) (os := []) (rs := [(.oi 5)]) (by kernel_rfl) (.f h0 (.f h0 (.f h0 (.f h0 (.f h0 (.f h0 (.f h0 (.h 14 (.b true) (.h 16 (.b true) (.h 18 (.b true) (.h 20 (.b true) (.h 22 (.b true) (.h 24 (.b true) (.h 27 (.b true) .nil))))))))))))))
  · try simp only [if_neg h0]
    have f5 : Ev F X (.call 154 [(.one (.val (.string a0.f0)))] [] [] [(.one (.val (.bool (m154 a0.f0))))]) := (e154 (a0 := a0.f0) (by with_reducible assumption))
    by_cases h1 : (!(m154 a0.f0)) = true
    · try simp only [if_pos h1]
      exact callP_ok (ps := []) (os := []) (rs := [(.oi 5)]) (by kernel_rfl) (.f (nt h0) (.f (nt h0) (.f (nt h0) (.f (nt h0) (.f (nt h0) (.h 14 (.b false) (.h 16 (.b false) (.h 18 (.b false) (.h 20 (.b false) (.h 22 (.b false) (.r 23 [] [] f5 (.f (nt h0) (.f (nt h0) (.f h1 (.h 24 (.b false) (.h 27 (.b false) (.h 28 (.b true) .nil)))))))))))))))))
    · try simp only [if_neg h1]
      have f9 : Ev F X (.call 110 [(.oi a0.f1), (.oi 1), (.oi 9999)] [] [] [(.one (.val (.bool (m110 a0.f1 1 9999))))]) := (e110 (a0 := a0.f1) (a1 := 1) (a2 := 9999))
      by_cases h2 : (!(m110 a0.f1 1 9999)) = true
      · try simp only [if_pos h2]
        exact callP_ok (ps := []) (os := []) (rs := [(.oi 3)]) (by kernel_rfl) (.f (nt h0) (.f (nt h0) (.f (nt h0) (.f (nt h0) (.f (nt h0) (.h 14 (.b false) (.h 16 (.b false) (.h 18 (.b false) (.h 20 (.b false) (.h 22 (.b false) (.r 23 [] [] f5 (.f (nt h0) (.f (nt h0) (.f (nt h1) (.h 24 (.b false) (.h 27 (.b false) (.h 28 (.b false) (.r 38 [] [] f9 (.f h2 (.h 41 (.b true) .nil))))))))))))))))))))
      · try simp only [if_neg h2]
        exact callP_ok (ps := []) (os := []) (rs := [(.oi 0)]) (by kernel_rfl) (.f (nt h0) (.f (nt h0) (.f (nt h0) (.f (nt h0) (.f (nt h0) (.h 14 (.b false) (.h 16 (.b false) (.h 18 (.b false) (.h 20 (.b false) (.h 22 (.b false) (.r 23 [] [] f5 (.f (nt h0) (.f (nt h0) (.f (nt h1) (.h 24 (.b false) (.h 27 (.b false) (.h 28 (.b false) (.r 38 [] [] f9 (.f (nt h2) (.h 41 (.b false) .nil))))))))))))))))))))
/-! loop 107_0 -/
inductive O107_0 where
  | k0 (w0 : Int) (w1 : Bool)
  | k1 (w0 : Int)
def r107_0 (a0 : (List K_si)) : List K_si → Int → O107_0
  | x0 :: y0, i =>
    if ((m109 x0) != 0) = true then (O107_0.k1 (m109 x0)) else
    (r107_0 a0 y0 (i + 1) )
  | [], i => (O107_0.k0 i (decide (i < ((length (map b_si a0)) : Int))))
def h107_0 (l0_0 : Nat) (a0 : (List K_si)) (i : Int)  : St := ⟨[(0, (.one (.bor l0_0 (map b_si a0)))), (3, (.one (.val (.int .i64 i))))], []⟩
def ex107_0 : O107_0 → VX.Exit
  | .k0 _ _ => (.exit 0)
  | .k1 _ => .ret
def fin107_0 (l0_0 : Nat) (a0 : (List K_si)) : O107_0 → St
  | .k0 w0 w1 => ⟨[(0, (.one (.bor l0_0 (map b_si a0)))), (3, (.one (.val (.int .i64 w0)))), (11, (.one (.val (.bool w1))))], []⟩
  | .k1 w0 => ⟨[(2, (.one (.val (.int .i64 w0))))], []⟩
theorem t107_0 {l0_0 : Nat} {a0 : (List K_si)} (hy0 : length a0 * 24 ≤ 140737488351232) (hy1 : ∀ z ∈ a0, os_si z) : ∀ (y0 : List K_si) (p : List K_si) , p ++ y0 = a0 → Ev F X (.code l107_0 (h107_0 l0_0 a0 (length p : Int) ) (ex107_0 (r107_0 a0 y0 (length p : Int) )) (fin107_0 l0_0 a0 (r107_0 a0 y0 (length p : Int) )))
  | [], p, hp0 => by
    have hc : ¬ (decide ((length p : Int) < ((length (map b_si a0)) : Int))) = true := by
      rw [← hp0]; simp only [length_map, length_set, length_append, length_replicate, length_cons, length_nil, decide_eq_true_eq]; omega
    have st := codeH_ok (F := F) (X := X) (c := b107_0) (t := 0) (hs := [(8, .b false)]) (σ := h107_0 l0_0 a0 (length p : Int) ) (σ' := fin107_0 l0_0 a0 (.k0 (length p : Int) (decide ((length p : Int) < ((length (map b_si a0)) : Int))))) (e := (.exit 0)) (t' := 9) (hs' := []) (q := [(decide ((length p : Int) < ((length (map b_si a0)) : Int))) = false]) (by kernel_rfl) ⟨(nt hc), trivial⟩
    exact .loopX st (show ((.exit 0) : VX.Exit) ≠ .normal from by simp)
  | x0 :: y0, p, hp0 => by
    have hc : (decide ((length p : Int) < ((length (map b_si a0)) : Int))) = true := by
      rw [← hp0]; simp only [length_map, length_set, length_append, length_replicate, length_cons, length_nil, decide_eq_true_eq]; omega
    have Hx0 : (a0)[Int.toNat (length p : Int)]? = some x0 := by
      rw [← hp0, Int.toNat_natCast]; simp
    have Mx0_0 := hy1 x0 (List.mem_of_getElem? Hx0)
    have hlen : length (a0) = length p + length y0 + 1 := by rw [← hp0]; simp; omega
    have hw : IntKind.wrap .i64 ((length p : Int) + 1) = (length p : Int) + 1 := wrap64 (by omega)
    simp only [r107_0]
    by_cases h_1 : ((m109 x0) != 0) = true
    · try simp only [if_pos h_1]
      have st := codeH_ok (F := F) (X := X) (c := b107_0) (t := 0) (hs := [(8, .b true), (14, .row [(.val (.string x0.f0)), (.i x0.f1)]), (16, .ret [] [(.oi (m109 x0))] [] []), (23, .b true)]) (σ := h107_0 l0_0 a0 (length p : Int) ) (σ' := fin107_0 l0_0 a0 (.k1 (m109 x0))) (e := .ret) (t' := 28) (hs' := []) (q := [(decide ((length p : Int) < ((length (map b_si a0)) : Int))) = true, 0 ≤ (length p : Int), (map b_si a0)[(Int.toNat (length p : Int))]? = some [(.val (.string x0.f0)), (.i x0.f1)], Ev F X (.call 109 [(.bptr (l0_0 + 1) [(.val (.string x0.f0)), (.i x0.f1)])] [] [] [(.oi (m109 x0))]), ((m109 x0) != 0) = true]) (by kernel_rfl) ⟨hc, (by omega), (by rw [getElem?_map, Hx0]; rfl), (e109 (a0 := x0) (by assumption)), h_1, trivial⟩
      exact .loopX st (show (.ret : VX.Exit) ≠ .normal from by simp)
    · try simp only [if_neg h_1]
      have st := codeH_ok (F := F) (X := X) (c := b107_0) (t := 0) (hs := [(8, .b true), (14, .row [(.val (.string x0.f0)), (.i x0.f1)]), (16, .ret [] [(.oi (m109 x0))] [] []), (23, .b false)]) (σ := h107_0 l0_0 a0 (length p : Int) ) (σ' := ⟨[(0, (.one (.bor l0_0 (map b_si a0)))), (3, (.oi (IntKind.wrap .i64 ((length p : Int) + 1))))], []⟩) (e := .normal) (t' := 30) (hs' := []) (q := [(decide ((length p : Int) < ((length (map b_si a0)) : Int))) = true, 0 ≤ (length p : Int), (map b_si a0)[(Int.toNat (length p : Int))]? = some [(.val (.string x0.f0)), (.i x0.f1)], Ev F X (.call 109 [(.bptr (l0_0 + 1) [(.val (.string x0.f0)), (.i x0.f1)])] [] [] [(.oi (m109 x0))]), ((m109 x0) != 0) = false, True]) (by kernel_rfl) ⟨hc, (by omega), (by rw [getElem?_map, Hx0]; rfl), (e109 (a0 := x0) (by assumption)), (nt h_1), trivial, trivial⟩
      have ih := t107_0 (l0_0 := l0_0) (a0 := a0) hy0 hy1 y0 (p ++ [x0])  (by rw [append_assoc]; exact hp0)
      rw [show ((p ++ [x0]).length : Int) = (p.length : Int) + 1 from by simp] at ih
      rw [show (⟨[(0, (.one (.bor l0_0 (map b_si a0)))), (3, (.oi (IntKind.wrap .i64 ((length p : Int) + 1))))], []⟩ : St) = h107_0 l0_0 a0 ((length p : Int) + 1)  from (by unfold h107_0; simp only [hw]; done)] at st
      exact .loopN st ih
/-! loop.example/g00539/spec.l13Fault -/
def m107 (a0 : (List K_si)) : Int :=
  if (decide (((length (map b_si a0)) : Int) > 12)) = true then 2 else
  (match r107_0 a0 a0 0 with | .k0 w0_1 w1_1 => 0 | .k1 w0_1 => w0_1)
theorem e107 {l0_0 : Nat} {a0 : (List K_si)} (hy0 : length a0 * 24 ≤ 140737488351232) (hy1 : ∀ z ∈ a0, os_si z) : Ev F X (.call 107 [(.one (.bor l0_0 (map b_si a0)))] [] [] [(.one (.val (.int .i64 (m107 a0))))]) := by
  unfold m107
  by_cases h0 : (decide (((length (map b_si a0)) : Int) > 12)) = true
  · try simp only [if_pos h0]
    exact callP_ok (ps := []) (os := []) (rs := [(.oi 2)]) (by kernel_rfl) (.f h0 (.h 8 (.b true) .nil))
  · try simp only [if_neg h0]
    cases h1 : r107_0 a0 a0 0 with
    | k0 w0_1 w1_1 =>
      try dsimp only
      have f1 : (⟨[(0, (.one (.bor l0_0 (map b_si a0)))), (3, (.oi 0))], []⟩ : St) = h107_0 l0_0 a0 0  := (by rfl)
      have f2 : Ev F X (.code l107_0 (h107_0 l0_0 a0 0 ) (.exit 0) ⟨[(0, (.one (.bor l0_0 (map b_si a0)))), (3, (.oi w0_1)), (11, (.one (.val (.bool w1_1))))], []⟩) := (by have t : Ev F X (.code l107_0 (h107_0 l0_0 a0 0 ) (ex107_0 (r107_0 a0 a0 0)) (fin107_0 l0_0 a0 (r107_0 a0 a0 0))) := t107_0 (l0_0 := l0_0) (a0 := a0) (by assumption) (by assumption) a0 []  rfl; rw [h1] at t; exact t)
      exact callP_ok (ps := []) (os := []) (rs := [(.oi 0)]) (by kernel_rfl) (.f (nt h0) (.f f1 (.f f2 (.h 8 (.b false) (.h 11 (.loop (h107_0 l0_0 a0 0 ) (.exit 0) ⟨[(0, (.one (.bor l0_0 (map b_si a0)))), (3, (.oi w0_1)), (11, (.one (.val (.bool w1_1))))], []⟩) .nil)))))
    | k1 w0_1 =>
      try dsimp only
      have f1 : (⟨[(0, (.one (.bor l0_0 (map b_si a0)))), (3, (.oi 0))], []⟩ : St) = h107_0 l0_0 a0 0  := (by rfl)
      have f2 : Ev F X (.code l107_0 (h107_0 l0_0 a0 0 ) .ret ⟨[(2, (.oi w0_1))], []⟩) := (by have t : Ev F X (.code l107_0 (h107_0 l0_0 a0 0 ) (ex107_0 (r107_0 a0 a0 0)) (fin107_0 l0_0 a0 (r107_0 a0 a0 0))) := t107_0 (l0_0 := l0_0) (a0 := a0) (by assumption) (by assumption) a0 []  rfl; rw [h1] at t; exact t)
      exact callP_ok (ps := []) (os := []) (rs := [(.oi w0_1)]) (by kernel_rfl) (.f (nt h0) (.f f1 (.f f2 (.h 8 (.b false) (.h 11 (.loop (h107_0 l0_0 a0 0 ) .ret ⟨[(2, (.oi w0_1))], []⟩) .nil)))))
theorem len12_107 (a : List K_si) (h : ¬ ((m107 a) != 0) = true) : length a ≤ 12 := by
  unfold m107 at h
  split at h
  · simp at h
  · rename_i h2
    simp only [decide_eq_true_eq, length_map] at h2
    omega
/-! loop.example/g00539/spec.l1Amount -/
def m115 (a0 : Int) : Bool :=
  (m110 a0 0 1000000)
theorem e115 {a0 : Int} : Ev F X (.call 115 [(.one (.val (.int .i64 a0)))] [] [] [(.one (.val (.bool (m110 a0 0 1000000))))]) := by
  have f0 : Ev F X (.call 110 [(.oi a0), (.oi 0), (.oi 1000000)] [] [] [(.one (.val (.bool (m110 a0 0 1000000))))]) := (e110 (a0 := a0) (a1 := 0) (a2 := 1000000))
  exact callP_ok (ps := []) (os := []) (rs := [(.one (.val (.bool (m110 a0 0 1000000))))]) (by kernel_rfl) (.r 5 [] [] f0 .nil)
/-! loop.example/g00539/spec.l14Ranges -/
def m131 (a0 : K_B) : Bool :=
  if (m110 a0.f0 1 12) = true then (if (m110 a0.f1 0 1000) = true then (if (m110 a0.f5 0 1000000) = true then (if (m110 a0.f6 0 1000000) = true then (m110 a0.f7 0 1000000) else
        false) else
      false) else
    false) else
  false
theorem e131 {l0 : Nat} {a0 : K_B} : Ev F X (.call 131 [(.bptr l0 [(.val (.int .i64 a0.f0)), (.val (.int .i64 a0.f1)), (.sl (map b_si a0.f2)), (.sl (map b_R a0.f3)), (.sl (map b_si a0.f4)), (.val (.int .i64 a0.f5)), (.val (.int .i64 a0.f6)), (.val (.int .i64 a0.f7))])] [] [] [(.one (.val (.bool (m131 a0))))]) := by
  unfold m131
  have f0 : Ev F X (.call 110 [(.oi a0.f0), (.oi 1), (.oi 12)] [] [] [(.one (.val (.bool (m110 a0.f0 1 12))))]) := (e110 (a0 := a0.f0) (a1 := 1) (a2 := 12))
  by_cases h0 : (m110 a0.f0 1 12) = true
  · try simp only [if_pos h0]
    have f6 : Ev F X (.call 110 [(.oi a0.f1), (.oi 0), (.oi 1000)] [] [] [(.one (.val (.bool (m110 a0.f1 0 1000))))]) := (e110 (a0 := a0.f1) (a1 := 0) (a2 := 1000))
    by_cases h1 : (m110 a0.f1 0 1000) = true
    · try simp only [if_pos h1]
      have f13 : Ev F X (.call 115 [(.oi a0.f5)] [] [] [(.one (.val (.bool (m110 a0.f5 0 1000000))))]) := (e115 (a0 := a0.f5))
      by_cases h2 : (m110 a0.f5 0 1000000) = true
      · try simp only [if_pos h2]
        have f20 : Ev F X (.call 115 [(.oi a0.f6)] [] [] [(.one (.val (.bool (m110 a0.f6 0 1000000))))]) := (e115 (a0 := a0.f6))
        by_cases h3 : (m110 a0.f6 0 1000000) = true
        · try simp only [if_pos h3]
          have f27 : Ev F X (.call 115 [(.oi a0.f7)] [] [] [(.one (.val (.bool (m110 a0.f7 0 1000000))))]) := (e115 (a0 := a0.f7))
          exact callP_ok (ps := []) (os := []) (rs := [(.one (.val (.bool (m110 a0.f7 0 1000000))))]) (by kernel_rfl) (.r 11 [] [] f0 (.f h0 (.f h0 (.f h0 (.f h0 (.f h0 (.h 14 (.b true) (.h 16 (.b true) (.h 18 (.b true) (.h 20 (.b true) (.h 22 (.b true) (.r 23 [] [] f6 (.f h0 (.f h1 (.f h1 (.f h1 (.f h1 (.f h1 (.h 25 (.b true) (.h 28 (.b true) (.h 30 (.b true) (.h 32 (.b true) (.h 34 (.b true) (.h 36 (.b true) (.r 37 [] [] f13 (.f h1 (.f h2 (.f h2 (.f h2 (.f h2 (.f h2 (.h 39 (.b true) (.h 42 (.b true) (.h 44 (.b true) (.h 46 (.b true) (.h 48 (.b true) (.h 50 (.b true) (.r 51 [] [] f20 (.f h2 (.f h3 (.f h3 (.f h3 (.f h3 (.f h3 (.h 53 (.b true) (.h 56 (.b true) (.h 58 (.b true) (.h 60 (.b true) (.h 62 (.b true) (.h 64 (.b true) (.r 65 [] [] f27 (.f h3 (.h 67 (.b true) .nil)))))))))))))))))))))))))))))))))))))))))))))))))))))
        · try simp only [if_neg h3]
          exact callP_ok (ps := []) (os := []) (rs := [(.one (.val (.bool false)))]) (by kernel_rfl) (.r 11 [] [] f0 (.f h0 (.f h0 (.f h0 (.f h0 (.f h0 (.h 14 (.b true) (.h 16 (.b true) (.h 18 (.b true) (.h 20 (.b true) (.h 22 (.b true) (.r 23 [] [] f6 (.f h0 (.f h1 (.f h1 (.f h1 (.f h1 (.f h1 (.h 25 (.b true) (.h 28 (.b true) (.h 30 (.b true) (.h 32 (.b true) (.h 34 (.b true) (.h 36 (.b true) (.r 37 [] [] f13 (.f h1 (.f h2 (.f h2 (.f h2 (.f h2 (.f h2 (.h 39 (.b true) (.h 42 (.b true) (.h 44 (.b true) (.h 46 (.b true) (.h 48 (.b true) (.h 50 (.b true) (.r 51 [] [] f20 (.f h2 (.f (nt h3) (.f (nt h3) (.f (nt h3) (.f (nt h3) (.f (nt h3) (.f (nt h3) (.h 53 (.b true) (.h 56 (.b false) (.h 58 (.b false) (.h 60 (.b false) (.h 62 (.b false) (.h 64 (.b false) (.h 67 (.b false) .nil))))))))))))))))))))))))))))))))))))))))))))))))))))
      · try simp only [if_neg h2]
        exact callP_ok (ps := []) (os := []) (rs := [(.one (.val (.bool false)))]) (by kernel_rfl) (.r 11 [] [] f0 (.f h0 (.f h0 (.f h0 (.f h0 (.f h0 (.h 14 (.b true) (.h 16 (.b true) (.h 18 (.b true) (.h 20 (.b true) (.h 22 (.b true) (.r 23 [] [] f6 (.f h0 (.f h1 (.f h1 (.f h1 (.f h1 (.f h1 (.h 25 (.b true) (.h 28 (.b true) (.h 30 (.b true) (.h 32 (.b true) (.h 34 (.b true) (.h 36 (.b true) (.r 37 [] [] f13 (.f h1 (.f (nt h2) (.f (nt h2) (.f (nt h2) (.f (nt h2) (.f (nt h2) (.f (nt h2) (.h 39 (.b true) (.h 42 (.b false) (.h 44 (.b false) (.h 46 (.b false) (.h 48 (.b false) (.h 50 (.b false) (.h 53 (.b false) .nil)))))))))))))))))))))))))))))))))))))))
    · try simp only [if_neg h1]
      exact callP_ok (ps := []) (os := []) (rs := [(.one (.val (.bool false)))]) (by kernel_rfl) (.r 11 [] [] f0 (.f h0 (.f h0 (.f h0 (.f h0 (.f h0 (.h 14 (.b true) (.h 16 (.b true) (.h 18 (.b true) (.h 20 (.b true) (.h 22 (.b true) (.r 23 [] [] f6 (.f h0 (.f (nt h1) (.f (nt h1) (.f (nt h1) (.f (nt h1) (.f (nt h1) (.f (nt h1) (.h 25 (.b true) (.h 28 (.b false) (.h 30 (.b false) (.h 32 (.b false) (.h 34 (.b false) (.h 36 (.b false) (.h 39 (.b false) .nil))))))))))))))))))))))))))
  · try simp only [if_neg h0]
    exact callP_ok (ps := []) (os := []) (rs := [(.one (.val (.bool false)))]) (by kernel_rfl) (.r 11 [] [] f0 (.f (nt h0) (.f (nt h0) (.f (nt h0) (.f (nt h0) (.f (nt h0) (.f (nt h0) (.h 14 (.b false) (.h 16 (.b false) (.h 18 (.b false) (.h 20 (.b false) (.h 22 (.b false) (.h 25 (.b false) .nil)))))))))))))
/-! loop 79_0 -/
inductive O79_0 where
  | k0 (w0 : Int) (w1 : Bool)
  | k1 (w0 : Int)
def r79_0 (a0 : (List K_si)) (a1 : ByteArray) : List K_si → Int → O79_0
  | x0 :: y0, i =>
    if (x0.f0.toList == a1.toList) = true then (O79_0.k1 i) else
    (r79_0 a0 a1 y0 (i + 1) )
  | [], i => (O79_0.k0 i (decide (i < ((length (map b_si a0)) : Int))))
def h79_0 (l0_0 : Nat) (a0 : (List K_si)) (a1 : ByteArray) (i : Int)  : St := ⟨[(0, (.one (.bor l0_0 (map b_si a0)))), (1, (.one (.val (.string a1)))), (5, (.one (.val (.int .i64 i))))], []⟩
def ex79_0 : O79_0 → VX.Exit
  | .k0 _ _ => (.exit 0)
  | .k1 _ => .ret
def fin79_0 (l0_0 : Nat) (a0 : (List K_si)) (a1 : ByteArray) : O79_0 → St
  | .k0 w0 w1 => ⟨[(0, (.one (.bor l0_0 (map b_si a0)))), (1, (.one (.val (.string a1)))), (5, (.one (.val (.int .i64 w0)))), (9, (.one (.val (.bool w1))))], []⟩
  | .k1 w0 => ⟨[(4, (.one (.val (.int .i64 w0))))], []⟩
theorem t79_0 {l0_0 : Nat} {a0 : (List K_si)} {a1 : ByteArray} (hy0 : length a0 * 24 ≤ 140737488351232) : ∀ (y0 : List K_si) (p : List K_si) , p ++ y0 = a0 → Ev F X (.code l79_0 (h79_0 l0_0 a0 a1 (length p : Int) ) (ex79_0 (r79_0 a0 a1 y0 (length p : Int) )) (fin79_0 l0_0 a0 a1 (r79_0 a0 a1 y0 (length p : Int) )))
  | [], p, hp0 => by
    have hc : ¬ (decide ((length p : Int) < ((length (map b_si a0)) : Int))) = true := by
      rw [← hp0]; simp only [length_map, length_set, length_append, length_replicate, length_cons, length_nil, decide_eq_true_eq]; omega
    have st := codeH_ok (F := F) (X := X) (c := b79_0) (t := 0) (hs := [(8, .b false)]) (σ := h79_0 l0_0 a0 a1 (length p : Int) ) (σ' := fin79_0 l0_0 a0 a1 (.k0 (length p : Int) (decide ((length p : Int) < ((length (map b_si a0)) : Int))))) (e := (.exit 0)) (t' := 9) (hs' := []) (q := [(decide ((length p : Int) < ((length (map b_si a0)) : Int))) = false]) (by kernel_rfl) ⟨(nt hc), trivial⟩
    exact .loopX st (show ((.exit 0) : VX.Exit) ≠ .normal from by simp)
  | x0 :: y0, p, hp0 => by
    have hc : (decide ((length p : Int) < ((length (map b_si a0)) : Int))) = true := by
      rw [← hp0]; simp only [length_map, length_set, length_append, length_replicate, length_cons, length_nil, decide_eq_true_eq]; omega
    have Hx0 : (a0)[Int.toNat (length p : Int)]? = some x0 := by
      rw [← hp0, Int.toNat_natCast]; simp
    have hlen : length (a0) = length p + length y0 + 1 := by rw [← hp0]; simp; omega
    have hw : IntKind.wrap .i64 ((length p : Int) + 1) = (length p : Int) + 1 := wrap64 (by omega)
    simp only [r79_0]
    by_cases h_1 : (x0.f0.toList == a1.toList) = true
    · try simp only [if_pos h_1]
      have st := codeH_ok (F := F) (X := X) (c := b79_0) (t := 0) (hs := [(8, .b true), (14, .row [(.val (.string x0.f0)), (.i x0.f1)]), (23, .b true)]) (σ := h79_0 l0_0 a0 a1 (length p : Int) ) (σ' := fin79_0 l0_0 a0 a1 (.k1 (length p : Int))) (e := .ret) (t' := 28) (hs' := []) (q := [(decide ((length p : Int) < ((length (map b_si a0)) : Int))) = true, 0 ≤ (length p : Int), (map b_si a0)[(Int.toNat (length p : Int))]? = some [(.val (.string x0.f0)), (.i x0.f1)], (x0.f0.toList == a1.toList) = true]) (by kernel_rfl) ⟨hc, (by omega), (by rw [getElem?_map, Hx0]; rfl), h_1, trivial⟩
      exact .loopX st (show (.ret : VX.Exit) ≠ .normal from by simp)
    · try simp only [if_neg h_1]
      have st := codeH_ok (F := F) (X := X) (c := b79_0) (t := 0) (hs := [(8, .b true), (14, .row [(.val (.string x0.f0)), (.i x0.f1)]), (23, .b false)]) (σ := h79_0 l0_0 a0 a1 (length p : Int) ) (σ' := ⟨[(0, (.one (.bor l0_0 (map b_si a0)))), (1, (.one (.val (.string a1)))), (5, (.oi (IntKind.wrap .i64 ((length p : Int) + 1))))], []⟩) (e := .normal) (t' := 30) (hs' := []) (q := [(decide ((length p : Int) < ((length (map b_si a0)) : Int))) = true, 0 ≤ (length p : Int), (map b_si a0)[(Int.toNat (length p : Int))]? = some [(.val (.string x0.f0)), (.i x0.f1)], (x0.f0.toList == a1.toList) = false, True]) (by kernel_rfl) ⟨hc, (by omega), (by rw [getElem?_map, Hx0]; rfl), (nt h_1), trivial, trivial⟩
      have ih := t79_0 (l0_0 := l0_0) (a0 := a0) (a1 := a1) hy0 y0 (p ++ [x0])  (by rw [append_assoc]; exact hp0)
      rw [show ((p ++ [x0]).length : Int) = (p.length : Int) + 1 from by simp] at ih
      rw [show (⟨[(0, (.one (.bor l0_0 (map b_si a0)))), (1, (.one (.val (.string a1)))), (5, (.oi (IntKind.wrap .i64 ((length p : Int) + 1))))], []⟩ : St) = h79_0 l0_0 a0 a1 ((length p : Int) + 1)  from (by unfold h79_0; simp only [hw]; done)] at st
      exact .loopN st ih
/-! loop.example/g00539/spec.l13At -/
def m79 (a0 : (List K_si)) (a1 : ByteArray) : Int :=
  (match r79_0 a0 a1 a0 0 with | .k0 w0_0 w1_0 => (-1) | .k1 w0_0 => w0_0)
theorem e79 {l0_0 : Nat} {a0 : (List K_si)} {a1 : ByteArray} (hy0 : length a0 * 24 ≤ 140737488351232) : Ev F X (.call 79 [(.one (.bor l0_0 (map b_si a0))), (.one (.val (.string a1)))] [] [] [(.one (.val (.int .i64 (m79 a0 a1))))]) := by
  unfold m79
  cases h0 : r79_0 a0 a1 a0 0 with
  | k0 w0_0 w1_0 =>
    try dsimp only
    have f0 : (⟨[(0, (.one (.bor l0_0 (map b_si a0)))), (1, (.one (.val (.string a1)))), (5, (.oi 0))], []⟩ : St) = h79_0 l0_0 a0 a1 0  := (by rfl)
    have f1 : Ev F X (.code l79_0 (h79_0 l0_0 a0 a1 0 ) (.exit 0) ⟨[(0, (.one (.bor l0_0 (map b_si a0)))), (1, (.one (.val (.string a1)))), (5, (.oi w0_0)), (9, (.one (.val (.bool w1_0))))], []⟩) := (by have t : Ev F X (.code l79_0 (h79_0 l0_0 a0 a1 0 ) (ex79_0 (r79_0 a0 a1 a0 0)) (fin79_0 l0_0 a0 a1 (r79_0 a0 a1 a0 0))) := t79_0 (l0_0 := l0_0) (a0 := a0) (a1 := a1) (by assumption) a0 []  rfl; rw [h0] at t; exact t)
    exact callP_ok (ps := []) (os := []) (rs := [(.oi (-1))]) (by kernel_rfl) (.f f0 (.f f1 (.h 4 (.loop (h79_0 l0_0 a0 a1 0 ) (.exit 0) ⟨[(0, (.one (.bor l0_0 (map b_si a0)))), (1, (.one (.val (.string a1)))), (5, (.oi w0_0)), (9, (.one (.val (.bool w1_0))))], []⟩) .nil)))
  | k1 w0_0 =>
    try dsimp only
    have f0 : (⟨[(0, (.one (.bor l0_0 (map b_si a0)))), (1, (.one (.val (.string a1)))), (5, (.oi 0))], []⟩ : St) = h79_0 l0_0 a0 a1 0  := (by rfl)
    have f1 : Ev F X (.code l79_0 (h79_0 l0_0 a0 a1 0 ) .ret ⟨[(4, (.oi w0_0))], []⟩) := (by have t : Ev F X (.code l79_0 (h79_0 l0_0 a0 a1 0 ) (ex79_0 (r79_0 a0 a1 a0 0)) (fin79_0 l0_0 a0 a1 (r79_0 a0 a1 a0 0))) := t79_0 (l0_0 := l0_0) (a0 := a0) (a1 := a1) (by assumption) a0 []  rfl; rw [h0] at t; exact t)
    exact callP_ok (ps := []) (os := []) (rs := [(.oi w0_0)]) (by kernel_rfl) (.f f0 (.f f1 (.h 4 (.loop (h79_0 l0_0 a0 a1 0 ) .ret ⟨[(4, (.oi w0_0))], []⟩) .nil)))
theorem ixr79_0 (a0 : (List K_si)) (a1 : ByteArray) : ∀ (l : List K_si) (i : Int), (∃ (w0 : _) (w1 : _), r79_0 a0 a1 l i = .k0 w0 w1) ∨ (∃ w, r79_0 a0 a1 l i = .k1 w ∧ i ≤ w ∧ w < i + l.length)
  | [], i => .inl ⟨i, (decide (i < ((length (map b_si a0)) : Int))), rfl⟩
  | x :: l, i => by
    have ih := ixr79_0 a0 a1 l (i + 1)
    simp only [r79_0]
    (repeat' split)
    all_goals first
      | exact .inr ⟨i, rfl, by omega, by simp only [length_cons]; omega⟩
      | (rcases ih with ⟨w0, w1, h⟩ | ⟨w, h, h1, h2⟩
         · exact .inl ⟨w0, w1, h⟩
         · exact .inr ⟨w, h, by omega, by simp only [length_cons]; omega⟩)
theorem ix79 (a0 : (List K_si)) (a1 : ByteArray) : -1 ≤ m79 a0 a1 ∧ m79 a0 a1 < (length a0 : Int) := by
  unfold m79
  rcases ixr79_0 a0 a1 a0 0 with ⟨w0, w1, h⟩ | ⟨w, h, h1, h2⟩ <;> simp only [h] <;> omega
/-! loop 133_0 -/
inductive O133_0 where
  | k0 (w0 : Int) (w1 : Bool)
  | k1
def r133_0 (a0 : (List K_si)) : List K_si → Int → O133_0
  | x0 :: y0, i =>
    if (x0.f0.toList == (⟨#[]⟩ : ByteArray).toList) = true then (O133_0.k1) else
    if (!(m154 x0.f0)) = true then (O133_0.k1) else
      if (!(m110 x0.f1 0 1000000)) = true then (O133_0.k1) else
        if ((m79 a0 x0.f0) != i) = true then (O133_0.k1) else
          (r133_0 a0 y0 (i + 1) )
  | [], i => (O133_0.k0 i (decide (i < ((length (map b_si a0)) : Int))))
def h133_0 (l0_0 : Nat) (a0 : (List K_si)) (i : Int)  : St := ⟨[(0, (.one (.bor l0_0 (map b_si a0)))), (3, (.one (.val (.int .i64 i))))], []⟩
def ex133_0 : O133_0 → VX.Exit
  | .k0 _ _ => (.exit 0)
  | .k1 => .ret
def fin133_0 (l0_0 : Nat) (a0 : (List K_si)) : O133_0 → St
  | .k0 w0 w1 => ⟨[(0, (.one (.bor l0_0 (map b_si a0)))), (3, (.one (.val (.int .i64 w0)))), (7, (.one (.val (.bool w1))))], []⟩
  | .k1 => ⟨[(2, (.one (.val (.bool false))))], []⟩
theorem t133_0 {l0_0 : Nat} {a0 : (List K_si)} (hy0 : length a0 * 24 ≤ 140737488351232) (hy1 : ∀ z ∈ a0, os_si z) : ∀ (y0 : List K_si) (p : List K_si) , p ++ y0 = a0 → Ev F X (.code l133_0 (h133_0 l0_0 a0 (length p : Int) ) (ex133_0 (r133_0 a0 y0 (length p : Int) )) (fin133_0 l0_0 a0 (r133_0 a0 y0 (length p : Int) )))
  | [], p, hp0 => by
    have hc : ¬ (decide ((length p : Int) < ((length (map b_si a0)) : Int))) = true := by
      rw [← hp0]; simp only [length_map, length_set, length_append, length_replicate, length_cons, length_nil, decide_eq_true_eq]; omega
    have st := codeH_ok (F := F) (X := X) (c := b133_0) (t := 0) (hs := [(8, .b false)]) (σ := h133_0 l0_0 a0 (length p : Int) ) (σ' := fin133_0 l0_0 a0 (.k0 (length p : Int) (decide ((length p : Int) < ((length (map b_si a0)) : Int))))) (e := (.exit 0)) (t' := 9) (hs' := []) (q := [(decide ((length p : Int) < ((length (map b_si a0)) : Int))) = false]) (by kernel_rfl) ⟨(nt hc), trivial⟩
    exact .loopX st (show ((.exit 0) : VX.Exit) ≠ .normal from by simp)
  | x0 :: y0, p, hp0 => by
    have hc : (decide ((length p : Int) < ((length (map b_si a0)) : Int))) = true := by
      rw [← hp0]; simp only [length_map, length_set, length_append, length_replicate, length_cons, length_nil, decide_eq_true_eq]; omega
    have Hx0 : (a0)[Int.toNat (length p : Int)]? = some x0 := by
      rw [← hp0, Int.toNat_natCast]; simp
    have Mx0_0 := hy1 x0 (List.mem_of_getElem? Hx0)
    have hlen : length (a0) = length p + length y0 + 1 := by rw [← hp0]; simp; omega
    have hw : IntKind.wrap .i64 ((length p : Int) + 1) = (length p : Int) + 1 := wrap64 (by omega)
    simp only [r133_0]
    by_cases h_1 : (x0.f0.toList == (⟨#[]⟩ : ByteArray).toList) = true
    · try simp only [if_pos h_1]
      have st := codeH_ok (F := F) (X := X) (c := b133_0) (t := 0) (hs := [(8, .b true), (14, .row [(.val (.string x0.f0)), (.i x0.f1)]), (23, .b true), (25, .b true), (27, .b true), (29, .b true), (31, .b true), (33, .b true), (35, .b true), (38, .b true)]) (σ := h133_0 l0_0 a0 (length p : Int) ) (σ' := fin133_0 l0_0 a0 (.k1)) (e := .ret) (t' := 82) (hs' := []) (q := [(decide ((length p : Int) < ((length (map b_si a0)) : Int))) = true, 0 ≤ (length p : Int), (map b_si a0)[(Int.toNat (length p : Int))]? = some [(.val (.string x0.f0)), (.i x0.f1)], (x0.f0.toList == (⟨#[]⟩ : ByteArray).toList) = true, (x0.f0.toList == (⟨#[]⟩ : ByteArray).toList) = true, (x0.f0.toList == (⟨#[]⟩ : ByteArray).toList) = true, (x0.f0.toList == (⟨#[]⟩ : ByteArray).toList) = true, (x0.f0.toList == (⟨#[]⟩ : ByteArray).toList) = true, (x0.f0.toList == (⟨#[]⟩ : ByteArray).toList) = true, (x0.f0.toList == (⟨#[]⟩ : ByteArray).toList) = true, (x0.f0.toList == (⟨#[]⟩ : ByteArray).toList) = true]) (by kernel_rfl) ⟨hc, (by omega), (by rw [getElem?_map, Hx0]; rfl), h_1, h_1, h_1, h_1, h_1, h_1, h_1, h_1, trivial⟩
      exact .loopX st (show (.ret : VX.Exit) ≠ .normal from by simp)
    · try simp only [if_neg h_1]
      by_cases h_2 : (!(m154 x0.f0)) = true
      · try simp only [if_pos h_2]
        have st := codeH_ok (F := F) (X := X) (c := b133_0) (t := 0) (hs := [(8, .b true), (14, .row [(.val (.string x0.f0)), (.i x0.f1)]), (23, .b false), (25, .b false), (27, .b false), (28, .row [(.val (.string x0.f0)), (.i x0.f1)]), (29, .b false), (31, .b false), (33, .b false), (34, .ret [] [(.one (.val (.bool (m154 x0.f0))))] [] []), (35, .b false), (38, .b false), (41, .b true), (43, .b true), (45, .b true), (47, .b true), (49, .b true), (51, .b true), (53, .b true), (56, .b true)]) (σ := h133_0 l0_0 a0 (length p : Int) ) (σ' := fin133_0 l0_0 a0 (.k1)) (e := .ret) (t' := 82) (hs' := []) (q := [(decide ((length p : Int) < ((length (map b_si a0)) : Int))) = true, 0 ≤ (length p : Int), (map b_si a0)[(Int.toNat (length p : Int))]? = some [(.val (.string x0.f0)), (.i x0.f1)], (x0.f0.toList == (⟨#[]⟩ : ByteArray).toList) = false, (x0.f0.toList == (⟨#[]⟩ : ByteArray).toList) = false, (x0.f0.toList == (⟨#[]⟩ : ByteArray).toList) = false, 0 ≤ (length p : Int), (map b_si a0)[(Int.toNat (length p : Int))]? = some [(.val (.string x0.f0)), (.i x0.f1)], (x0.f0.toList == (⟨#[]⟩ : ByteArray).toList) = false, (x0.f0.toList == (⟨#[]⟩ : ByteArray).toList) = false, (x0.f0.toList == (⟨#[]⟩ : ByteArray).toList) = false, Ev F X (.call 154 [(.one (.val (.string x0.f0)))] [] [] [(.one (.val (.bool (m154 x0.f0))))]), (x0.f0.toList == (⟨#[]⟩ : ByteArray).toList) = false, (x0.f0.toList == (⟨#[]⟩ : ByteArray).toList) = false, (!(m154 x0.f0)) = true, (!(m154 x0.f0)) = true, (!(m154 x0.f0)) = true, (!(m154 x0.f0)) = true, (!(m154 x0.f0)) = true, (!(m154 x0.f0)) = true, (!(m154 x0.f0)) = true, (!(m154 x0.f0)) = true]) (by kernel_rfl) ⟨hc, (by omega), (by rw [getElem?_map, Hx0]; rfl), (nt h_1), (nt h_1), (nt h_1), (by omega), (by rw [getElem?_map, Hx0]; rfl), (nt h_1), (nt h_1), (nt h_1), (e154 (a0 := x0.f0) (by assumption)), (nt h_1), (nt h_1), h_2, h_2, h_2, h_2, h_2, h_2, h_2, h_2, trivial⟩
        exact .loopX st (show (.ret : VX.Exit) ≠ .normal from by simp)
      · try simp only [if_neg h_2]
        by_cases h_3 : (!(m110 x0.f1 0 1000000)) = true
        · try simp only [if_pos h_3]
          have st := codeH_ok (F := F) (X := X) (c := b133_0) (t := 0) (hs := [(8, .b true), (14, .row [(.val (.string x0.f0)), (.i x0.f1)]), (23, .b false), (25, .b false), (27, .b false), (28, .row [(.val (.string x0.f0)), (.i x0.f1)]), (29, .b false), (31, .b false), (33, .b false), (34, .ret [] [(.one (.val (.bool (m154 x0.f0))))] [] []), (35, .b false), (38, .b false), (41, .b false), (43, .b false), (45, .b false), (46, .row [(.val (.string x0.f0)), (.i x0.f1)]), (47, .b false), (49, .b false), (51, .b false), (52, .ret [] [(.one (.val (.bool (m110 x0.f1 0 1000000))))] [] []), (53, .b false), (56, .b false), (59, .b true), (61, .b true), (63, .b true), (65, .b true), (67, .b true), (69, .b true), (71, .b true), (73, .b true), (75, .b true), (78, .b true)]) (σ := h133_0 l0_0 a0 (length p : Int) ) (σ' := fin133_0 l0_0 a0 (.k1)) (e := .ret) (t' := 82) (hs' := []) (q := [(decide ((length p : Int) < ((length (map b_si a0)) : Int))) = true, 0 ≤ (length p : Int), (map b_si a0)[(Int.toNat (length p : Int))]? = some [(.val (.string x0.f0)), (.i x0.f1)], (x0.f0.toList == (⟨#[]⟩ : ByteArray).toList) = false, (x0.f0.toList == (⟨#[]⟩ : ByteArray).toList) = false, (x0.f0.toList == (⟨#[]⟩ : ByteArray).toList) = false, 0 ≤ (length p : Int), (map b_si a0)[(Int.toNat (length p : Int))]? = some [(.val (.string x0.f0)), (.i x0.f1)], (x0.f0.toList == (⟨#[]⟩ : ByteArray).toList) = false, (x0.f0.toList == (⟨#[]⟩ : ByteArray).toList) = false, (x0.f0.toList == (⟨#[]⟩ : ByteArray).toList) = false, Ev F X (.call 154 [(.one (.val (.string x0.f0)))] [] [] [(.one (.val (.bool (m154 x0.f0))))]), (x0.f0.toList == (⟨#[]⟩ : ByteArray).toList) = false, (x0.f0.toList == (⟨#[]⟩ : ByteArray).toList) = false, (!(m154 x0.f0)) = false, (!(m154 x0.f0)) = false, (!(m154 x0.f0)) = false, 0 ≤ (length p : Int), (map b_si a0)[(Int.toNat (length p : Int))]? = some [(.val (.string x0.f0)), (.i x0.f1)], (!(m154 x0.f0)) = false, (!(m154 x0.f0)) = false, (!(m154 x0.f0)) = false, Ev F X (.call 115 [(.oi x0.f1)] [] [] [(.one (.val (.bool (m110 x0.f1 0 1000000))))]), (!(m154 x0.f0)) = false, (!(m154 x0.f0)) = false, (!(m110 x0.f1 0 1000000)) = true, (!(m110 x0.f1 0 1000000)) = true, (!(m110 x0.f1 0 1000000)) = true, (!(m110 x0.f1 0 1000000)) = true, (!(m110 x0.f1 0 1000000)) = true, (!(m110 x0.f1 0 1000000)) = true, (!(m110 x0.f1 0 1000000)) = true, (!(m110 x0.f1 0 1000000)) = true, (!(m110 x0.f1 0 1000000)) = true, (!(m110 x0.f1 0 1000000)) = true]) (by kernel_rfl) ⟨hc, (by omega), (by rw [getElem?_map, Hx0]; rfl), (nt h_1), (nt h_1), (nt h_1), (by omega), (by rw [getElem?_map, Hx0]; rfl), (nt h_1), (nt h_1), (nt h_1), (e154 (a0 := x0.f0) (by assumption)), (nt h_1), (nt h_1), (nt h_2), (nt h_2), (nt h_2), (by omega), (by rw [getElem?_map, Hx0]; rfl), (nt h_2), (nt h_2), (nt h_2), (e115 (a0 := x0.f1)), (nt h_2), (nt h_2), h_3, h_3, h_3, h_3, h_3, h_3, h_3, h_3, h_3, h_3, trivial⟩
          exact .loopX st (show (.ret : VX.Exit) ≠ .normal from by simp)
        · try simp only [if_neg h_3]
          by_cases h_4 : ((m79 a0 x0.f0) != (length p : Int)) = true
          · try simp only [if_pos h_4]
            have st := codeH_ok (F := F) (X := X) (c := b133_0) (t := 0) (hs := [(8, .b true), (14, .row [(.val (.string x0.f0)), (.i x0.f1)]), (23, .b false), (25, .b false), (27, .b false), (28, .row [(.val (.string x0.f0)), (.i x0.f1)]), (29, .b false), (31, .b false), (33, .b false), (34, .ret [] [(.one (.val (.bool (m154 x0.f0))))] [] []), (35, .b false), (38, .b false), (41, .b false), (43, .b false), (45, .b false), (46, .row [(.val (.string x0.f0)), (.i x0.f1)]), (47, .b false), (49, .b false), (51, .b false), (52, .ret [] [(.one (.val (.bool (m110 x0.f1 0 1000000))))] [] []), (53, .b false), (56, .b false), (59, .b false), (61, .b false), (63, .b false), (65, .b false), (66, .row [(.val (.string x0.f0)), (.i x0.f1)]), (67, .b false), (69, .b false), (71, .b false), (72, .ret [] [(.oi (m79 a0 x0.f0))] [] []), (73, .b false), (75, .b false), (78, .b false), (79, .b true)]) (σ := h133_0 l0_0 a0 (length p : Int) ) (σ' := fin133_0 l0_0 a0 (.k1)) (e := .ret) (t' := 82) (hs' := []) (q := [(decide ((length p : Int) < ((length (map b_si a0)) : Int))) = true, 0 ≤ (length p : Int), (map b_si a0)[(Int.toNat (length p : Int))]? = some [(.val (.string x0.f0)), (.i x0.f1)], (x0.f0.toList == (⟨#[]⟩ : ByteArray).toList) = false, (x0.f0.toList == (⟨#[]⟩ : ByteArray).toList) = false, (x0.f0.toList == (⟨#[]⟩ : ByteArray).toList) = false, 0 ≤ (length p : Int), (map b_si a0)[(Int.toNat (length p : Int))]? = some [(.val (.string x0.f0)), (.i x0.f1)], (x0.f0.toList == (⟨#[]⟩ : ByteArray).toList) = false, (x0.f0.toList == (⟨#[]⟩ : ByteArray).toList) = false, (x0.f0.toList == (⟨#[]⟩ : ByteArray).toList) = false, Ev F X (.call 154 [(.one (.val (.string x0.f0)))] [] [] [(.one (.val (.bool (m154 x0.f0))))]), (x0.f0.toList == (⟨#[]⟩ : ByteArray).toList) = false, (x0.f0.toList == (⟨#[]⟩ : ByteArray).toList) = false, (!(m154 x0.f0)) = false, (!(m154 x0.f0)) = false, (!(m154 x0.f0)) = false, 0 ≤ (length p : Int), (map b_si a0)[(Int.toNat (length p : Int))]? = some [(.val (.string x0.f0)), (.i x0.f1)], (!(m154 x0.f0)) = false, (!(m154 x0.f0)) = false, (!(m154 x0.f0)) = false, Ev F X (.call 115 [(.oi x0.f1)] [] [] [(.one (.val (.bool (m110 x0.f1 0 1000000))))]), (!(m154 x0.f0)) = false, (!(m154 x0.f0)) = false, (!(m110 x0.f1 0 1000000)) = false, (!(m110 x0.f1 0 1000000)) = false, (!(m110 x0.f1 0 1000000)) = false, (!(m110 x0.f1 0 1000000)) = false, 0 ≤ (length p : Int), (map b_si a0)[(Int.toNat (length p : Int))]? = some [(.val (.string x0.f0)), (.i x0.f1)], (!(m110 x0.f1 0 1000000)) = false, (!(m110 x0.f1 0 1000000)) = false, (!(m110 x0.f1 0 1000000)) = false, Ev F X (.call 79 [(.one (.bor (l0_0 + 1) (map b_si a0))), (.one (.val (.string x0.f0)))] [] [] [(.oi (m79 a0 x0.f0))]), (!(m110 x0.f1 0 1000000)) = false, (!(m110 x0.f1 0 1000000)) = false, (!(m110 x0.f1 0 1000000)) = false, ((m79 a0 x0.f0) != (length p : Int)) = true]) (by kernel_rfl) ⟨hc, (by omega), (by rw [getElem?_map, Hx0]; rfl), (nt h_1), (nt h_1), (nt h_1), (by omega), (by rw [getElem?_map, Hx0]; rfl), (nt h_1), (nt h_1), (nt h_1), (e154 (a0 := x0.f0) (by assumption)), (nt h_1), (nt h_1), (nt h_2), (nt h_2), (nt h_2), (by omega), (by rw [getElem?_map, Hx0]; rfl), (nt h_2), (nt h_2), (nt h_2), (e115 (a0 := x0.f1)), (nt h_2), (nt h_2), (nt h_3), (nt h_3), (nt h_3), (nt h_3), (by omega), (by rw [getElem?_map, Hx0]; rfl), (nt h_3), (nt h_3), (nt h_3), (e79 (a0 := a0) (a1 := x0.f0) (by with_reducible assumption)), (nt h_3), (nt h_3), (nt h_3), h_4, trivial⟩
            exact .loopX st (show (.ret : VX.Exit) ≠ .normal from by simp)
          · try simp only [if_neg h_4]
            have st := codeH_ok (F := F) (X := X) (c := b133_0) (t := 0) (hs := [(8, .b true), (14, .row [(.val (.string x0.f0)), (.i x0.f1)]), (23, .b false), (25, .b false), (27, .b false), (28, .row [(.val (.string x0.f0)), (.i x0.f1)]), (29, .b false), (31, .b false), (33, .b false), (34, .ret [] [(.one (.val (.bool (m154 x0.f0))))] [] []), (35, .b false), (38, .b false), (41, .b false), (43, .b false), (45, .b false), (46, .row [(.val (.string x0.f0)), (.i x0.f1)]), (47, .b false), (49, .b false), (51, .b false), (52, .ret [] [(.one (.val (.bool (m110 x0.f1 0 1000000))))] [] []), (53, .b false), (56, .b false), (59, .b false), (61, .b false), (63, .b false), (65, .b false), (66, .row [(.val (.string x0.f0)), (.i x0.f1)]), (67, .b false), (69, .b false), (71, .b false), (72, .ret [] [(.oi (m79 a0 x0.f0))] [] []), (73, .b false), (75, .b false), (78, .b false), (79, .b false)]) (σ := h133_0 l0_0 a0 (length p : Int) ) (σ' := ⟨[(0, (.one (.bor l0_0 (map b_si a0)))), (3, (.oi (IntKind.wrap .i64 ((length p : Int) + 1))))], []⟩) (e := .normal) (t' := 86) (hs' := []) (q := [(decide ((length p : Int) < ((length (map b_si a0)) : Int))) = true, 0 ≤ (length p : Int), (map b_si a0)[(Int.toNat (length p : Int))]? = some [(.val (.string x0.f0)), (.i x0.f1)], (x0.f0.toList == (⟨#[]⟩ : ByteArray).toList) = false, (x0.f0.toList == (⟨#[]⟩ : ByteArray).toList) = false, (x0.f0.toList == (⟨#[]⟩ : ByteArray).toList) = false, 0 ≤ (length p : Int), (map b_si a0)[(Int.toNat (length p : Int))]? = some [(.val (.string x0.f0)), (.i x0.f1)], (x0.f0.toList == (⟨#[]⟩ : ByteArray).toList) = false, (x0.f0.toList == (⟨#[]⟩ : ByteArray).toList) = false, (x0.f0.toList == (⟨#[]⟩ : ByteArray).toList) = false, Ev F X (.call 154 [(.one (.val (.string x0.f0)))] [] [] [(.one (.val (.bool (m154 x0.f0))))]), (x0.f0.toList == (⟨#[]⟩ : ByteArray).toList) = false, (x0.f0.toList == (⟨#[]⟩ : ByteArray).toList) = false, (!(m154 x0.f0)) = false, (!(m154 x0.f0)) = false, (!(m154 x0.f0)) = false, 0 ≤ (length p : Int), (map b_si a0)[(Int.toNat (length p : Int))]? = some [(.val (.string x0.f0)), (.i x0.f1)], (!(m154 x0.f0)) = false, (!(m154 x0.f0)) = false, (!(m154 x0.f0)) = false, Ev F X (.call 115 [(.oi x0.f1)] [] [] [(.one (.val (.bool (m110 x0.f1 0 1000000))))]), (!(m154 x0.f0)) = false, (!(m154 x0.f0)) = false, (!(m110 x0.f1 0 1000000)) = false, (!(m110 x0.f1 0 1000000)) = false, (!(m110 x0.f1 0 1000000)) = false, (!(m110 x0.f1 0 1000000)) = false, 0 ≤ (length p : Int), (map b_si a0)[(Int.toNat (length p : Int))]? = some [(.val (.string x0.f0)), (.i x0.f1)], (!(m110 x0.f1 0 1000000)) = false, (!(m110 x0.f1 0 1000000)) = false, (!(m110 x0.f1 0 1000000)) = false, Ev F X (.call 79 [(.one (.bor (l0_0 + 1) (map b_si a0))), (.one (.val (.string x0.f0)))] [] [] [(.oi (m79 a0 x0.f0))]), (!(m110 x0.f1 0 1000000)) = false, (!(m110 x0.f1 0 1000000)) = false, (!(m110 x0.f1 0 1000000)) = false, ((m79 a0 x0.f0) != (length p : Int)) = false, True]) (by kernel_rfl) ⟨hc, (by omega), (by rw [getElem?_map, Hx0]; rfl), (nt h_1), (nt h_1), (nt h_1), (by omega), (by rw [getElem?_map, Hx0]; rfl), (nt h_1), (nt h_1), (nt h_1), (e154 (a0 := x0.f0) (by assumption)), (nt h_1), (nt h_1), (nt h_2), (nt h_2), (nt h_2), (by omega), (by rw [getElem?_map, Hx0]; rfl), (nt h_2), (nt h_2), (nt h_2), (e115 (a0 := x0.f1)), (nt h_2), (nt h_2), (nt h_3), (nt h_3), (nt h_3), (nt h_3), (by omega), (by rw [getElem?_map, Hx0]; rfl), (nt h_3), (nt h_3), (nt h_3), (e79 (a0 := a0) (a1 := x0.f0) (by with_reducible assumption)), (nt h_3), (nt h_3), (nt h_3), (nt h_4), trivial, trivial⟩
            have ih := t133_0 (l0_0 := l0_0) (a0 := a0) hy0 hy1 y0 (p ++ [x0])  (by rw [append_assoc]; exact hp0)
            rw [show ((p ++ [x0]).length : Int) = (p.length : Int) + 1 from by simp] at ih
            rw [show (⟨[(0, (.one (.bor l0_0 (map b_si a0)))), (3, (.oi (IntKind.wrap .i64 ((length p : Int) + 1))))], []⟩ : St) = h133_0 l0_0 a0 ((length p : Int) + 1)  from (by unfold h133_0; simp only [hw]; done)] at st
            exact .loopN st ih
/-! loop.example/g00539/spec.l14Parts -/
def m133 (a0 : (List K_si)) : Bool :=
  (match r133_0 a0 a0 0 with | .k0 w0_0 w1_0 => true | .k1 => false)
theorem e133 {l0_0 : Nat} {a0 : (List K_si)} (hy0 : length a0 * 24 ≤ 140737488351232) (hy1 : ∀ z ∈ a0, os_si z) : Ev F X (.call 133 [(.one (.bor l0_0 (map b_si a0)))] [] [] [(.one (.val (.bool (m133 a0))))]) := by
  unfold m133
  cases h0 : r133_0 a0 a0 0 with
  | k0 w0_0 w1_0 =>
    try dsimp only
    have f0 : (⟨[(0, (.one (.bor l0_0 (map b_si a0)))), (3, (.oi 0))], []⟩ : St) = h133_0 l0_0 a0 0  := (by rfl)
    have f1 : Ev F X (.code l133_0 (h133_0 l0_0 a0 0 ) (.exit 0) ⟨[(0, (.one (.bor l0_0 (map b_si a0)))), (3, (.oi w0_0)), (7, (.one (.val (.bool w1_0))))], []⟩) := (by have t : Ev F X (.code l133_0 (h133_0 l0_0 a0 0 ) (ex133_0 (r133_0 a0 a0 0)) (fin133_0 l0_0 a0 (r133_0 a0 a0 0))) := t133_0 (l0_0 := l0_0) (a0 := a0) (by assumption) (by assumption) a0 []  rfl; rw [h0] at t; exact t)
    exact callP_ok (ps := []) (os := []) (rs := [(.one (.val (.bool true)))]) (by kernel_rfl) (.f f0 (.f f1 (.h 4 (.loop (h133_0 l0_0 a0 0 ) (.exit 0) ⟨[(0, (.one (.bor l0_0 (map b_si a0)))), (3, (.oi w0_0)), (7, (.one (.val (.bool w1_0))))], []⟩) .nil)))
  | k1 =>
    try dsimp only
    have f0 : (⟨[(0, (.one (.bor l0_0 (map b_si a0)))), (3, (.oi 0))], []⟩ : St) = h133_0 l0_0 a0 0  := (by rfl)
    have f1 : Ev F X (.code l133_0 (h133_0 l0_0 a0 0 ) .ret ⟨[(2, (.one (.val (.bool false))))], []⟩) := (by have t : Ev F X (.code l133_0 (h133_0 l0_0 a0 0 ) (ex133_0 (r133_0 a0 a0 0)) (fin133_0 l0_0 a0 (r133_0 a0 a0 0))) := t133_0 (l0_0 := l0_0) (a0 := a0) (by assumption) (by assumption) a0 []  rfl; rw [h0] at t; exact t)
    exact callP_ok (ps := []) (os := []) (rs := [(.one (.val (.bool false)))]) (by kernel_rfl) (.f f0 (.f f1 (.h 4 (.loop (h133_0 l0_0 a0 0 ) .ret ⟨[(2, (.one (.val (.bool false))))], []⟩) .nil)))
/-! loop 134_0 -/
inductive O134_0 where
  | k0 (w0 : Int) (w1 : Int) (w2 : Bool)
def r134_0 (a0 : (List K_si)) : List K_si → Int → Int → O134_0
  | x0 :: y0, i, v0 =>
    (r134_0 a0 y0 (i + 1) (IntKind.wrap .i64 (v0 + x0.f1)))
  | [], i, v0 => (O134_0.k0 v0 i (decide (i < ((length (map b_si a0)) : Int))))
def h134_0 (l0_0 : Nat) (a0 : (List K_si)) (i : Int) (v0 : Int) : St := ⟨[(0, (.one (.bor l0_0 (map b_si a0)))), (3, (.one (.val (.int .i64 v0)))), (4, (.one (.val (.int .i64 i))))], []⟩
def ex134_0 : O134_0 → VX.Exit
  | .k0 _ _ _ => (.exit 0)
def fin134_0 (l0_0 : Nat) (a0 : (List K_si)) : O134_0 → St
  | .k0 w0 w1 w2 => ⟨[(0, (.one (.bor l0_0 (map b_si a0)))), (3, (.one (.val (.int .i64 w0)))), (4, (.one (.val (.int .i64 w1)))), (8, (.one (.val (.bool w2))))], []⟩
theorem t134_0 {l0_0 : Nat} {a0 : (List K_si)} (hy0 : length a0 * 24 ≤ 140737488351232) : ∀ (y0 : List K_si) (p : List K_si) (v0 : Int), p ++ y0 = a0 → Ev F X (.code l134_0 (h134_0 l0_0 a0 (length p : Int) v0) (ex134_0 (r134_0 a0 y0 (length p : Int) v0)) (fin134_0 l0_0 a0 (r134_0 a0 y0 (length p : Int) v0)))
  | [], p, v0, hp0 => by
    have hc : ¬ (decide ((length p : Int) < ((length (map b_si a0)) : Int))) = true := by
      rw [← hp0]; simp only [length_map, length_set, length_append, length_replicate, length_cons, length_nil, decide_eq_true_eq]; omega
    have st := codeH_ok (F := F) (X := X) (c := b134_0) (t := 0) (hs := [(8, .b false)]) (σ := h134_0 l0_0 a0 (length p : Int) v0) (σ' := fin134_0 l0_0 a0 (.k0 v0 (length p : Int) (decide ((length p : Int) < ((length (map b_si a0)) : Int))))) (e := (.exit 0)) (t' := 9) (hs' := []) (q := [(decide ((length p : Int) < ((length (map b_si a0)) : Int))) = false]) (by kernel_rfl) ⟨(nt hc), trivial⟩
    exact .loopX st (show ((.exit 0) : VX.Exit) ≠ .normal from by simp)
  | x0 :: y0, p, v0, hp0 => by
    have hc : (decide ((length p : Int) < ((length (map b_si a0)) : Int))) = true := by
      rw [← hp0]; simp only [length_map, length_set, length_append, length_replicate, length_cons, length_nil, decide_eq_true_eq]; omega
    have Hx0 : (a0)[Int.toNat (length p : Int)]? = some x0 := by
      rw [← hp0, Int.toNat_natCast]; simp
    have hlen : length (a0) = length p + length y0 + 1 := by rw [← hp0]; simp; omega
    have hw : IntKind.wrap .i64 ((length p : Int) + 1) = (length p : Int) + 1 := wrap64 (by omega)
    simp only [r134_0]
    have st := codeH_ok (F := F) (X := X) (c := b134_0) (t := 0) (hs := [(8, .b true), (16, .row [(.val (.string x0.f0)), (.i x0.f1)])]) (σ := h134_0 l0_0 a0 (length p : Int) v0) (σ' := ⟨[(0, (.one (.bor l0_0 (map b_si a0)))), (3, (.oi (IntKind.wrap .i64 (v0 + x0.f1)))), (4, (.oi (IntKind.wrap .i64 ((length p : Int) + 1))))], []⟩) (e := .normal) (t' := 31) (hs' := []) (q := [(decide ((length p : Int) < ((length (map b_si a0)) : Int))) = true, 0 ≤ (length p : Int), (map b_si a0)[(Int.toNat (length p : Int))]? = some [(.val (.string x0.f0)), (.i x0.f1)], True, True]) (by kernel_rfl) ⟨hc, (by omega), (by rw [getElem?_map, Hx0]; rfl), trivial, trivial, trivial⟩
    have ih := t134_0 (l0_0 := l0_0) (a0 := a0) hy0 y0 (p ++ [x0]) (IntKind.wrap .i64 (v0 + x0.f1)) (by rw [append_assoc]; exact hp0)
    rw [show ((p ++ [x0]).length : Int) = (p.length : Int) + 1 from by simp] at ih
    rw [show (⟨[(0, (.one (.bor l0_0 (map b_si a0)))), (3, (.oi (IntKind.wrap .i64 (v0 + x0.f1)))), (4, (.oi (IntKind.wrap .i64 ((length p : Int) + 1))))], []⟩ : St) = h134_0 l0_0 a0 ((length p : Int) + 1) (IntKind.wrap .i64 (v0 + x0.f1)) from (by unfold h134_0; simp only [hw]; done)] at st
    exact .loopN st ih
/-! loop.example/g00539/spec.l13Total -/
def m134 (a0 : (List K_si)) : Int :=
  (match r134_0 a0 a0 0 0 with | .k0 w0_0 w1_0 w2_0 => w0_0)
theorem e134 {l0_0 : Nat} {a0 : (List K_si)} (hy0 : length a0 * 24 ≤ 140737488351232) : Ev F X (.call 134 [(.one (.bor l0_0 (map b_si a0)))] [] [] [(.one (.val (.int .i64 (m134 a0))))]) := by
  unfold m134
  cases h0 : r134_0 a0 a0 0 0 with
  | k0 w0_0 w1_0 w2_0 =>
    try dsimp only
    have f0 : (⟨[(0, (.one (.bor l0_0 (map b_si a0)))), (3, (.oi 0)), (4, (.oi 0))], []⟩ : St) = h134_0 l0_0 a0 0 0 := (by rfl)
    have f1 : Ev F X (.code l134_0 (h134_0 l0_0 a0 0 0) (.exit 0) ⟨[(0, (.one (.bor l0_0 (map b_si a0)))), (3, (.oi w0_0)), (4, (.oi w1_0)), (8, (.one (.val (.bool w2_0))))], []⟩) := (by have t : Ev F X (.code l134_0 (h134_0 l0_0 a0 0 0) (ex134_0 (r134_0 a0 a0 0 0)) (fin134_0 l0_0 a0 (r134_0 a0 a0 0 0))) := t134_0 (l0_0 := l0_0) (a0 := a0) (by assumption) a0 [] 0 rfl; rw [h0] at t; exact t)
    exact callP_ok (ps := []) (os := []) (rs := [(.oi w0_0)]) (by kernel_rfl) (.f f0 (.f f1 (.h 6 (.loop (h134_0 l0_0 a0 0 0) (.exit 0) ⟨[(0, (.one (.bor l0_0 (map b_si a0)))), (3, (.oi w0_0)), (4, (.oi w1_0)), (8, (.one (.val (.bool w2_0))))], []⟩) .nil)))
end Go.Proofs.YtfmkbpiobddhdaaDoor.CreditShare
