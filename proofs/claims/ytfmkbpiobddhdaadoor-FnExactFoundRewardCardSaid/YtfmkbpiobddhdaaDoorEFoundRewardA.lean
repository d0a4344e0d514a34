/- What the functions compute. -/
import Derived.Test.YtfmkbpiobddhdaaDoorTFoundReward
import Derived.Test.YtfmkbpiobddhdaaDoorVNum
import Derived.Test.YtfmkbpiobddhdaaDoorVClone
import Derived.Test.YtfmkbpiobddhdaaDoorVExt
import Derived.Test.YtfmkbpiobddhdaaDoorXFoundReward
import Derived.KernelRfl
namespace Go.Proofs.YtfmkbpiobddhdaaDoor.FoundReward
open Go Go.Proofs.YtfmkbpiobddhdaaDoor.V
set_option linter.unusedVariables false
set_option linter.unusedSimpArgs false
set_option maxRecDepth 20000
abbrev _root_.Go.Proofs.YtfmkbpiobddhdaaDoor.V.B.i (x : Int) : B := .val (.int .i64 x)
abbrev _root_.Go.Proofs.YtfmkbpiobddhdaaDoor.V.D.i (x : Int) : D := .val (.int .i64 x)
abbrev _root_.Go.Proofs.YtfmkbpiobddhdaaDoor.V.CV.i (x : Int) : CV := .val (.int .i64 x)
abbrev _root_.Go.Proofs.YtfmkbpiobddhdaaDoor.V.SV.oi (x : Int) : SV := .one (.val (.int .i64 x))
abbrev _root_.Go.Proofs.YtfmkbpiobddhdaaDoor.V.Ret.oi (x : Int) : Ret := .one (.val (.int .i64 x))
open List (length_replicate length_map length_set length_append length_cons length_nil length_take length_drop take_of_length_le map_take map_drop map_set append_assoc getElem?_map map length take drop getD set)
def X : Ext := fun f args rs => (f = 106 ∧ CloneX 2 24 args rs) ∨ (f = 172 ∧ TrimX args rs)
def w64 (n : Int) : Int := IntKind.wrap .i64 n
theorem wrap64 {x : Int} (h : -9223372036854775808 ≤ x ∧ x ≤ 9223372036854775807) : w64 x = x := V.wrap64 h
theorem wrap64d {x : Int} (h1 : -9223372036854775808 ≤ x) (h2 : x ≤ 9223372036854775807) : w64 x = x := V.wrap64 ⟨h1, h2⟩
theorem wrap64_range (x : Int) : -9223372036854775808 ≤ w64 x ∧ w64 x ≤ 9223372036854775807 := V.wrap64_range x
theorem wrap64_sub (x : Int) (n : Nat) (h0 : 0 ≤ x) (h1 : x ≤ 1048576) (h2 : n ≤ 140737488351232) : w64 (x - n) < 0 ∨ (w64 (x - n) = x - n ∧ (n : Int) ≤ x) := V.wrap64_sub x n h0 h1 h2
theorem fuel64_tdiv {x : Int} {n : Nat} (h : decide (x > 0) = true) (hn : fuel64 x ≤ n + 1) : fuel64 (w64 (Int.tdiv x 10)) ≤ n := V.fuel64_tdiv h hn
theorem pot64_tdiv {x : Int} (h : decide (x > 0) = true) : pot64 (w64 (Int.tdiv x 10)) + 1 ≤ pot64 x := V.pot64_tdiv h
theorem _root_.Go.Proofs.YtfmkbpiobddhdaaDoor.V.PS.z {F X hs q} (t : Nat) (r : PS F X hs q) : PS F X ((t, .b false) :: hs) q := .h t _ r
theorem _root_.Go.Proofs.YtfmkbpiobddhdaaDoor.V.PS.y {F X hs q} (t : Nat) (r : PS F X hs q) : PS F X ((t, .b true) :: hs) q := .h t _ r
theorem _root_.Go.Proofs.YtfmkbpiobddhdaaDoor.V.PS.g {F X} {b : Bool} {hs q} (h : ¬ b = true) (r : PS F X hs q) : PS F X hs ((b = false) :: q) := .f (nt h) r
theorem _root_.Go.Proofs.YtfmkbpiobddhdaaDoor.V.PS.n {F X} {b : Bool} {hs q} : ∀ (k : Nat) (h : ¬ b = true) (r : PS F X hs q), PS F X hs (List.replicate k (b = false) ++ q)
 | 0, _, r => r
 | k + 1, h, r => .f (nt h) (.n k h r)
theorem _root_.Go.Proofs.YtfmkbpiobddhdaaDoor.V.PS.m {F X} {p : Prop} {hs q} : ∀ (k : Nat) (h : p) (r : PS F X hs q), PS F X hs (List.replicate k p ++ q)
 | 0, _, r => r
 | k + 1, h, r => .f h (.m k h r)
theorem _root_.Go.Proofs.YtfmkbpiobddhdaaDoor.V.PS.e {F X} {α : Type} {hs q} (x : α) (r : PS F X hs q) : PS F X hs ((x = x) :: q) := .f rfl r
theorem cp {f : FuncId} {hs args rs q} (h : callH F X f hs [] args [] = some ([], rs, q)) (p : PS F X hs q) : Ev F X (.call f args [] [] rs) := callP_ok h p
theorem ch (c : VC) (hs : Hints) (σ σ' : St) (e : VX.Exit) (t : Nat) (q : List Prop) (h : codeH F X c 0 hs σ = some (e, σ', t, [], q)) (p : All q) : Ev F X (.code c σ e σ') := codeH_ok h p
theorem to_ {c : VC} {σ s s' : St} {e : VX.Exit} (h : Ev F X (.code c σ e s)) (k : s = s') : Ev F X (.code c σ e s') := k ▸ h
theorem lt1 {α β : Type} {f : α → β} {p y a : List α} {x : α} (h : p ++ x :: y = a) : (decide ((List.length p : Int) < ((List.length (List.map f a)) : Int))) = true := by
 rw [← h]; simp only [List.length_map, List.length_append, List.length_cons, decide_eq_true_eq]; omega
structure K_si where
 f0 : ByteArray
 f1 : Int
def b_si (x : K_si) : List B := [(.val (.string x.f0)), (.val (.int .i64 x.f1))]
def d_si (x : K_si) : List D := [(.val (.string x.f0)), (.val (.int .i64 x.f1))]
theorem toBR_si : ∀ (l : List K_si), toBR (l.map d_si) = l.map b_si
 | [] => rfl
 | x :: l => by simp [toBR, toBL, toB, d_si, b_si, toBR_si l]
theorem fullR_si : ∀ (l : List K_si), fullR (l.map d_si) = true
 | [] => rfl
 | x :: l => by simp [fullR, fullL, full, d_si, fullR_si l]
theorem pureR_si : ∀ (l : List K_si), pureR (l.map d_si) = true
 | [] => rfl
 | x :: l => by simp [pureR, pureL, V.pure, d_si, pureR_si l]
theorem ft_si (a b : Nat) (l : List K_si) : fullR (take a (drop b (l.map d_si))) = true := by rw [← map_drop, ← map_take]; exact fullR_si _
theorem tbt_si (a b : Nat) (l : List K_si) : toBR (take a (drop b (l.map d_si))) = (take a (drop b l)).map b_si := by rw [← map_drop, ← map_take]; exact toBR_si _
theorem tb_si (l : List K_si) : toBR (take (l.map d_si).length (drop 0 (l.map d_si))) = l.map b_si := by rw [List.drop_zero, List.take_length]; exact toBR_si l
theorem lenB_si (l : List K_si) : ∀ r ∈ l.map b_si, r.length = 2 := by intro r h; obtain ⟨x, _, rfl⟩ := List.mem_map.1 h; rfl
theorem lenD_si (l : List K_si) : ∀ r ∈ l.map d_si, r.length = 2 := by intro r h; obtain ⟨x, _, rfl⟩ := List.mem_map.1 h; rfl
def os_si (x : K_si) : Prop := (ByteArray.size x.f0 ≤ 140737488351232)
theorem gos_si {l : List K_si} (h : ∀ z ∈ l, os_si z) (n : Nat) (d : K_si) (hd : os_si d) : os_si (l.getD n d) := by
 rw [List.getD_eq_getElem?_getD]; cases h2 : l[n]? with
 | none => simpa using hd
 | some x => exact h x (List.mem_of_getElem? h2)
theorem fromBR_si (n : Nat) (l : List K_si) : fromBR n (l.map b_si) = l.map d_si := by simp [fromBR, b_si, d_si, fromB, Function.comp_def]
theorem copy_si (l : List K_si) : (l.map d_si).all (fun x => x.all copyable) = true := by simp [d_si, copyable, Function.comp_def]
theorem ct_si (a b : Nat) (l : List K_si) : ((take a (drop b (l.map d_si))).all fun x => x.all copyable) = true := by rw [← map_drop, ← map_take]; exact copy_si _
structure K_R where
 f0 : Int
 f1 : Int
 f2 : Int
 f3 : (List K_si)
 f4 : Int
def b_R (x : K_R) : List B := [(.val (.int .i64 x.f0)), (.val (.int .i64 x.f1)), (.val (.int .i64 x.f2)), (.sl (map b_si x.f3)), (.val (.int .i64 x.f4))]
def d_R (x : K_R) : List D := [(.val (.int .i64 x.f0)), (.val (.int .i64 x.f1)), (.val (.int .i64 x.f2)), (.own 2 (map d_si x.f3)), (.val (.int .i64 x.f4))]
theorem toBR_R : ∀ (l : List K_R), toBR (l.map d_R) = l.map b_R
 | [] => rfl
 | x :: l => by simp [toBR, toBL, toB, d_R, b_R, toBR_R l, toBR_si]
theorem fullR_R : ∀ (l : List K_R), fullR (l.map d_R) = true
 | [] => rfl
 | x :: l => by simp [fullR, fullL, full, d_R, fullR_R l, fullR_si]
theorem pureR_R : ∀ (l : List K_R), pureR (l.map d_R) = true
 | [] => rfl
 | x :: l => by simp [pureR, pureL, V.pure, d_R, pureR_R l, pureR_si]
theorem ft_R (a b : Nat) (l : List K_R) : fullR (take a (drop b (l.map d_R))) = true := by rw [← map_drop, ← map_take]; exact fullR_R _
theorem tbt_R (a b : Nat) (l : List K_R) : toBR (take a (drop b (l.map d_R))) = (take a (drop b l)).map b_R := by rw [← map_drop, ← map_take]; exact toBR_R _
theorem tb_R (l : List K_R) : toBR (take (l.map d_R).length (drop 0 (l.map d_R))) = l.map b_R := by rw [List.drop_zero, List.take_length]; exact toBR_R l
theorem lenB_R (l : List K_R) : ∀ r ∈ l.map b_R, r.length = 5 := by intro r h; obtain ⟨x, _, rfl⟩ := List.mem_map.1 h; rfl
theorem lenD_R (l : List K_R) : ∀ r ∈ l.map d_R, r.length = 5 := by intro r h; obtain ⟨x, _, rfl⟩ := List.mem_map.1 h; rfl
def ok_R (x : K_R) : Prop := (length x.f3 * 24 ≤ 140737488351232)
def os_R (x : K_R) : Prop := (length x.f3 * 24 ≤ 140737488351232) ∧ (∀ z ∈ x.f3, os_si z)
theorem os_ok_R (x : K_R) (h : os_R x) : ok_R x := h.1
theorem gos_R {l : List K_R} (h : ∀ z ∈ l, os_R z) (n : Nat) (d : K_R) (hd : os_R d) : os_R (l.getD n d) := by
 rw [List.getD_eq_getElem?_getD]; cases h2 : l[n]? with
 | none => simpa using hd
 | some x => exact h x (List.mem_of_getElem? h2)
theorem gok_R {l : List K_R} (h : ∀ z ∈ l, ok_R z) (n : Nat) (d : K_R) (hd : ok_R d) : ok_R (l.getD n d) := by
 rw [List.getD_eq_getElem?_getD]; cases h2 : l[n]? with
 | none => simpa using hd
 | some x => exact h x (List.mem_of_getElem? h2)
structure K_B where
 f0 : Int
 f1 : Int
 f2 : (List K_si)
 f3 : (List K_R)
 f4 : (List K_si)
 f5 : Int
 f6 : Int
 f7 : Int
def b_B (x : K_B) : List B := [(.val (.int .i64 x.f0)), (.val (.int .i64 x.f1)), (.sl (map b_si x.f2)), (.sl (map b_R x.f3)), (.sl (map b_si x.f4)), (.val (.int .i64 x.f5)), (.val (.int .i64 x.f6)), (.val (.int .i64 x.f7))]
def d_B (x : K_B) : List D := [(.val (.int .i64 x.f0)), (.val (.int .i64 x.f1)), (.own 2 (map d_si x.f2)), (.own 5 (map d_R x.f3)), (.own 2 (map d_si x.f4)), (.val (.int .i64 x.f5)), (.val (.int .i64 x.f6)), (.val (.int .i64 x.f7))]
theorem toBR_B : ∀ (l : List K_B), toBR (l.map d_B) = l.map b_B
 | [] => rfl
 | x :: l => by simp [toBR, toBL, toB, d_B, b_B, toBR_B l, toBR_si, toBR_R]
theorem fullR_B : ∀ (l : List K_B), fullR (l.map d_B) = true
 | [] => rfl
 | x :: l => by simp [fullR, fullL, full, d_B, fullR_B l, fullR_si, fullR_R]
theorem pureR_B : ∀ (l : List K_B), pureR (l.map d_B) = true
 | [] => rfl
 | x :: l => by simp [pureR, pureL, V.pure, d_B, pureR_B l, pureR_si, pureR_R]
theorem ft_B (a b : Nat) (l : List K_B) : fullR (take a (drop b (l.map d_B))) = true := by rw [← map_drop, ← map_take]; exact fullR_B _
theorem tbt_B (a b : Nat) (l : List K_B) : toBR (take a (drop b (l.map d_B))) = (take a (drop b l)).map b_B := by rw [← map_drop, ← map_take]; exact toBR_B _
theorem tb_B (l : List K_B) : toBR (take (l.map d_B).length (drop 0 (l.map d_B))) = l.map b_B := by rw [List.drop_zero, List.take_length]; exact toBR_B l
theorem lenB_B (l : List K_B) : ∀ r ∈ l.map b_B, r.length = 8 := by intro r h; obtain ⟨x, _, rfl⟩ := List.mem_map.1 h; rfl
theorem lenD_B (l : List K_B) : ∀ r ∈ l.map d_B, r.length = 8 := by intro r h; obtain ⟨x, _, rfl⟩ := List.mem_map.1 h; rfl
def ok_B (x : K_B) : Prop := (length x.f2 * 24 ≤ 140737488351232) ∧ (length x.f3 * 56 ≤ 140737488351232) ∧ (∀ z ∈ x.f3, ok_R z) ∧ (length x.f4 * 24 ≤ 140737488351232)
def os_B (x : K_B) : Prop := (length x.f2 * 24 ≤ 140737488351232) ∧ (∀ z ∈ x.f2, os_si z) ∧ (length x.f3 * 56 ≤ 140737488351232) ∧ (∀ z ∈ x.f3, os_R z) ∧ (length x.f4 * 24 ≤ 140737488351232) ∧ (∀ z ∈ x.f4, os_si z)
theorem os_ok_B (x : K_B) (h : os_B x) : ok_B x := ⟨h.1, h.2.2.1, fun z hz => os_ok_R z (h.2.2.2.1 z hz), h.2.2.2.2.1⟩
theorem gos_B {l : List K_B} (h : ∀ z ∈ l, os_B z) (n : Nat) (d : K_B) (hd : os_B d) : os_B (l.getD n d) := by
 rw [List.getD_eq_getElem?_getD]; cases h2 : l[n]? with
 | none => simpa using hd
 | some x => exact h x (List.mem_of_getElem? h2)
theorem gok_B {l : List K_B} (h : ∀ z ∈ l, ok_B z) (n : Nat) (d : K_B) (hd : ok_B d) : ok_B (l.getD n d) := by
 rw [List.getD_eq_getElem?_getD]; cases h2 : l[n]? with
 | none => simpa using hd
 | some x => exact h x (List.mem_of_getElem? h2)
def b_i (x : Int) : List B := [(.val (.int .i64 x))]
def d_i (x : Int) : List D := [(.val (.int .i64 x))]
theorem toBR_i : ∀ (l : List Int), toBR (l.map d_i) = l.map b_i
 | [] => rfl
 | x :: l => by simp [toBR, toBL, toB, d_i, b_i, toBR_i l]
theorem fullR_i : ∀ (l : List Int), fullR (l.map d_i) = true
 | [] => rfl
 | x :: l => by simp [fullR, fullL, full, d_i, fullR_i l]
theorem pureR_i : ∀ (l : List Int), pureR (l.map d_i) = true
 | [] => rfl
 | x :: l => by simp [pureR, pureL, V.pure, d_i, pureR_i l]
theorem ft_i (a b : Nat) (l : List Int) : fullR (take a (drop b (l.map d_i))) = true := by rw [← map_drop, ← map_take]; exact fullR_i _
theorem tbt_i (a b : Nat) (l : List Int) : toBR (take a (drop b (l.map d_i))) = (take a (drop b l)).map b_i := by rw [← map_drop, ← map_take]; exact toBR_i _
theorem tb_i (l : List Int) : toBR (take (l.map d_i).length (drop 0 (l.map d_i))) = l.map b_i := by rw [List.drop_zero, List.take_length]; exact toBR_i l
theorem lenB_i (l : List Int) : ∀ r ∈ l.map b_i, r.length = 1 := by intro r h; obtain ⟨x, _, rfl⟩ := List.mem_map.1 h; rfl
theorem lenD_i (l : List Int) : ∀ r ∈ l.map d_i, r.length = 1 := by intro r h; obtain ⟨x, _, rfl⟩ := List.mem_map.1 h; rfl
theorem fromBR_i (n : Nat) (l : List Int) : fromBR n (l.map b_i) = l.map d_i := by simp [fromBR, b_i, d_i, fromB, Function.comp_def]
theorem copy_i (l : List Int) : (l.map d_i).all (fun x => x.all copyable) = true := by simp [d_i, copyable, Function.comp_def]
theorem ct_i (a b : Nat) (l : List Int) : ((take a (drop b (l.map d_i))).all fun x => x.all copyable) = true := by rw [← map_drop, ← map_take]; exact copy_i _
def b_b (x : Bool) : List B := [(.val (.bool x))]
def d_b (x : Bool) : List D := [(.val (.bool x))]
theorem toBR_b : ∀ (l : List Bool), toBR (l.map d_b) = l.map b_b
 | [] => rfl
 | x :: l => by simp [toBR, toBL, toB, d_b, b_b, toBR_b l]
theorem fullR_b : ∀ (l : List Bool), fullR (l.map d_b) = true
 | [] => rfl
 | x :: l => by simp [fullR, fullL, full, d_b, fullR_b l]
theorem pureR_b : ∀ (l : List Bool), pureR (l.map d_b) = true
 | [] => rfl
 | x :: l => by simp [pureR, pureL, V.pure, d_b, pureR_b l]
theorem ft_b (a b : Nat) (l : List Bool) : fullR (take a (drop b (l.map d_b))) = true := by rw [← map_drop, ← map_take]; exact fullR_b _
theorem tbt_b (a b : Nat) (l : List Bool) : toBR (take a (drop b (l.map d_b))) = (take a (drop b l)).map b_b := by rw [← map_drop, ← map_take]; exact toBR_b _
theorem tb_b (l : List Bool) : toBR (take (l.map d_b).length (drop 0 (l.map d_b))) = l.map b_b := by rw [List.drop_zero, List.take_length]; exact toBR_b l
theorem lenB_b (l : List Bool) : ∀ r ∈ l.map b_b, r.length = 1 := by intro r h; obtain ⟨x, _, rfl⟩ := List.mem_map.1 h; rfl
theorem lenD_b (l : List Bool) : ∀ r ∈ l.map d_b, r.length = 1 := by intro r h; obtain ⟨x, _, rfl⟩ := List.mem_map.1 h; rfl
theorem fromBR_b (n : Nat) (l : List Bool) : fromBR n (l.map b_b) = l.map d_b := by simp [fromBR, b_b, d_b, fromB, Function.comp_def]
theorem copy_b (l : List Bool) : (l.map d_b).all (fun x => x.all copyable) = true := by simp [d_b, copyable, Function.comp_def]
theorem ct_b (a b : Nat) (l : List Bool) : ((take a (drop b (l.map d_b))).all fun x => x.all copyable) = true := by rw [← map_drop, ← map_take]; exact copy_b _
structure K_C where
 f0 : Int
 f1 : Int
 f2 : Int
 f3 : Int
 f4 : (List K_si)
 f5 : (List K_R)
 f6 : (List K_si)
 f7 : Int
 f8 : Int
 f9 : Int
def b_C (x : K_C) : List B := [(.val (.int .i64 x.f0)), (.val (.int .i64 x.f1)), (.val (.int .i64 x.f2)), (.val (.int .i64 x.f3)), (.sl (map b_si x.f4)), (.sl (map b_R x.f5)), (.sl (map b_si x.f6)), (.val (.int .i64 x.f7)), (.val (.int .i64 x.f8)), (.val (.int .i64 x.f9))]
def d_C (x : K_C) : List D := [(.val (.int .i64 x.f0)), (.val (.int .i64 x.f1)), (.val (.int .i64 x.f2)), (.val (.int .i64 x.f3)), (.own 2 (map d_si x.f4)), (.own 5 (map d_R x.f5)), (.own 2 (map d_si x.f6)), (.val (.int .i64 x.f7)), (.val (.int .i64 x.f8)), (.val (.int .i64 x.f9))]
theorem toBR_C : ∀ (l : List K_C), toBR (l.map d_C) = l.map b_C
 | [] => rfl
 | x :: l => by simp [toBR, toBL, toB, d_C, b_C, toBR_C l, toBR_si, toBR_R]
theorem fullR_C : ∀ (l : List K_C), fullR (l.map d_C) = true
 | [] => rfl
 | x :: l => by simp [fullR, fullL, full, d_C, fullR_C l, fullR_si, fullR_R]
theorem pureR_C : ∀ (l : List K_C), pureR (l.map d_C) = true
 | [] => rfl
 | x :: l => by simp [pureR, pureL, V.pure, d_C, pureR_C l, pureR_si, pureR_R]
theorem ft_C (a b : Nat) (l : List K_C) : fullR (take a (drop b (l.map d_C))) = true := by rw [← map_drop, ← map_take]; exact fullR_C _
theorem tbt_C (a b : Nat) (l : List K_C) : toBR (take a (drop b (l.map d_C))) = (take a (drop b l)).map b_C := by rw [← map_drop, ← map_take]; exact toBR_C _
theorem tb_C (l : List K_C) : toBR (take (l.map d_C).length (drop 0 (l.map d_C))) = l.map b_C := by rw [List.drop_zero, List.take_length]; exact toBR_C l
theorem lenB_C (l : List K_C) : ∀ r ∈ l.map b_C, r.length = 10 := by intro r h; obtain ⟨x, _, rfl⟩ := List.mem_map.1 h; rfl
theorem lenD_C (l : List K_C) : ∀ r ∈ l.map d_C, r.length = 10 := by intro r h; obtain ⟨x, _, rfl⟩ := List.mem_map.1 h; rfl
def ok_C (x : K_C) : Prop := (length x.f4 * 24 ≤ 140737488351232) ∧ (length x.f5 * 56 ≤ 140737488351232) ∧ (∀ z ∈ x.f5, ok_R z) ∧ (length x.f6 * 24 ≤ 140737488351232)
def os_C (x : K_C) : Prop := (length x.f4 * 24 ≤ 140737488351232) ∧ (∀ z ∈ x.f4, os_si z) ∧ (length x.f5 * 56 ≤ 140737488351232) ∧ (∀ z ∈ x.f5, os_R z) ∧ (length x.f6 * 24 ≤ 140737488351232) ∧ (∀ z ∈ x.f6, os_si z)
theorem os_ok_C (x : K_C) (h : os_C x) : ok_C x := ⟨h.1, h.2.2.1, fun z hz => os_ok_R z (h.2.2.2.1 z hz), h.2.2.2.2.1⟩
theorem gos_C {l : List K_C} (h : ∀ z ∈ l, os_C z) (n : Nat) (d : K_C) (hd : os_C d) : os_C (l.getD n d) := by
 rw [List.getD_eq_getElem?_getD]; cases h2 : l[n]? with
 | none => simpa using hd
 | some x => exact h x (List.mem_of_getElem? h2)
theorem gok_C {l : List K_C} (h : ∀ z ∈ l, ok_C z) (n : Nat) (d : K_C) (hd : ok_C d) : ok_C (l.getD n d) := by
 rw [List.getD_eq_getElem?_getD]; cases h2 : l[n]? with
 | none => simpa using hd
 | some x => exact h x (List.mem_of_getElem? h2)
def b_LsiE (x : (List K_si)) : List B := [(.sl (map b_si x))]
def d_LsiE (x : (List K_si)) : List D := [(.own 2 (map d_si x))]
theorem toBR_LsiE : ∀ (l : List (List K_si)), toBR (l.map d_LsiE) = l.map b_LsiE
 | [] => rfl
 | x :: l => by simp [toBR, toBL, toB, d_LsiE, b_LsiE, toBR_LsiE l, toBR_si]
theorem fullR_LsiE : ∀ (l : List (List K_si)), fullR (l.map d_LsiE) = true
 | [] => rfl
 | x :: l => by simp [fullR, fullL, full, d_LsiE, fullR_LsiE l, fullR_si]
theorem pureR_LsiE : ∀ (l : List (List K_si)), pureR (l.map d_LsiE) = true
 | [] => rfl
 | x :: l => by simp [pureR, pureL, V.pure, d_LsiE, pureR_LsiE l, pureR_si]
theorem ft_LsiE (a b : Nat) (l : List (List K_si)) : fullR (take a (drop b (l.map d_LsiE))) = true := by rw [← map_drop, ← map_take]; exact fullR_LsiE _
theorem tbt_LsiE (a b : Nat) (l : List (List K_si)) : toBR (take a (drop b (l.map d_LsiE))) = (take a (drop b l)).map b_LsiE := by rw [← map_drop, ← map_take]; exact toBR_LsiE _
theorem tb_LsiE (l : List (List K_si)) : toBR (take (l.map d_LsiE).length (drop 0 (l.map d_LsiE))) = l.map b_LsiE := by rw [List.drop_zero, List.take_length]; exact toBR_LsiE l
theorem lenB_LsiE (l : List (List K_si)) : ∀ r ∈ l.map b_LsiE, r.length = 1 := by intro r h; obtain ⟨x, _, rfl⟩ := List.mem_map.1 h; rfl
theorem lenD_LsiE (l : List (List K_si)) : ∀ r ∈ l.map d_LsiE, r.length = 1 := by intro r h; obtain ⟨x, _, rfl⟩ := List.mem_map.1 h; rfl
def ok_LsiE (x : (List K_si)) : Prop := (length x * 24 ≤ 140737488351232)
def os_LsiE (x : (List K_si)) : Prop := (length x * 24 ≤ 140737488351232) ∧ (∀ z ∈ x, os_si z)
theorem os_ok_LsiE (x : (List K_si)) (h : os_LsiE x) : ok_LsiE x := h.1
theorem gos_LsiE {l : List (List K_si)} (h : ∀ z ∈ l, os_LsiE z) (n : Nat) (d : (List K_si)) (hd : os_LsiE d) : os_LsiE (l.getD n d) := by
 rw [List.getD_eq_getElem?_getD]; cases h2 : l[n]? with
 | none => simpa using hd
 | some x => exact h x (List.mem_of_getElem? h2)
theorem gok_LsiE {l : List (List K_si)} (h : ∀ z ∈ l, ok_LsiE z) (n : Nat) (d : (List K_si)) (hd : ok_LsiE d) : ok_LsiE (l.getD n d) := by
 rw [List.getD_eq_getElem?_getD]; cases h2 : l[n]? with
 | none => simpa using hd
 | some x => exact h x (List.mem_of_getElem? h2)
def b_Q (x : (List K_R)) : List B := [(.sl (map b_R x))]
def d_Q (x : (List K_R)) : List D := [(.own 5 (map d_R x))]
theorem toBR_Q : ∀ (l : List (List K_R)), toBR (l.map d_Q) = l.map b_Q
 | [] => rfl
 | x :: l => by simp [toBR, toBL, toB, d_Q, b_Q, toBR_Q l, toBR_R]
theorem fullR_Q : ∀ (l : List (List K_R)), fullR (l.map d_Q) = true
 | [] => rfl
 | x :: l => by simp [fullR, fullL, full, d_Q, fullR_Q l, fullR_R]
theorem pureR_Q : ∀ (l : List (List K_R)), pureR (l.map d_Q) = true
 | [] => rfl
 | x :: l => by simp [pureR, pureL, V.pure, d_Q, pureR_Q l, pureR_R]
theorem ft_Q (a b : Nat) (l : List (List K_R)) : fullR (take a (drop b (l.map d_Q))) = true := by rw [← map_drop, ← map_take]; exact fullR_Q _
theorem tbt_Q (a b : Nat) (l : List (List K_R)) : toBR (take a (drop b (l.map d_Q))) = (take a (drop b l)).map b_Q := by rw [← map_drop, ← map_take]; exact toBR_Q _
theorem tb_Q (l : List (List K_R)) : toBR (take (l.map d_Q).length (drop 0 (l.map d_Q))) = l.map b_Q := by rw [List.drop_zero, List.take_length]; exact toBR_Q l
theorem lenB_Q (l : List (List K_R)) : ∀ r ∈ l.map b_Q, r.length = 1 := by intro r h; obtain ⟨x, _, rfl⟩ := List.mem_map.1 h; rfl
theorem lenD_Q (l : List (List K_R)) : ∀ r ∈ l.map d_Q, r.length = 1 := by intro r h; obtain ⟨x, _, rfl⟩ := List.mem_map.1 h; rfl
def ok_Q (x : (List K_R)) : Prop := (length x * 56 ≤ 140737488351232) ∧ (∀ z ∈ x, ok_R z)
def os_Q (x : (List K_R)) : Prop := (length x * 56 ≤ 140737488351232) ∧ (∀ z ∈ x, os_R z)
theorem os_ok_Q (x : (List K_R)) (h : os_Q x) : ok_Q x := ⟨h.1, fun z hz => os_ok_R z (h.2 z hz)⟩
theorem gos_Q {l : List (List K_R)} (h : ∀ z ∈ l, os_Q z) (n : Nat) (d : (List K_R)) (hd : os_Q d) : os_Q (l.getD n d) := by
 rw [List.getD_eq_getElem?_getD]; cases h2 : l[n]? with
 | none => simpa using hd
 | some x => exact h x (List.mem_of_getElem? h2)
theorem gok_Q {l : List (List K_R)} (h : ∀ z ∈ l, ok_Q z) (n : Nat) (d : (List K_R)) (hd : ok_Q d) : ok_Q (l.getD n d) := by
 rw [List.getD_eq_getElem?_getD]; cases h2 : l[n]? with
 | none => simpa using hd
 | some x => exact h x (List.mem_of_getElem? h2)
def b_s (x : ByteArray) : List B := [(.val (.string x))]
def d_s (x : ByteArray) : List D := [(.val (.string x))]
theorem toBR_s : ∀ (l : List ByteArray), toBR (l.map d_s) = l.map b_s
 | [] => rfl
 | x :: l => by simp [toBR, toBL, toB, d_s, b_s, toBR_s l]
theorem fullR_s : ∀ (l : List ByteArray), fullR (l.map d_s) = true
 | [] => rfl
 | x :: l => by simp [fullR, fullL, full, d_s, fullR_s l]
theorem pureR_s : ∀ (l : List ByteArray), pureR (l.map d_s) = true
 | [] => rfl
 | x :: l => by simp [pureR, pureL, V.pure, d_s, pureR_s l]
theorem ft_s (a b : Nat) (l : List ByteArray) : fullR (take a (drop b (l.map d_s))) = true := by rw [← map_drop, ← map_take]; exact fullR_s _
theorem tbt_s (a b : Nat) (l : List ByteArray) : toBR (take a (drop b (l.map d_s))) = (take a (drop b l)).map b_s := by rw [← map_drop, ← map_take]; exact toBR_s _
theorem tb_s (l : List ByteArray) : toBR (take (l.map d_s).length (drop 0 (l.map d_s))) = l.map b_s := by rw [List.drop_zero, List.take_length]; exact toBR_s l
theorem lenB_s (l : List ByteArray) : ∀ r ∈ l.map b_s, r.length = 1 := by intro r h; obtain ⟨x, _, rfl⟩ := List.mem_map.1 h; rfl
theorem lenD_s (l : List ByteArray) : ∀ r ∈ l.map d_s, r.length = 1 := by intro r h; obtain ⟨x, _, rfl⟩ := List.mem_map.1 h; rfl
def os_s (x : ByteArray) : Prop := (ByteArray.size x ≤ 140737488351232)
theorem gos_s {l : List ByteArray} (h : ∀ z ∈ l, os_s z) (n : Nat) (d : ByteArray) (hd : os_s d) : os_s (l.getD n d) := by
 rw [List.getD_eq_getElem?_getD]; cases h2 : l[n]? with
 | none => simpa using hd
 | some x => exact h x (List.mem_of_getElem? h2)
theorem fromBR_s (n : Nat) (l : List ByteArray) : fromBR n (l.map b_s) = l.map d_s := by simp [fromBR, b_s, d_s, fromB, Function.comp_def]
theorem copy_s (l : List ByteArray) : (l.map d_s).all (fun x => x.all copyable) = true := by simp [d_s, copyable, Function.comp_def]
theorem ct_s (a b : Nat) (l : List ByteArray) : ((take a (drop b (l.map d_s))).all fun x => x.all copyable) = true := by rw [← map_drop, ← map_take]; exact copy_s _
def b_LiE (x : (List Int)) : List B := [(.sl (map b_i x))]
def d_LiE (x : (List Int)) : List D := [(.own 1 (map d_i x))]
theorem toBR_LiE : ∀ (l : List (List Int)), toBR (l.map d_LiE) = l.map b_LiE
 | [] => rfl
 | x :: l => by simp [toBR, toBL, toB, d_LiE, b_LiE, toBR_LiE l, toBR_i]
theorem fullR_LiE : ∀ (l : List (List Int)), fullR (l.map d_LiE) = true
 | [] => rfl
 | x :: l => by simp [fullR, fullL, full, d_LiE, fullR_LiE l, fullR_i]
theorem pureR_LiE : ∀ (l : List (List Int)), pureR (l.map d_LiE) = true
 | [] => rfl
 | x :: l => by simp [pureR, pureL, V.pure, d_LiE, pureR_LiE l, pureR_i]
theorem ft_LiE (a b : Nat) (l : List (List Int)) : fullR (take a (drop b (l.map d_LiE))) = true := by rw [← map_drop, ← map_take]; exact fullR_LiE _
theorem tbt_LiE (a b : Nat) (l : List (List Int)) : toBR (take a (drop b (l.map d_LiE))) = (take a (drop b l)).map b_LiE := by rw [← map_drop, ← map_take]; exact toBR_LiE _
theorem tb_LiE (l : List (List Int)) : toBR (take (l.map d_LiE).length (drop 0 (l.map d_LiE))) = l.map b_LiE := by rw [List.drop_zero, List.take_length]; exact toBR_LiE l
theorem lenB_LiE (l : List (List Int)) : ∀ r ∈ l.map b_LiE, r.length = 1 := by intro r h; obtain ⟨x, _, rfl⟩ := List.mem_map.1 h; rfl
theorem lenD_LiE (l : List (List Int)) : ∀ r ∈ l.map d_LiE, r.length = 1 := by intro r h; obtain ⟨x, _, rfl⟩ := List.mem_map.1 h; rfl
def ok_LiE (x : (List Int)) : Prop := (length x * 8 ≤ 140737488351232)
def os_LiE (x : (List Int)) : Prop := (length x * 8 ≤ 140737488351232)
theorem os_ok_LiE (x : (List Int)) (h : os_LiE x) : ok_LiE x := h
theorem gos_LiE {l : List (List Int)} (h : ∀ z ∈ l, os_LiE z) (n : Nat) (d : (List Int)) (hd : os_LiE d) : os_LiE (l.getD n d) := by
 rw [List.getD_eq_getElem?_getD]; cases h2 : l[n]? with
 | none => simpa using hd
 | some x => exact h x (List.mem_of_getElem? h2)
theorem gok_LiE {l : List (List Int)} (h : ∀ z ∈ l, ok_LiE z) (n : Nat) (d : (List Int)) (hd : ok_LiE d) : ok_LiE (l.getD n d) := by
 rw [List.getD_eq_getElem?_getD]; cases h2 : l[n]? with
 | none => simpa using hd
 | some x => exact h x (List.mem_of_getElem? h2)
def b_y (x : Int) : List B := [(.val (.int .u8 x))]
def d_y (x : Int) : List D := [(.val (.int .u8 x))]
theorem toBR_y : ∀ (l : List Int), toBR (l.map d_y) = l.map b_y
 | [] => rfl
 | x :: l => by simp [toBR, toBL, toB, d_y, b_y, toBR_y l]
theorem fullR_y : ∀ (l : List Int), fullR (l.map d_y) = true
 | [] => rfl
 | x :: l => by simp [fullR, fullL, full, d_y, fullR_y l]
theorem pureR_y : ∀ (l : List Int), pureR (l.map d_y) = true
 | [] => rfl
 | x :: l => by simp [pureR, pureL, V.pure, d_y, pureR_y l]
theorem ft_y (a b : Nat) (l : List Int) : fullR (take a (drop b (l.map d_y))) = true := by rw [← map_drop, ← map_take]; exact fullR_y _
theorem tbt_y (a b : Nat) (l : List Int) : toBR (take a (drop b (l.map d_y))) = (take a (drop b l)).map b_y := by rw [← map_drop, ← map_take]; exact toBR_y _
theorem tb_y (l : List Int) : toBR (take (l.map d_y).length (drop 0 (l.map d_y))) = l.map b_y := by rw [List.drop_zero, List.take_length]; exact toBR_y l
theorem lenB_y (l : List Int) : ∀ r ∈ l.map b_y, r.length = 1 := by intro r h; obtain ⟨x, _, rfl⟩ := List.mem_map.1 h; rfl
theorem lenD_y (l : List Int) : ∀ r ∈ l.map d_y, r.length = 1 := by intro r h; obtain ⟨x, _, rfl⟩ := List.mem_map.1 h; rfl
theorem fromBR_y (n : Nat) (l : List Int) : fromBR n (l.map b_y) = l.map d_y := by simp [fromBR, b_y, d_y, fromB, Function.comp_def]
theorem copy_y (l : List Int) : (l.map d_y).all (fun x => x.all copyable) = true := by simp [d_y, copyable, Function.comp_def]
theorem ct_y (a b : Nat) (l : List Int) : ((take a (drop b (l.map d_y))).all fun x => x.all copyable) = true := by rw [← map_drop, ← map_take]; exact copy_y _
def strInts (s : ByteArray) : List Int := s.data.toList.map fun b => (b.toNat : Int)
theorem ly_y (a : Int) (l : List Int) : [D.val (.int .u8 a)] :: map d_y l = map d_y (a :: l) := rfl
theorem ly0_y (a : Int) : [[D.val (.int .u8 a)]] = map d_y [a] := rfl
theorem strInts_len (s : ByteArray) : (strInts s).length = s.size := by simp [strInts]
theorem byteRows_len (s : ByteArray) : (byteRows s).length = s.size := by simp [byteRows]
theorem byteRows_eq (s : ByteArray) : byteRows s = (strInts s).map d_y := by simp [byteRows, strInts, d_y, Function.comp_def]
theorem tsi (s : ByteArray) : take (ByteArray.size s) (map d_y (strInts s)) = map d_y (strInts s) := by rw [take_of_length_le (by simp [strInts_len])]
theorem tbr (s : ByteArray) : take (ByteArray.size s) (byteRows s) = map d_y (strInts s) := by rw [byteRows_eq, tsi]
theorem ints_y : ∀ (l : List Int), rowsInts .u8 (l.map d_y) = some l
 | [] => rfl
 | x :: l => by simp only [List.map_cons, d_y, rowsInts, ints_y l]; rfl
attribute [local simp] toBR_si fullR_si pureR_si lenB_si lenD_si fromBR_si copy_si toBR_R fullR_R pureR_R lenB_R lenD_R toBR_B fullR_B pureR_B lenB_B lenD_B toBR_i fullR_i pureR_i lenB_i lenD_i fromBR_i copy_i toBR_b fullR_b pureR_b lenB_b lenD_b fromBR_b copy_b toBR_C fullR_C pureR_C lenB_C lenD_C toBR_LsiE fullR_LsiE pureR_LsiE lenB_LsiE lenD_LsiE toBR_Q fullR_Q pureR_Q lenB_Q lenD_Q toBR_s fullR_s pureR_s lenB_s lenD_s fromBR_s copy_s toBR_LiE fullR_LiE pureR_LiE lenB_LiE lenD_LiE strInts_len byteRows_len toBR_y fullR_y pureR_y lenB_y lenD_y fromBR_y copy_y
def m22 (a0 : K_si) (a1 : Int) : Int :=
 if (decide ((w64 (a1 - (ByteArray.size a0.f0 : Int))) < 0)) = true then (-1) else
 (w64 (a1 - (ByteArray.size a0.f0 : Int)))
theorem e22 {a0 : K_si} {a1 : Int} : Ev F X (.call 22 [(.agg [(.val (.string a0.f0)), (.val (.int .i64 a0.f1))]), (.one (.val (.int .i64 a1)))] [] [] [(.one (.val (.int .i64 (m22 a0 a1))))]) := by
 unfold m22
 by_cases h0 : (decide ((w64 (a1 - (ByteArray.size a0.f0 : Int))) < 0)) = true
 ·try simp only [if_pos h0]
  exact cp (by kernel_rfl) (.f h0 (.y 20 .nil))
 ·try simp only [if_neg h0]
  exact cp (by kernel_rfl) (.g h0 (.z 20 .nil))
inductive O66_0 where
 | k0 (w0 : Int) (w1 : Int) (w2 : Bool)
 | k1
def r66_0 (a0 : (List K_si)) : List K_si → Int → Int → O66_0
 | x0 :: y0, i, v0 =>
  if (decide ((m22 x0 v0) < 0)) = true then (O66_0.k1) else
  (r66_0 a0 y0 (i + 1) (m22 x0 v0))
 | [], i, v0 => (O66_0.k0 v0 i (decide (i < ((length (map b_si a0)) : Int))))
def h66_0 (l0_0 : Nat) (a0 : (List K_si)) (a1 : Int) (i : Int) (v0 : Int) : St := ⟨[(0, (.one (.bor l0_0 (map b_si a0)))), (1, (.one (.val (.int .i64 v0)))), (5, (.one (.val (.int .i64 i))))], []⟩
def ex66_0 : O66_0 → VX.Exit
 | .k0 _ _ _ => (.exit 0)
 | .k1 => .ret
def fin66_0 (l0_0 : Nat) (a0 : (List K_si)) (a1 : Int) : O66_0 → St
 | .k0 w0 w1 w2 => ⟨[(0, (.one (.bor l0_0 (map b_si a0)))), (1, (.one (.val (.int .i64 w0)))), (5, (.one (.val (.int .i64 w1)))), (15, (.one (.val (.bool w2))))], []⟩
 | .k1 => ⟨[(4, (.one (.val (.int .i64 (-1)))))], []⟩
theorem t66_0 {l0_0 : Nat} {a0 : (List K_si)} {a1 : Int} (hy0 : length a0 * 24 ≤ 140737488351232) : ∀ (y0 : List K_si) (p : List K_si) (v0 : Int), p ++ y0 = a0 → Ev F X (.code l66_0 (h66_0 l0_0 a0 a1 (length p : Int) v0) (ex66_0 (r66_0 a0 y0 (length p : Int) v0)) (fin66_0 l0_0 a0 a1 (r66_0 a0 y0 (length p : Int) v0)))
 | [], p, v0, hp0 => by
  have hc : ¬ (decide ((length p : Int) < ((length (map b_si a0)) : Int))) = true := by
   rw [← hp0]; simp only [length_map, length_set, length_append, length_replicate, length_cons, length_nil, decide_eq_true_eq]; omega
  have st := ch b66_0 [(8, .b false)] (h66_0 l0_0 a0 a1 (length p : Int) v0) (fin66_0 l0_0 a0 a1 (.k0 v0 (length p : Int) (decide ((length p : Int) < ((length (map b_si a0)) : Int))))) (.exit 0) 9 [(decide ((length p : Int) < ((length (map b_si a0)) : Int))) = false] (by kernel_rfl) ⟨(nt hc), trivial⟩
  exact .loopX st (show ((.exit 0) : VX.Exit) ≠ .normal from by simp)
 | x0 :: y0, p, v0, hp0 => by
  have hc : (decide ((length p : Int) < ((length (map b_si a0)) : Int))) = true := lt1 hp0
  have Hx0 : (a0)[Int.toNat (length p : Int)]? = some x0 := by
   rw [← hp0, Int.toNat_natCast]; simp
  have hlen : length (a0) = length p + length y0 + 1 := by rw [← hp0]; simp; omega
  have hw : w64 ((length p : Int) + 1) = (length p : Int) + 1 := wrap64 (by omega)
  simp only [r66_0]
  by_cases h_1 : (decide ((m22 x0 v0) < 0)) = true
  ·try simp only [if_pos h_1]
   have st := ch b66_0 [(8, .b true), (14, .row (b_si x0)), (20, .ret [] [(.oi (m22 x0 v0))] [] []), (27, .b true)] (h66_0 l0_0 a0 a1 (length p : Int) v0) (fin66_0 l0_0 a0 a1 (.k1)) .ret 30 [(decide ((length p : Int) < ((length (map b_si a0)) : Int))) = true, 0 ≤ (length p : Int), (map b_si a0)[(Int.toNat (length p : Int))]? = some (b_si x0), Ev F X (.call 22 [(.agg [(.val (.string x0.f0)), (.i x0.f1)]), (.oi v0)] [] [] [(.oi (m22 x0 v0))]), (decide ((m22 x0 v0) < 0)) = true] (by kernel_rfl) ⟨hc, (by omega), (by rw [getElem?_map, Hx0]; rfl), (e22 (a0 := x0) (a1 := v0)), h_1, trivial⟩
   exact .loopX st (show (.ret : VX.Exit) ≠ .normal from by simp)
  ·try simp only [if_neg h_1]
   have st := ch b66_0 [(8, .b true), (14, .row (b_si x0)), (20, .ret [] [(.oi (m22 x0 v0))] [] []), (27, .b false)] (h66_0 l0_0 a0 a1 (length p : Int) v0) ⟨[(0, (.one (.bor l0_0 (map b_si a0)))), (1, (.oi (m22 x0 v0))), (5, (.oi (w64 ((length p : Int) + 1))))], []⟩ .normal 34 [(decide ((length p : Int) < ((length (map b_si a0)) : Int))) = true, 0 ≤ (length p : Int), (map b_si a0)[(Int.toNat (length p : Int))]? = some (b_si x0), Ev F X (.call 22 [(.agg [(.val (.string x0.f0)), (.i x0.f1)]), (.oi v0)] [] [] [(.oi (m22 x0 v0))]), (decide ((m22 x0 v0) < 0)) = false, True] (by kernel_rfl) ⟨hc, (by omega), (by rw [getElem?_map, Hx0]; rfl), (e22 (a0 := x0) (a1 := v0)), (nt h_1), trivial, trivial⟩
   have ih := t66_0 (l0_0 := l0_0) (a0 := a0) (a1 := a1) hy0 y0 (p ++ [x0]) (m22 x0 v0) (by rw [append_assoc]; exact hp0)
   rw [show ((p ++ [x0]).length : Int) = (p.length : Int) + 1 from by simp] at ih
   replace st := to_ (s' := h66_0 l0_0 a0 a1 ((length p : Int) + 1) (m22 x0 v0)) st (by unfold h66_0; simp only [hw]; done)
   exact .loopN st ih
def m66 (a0 : (List K_si)) (a1 : Int) : Int :=
 if (decide ((w64 (a1 - ((length (map b_si a0)) : Int))) < 0)) = true then (-1) else
 (match r66_0 a0 a0 0 (w64 (a1 - ((length (map b_si a0)) : Int))) with | .k0 w0_1 w1_1 w2_1 => w0_1 | .k1 => (-1))
theorem e66 {l0_0 : Nat} {a0 : (List K_si)} {a1 : Int} (hy0 : length a0 * 24 ≤ 140737488351232) : Ev F X (.call 66 [(.one (.bor l0_0 (map b_si a0))), (.one (.val (.int .i64 a1)))] [] [] [(.one (.val (.int .i64 (m66 a0 a1))))]) := by
 unfold m66
 by_cases h0 : (decide ((w64 (a1 - ((length (map b_si a0)) : Int))) < 0)) = true
 ·try simp only [if_pos h0]
  exact cp (by kernel_rfl) (.f h0 (.y 16 .nil))
 ·try simp only [if_neg h0]
  cases h1 : r66_0 a0 a0 0 (w64 (a1 - ((length (map b_si a0)) : Int))) with
  | k0 w0_1 w1_1 w2_1 =>
   try dsimp only
   have f1 : (⟨[(0, (.one (.bor l0_0 (map b_si a0)))), (1, (.oi (w64 (a1 - ((length (map b_si a0)) : Int))))), (5, (.oi 0))], []⟩ : St) = h66_0 l0_0 a0 a1 0 (w64 (a1 - ((length (map b_si a0)) : Int))) := (by rfl)
   have f2 : Ev F X (.code l66_0 (h66_0 l0_0 a0 a1 0 (w64 (a1 - ((length (map b_si a0)) : Int)))) (.exit 0) ⟨[(0, (.one (.bor l0_0 (map b_si a0)))), (1, (.oi w0_1)), (5, (.oi w1_1)), (15, (.one (.val (.bool w2_1))))], []⟩) := (by have t : Ev F X (.code l66_0 (h66_0 l0_0 a0 a1 0 (w64 (a1 - ((length (map b_si a0)) : Int)))) (ex66_0 (r66_0 a0 a0 0 (w64 (a1 - ((length (map b_si a0)) : Int))))) (fin66_0 l0_0 a0 a1 (r66_0 a0 a0 0 (w64 (a1 - ((length (map b_si a0)) : Int)))))) := t66_0 (l0_0 := l0_0) (a0 := a0) (a1 := a1) (by assumption) a0 [] (w64 (a1 - ((length (map b_si a0)) : Int))) rfl; rw [h1] at t; exact t)
   exact cp (by kernel_rfl) (.g h0 (.f f1 (.f f2 (.z 16 (.h 19 (.loop (h66_0 l0_0 a0 a1 0 (w64 (a1 - ((length (map b_si a0)) : Int)))) (.exit 0) ⟨[(0, (.one (.bor l0_0 (map b_si a0)))), (1, (.oi w0_1)), (5, (.oi w1_1)), (15, (.one (.val (.bool w2_1))))], []⟩) .nil)))))
  | k1 =>
   try dsimp only
   have f1 : (⟨[(0, (.one (.bor l0_0 (map b_si a0)))), (1, (.oi (w64 (a1 - ((length (map b_si a0)) : Int))))), (5, (.oi 0))], []⟩ : St) = h66_0 l0_0 a0 a1 0 (w64 (a1 - ((length (map b_si a0)) : Int))) := (by rfl)
   have f2 : Ev F X (.code l66_0 (h66_0 l0_0 a0 a1 0 (w64 (a1 - ((length (map b_si a0)) : Int)))) .ret ⟨[(4, (.oi (-1)))], []⟩) := (by have t : Ev F X (.code l66_0 (h66_0 l0_0 a0 a1 0 (w64 (a1 - ((length (map b_si a0)) : Int)))) (ex66_0 (r66_0 a0 a0 0 (w64 (a1 - ((length (map b_si a0)) : Int))))) (fin66_0 l0_0 a0 a1 (r66_0 a0 a0 0 (w64 (a1 - ((length (map b_si a0)) : Int)))))) := t66_0 (l0_0 := l0_0) (a0 := a0) (a1 := a1) (by assumption) a0 [] (w64 (a1 - ((length (map b_si a0)) : Int))) rfl; rw [h1] at t; exact t)
   exact cp (by kernel_rfl) (.g h0 (.f f1 (.f f2 (.z 16 (.h 19 (.loop (h66_0 l0_0 a0 a1 0 (w64 (a1 - ((length (map b_si a0)) : Int)))) .ret ⟨[(4, (.oi (-1)))], []⟩) .nil)))))
def m130 (a0 : K_R) (a1 : Int) : Int :=
 if (decide ((m66 a0.f3 a1) < 0)) = true then (-1) else
 (m66 a0.f3 a1)
theorem e130 {l0_3 : Nat} {a0 : K_R} {a1 : Int} (hy0 : length a0.f3 * 24 ≤ 140737488351232) : Ev F X (.call 130 [(.agg [(.val (.int .i64 a0.f0)), (.val (.int .i64 a0.f1)), (.val (.int .i64 a0.f2)), (.bor l0_3 (map b_si a0.f3)), (.val (.int .i64 a0.f4))]), (.one (.val (.int .i64 a1)))] [] [] [(.one (.val (.int .i64 (m130 a0 a1))))]) := by
 unfold m130
 have f0 := e66 (l0_0 := l0_3 + 1) (a0 := a0.f3) (a1 := a1) (by with_reducible assumption)
 by_cases h0 : (decide ((m66 a0.f3 a1) < 0)) = true
 ·try simp only [if_pos h0]
  exact cp (by kernel_rfl) (.r 11 [] [] f0 (.f h0 (.y 18 .nil)))
 ·try simp only [if_neg h0]
  exact cp (by kernel_rfl) (.r 11 [] [] f0 (.g h0 (.z 18 .nil)))
inductive O67_0 where
 | k0 (w0 : Int) (w1 : Int) (w2 : Bool)
 | k1
def r67_0 (a0 : (List K_R)) : List K_R → Int → Int → O67_0
 | x0 :: y0, i, v0 =>
  if (decide ((m130 x0 v0) < 0)) = true then (O67_0.k1) else
  (r67_0 a0 y0 (i + 1) (m130 x0 v0))
 | [], i, v0 => (O67_0.k0 v0 i (decide (i < ((length (map b_R a0)) : Int))))
def h67_0 (l0_0 : Nat) (a0 : (List K_R)) (a1 : Int) (i : Int) (v0 : Int) : St := ⟨[(0, (.one (.bor l0_0 (map b_R a0)))), (1, (.one (.val (.int .i64 v0)))), (5, (.one (.val (.int .i64 i))))], []⟩
def ex67_0 : O67_0 → VX.Exit
 | .k0 _ _ _ => (.exit 0)
 | .k1 => .ret
def fin67_0 (l0_0 : Nat) (a0 : (List K_R)) (a1 : Int) : O67_0 → St
 | .k0 w0 w1 w2 => ⟨[(0, (.one (.bor l0_0 (map b_R a0)))), (1, (.one (.val (.int .i64 w0)))), (5, (.one (.val (.int .i64 w1)))), (15, (.one (.val (.bool w2))))], []⟩
 | .k1 => ⟨[(4, (.one (.val (.int .i64 (-1)))))], []⟩
theorem t67_0 {l0_0 : Nat} {a0 : (List K_R)} {a1 : Int} (hy0 : length a0 * 56 ≤ 140737488351232) (hy1 : ∀ z ∈ a0, ok_R z) : ∀ (y0 : List K_R) (p : List K_R) (v0 : Int), p ++ y0 = a0 → Ev F X (.code l67_0 (h67_0 l0_0 a0 a1 (length p : Int) v0) (ex67_0 (r67_0 a0 y0 (length p : Int) v0)) (fin67_0 l0_0 a0 a1 (r67_0 a0 y0 (length p : Int) v0)))
 | [], p, v0, hp0 => by
  have hc : ¬ (decide ((length p : Int) < ((length (map b_R a0)) : Int))) = true := by
   rw [← hp0]; simp only [length_map, length_set, length_append, length_replicate, length_cons, length_nil, decide_eq_true_eq]; omega
  have st := ch b67_0 [(8, .b false)] (h67_0 l0_0 a0 a1 (length p : Int) v0) (fin67_0 l0_0 a0 a1 (.k0 v0 (length p : Int) (decide ((length p : Int) < ((length (map b_R a0)) : Int))))) (.exit 0) 9 [(decide ((length p : Int) < ((length (map b_R a0)) : Int))) = false] (by kernel_rfl) ⟨(nt hc), trivial⟩
  exact .loopX st (show ((.exit 0) : VX.Exit) ≠ .normal from by simp)
 | x0 :: y0, p, v0, hp0 => by
  have hc : (decide ((length p : Int) < ((length (map b_R a0)) : Int))) = true := lt1 hp0
  have Hx0 : (a0)[Int.toNat (length p : Int)]? = some x0 := by
   rw [← hp0, Int.toNat_natCast]; simp
  have Mx0_0 := hy1 x0 (List.mem_of_getElem? Hx0)
  have hlen : length (a0) = length p + length y0 + 1 := by rw [← hp0]; simp; omega
  have hw : w64 ((length p : Int) + 1) = (length p : Int) + 1 := wrap64 (by omega)
  simp only [r67_0]
  by_cases h_1 : (decide ((m130 x0 v0) < 0)) = true
  ·try simp only [if_pos h_1]
   have st := ch b67_0 [(8, .b true), (14, .row (b_R x0)), (20, .ret [] [(.oi (m130 x0 v0))] [] []), (27, .b true)] (h67_0 l0_0 a0 a1 (length p : Int) v0) (fin67_0 l0_0 a0 a1 (.k1)) .ret 30 [(decide ((length p : Int) < ((length (map b_R a0)) : Int))) = true, 0 ≤ (length p : Int), (map b_R a0)[(Int.toNat (length p : Int))]? = some (b_R x0), Ev F X (.call 130 [(.agg [(.i x0.f0), (.i x0.f1), (.i x0.f2), (.bor (l0_0 + 1) (map b_si x0.f3)), (.i x0.f4)]), (.oi v0)] [] [] [(.oi (m130 x0 v0))]), (decide ((m130 x0 v0) < 0)) = true] (by kernel_rfl) ⟨hc, (by omega), (by rw [getElem?_map, Hx0]; rfl), (e130 (a0 := x0) (a1 := v0) (by assumption)), h_1, trivial⟩
   exact .loopX st (show (.ret : VX.Exit) ≠ .normal from by simp)
  ·try simp only [if_neg h_1]
   have st := ch b67_0 [(8, .b true), (14, .row (b_R x0)), (20, .ret [] [(.oi (m130 x0 v0))] [] []), (27, .b false)] (h67_0 l0_0 a0 a1 (length p : Int) v0) ⟨[(0, (.one (.bor l0_0 (map b_R a0)))), (1, (.oi (m130 x0 v0))), (5, (.oi (w64 ((length p : Int) + 1))))], []⟩ .normal 34 [(decide ((length p : Int) < ((length (map b_R a0)) : Int))) = true, 0 ≤ (length p : Int), (map b_R a0)[(Int.toNat (length p : Int))]? = some (b_R x0), Ev F X (.call 130 [(.agg [(.i x0.f0), (.i x0.f1), (.i x0.f2), (.bor (l0_0 + 1) (map b_si x0.f3)), (.i x0.f4)]), (.oi v0)] [] [] [(.oi (m130 x0 v0))]), (decide ((m130 x0 v0) < 0)) = false, True] (by kernel_rfl) ⟨hc, (by omega), (by rw [getElem?_map, Hx0]; rfl), (e130 (a0 := x0) (a1 := v0) (by assumption)), (nt h_1), trivial, trivial⟩
   have ih := t67_0 (l0_0 := l0_0) (a0 := a0) (a1 := a1) hy0 hy1 y0 (p ++ [x0]) (m130 x0 v0) (by rw [append_assoc]; exact hp0)
   rw [show ((p ++ [x0]).length : Int) = (p.length : Int) + 1 from by simp] at ih
   replace st := to_ (s' := h67_0 l0_0 a0 a1 ((length p : Int) + 1) (m130 x0 v0)) st (by unfold h67_0; simp only [hw]; done)
   exact .loopN st ih
def m67 (a0 : (List K_R)) (a1 : Int) : Int :=
 if (decide ((w64 (a1 - ((length (map b_R a0)) : Int))) < 0)) = true then (-1) else
 (match r67_0 a0 a0 0 (w64 (a1 - ((length (map b_R a0)) : Int))) with | .k0 w0_1 w1_1 w2_1 => w0_1 | .k1 => (-1))
theorem e67 {l0_0 : Nat} {a0 : (List K_R)} {a1 : Int} (hy0 : length a0 * 56 ≤ 140737488351232) (hy1 : ∀ z ∈ a0, ok_R z) : Ev F X (.call 67 [(.one (.bor l0_0 (map b_R a0))), (.one (.val (.int .i64 a1)))] [] [] [(.one (.val (.int .i64 (m67 a0 a1))))]) := by
 unfold m67
 by_cases h0 : (decide ((w64 (a1 - ((length (map b_R a0)) : Int))) < 0)) = true
 ·try simp only [if_pos h0]
  exact cp (by kernel_rfl) (.f h0 (.y 16 .nil))
 ·try simp only [if_neg h0]
  cases h1 : r67_0 a0 a0 0 (w64 (a1 - ((length (map b_R a0)) : Int))) with
  | k0 w0_1 w1_1 w2_1 =>
   try dsimp only
   have f1 : (⟨[(0, (.one (.bor l0_0 (map b_R a0)))), (1, (.oi (w64 (a1 - ((length (map b_R a0)) : Int))))), (5, (.oi 0))], []⟩ : St) = h67_0 l0_0 a0 a1 0 (w64 (a1 - ((length (map b_R a0)) : Int))) := (by rfl)
   have f2 : Ev F X (.code l67_0 (h67_0 l0_0 a0 a1 0 (w64 (a1 - ((length (map b_R a0)) : Int)))) (.exit 0) ⟨[(0, (.one (.bor l0_0 (map b_R a0)))), (1, (.oi w0_1)), (5, (.oi w1_1)), (15, (.one (.val (.bool w2_1))))], []⟩) := (by have t : Ev F X (.code l67_0 (h67_0 l0_0 a0 a1 0 (w64 (a1 - ((length (map b_R a0)) : Int)))) (ex67_0 (r67_0 a0 a0 0 (w64 (a1 - ((length (map b_R a0)) : Int))))) (fin67_0 l0_0 a0 a1 (r67_0 a0 a0 0 (w64 (a1 - ((length (map b_R a0)) : Int)))))) := t67_0 (l0_0 := l0_0) (a0 := a0) (a1 := a1) (by assumption) (by assumption) a0 [] (w64 (a1 - ((length (map b_R a0)) : Int))) rfl; rw [h1] at t; exact t)
   exact cp (by kernel_rfl) (.g h0 (.f f1 (.f f2 (.z 16 (.h 19 (.loop (h67_0 l0_0 a0 a1 0 (w64 (a1 - ((length (map b_R a0)) : Int)))) (.exit 0) ⟨[(0, (.one (.bor l0_0 (map b_R a0)))), (1, (.oi w0_1)), (5, (.oi w1_1)), (15, (.one (.val (.bool w2_1))))], []⟩) .nil)))))
  | k1 =>
   try dsimp only
   have f1 : (⟨[(0, (.one (.bor l0_0 (map b_R a0)))), (1, (.oi (w64 (a1 - ((length (map b_R a0)) : Int))))), (5, (.oi 0))], []⟩ : St) = h67_0 l0_0 a0 a1 0 (w64 (a1 - ((length (map b_R a0)) : Int))) := (by rfl)
   have f2 : Ev F X (.code l67_0 (h67_0 l0_0 a0 a1 0 (w64 (a1 - ((length (map b_R a0)) : Int)))) .ret ⟨[(4, (.oi (-1)))], []⟩) := (by have t : Ev F X (.code l67_0 (h67_0 l0_0 a0 a1 0 (w64 (a1 - ((length (map b_R a0)) : Int)))) (ex67_0 (r67_0 a0 a0 0 (w64 (a1 - ((length (map b_R a0)) : Int))))) (fin67_0 l0_0 a0 a1 (r67_0 a0 a0 0 (w64 (a1 - ((length (map b_R a0)) : Int)))))) := t67_0 (l0_0 := l0_0) (a0 := a0) (a1 := a1) (by assumption) (by assumption) a0 [] (w64 (a1 - ((length (map b_R a0)) : Int))) rfl; rw [h1] at t; exact t)
   exact cp (by kernel_rfl) (.g h0 (.f f1 (.f f2 (.z 16 (.h 19 (.loop (h67_0 l0_0 a0 a1 0 (w64 (a1 - ((length (map b_R a0)) : Int)))) .ret ⟨[(4, (.oi (-1)))], []⟩) .nil)))))
def m14 (a0 : K_B) (a1 : Int) : Int :=
 if (decide ((m66 a0.f2 a1) < 0)) = true then (-1) else
 if (decide ((m67 a0.f3 (m66 a0.f2 a1)) < 0)) = true then (-1) else
  if (decide ((m66 a0.f4 (m67 a0.f3 (m66 a0.f2 a1))) < 0)) = true then (-1) else
   (m66 a0.f4 (m67 a0.f3 (m66 a0.f2 a1)))
theorem e14 {l0_2 : Nat} {l0_3 : Nat} {l0_4 : Nat} {a0 : K_B} {a1 : Int} (hy0 : length a0.f2 * 24 ≤ 140737488351232) (hy1 : length a0.f3 * 56 ≤ 140737488351232) (hy2 : ∀ z ∈ a0.f3, ok_R z) (hy3 : length a0.f4 * 24 ≤ 140737488351232) : Ev F X (.call 14 [(.agg [(.val (.int .i64 a0.f0)), (.val (.int .i64 a0.f1)), (.bor l0_2 (map b_si a0.f2)), (.bor l0_3 (map b_R a0.f3)), (.bor l0_4 (map b_si a0.f4)), (.val (.int .i64 a0.f5)), (.val (.int .i64 a0.f6)), (.val (.int .i64 a0.f7))]), (.one (.val (.int .i64 a1)))] [] [] [(.one (.val (.int .i64 (m14 a0 a1))))]) := by
 unfold m14
 have f0 := e66 (l0_0 := l0_2 + 1) (a0 := a0.f2) (a1 := a1) (by with_reducible assumption)
 by_cases h0 : (decide ((m66 a0.f2 a1) < 0)) = true
 ·try simp only [if_pos h0]
  exact cp (by kernel_rfl) (.r 11 [] [] f0 (.f h0 (.y 18 .nil)))
 ·try simp only [if_neg h0]
  have f2 := e67 (l0_0 := l0_3 + 1) (a0 := a0.f3) (a1 := (m66 a0.f2 a1)) (by with_reducible assumption) (by with_reducible assumption)
  by_cases h1 : (decide ((m67 a0.f3 (m66 a0.f2 a1)) < 0)) = true
  ·try simp only [if_pos h1]
   exact cp (by kernel_rfl) (.r 11 [] [] f0 (.g h0 (.z 18 (.r 26 [] [] f2 (.f h1 (.y 33 .nil))))))
  ·try simp only [if_neg h1]
   have f4 := e66 (l0_0 := l0_4 + 1) (a0 := a0.f4) (a1 := (m67 a0.f3 (m66 a0.f2 a1))) (by with_reducible assumption)
   by_cases h2 : (decide ((m66 a0.f4 (m67 a0.f3 (m66 a0.f2 a1))) < 0)) = true
   ·try simp only [if_pos h2]
    exact cp (by kernel_rfl) (.r 11 [] [] f0 (.g h0 (.z 18 (.r 26 [] [] f2 (.g h1 (.z 33 (.r 41 [] [] f4 (.f h2 (.y 48 .nil)))))))))
   ·try simp only [if_neg h2]
    exact cp (by kernel_rfl) (.r 11 [] [] f0 (.g h0 (.z 18 (.r 26 [] [] f2 (.g h1 (.z 33 (.r 41 [] [] f4 (.g h2 (.z 48 .nil)))))))))
def m24 (a0 : K_si) : K_si :=
 a0
theorem e24 {a0 : K_si} : Ev F X (.call 24 [(.agg [(.val (.string a0.f0)), (.val (.int .i64 a0.f1))])] [] [] [(.agg [(.val (.string a0.f0)), (.val (.int .i64 a0.f1))])]) := by
 exact cp (by kernel_rfl) .nil
inductive O69_0 where
 | k0 (w0 : List K_si) (w1 : Int) (w2 : Bool)
def r69_0 (a0 : (List K_si)) : List K_si → Int → List K_si → O69_0
 | x0 :: y0, i, v0 =>
  (r69_0 a0 y0 (i + 1) (set v0 (Int.toNat i) x0))
 | [], i, v0 => (O69_0.k0 v0 i (decide (i < ((length (map b_si a0)) : Int))))
def h69_0 (l0_0 : Nat) (a0 : (List K_si)) (i : Int) (v0 : List K_si) : St := ⟨[(0, (.one (.bor l0_0 (map b_si a0)))), (3, (.one (.ref ⟨(3, 0, 0), [], 0, (Int.toNat ((length (map b_si a0)) : Int))⟩))), (4, (.one (.val (.int .i64 i))))], [((3, 0, 0), .live ⟨2, (map d_si v0), []⟩)]⟩
def ex69_0 : O69_0 → VX.Exit
 | .k0 _ _ _ => (.exit 0)
def fin69_0 (l0_0 : Nat) (a0 : (List K_si)) : O69_0 → St
 | .k0 w0 w1 w2 => ⟨[(0, (.one (.bor l0_0 (map b_si a0)))), (3, (.one (.ref ⟨(3, 0, 0), [], 0, (Int.toNat ((length (map b_si a0)) : Int))⟩))), (4, (.one (.val (.int .i64 w1)))), (11, (.one (.val (.bool w2))))], [((3, 0, 0), .live ⟨2, (map d_si w0), []⟩)]⟩
theorem t69_0 {l0_0 : Nat} {a0 : (List K_si)} (hy0 : length a0 * 24 ≤ 140737488351232) : ∀ (y0 : List K_si) (p : List K_si) (v0 : List K_si), p ++ y0 = a0 → length v0 = (Int.toNat ((length (map b_si a0)) : Int)) → Ev F X (.code l69_0 (h69_0 l0_0 a0 (length p : Int) v0) (ex69_0 (r69_0 a0 y0 (length p : Int) v0)) (fin69_0 l0_0 a0 (r69_0 a0 y0 (length p : Int) v0)))
 | [], p, v0, hp0, hi0 => by
  have hc : ¬ (decide ((length p : Int) < ((length (map b_si a0)) : Int))) = true := by
   rw [← hp0]; simp only [length_map, length_set, length_append, length_replicate, length_cons, length_nil, decide_eq_true_eq]; omega
  have hj0 := hi0; try simp only [length_map, length_set, length_append, length_replicate, length_cons, length_nil, Int.toNat_natCast] at hj0
  have st := ch b69_0 [(8, .b false)] (h69_0 l0_0 a0 (length p : Int) v0) (fin69_0 l0_0 a0 (.k0 v0 (length p : Int) (decide ((length p : Int) < ((length (map b_si a0)) : Int))))) (.exit 0) 9 [(decide ((length p : Int) < ((length (map b_si a0)) : Int))) = false] (by kernel_rfl) ⟨(nt hc), trivial⟩
  exact .loopX st (show ((.exit 0) : VX.Exit) ≠ .normal from by simp)
 | x0 :: y0, p, v0, hp0, hi0 => by
  have hc : (decide ((length p : Int) < ((length (map b_si a0)) : Int))) = true := lt1 hp0
  have Hx0 : (a0)[Int.toNat (length p : Int)]? = some x0 := by
   rw [← hp0, Int.toNat_natCast]; simp
  have hlen : length (a0) = length p + length y0 + 1 := by rw [← hp0]; simp; omega
  have hw : w64 ((length p : Int) + 1) = (length p : Int) + 1 := wrap64 (by omega)
  have hj0 := hi0; try simp only [length_map, length_set, length_append, length_replicate, length_cons, length_nil, Int.toNat_natCast] at hj0
  obtain ⟨x1, Hx1⟩ : ∃ y, v0[Int.toNat (length p : Int)]? = some y := ⟨_, List.getElem?_eq_getElem (by omega)⟩
  simp only [r69_0]
  have st := ch b69_0 [(8, .b true), (18, .row [(.val (.string x0.f0)), (.i x0.f1)]), (22, .ret [] [(.agg [(.val (.string x0.f0)), (.i x0.f1)])] [] []), (26, .rowD [(.val (.string x1.f0)), (.i x1.f1)]), (27, .norm (3, 0, 0) (map d_si (set v0 (Int.toNat (length p : Int)) x0)))] (h69_0 l0_0 a0 (length p : Int) v0) ⟨[(0, (.one (.bor l0_0 (map b_si a0)))), (3, (.one (.ref ⟨(3, 0, 0), [], 0, (Int.toNat ((length (map b_si a0)) : Int))⟩))), (4, (.oi (w64 ((length p : Int) + 1))))], [((3, 0, 0), .live ⟨2, (map d_si (set v0 (Int.toNat (length p : Int)) x0)), []⟩)]⟩ .normal 34 [(decide ((length p : Int) < ((length (map b_si a0)) : Int))) = true, 0 ≤ (length p : Int), (map b_si a0)[(Int.toNat (length p : Int))]? = some [(.val (.string x0.f0)), (.i x0.f1)], Ev F X (.call 24 [(.agg [(.val (.string x0.f0)), (.i x0.f1)])] [] [] [(.agg [(.val (.string x0.f0)), (.i x0.f1)])]), 0 + (Int.toNat ((length (map b_si a0)) : Int)) ≤ (length (map d_si v0)), 0 ≤ (length p : Int) ∧ (length p : Int) < ((Int.toNat ((length (map b_si a0)) : Int)) : Int), (map d_si v0)[(0 + (Int.toNat (length p : Int)))]? = some [(.val (.string x1.f0)), (.i x1.f1)], (set (map d_si v0) (0 + (Int.toNat (length p : Int))) [(.val (.string x0.f0)), (.i x0.f1)]) = (map d_si (set v0 (Int.toNat (length p : Int)) x0)), True] (by kernel_rfl) ⟨hc, (by omega), (by rw [getElem?_map, Hx0]; rfl), (e24 (a0 := x0)), (by simp only [length_map]; omega), (by omega), (by rw [Nat.zero_add, getElem?_map, Hx1]; rfl), (by simp [byteRows_eq, ints_y, take_of_length_le, d_si, d_R, d_B, d_i, d_b, d_C, d_LsiE, d_Q, d_s, d_LiE, d_y, fromBR_si, fromBR_i, fromBR_b, fromBR_s, fromBR_y]; done), trivial, trivial⟩
  have ih := t69_0 (l0_0 := l0_0) (a0 := a0) hy0 y0 (p ++ [x0]) (set v0 (Int.toNat (length p : Int)) x0) (by rw [append_assoc]; exact hp0) (by simp only [length_map, length_set, length_append, length_replicate, length_cons, length_nil]; omega)
  rw [show ((p ++ [x0]).length : Int) = (p.length : Int) + 1 from by simp] at ih
  replace st := to_ (s' := h69_0 l0_0 a0 ((length p : Int) + 1) (set v0 (Int.toNat (length p : Int)) x0)) st (by unfold h69_0; simp only [hw]; done)
  exact .loopN st ih
def post69_0 (n0 : Nat) : O69_0 → Prop
 | .k0 w0 _ _ => length w0 = n0
theorem z69_0 {a0 : (List K_si)} : ∀ (y0 : List K_si) (i : Int) (v0 : List K_si), post69_0 (length v0) (r69_0 a0 y0 i v0)
 | [], i, v0 => by
  first | trivial | (simp only [post69_0, length_nil, Nat.add_zero]; done) | (simp [post69_0]; done)
 | x0 :: y0, i, v0 => by
  simp only [r69_0]
  have z := z69_0 (a0 := a0) y0 (i + 1) (set v0 (Int.toNat i) x0)
  rw [show (length v0) = (length (set v0 (Int.toNat i) x0)) from by first | omega | (simp only [length_map, length_set, length_append, length_replicate, length_cons, length_nil]; done) | (simp only [length_map, length_set, length_append, length_replicate, length_cons, length_nil]; omega)]
  exact z
def m69 (a0 : (List K_si)) : (List K_si) :=
 (match r69_0 a0 a0 0 (List.replicate (Int.toNat ((length (map b_si a0)) : Int)) (K_si.mk (⟨#[]⟩ : ByteArray) 0)) with | .k0 w0_1 w1_1 w2_1 => w0_1)
theorem e69 {l0_0 : Nat} {a0 : (List K_si)} (hy0 : length a0 * 24 ≤ 140737488351232) : Ev F X (.call 69 [(.one (.bor l0_0 (map b_si a0)))] [] [] [(.one (.own 2 (map d_si (m69 a0))))]) := by
 unfold m69
 have f0 : 0 ≤ ((length (map b_si a0)) : Int) ∧ ((length (map b_si a0)) : Int) ≤ ((length (map b_si a0)) : Int) ∧ ((length (map b_si a0)) : Int) ≤ 140737488355328 ∧ ((length (map b_si a0)) : Int) * 24 ≤ 140737488355328 := (by simp only [length_map]; omega)
 have f1 : (List.replicate (Int.toNat ((length (map b_si a0)) : Int)) [(.val (.string (⟨#[]⟩ : ByteArray))), (.val (.int .i64 0))]) = (map d_si (List.replicate (Int.toNat ((length (map b_si a0)) : Int)) (K_si.mk (⟨#[]⟩ : ByteArray) 0))) := (by simp [byteRows_eq, ints_y, take_of_length_le, d_si, d_R, d_B, d_i, d_b, d_C, d_LsiE, d_Q, d_s, d_LiE, d_y, fromBR_si, fromBR_i, fromBR_b, fromBR_s, fromBR_y]; done)
 cases h0 : r69_0 a0 a0 0 (List.replicate (Int.toNat ((length (map b_si a0)) : Int)) (K_si.mk (⟨#[]⟩ : ByteArray) 0)) with
 | k0 w0_1 w1_1 w2_1 =>
  try dsimp only
  have zh0 := z69_0 (a0 := a0) a0 0 (List.replicate (Int.toNat ((length (map b_si a0)) : Int)) (K_si.mk (⟨#[]⟩ : ByteArray) 0)); rw [h0] at zh0; simp only [post69_0, length_map, length_set, length_append, length_replicate, length_cons, length_nil, Int.toNat_natCast] at zh0
  have f2 : (⟨[(0, (.one (.bor l0_0 (map b_si a0)))), (3, (.one (.ref ⟨(3, 0, 0), [], 0, (Int.toNat ((length (map b_si a0)) : Int))⟩))), (4, (.oi 0))], [((3, 0, 0), .live ⟨2, (map d_si (List.replicate (Int.toNat ((length (map b_si a0)) : Int)) (K_si.mk (⟨#[]⟩ : ByteArray) 0))), []⟩)]⟩ : St) = h69_0 l0_0 a0 0 (List.replicate (Int.toNat ((length (map b_si a0)) : Int)) (K_si.mk (⟨#[]⟩ : ByteArray) 0)) := (by rfl)
  have f3 : Ev F X (.code l69_0 (h69_0 l0_0 a0 0 (List.replicate (Int.toNat ((length (map b_si a0)) : Int)) (K_si.mk (⟨#[]⟩ : ByteArray) 0))) (.exit 0) ⟨[(0, (.one (.bor l0_0 (map b_si a0)))), (3, (.one (.ref ⟨(3, 0, 0), [], 0, (Int.toNat ((length (map b_si a0)) : Int))⟩))), (4, (.oi w1_1)), (11, (.one (.val (.bool w2_1))))], [((3, 0, 0), .live ⟨2, (map d_si w0_1), []⟩)]⟩) := (by have t : Ev F X (.code l69_0 (h69_0 l0_0 a0 0 (List.replicate (Int.toNat ((length (map b_si a0)) : Int)) (K_si.mk (⟨#[]⟩ : ByteArray) 0))) (ex69_0 (r69_0 a0 a0 0 (List.replicate (Int.toNat ((length (map b_si a0)) : Int)) (K_si.mk (⟨#[]⟩ : ByteArray) 0)))) (fin69_0 l0_0 a0 (r69_0 a0 a0 0 (List.replicate (Int.toNat ((length (map b_si a0)) : Int)) (K_si.mk (⟨#[]⟩ : ByteArray) 0))))) := t69_0 (l0_0 := l0_0) (a0 := a0) (by assumption) a0 [] (List.replicate (Int.toNat ((length (map b_si a0)) : Int)) (K_si.mk (⟨#[]⟩ : ByteArray) 0)) rfl (by simp only [length_map, length_set, length_append, length_replicate, length_cons, length_nil]; done); rw [h0] at t; exact t)
  have f5 : (Int.toNat ((length (map b_si a0)) : Int)) = (length (map d_si w0_1)) := (by simp only [length_map]; omega)
  exact cp (by kernel_rfl) (.f f0 (.f f1 (.f f2 (.f f3 (.e 0 (.f f5 (.f (pureR_si w0_1) (.h 10 (.norm (3, 0, 0) (map d_si (List.replicate (Int.toNat ((length (map b_si a0)) : Int)) (K_si.mk (⟨#[]⟩ : ByteArray) 0)))) (.h 13 (.loop (h69_0 l0_0 a0 0 (List.replicate (Int.toNat ((length (map b_si a0)) : Int)) (K_si.mk (⟨#[]⟩ : ByteArray) 0))) (.exit 0) ⟨[(0, (.one (.bor l0_0 (map b_si a0)))), (3, (.one (.ref ⟨(3, 0, 0), [], 0, (Int.toNat ((length (map b_si a0)) : Int))⟩))), (4, (.oi w1_1)), (11, (.one (.val (.bool w2_1))))], [((3, 0, 0), .live ⟨2, (map d_si w0_1), []⟩)]⟩) .nil)))))))))
theorem c69_0 (a0 : List K_si) : ∀ (l p q : List K_si), q.length = l.length → ∃ w1 w2, r69_0 a0 l (p.length : Int) (p ++ q) = .k0 (p ++ l) w1 w2
 | [], p, [], _ => ⟨_, _, rfl⟩
 | [], _, _ :: _, h => by simp at h
 | _ :: _, _, [], h => by simp at h
 | x :: l, p, y :: q, h => by
  have ih := c69_0 a0 l (p ++ [x]) q (by simpa using h)
  have e : set (p ++ y :: q) (Int.toNat (p.length : Int)) x = (p ++ [x]) ++ q := by simp
  have e2 : ((p ++ [x]).length : Int) = (p.length : Int) + 1 := by simp
  rw [e2] at ih
  simp only [r69_0]
  rw [show p ++ x :: l = (p ++ [x]) ++ l by simp]
  first | (rw [e]; exact ih) | (simp only [e]; exact ih)
theorem q69 (a0 : (List K_si)) (hy0 : length a0 * 24 ≤ 140737488351232) : (m69 a0) = a0 := by
 have h := c69_0 a0 a0 [] (List.replicate (Int.toNat ((length (map b_si a0)) : Int)) (K_si.mk (⟨#[]⟩ : ByteArray) 0)) (by simp)
 unfold m69
 simp only [List.nil_append, length_nil] at h
 obtain ⟨_, _, h⟩ := h
 rw [show ((0 : Nat) : Int) = 0 from rfl] at h
 rw [h]
theorem g69 {l0_0 : Nat} {a0 : (List K_si)} (hy0 : length a0 * 24 ≤ 140737488351232) : Ev F X (.call 69 [(.one (.bor l0_0 (map b_si a0)))] [] [] [(.one (.own 2 (map d_si a0)))]) := by
 have t := e69 (l0_0 := l0_0) (a0 := a0) hy0
 rw [q69 a0 hy0] at t
 exact t
def m136 (a0 : K_R) : K_R :=
 a0
theorem e136 {l0_3 : Nat} {a0 : K_R} (hy0 : length a0.f3 * 24 ≤ 140737488351232) : Ev F X (.call 136 [(.agg [(.val (.int .i64 a0.f0)), (.val (.int .i64 a0.f1)), (.val (.int .i64 a0.f2)), (.bor l0_3 (map b_si a0.f3)), (.val (.int .i64 a0.f4))])] [] [] [(.agg [(.val (.int .i64 a0.f0)), (.val (.int .i64 a0.f1)), (.val (.int .i64 a0.f2)), (.own 2 (map d_si a0.f3)), (.val (.int .i64 a0.f4))])]) := by
 have f0 : Ev F X (.call 69 [(.one (.bor (l0_3 + 1) (map b_si a0.f3)))] [] [] [(.one (.own 2 (map d_si a0.f3)))]) := (g69 (a0 := a0.f3) (by with_reducible assumption))
 exact cp (by kernel_rfl) (.r 35 [] [] f0 (.e 0 (.e (length (map d_si a0.f3)) (.e 0 (.e (length (map d_si a0.f3)) (.f (pureR_si (a0.f3)) .nil))))))
inductive O70_0 where
 | k0 (w0 : List K_R) (w1 : Int) (w2 : Bool)
def r70_0 (a0 : (List K_R)) : List K_R → Int → List K_R → O70_0
 | x0 :: y0, i, v0 =>
  (r70_0 a0 y0 (i + 1) (set v0 (Int.toNat i) x0))
 | [], i, v0 => (O70_0.k0 v0 i (decide (i < ((length (map b_R a0)) : Int))))
def h70_0 (l0_0 : Nat) (a0 : (List K_R)) (i : Int) (v0 : List K_R) : St := ⟨[(0, (.one (.bor l0_0 (map b_R a0)))), (3, (.one (.ref ⟨(3, 0, 0), [], 0, (Int.toNat ((length (map b_R a0)) : Int))⟩))), (4, (.one (.val (.int .i64 i))))], [((3, 0, 0), .live ⟨5, (map d_R v0), []⟩)]⟩
def ex70_0 : O70_0 → VX.Exit
 | .k0 _ _ _ => (.exit 0)
def fin70_0 (l0_0 : Nat) (a0 : (List K_R)) : O70_0 → St
 | .k0 w0 w1 w2 => ⟨[(0, (.one (.bor l0_0 (map b_R a0)))), (3, (.one (.ref ⟨(3, 0, 0), [], 0, (Int.toNat ((length (map b_R a0)) : Int))⟩))), (4, (.one (.val (.int .i64 w1)))), (11, (.one (.val (.bool w2))))], [((3, 0, 0), .live ⟨5, (map d_R w0), []⟩)]⟩
theorem t70_0 {l0_0 : Nat} {a0 : (List K_R)} (hy0 : length a0 * 56 ≤ 140737488351232) (hy1 : ∀ z ∈ a0, ok_R z) : ∀ (y0 : List K_R) (p : List K_R) (v0 : List K_R), p ++ y0 = a0 → length v0 = (Int.toNat ((length (map b_R a0)) : Int)) → Ev F X (.code l70_0 (h70_0 l0_0 a0 (length p : Int) v0) (ex70_0 (r70_0 a0 y0 (length p : Int) v0)) (fin70_0 l0_0 a0 (r70_0 a0 y0 (length p : Int) v0)))
 | [], p, v0, hp0, hi0 => by
  have hc : ¬ (decide ((length p : Int) < ((length (map b_R a0)) : Int))) = true := by
   rw [← hp0]; simp only [length_map, length_set, length_append, length_replicate, length_cons, length_nil, decide_eq_true_eq]; omega
  have hj0 := hi0; try simp only [length_map, length_set, length_append, length_replicate, length_cons, length_nil, Int.toNat_natCast] at hj0
  have st := ch b70_0 [(8, .b false)] (h70_0 l0_0 a0 (length p : Int) v0) (fin70_0 l0_0 a0 (.k0 v0 (length p : Int) (decide ((length p : Int) < ((length (map b_R a0)) : Int))))) (.exit 0) 9 [(decide ((length p : Int) < ((length (map b_R a0)) : Int))) = false] (by kernel_rfl) ⟨(nt hc), trivial⟩
  exact .loopX st (show ((.exit 0) : VX.Exit) ≠ .normal from by simp)
 | x0 :: y0, p, v0, hp0, hi0 => by
  have hc : (decide ((length p : Int) < ((length (map b_R a0)) : Int))) = true := lt1 hp0
  have Hx0 : (a0)[Int.toNat (length p : Int)]? = some x0 := by
   rw [← hp0, Int.toNat_natCast]; simp
  have Mx0_0 := hy1 x0 (List.mem_of_getElem? Hx0)
  have hlen : length (a0) = length p + length y0 + 1 := by rw [← hp0]; simp; omega
  have hw : w64 ((length p : Int) + 1) = (length p : Int) + 1 := wrap64 (by omega)
  have hj0 := hi0; try simp only [length_map, length_set, length_append, length_replicate, length_cons, length_nil, Int.toNat_natCast] at hj0
  obtain ⟨x1, Hx1⟩ : ∃ y, v0[Int.toNat (length p : Int)]? = some y := ⟨_, List.getElem?_eq_getElem (by omega)⟩
  simp only [r70_0]
  have st := ch b70_0 [(8, .b true), (18, .row (b_R x0)), (22, .ret [] [(.agg [(.i x0.f0), (.i x0.f1), (.i x0.f2), (.own 2 (map d_si x0.f3)), (.i x0.f4)])] [] []), (26, .rowD (d_R x1)), (27, .norm (3, 0, 0) (map d_R (set v0 (Int.toNat (length p : Int)) x0)))] (h70_0 l0_0 a0 (length p : Int) v0) ⟨[(0, (.one (.bor l0_0 (map b_R a0)))), (3, (.one (.ref ⟨(3, 0, 0), [], 0, (Int.toNat ((length (map b_R a0)) : Int))⟩))), (4, (.oi (w64 ((length p : Int) + 1))))], [((3, 0, 0), .live ⟨5, (map d_R (set v0 (Int.toNat (length p : Int)) x0)), []⟩)]⟩ .normal 34 [(decide ((length p : Int) < ((length (map b_R a0)) : Int))) = true, 0 ≤ (length p : Int), (map b_R a0)[(Int.toNat (length p : Int))]? = some (b_R x0), Ev F X (.call 136 [(.agg [(.i x0.f0), (.i x0.f1), (.i x0.f2), (.bor (l0_0 + 1) (map b_si x0.f3)), (.i x0.f4)])] [] [] [(.agg [(.i x0.f0), (.i x0.f1), (.i x0.f2), (.own 2 (map d_si x0.f3)), (.i x0.f4)])]), 0 + (Int.toNat ((length (map b_R a0)) : Int)) ≤ (length (map d_R v0)), 0 ≤ (length p : Int) ∧ (length p : Int) < ((Int.toNat ((length (map b_R a0)) : Int)) : Int), 0 = 0, (length (map d_si x0.f3)) = (length (map d_si x0.f3)), (map d_R v0)[(0 + (Int.toNat (length p : Int)))]? = some [(.i x1.f0), (.i x1.f1), (.i x1.f2), (.own 2 (map d_si x1.f3)), (.i x1.f4)], (set (map d_R v0) (0 + (Int.toNat (length p : Int))) [(.i x0.f0), (.i x0.f1), (.i x0.f2), (.own 2 (map d_si x0.f3)), (.i x0.f4)]) = (map d_R (set v0 (Int.toNat (length p : Int)) x0)), True] (by kernel_rfl) ⟨hc, (by omega), (by rw [getElem?_map, Hx0]; rfl), (e136 (a0 := x0) (by assumption)), (by simp only [length_map]; omega), (by omega), rfl, rfl, (by rw [Nat.zero_add, getElem?_map, Hx1]; rfl), (by simp [byteRows_eq, ints_y, take_of_length_le, d_si, d_R, d_B, d_i, d_b, d_C, d_LsiE, d_Q, d_s, d_LiE, d_y, fromBR_si, fromBR_i, fromBR_b, fromBR_s, fromBR_y]; done), trivial, trivial⟩
  have ih := t70_0 (l0_0 := l0_0) (a0 := a0) hy0 hy1 y0 (p ++ [x0]) (set v0 (Int.toNat (length p : Int)) x0) (by rw [append_assoc]; exact hp0) (by simp only [length_map, length_set, length_append, length_replicate, length_cons, length_nil]; omega)
  rw [show ((p ++ [x0]).length : Int) = (p.length : Int) + 1 from by simp] at ih
  replace st := to_ (s' := h70_0 l0_0 a0 ((length p : Int) + 1) (set v0 (Int.toNat (length p : Int)) x0)) st (by unfold h70_0; simp only [hw]; done)
  exact .loopN st ih
def post70_0 (n0 : Nat) : O70_0 → Prop
 | .k0 w0 _ _ => length w0 = n0
theorem z70_0 {a0 : (List K_R)} : ∀ (y0 : List K_R) (i : Int) (v0 : List K_R), post70_0 (length v0) (r70_0 a0 y0 i v0)
 | [], i, v0 => by
  first | trivial | (simp only [post70_0, length_nil, Nat.add_zero]; done) | (simp [post70_0]; done)
 | x0 :: y0, i, v0 => by
  simp only [r70_0]
  have z := z70_0 (a0 := a0) y0 (i + 1) (set v0 (Int.toNat i) x0)
  rw [show (length v0) = (length (set v0 (Int.toNat i) x0)) from by first | omega | (simp only [length_map, length_set, length_append, length_replicate, length_cons, length_nil]; done) | (simp only [length_map, length_set, length_append, length_replicate, length_cons, length_nil]; omega)]
  exact z
def m70 (a0 : (List K_R)) : (List K_R) :=
 (match r70_0 a0 a0 0 (List.replicate (Int.toNat ((length (map b_R a0)) : Int)) (K_R.mk 0 0 0 [] 0)) with | .k0 w0_1 w1_1 w2_1 => w0_1)
theorem e70 {l0_0 : Nat} {a0 : (List K_R)} (hy0 : length a0 * 56 ≤ 140737488351232) (hy1 : ∀ z ∈ a0, ok_R z) : Ev F X (.call 70 [(.one (.bor l0_0 (map b_R a0)))] [] [] [(.one (.own 5 (map d_R (m70 a0))))]) := by
 unfold m70
 have f0 : 0 ≤ ((length (map b_R a0)) : Int) ∧ ((length (map b_R a0)) : Int) ≤ ((length (map b_R a0)) : Int) ∧ ((length (map b_R a0)) : Int) ≤ 140737488355328 ∧ ((length (map b_R a0)) : Int) * 56 ≤ 140737488355328 := (by simp only [length_map]; omega)
 have f1 : (List.replicate (Int.toNat ((length (map b_R a0)) : Int)) [(.val (.int .i64 0)), (.val (.int .i64 0)), (.val (.int .i64 0)), (.own 2 []), (.val (.int .i64 0))]) = (map d_R (List.replicate (Int.toNat ((length (map b_R a0)) : Int)) (K_R.mk 0 0 0 [] 0))) := (by simp [byteRows_eq, ints_y, take_of_length_le, d_si, d_R, d_B, d_i, d_b, d_C, d_LsiE, d_Q, d_s, d_LiE, d_y, fromBR_si, fromBR_i, fromBR_b, fromBR_s, fromBR_y]; done)
 cases h0 : r70_0 a0 a0 0 (List.replicate (Int.toNat ((length (map b_R a0)) : Int)) (K_R.mk 0 0 0 [] 0)) with
 | k0 w0_1 w1_1 w2_1 =>
  try dsimp only
  have zh0 := z70_0 (a0 := a0) a0 0 (List.replicate (Int.toNat ((length (map b_R a0)) : Int)) (K_R.mk 0 0 0 [] 0)); rw [h0] at zh0; simp only [post70_0, length_map, length_set, length_append, length_replicate, length_cons, length_nil, Int.toNat_natCast] at zh0
  have f2 : (⟨[(0, (.one (.bor l0_0 (map b_R a0)))), (3, (.one (.ref ⟨(3, 0, 0), [], 0, (Int.toNat ((length (map b_R a0)) : Int))⟩))), (4, (.oi 0))], [((3, 0, 0), .live ⟨5, (map d_R (List.replicate (Int.toNat ((length (map b_R a0)) : Int)) (K_R.mk 0 0 0 [] 0))), []⟩)]⟩ : St) = h70_0 l0_0 a0 0 (List.replicate (Int.toNat ((length (map b_R a0)) : Int)) (K_R.mk 0 0 0 [] 0)) := (by rfl)
  have f3 : Ev F X (.code l70_0 (h70_0 l0_0 a0 0 (List.replicate (Int.toNat ((length (map b_R a0)) : Int)) (K_R.mk 0 0 0 [] 0))) (.exit 0) ⟨[(0, (.one (.bor l0_0 (map b_R a0)))), (3, (.one (.ref ⟨(3, 0, 0), [], 0, (Int.toNat ((length (map b_R a0)) : Int))⟩))), (4, (.oi w1_1)), (11, (.one (.val (.bool w2_1))))], [((3, 0, 0), .live ⟨5, (map d_R w0_1), []⟩)]⟩) := (by have t : Ev F X (.code l70_0 (h70_0 l0_0 a0 0 (List.replicate (Int.toNat ((length (map b_R a0)) : Int)) (K_R.mk 0 0 0 [] 0))) (ex70_0 (r70_0 a0 a0 0 (List.replicate (Int.toNat ((length (map b_R a0)) : Int)) (K_R.mk 0 0 0 [] 0)))) (fin70_0 l0_0 a0 (r70_0 a0 a0 0 (List.replicate (Int.toNat ((length (map b_R a0)) : Int)) (K_R.mk 0 0 0 [] 0))))) := t70_0 (l0_0 := l0_0) (a0 := a0) (by assumption) (by assumption) a0 [] (List.replicate (Int.toNat ((length (map b_R a0)) : Int)) (K_R.mk 0 0 0 [] 0)) rfl (by simp only [length_map, length_set, length_append, length_replicate, length_cons, length_nil]; done); rw [h0] at t; exact t)
  have f5 : (Int.toNat ((length (map b_R a0)) : Int)) = (length (map d_R w0_1)) := (by simp only [length_map]; omega)
  exact cp (by kernel_rfl) (.f f0 (.f f1 (.f f2 (.f f3 (.e 0 (.f f5 (.f (pureR_R w0_1) (.h 10 (.norm (3, 0, 0) (map d_R (List.replicate (Int.toNat ((length (map b_R a0)) : Int)) (K_R.mk 0 0 0 [] 0)))) (.h 13 (.loop (h70_0 l0_0 a0 0 (List.replicate (Int.toNat ((length (map b_R a0)) : Int)) (K_R.mk 0 0 0 [] 0))) (.exit 0) ⟨[(0, (.one (.bor l0_0 (map b_R a0)))), (3, (.one (.ref ⟨(3, 0, 0), [], 0, (Int.toNat ((length (map b_R a0)) : Int))⟩))), (4, (.oi w1_1)), (11, (.one (.val (.bool w2_1))))], [((3, 0, 0), .live ⟨5, (map d_R w0_1), []⟩)]⟩) .nil)))))))))
theorem c70_0 (a0 : List K_R) : ∀ (l p q : List K_R), q.length = l.length → ∃ w1 w2, r70_0 a0 l (p.length : Int) (p ++ q) = .k0 (p ++ l) w1 w2
 | [], p, [], _ => ⟨_, _, rfl⟩
 | [], _, _ :: _, h => by simp at h
 | _ :: _, _, [], h => by simp at h
 | x :: l, p, y :: q, h => by
  have ih := c70_0 a0 l (p ++ [x]) q (by simpa using h)
  have e : set (p ++ y :: q) (Int.toNat (p.length : Int)) x = (p ++ [x]) ++ q := by simp
  have e2 : ((p ++ [x]).length : Int) = (p.length : Int) + 1 := by simp
  rw [e2] at ih
  simp only [r70_0]
  rw [show p ++ x :: l = (p ++ [x]) ++ l by simp]
  first | (rw [e]; exact ih) | (simp only [e]; exact ih)
theorem q70 (a0 : (List K_R)) (hy0 : length a0 * 56 ≤ 140737488351232) (hy1 : ∀ z ∈ a0, ok_R z) : (m70 a0) = a0 := by
 have h := c70_0 a0 a0 [] (List.replicate (Int.toNat ((length (map b_R a0)) : Int)) (K_R.mk 0 0 0 [] 0)) (by simp)
 unfold m70
 simp only [List.nil_append, length_nil] at h
 obtain ⟨_, _, h⟩ := h
 rw [show ((0 : Nat) : Int) = 0 from rfl] at h
 rw [h]
theorem g70 {l0_0 : Nat} {a0 : (List K_R)} (hy0 : length a0 * 56 ≤ 140737488351232) (hy1 : ∀ z ∈ a0, ok_R z) : Ev F X (.call 70 [(.one (.bor l0_0 (map b_R a0)))] [] [] [(.one (.own 5 (map d_R a0)))]) := by
 have t := e70 (l0_0 := l0_0) (a0 := a0) hy0 hy1
 rw [q70 a0 hy0 hy1] at t
 exact t
def m16 (a0 : K_B) : K_B :=
 a0
theorem e16 {l0_2 : Nat} {l0_3 : Nat} {l0_4 : Nat} {a0 : K_B} (hy0 : length a0.f2 * 24 ≤ 140737488351232) (hy1 : length a0.f3 * 56 ≤ 140737488351232) (hy2 : ∀ z ∈ a0.f3, ok_R z) (hy3 : length a0.f4 * 24 ≤ 140737488351232) : Ev F X (.call 16 [(.agg [(.val (.int .i64 a0.f0)), (.val (.int .i64 a0.f1)), (.bor l0_2 (map b_si a0.f2)), (.bor l0_3 (map b_R a0.f3)), (.bor l0_4 (map b_si a0.f4)), (.val (.int .i64 a0.f5)), (.val (.int .i64 a0.f6)), (.val (.int .i64 a0.f7))])] [] [] [(.agg [(.val (.int .i64 a0.f0)), (.val (.int .i64 a0.f1)), (.own 2 (map d_si a0.f2)), (.own 5 (map d_R a0.f3)), (.own 2 (map d_si a0.f4)), (.val (.int .i64 a0.f5)), (.val (.int .i64 a0.f6)), (.val (.int .i64 a0.f7))])]) := by
 have f0 : Ev F X (.call 69 [(.one (.bor (l0_2 + 1) (map b_si a0.f2)))] [] [] [(.one (.own 2 (map d_si a0.f2)))]) := (g69 (a0 := a0.f2) (by with_reducible assumption))
 have f3 : Ev F X (.call 70 [(.one (.bor (l0_3 + 1) (map b_R a0.f3)))] [] [] [(.one (.own 5 (map d_R a0.f3)))]) := (g70 (a0 := a0.f3) (by with_reducible assumption) (by with_reducible assumption))
 have f6 : Ev F X (.call 69 [(.one (.bor (l0_4 + 1) (map b_si a0.f4)))] [] [] [(.one (.own 2 (map d_si a0.f4)))]) := (g69 (a0 := a0.f4) (by with_reducible assumption))
 exact cp (by kernel_rfl) (.r 27 [] [] f0 (.e 0 (.e (length (map d_si a0.f2)) (.r 37 [] [] f3 (.e 0 (.e (length (map d_R a0.f3)) (.r 47 [] [] f6 (.e 0 (.e (length (map d_si a0.f4)) (.e 0 (.e (length (map d_si a0.f2)) (.e 0 (.e (length (map d_R a0.f3)) (.e 0 (.e (length (map d_si a0.f4)) (.f (pureR_si (a0.f2)) (.f (pureR_R (a0.f3)) (.f (pureR_si (a0.f4)) .nil))))))))))))))))))
def m137 (a0 : K_si) (a1 : K_si) : Bool :=
 if (!(a0.f0.toList == a1.f0.toList)) = true then false else
 if (a0.f1 != a1.f1) = true then false else
  true
theorem e137 {a0 : K_si} {a1 : K_si} : Ev F X (.call 137 [(.agg [(.val (.string a0.f0)), (.val (.int .i64 a0.f1))]), (.agg [(.val (.string a1.f0)), (.val (.int .i64 a1.f1))])] [] [] [(.one (.val (.bool (m137 a0 a1))))]) := by
 unfold m137
 by_cases h0 : (!(a0.f0.toList == a1.f0.toList)) = true
 ·try simp only [if_pos h0]
  exact cp (by kernel_rfl) (.f h0 (.y 16 .nil))
 ·try simp only [if_neg h0]
  by_cases h1 : (a0.f1 != a1.f1) = true
  ·try simp only [if_pos h1]
   exact cp (by kernel_rfl) (.g h0 (.f h1 (.z 16 (.y 27 .nil))))
  ·try simp only [if_neg h1]
   exact cp (by kernel_rfl) (.g h0 (.g h1 (.z 16 (.z 27 .nil))))
open Classical in
theorem eqd137 (a b : K_si) : m137 a b = decide (a = b) := by
 rw [Bool.eq_iff_iff, decide_eq_true_eq]
 constructor
 ·intro h
  unfold m137 at h
  cases a; cases b
  (repeat' split at h) <;> simp_all [ba_eq]
 ·rintro rfl
  simp [m137, ba_eq]
inductive O77_0 where
 | k0 (w0 : Int) (w1 : Bool)
 | k1
def r77_0 (a0 : (List K_si)) : List K_si → List K_si → Int → O77_0
 | x0 :: y0, x1 :: y1, i =>
  if (!(m137 x0 x1)) = true then (O77_0.k1) else
  (r77_0 a0 y0 y1 (i + 1) )
 | _, _, i => (O77_0.k0 i (decide (i < ((length (map b_si a0)) : Int))))
def h77_0 (l0_0 : Nat) (l1_0 : Nat) (a0 : (List K_si)) (a1 : (List K_si)) (i : Int)  : St := ⟨[(0, (.one (.bor l0_0 (map b_si a0)))), (1, (.one (.bor l1_0 (map b_si a1)))), (5, (.one (.val (.int .i64 i))))], []⟩
def ex77_0 : O77_0 → VX.Exit
 | .k0 _ _ => (.exit 0)
 | .k1 => .ret
def fin77_0 (l0_0 : Nat) (l1_0 : Nat) (a0 : (List K_si)) (a1 : (List K_si)) : O77_0 → St
 | .k0 w0 w1 => ⟨[(0, (.one (.bor l0_0 (map b_si a0)))), (1, (.one (.bor l1_0 (map b_si a1)))), (5, (.one (.val (.int .i64 w0)))), (14, (.one (.val (.bool w1))))], []⟩
 | .k1 => ⟨[(4, (.one (.val (.bool false))))], []⟩
theorem t77_0 {l0_0 : Nat} {l1_0 : Nat} {a0 : (List K_si)} {a1 : (List K_si)} (hy0 : length a0 * 24 ≤ 140737488351232) (hy1 : length a1 * 24 ≤ 140737488351232) : ∀ (y0 : List K_si) (y1 : List K_si) (p : List K_si) (p_1 : List K_si) , p ++ y0 = a0 → p_1 ++ y1 = a1 → length p = length p_1 → length y0 = length y1 → Ev F X (.code l77_0 (h77_0 l0_0 l1_0 a0 a1 (length p : Int) ) (ex77_0 (r77_0 a0 y0 y1 (length p : Int) )) (fin77_0 l0_0 l1_0 a0 a1 (r77_0 a0 y0 y1 (length p : Int) )))
 | [], [], p, p_1, hp0, hp1, hq1, hl1 => by
  have hc : ¬ (decide ((length p : Int) < ((length (map b_si a0)) : Int))) = true := by
   rw [← hp0]; simp only [length_map, length_set, length_append, length_replicate, length_cons, length_nil, decide_eq_true_eq]; omega
  have st := ch b77_0 [(8, .b false)] (h77_0 l0_0 l1_0 a0 a1 (length p : Int)) (fin77_0 l0_0 l1_0 a0 a1 (.k0 (length p : Int) (decide ((length p : Int) < ((length (map b_si a0)) : Int))))) (.exit 0) 9 [(decide ((length p : Int) < ((length (map b_si a0)) : Int))) = false] (by kernel_rfl) ⟨(nt hc), trivial⟩
  exact .loopX st (show ((.exit 0) : VX.Exit) ≠ .normal from by simp)
 | x0 :: y0, x1 :: y1, p, p_1, hp0, hp1, hq1, hl1 => by
  have hc : (decide ((length p : Int) < ((length (map b_si a0)) : Int))) = true := lt1 hp0
  have Hx0 : (a0)[Int.toNat (length p : Int)]? = some x0 := by
   rw [← hp0, Int.toNat_natCast]; simp
  have Hx1 : (a1)[Int.toNat (length p : Int)]? = some x1 := by
   rw [← hp1, hq1, Int.toNat_natCast]; simp
  have hlen : length (a0) = length p + length y0 + 1 := by rw [← hp0]; simp; omega
  have hw : w64 ((length p : Int) + 1) = (length p : Int) + 1 := wrap64 (by omega)
  simp only [r77_0]
  by_cases h_1 : (!(m137 x0 x1)) = true
  ·try simp only [if_pos h_1]
   have st := ch b77_0 [(8, .b true), (14, .row (b_si x0)), (22, .row (b_si x1)), (26, .ret [] [(.one (.val (.bool (m137 x0 x1))))] [] []), (29, .b true)] (h77_0 l0_0 l1_0 a0 a1 (length p : Int)) (fin77_0 l0_0 l1_0 a0 a1 (.k1)) .ret 32 [(decide ((length p : Int) < ((length (map b_si a0)) : Int))) = true, 0 ≤ (length p : Int), (map b_si a0)[(Int.toNat (length p : Int))]? = some (b_si x0), 0 ≤ (length p : Int), (map b_si a1)[(Int.toNat (length p : Int))]? = some (b_si x1), Ev F X (.call 137 [(.agg [(.val (.string x0.f0)), (.i x0.f1)]), (.agg [(.val (.string x1.f0)), (.i x1.f1)])] [] [] [(.one (.val (.bool (m137 x0 x1))))]), (!(m137 x0 x1)) = true] (by kernel_rfl) ⟨hc, (by omega), (by rw [getElem?_map, Hx0]; rfl), (by omega), (by rw [getElem?_map, Hx1]; rfl), (e137 (a0 := x0) (a1 := x1)), h_1, trivial⟩
   exact .loopX st (show (.ret : VX.Exit) ≠ .normal from by simp)
  ·try simp only [if_neg h_1]
   have st := ch b77_0 [(8, .b true), (14, .row (b_si x0)), (22, .row (b_si x1)), (26, .ret [] [(.one (.val (.bool (m137 x0 x1))))] [] []), (29, .b false)] (h77_0 l0_0 l1_0 a0 a1 (length p : Int)) ⟨[(0, (.one (.bor l0_0 (map b_si a0)))), (1, (.one (.bor l1_0 (map b_si a1)))), (5, (.oi (w64 ((length p : Int) + 1))))], []⟩ .normal 36 [(decide ((length p : Int) < ((length (map b_si a0)) : Int))) = true, 0 ≤ (length p : Int), (map b_si a0)[(Int.toNat (length p : Int))]? = some (b_si x0), 0 ≤ (length p : Int), (map b_si a1)[(Int.toNat (length p : Int))]? = some (b_si x1), Ev F X (.call 137 [(.agg [(.val (.string x0.f0)), (.i x0.f1)]), (.agg [(.val (.string x1.f0)), (.i x1.f1)])] [] [] [(.one (.val (.bool (m137 x0 x1))))]), (!(m137 x0 x1)) = false, True] (by kernel_rfl) ⟨hc, (by omega), (by rw [getElem?_map, Hx0]; rfl), (by omega), (by rw [getElem?_map, Hx1]; rfl), (e137 (a0 := x0) (a1 := x1)), (nt h_1), trivial, trivial⟩
   have ih := t77_0 (l0_0 := l0_0) (l1_0 := l1_0) (a0 := a0) (a1 := a1) hy0 hy1 y0 y1 (p ++ [x0]) (p_1 ++ [x1])  (by rw [append_assoc]; exact hp0) (by rw [append_assoc]; exact hp1) (by simp only [length_map, length_set, length_append, length_replicate, length_cons, length_nil]; omega) (by simp only [length_map, length_set, length_append, length_replicate, length_cons, length_nil] at hl1; omega)
   rw [show ((p ++ [x0]).length : Int) = (p.length : Int) + 1 from by simp] at ih
   replace st := to_ (s' := h77_0 l0_0 l1_0 a0 a1 ((length p : Int) + 1) ) st (by unfold h77_0; simp only [hw]; done)
   exact .loopN st ih
def m77 (a0 : (List K_si)) (a1 : (List K_si)) : Bool :=
 if (((length (map b_si a0)) : Int) != ((length (map b_si a1)) : Int)) = true then false else
 (match r77_0 a0 a0 a1 0 with | .k0 w0_1 w1_1 => true | .k1 => false)
theorem e77 {l0_0 : Nat} {a0 : (List K_si)} {l1_0 : Nat} {a1 : (List K_si)} (hy0 : length a0 * 24 ≤ 140737488351232) (hy1 : length a1 * 24 ≤ 140737488351232) : Ev F X (.call 77 [(.one (.bor l0_0 (map b_si a0))), (.one (.bor l1_0 (map b_si a1)))] [] [] [(.one (.val (.bool (m77 a0 a1))))]) := by
 unfold m77
 by_cases h0 : (((length (map b_si a0)) : Int) != ((length (map b_si a1)) : Int)) = true
 ·try simp only [if_pos h0]
  exact cp (by kernel_rfl) (.f h0 (.y 12 .nil))
 ·try simp only [if_neg h0]
  cases h1 : r77_0 a0 a0 a1 0 with
  | k0 w0_1 w1_1 =>
   try dsimp only
   have f1 : (⟨[(0, (.one (.bor l0_0 (map b_si a0)))), (1, (.one (.bor l1_0 (map b_si a1)))), (5, (.oi 0))], []⟩ : St) = h77_0 l0_0 l1_0 a0 a1 0  := (by rfl)
   have f2 : Ev F X (.code l77_0 (h77_0 l0_0 l1_0 a0 a1 0 ) (.exit 0) ⟨[(0, (.one (.bor l0_0 (map b_si a0)))), (1, (.one (.bor l1_0 (map b_si a1)))), (5, (.oi w0_1)), (14, (.one (.val (.bool w1_1))))], []⟩) := (by have t : Ev F X (.code l77_0 (h77_0 l0_0 l1_0 a0 a1 0 ) (ex77_0 (r77_0 a0 a0 a1 0)) (fin77_0 l0_0 l1_0 a0 a1 (r77_0 a0 a0 a1 0))) := t77_0 (l0_0 := l0_0) (l1_0 := l1_0) (a0 := a0) (a1 := a1) (by assumption) (by assumption) a0 a1 [] []  rfl rfl rfl (by simp at *; omega); rw [h1] at t; exact t)
   exact cp (by kernel_rfl) (.g h0 (.f f1 (.f f2 (.z 12 (.h 15 (.loop (h77_0 l0_0 l1_0 a0 a1 0 ) (.exit 0) ⟨[(0, (.one (.bor l0_0 (map b_si a0)))), (1, (.one (.bor l1_0 (map b_si a1)))), (5, (.oi w0_1)), (14, (.one (.val (.bool w1_1))))], []⟩) .nil)))))
  | k1 =>
   try dsimp only
   have f1 : (⟨[(0, (.one (.bor l0_0 (map b_si a0)))), (1, (.one (.bor l1_0 (map b_si a1)))), (5, (.oi 0))], []⟩ : St) = h77_0 l0_0 l1_0 a0 a1 0  := (by rfl)
   have f2 : Ev F X (.code l77_0 (h77_0 l0_0 l1_0 a0 a1 0 ) .ret ⟨[(4, (.one (.val (.bool false))))], []⟩) := (by have t : Ev F X (.code l77_0 (h77_0 l0_0 l1_0 a0 a1 0 ) (ex77_0 (r77_0 a0 a0 a1 0)) (fin77_0 l0_0 l1_0 a0 a1 (r77_0 a0 a0 a1 0))) := t77_0 (l0_0 := l0_0) (l1_0 := l1_0) (a0 := a0) (a1 := a1) (by assumption) (by assumption) a0 a1 [] []  rfl rfl rfl (by simp at *; omega); rw [h1] at t; exact t)
   exact cp (by kernel_rfl) (.g h0 (.f f1 (.f f2 (.z 12 (.h 15 (.loop (h77_0 l0_0 l1_0 a0 a1 0 ) .ret ⟨[(4, (.one (.val (.bool false))))], []⟩) .nil)))))
theorem eqr77_0 (a0 : (List K_si)) : ∀ (l m : List K_si) (i : Int), l.length = m.length → (r77_0 a0 l m i = .k1 ∧ l ≠ m) ∨ (∃ w0 w1, r77_0 a0 l m i = .k0 w0 w1 ∧ l = m)
 | [], [], i, _ => .inr ⟨_, _, rfl, rfl⟩
 | [], _ :: _, i, h => by simp at h
 | _ :: _, [], i, h => by simp at h
 | x :: l, y :: m, i, h => by
  have ih := eqr77_0 a0 l m (i + 1) (by simpa using h)
  by_cases hxy : x = y
  ·subst hxy
   have e : r77_0 a0 (x :: l) (x :: m) i = r77_0 a0 l m (i + 1) := by simp [r77_0, ba_eq, eqd137]
   rw [e]
   rcases ih with ⟨h1, h2⟩ | ⟨w0, w1, h1, h2⟩
   ·exact .inl ⟨h1, by simp [h2]⟩
   ·exact .inr ⟨_, _, h1, by rw [h2]⟩
  ·have e : r77_0 a0 (x :: l) (y :: m) i = .k1 := by
    simp only [r77_0]
    first
     | ((repeat' split) <;> simp_all [ba_eq, eqd137]; done)
     | (cases x; cases y; (repeat' split) <;> simp_all [ba_eq, eqd137])
   exact .inl ⟨e, by simp [hxy]⟩
open Classical in
theorem eqd77 (a b : (List K_si)) : m77 a b = decide (a = b) := by
 rw [Bool.eq_iff_iff, decide_eq_true_eq]
 unfold m77
 by_cases hl : length a = length b
 ·rcases eqr77_0 a a b 0 hl with ⟨h1, h2⟩ | ⟨w0, w1, h1, h2⟩
  ·simp only [h1, length_map, hl]
   first
    | (simp [h2, ba_eq, eqd137]; done)
    | (cases a; cases b; simp_all [ba_eq, eqd137]; done)
    | (cases a; cases b; (repeat' split) <;> simp_all [ba_eq, eqd137])
  ·simp only [h1, length_map, hl]
   first
    | (simp [h2, ba_eq, eqd137]; done)
    | (cases a; cases b; simp_all [ba_eq, eqd137]; done)
    | (cases a; cases b; (repeat' split) <;> simp_all [ba_eq, eqd137])
 ·have hn : a ≠ b := by rintro rfl; exact hl rfl
  simp only [length_map]
  first
   | (simp [hn, hl, ba_eq, eqd137]; done)
   | ((repeat' split) <;> simp_all [ba_eq, eqd137]; done)
   | (simp [hn]; omega)
def m138 (a0 : K_R) (a1 : K_R) : Bool :=
 if (a0.f0 != a1.f0) = true then false else
 if (a0.f1 != a1.f1) = true then false else
  if (a0.f2 != a1.f2) = true then false else
   if (!(m77 a0.f3 a1.f3)) = true then false else
    if (a0.f4 != a1.f4) = true then false else
     true
theorem e138 {l0_3 : Nat} {a0 : K_R} {l1_3 : Nat} {a1 : K_R} (hy0 : length a0.f3 * 24 ≤ 140737488351232) (hy1 : length a1.f3 * 24 ≤ 140737488351232) : Ev F X (.call 138 [(.agg [(.val (.int .i64 a0.f0)), (.val (.int .i64 a0.f1)), (.val (.int .i64 a0.f2)), (.bor l0_3 (map b_si a0.f3)), (.val (.int .i64 a0.f4))]), (.agg [(.val (.int .i64 a1.f0)), (.val (.int .i64 a1.f1)), (.val (.int .i64 a1.f2)), (.bor l1_3 (map b_si a1.f3)), (.val (.int .i64 a1.f4))])] [] [] [(.one (.val (.bool (m138 a0 a1))))]) := by
 unfold m138
 by_cases h0 : (a0.f0 != a1.f0) = true
 ·try simp only [if_pos h0]
  exact cp (by kernel_rfl) (.f h0 (.y 16 .nil))
 ·try simp only [if_neg h0]
  by_cases h1 : (a0.f1 != a1.f1) = true
  ·try simp only [if_pos h1]
   exact cp (by kernel_rfl) (.g h0 (.f h1 (.z 16 (.y 27 .nil))))
  ·try simp only [if_neg h1]
   by_cases h2 : (a0.f2 != a1.f2) = true
   ·try simp only [if_pos h2]
    exact cp (by kernel_rfl) (.g h0 (.g h1 (.f h2 (.z 16 (.z 27 (.y 38 .nil))))))
   ·try simp only [if_neg h2]
    have f3 := e77 (l0_0 := l0_3 + 1) (l1_0 := l1_3 + 1) (a0 := a0.f3) (a1 := a1.f3) (by with_reducible assumption) (by with_reducible assumption)
    by_cases h3 : (!(m77 a0.f3 a1.f3)) = true
    ·try simp only [if_pos h3]
     exact cp (by kernel_rfl) (.g h0 (.g h1 (.g h2 (.z 16 (.z 27 (.z 38 (.r 48 [] [] f3 (.f h3 (.y 51 .nil)))))))))
    ·try simp only [if_neg h3]
     by_cases h4 : (a0.f4 != a1.f4) = true
     ·try simp only [if_pos h4]
      exact cp (by kernel_rfl) (.g h0 (.g h1 (.g h2 (.z 16 (.z 27 (.z 38 (.r 48 [] [] f3 (.g h3 (.f h4 (.z 51 (.y 62 .nil)))))))))))
     ·try simp only [if_neg h4]
      exact cp (by kernel_rfl) (.g h0 (.g h1 (.g h2 (.z 16 (.z 27 (.z 38 (.r 48 [] [] f3 (.g h3 (.g h4 (.z 51 (.z 62 .nil)))))))))))
open Classical in
theorem eqd138 (a b : K_R) : m138 a b = decide (a = b) := by
 rw [Bool.eq_iff_iff, decide_eq_true_eq]
 constructor
 ·intro h
  unfold m138 at h
  cases a; cases b
  (repeat' split at h) <;> simp_all [ba_eq, eqd77]
 ·rintro rfl
  simp [m138, ba_eq, eqd77]
inductive O78_0 where
 | k0 (w0 : Int) (w1 : Bool)
 | k1
def r78_0 (a0 : (List K_R)) : List K_R → List K_R → Int → O78_0
 | x0 :: y0, x1 :: y1, i =>
  if (!(m138 x0 x1)) = true then (O78_0.k1) else
  (r78_0 a0 y0 y1 (i + 1) )
 | _, _, i => (O78_0.k0 i (decide (i < ((length (map b_R a0)) : Int))))
def h78_0 (l0_0 : Nat) (l1_0 : Nat) (a0 : (List K_R)) (a1 : (List K_R)) (i : Int)  : St := ⟨[(0, (.one (.bor l0_0 (map b_R a0)))), (1, (.one (.bor l1_0 (map b_R a1)))), (5, (.one (.val (.int .i64 i))))], []⟩
def ex78_0 : O78_0 → VX.Exit
 | .k0 _ _ => (.exit 0)
 | .k1 => .ret
def fin78_0 (l0_0 : Nat) (l1_0 : Nat) (a0 : (List K_R)) (a1 : (List K_R)) : O78_0 → St
 | .k0 w0 w1 => ⟨[(0, (.one (.bor l0_0 (map b_R a0)))), (1, (.one (.bor l1_0 (map b_R a1)))), (5, (.one (.val (.int .i64 w0)))), (14, (.one (.val (.bool w1))))], []⟩
 | .k1 => ⟨[(4, (.one (.val (.bool false))))], []⟩
theorem t78_0 {l0_0 : Nat} {l1_0 : Nat} {a0 : (List K_R)} {a1 : (List K_R)} (hy0 : length a0 * 56 ≤ 140737488351232) (hy1 : ∀ z ∈ a0, ok_R z) (hy2 : length a1 * 56 ≤ 140737488351232) (hy3 : ∀ z ∈ a1, ok_R z) : ∀ (y0 : List K_R) (y1 : List K_R) (p : List K_R) (p_1 : List K_R) , p ++ y0 = a0 → p_1 ++ y1 = a1 → length p = length p_1 → length y0 = length y1 → Ev F X (.code l78_0 (h78_0 l0_0 l1_0 a0 a1 (length p : Int) ) (ex78_0 (r78_0 a0 y0 y1 (length p : Int) )) (fin78_0 l0_0 l1_0 a0 a1 (r78_0 a0 y0 y1 (length p : Int) )))
 | [], [], p, p_1, hp0, hp1, hq1, hl1 => by
  have hc : ¬ (decide ((length p : Int) < ((length (map b_R a0)) : Int))) = true := by
   rw [← hp0]; simp only [length_map, length_set, length_append, length_replicate, length_cons, length_nil, decide_eq_true_eq]; omega
  have st := ch b78_0 [(8, .b false)] (h78_0 l0_0 l1_0 a0 a1 (length p : Int)) (fin78_0 l0_0 l1_0 a0 a1 (.k0 (length p : Int) (decide ((length p : Int) < ((length (map b_R a0)) : Int))))) (.exit 0) 9 [(decide ((length p : Int) < ((length (map b_R a0)) : Int))) = false] (by kernel_rfl) ⟨(nt hc), trivial⟩
  exact .loopX st (show ((.exit 0) : VX.Exit) ≠ .normal from by simp)
 | x0 :: y0, x1 :: y1, p, p_1, hp0, hp1, hq1, hl1 => by
  have hc : (decide ((length p : Int) < ((length (map b_R a0)) : Int))) = true := lt1 hp0
  have Hx0 : (a0)[Int.toNat (length p : Int)]? = some x0 := by
   rw [← hp0, Int.toNat_natCast]; simp
  have Hx1 : (a1)[Int.toNat (length p : Int)]? = some x1 := by
   rw [← hp1, hq1, Int.toNat_natCast]; simp
  have Mx0_0 := hy1 x0 (List.mem_of_getElem? Hx0)
  have Mx1_0 := hy3 x1 (List.mem_of_getElem? Hx1)
  have hlen : length (a0) = length p + length y0 + 1 := by rw [← hp0]; simp; omega
  have hw : w64 ((length p : Int) + 1) = (length p : Int) + 1 := wrap64 (by omega)
  simp only [r78_0]
  by_cases h_1 : (!(m138 x0 x1)) = true
  ·try simp only [if_pos h_1]
   have st := ch b78_0 [(8, .b true), (14, .row (b_R x0)), (22, .row (b_R x1)), (26, .ret [] [(.one (.val (.bool (m138 x0 x1))))] [] []), (29, .b true)] (h78_0 l0_0 l1_0 a0 a1 (length p : Int)) (fin78_0 l0_0 l1_0 a0 a1 (.k1)) .ret 32 [(decide ((length p : Int) < ((length (map b_R a0)) : Int))) = true, 0 ≤ (length p : Int), (map b_R a0)[(Int.toNat (length p : Int))]? = some (b_R x0), 0 ≤ (length p : Int), (map b_R a1)[(Int.toNat (length p : Int))]? = some (b_R x1), Ev F X (.call 138 [(.agg [(.i x0.f0), (.i x0.f1), (.i x0.f2), (.bor (l0_0 + 1) (map b_si x0.f3)), (.i x0.f4)]), (.agg [(.i x1.f0), (.i x1.f1), (.i x1.f2), (.bor (l1_0 + 1) (map b_si x1.f3)), (.i x1.f4)])] [] [] [(.one (.val (.bool (m138 x0 x1))))]), (!(m138 x0 x1)) = true] (by kernel_rfl) ⟨hc, (by omega), (by rw [getElem?_map, Hx0]; rfl), (by omega), (by rw [getElem?_map, Hx1]; rfl), (e138 (a0 := x0) (a1 := x1) (by assumption) (by assumption)), h_1, trivial⟩
   exact .loopX st (show (.ret : VX.Exit) ≠ .normal from by simp)
  ·try simp only [if_neg h_1]
   have st := ch b78_0 [(8, .b true), (14, .row (b_R x0)), (22, .row (b_R x1)), (26, .ret [] [(.one (.val (.bool (m138 x0 x1))))] [] []), (29, .b false)] (h78_0 l0_0 l1_0 a0 a1 (length p : Int)) ⟨[(0, (.one (.bor l0_0 (map b_R a0)))), (1, (.one (.bor l1_0 (map b_R a1)))), (5, (.oi (w64 ((length p : Int) + 1))))], []⟩ .normal 36 [(decide ((length p : Int) < ((length (map b_R a0)) : Int))) = true, 0 ≤ (length p : Int), (map b_R a0)[(Int.toNat (length p : Int))]? = some (b_R x0), 0 ≤ (length p : Int), (map b_R a1)[(Int.toNat (length p : Int))]? = some (b_R x1), Ev F X (.call 138 [(.agg [(.i x0.f0), (.i x0.f1), (.i x0.f2), (.bor (l0_0 + 1) (map b_si x0.f3)), (.i x0.f4)]), (.agg [(.i x1.f0), (.i x1.f1), (.i x1.f2), (.bor (l1_0 + 1) (map b_si x1.f3)), (.i x1.f4)])] [] [] [(.one (.val (.bool (m138 x0 x1))))]), (!(m138 x0 x1)) = false, True] (by kernel_rfl) ⟨hc, (by omega), (by rw [getElem?_map, Hx0]; rfl), (by omega), (by rw [getElem?_map, Hx1]; rfl), (e138 (a0 := x0) (a1 := x1) (by assumption) (by assumption)), (nt h_1), trivial, trivial⟩
   have ih := t78_0 (l0_0 := l0_0) (l1_0 := l1_0) (a0 := a0) (a1 := a1) hy0 hy1 hy2 hy3 y0 y1 (p ++ [x0]) (p_1 ++ [x1])  (by rw [append_assoc]; exact hp0) (by rw [append_assoc]; exact hp1) (by simp only [length_map, length_set, length_append, length_replicate, length_cons, length_nil]; omega) (by simp only [length_map, length_set, length_append, length_replicate, length_cons, length_nil] at hl1; omega)
   rw [show ((p ++ [x0]).length : Int) = (p.length : Int) + 1 from by simp] at ih
   replace st := to_ (s' := h78_0 l0_0 l1_0 a0 a1 ((length p : Int) + 1) ) st (by unfold h78_0; simp only [hw]; done)
   exact .loopN st ih
def m78 (a0 : (List K_R)) (a1 : (List K_R)) : Bool :=
 if (((length (map b_R a0)) : Int) != ((length (map b_R a1)) : Int)) = true then false else
 (match r78_0 a0 a0 a1 0 with | .k0 w0_1 w1_1 => true | .k1 => false)
theorem e78 {l0_0 : Nat} {a0 : (List K_R)} {l1_0 : Nat} {a1 : (List K_R)} (hy0 : length a0 * 56 ≤ 140737488351232) (hy1 : ∀ z ∈ a0, ok_R z) (hy2 : length a1 * 56 ≤ 140737488351232) (hy3 : ∀ z ∈ a1, ok_R z) : Ev F X (.call 78 [(.one (.bor l0_0 (map b_R a0))), (.one (.bor l1_0 (map b_R a1)))] [] [] [(.one (.val (.bool (m78 a0 a1))))]) := by
 unfold m78
 by_cases h0 : (((length (map b_R a0)) : Int) != ((length (map b_R a1)) : Int)) = true
 ·try simp only [if_pos h0]
  exact cp (by kernel_rfl) (.f h0 (.y 12 .nil))
 ·try simp only [if_neg h0]
  cases h1 : r78_0 a0 a0 a1 0 with
  | k0 w0_1 w1_1 =>
   try dsimp only
   have f1 : (⟨[(0, (.one (.bor l0_0 (map b_R a0)))), (1, (.one (.bor l1_0 (map b_R a1)))), (5, (.oi 0))], []⟩ : St) = h78_0 l0_0 l1_0 a0 a1 0  := (by rfl)
   have f2 : Ev F X (.code l78_0 (h78_0 l0_0 l1_0 a0 a1 0 ) (.exit 0) ⟨[(0, (.one (.bor l0_0 (map b_R a0)))), (1, (.one (.bor l1_0 (map b_R a1)))), (5, (.oi w0_1)), (14, (.one (.val (.bool w1_1))))], []⟩) := (by have t : Ev F X (.code l78_0 (h78_0 l0_0 l1_0 a0 a1 0 ) (ex78_0 (r78_0 a0 a0 a1 0)) (fin78_0 l0_0 l1_0 a0 a1 (r78_0 a0 a0 a1 0))) := t78_0 (l0_0 := l0_0) (l1_0 := l1_0) (a0 := a0) (a1 := a1) (by assumption) (by assumption) (by assumption) (by assumption) a0 a1 [] []  rfl rfl rfl (by simp at *; omega); rw [h1] at t; exact t)
   exact cp (by kernel_rfl) (.g h0 (.f f1 (.f f2 (.z 12 (.h 15 (.loop (h78_0 l0_0 l1_0 a0 a1 0 ) (.exit 0) ⟨[(0, (.one (.bor l0_0 (map b_R a0)))), (1, (.one (.bor l1_0 (map b_R a1)))), (5, (.oi w0_1)), (14, (.one (.val (.bool w1_1))))], []⟩) .nil)))))
  | k1 =>
   try dsimp only
   have f1 : (⟨[(0, (.one (.bor l0_0 (map b_R a0)))), (1, (.one (.bor l1_0 (map b_R a1)))), (5, (.oi 0))], []⟩ : St) = h78_0 l0_0 l1_0 a0 a1 0  := (by rfl)
   have f2 : Ev F X (.code l78_0 (h78_0 l0_0 l1_0 a0 a1 0 ) .ret ⟨[(4, (.one (.val (.bool false))))], []⟩) := (by have t : Ev F X (.code l78_0 (h78_0 l0_0 l1_0 a0 a1 0 ) (ex78_0 (r78_0 a0 a0 a1 0)) (fin78_0 l0_0 l1_0 a0 a1 (r78_0 a0 a0 a1 0))) := t78_0 (l0_0 := l0_0) (l1_0 := l1_0) (a0 := a0) (a1 := a1) (by assumption) (by assumption) (by assumption) (by assumption) a0 a1 [] []  rfl rfl rfl (by simp at *; omega); rw [h1] at t; exact t)
   exact cp (by kernel_rfl) (.g h0 (.f f1 (.f f2 (.z 12 (.h 15 (.loop (h78_0 l0_0 l1_0 a0 a1 0 ) .ret ⟨[(4, (.one (.val (.bool false))))], []⟩) .nil)))))
theorem eqr78_0 (a0 : (List K_R)) : ∀ (l m : List K_R) (i : Int), l.length = m.length → (r78_0 a0 l m i = .k1 ∧ l ≠ m) ∨ (∃ w0 w1, r78_0 a0 l m i = .k0 w0 w1 ∧ l = m)
 | [], [], i, _ => .inr ⟨_, _, rfl, rfl⟩
 | [], _ :: _, i, h => by simp at h
 | _ :: _, [], i, h => by simp at h
 | x :: l, y :: m, i, h => by
  have ih := eqr78_0 a0 l m (i + 1) (by simpa using h)
  by_cases hxy : x = y
  ·subst hxy
   have e : r78_0 a0 (x :: l) (x :: m) i = r78_0 a0 l m (i + 1) := by simp [r78_0, ba_eq, eqd138]
   rw [e]
   rcases ih with ⟨h1, h2⟩ | ⟨w0, w1, h1, h2⟩
   ·exact .inl ⟨h1, by simp [h2]⟩
   ·exact .inr ⟨_, _, h1, by rw [h2]⟩
  ·have e : r78_0 a0 (x :: l) (y :: m) i = .k1 := by
    simp only [r78_0]
    first
     | ((repeat' split) <;> simp_all [ba_eq, eqd138]; done)
     | (cases x; cases y; (repeat' split) <;> simp_all [ba_eq, eqd138])
   exact .inl ⟨e, by simp [hxy]⟩
open Classical in
theorem eqd78 (a b : (List K_R)) : m78 a b = decide (a = b) := by
 rw [Bool.eq_iff_iff, decide_eq_true_eq]
 unfold m78
 by_cases hl : length a = length b
 ·rcases eqr78_0 a a b 0 hl with ⟨h1, h2⟩ | ⟨w0, w1, h1, h2⟩
  ·simp only [h1, length_map, hl]
   first
    | (simp [h2, ba_eq, eqd138]; done)
    | (cases a; cases b; simp_all [ba_eq, eqd138]; done)
    | (cases a; cases b; (repeat' split) <;> simp_all [ba_eq, eqd138])
  ·simp only [h1, length_map, hl]
   first
    | (simp [h2, ba_eq, eqd138]; done)
    | (cases a; cases b; simp_all [ba_eq, eqd138]; done)
    | (cases a; cases b; (repeat' split) <;> simp_all [ba_eq, eqd138])
 ·have hn : a ≠ b := by rintro rfl; exact hl rfl
  simp only [length_map]
  first
   | (simp [hn, hl, ba_eq, eqd138]; done)
   | ((repeat' split) <;> simp_all [ba_eq, eqd138]; done)
   | (simp [hn]; omega)
def m18 (a0 : K_B) (a1 : K_B) : Bool :=
 if (a0.f0 != a1.f0) = true then false else
 if (a0.f1 != a1.f1) = true then false else
  if (!(m77 a0.f2 a1.f2)) = true then false else
   if (!(m78 a0.f3 a1.f3)) = true then false else
    if (!(m77 a0.f4 a1.f4)) = true then false else
     if (a0.f5 != a1.f5) = true then false else
      if (a0.f6 != a1.f6) = true then false else
       if (a0.f7 != a1.f7) = true then false else
        true
theorem e18 {l0_2 : Nat} {l0_3 : Nat} {l0_4 : Nat} {a0 : K_B} {l1_2 : Nat} {l1_3 : Nat} {l1_4 : Nat} {a1 : K_B} (hy0 : length a0.f2 * 24 ≤ 140737488351232) (hy1 : length a0.f3 * 56 ≤ 140737488351232) (hy2 : ∀ z ∈ a0.f3, ok_R z) (hy3 : length a0.f4 * 24 ≤ 140737488351232) (hy4 : length a1.f2 * 24 ≤ 140737488351232) (hy5 : length a1.f3 * 56 ≤ 140737488351232) (hy6 : ∀ z ∈ a1.f3, ok_R z) (hy7 : length a1.f4 * 24 ≤ 140737488351232) : Ev F X (.call 18 [(.agg [(.val (.int .i64 a0.f0)), (.val (.int .i64 a0.f1)), (.bor l0_2 (map b_si a0.f2)), (.bor l0_3 (map b_R a0.f3)), (.bor l0_4 (map b_si a0.f4)), (.val (.int .i64 a0.f5)), (.val (.int .i64 a0.f6)), (.val (.int .i64 a0.f7))]), (.agg [(.val (.int .i64 a1.f0)), (.val (.int .i64 a1.f1)), (.bor l1_2 (map b_si a1.f2)), (.bor l1_3 (map b_R a1.f3)), (.bor l1_4 (map b_si a1.f4)), (.val (.int .i64 a1.f5)), (.val (.int .i64 a1.f6)), (.val (.int .i64 a1.f7))])] [] [] [(.one (.val (.bool (m18 a0 a1))))]) := by
 unfold m18
 by_cases h0 : (a0.f0 != a1.f0) = true
 ·try simp only [if_pos h0]
  exact cp (by kernel_rfl) (.f h0 (.y 16 .nil))
 ·try simp only [if_neg h0]
  by_cases h1 : (a0.f1 != a1.f1) = true
  ·try simp only [if_pos h1]
   exact cp (by kernel_rfl) (.g h0 (.f h1 (.z 16 (.y 27 .nil))))
  ·try simp only [if_neg h1]
   have f2 := e77 (l0_0 := l0_2 + 1) (l1_0 := l1_2 + 1) (a0 := a0.f2) (a1 := a1.f2) (by with_reducible assumption) (by with_reducible assumption)
   by_cases h2 : (!(m77 a0.f2 a1.f2)) = true
   ·try simp only [if_pos h2]
    exact cp (by kernel_rfl) (.g h0 (.g h1 (.z 16 (.z 27 (.r 37 [] [] f2 (.f h2 (.y 40 .nil)))))))
   ·try simp only [if_neg h2]
    have f4 := e78 (l0_0 := l0_3 + 1) (l1_0 := l1_3 + 1) (a0 := a0.f3) (a1 := a1.f3) (by with_reducible assumption) (by with_reducible assumption) (by with_reducible assumption) (by with_reducible assumption)
    by_cases h3 : (!(m78 a0.f3 a1.f3)) = true
    ·try simp only [if_pos h3]
     exact cp (by kernel_rfl) (.g h0 (.g h1 (.z 16 (.z 27 (.r 37 [] [] f2 (.g h2 (.z 40 (.r 50 [] [] f4 (.f h3 (.y 53 .nil))))))))))
    ·try simp only [if_neg h3]
     have f6 := e77 (l0_0 := l0_4 + 1) (l1_0 := l1_4 + 1) (a0 := a0.f4) (a1 := a1.f4) (by with_reducible assumption) (by with_reducible assumption)
     by_cases h4 : (!(m77 a0.f4 a1.f4)) = true
     ·try simp only [if_pos h4]
      exact cp (by kernel_rfl) (.g h0 (.g h1 (.z 16 (.z 27 (.r 37 [] [] f2 (.g h2 (.z 40 (.r 50 [] [] f4 (.g h3 (.z 53 (.r 63 [] [] f6 (.f h4 (.y 66 .nil)))))))))))))
     ·try simp only [if_neg h4]
      by_cases h5 : (a0.f5 != a1.f5) = true
      ·try simp only [if_pos h5]
       exact cp (by kernel_rfl) (.g h0 (.g h1 (.z 16 (.z 27 (.r 37 [] [] f2 (.g h2 (.z 40 (.r 50 [] [] f4 (.g h3 (.z 53 (.r 63 [] [] f6 (.g h4 (.f h5 (.z 66 (.y 77 .nil)))))))))))))))
      ·try simp only [if_neg h5]
       by_cases h6 : (a0.f6 != a1.f6) = true
       ·try simp only [if_pos h6]
        exact cp (by kernel_rfl) (.g h0 (.g h1 (.z 16 (.z 27 (.r 37 [] [] f2 (.g h2 (.z 40 (.r 50 [] [] f4 (.g h3 (.z 53 (.r 63 [] [] f6 (.g h4 (.g h5 (.f h6 (.z 66 (.z 77 (.y 88 .nil)))))))))))))))))
       ·try simp only [if_neg h6]
        by_cases h7 : (a0.f7 != a1.f7) = true
        ·try simp only [if_pos h7]
         exact cp (by kernel_rfl) (.g h0 (.g h1 (.z 16 (.z 27 (.r 37 [] [] f2 (.g h2 (.z 40 (.r 50 [] [] f4 (.g h3 (.z 53 (.r 63 [] [] f6 (.g h4 (.g h5 (.g h6 (.f h7 (.z 66 (.z 77 (.z 88 (.y 99 .nil)))))))))))))))))))
        ·try simp only [if_neg h7]
         exact cp (by kernel_rfl) (.g h0 (.g h1 (.z 16 (.z 27 (.r 37 [] [] f2 (.g h2 (.z 40 (.r 50 [] [] f4 (.g h3 (.z 53 (.r 63 [] [] f6 (.g h4 (.g h5 (.g h6 (.g h7 (.z 66 (.z 77 (.z 88 (.z 99 .nil)))))))))))))))))))
open Classical in
theorem eqd18 (a b : K_B) : m18 a b = decide (a = b) := by
 rw [Bool.eq_iff_iff, decide_eq_true_eq]
 constructor
 ·intro h
  unfold m18 at h
  cases a; cases b
  (repeat' split at h) <;> simp_all [ba_eq, eqd77, eqd78]
 ·rintro rfl
  simp [m18, ba_eq, eqd77, eqd78]
def m26 (a0 : K_C) (a1 : K_C) : Bool :=
 if (a0.f0 != a1.f0) = true then false else
 if (a0.f1 != a1.f1) = true then false else
  if (!(m18 (K_B.mk a0.f2 a0.f3 a0.f4 a0.f5 a0.f6 a0.f7 a0.f8 a0.f9) (K_B.mk a1.f2 a1.f3 a1.f4 a1.f5 a1.f6 a1.f7 a1.f8 a1.f9))) = true then false else
   true
theorem e26 {l0_4 : Nat} {l0_5 : Nat} {l0_6 : Nat} {a0 : K_C} {l1_4 : Nat} {l1_5 : Nat} {l1_6 : Nat} {a1 : K_C} (hy0 : length a0.f4 * 24 ≤ 140737488351232) (hy1 : length a0.f5 * 56 ≤ 140737488351232) (hy2 : ∀ z ∈ a0.f5, ok_R z) (hy3 : length a0.f6 * 24 ≤ 140737488351232) (hy4 : length a1.f4 * 24 ≤ 140737488351232) (hy5 : length a1.f5 * 56 ≤ 140737488351232) (hy6 : ∀ z ∈ a1.f5, ok_R z) (hy7 : length a1.f6 * 24 ≤ 140737488351232) : Ev F X (.call 26 [(.agg [(.val (.int .i64 a0.f0)), (.val (.int .i64 a0.f1)), (.val (.int .i64 a0.f2)), (.val (.int .i64 a0.f3)), (.bor l0_4 (map b_si a0.f4)), (.bor l0_5 (map b_R a0.f5)), (.bor l0_6 (map b_si a0.f6)), (.val (.int .i64 a0.f7)), (.val (.int .i64 a0.f8)), (.val (.int .i64 a0.f9))]), (.agg [(.val (.int .i64 a1.f0)), (.val (.int .i64 a1.f1)), (.val (.int .i64 a1.f2)), (.val (.int .i64 a1.f3)), (.bor l1_4 (map b_si a1.f4)), (.bor l1_5 (map b_R a1.f5)), (.bor l1_6 (map b_si a1.f6)), (.val (.int .i64 a1.f7)), (.val (.int .i64 a1.f8)), (.val (.int .i64 a1.f9))])] [] [] [(.one (.val (.bool (m26 a0 a1))))]) := by
 unfold m26
 by_cases h0 : (a0.f0 != a1.f0) = true
 ·try simp only [if_pos h0]
  exact cp (by kernel_rfl) (.f h0 (.y 16 .nil))
 ·try simp only [if_neg h0]
  by_cases h1 : (a0.f1 != a1.f1) = true
  ·try simp only [if_pos h1]
   exact cp (by kernel_rfl) (.g h0 (.f h1 (.z 16 (.y 27 .nil))))
  ·try simp only [if_neg h1]
   have f2 := e18 (l0_2 := l0_4 + 1) (l0_3 := l0_5 + 1) (l0_4 := l0_6 + 1) (l1_2 := l1_4 + 1) (l1_3 := l1_5 + 1) (l1_4 := l1_6 + 1) (a0 := (K_B.mk a0.f2 a0.f3 a0.f4 a0.f5 a0.f6 a0.f7 a0.f8 a0.f9)) (a1 := (K_B.mk a1.f2 a1.f3 a1.f4 a1.f5 a1.f6 a1.f7 a1.f8 a1.f9)) (by with_reducible assumption) (by with_reducible assumption) (by with_reducible assumption) (by with_reducible assumption) (by with_reducible assumption) (by with_reducible assumption) (by with_reducible assumption) (by with_reducible assumption)
   by_cases h2 : (!(m18 (K_B.mk a0.f2 a0.f3 a0.f4 a0.f5 a0.f6 a0.f7 a0.f8 a0.f9) (K_B.mk a1.f2 a1.f3 a1.f4 a1.f5 a1.f6 a1.f7 a1.f8 a1.f9))) = true
   ·try simp only [if_pos h2]
    exact cp (by kernel_rfl) (.g h0 (.g h1 (.z 16 (.z 27 (.r 37 [] [] f2 (.f h2 (.y 40 .nil)))))))
   ·try simp only [if_neg h2]
    exact cp (by kernel_rfl) (.g h0 (.g h1 (.z 16 (.z 27 (.r 37 [] [] f2 (.g h2 (.z 40 .nil)))))))
open Classical in
theorem eqd26 (a b : K_C) : m26 a b = decide (a = b) := by
 rw [Bool.eq_iff_iff, decide_eq_true_eq]
 constructor
 ·intro h
  unfold m26 at h
  cases a; cases b
  (repeat' split at h) <;> simp_all [ba_eq, eqd18]
 ·rintro rfl
  simp [m26, ba_eq, eqd18]
inductive O141_0 where
 | k0 (w0 : Int) (w1 : ByteArray) (w2 : Bool)
def r141_0  : Nat → Int → ByteArray → O141_0
 | n + 1, v0, v1 =>
  if (decide (v0 > 0)) = true then (r141_0 n (w64 (Int.tdiv v0 10)) ((bytesOf [(IntKind.wrap .u8 ((w64 (48 + (Int.tmod v0 10)))))]) ++ v1)) else
  (O141_0.k0 v0 v1 (decide (v0 > 0)))
 | 0, v0, v1 => (O141_0.k0 v0 v1 (decide (v0 > 0)))
def h141_0 (a0 : Int) (v0 : Int) (v1 : ByteArray) : St := ⟨[(0, (.one (.val (.int .i64 v0)))), (3, (.one (.val (.string v1))))], []⟩
def ex141_0 : O141_0 → VX.Exit
 | .k0 _ _ _ => (.exit 0)
def fin141_0 (a0 : Int) : O141_0 → St
 | .k0 w0 w1 w2 => ⟨[(0, (.one (.val (.int .i64 w0)))), (3, (.one (.val (.string w1)))), (7, (.one (.val (.bool w2))))], []⟩
theorem t141_0 {a0 : Int}  : ∀ (n : Nat) (v0 : Int) (v1 : ByteArray), ByteArray.size v1 + pot64 v0 ≤ 100 → fuel64 v0 ≤ n → Ev F X (.code l141_0 (h141_0 a0 v0 v1) (ex141_0 (r141_0 n v0 v1)) (fin141_0 a0 (r141_0 n v0 v1)))
 | 0, v0, v1, hi0, hn => by
  have hc : ¬ (decide (v0 > 0)) = true := by first | (exact fuel64_zero hn) | (simp only [decide_eq_true_eq] at *; omega) | (simp at *; omega)
  have st := codeP_ok (F := F) (X := X) (c := b141_0) (t := 0) (σ := h141_0 a0 v0 v1) (σ' := ⟨[(0, (.oi v0)), (3, (.one (.val (.string v1)))), (7, (.one (.val (.bool (decide (v0 > 0))))))], []⟩) (e := (.exit 0)) (t' := 5) (by kernel_rfl) (.g hc (.z 4 .nil))
  replace st := to_ (s' := fin141_0 a0 (.k0 v0 v1 (decide (v0 > 0)))) st (by rfl)
  exact .loopX st (show ((.exit 0) : VX.Exit) ≠ .normal from by simp)
 | n + 1, v0, v1, hi0, hn => by
  simp only [r141_0]
  by_cases h_0 : (decide (v0 > 0)) = true
  ·try simp only [if_pos h_0]
   have f1 : (10 : Int) ≠ 0 := (by omega)
   have f3 : 1 ≤ 1 := (by omega)
   have f4 : rowsInts .u8 [[(.val (.int .u8 (IntKind.wrap .u8 ((w64 (48 + (Int.tmod v0 10)))))))]] = some [(IntKind.wrap .u8 ((w64 (48 + (Int.tmod v0 10)))))] := (by simp only [List.drop_zero, tbr, tsi, ly_y, ly0_y, ← List.map_append, List.take_length, List.cons_append, List.nil_append, append_assoc, toBR_y, fullR_y, pureR_y, copy_y, ints_y]; done)
   have f5 : ByteArray.size (bytesOf [(IntKind.wrap .u8 ((w64 (48 + (Int.tmod v0 10)))))]) + ByteArray.size v1 ≤ 9223372036854775807 := (by simp only [bytesOf_size, length_cons, length_nil]; omega)
   have f6 : (10 : Int) ≠ 0 := (by with_reducible assumption)
   have st := codeP_ok (F := F) (X := X) (c := b141_0) (t := 0) (σ := h141_0 a0 v0 v1) (σ' := ⟨[(0, (.oi (w64 (Int.tdiv v0 10)))), (3, (.one (.val (.string ((bytesOf [(IntKind.wrap .u8 ((w64 (48 + (Int.tmod v0 10)))))]) ++ v1)))))], []⟩) (e := .normal) (t' := 29) (by kernel_rfl) (.f h_0 (.f f1 (.f trivial (.f f3 (.f f4 (.f f5 (.f f6 (.y 4 (.h 16 (.ints [(IntKind.wrap .u8 ((w64 (48 + (Int.tmod v0 10)))))]) .nil)))))))))
   have ih := t141_0 (a0 := a0)  n (w64 (Int.tdiv v0 10)) ((bytesOf [(IntKind.wrap .u8 ((w64 (48 + (Int.tmod v0 10)))))]) ++ v1) (by have q := pot64_tdiv (x := v0) (by assumption); simp only [ByteArray.size_append, bytesOf_size, length_cons, length_nil]; omega) (by exact fuel64_tdiv (by assumption) hn)
   replace st := to_ (s' := h141_0 a0 (w64 (Int.tdiv v0 10)) ((bytesOf [(IntKind.wrap .u8 ((w64 (48 + (Int.tmod v0 10)))))]) ++ v1)) st (by rfl)
   exact .loopN st ih
  ·try simp only [if_neg h_0]
   have st := codeP_ok (F := F) (X := X) (c := b141_0) (t := 0) (σ := h141_0 a0 v0 v1) (σ' := ⟨[(0, (.oi v0)), (3, (.one (.val (.string v1)))), (7, (.one (.val (.bool (decide (v0 > 0))))))], []⟩) (e := (.exit 0)) (t' := 5) (by kernel_rfl) (.g h_0 (.z 4 .nil))
   replace st := to_ (s' := fin141_0 a0 (.k0 v0 v1 (decide (v0 > 0)))) st (by rfl)
   exact .loopX st (show ((.exit 0) : VX.Exit) ≠ .normal from by simp)
def post141_0 (a0 : Int) : O141_0 → Prop
 | .k0 _ w1 _ => ByteArray.size w1 ≤ 100
theorem z141_0 {a0 : Int}  : ∀ (n : Nat) (v0 : Int) (v1 : ByteArray), ByteArray.size v1 + pot64 v0 ≤ 100 → post141_0 a0 (r141_0 n v0 v1)
 | 0, v0, v1, hi0 => by
  simp only [r141_0]
  first | trivial | (show _ ; simp only [post141_0]; omega) | (simp only [post141_0] at *; omega) | (have q := pot64_tdiv (x := v0) (by assumption); simp only [ByteArray.size_append, bytesOf_size, length_cons, length_nil]; omega) | (simp only [decide_eq_true_eq] at *; omega)
 | n + 1, v0, v1, hi0 => by
  simp only [r141_0]
  by_cases h_0 : (decide (v0 > 0)) = true
  ·try simp only [if_pos h_0]
   exact z141_0 (a0 := a0) n (w64 (Int.tdiv v0 10)) ((bytesOf [(IntKind.wrap .u8 ((w64 (48 + (Int.tmod v0 10)))))]) ++ v1) (by have q := pot64_tdiv (x := v0) (by assumption); simp only [ByteArray.size_append, bytesOf_size, length_cons, length_nil]; omega)
  ·try simp only [if_neg h_0]
   first | trivial | (show _ ; simp only [post141_0]; omega) | (simp only [post141_0] at *; omega) | (have q := pot64_tdiv (x := v0) (by assumption); simp only [ByteArray.size_append, bytesOf_size, length_cons, length_nil]; omega) | (simp only [decide_eq_true_eq] at *; omega)
def m141 (a0 : Int) : ByteArray :=
 if (decide (a0 ≤ 0)) = true then (⟨#[109, 48]⟩ : ByteArray) else
 (match r141_0 (fuel64 a0) a0 (⟨#[]⟩ : ByteArray) with | .k0 w0_1 w1_1 w2_1 => ((⟨#[109]⟩ : ByteArray) ++ w1_1))
theorem e141 {a0 : Int} : Ev F X (.call 141 [(.one (.val (.int .i64 a0)))] [] [] [(.one (.val (.string (m141 a0))))]) := by
 unfold m141
 by_cases h0 : (decide (a0 ≤ 0)) = true
 ·try simp only [if_pos h0]
  exact cp (by kernel_rfl) (.f h0 (.y 6 .nil))
 ·try simp only [if_neg h0]
  cases h1 : r141_0 (fuel64 a0) a0 (⟨#[]⟩ : ByteArray) with
  | k0 w0_1 w1_1 w2_1 =>
   try dsimp only
   have zh1 := z141_0 (a0 := a0) (fuel64 a0) a0 (⟨#[]⟩ : ByteArray) (by have q := pot64_le a0; show 0 + pot64 a0 ≤ 100; omega); rw [h1] at zh1; simp only [post141_0] at zh1
   have f1 : (⟨[(0, (.oi a0)), (3, (.one (.val (.string (⟨#[]⟩ : ByteArray)))))], []⟩ : St) = h141_0 a0 a0 (⟨#[]⟩ : ByteArray) := (by rfl)
   have f2 : Ev F X (.code l141_0 (h141_0 a0 a0 (⟨#[]⟩ : ByteArray)) (.exit 0) ⟨[(0, (.oi w0_1)), (3, (.one (.val (.string w1_1)))), (7, (.one (.val (.bool w2_1))))], []⟩) := (by have t : Ev F X (.code l141_0 (h141_0 a0 a0 (⟨#[]⟩ : ByteArray)) (ex141_0 (r141_0 (fuel64 a0) a0 (⟨#[]⟩ : ByteArray))) (fin141_0 a0 (r141_0 (fuel64 a0) a0 (⟨#[]⟩ : ByteArray)))) := t141_0 (a0 := a0)  (fuel64 a0) a0 (⟨#[]⟩ : ByteArray)  (by have q := pot64_le a0; show 0 + pot64 a0 ≤ 100; omega) (Nat.le_refl _); rw [h1] at t; exact t)
   have f3 : ByteArray.size (⟨#[109]⟩ : ByteArray) + ByteArray.size w1_1 ≤ 9223372036854775807 := (by show 1 + _ ≤ _; omega)
   exact cp (by kernel_rfl) (.g h0 (.f f1 (.f f2 (.f f3 (.z 6 (.h 9 (.loop (h141_0 a0 a0 (⟨#[]⟩ : ByteArray)) (.exit 0) ⟨[(0, (.oi w0_1)), (3, (.one (.val (.string w1_1)))), (7, (.one (.val (.bool w2_1))))], []⟩) .nil))))))
inductive O85_0 where
 | k0 (w0 : List K_si) (w1 : Int) (w2 : Int) (w3 : Bool)
def r85_0 (a0 : (List K_si)) : List K_si → Int → List K_si → Int → O85_0
 | x0 :: y0, i, v0, v1 =>
  (r85_0 a0 y0 (i + 1) (set v0 (Int.toNat i) (K_si.mk (m141 v1) (w64 (v1 + 1)))) (w64 ((w64 (v1 + 1)) + 1)))
 | [], i, v0, v1 => (O85_0.k0 v0 v1 i (decide (i < ((length (map d_si a0)) : Int))))
def h85_0 (a0 : (List K_si)) (a1 : Int) (i : Int) (v0 : List K_si) (v1 : Int) : St := ⟨[(0, (.one (.ref ⟨(0, 0, 0), [], 0, (length (map d_si a0))⟩))), (1, (.one (.val (.int .i64 v1)))), (5, (.one (.val (.int .i64 i))))], [((0, 0, 0), .live ⟨2, (map d_si v0), []⟩)]⟩
def ex85_0 : O85_0 → VX.Exit
 | .k0 _ _ _ _ => (.exit 0)
def fin85_0 (a0 : (List K_si)) (a1 : Int) : O85_0 → St
 | .k0 w0 w1 w2 w3 => ⟨[(0, (.one (.ref ⟨(0, 0, 0), [], 0, (length (map d_si a0))⟩))), (1, (.one (.val (.int .i64 w1)))), (5, (.one (.val (.int .i64 w2)))), (9, (.one (.val (.bool w3))))], [((0, 0, 0), .live ⟨2, (map d_si w0), []⟩)]⟩
theorem t85_0 {a0 : (List K_si)} {a1 : Int} (hy0 : length a0 * 24 ≤ 140737488351232) : ∀ (y0 : List K_si) (p : List K_si) (v0 : List K_si) (v1 : Int), p ++ y0 = a0 → length v0 = (length (map d_si a0)) → drop (length p) v0 = y0 → Ev F X (.code l85_0 (h85_0 a0 a1 (length p : Int) v0 v1) (ex85_0 (r85_0 a0 y0 (length p : Int) v0 v1)) (fin85_0 a0 a1 (r85_0 a0 y0 (length p : Int) v0 v1)))
 | [], p, v0, v1, hp0, hi0, hi1 => by
  have hc : ¬ (decide ((length p : Int) < ((length (map d_si a0)) : Int))) = true := by
   rw [← hp0]; simp only [length_map, length_set, length_append, length_replicate, length_cons, length_nil, decide_eq_true_eq]; omega
  have hj0 := hi0; try simp only [length_map, length_set, length_append, length_replicate, length_cons, length_nil, Int.toNat_natCast] at hj0
  have hj1 := hi1; try simp only [length_map, length_set, length_append, length_replicate, length_cons, length_nil, Int.toNat_natCast] at hj1
  have st := ch b85_0 [(8, .b false)] (h85_0 a0 a1 (length p : Int) v0 v1) (fin85_0 a0 a1 (.k0 v0 v1 (length p : Int) (decide ((length p : Int) < ((length (map d_si a0)) : Int))))) (.exit 0) 9 [(decide ((length p : Int) < ((length (map d_si a0)) : Int))) = false] (by kernel_rfl) ⟨(nt hc), trivial⟩
  exact .loopX st (show ((.exit 0) : VX.Exit) ≠ .normal from by simp)
 | x0 :: y0, p, v0, v1, hp0, hi0, hi1 => by
  have hc : (decide ((length p : Int) < ((length (map d_si a0)) : Int))) = true := lt1 hp0
  have Hx0 : (a0)[Int.toNat (length p : Int)]? = some x0 := by
   rw [← hp0, Int.toNat_natCast]; simp
  have hlen : length (a0) = length p + length y0 + 1 := by rw [← hp0]; simp; omega
  have hw : w64 ((length p : Int) + 1) = (length p : Int) + 1 := wrap64 (by omega)
  have hj0 := hi0; try simp only [length_map, length_set, length_append, length_replicate, length_cons, length_nil, Int.toNat_natCast] at hj0
  have hj1 := hi1; try simp only [length_map, length_set, length_append, length_replicate, length_cons, length_nil, Int.toNat_natCast] at hj1
  have Hv0 : v0[Int.toNat (length p : Int)]? = some x0 := by rw [Int.toNat_natCast]; exact drop_at hi1
  simp only [r85_0]
  have st := ch b85_0 [(8, .b true), (16, .ret [] [(.one (.val (.string (m141 v1))))] [] []), (22, .rowD (d_si x0)), (23, .norm (0, 0, 0) (map d_si (set v0 (Int.toNat (length p : Int)) (K_si.mk (m141 v1) x0.f1)))), (41, .rowD [(.val (.string (m141 v1))), (.i x0.f1)]), (42, .norm (0, 0, 0) (map d_si (set v0 (Int.toNat (length p : Int)) (K_si.mk (m141 v1) (w64 (v1 + 1))))))] (h85_0 a0 a1 (length p : Int) v0 v1) ⟨[(0, (.one (.ref ⟨(0, 0, 0), [], 0, (length (map d_si a0))⟩))), (1, (.oi (w64 ((w64 (v1 + 1)) + 1)))), (5, (.oi (w64 ((length p : Int) + 1))))], [((0, 0, 0), .live ⟨2, (map d_si (set v0 (Int.toNat (length p : Int)) (K_si.mk (m141 v1) (w64 (v1 + 1))))), []⟩)]⟩ .normal 55 [(decide ((length p : Int) < ((length (map d_si a0)) : Int))) = true, Ev F X (.call 141 [(.oi v1)] [] [] [(.one (.val (.string (m141 v1))))]), 0 + (length (map d_si a0)) ≤ (length (map d_si v0)), 0 ≤ (length p : Int) ∧ (length p : Int) < ((length (map d_si a0)) : Int), (map d_si v0)[(0 + (Int.toNat (length p : Int)))]? = some [(.val (.string x0.f0)), (.i x0.f1)], (set (map d_si v0) (0 + (Int.toNat (length p : Int))) [(.val (.string (m141 v1))), (.i x0.f1)]) = (map d_si (set v0 (Int.toNat (length p : Int)) (K_si.mk (m141 v1) x0.f1))), True, 0 + (length (map d_si a0)) ≤ (length (map d_si (set v0 (Int.toNat (length p : Int)) (K_si.mk (m141 v1) x0.f1)))), 0 ≤ (length p : Int) ∧ (length p : Int) < ((length (map d_si a0)) : Int), (map d_si (set v0 (Int.toNat (length p : Int)) (K_si.mk (m141 v1) x0.f1)))[(0 + (Int.toNat (length p : Int)))]? = some [(.val (.string (m141 v1))), (.i x0.f1)], (set (map d_si (set v0 (Int.toNat (length p : Int)) (K_si.mk (m141 v1) x0.f1))) (0 + (Int.toNat (length p : Int))) [(.val (.string (m141 v1))), (.i (w64 (v1 + 1)))]) = (map d_si (set v0 (Int.toNat (length p : Int)) (K_si.mk (m141 v1) (w64 (v1 + 1))))), True, True] (by kernel_rfl) ⟨hc, (e141 (a0 := v1)), (by simp only [length_map]; omega), (by omega), (by rw [Nat.zero_add, getElem?_map, Hv0]; rfl), (by simp [byteRows_eq, ints_y, take_of_length_le, d_si, d_R, d_B, d_i, d_b, d_C, d_LsiE, d_Q, d_s, d_LiE, d_y, fromBR_si, fromBR_i, fromBR_b, fromBR_s, fromBR_y]; done), trivial, (by unfold m141; (repeat' split) <;> simp_all <;> omega), (by omega), (by rw [Nat.zero_add, map_set, List.getElem?_set_self (by simp only [length_map]; omega)]; rfl), (by simp [byteRows_eq, ints_y, take_of_length_le, d_si, d_R, d_B, d_i, d_b, d_C, d_LsiE, d_Q, d_s, d_LiE, d_y, fromBR_si, fromBR_i, fromBR_b, fromBR_s, fromBR_y]; done), trivial, trivial, trivial⟩
  have ih := t85_0 (a0 := a0) (a1 := a1) hy0 y0 (p ++ [x0]) (set v0 (Int.toNat (length p : Int)) (K_si.mk (m141 v1) (w64 (v1 + 1)))) (w64 ((w64 (v1 + 1)) + 1)) (by rw [append_assoc]; exact hp0) (by simp only [length_map, length_set, length_append, length_replicate, length_cons, length_nil]; omega) (by simp only [length_map, length_set, length_append, length_replicate, length_cons, length_nil, Int.toNat_natCast]; first | exact drop_set_next hi1 _ | exact drop_next hi1)
  rw [show ((p ++ [x0]).length : Int) = (p.length : Int) + 1 from by simp] at ih
  replace st := to_ (s' := h85_0 a0 a1 ((length p : Int) + 1) (set v0 (Int.toNat (length p : Int)) (K_si.mk (m141 v1) (w64 (v1 + 1)))) (w64 ((w64 (v1 + 1)) + 1))) st (by unfold h85_0; simp only [hw]; done)
  exact .loopN st ih
def post85_0 (n0 : Nat) : O85_0 → Prop
 | .k0 w0 _ _ _ => length w0 = n0
theorem z85_0 {a0 : (List K_si)} : ∀ (y0 : List K_si) (i : Int) (v0 : List K_si) (v1 : Int), post85_0 (length v0) (r85_0 a0 y0 i v0 v1)
 | [], i, v0, v1 => by
  first | trivial | (simp only [post85_0, length_nil, Nat.add_zero]; done) | (simp [post85_0]; done)
 | x0 :: y0, i, v0, v1 => by
  simp only [r85_0]
  have z := z85_0 (a0 := a0) y0 (i + 1) (set v0 (Int.toNat i) (K_si.mk (m141 v1) (w64 (v1 + 1)))) (w64 ((w64 (v1 + 1)) + 1))
  rw [show (length v0) = (length (set v0 (Int.toNat i) (K_si.mk (m141 v1) (w64 (v1 + 1))))) from by first | omega | (simp only [length_map, length_set, length_append, length_replicate, length_cons, length_nil]; done) | (simp only [length_map, length_set, length_append, length_replicate, length_cons, length_nil]; omega)]
  exact z
def o85_0 (a0 : (List K_si)) (a1 : Int) : List K_si :=
 (match r85_0 a0 a0 0 a0 a1 with | .k0 w0_0 w1_0 w2_0 w3_0 => w0_0)
def m85 (a0 : (List K_si)) (a1 : Int) : Int :=
 (match r85_0 a0 a0 0 a0 a1 with | .k0 w0_0 w1_0 w2_0 w3_0 => w1_0)
theorem e85 {a0 : (List K_si)} {a1 : Int} (hy0 : length a0 * 24 ≤ 140737488351232) : Ev F X (.call 85 [(.one (.ref ⟨(0, 0, 0), [], 0, (length (map d_si a0))⟩)), (.one (.val (.int .i64 a1)))] [((0, 0, 0), ⟨2, (map d_si a0), []⟩)] [(map d_si (o85_0 a0 a1))] [(.one (.val (.int .i64 (m85 a0 a1))))]) := by
 unfold m85 o85_0
 cases h0 : r85_0 a0 a0 0 a0 a1 with
 | k0 w0_0 w1_0 w2_0 w3_0 =>
  try dsimp only
  have zh0 := z85_0 (a0 := a0) a0 0 a0 a1; rw [h0] at zh0; simp only [post85_0, length_map, length_set, length_append, length_replicate, length_cons, length_nil, Int.toNat_natCast] at zh0
  have f0 : (⟨[(0, (.one (.ref ⟨(0, 0, 0), [], 0, (length (map d_si a0))⟩))), (1, (.oi a1)), (5, (.oi 0))], [((0, 0, 0), .live ⟨2, (map d_si a0), []⟩)]⟩ : St) = h85_0 a0 a1 0 a0 a1 := (by rfl)
  have f1 : Ev F X (.code l85_0 (h85_0 a0 a1 0 a0 a1) (.exit 0) ⟨[(0, (.one (.ref ⟨(0, 0, 0), [], 0, (length (map d_si a0))⟩))), (1, (.oi w1_0)), (5, (.oi w2_0)), (9, (.one (.val (.bool w3_0))))], [((0, 0, 0), .live ⟨2, (map d_si w0_0), []⟩)]⟩) := (by have t : Ev F X (.code l85_0 (h85_0 a0 a1 0 a0 a1) (ex85_0 (r85_0 a0 a0 0 a0 a1)) (fin85_0 a0 a1 (r85_0 a0 a0 0 a0 a1))) := t85_0 (a0 := a0) (a1 := a1) (by assumption) a0 [] a0 a1 rfl (by simp only [length_map, length_set, length_append, length_replicate, length_cons, length_nil]; done) (by rfl); rw [h0] at t; exact t)
  exact callP_ok (ps := [true]) (os := [(map d_si w0_0)]) (rs := [(.oi w1_0)]) (by kernel_rfl) (.f f0 (.f f1 (.f (pureR_si w0_0) (.h 4 (.loop (h85_0 a0 a1 0 a0 a1) (.exit 0) ⟨[(0, (.one (.ref ⟨(0, 0, 0), [], 0, (length (map d_si a0))⟩))), (1, (.oi w1_0)), (5, (.oi w2_0)), (9, (.one (.val (.bool w3_0))))], [((0, 0, 0), .live ⟨2, (map d_si w0_0), []⟩)]⟩) .nil))))
theorem ow85_0 (a0 : List K_si) : ∀ (l p : List K_si) (v1 : Int), ∃ (q : List K_si) (w1 : _) (w2 : _) (w3 : _), r85_0 a0 l (p.length : Int) (p ++ l) v1 = .k0 (p ++ q) w1 w2 w3 ∧ q.length = l.length
 | [], p, v1 => ⟨[], v1, (p.length : Int), (decide ((p.length : Int) < ((length (map d_si a0)) : Int))), rfl, rfl⟩
 | x0 :: l, p, v1 => by
  obtain ⟨q, w1, w2, w3, e1, e2⟩ := ow85_0 a0 l (p ++ [(K_si.mk (m141 v1) (w64 (v1 + 1)))]) (w64 ((w64 (v1 + 1)) + 1))
  refine ⟨(K_si.mk (m141 v1) (w64 (v1 + 1))) :: q, w1, w2, w3, ?_, by simp [e2]⟩
  ·have e : set (p ++ x0 :: l) (Int.toNat (p.length : Int)) (K_si.mk (m141 v1) (w64 (v1 + 1))) = (p ++ [(K_si.mk (m141 v1) (w64 (v1 + 1)))]) ++ l := by simp
   have e0 : ((p ++ [(K_si.mk (m141 v1) (w64 (v1 + 1)))]).length : Int) = (p.length : Int) + 1 := by simp
   rw [e0] at e1
   simp only [r85_0]
   first | (rw [e, e1]; simp; done) | (simp only [e, e1]; simp; done)
theorem ol85 (a : List K_si) (k : Int) : (o85_0 a k).length = a.length := by
 obtain ⟨q, w1, w2, w3, e1, e2⟩ := ow85_0 a a [] k
 simp only [List.nil_append, length_nil] at e1
 rw [show ((0 : Nat) : Int) = 0 from rfl] at e1
 unfold o85_0
 rw [e1]; exact e2
inductive O86_0 where
 | k0 (w0 : List K_R) (w1 : Int) (w2 : Int) (w3 : Bool)
def r86_0 (a0 : (List K_R)) : List K_R → Int → List K_R → Int → O86_0
 | x0 :: y0, i, v0, v1 =>
  (r86_0 a0 y0 (i + 1) (set v0 (Int.toNat i) (K_R.mk v1 (w64 (v1 + 1)) (w64 ((w64 (v1 + 1)) + 1)) (o85_0 x0.f3 (w64 ((w64 ((w64 (v1 + 1)) + 1)) + 1))) (m85 x0.f3 (w64 ((w64 ((w64 (v1 + 1)) + 1)) + 1))))) (w64 ((m85 x0.f3 (w64 ((w64 ((w64 (v1 + 1)) + 1)) + 1))) + 1)))
 | [], i, v0, v1 => (O86_0.k0 v0 v1 i (decide (i < ((length (map d_R a0)) : Int))))
def h86_0 (a0 : (List K_R)) (a1 : Int) (i : Int) (v0 : List K_R) (v1 : Int) : St := ⟨[(0, (.one (.ref ⟨(0, 0, 0), [], 0, (length (map d_R a0))⟩))), (1, (.one (.val (.int .i64 v1)))), (5, (.one (.val (.int .i64 i))))], [((0, 0, 0), .live ⟨5, (map d_R v0), []⟩)]⟩
def ex86_0 : O86_0 → VX.Exit
 | .k0 _ _ _ _ => (.exit 0)
def fin86_0 (a0 : (List K_R)) (a1 : Int) : O86_0 → St
 | .k0 w0 w1 w2 w3 => ⟨[(0, (.one (.ref ⟨(0, 0, 0), [], 0, (length (map d_R a0))⟩))), (1, (.one (.val (.int .i64 w1)))), (5, (.one (.val (.int .i64 w2)))), (9, (.one (.val (.bool w3))))], [((0, 0, 0), .live ⟨5, (map d_R w0), []⟩)]⟩
theorem t86_0 {a0 : (List K_R)} {a1 : Int} (hy0 : length a0 * 56 ≤ 140737488351232) (hy1 : ∀ z ∈ a0, ok_R z) : ∀ (y0 : List K_R) (p : List K_R) (v0 : List K_R) (v1 : Int), p ++ y0 = a0 → length v0 = (length (map d_R a0)) → drop (length p) v0 = y0 → Ev F X (.code l86_0 (h86_0 a0 a1 (length p : Int) v0 v1) (ex86_0 (r86_0 a0 y0 (length p : Int) v0 v1)) (fin86_0 a0 a1 (r86_0 a0 y0 (length p : Int) v0 v1)))
 | [], p, v0, v1, hp0, hi0, hi1 => by
  have hc : ¬ (decide ((length p : Int) < ((length (map d_R a0)) : Int))) = true := by
   rw [← hp0]; simp only [length_map, length_set, length_append, length_replicate, length_cons, length_nil, decide_eq_true_eq]; omega
  have hj0 := hi0; try simp only [length_map, length_set, length_append, length_replicate, length_cons, length_nil, Int.toNat_natCast] at hj0
  have hj1 := hi1; try simp only [length_map, length_set, length_append, length_replicate, length_cons, length_nil, Int.toNat_natCast] at hj1
  have st := ch b86_0 [(8, .b false)] (h86_0 a0 a1 (length p : Int) v0 v1) (fin86_0 a0 a1 (.k0 v0 v1 (length p : Int) (decide ((length p : Int) < ((length (map d_R a0)) : Int))))) (.exit 0) 9 [(decide ((length p : Int) < ((length (map d_R a0)) : Int))) = false] (by kernel_rfl) ⟨(nt hc), trivial⟩
  exact .loopX st (show ((.exit 0) : VX.Exit) ≠ .normal from by simp)
 | x0 :: y0, p, v0, v1, hp0, hi0, hi1 => by
  have hc : (decide ((length p : Int) < ((length (map d_R a0)) : Int))) = true := lt1 hp0
  have Hx0 : (a0)[Int.toNat (length p : Int)]? = some x0 := by
   rw [← hp0, Int.toNat_natCast]; simp
  have Mx0_0 := hy1 x0 (List.mem_of_getElem? Hx0)
  have hlen : length (a0) = length p + length y0 + 1 := by rw [← hp0]; simp; omega
  have hw : w64 ((length p : Int) + 1) = (length p : Int) + 1 := wrap64 (by omega)
  have hj0 := hi0; try simp only [length_map, length_set, length_append, length_replicate, length_cons, length_nil, Int.toNat_natCast] at hj0
  have hj1 := hi1; try simp only [length_map, length_set, length_append, length_replicate, length_cons, length_nil, Int.toNat_natCast] at hj1
  have Hv0 : v0[Int.toNat (length p : Int)]? = some x0 := by rw [Int.toNat_natCast]; exact drop_at hi1
  simp only [r86_0]
  have st := ch b86_0 [(8, .b true), (20, .rowD (d_R x0)), (21, .norm (0, 0, 0) (map d_R (set v0 (Int.toNat (length p : Int)) (K_R.mk v1 x0.f1 x0.f2 x0.f3 x0.f4)))), (39, .rowD [(.i v1), (.i x0.f1), (.i x0.f2), (.own 2 (map d_si x0.f3)), (.i x0.f4)]), (40, .norm (0, 0, 0) (map d_R (set v0 (Int.toNat (length p : Int)) (K_R.mk v1 (w64 (v1 + 1)) x0.f2 x0.f3 x0.f4)))), (58, .rowD [(.i v1), (.i (w64 (v1 + 1))), (.i x0.f2), (.own 2 (map d_si x0.f3)), (.i x0.f4)]), (59, .norm (0, 0, 0) (map d_R (set v0 (Int.toNat (length p : Int)) (K_R.mk v1 (w64 (v1 + 1)) (w64 ((w64 (v1 + 1)) + 1)) x0.f3 x0.f4)))), (75, .rowD [(.i v1), (.i (w64 (v1 + 1))), (.i (w64 ((w64 (v1 + 1)) + 1))), (.own 2 (map d_si x0.f3)), (.i x0.f4)]), (79, .nav [((0, 0, 0), [3], 2, (map d_si x0.f3))] [[([((0 + (Int.toNat (length p : Int))), 3)], true)]] (.ret [(map d_si (o85_0 x0.f3 (w64 ((w64 ((w64 (v1 + 1)) + 1)) + 1))))] [(.oi (m85 x0.f3 (w64 ((w64 ((w64 (v1 + 1)) + 1)) + 1))))] [true] [])), (82, .norm (0, 0, 0) (map d_R (set v0 (Int.toNat (length p : Int)) (K_R.mk v1 (w64 (v1 + 1)) (w64 ((w64 (v1 + 1)) + 1)) (o85_0 x0.f3 (w64 ((w64 ((w64 (v1 + 1)) + 1)) + 1))) x0.f4)))), (94, .rowD [(.i v1), (.i (w64 (v1 + 1))), (.i (w64 ((w64 (v1 + 1)) + 1))), (.own 2 (map d_si (o85_0 x0.f3 (w64 ((w64 ((w64 (v1 + 1)) + 1)) + 1))))), (.i x0.f4)]), (95, .norm (0, 0, 0) (map d_R (set v0 (Int.toNat (length p : Int)) (K_R.mk v1 (w64 (v1 + 1)) (w64 ((w64 (v1 + 1)) + 1)) (o85_0 x0.f3 (w64 ((w64 ((w64 (v1 + 1)) + 1)) + 1))) (m85 x0.f3 (w64 ((w64 ((w64 (v1 + 1)) + 1)) + 1)))))))] (h86_0 a0 a1 (length p : Int) v0 v1) ⟨[(0, (.one (.ref ⟨(0, 0, 0), [], 0, (length (map d_R a0))⟩))), (1, (.oi (w64 ((m85 x0.f3 (w64 ((w64 ((w64 (v1 + 1)) + 1)) + 1))) + 1)))), (5, (.oi (w64 ((length p : Int) + 1))))], [((0, 0, 0), .live ⟨5, (map d_R (set v0 (Int.toNat (length p : Int)) (K_R.mk v1 (w64 (v1 + 1)) (w64 ((w64 (v1 + 1)) + 1)) (o85_0 x0.f3 (w64 ((w64 ((w64 (v1 + 1)) + 1)) + 1))) (m85 x0.f3 (w64 ((w64 ((w64 (v1 + 1)) + 1)) + 1)))))), []⟩)]⟩ .normal 108 [(decide ((length p : Int) < ((length (map d_R a0)) : Int))) = true, 0 + (length (map d_R a0)) ≤ (length (map d_R v0)), 0 ≤ (length p : Int) ∧ (length p : Int) < ((length (map d_R a0)) : Int), (map d_R v0)[(0 + (Int.toNat (length p : Int)))]? = some [(.i x0.f0), (.i x0.f1), (.i x0.f2), (.own 2 (map d_si x0.f3)), (.i x0.f4)], (set (map d_R v0) (0 + (Int.toNat (length p : Int))) [(.i v1), (.i x0.f1), (.i x0.f2), (.own 2 (map d_si x0.f3)), (.i x0.f4)]) = (map d_R (set v0 (Int.toNat (length p : Int)) (K_R.mk v1 x0.f1 x0.f2 x0.f3 x0.f4))), True, 0 + (length (map d_R a0)) ≤ (length (map d_R (set v0 (Int.toNat (length p : Int)) (K_R.mk v1 x0.f1 x0.f2 x0.f3 x0.f4)))), 0 ≤ (length p : Int) ∧ (length p : Int) < ((length (map d_R a0)) : Int), (map d_R (set v0 (Int.toNat (length p : Int)) (K_R.mk v1 x0.f1 x0.f2 x0.f3 x0.f4)))[(0 + (Int.toNat (length p : Int)))]? = some [(.i v1), (.i x0.f1), (.i x0.f2), (.own 2 (map d_si x0.f3)), (.i x0.f4)], (set (map d_R (set v0 (Int.toNat (length p : Int)) (K_R.mk v1 x0.f1 x0.f2 x0.f3 x0.f4))) (0 + (Int.toNat (length p : Int))) [(.i v1), (.i (w64 (v1 + 1))), (.i x0.f2), (.own 2 (map d_si x0.f3)), (.i x0.f4)]) = (map d_R (set v0 (Int.toNat (length p : Int)) (K_R.mk v1 (w64 (v1 + 1)) x0.f2 x0.f3 x0.f4))), True, 0 + (length (map d_R a0)) ≤ (length (map d_R (set v0 (Int.toNat (length p : Int)) (K_R.mk v1 (w64 (v1 + 1)) x0.f2 x0.f3 x0.f4)))), 0 ≤ (length p : Int) ∧ (length p : Int) < ((length (map d_R a0)) : Int), (map d_R (set v0 (Int.toNat (length p : Int)) (K_R.mk v1 (w64 (v1 + 1)) x0.f2 x0.f3 x0.f4)))[(0 + (Int.toNat (length p : Int)))]? = some [(.i v1), (.i (w64 (v1 + 1))), (.i x0.f2), (.own 2 (map d_si x0.f3)), (.i x0.f4)], (set (map d_R (set v0 (Int.toNat (length p : Int)) (K_R.mk v1 (w64 (v1 + 1)) x0.f2 x0.f3 x0.f4))) (0 + (Int.toNat (length p : Int))) [(.i v1), (.i (w64 (v1 + 1))), (.i (w64 ((w64 (v1 + 1)) + 1))), (.own 2 (map d_si x0.f3)), (.i x0.f4)]) = (map d_R (set v0 (Int.toNat (length p : Int)) (K_R.mk v1 (w64 (v1 + 1)) (w64 ((w64 (v1 + 1)) + 1)) x0.f3 x0.f4))), True, 0 + (length (map d_R a0)) ≤ (length (map d_R (set v0 (Int.toNat (length p : Int)) (K_R.mk v1 (w64 (v1 + 1)) (w64 ((w64 (v1 + 1)) + 1)) x0.f3 x0.f4)))), 0 ≤ (length p : Int) ∧ (length p : Int) < ((length (map d_R a0)) : Int), (map d_R (set v0 (Int.toNat (length p : Int)) (K_R.mk v1 (w64 (v1 + 1)) (w64 ((w64 (v1 + 1)) + 1)) x0.f3 x0.f4)))[(0 + (Int.toNat (length p : Int)))]? = some [(.i v1), (.i (w64 (v1 + 1))), (.i (w64 ((w64 (v1 + 1)) + 1))), (.own 2 (map d_si x0.f3)), (.i x0.f4)], nav 5 (map d_R (set v0 (Int.toNat (length p : Int)) (K_R.mk v1 (w64 (v1 + 1)) (w64 ((w64 (v1 + 1)) + 1)) x0.f3 x0.f4))) [((0 + (Int.toNat (length p : Int))), 3)] = some (2, (map d_si x0.f3)), pureR (map d_si x0.f3) = true, Ev F X (.call 85 [(.one (.ref ⟨(0, 0, 0), [], 0, (length (map d_si x0.f3))⟩)), (.oi (w64 ((w64 ((w64 (v1 + 1)) + 1)) + 1)))] [((0, 0, 0), ⟨2, (map d_si x0.f3), []⟩)] [(map d_si (o85_0 x0.f3 (w64 ((w64 ((w64 (v1 + 1)) + 1)) + 1))))] [(.oi (m85 x0.f3 (w64 ((w64 ((w64 (v1 + 1)) + 1)) + 1))))]), undirt [((0 + (Int.toNat (length p : Int))), 3)] [([((0 + (Int.toNat (length p : Int))), 3)], false)] = [([((0 + (Int.toNat (length p : Int))), 3)], true)], (setCell (setCell (map d_R (set v0 (Int.toNat (length p : Int)) (K_R.mk v1 (w64 (v1 + 1)) (w64 ((w64 (v1 + 1)) + 1)) x0.f3 x0.f4))) [((0 + (Int.toNat (length p : Int))), 3)] .hole) [((0 + (Int.toNat (length p : Int))), 3)] (.own 2 (map d_si (o85_0 x0.f3 (w64 ((w64 ((w64 (v1 + 1)) + 1)) + 1)))))) = (map d_R (set v0 (Int.toNat (length p : Int)) (K_R.mk v1 (w64 (v1 + 1)) (w64 ((w64 (v1 + 1)) + 1)) (o85_0 x0.f3 (w64 ((w64 ((w64 (v1 + 1)) + 1)) + 1))) x0.f4))), 0 + (length (map d_R a0)) ≤ (length (map d_R (set v0 (Int.toNat (length p : Int)) (K_R.mk v1 (w64 (v1 + 1)) (w64 ((w64 (v1 + 1)) + 1)) (o85_0 x0.f3 (w64 ((w64 ((w64 (v1 + 1)) + 1)) + 1))) x0.f4)))), 0 ≤ (length p : Int) ∧ (length p : Int) < ((length (map d_R a0)) : Int), (map d_R (set v0 (Int.toNat (length p : Int)) (K_R.mk v1 (w64 (v1 + 1)) (w64 ((w64 (v1 + 1)) + 1)) (o85_0 x0.f3 (w64 ((w64 ((w64 (v1 + 1)) + 1)) + 1))) x0.f4)))[(0 + (Int.toNat (length p : Int)))]? = some [(.i v1), (.i (w64 (v1 + 1))), (.i (w64 ((w64 (v1 + 1)) + 1))), (.own 2 (map d_si (o85_0 x0.f3 (w64 ((w64 ((w64 (v1 + 1)) + 1)) + 1))))), (.i x0.f4)], (set (map d_R (set v0 (Int.toNat (length p : Int)) (K_R.mk v1 (w64 (v1 + 1)) (w64 ((w64 (v1 + 1)) + 1)) (o85_0 x0.f3 (w64 ((w64 ((w64 (v1 + 1)) + 1)) + 1))) x0.f4))) (0 + (Int.toNat (length p : Int))) [(.i v1), (.i (w64 (v1 + 1))), (.i (w64 ((w64 (v1 + 1)) + 1))), (.own 2 (map d_si (o85_0 x0.f3 (w64 ((w64 ((w64 (v1 + 1)) + 1)) + 1))))), (.i (m85 x0.f3 (w64 ((w64 ((w64 (v1 + 1)) + 1)) + 1))))]) = (map d_R (set v0 (Int.toNat (length p : Int)) (K_R.mk v1 (w64 (v1 + 1)) (w64 ((w64 (v1 + 1)) + 1)) (o85_0 x0.f3 (w64 ((w64 ((w64 (v1 + 1)) + 1)) + 1))) (m85 x0.f3 (w64 ((w64 ((w64 (v1 + 1)) + 1)) + 1)))))), True, True] (by kernel_rfl) ⟨hc, (by simp only [length_map]; omega), (by omega), (by rw [Nat.zero_add, getElem?_map, Hv0]; rfl), (by simp [byteRows_eq, ints_y, take_of_length_le, d_si, d_R, d_B, d_i, d_b, d_C, d_LsiE, d_Q, d_s, d_LiE, d_y, fromBR_si, fromBR_i, fromBR_b, fromBR_s, fromBR_y, ol85]; done), trivial, (by simp only [length_map, length_set]; omega), (by omega), (by rw [Nat.zero_add, map_set, List.getElem?_set_self (by simp only [length_map]; omega)]; rfl), (by simp [byteRows_eq, ints_y, take_of_length_le, d_si, d_R, d_B, d_i, d_b, d_C, d_LsiE, d_Q, d_s, d_LiE, d_y, fromBR_si, fromBR_i, fromBR_b, fromBR_s, fromBR_y, ol85]; done), trivial, (by simp only [length_map, length_set]; omega), (by omega), (by rw [Nat.zero_add, map_set, List.getElem?_set_self (by simp only [length_map]; omega)]; rfl), (by simp [byteRows_eq, ints_y, take_of_length_le, d_si, d_R, d_B, d_i, d_b, d_C, d_LsiE, d_Q, d_s, d_LiE, d_y, fromBR_si, fromBR_i, fromBR_b, fromBR_s, fromBR_y, ol85]; done), trivial, (by simp only [length_map, length_set]; omega), (by omega), (by rw [Nat.zero_add, map_set, List.getElem?_set_self (by simp only [length_map]; omega)]; rfl), (by simp only [nav]; (rw [Nat.zero_add, map_set, List.getElem?_set_self (by simp only [length_map]; omega)]); rfl), (pureR_si _), (e85 (a0 := x0.f3) (a1 := (w64 ((w64 ((w64 (v1 + 1)) + 1)) + 1))) (by assumption)), (by simp [undirt]), (by rw [setCell2At (i := (0 + (Int.toNat (length p : Int)))) (j := 3) (row := [(.i v1), (.i (w64 (v1 + 1))), (.i (w64 ((w64 (v1 + 1)) + 1))), (.own 2 (map d_si x0.f3)), (.i x0.f4)]) (by rw [Nat.zero_add, map_set, List.getElem?_set_self (by simp only [length_map]; omega)]; rfl)]; first | rfl | (simp [byteRows_eq, ints_y, take_of_length_le, d_si, d_R, d_B, d_i, d_b, d_C, d_LsiE, d_Q, d_s, d_LiE, d_y, fromBR_si, fromBR_i, fromBR_b, fromBR_s, fromBR_y, ol85]; done) | (simp [map_set, byteRows_eq, ints_y, take_of_length_le, d_si, d_R, d_B, d_i, d_b, d_C, d_LsiE, d_Q, d_s, d_LiE, d_y, fromBR_si, fromBR_i, fromBR_b, fromBR_s, fromBR_y, ol85]; done)), (by simp only [length_map, length_set]; omega), (by omega), (by rw [Nat.zero_add, map_set, List.getElem?_set_self (by simp only [length_map]; omega)]; rfl), (by simp [byteRows_eq, ints_y, take_of_length_le, d_si, d_R, d_B, d_i, d_b, d_C, d_LsiE, d_Q, d_s, d_LiE, d_y, fromBR_si, fromBR_i, fromBR_b, fromBR_s, fromBR_y, ol85]; done), trivial, trivial, trivial⟩
  have ih := t86_0 (a0 := a0) (a1 := a1) hy0 hy1 y0 (p ++ [x0]) (set v0 (Int.toNat (length p : Int)) (K_R.mk v1 (w64 (v1 + 1)) (w64 ((w64 (v1 + 1)) + 1)) (o85_0 x0.f3 (w64 ((w64 ((w64 (v1 + 1)) + 1)) + 1))) (m85 x0.f3 (w64 ((w64 ((w64 (v1 + 1)) + 1)) + 1))))) (w64 ((m85 x0.f3 (w64 ((w64 ((w64 (v1 + 1)) + 1)) + 1))) + 1)) (by rw [append_assoc]; exact hp0) (by simp only [length_map, length_set, length_append, length_replicate, length_cons, length_nil]; omega) (by simp only [length_map, length_set, length_append, length_replicate, length_cons, length_nil, Int.toNat_natCast]; first | exact drop_set_next hi1 _ | exact drop_next hi1)
  rw [show ((p ++ [x0]).length : Int) = (p.length : Int) + 1 from by simp] at ih
  replace st := to_ (s' := h86_0 a0 a1 ((length p : Int) + 1) (set v0 (Int.toNat (length p : Int)) (K_R.mk v1 (w64 (v1 + 1)) (w64 ((w64 (v1 + 1)) + 1)) (o85_0 x0.f3 (w64 ((w64 ((w64 (v1 + 1)) + 1)) + 1))) (m85 x0.f3 (w64 ((w64 ((w64 (v1 + 1)) + 1)) + 1))))) (w64 ((m85 x0.f3 (w64 ((w64 ((w64 (v1 + 1)) + 1)) + 1))) + 1))) st (by unfold h86_0; simp only [hw]; done)
  exact .loopN st ih
def post86_0 (n0 : Nat) : O86_0 → Prop
 | .k0 w0 _ _ _ => length w0 = n0
theorem z86_0 {a0 : (List K_R)} : ∀ (y0 : List K_R) (i : Int) (v0 : List K_R) (v1 : Int), post86_0 (length v0) (r86_0 a0 y0 i v0 v1)
 | [], i, v0, v1 => by
  first | trivial | (simp only [post86_0, length_nil, Nat.add_zero]; done) | (simp [post86_0]; done)
 | x0 :: y0, i, v0, v1 => by
  simp only [r86_0]
  have z := z86_0 (a0 := a0) y0 (i + 1) (set v0 (Int.toNat i) (K_R.mk v1 (w64 (v1 + 1)) (w64 ((w64 (v1 + 1)) + 1)) (o85_0 x0.f3 (w64 ((w64 ((w64 (v1 + 1)) + 1)) + 1))) (m85 x0.f3 (w64 ((w64 ((w64 (v1 + 1)) + 1)) + 1))))) (w64 ((m85 x0.f3 (w64 ((w64 ((w64 (v1 + 1)) + 1)) + 1))) + 1))
  rw [show (length v0) = (length (set v0 (Int.toNat i) (K_R.mk v1 (w64 (v1 + 1)) (w64 ((w64 (v1 + 1)) + 1)) (o85_0 x0.f3 (w64 ((w64 ((w64 (v1 + 1)) + 1)) + 1))) (m85 x0.f3 (w64 ((w64 ((w64 (v1 + 1)) + 1)) + 1)))))) from by first | omega | (simp only [length_map, length_set, length_append, length_replicate, length_cons, length_nil]; done) | (simp only [length_map, length_set, length_append, length_replicate, length_cons, length_nil]; omega)]
  exact z
def o86_0 (a0 : (List K_R)) (a1 : Int) : List K_R :=
 (match r86_0 a0 a0 0 a0 a1 with | .k0 w0_0 w1_0 w2_0 w3_0 => w0_0)
def m86 (a0 : (List K_R)) (a1 : Int) : Int :=
 (match r86_0 a0 a0 0 a0 a1 with | .k0 w0_0 w1_0 w2_0 w3_0 => w1_0)
theorem e86 {a0 : (List K_R)} {a1 : Int} (hy0 : length a0 * 56 ≤ 140737488351232) (hy1 : ∀ z ∈ a0, ok_R z) : Ev F X (.call 86 [(.one (.ref ⟨(0, 0, 0), [], 0, (length (map d_R a0))⟩)), (.one (.val (.int .i64 a1)))] [((0, 0, 0), ⟨5, (map d_R a0), []⟩)] [(map d_R (o86_0 a0 a1))] [(.one (.val (.int .i64 (m86 a0 a1))))]) := by
 unfold m86 o86_0
 cases h0 : r86_0 a0 a0 0 a0 a1 with
 | k0 w0_0 w1_0 w2_0 w3_0 =>
  try dsimp only
  have zh0 := z86_0 (a0 := a0) a0 0 a0 a1; rw [h0] at zh0; simp only [post86_0, length_map, length_set, length_append, length_replicate, length_cons, length_nil, Int.toNat_natCast] at zh0
  have f0 : (⟨[(0, (.one (.ref ⟨(0, 0, 0), [], 0, (length (map d_R a0))⟩))), (1, (.oi a1)), (5, (.oi 0))], [((0, 0, 0), .live ⟨5, (map d_R a0), []⟩)]⟩ : St) = h86_0 a0 a1 0 a0 a1 := (by rfl)
  have f1 : Ev F X (.code l86_0 (h86_0 a0 a1 0 a0 a1) (.exit 0) ⟨[(0, (.one (.ref ⟨(0, 0, 0), [], 0, (length (map d_R a0))⟩))), (1, (.oi w1_0)), (5, (.oi w2_0)), (9, (.one (.val (.bool w3_0))))], [((0, 0, 0), .live ⟨5, (map d_R w0_0), []⟩)]⟩) := (by have t : Ev F X (.code l86_0 (h86_0 a0 a1 0 a0 a1) (ex86_0 (r86_0 a0 a0 0 a0 a1)) (fin86_0 a0 a1 (r86_0 a0 a0 0 a0 a1))) := t86_0 (a0 := a0) (a1 := a1) (by assumption) (by assumption) a0 [] a0 a1 rfl (by simp only [length_map, length_set, length_append, length_replicate, length_cons, length_nil]; done) (by rfl); rw [h0] at t; exact t)
  exact callP_ok (ps := [true]) (os := [(map d_R w0_0)]) (rs := [(.oi w1_0)]) (by kernel_rfl) (.f f0 (.f f1 (.f (pureR_R w0_0) (.h 4 (.loop (h86_0 a0 a1 0 a0 a1) (.exit 0) ⟨[(0, (.one (.ref ⟨(0, 0, 0), [], 0, (length (map d_R a0))⟩))), (1, (.oi w1_0)), (5, (.oi w2_0)), (9, (.one (.val (.bool w3_0))))], [((0, 0, 0), .live ⟨5, (map d_R w0_0), []⟩)]⟩) .nil))))
theorem ow86_0 (a0 : List K_R) : ∀ (l p : List K_R) (v1 : Int), (∀ z ∈ l, ok_R z) → ∃ (q : List K_R) (w1 : _) (w2 : _) (w3 : _), r86_0 a0 l (p.length : Int) (p ++ l) v1 = .k0 (p ++ q) w1 w2 w3 ∧ q.length = l.length ∧ ∀ z ∈ q, ok_R z
 | [], p, v1, _ => ⟨[], v1, (p.length : Int), (decide ((p.length : Int) < ((length (map d_R a0)) : Int))), rfl, rfl, fun z h => by cases h⟩
 | x0 :: l, p, v1, h => by
  obtain ⟨q, w1, w2, w3, e1, e2, e3⟩ := ow86_0 a0 l (p ++ [(K_R.mk v1 (w64 (v1 + 1)) (w64 ((w64 (v1 + 1)) + 1)) (o85_0 x0.f3 (w64 ((w64 ((w64 (v1 + 1)) + 1)) + 1))) (m85 x0.f3 (w64 ((w64 ((w64 (v1 + 1)) + 1)) + 1))))]) (w64 ((m85 x0.f3 (w64 ((w64 ((w64 (v1 + 1)) + 1)) + 1))) + 1)) (fun z hz => h z (List.mem_cons_of_mem _ hz))
  refine ⟨(K_R.mk v1 (w64 (v1 + 1)) (w64 ((w64 (v1 + 1)) + 1)) (o85_0 x0.f3 (w64 ((w64 ((w64 (v1 + 1)) + 1)) + 1))) (m85 x0.f3 (w64 ((w64 ((w64 (v1 + 1)) + 1)) + 1)))) :: q, w1, w2, w3, ?_, by simp [e2], ?_⟩
  ·have e : set (p ++ x0 :: l) (Int.toNat (p.length : Int)) (K_R.mk v1 (w64 (v1 + 1)) (w64 ((w64 (v1 + 1)) + 1)) (o85_0 x0.f3 (w64 ((w64 ((w64 (v1 + 1)) + 1)) + 1))) (m85 x0.f3 (w64 ((w64 ((w64 (v1 + 1)) + 1)) + 1)))) = (p ++ [(K_R.mk v1 (w64 (v1 + 1)) (w64 ((w64 (v1 + 1)) + 1)) (o85_0 x0.f3 (w64 ((w64 ((w64 (v1 + 1)) + 1)) + 1))) (m85 x0.f3 (w64 ((w64 ((w64 (v1 + 1)) + 1)) + 1))))]) ++ l := by simp
   have e0 : ((p ++ [(K_R.mk v1 (w64 (v1 + 1)) (w64 ((w64 (v1 + 1)) + 1)) (o85_0 x0.f3 (w64 ((w64 ((w64 (v1 + 1)) + 1)) + 1))) (m85 x0.f3 (w64 ((w64 ((w64 (v1 + 1)) + 1)) + 1))))]).length : Int) = (p.length : Int) + 1 := by simp
   rw [e0] at e1
   simp only [r86_0]
   first | (rw [e, e1]; simp; done) | (simp only [e, e1]; simp; done)
  ·intro z hz
   rcases List.mem_cons.1 hz with rfl | hz
   ·have hx := h x0 (List.mem_cons_self ..)
    simp only [ok_R] at hx ⊢
    simp only [length_map, ol85] at hx ⊢
    first | exact hx | (simp_all [ol85]; done) | (obtain ⟨_, _⟩ := hx; refine ⟨?_, ?_⟩ <;> simp_all [ol85])
   ·exact e3 z hz
theorem ov86_0 (a0 : List K_R) : ∀ (l p : List K_R) (v1 : Int), ∃ (q : List K_R) (w1 : _) (w2 : _) (w3 : _), r86_0 a0 l (p.length : Int) (p ++ l) v1 = .k0 (p ++ q) w1 w2 w3 ∧ q.length = l.length
 | [], p, v1 => ⟨[], v1, (p.length : Int), (decide ((p.length : Int) < ((length (map d_R a0)) : Int))), rfl, rfl⟩
 | x0 :: l, p, v1 => by
  obtain ⟨q, w1, w2, w3, e1, e2⟩ := ov86_0 a0 l (p ++ [(K_R.mk v1 (w64 (v1 + 1)) (w64 ((w64 (v1 + 1)) + 1)) (o85_0 x0.f3 (w64 ((w64 ((w64 (v1 + 1)) + 1)) + 1))) (m85 x0.f3 (w64 ((w64 ((w64 (v1 + 1)) + 1)) + 1))))]) (w64 ((m85 x0.f3 (w64 ((w64 ((w64 (v1 + 1)) + 1)) + 1))) + 1))
  refine ⟨(K_R.mk v1 (w64 (v1 + 1)) (w64 ((w64 (v1 + 1)) + 1)) (o85_0 x0.f3 (w64 ((w64 ((w64 (v1 + 1)) + 1)) + 1))) (m85 x0.f3 (w64 ((w64 ((w64 (v1 + 1)) + 1)) + 1)))) :: q, w1, w2, w3, ?_, by simp [e2]⟩
  ·have e : set (p ++ x0 :: l) (Int.toNat (p.length : Int)) (K_R.mk v1 (w64 (v1 + 1)) (w64 ((w64 (v1 + 1)) + 1)) (o85_0 x0.f3 (w64 ((w64 ((w64 (v1 + 1)) + 1)) + 1))) (m85 x0.f3 (w64 ((w64 ((w64 (v1 + 1)) + 1)) + 1)))) = (p ++ [(K_R.mk v1 (w64 (v1 + 1)) (w64 ((w64 (v1 + 1)) + 1)) (o85_0 x0.f3 (w64 ((w64 ((w64 (v1 + 1)) + 1)) + 1))) (m85 x0.f3 (w64 ((w64 ((w64 (v1 + 1)) + 1)) + 1))))]) ++ l := by simp
   have e0 : ((p ++ [(K_R.mk v1 (w64 (v1 + 1)) (w64 ((w64 (v1 + 1)) + 1)) (o85_0 x0.f3 (w64 ((w64 ((w64 (v1 + 1)) + 1)) + 1))) (m85 x0.f3 (w64 ((w64 ((w64 (v1 + 1)) + 1)) + 1))))]).length : Int) = (p.length : Int) + 1 := by simp
   rw [e0] at e1
   simp only [r86_0]
   first | (rw [e, e1]; simp; done) | (simp only [e, e1]; simp; done)
theorem ol86 (a : List K_R) (k : Int) : (o86_0 a k).length = a.length := by
 obtain ⟨q, w1, w2, w3, e1, e2⟩ := ov86_0 a a [] k
 simp only [List.nil_append, length_nil] at e1
 rw [show ((0 : Nat) : Int) = 0 from rfl] at e1
 unfold o86_0
 rw [e1]; exact e2
theorem oo86 (a : List K_R) (k : Int) (h : ∀ z ∈ a, ok_R z) : ∀ z ∈ o86_0 a k, ok_R z := by
 obtain ⟨q, w1, w2, w3, e1, e2, e3⟩ := ow86_0 a a [] k h
 simp only [List.nil_append, length_nil] at e1
 rw [show ((0 : Nat) : Int) = 0 from rfl] at e1
 unfold o86_0
 rw [e1]; exact e3
def o27_0 (a0 : K_B) (a1 : Int) : List K_si :=
 (o85_0 a0.f4 (m86 a0.f3 (m85 a0.f2 a1)))
def o27_1 (a0 : K_B) (a1 : Int) : List K_R :=
 (o86_0 a0.f3 (m85 a0.f2 a1))
def o27_2 (a0 : K_B) (a1 : Int) : List K_si :=
 (o85_0 a0.f2 a1)
def m27 (a0 : K_B) (a1 : Int) : Int :=
 (m85 a0.f4 (m86 a0.f3 (m85 a0.f2 a1)))
theorem e27 {a0 : K_B} {a1 : Int} (hy0 : length a0.f2 * 24 ≤ 140737488351232) (hy1 : length a0.f3 * 56 ≤ 140737488351232) (hy2 : ∀ z ∈ a0.f3, ok_R z) (hy3 : length a0.f4 * 24 ≤ 140737488351232) : Ev F X (.call 27 [(.agg [(.val (.int .i64 a0.f0)), (.val (.int .i64 a0.f1)), (.ref ⟨(0, 0, 0), [], 0, (length (map d_si a0.f2))⟩), (.ref ⟨(0, 1, 0), [], 0, (length (map d_R a0.f3))⟩), (.ref ⟨(0, 2, 0), [], 0, (length (map d_si a0.f4))⟩), (.val (.int .i64 a0.f5)), (.val (.int .i64 a0.f6)), (.val (.int .i64 a0.f7))]), (.one (.val (.int .i64 a1)))] [((0, 2, 0), ⟨2, (map d_si a0.f4), []⟩), ((0, 1, 0), ⟨5, (map d_R a0.f3), []⟩), ((0, 0, 0), ⟨2, (map d_si a0.f2), []⟩)] [(map d_si (o27_0 a0 a1)), (map d_R (o27_1 a0 a1)), (map d_si (o27_2 a0 a1))] [(.one (.val (.int .i64 (m27 a0 a1))))]) := by
 have f7 := e85 (a0 := a0.f2) (a1 := a1) (by with_reducible assumption)
 have f9 := e86 (a0 := a0.f3) (a1 := (m85 a0.f2 a1)) (by with_reducible assumption) (by with_reducible assumption)
 have f11 := e85 (a0 := a0.f4) (a1 := (m86 a0.f3 (m85 a0.f2 a1))) (by with_reducible assumption)
 exact callP_ok (ps := [true, true, true]) (os := [(map d_si (o85_0 a0.f4 (m86 a0.f3 (m85 a0.f2 a1)))), (map d_R (o86_0 a0.f3 (m85 a0.f2 a1))), (map d_si (o85_0 a0.f2 a1))]) (rs := [(.oi (m85 a0.f4 (m86 a0.f3 (m85 a0.f2 a1))))]) (by kernel_rfl) (.e 0 (.e (length (map d_si a0.f2)) (.e 0 (.e (length (map d_R a0.f3)) (.e 0 (.e (length (map d_si a0.f4)) (.f (pureR_si (a0.f2)) (.r 11 [true] [] f7 (.f (pureR_R (a0.f3)) (.r 21 [true] [] f9 (.f (pureR_si (a0.f4)) (.r 31 [true] [] f11 (.f (pureR_si (o85_0 a0.f4 (m86 a0.f3 (m85 a0.f2 a1)))) (.f (pureR_R (o86_0 a0.f3 (m85 a0.f2 a1))) (.f (pureR_si (o85_0 a0.f2 a1)) .nil)))))))))))))))
theorem ol27_0 (a : K_B) (k : Int) : (o27_0 a k).length = length a.f4 := by
 unfold o27_0
 simp [ol85, ol86]
theorem ol27_1 (a : K_B) (k : Int) : (o27_1 a k).length = length a.f3 := by
 unfold o27_1
 simp [ol85, ol86]
theorem oo27_1 (a : K_B) (k : Int) (h : ∀ z ∈ a.f3, ok_R z) : ∀ z ∈ o27_1 a k, ok_R z := by
 unfold o27_1
 first | exact oo86 _ _ h | exact h
theorem ol27_2 (a : K_B) (k : Int) : (o27_2 a k).length = length a.f2 := by
 unfold o27_2
 simp [ol85, ol86]
def o28_0 (a0 : K_C) (a1 : Int) : List K_si :=
 (o27_0 (K_B.mk a0.f2 a0.f3 a0.f4 a0.f5 a0.f6 a0.f7 a0.f8 a0.f9) a1)
def o28_1 (a0 : K_C) (a1 : Int) : List K_R :=
 (o27_1 (K_B.mk a0.f2 a0.f3 a0.f4 a0.f5 a0.f6 a0.f7 a0.f8 a0.f9) a1)
def o28_2 (a0 : K_C) (a1 : Int) : List K_si :=
 (o27_2 (K_B.mk a0.f2 a0.f3 a0.f4 a0.f5 a0.f6 a0.f7 a0.f8 a0.f9) a1)
def m28 (a0 : K_C) (a1 : Int) : Int :=
 (m27 (K_B.mk a0.f2 a0.f3 a0.f4 a0.f5 a0.f6 a0.f7 a0.f8 a0.f9) a1)
theorem e28 {a0 : K_C} {a1 : Int} (hy0 : length a0.f4 * 24 ≤ 140737488351232) (hy1 : length a0.f5 * 56 ≤ 140737488351232) (hy2 : ∀ z ∈ a0.f5, ok_R z) (hy3 : length a0.f6 * 24 ≤ 140737488351232) : Ev F X (.call 28 [(.agg [(.val (.int .i64 a0.f0)), (.val (.int .i64 a0.f1)), (.val (.int .i64 a0.f2)), (.val (.int .i64 a0.f3)), (.ref ⟨(0, 0, 0), [], 0, (length (map d_si a0.f4))⟩), (.ref ⟨(0, 1, 0), [], 0, (length (map d_R a0.f5))⟩), (.ref ⟨(0, 2, 0), [], 0, (length (map d_si a0.f6))⟩), (.val (.int .i64 a0.f7)), (.val (.int .i64 a0.f8)), (.val (.int .i64 a0.f9))]), (.one (.val (.int .i64 a1)))] [((0, 2, 0), ⟨2, (map d_si a0.f6), []⟩), ((0, 1, 0), ⟨5, (map d_R a0.f5), []⟩), ((0, 0, 0), ⟨2, (map d_si a0.f4), []⟩)] [(map d_si (o28_0 a0 a1)), (map d_R (o28_1 a0 a1)), (map d_si (o28_2 a0 a1))] [(.one (.val (.int .i64 (m28 a0 a1))))]) := by
 have f9 := e27 (a0 := (K_B.mk a0.f2 a0.f3 a0.f4 a0.f5 a0.f6 a0.f7 a0.f8 a0.f9)) (a1 := a1) (by with_reducible assumption) (by with_reducible assumption) (by with_reducible assumption) (by with_reducible assumption)
 exact callP_ok (ps := [true, true, true]) (os := [(map d_si (o27_0 (K_B.mk a0.f2 a0.f3 a0.f4 a0.f5 a0.f6 a0.f7 a0.f8 a0.f9) a1)), (map d_R (o27_1 (K_B.mk a0.f2 a0.f3 a0.f4 a0.f5 a0.f6 a0.f7 a0.f8 a0.f9) a1)), (map d_si (o27_2 (K_B.mk a0.f2 a0.f3 a0.f4 a0.f5 a0.f6 a0.f7 a0.f8 a0.f9) a1))]) (rs := [(.oi (m27 (K_B.mk a0.f2 a0.f3 a0.f4 a0.f5 a0.f6 a0.f7 a0.f8 a0.f9) a1))]) (by kernel_rfl) (.e 0 (.e (length (map d_si a0.f4)) (.e 0 (.e (length (map d_R a0.f5)) (.e 0 (.e (length (map d_si a0.f6)) (.f (pureR_si (a0.f4)) (.f (pureR_R (a0.f5)) (.f (pureR_si (a0.f6)) (.r 11 [true, true, true] [] f9 (.f (pureR_si (o27_0 (K_B.mk a0.f2 a0.f3 a0.f4 a0.f5 a0.f6 a0.f7 a0.f8 a0.f9) a1)) (.f (pureR_R (o27_1 (K_B.mk a0.f2 a0.f3 a0.f4 a0.f5 a0.f6 a0.f7 a0.f8 a0.f9) a1)) (.f (pureR_si (o27_2 (K_B.mk a0.f2 a0.f3 a0.f4 a0.f5 a0.f6 a0.f7 a0.f8 a0.f9) a1)) .nil)))))))))))))
theorem ol28_0 (a : K_C) (k : Int) : (o28_0 a k).length = length a.f6 := by
 unfold o28_0
 simp [ol27_0, ol27_1, ol27_2]
theorem ol28_1 (a : K_C) (k : Int) : (o28_1 a k).length = length a.f5 := by
 unfold o28_1
 simp [ol27_0, ol27_1, ol27_2]
theorem oo28_1 (a : K_C) (k : Int) (h : ∀ z ∈ a.f5, ok_R z) : ∀ z ∈ o28_1 a k, ok_R z := by
 unfold o28_1
 first | exact oo27_1 _ _ h | exact h
theorem ol28_2 (a : K_C) (k : Int) : (o28_2 a k).length = length a.f4 := by
 unfold o28_2
 simp [ol27_0, ol27_1, ol27_2]
end Go.Proofs.YtfmkbpiobddhdaaDoor.FoundReward
