/- What the functions compute. -/
import Derived.Test.YtdnopbpdiineiaaDoorTOpenSession
import Derived.Test.YtdnopbpdiineiaaDoorVNum
import Derived.Test.YtdnopbpdiineiaaDoorVClone
import Derived.Test.YtdnopbpdiineiaaDoorVExt
import Derived.Test.YtdnopbpdiineiaaDoorXOpenSession
import Derived.KernelRfl
namespace Go.Proofs.YtdnopbpdiineiaaDoor.OpenSession
open Go Go.Proofs.YtdnopbpdiineiaaDoor.V
set_option linter.unusedVariables false
set_option linter.unusedSimpArgs false
set_option maxRecDepth 20000
abbrev _root_.Go.Proofs.YtdnopbpdiineiaaDoor.V.B.i (x : Int) : B := .val (.int .i64 x)
abbrev _root_.Go.Proofs.YtdnopbpdiineiaaDoor.V.D.i (x : Int) : D := .val (.int .i64 x)
abbrev _root_.Go.Proofs.YtdnopbpdiineiaaDoor.V.CV.i (x : Int) : CV := .val (.int .i64 x)
abbrev _root_.Go.Proofs.YtdnopbpdiineiaaDoor.V.SV.oi (x : Int) : SV := .one (.val (.int .i64 x))
abbrev _root_.Go.Proofs.YtdnopbpdiineiaaDoor.V.Ret.oi (x : Int) : Ret := .one (.val (.int .i64 x))
open List (length_replicate length_map length_set length_append length_cons length_nil length_take length_drop take_of_length_le map_take map_drop map_set append_assoc getElem?_map map length take drop getD set)
def X : Ext := fun f args rs => (f = 145 ∧ CloneX 4 48 args rs) ∨ (f = 138 ∧ IdxX args rs) ∨ (f = 156 ∧ TrimX args rs)
structure K_sisi where
  f0 : ByteArray
  f1 : Int
  f2 : ByteArray
  f3 : Int
def b_sisi (x : K_sisi) : List B := [(.val (.string x.f0)), (.val (.int .i64 x.f1)), (.val (.string x.f2)), (.val (.int .i64 x.f3))]
def d_sisi (x : K_sisi) : List D := [(.val (.string x.f0)), (.val (.int .i64 x.f1)), (.val (.string x.f2)), (.val (.int .i64 x.f3))]
theorem toBR_sisi : ∀ (l : List K_sisi), toBR (l.map d_sisi) = l.map b_sisi
  | [] => rfl
  | x :: l => by simp [toBR, toBL, toB, d_sisi, b_sisi, toBR_sisi l]
theorem fullR_sisi : ∀ (l : List K_sisi), fullR (l.map d_sisi) = true
  | [] => rfl
  | x :: l => by simp [fullR, fullL, full, d_sisi, fullR_sisi l]
theorem pureR_sisi : ∀ (l : List K_sisi), pureR (l.map d_sisi) = true
  | [] => rfl
  | x :: l => by simp [pureR, pureL, V.pure, d_sisi, pureR_sisi l]
theorem ft_sisi (a b : Nat) (l : List K_sisi) : fullR (take a (drop b (l.map d_sisi))) = true := by rw [← map_drop, ← map_take]; exact fullR_sisi _
theorem tbt_sisi (a b : Nat) (l : List K_sisi) : toBR (take a (drop b (l.map d_sisi))) = (take a (drop b l)).map b_sisi := by rw [← map_drop, ← map_take]; exact toBR_sisi _
theorem tb_sisi (l : List K_sisi) : toBR (take (l.map d_sisi).length (drop 0 (l.map d_sisi))) = l.map b_sisi := by rw [List.drop_zero, List.take_length]; exact toBR_sisi l
theorem lenB_sisi (l : List K_sisi) : ∀ r ∈ l.map b_sisi, r.length = 4 := by intro r h; obtain ⟨x, _, rfl⟩ := List.mem_map.1 h; rfl
theorem lenD_sisi (l : List K_sisi) : ∀ r ∈ l.map d_sisi, r.length = 4 := by intro r h; obtain ⟨x, _, rfl⟩ := List.mem_map.1 h; rfl
def os_sisi (x : K_sisi) : Prop := (ByteArray.size x.f0 ≤ 140737488351232) ∧ (ByteArray.size x.f2 ≤ 140737488351232)
theorem gos_sisi {l : List K_sisi} (h : ∀ z ∈ l, os_sisi z) (n : Nat) (d : K_sisi) (hd : os_sisi d) : os_sisi (l.getD n d) := by
  rw [List.getD_eq_getElem?_getD]; cases h2 : l[n]? with
  | none => simpa using hd
  | some x => exact h x (List.mem_of_getElem? h2)
theorem fromBR_sisi (n : Nat) (l : List K_sisi) : fromBR n (l.map b_sisi) = l.map d_sisi := by simp [fromBR, b_sisi, d_sisi, fromB, Function.comp_def]
theorem copy_sisi (l : List K_sisi) : (l.map d_sisi).all (fun x => x.all copyable) = true := by simp [d_sisi, copyable, Function.comp_def]
theorem ct_sisi (a b : Nat) (l : List K_sisi) : ((take a (drop b (l.map d_sisi))).all fun x => x.all copyable) = true := by rw [← map_drop, ← map_take]; exact copy_sisi _
structure K_LsisiEi where
  f0 : (List K_sisi)
  f1 : Int
def b_LsisiEi (x : K_LsisiEi) : List B := [(.sl (map b_sisi x.f0)), (.val (.int .i64 x.f1))]
def d_LsisiEi (x : K_LsisiEi) : List D := [(.own 4 (map d_sisi x.f0)), (.val (.int .i64 x.f1))]
theorem toBR_LsisiEi : ∀ (l : List K_LsisiEi), toBR (l.map d_LsisiEi) = l.map b_LsisiEi
  | [] => rfl
  | x :: l => by simp [toBR, toBL, toB, d_LsisiEi, b_LsisiEi, toBR_LsisiEi l, toBR_sisi]
theorem fullR_LsisiEi : ∀ (l : List K_LsisiEi), fullR (l.map d_LsisiEi) = true
  | [] => rfl
  | x :: l => by simp [fullR, fullL, full, d_LsisiEi, fullR_LsisiEi l, fullR_sisi]
theorem pureR_LsisiEi : ∀ (l : List K_LsisiEi), pureR (l.map d_LsisiEi) = true
  | [] => rfl
  | x :: l => by simp [pureR, pureL, V.pure, d_LsisiEi, pureR_LsisiEi l, pureR_sisi]
theorem ft_LsisiEi (a b : Nat) (l : List K_LsisiEi) : fullR (take a (drop b (l.map d_LsisiEi))) = true := by rw [← map_drop, ← map_take]; exact fullR_LsisiEi _
theorem tbt_LsisiEi (a b : Nat) (l : List K_LsisiEi) : toBR (take a (drop b (l.map d_LsisiEi))) = (take a (drop b l)).map b_LsisiEi := by rw [← map_drop, ← map_take]; exact toBR_LsisiEi _
theorem tb_LsisiEi (l : List K_LsisiEi) : toBR (take (l.map d_LsisiEi).length (drop 0 (l.map d_LsisiEi))) = l.map b_LsisiEi := by rw [List.drop_zero, List.take_length]; exact toBR_LsisiEi l
theorem lenB_LsisiEi (l : List K_LsisiEi) : ∀ r ∈ l.map b_LsisiEi, r.length = 2 := by intro r h; obtain ⟨x, _, rfl⟩ := List.mem_map.1 h; rfl
theorem lenD_LsisiEi (l : List K_LsisiEi) : ∀ r ∈ l.map d_LsisiEi, r.length = 2 := by intro r h; obtain ⟨x, _, rfl⟩ := List.mem_map.1 h; rfl
def ok_LsisiEi (x : K_LsisiEi) : Prop := (length x.f0 * 48 ≤ 140737488351232)
def os_LsisiEi (x : K_LsisiEi) : Prop := (length x.f0 * 48 ≤ 140737488351232) ∧ (∀ z ∈ x.f0, os_sisi z)
theorem os_ok_LsisiEi (x : K_LsisiEi) (h : os_LsisiEi x) : ok_LsisiEi x := h.1
theorem gos_LsisiEi {l : List K_LsisiEi} (h : ∀ z ∈ l, os_LsisiEi z) (n : Nat) (d : K_LsisiEi) (hd : os_LsisiEi d) : os_LsisiEi (l.getD n d) := by
  rw [List.getD_eq_getElem?_getD]; cases h2 : l[n]? with
  | none => simpa using hd
  | some x => exact h x (List.mem_of_getElem? h2)
theorem gok_LsisiEi {l : List K_LsisiEi} (h : ∀ z ∈ l, ok_LsisiEi z) (n : Nat) (d : K_LsisiEi) (hd : ok_LsisiEi d) : ok_LsisiEi (l.getD n d) := by
  rw [List.getD_eq_getElem?_getD]; cases h2 : l[n]? with
  | none => simpa using hd
  | some x => exact h x (List.mem_of_getElem? h2)
def b_b (x : Bool) : List B := [(.val (.bool x))]
def d_b (x : Bool) : List D := [(.val (.bool x))]
theorem toBR_b : ∀ (l : List Bool), toBR (l.map d_b) = l.map b_b
  | [] => rfl
  | x :: l => by simp [toBR, toBL, toB, d_b, b_b, toBR_b l]
theorem fullR_b : ∀ (l : List Bool), fullR (l.map d_b) = true
  | [] => rfl
  | x :: l => by simp [fullR, fullL, full, d_b, fullR_b l]
theorem pureR_b : ∀ (l : List Bool), pureR (l.map d_b) = true
  | [] => rfl
  | x :: l => by simp [pureR, pureL, V.pure, d_b, pureR_b l]
theorem ft_b (a b : Nat) (l : List Bool) : fullR (take a (drop b (l.map d_b))) = true := by rw [← map_drop, ← map_take]; exact fullR_b _
theorem tbt_b (a b : Nat) (l : List Bool) : toBR (take a (drop b (l.map d_b))) = (take a (drop b l)).map b_b := by rw [← map_drop, ← map_take]; exact toBR_b _
theorem tb_b (l : List Bool) : toBR (take (l.map d_b).length (drop 0 (l.map d_b))) = l.map b_b := by rw [List.drop_zero, List.take_length]; exact toBR_b l
theorem lenB_b (l : List Bool) : ∀ r ∈ l.map b_b, r.length = 1 := by intro r h; obtain ⟨x, _, rfl⟩ := List.mem_map.1 h; rfl
theorem lenD_b (l : List Bool) : ∀ r ∈ l.map d_b, r.length = 1 := by intro r h; obtain ⟨x, _, rfl⟩ := List.mem_map.1 h; rfl
theorem fromBR_b (n : Nat) (l : List Bool) : fromBR n (l.map b_b) = l.map d_b := by simp [fromBR, b_b, d_b, fromB, Function.comp_def]
theorem copy_b (l : List Bool) : (l.map d_b).all (fun x => x.all copyable) = true := by simp [d_b, copyable, Function.comp_def]
theorem ct_b (a b : Nat) (l : List Bool) : ((take a (drop b (l.map d_b))).all fun x => x.all copyable) = true := by rw [← map_drop, ← map_take]; exact copy_b _
def b_i (x : Int) : List B := [(.val (.int .i64 x))]
def d_i (x : Int) : List D := [(.val (.int .i64 x))]
theorem toBR_i : ∀ (l : List Int), toBR (l.map d_i) = l.map b_i
  | [] => rfl
  | x :: l => by simp [toBR, toBL, toB, d_i, b_i, toBR_i l]
theorem fullR_i : ∀ (l : List Int), fullR (l.map d_i) = true
  | [] => rfl
  | x :: l => by simp [fullR, fullL, full, d_i, fullR_i l]
theorem pureR_i : ∀ (l : List Int), pureR (l.map d_i) = true
  | [] => rfl
  | x :: l => by simp [pureR, pureL, V.pure, d_i, pureR_i l]
theorem ft_i (a b : Nat) (l : List Int) : fullR (take a (drop b (l.map d_i))) = true := by rw [← map_drop, ← map_take]; exact fullR_i _
theorem tbt_i (a b : Nat) (l : List Int) : toBR (take a (drop b (l.map d_i))) = (take a (drop b l)).map b_i := by rw [← map_drop, ← map_take]; exact toBR_i _
theorem tb_i (l : List Int) : toBR (take (l.map d_i).length (drop 0 (l.map d_i))) = l.map b_i := by rw [List.drop_zero, List.take_length]; exact toBR_i l
theorem lenB_i (l : List Int) : ∀ r ∈ l.map b_i, r.length = 1 := by intro r h; obtain ⟨x, _, rfl⟩ := List.mem_map.1 h; rfl
theorem lenD_i (l : List Int) : ∀ r ∈ l.map d_i, r.length = 1 := by intro r h; obtain ⟨x, _, rfl⟩ := List.mem_map.1 h; rfl
theorem fromBR_i (n : Nat) (l : List Int) : fromBR n (l.map b_i) = l.map d_i := by simp [fromBR, b_i, d_i, fromB, Function.comp_def]
theorem copy_i (l : List Int) : (l.map d_i).all (fun x => x.all copyable) = true := by simp [d_i, copyable, Function.comp_def]
theorem ct_i (a b : Nat) (l : List Int) : ((take a (drop b (l.map d_i))).all fun x => x.all copyable) = true := by rw [← map_drop, ← map_take]; exact copy_i _
def b_s (x : ByteArray) : List B := [(.val (.string x))]
def d_s (x : ByteArray) : List D := [(.val (.string x))]
theorem toBR_s : ∀ (l : List ByteArray), toBR (l.map d_s) = l.map b_s
  | [] => rfl
  | x :: l => by simp [toBR, toBL, toB, d_s, b_s, toBR_s l]
theorem fullR_s : ∀ (l : List ByteArray), fullR (l.map d_s) = true
  | [] => rfl
  | x :: l => by simp [fullR, fullL, full, d_s, fullR_s l]
theorem pureR_s : ∀ (l : List ByteArray), pureR (l.map d_s) = true
  | [] => rfl
  | x :: l => by simp [pureR, pureL, V.pure, d_s, pureR_s l]
theorem ft_s (a b : Nat) (l : List ByteArray) : fullR (take a (drop b (l.map d_s))) = true := by rw [← map_drop, ← map_take]; exact fullR_s _
theorem tbt_s (a b : Nat) (l : List ByteArray) : toBR (take a (drop b (l.map d_s))) = (take a (drop b l)).map b_s := by rw [← map_drop, ← map_take]; exact toBR_s _
theorem tb_s (l : List ByteArray) : toBR (take (l.map d_s).length (drop 0 (l.map d_s))) = l.map b_s := by rw [List.drop_zero, List.take_length]; exact toBR_s l
theorem lenB_s (l : List ByteArray) : ∀ r ∈ l.map b_s, r.length = 1 := by intro r h; obtain ⟨x, _, rfl⟩ := List.mem_map.1 h; rfl
theorem lenD_s (l : List ByteArray) : ∀ r ∈ l.map d_s, r.length = 1 := by intro r h; obtain ⟨x, _, rfl⟩ := List.mem_map.1 h; rfl
def os_s (x : ByteArray) : Prop := (ByteArray.size x ≤ 140737488351232)
theorem gos_s {l : List ByteArray} (h : ∀ z ∈ l, os_s z) (n : Nat) (d : ByteArray) (hd : os_s d) : os_s (l.getD n d) := by
  rw [List.getD_eq_getElem?_getD]; cases h2 : l[n]? with
  | none => simpa using hd
  | some x => exact h x (List.mem_of_getElem? h2)
theorem fromBR_s (n : Nat) (l : List ByteArray) : fromBR n (l.map b_s) = l.map d_s := by simp [fromBR, b_s, d_s, fromB, Function.comp_def]
theorem copy_s (l : List ByteArray) : (l.map d_s).all (fun x => x.all copyable) = true := by simp [d_s, copyable, Function.comp_def]
theorem ct_s (a b : Nat) (l : List ByteArray) : ((take a (drop b (l.map d_s))).all fun x => x.all copyable) = true := by rw [← map_drop, ← map_take]; exact copy_s _
structure K_iisiiii where
  f0 : Int
  f1 : Int
  f2 : ByteArray
  f3 : Int
  f4 : Int
  f5 : Int
  f6 : Int
def b_iisiiii (x : K_iisiiii) : List B := [(.val (.int .i64 x.f0)), (.val (.int .i64 x.f1)), (.val (.string x.f2)), (.val (.int .i64 x.f3)), (.val (.int .i64 x.f4)), (.val (.int .i64 x.f5)), (.val (.int .i64 x.f6))]
def d_iisiiii (x : K_iisiiii) : List D := [(.val (.int .i64 x.f0)), (.val (.int .i64 x.f1)), (.val (.string x.f2)), (.val (.int .i64 x.f3)), (.val (.int .i64 x.f4)), (.val (.int .i64 x.f5)), (.val (.int .i64 x.f6))]
theorem toBR_iisiiii : ∀ (l : List K_iisiiii), toBR (l.map d_iisiiii) = l.map b_iisiiii
  | [] => rfl
  | x :: l => by simp [toBR, toBL, toB, d_iisiiii, b_iisiiii, toBR_iisiiii l]
theorem fullR_iisiiii : ∀ (l : List K_iisiiii), fullR (l.map d_iisiiii) = true
  | [] => rfl
  | x :: l => by simp [fullR, fullL, full, d_iisiiii, fullR_iisiiii l]
theorem pureR_iisiiii : ∀ (l : List K_iisiiii), pureR (l.map d_iisiiii) = true
  | [] => rfl
  | x :: l => by simp [pureR, pureL, V.pure, d_iisiiii, pureR_iisiiii l]
theorem ft_iisiiii (a b : Nat) (l : List K_iisiiii) : fullR (take a (drop b (l.map d_iisiiii))) = true := by rw [← map_drop, ← map_take]; exact fullR_iisiiii _
theorem tbt_iisiiii (a b : Nat) (l : List K_iisiiii) : toBR (take a (drop b (l.map d_iisiiii))) = (take a (drop b l)).map b_iisiiii := by rw [← map_drop, ← map_take]; exact toBR_iisiiii _
theorem tb_iisiiii (l : List K_iisiiii) : toBR (take (l.map d_iisiiii).length (drop 0 (l.map d_iisiiii))) = l.map b_iisiiii := by rw [List.drop_zero, List.take_length]; exact toBR_iisiiii l
theorem lenB_iisiiii (l : List K_iisiiii) : ∀ r ∈ l.map b_iisiiii, r.length = 7 := by intro r h; obtain ⟨x, _, rfl⟩ := List.mem_map.1 h; rfl
theorem lenD_iisiiii (l : List K_iisiiii) : ∀ r ∈ l.map d_iisiiii, r.length = 7 := by intro r h; obtain ⟨x, _, rfl⟩ := List.mem_map.1 h; rfl
def os_iisiiii (x : K_iisiiii) : Prop := (ByteArray.size x.f2 ≤ 140737488351232)
theorem gos_iisiiii {l : List K_iisiiii} (h : ∀ z ∈ l, os_iisiiii z) (n : Nat) (d : K_iisiiii) (hd : os_iisiiii d) : os_iisiiii (l.getD n d) := by
  rw [List.getD_eq_getElem?_getD]; cases h2 : l[n]? with
  | none => simpa using hd
  | some x => exact h x (List.mem_of_getElem? h2)
theorem fromBR_iisiiii (n : Nat) (l : List K_iisiiii) : fromBR n (l.map b_iisiiii) = l.map d_iisiiii := by simp [fromBR, b_iisiiii, d_iisiiii, fromB, Function.comp_def]
theorem copy_iisiiii (l : List K_iisiiii) : (l.map d_iisiiii).all (fun x => x.all copyable) = true := by simp [d_iisiiii, copyable, Function.comp_def]
theorem ct_iisiiii (a b : Nat) (l : List K_iisiiii) : ((take a (drop b (l.map d_iisiiii))).all fun x => x.all copyable) = true := by rw [← map_drop, ← map_take]; exact copy_iisiiii _
structure K_iLsELiisiiiiELsisiEi where
  f0 : Int
  f1 : (List ByteArray)
  f2 : (List K_iisiiii)
  f3 : (List K_sisi)
  f4 : Int
def b_iLsELiisiiiiELsisiEi (x : K_iLsELiisiiiiELsisiEi) : List B := [(.val (.int .i64 x.f0)), (.sl (map b_s x.f1)), (.sl (map b_iisiiii x.f2)), (.sl (map b_sisi x.f3)), (.val (.int .i64 x.f4))]
def d_iLsELiisiiiiELsisiEi (x : K_iLsELiisiiiiELsisiEi) : List D := [(.val (.int .i64 x.f0)), (.own 1 (map d_s x.f1)), (.own 7 (map d_iisiiii x.f2)), (.own 4 (map d_sisi x.f3)), (.val (.int .i64 x.f4))]
theorem toBR_iLsELiisiiiiELsisiEi : ∀ (l : List K_iLsELiisiiiiELsisiEi), toBR (l.map d_iLsELiisiiiiELsisiEi) = l.map b_iLsELiisiiiiELsisiEi
  | [] => rfl
  | x :: l => by simp [toBR, toBL, toB, d_iLsELiisiiiiELsisiEi, b_iLsELiisiiiiELsisiEi, toBR_iLsELiisiiiiELsisiEi l, toBR_s, toBR_iisiiii, toBR_sisi]
theorem fullR_iLsELiisiiiiELsisiEi : ∀ (l : List K_iLsELiisiiiiELsisiEi), fullR (l.map d_iLsELiisiiiiELsisiEi) = true
  | [] => rfl
  | x :: l => by simp [fullR, fullL, full, d_iLsELiisiiiiELsisiEi, fullR_iLsELiisiiiiELsisiEi l, fullR_s, fullR_iisiiii, fullR_sisi]
theorem pureR_iLsELiisiiiiELsisiEi : ∀ (l : List K_iLsELiisiiiiELsisiEi), pureR (l.map d_iLsELiisiiiiELsisiEi) = true
  | [] => rfl
  | x :: l => by simp [pureR, pureL, V.pure, d_iLsELiisiiiiELsisiEi, pureR_iLsELiisiiiiELsisiEi l, pureR_s, pureR_iisiiii, pureR_sisi]
theorem ft_iLsELiisiiiiELsisiEi (a b : Nat) (l : List K_iLsELiisiiiiELsisiEi) : fullR (take a (drop b (l.map d_iLsELiisiiiiELsisiEi))) = true := by rw [← map_drop, ← map_take]; exact fullR_iLsELiisiiiiELsisiEi _
theorem tbt_iLsELiisiiiiELsisiEi (a b : Nat) (l : List K_iLsELiisiiiiELsisiEi) : toBR (take a (drop b (l.map d_iLsELiisiiiiELsisiEi))) = (take a (drop b l)).map b_iLsELiisiiiiELsisiEi := by rw [← map_drop, ← map_take]; exact toBR_iLsELiisiiiiELsisiEi _
theorem tb_iLsELiisiiiiELsisiEi (l : List K_iLsELiisiiiiELsisiEi) : toBR (take (l.map d_iLsELiisiiiiELsisiEi).length (drop 0 (l.map d_iLsELiisiiiiELsisiEi))) = l.map b_iLsELiisiiiiELsisiEi := by rw [List.drop_zero, List.take_length]; exact toBR_iLsELiisiiiiELsisiEi l
theorem lenB_iLsELiisiiiiELsisiEi (l : List K_iLsELiisiiiiELsisiEi) : ∀ r ∈ l.map b_iLsELiisiiiiELsisiEi, r.length = 5 := by intro r h; obtain ⟨x, _, rfl⟩ := List.mem_map.1 h; rfl
theorem lenD_iLsELiisiiiiELsisiEi (l : List K_iLsELiisiiiiELsisiEi) : ∀ r ∈ l.map d_iLsELiisiiiiELsisiEi, r.length = 5 := by intro r h; obtain ⟨x, _, rfl⟩ := List.mem_map.1 h; rfl
def ok_iLsELiisiiiiELsisiEi (x : K_iLsELiisiiiiELsisiEi) : Prop := (length x.f1 * 16 ≤ 140737488351232) ∧ (length x.f2 * 64 ≤ 140737488351232) ∧ (length x.f3 * 48 ≤ 140737488351232)
def os_iLsELiisiiiiELsisiEi (x : K_iLsELiisiiiiELsisiEi) : Prop := (length x.f1 * 16 ≤ 140737488351232) ∧ (∀ z ∈ x.f1, os_s z) ∧ (length x.f2 * 64 ≤ 140737488351232) ∧ (∀ z ∈ x.f2, os_iisiiii z) ∧ (length x.f3 * 48 ≤ 140737488351232) ∧ (∀ z ∈ x.f3, os_sisi z)
theorem os_ok_iLsELiisiiiiELsisiEi (x : K_iLsELiisiiiiELsisiEi) (h : os_iLsELiisiiiiELsisiEi x) : ok_iLsELiisiiiiELsisiEi x := ⟨h.1, h.2.2.1, h.2.2.2.2.1⟩
theorem gos_iLsELiisiiiiELsisiEi {l : List K_iLsELiisiiiiELsisiEi} (h : ∀ z ∈ l, os_iLsELiisiiiiELsisiEi z) (n : Nat) (d : K_iLsELiisiiiiELsisiEi) (hd : os_iLsELiisiiiiELsisiEi d) : os_iLsELiisiiiiELsisiEi (l.getD n d) := by
  rw [List.getD_eq_getElem?_getD]; cases h2 : l[n]? with
  | none => simpa using hd
  | some x => exact h x (List.mem_of_getElem? h2)
theorem gok_iLsELiisiiiiELsisiEi {l : List K_iLsELiisiiiiELsisiEi} (h : ∀ z ∈ l, ok_iLsELiisiiiiELsisiEi z) (n : Nat) (d : K_iLsELiisiiiiELsisiEi) (hd : ok_iLsELiisiiiiELsisiEi d) : ok_iLsELiisiiiiELsisiEi (l.getD n d) := by
  rw [List.getD_eq_getElem?_getD]; cases h2 : l[n]? with
  | none => simpa using hd
  | some x => exact h x (List.mem_of_getElem? h2)
def b_LsisiE (x : (List K_sisi)) : List B := [(.sl (map b_sisi x))]
def d_LsisiE (x : (List K_sisi)) : List D := [(.own 4 (map d_sisi x))]
theorem toBR_LsisiE : ∀ (l : List (List K_sisi)), toBR (l.map d_LsisiE) = l.map b_LsisiE
  | [] => rfl
  | x :: l => by simp [toBR, toBL, toB, d_LsisiE, b_LsisiE, toBR_LsisiE l, toBR_sisi]
theorem fullR_LsisiE : ∀ (l : List (List K_sisi)), fullR (l.map d_LsisiE) = true
  | [] => rfl
  | x :: l => by simp [fullR, fullL, full, d_LsisiE, fullR_LsisiE l, fullR_sisi]
theorem pureR_LsisiE : ∀ (l : List (List K_sisi)), pureR (l.map d_LsisiE) = true
  | [] => rfl
  | x :: l => by simp [pureR, pureL, V.pure, d_LsisiE, pureR_LsisiE l, pureR_sisi]
theorem ft_LsisiE (a b : Nat) (l : List (List K_sisi)) : fullR (take a (drop b (l.map d_LsisiE))) = true := by rw [← map_drop, ← map_take]; exact fullR_LsisiE _
theorem tbt_LsisiE (a b : Nat) (l : List (List K_sisi)) : toBR (take a (drop b (l.map d_LsisiE))) = (take a (drop b l)).map b_LsisiE := by rw [← map_drop, ← map_take]; exact toBR_LsisiE _
theorem tb_LsisiE (l : List (List K_sisi)) : toBR (take (l.map d_LsisiE).length (drop 0 (l.map d_LsisiE))) = l.map b_LsisiE := by rw [List.drop_zero, List.take_length]; exact toBR_LsisiE l
theorem lenB_LsisiE (l : List (List K_sisi)) : ∀ r ∈ l.map b_LsisiE, r.length = 1 := by intro r h; obtain ⟨x, _, rfl⟩ := List.mem_map.1 h; rfl
theorem lenD_LsisiE (l : List (List K_sisi)) : ∀ r ∈ l.map d_LsisiE, r.length = 1 := by intro r h; obtain ⟨x, _, rfl⟩ := List.mem_map.1 h; rfl
def ok_LsisiE (x : (List K_sisi)) : Prop := (length x * 48 ≤ 140737488351232)
def os_LsisiE (x : (List K_sisi)) : Prop := (length x * 48 ≤ 140737488351232) ∧ (∀ z ∈ x, os_sisi z)
theorem os_ok_LsisiE (x : (List K_sisi)) (h : os_LsisiE x) : ok_LsisiE x := h.1
theorem gos_LsisiE {l : List (List K_sisi)} (h : ∀ z ∈ l, os_LsisiE z) (n : Nat) (d : (List K_sisi)) (hd : os_LsisiE d) : os_LsisiE (l.getD n d) := by
  rw [List.getD_eq_getElem?_getD]; cases h2 : l[n]? with
  | none => simpa using hd
  | some x => exact h x (List.mem_of_getElem? h2)
theorem gok_LsisiE {l : List (List K_sisi)} (h : ∀ z ∈ l, ok_LsisiE z) (n : Nat) (d : (List K_sisi)) (hd : ok_LsisiE d) : ok_LsisiE (l.getD n d) := by
  rw [List.getD_eq_getElem?_getD]; cases h2 : l[n]? with
  | none => simpa using hd
  | some x => exact h x (List.mem_of_getElem? h2)
def b_LsE (x : (List ByteArray)) : List B := [(.sl (map b_s x))]
def d_LsE (x : (List ByteArray)) : List D := [(.own 1 (map d_s x))]
theorem toBR_LsE : ∀ (l : List (List ByteArray)), toBR (l.map d_LsE) = l.map b_LsE
  | [] => rfl
  | x :: l => by simp [toBR, toBL, toB, d_LsE, b_LsE, toBR_LsE l, toBR_s]
theorem fullR_LsE : ∀ (l : List (List ByteArray)), fullR (l.map d_LsE) = true
  | [] => rfl
  | x :: l => by simp [fullR, fullL, full, d_LsE, fullR_LsE l, fullR_s]
theorem pureR_LsE : ∀ (l : List (List ByteArray)), pureR (l.map d_LsE) = true
  | [] => rfl
  | x :: l => by simp [pureR, pureL, V.pure, d_LsE, pureR_LsE l, pureR_s]
theorem ft_LsE (a b : Nat) (l : List (List ByteArray)) : fullR (take a (drop b (l.map d_LsE))) = true := by rw [← map_drop, ← map_take]; exact fullR_LsE _
theorem tbt_LsE (a b : Nat) (l : List (List ByteArray)) : toBR (take a (drop b (l.map d_LsE))) = (take a (drop b l)).map b_LsE := by rw [← map_drop, ← map_take]; exact toBR_LsE _
theorem tb_LsE (l : List (List ByteArray)) : toBR (take (l.map d_LsE).length (drop 0 (l.map d_LsE))) = l.map b_LsE := by rw [List.drop_zero, List.take_length]; exact toBR_LsE l
theorem lenB_LsE (l : List (List ByteArray)) : ∀ r ∈ l.map b_LsE, r.length = 1 := by intro r h; obtain ⟨x, _, rfl⟩ := List.mem_map.1 h; rfl
theorem lenD_LsE (l : List (List ByteArray)) : ∀ r ∈ l.map d_LsE, r.length = 1 := by intro r h; obtain ⟨x, _, rfl⟩ := List.mem_map.1 h; rfl
def ok_LsE (x : (List ByteArray)) : Prop := (length x * 16 ≤ 140737488351232)
def os_LsE (x : (List ByteArray)) : Prop := (length x * 16 ≤ 140737488351232) ∧ (∀ z ∈ x, os_s z)
theorem os_ok_LsE (x : (List ByteArray)) (h : os_LsE x) : ok_LsE x := h.1
theorem gos_LsE {l : List (List ByteArray)} (h : ∀ z ∈ l, os_LsE z) (n : Nat) (d : (List ByteArray)) (hd : os_LsE d) : os_LsE (l.getD n d) := by
  rw [List.getD_eq_getElem?_getD]; cases h2 : l[n]? with
  | none => simpa using hd
  | some x => exact h x (List.mem_of_getElem? h2)
theorem gok_LsE {l : List (List ByteArray)} (h : ∀ z ∈ l, ok_LsE z) (n : Nat) (d : (List ByteArray)) (hd : ok_LsE d) : ok_LsE (l.getD n d) := by
  rw [List.getD_eq_getElem?_getD]; cases h2 : l[n]? with
  | none => simpa using hd
  | some x => exact h x (List.mem_of_getElem? h2)
def b_LiisiiiiE (x : (List K_iisiiii)) : List B := [(.sl (map b_iisiiii x))]
def d_LiisiiiiE (x : (List K_iisiiii)) : List D := [(.own 7 (map d_iisiiii x))]
theorem toBR_LiisiiiiE : ∀ (l : List (List K_iisiiii)), toBR (l.map d_LiisiiiiE) = l.map b_LiisiiiiE
  | [] => rfl
  | x :: l => by simp [toBR, toBL, toB, d_LiisiiiiE, b_LiisiiiiE, toBR_LiisiiiiE l, toBR_iisiiii]
theorem fullR_LiisiiiiE : ∀ (l : List (List K_iisiiii)), fullR (l.map d_LiisiiiiE) = true
  | [] => rfl
  | x :: l => by simp [fullR, fullL, full, d_LiisiiiiE, fullR_LiisiiiiE l, fullR_iisiiii]
theorem pureR_LiisiiiiE : ∀ (l : List (List K_iisiiii)), pureR (l.map d_LiisiiiiE) = true
  | [] => rfl
  | x :: l => by simp [pureR, pureL, V.pure, d_LiisiiiiE, pureR_LiisiiiiE l, pureR_iisiiii]
theorem ft_LiisiiiiE (a b : Nat) (l : List (List K_iisiiii)) : fullR (take a (drop b (l.map d_LiisiiiiE))) = true := by rw [← map_drop, ← map_take]; exact fullR_LiisiiiiE _
theorem tbt_LiisiiiiE (a b : Nat) (l : List (List K_iisiiii)) : toBR (take a (drop b (l.map d_LiisiiiiE))) = (take a (drop b l)).map b_LiisiiiiE := by rw [← map_drop, ← map_take]; exact toBR_LiisiiiiE _
theorem tb_LiisiiiiE (l : List (List K_iisiiii)) : toBR (take (l.map d_LiisiiiiE).length (drop 0 (l.map d_LiisiiiiE))) = l.map b_LiisiiiiE := by rw [List.drop_zero, List.take_length]; exact toBR_LiisiiiiE l
theorem lenB_LiisiiiiE (l : List (List K_iisiiii)) : ∀ r ∈ l.map b_LiisiiiiE, r.length = 1 := by intro r h; obtain ⟨x, _, rfl⟩ := List.mem_map.1 h; rfl
theorem lenD_LiisiiiiE (l : List (List K_iisiiii)) : ∀ r ∈ l.map d_LiisiiiiE, r.length = 1 := by intro r h; obtain ⟨x, _, rfl⟩ := List.mem_map.1 h; rfl
def ok_LiisiiiiE (x : (List K_iisiiii)) : Prop := (length x * 64 ≤ 140737488351232)
def os_LiisiiiiE (x : (List K_iisiiii)) : Prop := (length x * 64 ≤ 140737488351232) ∧ (∀ z ∈ x, os_iisiiii z)
theorem os_ok_LiisiiiiE (x : (List K_iisiiii)) (h : os_LiisiiiiE x) : ok_LiisiiiiE x := h.1
theorem gos_LiisiiiiE {l : List (List K_iisiiii)} (h : ∀ z ∈ l, os_LiisiiiiE z) (n : Nat) (d : (List K_iisiiii)) (hd : os_LiisiiiiE d) : os_LiisiiiiE (l.getD n d) := by
  rw [List.getD_eq_getElem?_getD]; cases h2 : l[n]? with
  | none => simpa using hd
  | some x => exact h x (List.mem_of_getElem? h2)
theorem gok_LiisiiiiE {l : List (List K_iisiiii)} (h : ∀ z ∈ l, ok_LiisiiiiE z) (n : Nat) (d : (List K_iisiiii)) (hd : ok_LiisiiiiE d) : ok_LiisiiiiE (l.getD n d) := by
  rw [List.getD_eq_getElem?_getD]; cases h2 : l[n]? with
  | none => simpa using hd
  | some x => exact h x (List.mem_of_getElem? h2)
def b_y (x : Int) : List B := [(.val (.int .u8 x))]
def d_y (x : Int) : List D := [(.val (.int .u8 x))]
theorem toBR_y : ∀ (l : List Int), toBR (l.map d_y) = l.map b_y
  | [] => rfl
  | x :: l => by simp [toBR, toBL, toB, d_y, b_y, toBR_y l]
theorem fullR_y : ∀ (l : List Int), fullR (l.map d_y) = true
  | [] => rfl
  | x :: l => by simp [fullR, fullL, full, d_y, fullR_y l]
theorem pureR_y : ∀ (l : List Int), pureR (l.map d_y) = true
  | [] => rfl
  | x :: l => by simp [pureR, pureL, V.pure, d_y, pureR_y l]
theorem ft_y (a b : Nat) (l : List Int) : fullR (take a (drop b (l.map d_y))) = true := by rw [← map_drop, ← map_take]; exact fullR_y _
theorem tbt_y (a b : Nat) (l : List Int) : toBR (take a (drop b (l.map d_y))) = (take a (drop b l)).map b_y := by rw [← map_drop, ← map_take]; exact toBR_y _
theorem tb_y (l : List Int) : toBR (take (l.map d_y).length (drop 0 (l.map d_y))) = l.map b_y := by rw [List.drop_zero, List.take_length]; exact toBR_y l
theorem lenB_y (l : List Int) : ∀ r ∈ l.map b_y, r.length = 1 := by intro r h; obtain ⟨x, _, rfl⟩ := List.mem_map.1 h; rfl
theorem lenD_y (l : List Int) : ∀ r ∈ l.map d_y, r.length = 1 := by intro r h; obtain ⟨x, _, rfl⟩ := List.mem_map.1 h; rfl
theorem fromBR_y (n : Nat) (l : List Int) : fromBR n (l.map b_y) = l.map d_y := by simp [fromBR, b_y, d_y, fromB, Function.comp_def]
theorem copy_y (l : List Int) : (l.map d_y).all (fun x => x.all copyable) = true := by simp [d_y, copyable, Function.comp_def]
theorem ct_y (a b : Nat) (l : List Int) : ((take a (drop b (l.map d_y))).all fun x => x.all copyable) = true := by rw [← map_drop, ← map_take]; exact copy_y _
def strInts (s : ByteArray) : List Int := s.data.toList.map fun b => (b.toNat : Int)
theorem ly_y (a : Int) (l : List Int) : [D.val (.int .u8 a)] :: map d_y l = map d_y (a :: l) := rfl
theorem ly0_y (a : Int) : [[D.val (.int .u8 a)]] = map d_y [a] := rfl
theorem strInts_len (s : ByteArray) : (strInts s).length = s.size := by simp [strInts]
theorem byteRows_len (s : ByteArray) : (byteRows s).length = s.size := by simp [byteRows]
theorem byteRows_eq (s : ByteArray) : byteRows s = (strInts s).map d_y := by simp [byteRows, strInts, d_y, Function.comp_def]
theorem tsi (s : ByteArray) : take (ByteArray.size s) (map d_y (strInts s)) = map d_y (strInts s) := by rw [take_of_length_le (by simp [strInts_len])]
theorem tbr (s : ByteArray) : take (ByteArray.size s) (byteRows s) = map d_y (strInts s) := by rw [byteRows_eq, tsi]
theorem ints_y : ∀ (l : List Int), rowsInts .u8 (l.map d_y) = some l
  | [] => rfl
  | x :: l => by simp only [List.map_cons, d_y, rowsInts, ints_y l]; rfl
attribute [local simp] toBR_sisi fullR_sisi pureR_sisi lenB_sisi lenD_sisi fromBR_sisi copy_sisi toBR_LsisiEi fullR_LsisiEi pureR_LsisiEi lenB_LsisiEi lenD_LsisiEi toBR_b fullR_b pureR_b lenB_b lenD_b fromBR_b copy_b toBR_i fullR_i pureR_i lenB_i lenD_i fromBR_i copy_i toBR_s fullR_s pureR_s lenB_s lenD_s fromBR_s copy_s toBR_iisiiii fullR_iisiiii pureR_iisiiii lenB_iisiiii lenD_iisiiii fromBR_iisiiii copy_iisiiii toBR_iLsELiisiiiiELsisiEi fullR_iLsELiisiiiiELsisiEi pureR_iLsELiisiiiiELsisiEi lenB_iLsELiisiiiiELsisiEi lenD_iLsELiisiiiiELsisiEi toBR_LsisiE fullR_LsisiE pureR_LsisiE lenB_LsisiE lenD_LsisiE toBR_LsE fullR_LsE pureR_LsE lenB_LsE lenD_LsE toBR_LiisiiiiE fullR_LiisiiiiE pureR_LiisiiiiE lenB_LiisiiiiE lenD_LiisiiiiE strInts_len byteRows_len toBR_y fullR_y pureR_y lenB_y lenD_y fromBR_y copy_y

/-! loop.example/g00539/laws.szSession -/
def m135 (a0 : K_sisi) (a1 : Int) : Int :=
  if (decide ((IntKind.wrap .i64 (a1 - (ByteArray.size a0.f0 : Int))) < 0)) = true then (-1) else
  if (decide ((IntKind.wrap .i64 ((IntKind.wrap .i64 (a1 - (ByteArray.size a0.f0 : Int))) - (ByteArray.size a0.f2 : Int))) < 0)) = true then (-1) else
    (IntKind.wrap .i64 ((IntKind.wrap .i64 (a1 - (ByteArray.size a0.f0 : Int))) - (ByteArray.size a0.f2 : Int)))
theorem e135 {a0 : K_sisi} {a1 : Int} : Ev F X (.call 135 [(.agg [(.val (.string a0.f0)), (.val (.int .i64 a0.f1)), (.val (.string a0.f2)), (.val (.int .i64 a0.f3))]), (.one (.val (.int .i64 a1)))] [] [] [(.one (.val (.int .i64 (m135 a0 a1))))]) := by
  unfold m135
  by_cases h0 : (decide ((IntKind.wrap .i64 (a1 - (ByteArray.size a0.f0 : Int))) < 0)) = true
  · try simp only [if_pos h0]
    exact callP_ok (ps := []) (os := []) (rs := [(.oi (-1))]) (by kernel_rfl) (.f h0 (.h 20 (.b true) .nil))
  · try simp only [if_neg h0]
    by_cases h1 : (decide ((IntKind.wrap .i64 ((IntKind.wrap .i64 (a1 - (ByteArray.size a0.f0 : Int))) - (ByteArray.size a0.f2 : Int))) < 0)) = true
    · try simp only [if_pos h1]
      exact callP_ok (ps := []) (os := []) (rs := [(.oi (-1))]) (by kernel_rfl) (.f (nt h0) (.f h1 (.h 20 (.b false) (.h 37 (.b true) .nil))))
    · try simp only [if_neg h1]
      exact callP_ok (ps := []) (os := []) (rs := [(.oi (IntKind.wrap .i64 ((IntKind.wrap .i64 (a1 - (ByteArray.size a0.f0 : Int))) - (ByteArray.size a0.f2 : Int))))]) (by kernel_rfl) (.f (nt h0) (.f (nt h1) (.h 20 (.b false) (.h 37 (.b false) .nil))))
/-! loop 89_0 -/
inductive O89_0 where
  | k0 (w0 : Int) (w1 : Int) (w2 : Bool)
  | k1
def r89_0 (a0 : (List K_sisi)) : List K_sisi → Int → Int → O89_0
  | x0 :: y0, i, v0 =>
    if (decide ((m135 x0 v0) < 0)) = true then (O89_0.k1) else
    (r89_0 a0 y0 (i + 1) (m135 x0 v0))
  | [], i, v0 => (O89_0.k0 v0 i (decide (i < ((length (map b_sisi a0)) : Int))))
def h89_0 (l0_0 : Nat) (a0 : (List K_sisi)) (a1 : Int) (i : Int) (v0 : Int) : St := ⟨[(0, (.one (.bor l0_0 (map b_sisi a0)))), (1, (.one (.val (.int .i64 v0)))), (5, (.one (.val (.int .i64 i))))], []⟩
def ex89_0 : O89_0 → VX.Exit
  | .k0 _ _ _ => (.exit 0)
  | .k1 => .ret
def fin89_0 (l0_0 : Nat) (a0 : (List K_sisi)) (a1 : Int) : O89_0 → St
  | .k0 w0 w1 w2 => ⟨[(0, (.one (.bor l0_0 (map b_sisi a0)))), (1, (.one (.val (.int .i64 w0)))), (5, (.one (.val (.int .i64 w1)))), (15, (.one (.val (.bool w2))))], []⟩
  | .k1 => ⟨[(4, (.one (.val (.int .i64 (-1)))))], []⟩
theorem t89_0 {l0_0 : Nat} {a0 : (List K_sisi)} {a1 : Int} (hy0 : length a0 * 48 ≤ 140737488351232) : ∀ (y0 : List K_sisi) (p : List K_sisi) (v0 : Int), p ++ y0 = a0 → Ev F X (.code l89_0 (h89_0 l0_0 a0 a1 (length p : Int) v0) (ex89_0 (r89_0 a0 y0 (length p : Int) v0)) (fin89_0 l0_0 a0 a1 (r89_0 a0 y0 (length p : Int) v0)))
  | [], p, v0, hp0 => by
    have hc : ¬ (decide ((length p : Int) < ((length (map b_sisi a0)) : Int))) = true := by
      rw [← hp0]; simp only [length_map, length_set, length_append, length_replicate, length_cons, length_nil, decide_eq_true_eq]; omega
    have st := codeH_ok (F := F) (X := X) (c := b89_0) (t := 0) (hs := [(8, .b false)]) (σ := h89_0 l0_0 a0 a1 (length p : Int) v0) (σ' := fin89_0 l0_0 a0 a1 (.k0 v0 (length p : Int) (decide ((length p : Int) < ((length (map b_sisi a0)) : Int))))) (e := (.exit 0)) (t' := 9) (hs' := []) (q := [(decide ((length p : Int) < ((length (map b_sisi a0)) : Int))) = false]) (by kernel_rfl) ⟨(nt hc), trivial⟩
    exact .loopX st (show ((.exit 0) : VX.Exit) ≠ .normal from by simp)
  | x0 :: y0, p, v0, hp0 => by
    have hc : (decide ((length p : Int) < ((length (map b_sisi a0)) : Int))) = true := by
      rw [← hp0]; simp only [length_map, length_set, length_append, length_replicate, length_cons, length_nil, decide_eq_true_eq]; omega
    have Hx0 : (a0)[Int.toNat (length p : Int)]? = some x0 := by
      rw [← hp0, Int.toNat_natCast]; simp
    have hlen : length (a0) = length p + length y0 + 1 := by rw [← hp0]; simp; omega
    have hw : IntKind.wrap .i64 ((length p : Int) + 1) = (length p : Int) + 1 := wrap64 (by omega)
    simp only [r89_0]
    by_cases h_1 : (decide ((m135 x0 v0) < 0)) = true
    · try simp only [if_pos h_1]
      have st := codeH_ok (F := F) (X := X) (c := b89_0) (t := 0) (hs := [(8, .b true), (14, .row [(.val (.string x0.f0)), (.i x0.f1), (.val (.string x0.f2)), (.i x0.f3)]), (20, .ret [] [(.oi (m135 x0 v0))] [] []), (27, .b true)]) (σ := h89_0 l0_0 a0 a1 (length p : Int) v0) (σ' := fin89_0 l0_0 a0 a1 (.k1)) (e := .ret) (t' := 30) (hs' := []) (q := [(decide ((length p : Int) < ((length (map b_sisi a0)) : Int))) = true, 0 ≤ (length p : Int), (map b_sisi a0)[(Int.toNat (length p : Int))]? = some [(.val (.string x0.f0)), (.i x0.f1), (.val (.string x0.f2)), (.i x0.f3)], Ev F X (.call 135 [(.agg [(.val (.string x0.f0)), (.i x0.f1), (.val (.string x0.f2)), (.i x0.f3)]), (.oi v0)] [] [] [(.oi (m135 x0 v0))]), (decide ((m135 x0 v0) < 0)) = true]) (by kernel_rfl) ⟨hc, (by omega), (by rw [getElem?_map, Hx0]; rfl), (e135 (a0 := x0) (a1 := v0)), h_1, trivial⟩
      exact .loopX st (show (.ret : VX.Exit) ≠ .normal from by simp)
    · try simp only [if_neg h_1]
      have st := codeH_ok (F := F) (X := X) (c := b89_0) (t := 0) (hs := [(8, .b true), (14, .row [(.val (.string x0.f0)), (.i x0.f1), (.val (.string x0.f2)), (.i x0.f3)]), (20, .ret [] [(.oi (m135 x0 v0))] [] []), (27, .b false)]) (σ := h89_0 l0_0 a0 a1 (length p : Int) v0) (σ' := ⟨[(0, (.one (.bor l0_0 (map b_sisi a0)))), (1, (.oi (m135 x0 v0))), (5, (.oi (IntKind.wrap .i64 ((length p : Int) + 1))))], []⟩) (e := .normal) (t' := 34) (hs' := []) (q := [(decide ((length p : Int) < ((length (map b_sisi a0)) : Int))) = true, 0 ≤ (length p : Int), (map b_sisi a0)[(Int.toNat (length p : Int))]? = some [(.val (.string x0.f0)), (.i x0.f1), (.val (.string x0.f2)), (.i x0.f3)], Ev F X (.call 135 [(.agg [(.val (.string x0.f0)), (.i x0.f1), (.val (.string x0.f2)), (.i x0.f3)]), (.oi v0)] [] [] [(.oi (m135 x0 v0))]), (decide ((m135 x0 v0) < 0)) = false, True]) (by kernel_rfl) ⟨hc, (by omega), (by rw [getElem?_map, Hx0]; rfl), (e135 (a0 := x0) (a1 := v0)), (nt h_1), trivial, trivial⟩
      have ih := t89_0 (l0_0 := l0_0) (a0 := a0) (a1 := a1) hy0 y0 (p ++ [x0]) (m135 x0 v0) (by rw [append_assoc]; exact hp0)
      rw [show ((p ++ [x0]).length : Int) = (p.length : Int) + 1 from by simp] at ih
      rw [show (⟨[(0, (.one (.bor l0_0 (map b_sisi a0)))), (1, (.oi (m135 x0 v0))), (5, (.oi (IntKind.wrap .i64 ((length p : Int) + 1))))], []⟩ : St) = h89_0 l0_0 a0 a1 ((length p : Int) + 1) (m135 x0 v0) from (by unfold h89_0; simp only [hw]; done)] at st
      exact .loopN st ih
/-! loop.example/g00539/laws.szSessionS -/
def m89 (a0 : (List K_sisi)) (a1 : Int) : Int :=
  if (decide ((IntKind.wrap .i64 (a1 - ((length (map b_sisi a0)) : Int))) < 0)) = true then (-1) else
  (match r89_0 a0 a0 0 (IntKind.wrap .i64 (a1 - ((length (map b_sisi a0)) : Int))) with | .k0 w0_1 w1_1 w2_1 => w0_1 | .k1 => (-1))
theorem e89 {l0_0 : Nat} {a0 : (List K_sisi)} {a1 : Int} (hy0 : length a0 * 48 ≤ 140737488351232) : Ev F X (.call 89 [(.one (.bor l0_0 (map b_sisi a0))), (.one (.val (.int .i64 a1)))] [] [] [(.one (.val (.int .i64 (m89 a0 a1))))]) := by
  unfold m89
  by_cases h0 : (decide ((IntKind.wrap .i64 (a1 - ((length (map b_sisi a0)) : Int))) < 0)) = true
  · try simp only [if_pos h0]
    exact callP_ok (ps := []) (os := []) (rs := [(.oi (-1))]) (by kernel_rfl) (.f h0 (.h 16 (.b true) .nil))
  · try simp only [if_neg h0]
    cases h1 : r89_0 a0 a0 0 (IntKind.wrap .i64 (a1 - ((length (map b_sisi a0)) : Int))) with
    | k0 w0_1 w1_1 w2_1 =>
      try dsimp only
      have f1 : (⟨[(0, (.one (.bor l0_0 (map b_sisi a0)))), (1, (.oi (IntKind.wrap .i64 (a1 - ((length (map b_sisi a0)) : Int))))), (5, (.oi 0))], []⟩ : St) = h89_0 l0_0 a0 a1 0 (IntKind.wrap .i64 (a1 - ((length (map b_sisi a0)) : Int))) := (by rfl)
      have f2 : Ev F X (.code l89_0 (h89_0 l0_0 a0 a1 0 (IntKind.wrap .i64 (a1 - ((length (map b_sisi a0)) : Int)))) (.exit 0) ⟨[(0, (.one (.bor l0_0 (map b_sisi a0)))), (1, (.oi w0_1)), (5, (.oi w1_1)), (15, (.one (.val (.bool w2_1))))], []⟩) := (by have t : Ev F X (.code l89_0 (h89_0 l0_0 a0 a1 0 (IntKind.wrap .i64 (a1 - ((length (map b_sisi a0)) : Int)))) (ex89_0 (r89_0 a0 a0 0 (IntKind.wrap .i64 (a1 - ((length (map b_sisi a0)) : Int))))) (fin89_0 l0_0 a0 a1 (r89_0 a0 a0 0 (IntKind.wrap .i64 (a1 - ((length (map b_sisi a0)) : Int)))))) := t89_0 (l0_0 := l0_0) (a0 := a0) (a1 := a1) (by assumption) a0 [] (IntKind.wrap .i64 (a1 - ((length (map b_sisi a0)) : Int))) rfl; rw [h1] at t; exact t)
      exact callP_ok (ps := []) (os := []) (rs := [(.oi w0_1)]) (by kernel_rfl) (.f (nt h0) (.f f1 (.f f2 (.h 16 (.b false) (.h 19 (.loop (h89_0 l0_0 a0 a1 0 (IntKind.wrap .i64 (a1 - ((length (map b_sisi a0)) : Int)))) (.exit 0) ⟨[(0, (.one (.bor l0_0 (map b_sisi a0)))), (1, (.oi w0_1)), (5, (.oi w1_1)), (15, (.one (.val (.bool w2_1))))], []⟩) .nil)))))
    | k1 =>
      try dsimp only
      have f1 : (⟨[(0, (.one (.bor l0_0 (map b_sisi a0)))), (1, (.oi (IntKind.wrap .i64 (a1 - ((length (map b_sisi a0)) : Int))))), (5, (.oi 0))], []⟩ : St) = h89_0 l0_0 a0 a1 0 (IntKind.wrap .i64 (a1 - ((length (map b_sisi a0)) : Int))) := (by rfl)
      have f2 : Ev F X (.code l89_0 (h89_0 l0_0 a0 a1 0 (IntKind.wrap .i64 (a1 - ((length (map b_sisi a0)) : Int)))) .ret ⟨[(4, (.oi (-1)))], []⟩) := (by have t : Ev F X (.code l89_0 (h89_0 l0_0 a0 a1 0 (IntKind.wrap .i64 (a1 - ((length (map b_sisi a0)) : Int)))) (ex89_0 (r89_0 a0 a0 0 (IntKind.wrap .i64 (a1 - ((length (map b_sisi a0)) : Int))))) (fin89_0 l0_0 a0 a1 (r89_0 a0 a0 0 (IntKind.wrap .i64 (a1 - ((length (map b_sisi a0)) : Int)))))) := t89_0 (l0_0 := l0_0) (a0 := a0) (a1 := a1) (by assumption) a0 [] (IntKind.wrap .i64 (a1 - ((length (map b_sisi a0)) : Int))) rfl; rw [h1] at t; exact t)
      exact callP_ok (ps := []) (os := []) (rs := [(.oi (-1))]) (by kernel_rfl) (.f (nt h0) (.f f1 (.f f2 (.h 16 (.b false) (.h 19 (.loop (h89_0 l0_0 a0 a1 0 (IntKind.wrap .i64 (a1 - ((length (map b_sisi a0)) : Int)))) .ret ⟨[(4, (.oi (-1)))], []⟩) .nil)))))
/-! loop.example/g00539/laws.szServer -/
def m44 (a0 : K_LsisiEi) (a1 : Int) : Int :=
  if (decide ((m89 a0.f0 a1) < 0)) = true then (-1) else
  (m89 a0.f0 a1)
theorem e44 {l0_0 : Nat} {a0 : K_LsisiEi} {a1 : Int} (hy0 : length a0.f0 * 48 ≤ 140737488351232) : Ev F X (.call 44 [(.agg [(.bor l0_0 (map b_sisi a0.f0)), (.val (.int .i64 a0.f1))]), (.one (.val (.int .i64 a1)))] [] [] [(.one (.val (.int .i64 (m44 a0 a1))))]) := by
  unfold m44
  have f0 : Ev F X (.call 89 [(.one (.bor (l0_0 + 1) (map b_sisi a0.f0))), (.oi a1)] [] [] [(.oi (m89 a0.f0 a1))]) := (e89 (a0 := a0.f0) (a1 := a1) (by with_reducible assumption))
  by_cases h0 : (decide ((m89 a0.f0 a1) < 0)) = true
  · try simp only [if_pos h0]
    exact callP_ok (ps := []) (os := []) (rs := [(.oi (-1))]) (by kernel_rfl) (.r 11 [] [] f0 (.f h0 (.h 18 (.b true) .nil)))
  · try simp only [if_neg h0]
    exact callP_ok (ps := []) (os := []) (rs := [(.oi (m89 a0.f0 a1))]) (by kernel_rfl) (.r 11 [] [] f0 (.f (nt h0) (.h 18 (.b false) .nil)))
/-! loop.example/g00539/laws.toSession -/
def m137 (a0 : K_sisi) : K_sisi :=
  a0
theorem e137 {a0 : K_sisi} : Ev F X (.call 137 [(.agg [(.val (.string a0.f0)), (.val (.int .i64 a0.f1)), (.val (.string a0.f2)), (.val (.int .i64 a0.f3))])] [] [] [(.agg [(.val (.string a0.f0)), (.val (.int .i64 a0.f1)), (.val (.string a0.f2)), (.val (.int .i64 a0.f3))])]) := by
  exact callP_ok (ps := []) (os := []) (rs := [(.agg [(.val (.string a0.f0)), (.i a0.f1), (.val (.string a0.f2)), (.i a0.f3)])]) (by kernel_rfl) .nil
/-! loop 91_0 -/
inductive O91_0 where
  | k0 (w0 : List K_sisi) (w1 : Int) (w2 : Bool)
def r91_0 (a0 : (List K_sisi)) : List K_sisi → Int → List K_sisi → O91_0
  | x0 :: y0, i, v0 =>
    (r91_0 a0 y0 (i + 1) (set v0 (Int.toNat i) x0))
  | [], i, v0 => (O91_0.k0 v0 i (decide (i < ((length (map b_sisi a0)) : Int))))
def h91_0 (l0_0 : Nat) (a0 : (List K_sisi)) (i : Int) (v0 : List K_sisi) : St := ⟨[(0, (.one (.bor l0_0 (map b_sisi a0)))), (3, (.one (.ref ⟨(3, 0, 0), [], 0, (Int.toNat ((length (map b_sisi a0)) : Int))⟩))), (4, (.one (.val (.int .i64 i))))], [((3, 0, 0), .live ⟨4, (map d_sisi v0), []⟩)]⟩
def ex91_0 : O91_0 → VX.Exit
  | .k0 _ _ _ => (.exit 0)
def fin91_0 (l0_0 : Nat) (a0 : (List K_sisi)) : O91_0 → St
  | .k0 w0 w1 w2 => ⟨[(0, (.one (.bor l0_0 (map b_sisi a0)))), (3, (.one (.ref ⟨(3, 0, 0), [], 0, (Int.toNat ((length (map b_sisi a0)) : Int))⟩))), (4, (.one (.val (.int .i64 w1)))), (11, (.one (.val (.bool w2))))], [((3, 0, 0), .live ⟨4, (map d_sisi w0), []⟩)]⟩
theorem t91_0 {l0_0 : Nat} {a0 : (List K_sisi)} (hy0 : length a0 * 48 ≤ 140737488351232) : ∀ (y0 : List K_sisi) (p : List K_sisi) (v0 : List K_sisi), p ++ y0 = a0 → length v0 = (Int.toNat ((length (map b_sisi a0)) : Int)) → Ev F X (.code l91_0 (h91_0 l0_0 a0 (length p : Int) v0) (ex91_0 (r91_0 a0 y0 (length p : Int) v0)) (fin91_0 l0_0 a0 (r91_0 a0 y0 (length p : Int) v0)))
  | [], p, v0, hp0, hi0 => by
    have hc : ¬ (decide ((length p : Int) < ((length (map b_sisi a0)) : Int))) = true := by
      rw [← hp0]; simp only [length_map, length_set, length_append, length_replicate, length_cons, length_nil, decide_eq_true_eq]; omega
    have hj0 := hi0; try simp only [length_map, length_set, length_append, length_replicate, length_cons, length_nil, Int.toNat_natCast] at hj0
    have st := codeH_ok (F := F) (X := X) (c := b91_0) (t := 0) (hs := [(8, .b false)]) (σ := h91_0 l0_0 a0 (length p : Int) v0) (σ' := fin91_0 l0_0 a0 (.k0 v0 (length p : Int) (decide ((length p : Int) < ((length (map b_sisi a0)) : Int))))) (e := (.exit 0)) (t' := 9) (hs' := []) (q := [(decide ((length p : Int) < ((length (map b_sisi a0)) : Int))) = false]) (by kernel_rfl) ⟨(nt hc), trivial⟩
    exact .loopX st (show ((.exit 0) : VX.Exit) ≠ .normal from by simp)
  | x0 :: y0, p, v0, hp0, hi0 => by
    have hc : (decide ((length p : Int) < ((length (map b_sisi a0)) : Int))) = true := by
      rw [← hp0]; simp only [length_map, length_set, length_append, length_replicate, length_cons, length_nil, decide_eq_true_eq]; omega
    have Hx0 : (a0)[Int.toNat (length p : Int)]? = some x0 := by
      rw [← hp0, Int.toNat_natCast]; simp
    have hlen : length (a0) = length p + length y0 + 1 := by rw [← hp0]; simp; omega
    have hw : IntKind.wrap .i64 ((length p : Int) + 1) = (length p : Int) + 1 := wrap64 (by omega)
    have hj0 := hi0; try simp only [length_map, length_set, length_append, length_replicate, length_cons, length_nil, Int.toNat_natCast] at hj0
    obtain ⟨x1, Hx1⟩ : ∃ y, v0[Int.toNat (length p : Int)]? = some y := ⟨_, List.getElem?_eq_getElem (by omega)⟩
    simp only [r91_0]
    have st := codeH_ok (F := F) (X := X) (c := b91_0) (t := 0) (hs := [(8, .b true), (18, .row [(.val (.string x0.f0)), (.i x0.f1), (.val (.string x0.f2)), (.i x0.f3)]), (22, .ret [] [(.agg [(.val (.string x0.f0)), (.i x0.f1), (.val (.string x0.f2)), (.i x0.f3)])] [] []), (26, .rowD [(.val (.string x1.f0)), (.i x1.f1), (.val (.string x1.f2)), (.i x1.f3)]), (27, .norm (3, 0, 0) (map d_sisi (set v0 (Int.toNat (length p : Int)) x0)))]) (σ := h91_0 l0_0 a0 (length p : Int) v0) (σ' := ⟨[(0, (.one (.bor l0_0 (map b_sisi a0)))), (3, (.one (.ref ⟨(3, 0, 0), [], 0, (Int.toNat ((length (map b_sisi a0)) : Int))⟩))), (4, (.oi (IntKind.wrap .i64 ((length p : Int) + 1))))], [((3, 0, 0), .live ⟨4, (map d_sisi (set v0 (Int.toNat (length p : Int)) x0)), []⟩)]⟩) (e := .normal) (t' := 34) (hs' := []) (q := [(decide ((length p : Int) < ((length (map b_sisi a0)) : Int))) = true, 0 ≤ (length p : Int), (map b_sisi a0)[(Int.toNat (length p : Int))]? = some [(.val (.string x0.f0)), (.i x0.f1), (.val (.string x0.f2)), (.i x0.f3)], Ev F X (.call 137 [(.agg [(.val (.string x0.f0)), (.i x0.f1), (.val (.string x0.f2)), (.i x0.f3)])] [] [] [(.agg [(.val (.string x0.f0)), (.i x0.f1), (.val (.string x0.f2)), (.i x0.f3)])]), 0 + (Int.toNat ((length (map b_sisi a0)) : Int)) ≤ (length (map d_sisi v0)), 0 ≤ (length p : Int) ∧ (length p : Int) < ((Int.toNat ((length (map b_sisi a0)) : Int)) : Int), (map d_sisi v0)[(0 + (Int.toNat (length p : Int)))]? = some [(.val (.string x1.f0)), (.i x1.f1), (.val (.string x1.f2)), (.i x1.f3)], (set (map d_sisi v0) (0 + (Int.toNat (length p : Int))) [(.val (.string x0.f0)), (.i x0.f1), (.val (.string x0.f2)), (.i x0.f3)]) = (map d_sisi (set v0 (Int.toNat (length p : Int)) x0)), True]) (by kernel_rfl) ⟨hc, (by omega), (by rw [getElem?_map, Hx0]; rfl), (e137 (a0 := x0)), (by simp only [length_map]; omega), (by omega), (by rw [Nat.zero_add, getElem?_map, Hx1]; rfl), (by simp [byteRows_eq, ints_y, take_of_length_le, d_sisi, d_LsisiEi, d_b, d_i, d_s, d_iisiiii, d_iLsELiisiiiiELsisiEi, d_LsisiE, d_LsE, d_LiisiiiiE, d_y, fromBR_sisi, fromBR_b, fromBR_i, fromBR_s, fromBR_iisiiii, fromBR_y]; done), trivial, trivial⟩
    have ih := t91_0 (l0_0 := l0_0) (a0 := a0) hy0 y0 (p ++ [x0]) (set v0 (Int.toNat (length p : Int)) x0) (by rw [append_assoc]; exact hp0) (by simp only [length_map, length_set, length_append, length_replicate, length_cons, length_nil]; omega)
    rw [show ((p ++ [x0]).length : Int) = (p.length : Int) + 1 from by simp] at ih
    rw [show (⟨[(0, (.one (.bor l0_0 (map b_sisi a0)))), (3, (.one (.ref ⟨(3, 0, 0), [], 0, (Int.toNat ((length (map b_sisi a0)) : Int))⟩))), (4, (.oi (IntKind.wrap .i64 ((length p : Int) + 1))))], [((3, 0, 0), .live ⟨4, (map d_sisi (set v0 (Int.toNat (length p : Int)) x0)), []⟩)]⟩ : St) = h91_0 l0_0 a0 ((length p : Int) + 1) (set v0 (Int.toNat (length p : Int)) x0) from (by unfold h91_0; simp only [hw]; done)] at st
    exact .loopN st ih
def post91_0 (n0 : Nat) : O91_0 → Prop
  | .k0 w0 _ _ => length w0 = n0
theorem z91_0 {a0 : (List K_sisi)} : ∀ (y0 : List K_sisi) (i : Int) (v0 : List K_sisi), post91_0 (length v0) (r91_0 a0 y0 i v0)
  | [], i, v0 => by
    first | trivial | (simp only [post91_0, length_nil, Nat.add_zero]; done) | (simp [post91_0]; done)
  | x0 :: y0, i, v0 => by
    simp only [r91_0]
    have z := z91_0 (a0 := a0) y0 (i + 1) (set v0 (Int.toNat i) x0)
    rw [show (length v0) = (length (set v0 (Int.toNat i) x0)) from by first | omega | (simp only [length_map, length_set, length_append, length_replicate, length_cons, length_nil]; done) | (simp only [length_map, length_set, length_append, length_replicate, length_cons, length_nil]; omega)]
    exact z
/-! loop.example/g00539/laws.toSessionS -/
def m91 (a0 : (List K_sisi)) : (List K_sisi) :=
  (match r91_0 a0 a0 0 (List.replicate (Int.toNat ((length (map b_sisi a0)) : Int)) (K_sisi.mk (⟨#[]⟩ : ByteArray) 0 (⟨#[]⟩ : ByteArray) 0)) with | .k0 w0_1 w1_1 w2_1 => w0_1)
theorem e91 {l0_0 : Nat} {a0 : (List K_sisi)} (hy0 : length a0 * 48 ≤ 140737488351232) : Ev F X (.call 91 [(.one (.bor l0_0 (map b_sisi a0)))] [] [] [(.one (.own 4 (map d_sisi (m91 a0))))]) := by
  unfold m91
  have f0 : 0 ≤ ((length (map b_sisi a0)) : Int) ∧ ((length (map b_sisi a0)) : Int) ≤ ((length (map b_sisi a0)) : Int) ∧ ((length (map b_sisi a0)) : Int) ≤ 140737488355328 ∧ ((length (map b_sisi a0)) : Int) * 48 ≤ 140737488355328 := (by simp only [length_map]; omega)
  have f1 : (List.replicate (Int.toNat ((length (map b_sisi a0)) : Int)) [(.val (.string (⟨#[]⟩ : ByteArray))), (.val (.int .i64 0)), (.val (.string (⟨#[]⟩ : ByteArray))), (.val (.int .i64 0))]) = (map d_sisi (List.replicate (Int.toNat ((length (map b_sisi a0)) : Int)) (K_sisi.mk (⟨#[]⟩ : ByteArray) 0 (⟨#[]⟩ : ByteArray) 0))) := (by simp [byteRows_eq, ints_y, take_of_length_le, d_sisi, d_LsisiEi, d_b, d_i, d_s, d_iisiiii, d_iLsELiisiiiiELsisiEi, d_LsisiE, d_LsE, d_LiisiiiiE, d_y, fromBR_sisi, fromBR_b, fromBR_i, fromBR_s, fromBR_iisiiii, fromBR_y]; done)
  cases h0 : r91_0 a0 a0 0 (List.replicate (Int.toNat ((length (map b_sisi a0)) : Int)) (K_sisi.mk (⟨#[]⟩ : ByteArray) 0 (⟨#[]⟩ : ByteArray) 0)) with
  | k0 w0_1 w1_1 w2_1 =>
    try dsimp only
    have zh0 := z91_0 (a0 := a0) a0 0 (List.replicate (Int.toNat ((length (map b_sisi a0)) : Int)) (K_sisi.mk (⟨#[]⟩ : ByteArray) 0 (⟨#[]⟩ : ByteArray) 0)); rw [h0] at zh0; simp only [post91_0, length_map, length_set, length_append, length_replicate, length_cons, length_nil, Int.toNat_natCast] at zh0
    have f2 : (⟨[(0, (.one (.bor l0_0 (map b_sisi a0)))), (3, (.one (.ref ⟨(3, 0, 0), [], 0, (Int.toNat ((length (map b_sisi a0)) : Int))⟩))), (4, (.oi 0))], [((3, 0, 0), .live ⟨4, (map d_sisi (List.replicate (Int.toNat ((length (map b_sisi a0)) : Int)) (K_sisi.mk (⟨#[]⟩ : ByteArray) 0 (⟨#[]⟩ : ByteArray) 0))), []⟩)]⟩ : St) = h91_0 l0_0 a0 0 (List.replicate (Int.toNat ((length (map b_sisi a0)) : Int)) (K_sisi.mk (⟨#[]⟩ : ByteArray) 0 (⟨#[]⟩ : ByteArray) 0)) := (by rfl)
    have f3 : Ev F X (.code l91_0 (h91_0 l0_0 a0 0 (List.replicate (Int.toNat ((length (map b_sisi a0)) : Int)) (K_sisi.mk (⟨#[]⟩ : ByteArray) 0 (⟨#[]⟩ : ByteArray) 0))) (.exit 0) ⟨[(0, (.one (.bor l0_0 (map b_sisi a0)))), (3, (.one (.ref ⟨(3, 0, 0), [], 0, (Int.toNat ((length (map b_sisi a0)) : Int))⟩))), (4, (.oi w1_1)), (11, (.one (.val (.bool w2_1))))], [((3, 0, 0), .live ⟨4, (map d_sisi w0_1), []⟩)]⟩) := (by have t : Ev F X (.code l91_0 (h91_0 l0_0 a0 0 (List.replicate (Int.toNat ((length (map b_sisi a0)) : Int)) (K_sisi.mk (⟨#[]⟩ : ByteArray) 0 (⟨#[]⟩ : ByteArray) 0))) (ex91_0 (r91_0 a0 a0 0 (List.replicate (Int.toNat ((length (map b_sisi a0)) : Int)) (K_sisi.mk (⟨#[]⟩ : ByteArray) 0 (⟨#[]⟩ : ByteArray) 0)))) (fin91_0 l0_0 a0 (r91_0 a0 a0 0 (List.replicate (Int.toNat ((length (map b_sisi a0)) : Int)) (K_sisi.mk (⟨#[]⟩ : ByteArray) 0 (⟨#[]⟩ : ByteArray) 0))))) := t91_0 (l0_0 := l0_0) (a0 := a0) (by assumption) a0 [] (List.replicate (Int.toNat ((length (map b_sisi a0)) : Int)) (K_sisi.mk (⟨#[]⟩ : ByteArray) 0 (⟨#[]⟩ : ByteArray) 0)) rfl (by simp only [length_map, length_set, length_append, length_replicate, length_cons, length_nil]; done); rw [h0] at t; exact t)
    have f4 : 0 = 0 := rfl
    have f5 : (Int.toNat ((length (map b_sisi a0)) : Int)) = (length (map d_sisi w0_1)) := (by simp only [length_map]; omega)
    have f6 : pureR (map d_sisi w0_1) = true := (pureR_sisi _)
    exact callP_ok (ps := []) (os := []) (rs := [(.one (.own 4 (map d_sisi w0_1)))]) (by kernel_rfl) (.f f0 (.f f1 (.f f2 (.f f3 (.f f4 (.f f5 (.f f6 (.h 10 (.norm (3, 0, 0) (map d_sisi (List.replicate (Int.toNat ((length (map b_sisi a0)) : Int)) (K_sisi.mk (⟨#[]⟩ : ByteArray) 0 (⟨#[]⟩ : ByteArray) 0)))) (.h 13 (.loop (h91_0 l0_0 a0 0 (List.replicate (Int.toNat ((length (map b_sisi a0)) : Int)) (K_sisi.mk (⟨#[]⟩ : ByteArray) 0 (⟨#[]⟩ : ByteArray) 0))) (.exit 0) ⟨[(0, (.one (.bor l0_0 (map b_sisi a0)))), (3, (.one (.ref ⟨(3, 0, 0), [], 0, (Int.toNat ((length (map b_sisi a0)) : Int))⟩))), (4, (.oi w1_1)), (11, (.one (.val (.bool w2_1))))], [((3, 0, 0), .live ⟨4, (map d_sisi w0_1), []⟩)]⟩) .nil)))))))))
theorem c91_0 (a0 : List K_sisi) : ∀ (l p q : List K_sisi), q.length = l.length → ∃ w1 w2, r91_0 a0 l (p.length : Int) (p ++ q) = .k0 (p ++ l) w1 w2
  | [], p, [], _ => ⟨_, _, rfl⟩
  | [], _, _ :: _, h => by simp at h
  | _ :: _, _, [], h => by simp at h
  | x :: l, p, y :: q, h => by
    have ih := c91_0 a0 l (p ++ [x]) q (by simpa using h)
    have e : set (p ++ y :: q) (Int.toNat (p.length : Int)) x = (p ++ [x]) ++ q := by simp
    have e2 : ((p ++ [x]).length : Int) = (p.length : Int) + 1 := by simp
    rw [e2] at ih
    simp only [r91_0]
    rw [show p ++ x :: l = (p ++ [x]) ++ l by simp]
    first | (rw [e]; exact ih) | (simp only [e]; exact ih)
theorem q91 (a0 : (List K_sisi)) (hy0 : length a0 * 48 ≤ 140737488351232) : (m91 a0) = a0 := by
  have h := c91_0 a0 a0 [] (List.replicate (Int.toNat ((length (map b_sisi a0)) : Int)) (K_sisi.mk (⟨#[]⟩ : ByteArray) 0 (⟨#[]⟩ : ByteArray) 0)) (by simp)
  unfold m91
  simp only [List.nil_append, length_nil] at h
  obtain ⟨_, _, h⟩ := h
  rw [show ((0 : Nat) : Int) = 0 from rfl] at h
  rw [h]
theorem g91 {l0_0 : Nat} {a0 : (List K_sisi)} (hy0 : length a0 * 48 ≤ 140737488351232) : Ev F X (.call 91 [(.one (.bor l0_0 (map b_sisi a0)))] [] [] [(.one (.own 4 (map d_sisi a0)))]) := by
  have t := e91 (l0_0 := l0_0) (a0 := a0) hy0
  rw [q91 a0 hy0] at t
  exact t
/-! loop.example/g00539/laws.toServer -/
def m46 (a0 : K_LsisiEi) : K_LsisiEi :=
  a0
theorem e46 {l0_0 : Nat} {a0 : K_LsisiEi} (hy0 : length a0.f0 * 48 ≤ 140737488351232) : Ev F X (.call 46 [(.agg [(.bor l0_0 (map b_sisi a0.f0)), (.val (.int .i64 a0.f1))])] [] [] [(.agg [(.own 4 (map d_sisi a0.f0)), (.val (.int .i64 a0.f1))])]) := by
  have f0 : Ev F X (.call 91 [(.one (.bor (l0_0 + 1) (map b_sisi a0.f0)))] [] [] [(.one (.own 4 (map d_sisi a0.f0)))]) := (g91 (a0 := a0.f0) (by with_reducible assumption))
  have f1 : 0 = 0 := rfl
  have f2 : (length (map d_sisi a0.f0)) = (length (map d_sisi a0.f0)) := rfl
  have f3 : 0 = 0 := rfl
  have f4 : (length (map d_sisi a0.f0)) = (length (map d_sisi a0.f0)) := rfl
  have f5 : pureR (map d_sisi a0.f0) = true := (pureR_sisi _)
  exact callP_ok (ps := []) (os := []) (rs := [(.agg [(.own 4 (map d_sisi a0.f0)), (.i a0.f1)])]) (by kernel_rfl) (.r 11 [] [] f0 (.f f1 (.f f2 (.f f3 (.f f4 (.f f5 .nil))))))
/-! loop.example/g00539/laws.eqSession -/
def m143 (a0 : K_sisi) (a1 : K_sisi) : Bool :=
  if (!(a0.f0.toList == a1.f0.toList)) = true then false else
  if (a0.f1 != a1.f1) = true then false else
    if (!(a0.f2.toList == a1.f2.toList)) = true then false else
      if (a0.f3 != a1.f3) = true then false else
        true
theorem e143 {a0 : K_sisi} {a1 : K_sisi} : Ev F X (.call 143 [(.agg [(.val (.string a0.f0)), (.val (.int .i64 a0.f1)), (.val (.string a0.f2)), (.val (.int .i64 a0.f3))]), (.agg [(.val (.string a1.f0)), (.val (.int .i64 a1.f1)), (.val (.string a1.f2)), (.val (.int .i64 a1.f3))])] [] [] [(.one (.val (.bool (m143 a0 a1))))]) := by
  unfold m143
  by_cases h0 : (!(a0.f0.toList == a1.f0.toList)) = true
  · try simp only [if_pos h0]
    exact callP_ok (ps := []) (os := []) (rs := [(.one (.val (.bool false)))]) (by kernel_rfl) (.f h0 (.h 16 (.b true) .nil))
  · try simp only [if_neg h0]
    by_cases h1 : (a0.f1 != a1.f1) = true
    · try simp only [if_pos h1]
      exact callP_ok (ps := []) (os := []) (rs := [(.one (.val (.bool false)))]) (by kernel_rfl) (.f (nt h0) (.f h1 (.h 16 (.b false) (.h 27 (.b true) .nil))))
    · try simp only [if_neg h1]
      by_cases h2 : (!(a0.f2.toList == a1.f2.toList)) = true
      · try simp only [if_pos h2]
        exact callP_ok (ps := []) (os := []) (rs := [(.one (.val (.bool false)))]) (by kernel_rfl) (.f (nt h0) (.f (nt h1) (.f h2 (.h 16 (.b false) (.h 27 (.b false) (.h 38 (.b true) .nil))))))
      · try simp only [if_neg h2]
        by_cases h3 : (a0.f3 != a1.f3) = true
        · try simp only [if_pos h3]
          exact callP_ok (ps := []) (os := []) (rs := [(.one (.val (.bool false)))]) (by kernel_rfl) (.f (nt h0) (.f (nt h1) (.f (nt h2) (.f h3 (.h 16 (.b false) (.h 27 (.b false) (.h 38 (.b false) (.h 49 (.b true) .nil))))))))
        · try simp only [if_neg h3]
          exact callP_ok (ps := []) (os := []) (rs := [(.one (.val (.bool true)))]) (by kernel_rfl) (.f (nt h0) (.f (nt h1) (.f (nt h2) (.f (nt h3) (.h 16 (.b false) (.h 27 (.b false) (.h 38 (.b false) (.h 49 (.b false) .nil))))))))
open Classical in
theorem eqd143 (a b : K_sisi) : m143 a b = decide (a = b) := by
  rw [Bool.eq_iff_iff, decide_eq_true_eq]
  constructor
  · intro h
    unfold m143 at h
    cases a; cases b
    (repeat' split at h) <;> simp_all [ba_eq]
  · rintro rfl
    simp [m143, ba_eq]
/-! loop 96_0 -/
inductive O96_0 where
  | k0 (w0 : Int) (w1 : Bool)
  | k1
def r96_0 (a0 : (List K_sisi)) : List K_sisi → List K_sisi → Int → O96_0
  | x0 :: y0, x1 :: y1, i =>
    if (!(m143 x0 x1)) = true then (O96_0.k1) else
    (r96_0 a0 y0 y1 (i + 1) )
  | _, _, i => (O96_0.k0 i (decide (i < ((length (map b_sisi a0)) : Int))))
def h96_0 (l0_0 : Nat) (l1_0 : Nat) (a0 : (List K_sisi)) (a1 : (List K_sisi)) (i : Int)  : St := ⟨[(0, (.one (.bor l0_0 (map b_sisi a0)))), (1, (.one (.bor l1_0 (map b_sisi a1)))), (5, (.one (.val (.int .i64 i))))], []⟩
def ex96_0 : O96_0 → VX.Exit
  | .k0 _ _ => (.exit 0)
  | .k1 => .ret
def fin96_0 (l0_0 : Nat) (l1_0 : Nat) (a0 : (List K_sisi)) (a1 : (List K_sisi)) : O96_0 → St
  | .k0 w0 w1 => ⟨[(0, (.one (.bor l0_0 (map b_sisi a0)))), (1, (.one (.bor l1_0 (map b_sisi a1)))), (5, (.one (.val (.int .i64 w0)))), (14, (.one (.val (.bool w1))))], []⟩
  | .k1 => ⟨[(4, (.one (.val (.bool false))))], []⟩
theorem t96_0 {l0_0 : Nat} {l1_0 : Nat} {a0 : (List K_sisi)} {a1 : (List K_sisi)} (hy0 : length a0 * 48 ≤ 140737488351232) (hy1 : length a1 * 48 ≤ 140737488351232) : ∀ (y0 : List K_sisi) (y1 : List K_sisi) (p : List K_sisi) (p_1 : List K_sisi) , p ++ y0 = a0 → p_1 ++ y1 = a1 → length p = length p_1 → length y0 = length y1 → Ev F X (.code l96_0 (h96_0 l0_0 l1_0 a0 a1 (length p : Int) ) (ex96_0 (r96_0 a0 y0 y1 (length p : Int) )) (fin96_0 l0_0 l1_0 a0 a1 (r96_0 a0 y0 y1 (length p : Int) )))
  | [], [], p, p_1, hp0, hp1, hq1, hl1 => by
    have hc : ¬ (decide ((length p : Int) < ((length (map b_sisi a0)) : Int))) = true := by
      rw [← hp0]; simp only [length_map, length_set, length_append, length_replicate, length_cons, length_nil, decide_eq_true_eq]; omega
    have st := codeH_ok (F := F) (X := X) (c := b96_0) (t := 0) (hs := [(8, .b false)]) (σ := h96_0 l0_0 l1_0 a0 a1 (length p : Int) ) (σ' := fin96_0 l0_0 l1_0 a0 a1 (.k0 (length p : Int) (decide ((length p : Int) < ((length (map b_sisi a0)) : Int))))) (e := (.exit 0)) (t' := 9) (hs' := []) (q := [(decide ((length p : Int) < ((length (map b_sisi a0)) : Int))) = false]) (by kernel_rfl) ⟨(nt hc), trivial⟩
    exact .loopX st (show ((.exit 0) : VX.Exit) ≠ .normal from by simp)
  | x0 :: y0, x1 :: y1, p, p_1, hp0, hp1, hq1, hl1 => by
    have hc : (decide ((length p : Int) < ((length (map b_sisi a0)) : Int))) = true := by
      rw [← hp0]; simp only [length_map, length_set, length_append, length_replicate, length_cons, length_nil, decide_eq_true_eq]; omega
    have Hx0 : (a0)[Int.toNat (length p : Int)]? = some x0 := by
      rw [← hp0, Int.toNat_natCast]; simp
    have Hx1 : (a1)[Int.toNat (length p : Int)]? = some x1 := by
      rw [← hp1, hq1, Int.toNat_natCast]; simp
    have hlen : length (a0) = length p + length y0 + 1 := by rw [← hp0]; simp; omega
    have hw : IntKind.wrap .i64 ((length p : Int) + 1) = (length p : Int) + 1 := wrap64 (by omega)
    simp only [r96_0]
    by_cases h_1 : (!(m143 x0 x1)) = true
    · try simp only [if_pos h_1]
      have st := codeH_ok (F := F) (X := X) (c := b96_0) (t := 0) (hs := [(8, .b true), (14, .row [(.val (.string x0.f0)), (.i x0.f1), (.val (.string x0.f2)), (.i x0.f3)]), (22, .row [(.val (.string x1.f0)), (.i x1.f1), (.val (.string x1.f2)), (.i x1.f3)]), (26, .ret [] [(.one (.val (.bool (m143 x0 x1))))] [] []), (29, .b true)]) (σ := h96_0 l0_0 l1_0 a0 a1 (length p : Int) ) (σ' := fin96_0 l0_0 l1_0 a0 a1 (.k1)) (e := .ret) (t' := 32) (hs' := []) (q := [(decide ((length p : Int) < ((length (map b_sisi a0)) : Int))) = true, 0 ≤ (length p : Int), (map b_sisi a0)[(Int.toNat (length p : Int))]? = some [(.val (.string x0.f0)), (.i x0.f1), (.val (.string x0.f2)), (.i x0.f3)], 0 ≤ (length p : Int), (map b_sisi a1)[(Int.toNat (length p : Int))]? = some [(.val (.string x1.f0)), (.i x1.f1), (.val (.string x1.f2)), (.i x1.f3)], Ev F X (.call 143 [(.agg [(.val (.string x0.f0)), (.i x0.f1), (.val (.string x0.f2)), (.i x0.f3)]), (.agg [(.val (.string x1.f0)), (.i x1.f1), (.val (.string x1.f2)), (.i x1.f3)])] [] [] [(.one (.val (.bool (m143 x0 x1))))]), (!(m143 x0 x1)) = true]) (by kernel_rfl) ⟨hc, (by omega), (by rw [getElem?_map, Hx0]; rfl), (by omega), (by rw [getElem?_map, Hx1]; rfl), (e143 (a0 := x0) (a1 := x1)), h_1, trivial⟩
      exact .loopX st (show (.ret : VX.Exit) ≠ .normal from by simp)
    · try simp only [if_neg h_1]
      have st := codeH_ok (F := F) (X := X) (c := b96_0) (t := 0) (hs := [(8, .b true), (14, .row [(.val (.string x0.f0)), (.i x0.f1), (.val (.string x0.f2)), (.i x0.f3)]), (22, .row [(.val (.string x1.f0)), (.i x1.f1), (.val (.string x1.f2)), (.i x1.f3)]), (26, .ret [] [(.one (.val (.bool (m143 x0 x1))))] [] []), (29, .b false)]) (σ := h96_0 l0_0 l1_0 a0 a1 (length p : Int) ) (σ' := ⟨[(0, (.one (.bor l0_0 (map b_sisi a0)))), (1, (.one (.bor l1_0 (map b_sisi a1)))), (5, (.oi (IntKind.wrap .i64 ((length p : Int) + 1))))], []⟩) (e := .normal) (t' := 36) (hs' := []) (q := [(decide ((length p : Int) < ((length (map b_sisi a0)) : Int))) = true, 0 ≤ (length p : Int), (map b_sisi a0)[(Int.toNat (length p : Int))]? = some [(.val (.string x0.f0)), (.i x0.f1), (.val (.string x0.f2)), (.i x0.f3)], 0 ≤ (length p : Int), (map b_sisi a1)[(Int.toNat (length p : Int))]? = some [(.val (.string x1.f0)), (.i x1.f1), (.val (.string x1.f2)), (.i x1.f3)], Ev F X (.call 143 [(.agg [(.val (.string x0.f0)), (.i x0.f1), (.val (.string x0.f2)), (.i x0.f3)]), (.agg [(.val (.string x1.f0)), (.i x1.f1), (.val (.string x1.f2)), (.i x1.f3)])] [] [] [(.one (.val (.bool (m143 x0 x1))))]), (!(m143 x0 x1)) = false, True]) (by kernel_rfl) ⟨hc, (by omega), (by rw [getElem?_map, Hx0]; rfl), (by omega), (by rw [getElem?_map, Hx1]; rfl), (e143 (a0 := x0) (a1 := x1)), (nt h_1), trivial, trivial⟩
      have ih := t96_0 (l0_0 := l0_0) (l1_0 := l1_0) (a0 := a0) (a1 := a1) hy0 hy1 y0 y1 (p ++ [x0]) (p_1 ++ [x1])  (by rw [append_assoc]; exact hp0) (by rw [append_assoc]; exact hp1) (by simp only [length_map, length_set, length_append, length_replicate, length_cons, length_nil]; omega) (by simp only [length_map, length_set, length_append, length_replicate, length_cons, length_nil] at hl1; omega)
      rw [show ((p ++ [x0]).length : Int) = (p.length : Int) + 1 from by simp] at ih
      rw [show (⟨[(0, (.one (.bor l0_0 (map b_sisi a0)))), (1, (.one (.bor l1_0 (map b_sisi a1)))), (5, (.oi (IntKind.wrap .i64 ((length p : Int) + 1))))], []⟩ : St) = h96_0 l0_0 l1_0 a0 a1 ((length p : Int) + 1)  from (by unfold h96_0; simp only [hw]; done)] at st
      exact .loopN st ih
/-! loop.example/g00539/laws.eqSessionS -/
def m96 (a0 : (List K_sisi)) (a1 : (List K_sisi)) : Bool :=
  if (((length (map b_sisi a0)) : Int) != ((length (map b_sisi a1)) : Int)) = true then false else
  (match r96_0 a0 a0 a1 0 with | .k0 w0_1 w1_1 => true | .k1 => false)
theorem e96 {l0_0 : Nat} {a0 : (List K_sisi)} {l1_0 : Nat} {a1 : (List K_sisi)} (hy0 : length a0 * 48 ≤ 140737488351232) (hy1 : length a1 * 48 ≤ 140737488351232) : Ev F X (.call 96 [(.one (.bor l0_0 (map b_sisi a0))), (.one (.bor l1_0 (map b_sisi a1)))] [] [] [(.one (.val (.bool (m96 a0 a1))))]) := by
  unfold m96
  by_cases h0 : (((length (map b_sisi a0)) : Int) != ((length (map b_sisi a1)) : Int)) = true
  · try simp only [if_pos h0]
    exact callP_ok (ps := []) (os := []) (rs := [(.one (.val (.bool false)))]) (by kernel_rfl) (.f h0 (.h 12 (.b true) .nil))
  · try simp only [if_neg h0]
    cases h1 : r96_0 a0 a0 a1 0 with
    | k0 w0_1 w1_1 =>
      try dsimp only
      have f1 : (⟨[(0, (.one (.bor l0_0 (map b_sisi a0)))), (1, (.one (.bor l1_0 (map b_sisi a1)))), (5, (.oi 0))], []⟩ : St) = h96_0 l0_0 l1_0 a0 a1 0  := (by rfl)
      have f2 : Ev F X (.code l96_0 (h96_0 l0_0 l1_0 a0 a1 0 ) (.exit 0) ⟨[(0, (.one (.bor l0_0 (map b_sisi a0)))), (1, (.one (.bor l1_0 (map b_sisi a1)))), (5, (.oi w0_1)), (14, (.one (.val (.bool w1_1))))], []⟩) := (by have t : Ev F X (.code l96_0 (h96_0 l0_0 l1_0 a0 a1 0 ) (ex96_0 (r96_0 a0 a0 a1 0)) (fin96_0 l0_0 l1_0 a0 a1 (r96_0 a0 a0 a1 0))) := t96_0 (l0_0 := l0_0) (l1_0 := l1_0) (a0 := a0) (a1 := a1) (by assumption) (by assumption) a0 a1 [] []  rfl rfl rfl (by simp at *; omega); rw [h1] at t; exact t)
      exact callP_ok (ps := []) (os := []) (rs := [(.one (.val (.bool true)))]) (by kernel_rfl) (.f (nt h0) (.f f1 (.f f2 (.h 12 (.b false) (.h 15 (.loop (h96_0 l0_0 l1_0 a0 a1 0 ) (.exit 0) ⟨[(0, (.one (.bor l0_0 (map b_sisi a0)))), (1, (.one (.bor l1_0 (map b_sisi a1)))), (5, (.oi w0_1)), (14, (.one (.val (.bool w1_1))))], []⟩) .nil)))))
    | k1 =>
      try dsimp only
      have f1 : (⟨[(0, (.one (.bor l0_0 (map b_sisi a0)))), (1, (.one (.bor l1_0 (map b_sisi a1)))), (5, (.oi 0))], []⟩ : St) = h96_0 l0_0 l1_0 a0 a1 0  := (by rfl)
      have f2 : Ev F X (.code l96_0 (h96_0 l0_0 l1_0 a0 a1 0 ) .ret ⟨[(4, (.one (.val (.bool false))))], []⟩) := (by have t : Ev F X (.code l96_0 (h96_0 l0_0 l1_0 a0 a1 0 ) (ex96_0 (r96_0 a0 a0 a1 0)) (fin96_0 l0_0 l1_0 a0 a1 (r96_0 a0 a0 a1 0))) := t96_0 (l0_0 := l0_0) (l1_0 := l1_0) (a0 := a0) (a1 := a1) (by assumption) (by assumption) a0 a1 [] []  rfl rfl rfl (by simp at *; omega); rw [h1] at t; exact t)
      exact callP_ok (ps := []) (os := []) (rs := [(.one (.val (.bool false)))]) (by kernel_rfl) (.f (nt h0) (.f f1 (.f f2 (.h 12 (.b false) (.h 15 (.loop (h96_0 l0_0 l1_0 a0 a1 0 ) .ret ⟨[(4, (.one (.val (.bool false))))], []⟩) .nil)))))
theorem eqr96_0 (a0 : (List K_sisi)) : ∀ (l m : List K_sisi) (i : Int), l.length = m.length → (r96_0 a0 l m i = .k1 ∧ l ≠ m) ∨ (∃ w0 w1, r96_0 a0 l m i = .k0 w0 w1 ∧ l = m)
  | [], [], i, _ => .inr ⟨_, _, rfl, rfl⟩
  | [], _ :: _, i, h => by simp at h
  | _ :: _, [], i, h => by simp at h
  | x :: l, y :: m, i, h => by
    have ih := eqr96_0 a0 l m (i + 1) (by simpa using h)
    by_cases hxy : x = y
    · subst hxy
      have e : r96_0 a0 (x :: l) (x :: m) i = r96_0 a0 l m (i + 1) := by simp [r96_0, ba_eq, eqd143]
      rw [e]
      rcases ih with ⟨h1, h2⟩ | ⟨w0, w1, h1, h2⟩
      · exact .inl ⟨h1, by simp [h2]⟩
      · exact .inr ⟨_, _, h1, by rw [h2]⟩
    · have e : r96_0 a0 (x :: l) (y :: m) i = .k1 := by
        simp only [r96_0]
        first
          | ((repeat' split) <;> simp_all [ba_eq, eqd143]; done)
          | (cases x; cases y; (repeat' split) <;> simp_all [ba_eq, eqd143])
      exact .inl ⟨e, by simp [hxy]⟩
open Classical in
theorem eqd96 (a b : (List K_sisi)) : m96 a b = decide (a = b) := by
  rw [Bool.eq_iff_iff, decide_eq_true_eq]
  unfold m96
  by_cases hl : length a = length b
  · rcases eqr96_0 a a b 0 hl with ⟨h1, h2⟩ | ⟨w0, w1, h1, h2⟩
    · simp only [h1, length_map, hl]
      first
        | (simp [h2, ba_eq, eqd143]; done)
        | (cases a; cases b; simp_all [ba_eq, eqd143]; done)
        | (cases a; cases b; (repeat' split) <;> simp_all [ba_eq, eqd143])
    · simp only [h1, length_map, hl]
      first
        | (simp [h2, ba_eq, eqd143]; done)
        | (cases a; cases b; simp_all [ba_eq, eqd143]; done)
        | (cases a; cases b; (repeat' split) <;> simp_all [ba_eq, eqd143])
  · have hn : a ≠ b := by rintro rfl; exact hl rfl
    simp only [length_map]
    first
      | (simp [hn, hl, ba_eq, eqd143]; done)
      | ((repeat' split) <;> simp_all [ba_eq, eqd143]; done)
      | (simp [hn]; omega)
/-! loop.example/g00539/laws.eqServer -/
def m48 (a0 : K_LsisiEi) (a1 : K_LsisiEi) : Bool :=
  if (!(m96 a0.f0 a1.f0)) = true then false else
  if (a0.f1 != a1.f1) = true then false else
    true
theorem e48 {l0_0 : Nat} {a0 : K_LsisiEi} {l1_0 : Nat} {a1 : K_LsisiEi} (hy0 : length a0.f0 * 48 ≤ 140737488351232) (hy1 : length a1.f0 * 48 ≤ 140737488351232) : Ev F X (.call 48 [(.agg [(.bor l0_0 (map b_sisi a0.f0)), (.val (.int .i64 a0.f1))]), (.agg [(.bor l1_0 (map b_sisi a1.f0)), (.val (.int .i64 a1.f1))])] [] [] [(.one (.val (.bool (m48 a0 a1))))]) := by
  unfold m48
  have f0 : Ev F X (.call 96 [(.one (.bor (l0_0 + 1) (map b_sisi a0.f0))), (.one (.bor (l1_0 + 1) (map b_sisi a1.f0)))] [] [] [(.one (.val (.bool (m96 a0.f0 a1.f0))))]) := (e96 (a0 := a0.f0) (a1 := a1.f0) (by with_reducible assumption) (by with_reducible assumption))
  by_cases h0 : (!(m96 a0.f0 a1.f0)) = true
  · try simp only [if_pos h0]
    exact callP_ok (ps := []) (os := []) (rs := [(.one (.val (.bool false)))]) (by kernel_rfl) (.r 15 [] [] f0 (.f h0 (.h 18 (.b true) .nil)))
  · try simp only [if_neg h0]
    by_cases h1 : (a0.f1 != a1.f1) = true
    · try simp only [if_pos h1]
      exact callP_ok (ps := []) (os := []) (rs := [(.one (.val (.bool false)))]) (by kernel_rfl) (.r 15 [] [] f0 (.f (nt h0) (.f h1 (.h 18 (.b false) (.h 29 (.b true) .nil)))))
    · try simp only [if_neg h1]
      exact callP_ok (ps := []) (os := []) (rs := [(.one (.val (.bool true)))]) (by kernel_rfl) (.r 15 [] [] f0 (.f (nt h0) (.f (nt h1) (.h 18 (.b false) (.h 29 (.b false) .nil)))))
open Classical in
theorem eqd48 (a b : K_LsisiEi) : m48 a b = decide (a = b) := by
  rw [Bool.eq_iff_iff, decide_eq_true_eq]
  constructor
  · intro h
    unfold m48 at h
    cases a; cases b
    (repeat' split at h) <;> simp_all [ba_eq, eqd96]
  · rintro rfl
    simp [m48, ba_eq, eqd96]
/-! loop 82_0 -/
inductive O82_0 where
  | k0 (w0 : Int) (w1 : ByteArray) (w2 : Bool)
def r82_0  : Nat → Int → ByteArray → O82_0
  | n + 1, v0, v1 =>
    if (decide (v0 > 0)) = true then (r82_0 n (IntKind.wrap .i64 (Int.tdiv v0 10)) ((bytesOf [(IntKind.wrap .u8 ((IntKind.wrap .i64 (48 + (Int.tmod v0 10)))))]) ++ v1)) else
    (O82_0.k0 v0 v1 (decide (v0 > 0)))
  | 0, v0, v1 => (O82_0.k0 v0 v1 (decide (v0 > 0)))
def h82_0 (a0 : Int) (v0 : Int) (v1 : ByteArray) : St := ⟨[(0, (.one (.val (.int .i64 v0)))), (3, (.one (.val (.string v1))))], []⟩
def ex82_0 : O82_0 → VX.Exit
  | .k0 _ _ _ => (.exit 0)
def fin82_0 (a0 : Int) : O82_0 → St
  | .k0 w0 w1 w2 => ⟨[(0, (.one (.val (.int .i64 w0)))), (3, (.one (.val (.string w1)))), (7, (.one (.val (.bool w2))))], []⟩
theorem t82_0 {a0 : Int}  : ∀ (n : Nat) (v0 : Int) (v1 : ByteArray), ByteArray.size v1 + pot64 v0 ≤ 100 → fuel64 v0 ≤ n → Ev F X (.code l82_0 (h82_0 a0 v0 v1) (ex82_0 (r82_0 n v0 v1)) (fin82_0 a0 (r82_0 n v0 v1)))
  | 0, v0, v1, hi0, hn => by
    have hc : ¬ (decide (v0 > 0)) = true := by first | (exact fuel64_zero hn) | (simp only [decide_eq_true_eq] at *; omega) | (simp at *; omega)
    have st := codeP_ok (F := F) (X := X) (c := b82_0) (t := 0) (σ := h82_0 a0 v0 v1) (σ' := ⟨[(0, (.oi v0)), (3, (.one (.val (.string v1)))), (7, (.one (.val (.bool (decide (v0 > 0))))))], []⟩) (e := (.exit 0)) (t' := 5) (by kernel_rfl) (.f (nt hc) (.h 4 (.b false) .nil))
    rw [show (⟨[(0, (.oi v0)), (3, (.one (.val (.string v1)))), (7, (.one (.val (.bool (decide (v0 > 0))))))], []⟩ : St) = fin82_0 a0 (.k0 v0 v1 (decide (v0 > 0))) from (by rfl)] at st
    exact .loopX st (show ((.exit 0) : VX.Exit) ≠ .normal from by simp)
  | n + 1, v0, v1, hi0, hn => by
    simp only [r82_0]
    by_cases h_0 : (decide (v0 > 0)) = true
    · try simp only [if_pos h_0]
      have f1 : (10 : Int) ≠ 0 := (by omega)
      have f3 : 1 ≤ 1 := (by omega)
      have f4 : rowsInts .u8 [[(.val (.int .u8 (IntKind.wrap .u8 ((IntKind.wrap .i64 (48 + (Int.tmod v0 10)))))))]] = some [(IntKind.wrap .u8 ((IntKind.wrap .i64 (48 + (Int.tmod v0 10)))))] := (by simp only [List.drop_zero, tbr, tsi, ly_y, ly0_y, ← List.map_append, List.take_length, List.cons_append, List.nil_append, append_assoc, toBR_y, fullR_y, pureR_y, copy_y, ints_y]; done)
      have f5 : ByteArray.size (bytesOf [(IntKind.wrap .u8 ((IntKind.wrap .i64 (48 + (Int.tmod v0 10)))))]) + ByteArray.size v1 ≤ 9223372036854775807 := (by simp only [bytesOf_size, length_cons, length_nil]; omega)
      have f6 : (10 : Int) ≠ 0 := (by with_reducible assumption)
      have st := codeP_ok (F := F) (X := X) (c := b82_0) (t := 0) (σ := h82_0 a0 v0 v1) (σ' := ⟨[(0, (.oi (IntKind.wrap .i64 (Int.tdiv v0 10)))), (3, (.one (.val (.string ((bytesOf [(IntKind.wrap .u8 ((IntKind.wrap .i64 (48 + (Int.tmod v0 10)))))]) ++ v1)))))], []⟩) (e := .normal) (t' := 29) (by kernel_rfl) (.f h_0 (.f f1 (.f trivial (.f f3 (.f f4 (.f f5 (.f f6 (.h 4 (.b true) (.h 16 (.ints [(IntKind.wrap .u8 ((IntKind.wrap .i64 (48 + (Int.tmod v0 10)))))]) .nil)))))))))
      have ih := t82_0 (a0 := a0)  n (IntKind.wrap .i64 (Int.tdiv v0 10)) ((bytesOf [(IntKind.wrap .u8 ((IntKind.wrap .i64 (48 + (Int.tmod v0 10)))))]) ++ v1) (by have q := pot64_tdiv (x := v0) (by assumption); simp only [ByteArray.size_append, bytesOf_size, length_cons, length_nil]; omega) (by exact fuel64_tdiv (by assumption) hn)
      rw [show (⟨[(0, (.oi (IntKind.wrap .i64 (Int.tdiv v0 10)))), (3, (.one (.val (.string ((bytesOf [(IntKind.wrap .u8 ((IntKind.wrap .i64 (48 + (Int.tmod v0 10)))))]) ++ v1)))))], []⟩ : St) = h82_0 a0 (IntKind.wrap .i64 (Int.tdiv v0 10)) ((bytesOf [(IntKind.wrap .u8 ((IntKind.wrap .i64 (48 + (Int.tmod v0 10)))))]) ++ v1) from (by rfl)] at st
      exact .loopN st ih
    · try simp only [if_neg h_0]
      have st := codeP_ok (F := F) (X := X) (c := b82_0) (t := 0) (σ := h82_0 a0 v0 v1) (σ' := ⟨[(0, (.oi v0)), (3, (.one (.val (.string v1)))), (7, (.one (.val (.bool (decide (v0 > 0))))))], []⟩) (e := (.exit 0)) (t' := 5) (by kernel_rfl) (.f (nt h_0) (.h 4 (.b false) .nil))
      rw [show (⟨[(0, (.oi v0)), (3, (.one (.val (.string v1)))), (7, (.one (.val (.bool (decide (v0 > 0))))))], []⟩ : St) = fin82_0 a0 (.k0 v0 v1 (decide (v0 > 0))) from (by rfl)] at st
      exact .loopX st (show ((.exit 0) : VX.Exit) ≠ .normal from by simp)
/-! loop 82_0, behind -/
def post82_0 (a0 : Int) : O82_0 → Prop
  | .k0 _ w1 _ => ByteArray.size w1 ≤ 100
theorem z82_0 {a0 : Int}  : ∀ (n : Nat) (v0 : Int) (v1 : ByteArray), ByteArray.size v1 + pot64 v0 ≤ 100 → post82_0 a0 (r82_0 n v0 v1)
  | 0, v0, v1, hi0 => by
    simp only [r82_0]
    first | trivial | (show _ ; simp only [post82_0]; omega) | (simp only [post82_0] at *; omega) | (have q := pot64_tdiv (x := v0) (by assumption); simp only [ByteArray.size_append, bytesOf_size, length_cons, length_nil]; omega) | (simp only [decide_eq_true_eq] at *; omega)
  | n + 1, v0, v1, hi0 => by
    simp only [r82_0]
    by_cases h_0 : (decide (v0 > 0)) = true
    · try simp only [if_pos h_0]
      exact z82_0 (a0 := a0) n (IntKind.wrap .i64 (Int.tdiv v0 10)) ((bytesOf [(IntKind.wrap .u8 ((IntKind.wrap .i64 (48 + (Int.tmod v0 10)))))]) ++ v1) (by have q := pot64_tdiv (x := v0) (by assumption); simp only [ByteArray.size_append, bytesOf_size, length_cons, length_nil]; omega)
    · try simp only [if_neg h_0]
      first | trivial | (show _ ; simp only [post82_0]; omega) | (simp only [post82_0] at *; omega) | (have q := pot64_tdiv (x := v0) (by assumption); simp only [ByteArray.size_append, bytesOf_size, length_cons, length_nil]; omega) | (simp only [decide_eq_true_eq] at *; omega)
/-! loop.example/g00539/laws.markText -/
def m82 (a0 : Int) : ByteArray :=
  if (decide (a0 ≤ 0)) = true then (⟨#[109, 48]⟩ : ByteArray) else
  (match r82_0 (fuel64 a0) a0 (⟨#[]⟩ : ByteArray) with | .k0 w0_1 w1_1 w2_1 => ((⟨#[109]⟩ : ByteArray) ++ w1_1))
theorem e82 {a0 : Int} : Ev F X (.call 82 [(.one (.val (.int .i64 a0)))] [] [] [(.one (.val (.string (m82 a0))))]) := by
  unfold m82
  by_cases h0 : (decide (a0 ≤ 0)) = true
  · try simp only [if_pos h0]
    exact callP_ok (ps := []) (os := []) (rs := [(.one (.val (.string (⟨#[109, 48]⟩ : ByteArray))))]) (by kernel_rfl) (.f h0 (.h 6 (.b true) .nil))
  · try simp only [if_neg h0]
    cases h1 : r82_0 (fuel64 a0) a0 (⟨#[]⟩ : ByteArray) with
    | k0 w0_1 w1_1 w2_1 =>
      try dsimp only
      have zh1 := z82_0 (a0 := a0) (fuel64 a0) a0 (⟨#[]⟩ : ByteArray) (by have q := pot64_le a0; show 0 + pot64 a0 ≤ 100; omega); rw [h1] at zh1; simp only [post82_0] at zh1
      have f1 : (⟨[(0, (.oi a0)), (3, (.one (.val (.string (⟨#[]⟩ : ByteArray)))))], []⟩ : St) = h82_0 a0 a0 (⟨#[]⟩ : ByteArray) := (by rfl)
      have f2 : Ev F X (.code l82_0 (h82_0 a0 a0 (⟨#[]⟩ : ByteArray)) (.exit 0) ⟨[(0, (.oi w0_1)), (3, (.one (.val (.string w1_1)))), (7, (.one (.val (.bool w2_1))))], []⟩) := (by have t : Ev F X (.code l82_0 (h82_0 a0 a0 (⟨#[]⟩ : ByteArray)) (ex82_0 (r82_0 (fuel64 a0) a0 (⟨#[]⟩ : ByteArray))) (fin82_0 a0 (r82_0 (fuel64 a0) a0 (⟨#[]⟩ : ByteArray)))) := t82_0 (a0 := a0)  (fuel64 a0) a0 (⟨#[]⟩ : ByteArray)  (by have q := pot64_le a0; show 0 + pot64 a0 ≤ 100; omega) (Nat.le_refl _); rw [h1] at t; exact t)
      have f3 : ByteArray.size (⟨#[109]⟩ : ByteArray) + ByteArray.size w1_1 ≤ 9223372036854775807 := (by show 1 + _ ≤ _; omega)
      exact callP_ok (ps := []) (os := []) (rs := [(.one (.val (.string ((⟨#[109]⟩ : ByteArray) ++ w1_1))))]) (by kernel_rfl) (.f (nt h0) (.f f1 (.f f2 (.f f3 (.h 6 (.b false) (.h 9 (.loop (h82_0 a0 a0 (⟨#[]⟩ : ByteArray)) (.exit 0) ⟨[(0, (.oi w0_1)), (3, (.one (.val (.string w1_1)))), (7, (.one (.val (.bool w2_1))))], []⟩) .nil))))))
/-! loop 99_0 -/
inductive O99_0 where
  | k0 (w0 : List K_sisi) (w1 : Int) (w2 : Int) (w3 : Bool)
def r99_0 (a0 : (List K_sisi)) : List K_sisi → Int → List K_sisi → Int → O99_0
  | x0 :: y0, i, v0, v1 =>
    (r99_0 a0 y0 (i + 1) (set v0 (Int.toNat i) (K_sisi.mk (m82 v1) (IntKind.wrap .i64 (v1 + 1)) (m82 (IntKind.wrap .i64 ((IntKind.wrap .i64 (v1 + 1)) + 1))) (IntKind.wrap .i64 ((IntKind.wrap .i64 ((IntKind.wrap .i64 (v1 + 1)) + 1)) + 1)))) (IntKind.wrap .i64 ((IntKind.wrap .i64 ((IntKind.wrap .i64 ((IntKind.wrap .i64 (v1 + 1)) + 1)) + 1)) + 1)))
  | [], i, v0, v1 => (O99_0.k0 v0 v1 i (decide (i < ((length (map d_sisi a0)) : Int))))
def h99_0 (a0 : (List K_sisi)) (a1 : Int) (i : Int) (v0 : List K_sisi) (v1 : Int) : St := ⟨[(0, (.one (.ref ⟨(0, 0, 0), [], 0, (length (map d_sisi a0))⟩))), (1, (.one (.val (.int .i64 v1)))), (5, (.one (.val (.int .i64 i))))], [((0, 0, 0), .live ⟨4, (map d_sisi v0), []⟩)]⟩
def ex99_0 : O99_0 → VX.Exit
  | .k0 _ _ _ _ => (.exit 0)
def fin99_0 (a0 : (List K_sisi)) (a1 : Int) : O99_0 → St
  | .k0 w0 w1 w2 w3 => ⟨[(0, (.one (.ref ⟨(0, 0, 0), [], 0, (length (map d_sisi a0))⟩))), (1, (.one (.val (.int .i64 w1)))), (5, (.one (.val (.int .i64 w2)))), (9, (.one (.val (.bool w3))))], [((0, 0, 0), .live ⟨4, (map d_sisi w0), []⟩)]⟩
theorem t99_0 {a0 : (List K_sisi)} {a1 : Int} (hy0 : length a0 * 48 ≤ 140737488351232) : ∀ (y0 : List K_sisi) (p : List K_sisi) (v0 : List K_sisi) (v1 : Int), p ++ y0 = a0 → length v0 = (length (map d_sisi a0)) → drop (length p) v0 = y0 → Ev F X (.code l99_0 (h99_0 a0 a1 (length p : Int) v0 v1) (ex99_0 (r99_0 a0 y0 (length p : Int) v0 v1)) (fin99_0 a0 a1 (r99_0 a0 y0 (length p : Int) v0 v1)))
  | [], p, v0, v1, hp0, hi0, hi1 => by
    have hc : ¬ (decide ((length p : Int) < ((length (map d_sisi a0)) : Int))) = true := by
      rw [← hp0]; simp only [length_map, length_set, length_append, length_replicate, length_cons, length_nil, decide_eq_true_eq]; omega
    have hj0 := hi0; try simp only [length_map, length_set, length_append, length_replicate, length_cons, length_nil, Int.toNat_natCast] at hj0
    have hj1 := hi1; try simp only [length_map, length_set, length_append, length_replicate, length_cons, length_nil, Int.toNat_natCast] at hj1
    have st := codeH_ok (F := F) (X := X) (c := b99_0) (t := 0) (hs := [(8, .b false)]) (σ := h99_0 a0 a1 (length p : Int) v0 v1) (σ' := fin99_0 a0 a1 (.k0 v0 v1 (length p : Int) (decide ((length p : Int) < ((length (map d_sisi a0)) : Int))))) (e := (.exit 0)) (t' := 9) (hs' := []) (q := [(decide ((length p : Int) < ((length (map d_sisi a0)) : Int))) = false]) (by kernel_rfl) ⟨(nt hc), trivial⟩
    exact .loopX st (show ((.exit 0) : VX.Exit) ≠ .normal from by simp)
  | x0 :: y0, p, v0, v1, hp0, hi0, hi1 => by
    have hc : (decide ((length p : Int) < ((length (map d_sisi a0)) : Int))) = true := by
      rw [← hp0]; simp only [length_map, length_set, length_append, length_replicate, length_cons, length_nil, decide_eq_true_eq]; omega
    have Hx0 : (a0)[Int.toNat (length p : Int)]? = some x0 := by
      rw [← hp0, Int.toNat_natCast]; simp
    have hlen : length (a0) = length p + length y0 + 1 := by rw [← hp0]; simp; omega
    have hw : IntKind.wrap .i64 ((length p : Int) + 1) = (length p : Int) + 1 := wrap64 (by omega)
    have hj0 := hi0; try simp only [length_map, length_set, length_append, length_replicate, length_cons, length_nil, Int.toNat_natCast] at hj0
    have hj1 := hi1; try simp only [length_map, length_set, length_append, length_replicate, length_cons, length_nil, Int.toNat_natCast] at hj1
    have Hv0 : v0[Int.toNat (length p : Int)]? = some x0 := by rw [Int.toNat_natCast]; exact drop_at hi1
    simp only [r99_0]
    have st := codeH_ok (F := F) (X := X) (c := b99_0) (t := 0) (hs := [(8, .b true), (16, .ret [] [(.one (.val (.string (m82 v1))))] [] []), (22, .rowD [(.val (.string x0.f0)), (.i x0.f1), (.val (.string x0.f2)), (.i x0.f3)]), (23, .norm (0, 0, 0) (map d_sisi (set v0 (Int.toNat (length p : Int)) (K_sisi.mk (m82 v1) x0.f1 x0.f2 x0.f3)))), (41, .rowD [(.val (.string (m82 v1))), (.i x0.f1), (.val (.string x0.f2)), (.i x0.f3)]), (42, .norm (0, 0, 0) (map d_sisi (set v0 (Int.toNat (length p : Int)) (K_sisi.mk (m82 v1) (IntKind.wrap .i64 (v1 + 1)) x0.f2 x0.f3)))), (56, .ret [] [(.one (.val (.string (m82 (IntKind.wrap .i64 ((IntKind.wrap .i64 (v1 + 1)) + 1))))))] [] []), (62, .rowD [(.val (.string (m82 v1))), (.i (IntKind.wrap .i64 (v1 + 1))), (.val (.string x0.f2)), (.i x0.f3)]), (63, .norm (0, 0, 0) (map d_sisi (set v0 (Int.toNat (length p : Int)) (K_sisi.mk (m82 v1) (IntKind.wrap .i64 (v1 + 1)) (m82 (IntKind.wrap .i64 ((IntKind.wrap .i64 (v1 + 1)) + 1))) x0.f3)))), (81, .rowD [(.val (.string (m82 v1))), (.i (IntKind.wrap .i64 (v1 + 1))), (.val (.string (m82 (IntKind.wrap .i64 ((IntKind.wrap .i64 (v1 + 1)) + 1))))), (.i x0.f3)]), (82, .norm (0, 0, 0) (map d_sisi (set v0 (Int.toNat (length p : Int)) (K_sisi.mk (m82 v1) (IntKind.wrap .i64 (v1 + 1)) (m82 (IntKind.wrap .i64 ((IntKind.wrap .i64 (v1 + 1)) + 1))) (IntKind.wrap .i64 ((IntKind.wrap .i64 ((IntKind.wrap .i64 (v1 + 1)) + 1)) + 1))))))]) (σ := h99_0 a0 a1 (length p : Int) v0 v1) (σ' := ⟨[(0, (.one (.ref ⟨(0, 0, 0), [], 0, (length (map d_sisi a0))⟩))), (1, (.oi (IntKind.wrap .i64 ((IntKind.wrap .i64 ((IntKind.wrap .i64 ((IntKind.wrap .i64 (v1 + 1)) + 1)) + 1)) + 1)))), (5, (.oi (IntKind.wrap .i64 ((length p : Int) + 1))))], [((0, 0, 0), .live ⟨4, (map d_sisi (set v0 (Int.toNat (length p : Int)) (K_sisi.mk (m82 v1) (IntKind.wrap .i64 (v1 + 1)) (m82 (IntKind.wrap .i64 ((IntKind.wrap .i64 (v1 + 1)) + 1))) (IntKind.wrap .i64 ((IntKind.wrap .i64 ((IntKind.wrap .i64 (v1 + 1)) + 1)) + 1))))), []⟩)]⟩) (e := .normal) (t' := 95) (hs' := []) (q := [(decide ((length p : Int) < ((length (map d_sisi a0)) : Int))) = true, Ev F X (.call 82 [(.oi v1)] [] [] [(.one (.val (.string (m82 v1))))]), 0 + (length (map d_sisi a0)) ≤ (length (map d_sisi v0)), 0 ≤ (length p : Int) ∧ (length p : Int) < ((length (map d_sisi a0)) : Int), (map d_sisi v0)[(0 + (Int.toNat (length p : Int)))]? = some [(.val (.string x0.f0)), (.i x0.f1), (.val (.string x0.f2)), (.i x0.f3)], (set (map d_sisi v0) (0 + (Int.toNat (length p : Int))) [(.val (.string (m82 v1))), (.i x0.f1), (.val (.string x0.f2)), (.i x0.f3)]) = (map d_sisi (set v0 (Int.toNat (length p : Int)) (K_sisi.mk (m82 v1) x0.f1 x0.f2 x0.f3))), True, 0 + (length (map d_sisi a0)) ≤ (length (map d_sisi (set v0 (Int.toNat (length p : Int)) (K_sisi.mk (m82 v1) x0.f1 x0.f2 x0.f3)))), 0 ≤ (length p : Int) ∧ (length p : Int) < ((length (map d_sisi a0)) : Int), (map d_sisi (set v0 (Int.toNat (length p : Int)) (K_sisi.mk (m82 v1) x0.f1 x0.f2 x0.f3)))[(0 + (Int.toNat (length p : Int)))]? = some [(.val (.string (m82 v1))), (.i x0.f1), (.val (.string x0.f2)), (.i x0.f3)], (set (map d_sisi (set v0 (Int.toNat (length p : Int)) (K_sisi.mk (m82 v1) x0.f1 x0.f2 x0.f3))) (0 + (Int.toNat (length p : Int))) [(.val (.string (m82 v1))), (.i (IntKind.wrap .i64 (v1 + 1))), (.val (.string x0.f2)), (.i x0.f3)]) = (map d_sisi (set v0 (Int.toNat (length p : Int)) (K_sisi.mk (m82 v1) (IntKind.wrap .i64 (v1 + 1)) x0.f2 x0.f3))), True, Ev F X (.call 82 [(.oi (IntKind.wrap .i64 ((IntKind.wrap .i64 (v1 + 1)) + 1)))] [] [] [(.one (.val (.string (m82 (IntKind.wrap .i64 ((IntKind.wrap .i64 (v1 + 1)) + 1))))))]), 0 + (length (map d_sisi a0)) ≤ (length (map d_sisi (set v0 (Int.toNat (length p : Int)) (K_sisi.mk (m82 v1) (IntKind.wrap .i64 (v1 + 1)) x0.f2 x0.f3)))), 0 ≤ (length p : Int) ∧ (length p : Int) < ((length (map d_sisi a0)) : Int), (map d_sisi (set v0 (Int.toNat (length p : Int)) (K_sisi.mk (m82 v1) (IntKind.wrap .i64 (v1 + 1)) x0.f2 x0.f3)))[(0 + (Int.toNat (length p : Int)))]? = some [(.val (.string (m82 v1))), (.i (IntKind.wrap .i64 (v1 + 1))), (.val (.string x0.f2)), (.i x0.f3)], (set (map d_sisi (set v0 (Int.toNat (length p : Int)) (K_sisi.mk (m82 v1) (IntKind.wrap .i64 (v1 + 1)) x0.f2 x0.f3))) (0 + (Int.toNat (length p : Int))) [(.val (.string (m82 v1))), (.i (IntKind.wrap .i64 (v1 + 1))), (.val (.string (m82 (IntKind.wrap .i64 ((IntKind.wrap .i64 (v1 + 1)) + 1))))), (.i x0.f3)]) = (map d_sisi (set v0 (Int.toNat (length p : Int)) (K_sisi.mk (m82 v1) (IntKind.wrap .i64 (v1 + 1)) (m82 (IntKind.wrap .i64 ((IntKind.wrap .i64 (v1 + 1)) + 1))) x0.f3))), True, 0 + (length (map d_sisi a0)) ≤ (length (map d_sisi (set v0 (Int.toNat (length p : Int)) (K_sisi.mk (m82 v1) (IntKind.wrap .i64 (v1 + 1)) (m82 (IntKind.wrap .i64 ((IntKind.wrap .i64 (v1 + 1)) + 1))) x0.f3)))), 0 ≤ (length p : Int) ∧ (length p : Int) < ((length (map d_sisi a0)) : Int), (map d_sisi (set v0 (Int.toNat (length p : Int)) (K_sisi.mk (m82 v1) (IntKind.wrap .i64 (v1 + 1)) (m82 (IntKind.wrap .i64 ((IntKind.wrap .i64 (v1 + 1)) + 1))) x0.f3)))[(0 + (Int.toNat (length p : Int)))]? = some [(.val (.string (m82 v1))), (.i (IntKind.wrap .i64 (v1 + 1))), (.val (.string (m82 (IntKind.wrap .i64 ((IntKind.wrap .i64 (v1 + 1)) + 1))))), (.i x0.f3)], (set (map d_sisi (set v0 (Int.toNat (length p : Int)) (K_sisi.mk (m82 v1) (IntKind.wrap .i64 (v1 + 1)) (m82 (IntKind.wrap .i64 ((IntKind.wrap .i64 (v1 + 1)) + 1))) x0.f3))) (0 + (Int.toNat (length p : Int))) [(.val (.string (m82 v1))), (.i (IntKind.wrap .i64 (v1 + 1))), (.val (.string (m82 (IntKind.wrap .i64 ((IntKind.wrap .i64 (v1 + 1)) + 1))))), (.i (IntKind.wrap .i64 ((IntKind.wrap .i64 ((IntKind.wrap .i64 (v1 + 1)) + 1)) + 1)))]) = (map d_sisi (set v0 (Int.toNat (length p : Int)) (K_sisi.mk (m82 v1) (IntKind.wrap .i64 (v1 + 1)) (m82 (IntKind.wrap .i64 ((IntKind.wrap .i64 (v1 + 1)) + 1))) (IntKind.wrap .i64 ((IntKind.wrap .i64 ((IntKind.wrap .i64 (v1 + 1)) + 1)) + 1))))), True, True]) (by kernel_rfl) ⟨hc, (e82 (a0 := v1)), (by simp only [length_map]; omega), (by omega), (by rw [Nat.zero_add, getElem?_map, Hv0]; rfl), (by simp [byteRows_eq, ints_y, take_of_length_le, d_sisi, d_LsisiEi, d_b, d_i, d_s, d_iisiiii, d_iLsELiisiiiiELsisiEi, d_LsisiE, d_LsE, d_LiisiiiiE, d_y, fromBR_sisi, fromBR_b, fromBR_i, fromBR_s, fromBR_iisiiii, fromBR_y]; done), trivial, (by unfold m82; (repeat' split) <;> simp_all <;> omega), (by omega), (by rw [Nat.zero_add, map_set, List.getElem?_set_self (by simp only [length_map]; omega)]; rfl), (by simp [byteRows_eq, ints_y, take_of_length_le, d_sisi, d_LsisiEi, d_b, d_i, d_s, d_iisiiii, d_iLsELiisiiiiELsisiEi, d_LsisiE, d_LsE, d_LiisiiiiE, d_y, fromBR_sisi, fromBR_b, fromBR_i, fromBR_s, fromBR_iisiiii, fromBR_y]; done), trivial, (e82 (a0 := (IntKind.wrap .i64 ((IntKind.wrap .i64 (v1 + 1)) + 1)))), (by unfold m82; (repeat' split) <;> simp_all <;> omega), (by omega), (by rw [Nat.zero_add, map_set, List.getElem?_set_self (by simp only [length_map]; omega)]; rfl), (by simp [byteRows_eq, ints_y, take_of_length_le, d_sisi, d_LsisiEi, d_b, d_i, d_s, d_iisiiii, d_iLsELiisiiiiELsisiEi, d_LsisiE, d_LsE, d_LiisiiiiE, d_y, fromBR_sisi, fromBR_b, fromBR_i, fromBR_s, fromBR_iisiiii, fromBR_y]; done), trivial, (by unfold m82; (repeat' split) <;> simp_all <;> omega), (by omega), (by rw [Nat.zero_add, map_set, List.getElem?_set_self (by simp only [length_map]; omega)]; rfl), (by simp [byteRows_eq, ints_y, take_of_length_le, d_sisi, d_LsisiEi, d_b, d_i, d_s, d_iisiiii, d_iLsELiisiiiiELsisiEi, d_LsisiE, d_LsE, d_LiisiiiiE, d_y, fromBR_sisi, fromBR_b, fromBR_i, fromBR_s, fromBR_iisiiii, fromBR_y]; done), trivial, trivial, trivial⟩
    have ih := t99_0 (a0 := a0) (a1 := a1) hy0 y0 (p ++ [x0]) (set v0 (Int.toNat (length p : Int)) (K_sisi.mk (m82 v1) (IntKind.wrap .i64 (v1 + 1)) (m82 (IntKind.wrap .i64 ((IntKind.wrap .i64 (v1 + 1)) + 1))) (IntKind.wrap .i64 ((IntKind.wrap .i64 ((IntKind.wrap .i64 (v1 + 1)) + 1)) + 1)))) (IntKind.wrap .i64 ((IntKind.wrap .i64 ((IntKind.wrap .i64 ((IntKind.wrap .i64 (v1 + 1)) + 1)) + 1)) + 1)) (by rw [append_assoc]; exact hp0) (by simp only [length_map, length_set, length_append, length_replicate, length_cons, length_nil]; omega) (by simp only [length_map, length_set, length_append, length_replicate, length_cons, length_nil, Int.toNat_natCast]; first | exact drop_set_next hi1 _ | exact drop_next hi1)
    rw [show ((p ++ [x0]).length : Int) = (p.length : Int) + 1 from by simp] at ih
    rw [show (⟨[(0, (.one (.ref ⟨(0, 0, 0), [], 0, (length (map d_sisi a0))⟩))), (1, (.oi (IntKind.wrap .i64 ((IntKind.wrap .i64 ((IntKind.wrap .i64 ((IntKind.wrap .i64 (v1 + 1)) + 1)) + 1)) + 1)))), (5, (.oi (IntKind.wrap .i64 ((length p : Int) + 1))))], [((0, 0, 0), .live ⟨4, (map d_sisi (set v0 (Int.toNat (length p : Int)) (K_sisi.mk (m82 v1) (IntKind.wrap .i64 (v1 + 1)) (m82 (IntKind.wrap .i64 ((IntKind.wrap .i64 (v1 + 1)) + 1))) (IntKind.wrap .i64 ((IntKind.wrap .i64 ((IntKind.wrap .i64 (v1 + 1)) + 1)) + 1))))), []⟩)]⟩ : St) = h99_0 a0 a1 ((length p : Int) + 1) (set v0 (Int.toNat (length p : Int)) (K_sisi.mk (m82 v1) (IntKind.wrap .i64 (v1 + 1)) (m82 (IntKind.wrap .i64 ((IntKind.wrap .i64 (v1 + 1)) + 1))) (IntKind.wrap .i64 ((IntKind.wrap .i64 ((IntKind.wrap .i64 (v1 + 1)) + 1)) + 1)))) (IntKind.wrap .i64 ((IntKind.wrap .i64 ((IntKind.wrap .i64 ((IntKind.wrap .i64 (v1 + 1)) + 1)) + 1)) + 1)) from (by unfold h99_0; simp only [hw]; done)] at st
    exact .loopN st ih
def post99_0 (n0 : Nat) : O99_0 → Prop
  | .k0 w0 _ _ _ => length w0 = n0
theorem z99_0 {a0 : (List K_sisi)} : ∀ (y0 : List K_sisi) (i : Int) (v0 : List K_sisi) (v1 : Int), post99_0 (length v0) (r99_0 a0 y0 i v0 v1)
  | [], i, v0, v1 => by
    first | trivial | (simp only [post99_0, length_nil, Nat.add_zero]; done) | (simp [post99_0]; done)
  | x0 :: y0, i, v0, v1 => by
    simp only [r99_0]
    have z := z99_0 (a0 := a0) y0 (i + 1) (set v0 (Int.toNat i) (K_sisi.mk (m82 v1) (IntKind.wrap .i64 (v1 + 1)) (m82 (IntKind.wrap .i64 ((IntKind.wrap .i64 (v1 + 1)) + 1))) (IntKind.wrap .i64 ((IntKind.wrap .i64 ((IntKind.wrap .i64 (v1 + 1)) + 1)) + 1)))) (IntKind.wrap .i64 ((IntKind.wrap .i64 ((IntKind.wrap .i64 ((IntKind.wrap .i64 (v1 + 1)) + 1)) + 1)) + 1))
    rw [show (length v0) = (length (set v0 (Int.toNat i) (K_sisi.mk (m82 v1) (IntKind.wrap .i64 (v1 + 1)) (m82 (IntKind.wrap .i64 ((IntKind.wrap .i64 (v1 + 1)) + 1))) (IntKind.wrap .i64 ((IntKind.wrap .i64 ((IntKind.wrap .i64 (v1 + 1)) + 1)) + 1))))) from by first | omega | (simp only [length_map, length_set, length_append, length_replicate, length_cons, length_nil]; done) | (simp only [length_map, length_set, length_append, length_replicate, length_cons, length_nil]; omega)]
    exact z
/-! loop.example/g00539/laws.markSessionS -/
def o99_0 (a0 : (List K_sisi)) (a1 : Int) : List K_sisi :=
  (match r99_0 a0 a0 0 a0 a1 with | .k0 w0_0 w1_0 w2_0 w3_0 => w0_0)
def m99 (a0 : (List K_sisi)) (a1 : Int) : Int :=
  (match r99_0 a0 a0 0 a0 a1 with | .k0 w0_0 w1_0 w2_0 w3_0 => w1_0)
theorem e99 {a0 : (List K_sisi)} {a1 : Int} (hy0 : length a0 * 48 ≤ 140737488351232) : Ev F X (.call 99 [(.one (.ref ⟨(0, 0, 0), [], 0, (length (map d_sisi a0))⟩)), (.one (.val (.int .i64 a1)))] [((0, 0, 0), ⟨4, (map d_sisi a0), []⟩)] [(map d_sisi (o99_0 a0 a1))] [(.one (.val (.int .i64 (m99 a0 a1))))]) := by
  unfold m99 o99_0
  cases h0 : r99_0 a0 a0 0 a0 a1 with
  | k0 w0_0 w1_0 w2_0 w3_0 =>
    try dsimp only
    have zh0 := z99_0 (a0 := a0) a0 0 a0 a1; rw [h0] at zh0; simp only [post99_0, length_map, length_set, length_append, length_replicate, length_cons, length_nil, Int.toNat_natCast] at zh0
    have f0 : (⟨[(0, (.one (.ref ⟨(0, 0, 0), [], 0, (length (map d_sisi a0))⟩))), (1, (.oi a1)), (5, (.oi 0))], [((0, 0, 0), .live ⟨4, (map d_sisi a0), []⟩)]⟩ : St) = h99_0 a0 a1 0 a0 a1 := (by rfl)
    have f1 : Ev F X (.code l99_0 (h99_0 a0 a1 0 a0 a1) (.exit 0) ⟨[(0, (.one (.ref ⟨(0, 0, 0), [], 0, (length (map d_sisi a0))⟩))), (1, (.oi w1_0)), (5, (.oi w2_0)), (9, (.one (.val (.bool w3_0))))], [((0, 0, 0), .live ⟨4, (map d_sisi w0_0), []⟩)]⟩) := (by have t : Ev F X (.code l99_0 (h99_0 a0 a1 0 a0 a1) (ex99_0 (r99_0 a0 a0 0 a0 a1)) (fin99_0 a0 a1 (r99_0 a0 a0 0 a0 a1))) := t99_0 (a0 := a0) (a1 := a1) (by assumption) a0 [] a0 a1 rfl (by simp only [length_map, length_set, length_append, length_replicate, length_cons, length_nil]; done) (by rfl); rw [h0] at t; exact t)
    have f2 : pureR (map d_sisi w0_0) = true := (pureR_sisi _)
    exact callP_ok (ps := [true]) (os := [(map d_sisi w0_0)]) (rs := [(.oi w1_0)]) (by kernel_rfl) (.f f0 (.f f1 (.f f2 (.h 4 (.loop (h99_0 a0 a1 0 a0 a1) (.exit 0) ⟨[(0, (.one (.ref ⟨(0, 0, 0), [], 0, (length (map d_sisi a0))⟩))), (1, (.oi w1_0)), (5, (.oi w2_0)), (9, (.one (.val (.bool w3_0))))], [((0, 0, 0), .live ⟨4, (map d_sisi w0_0), []⟩)]⟩) .nil))))
theorem ow99_0 (a0 : List K_sisi) : ∀ (l p : List K_sisi) (v1 : Int), ∃ (q : List K_sisi) (w1 : _) (w2 : _) (w3 : _), r99_0 a0 l (p.length : Int) (p ++ l) v1 = .k0 (p ++ q) w1 w2 w3 ∧ q.length = l.length
  | [], p, v1 => ⟨[], v1, (p.length : Int), (decide ((p.length : Int) < ((length (map d_sisi a0)) : Int))), rfl, rfl⟩
  | x0 :: l, p, v1 => by
    obtain ⟨q, w1, w2, w3, e1, e2⟩ := ow99_0 a0 l (p ++ [(K_sisi.mk (m82 v1) (IntKind.wrap .i64 (v1 + 1)) (m82 (IntKind.wrap .i64 ((IntKind.wrap .i64 (v1 + 1)) + 1))) (IntKind.wrap .i64 ((IntKind.wrap .i64 ((IntKind.wrap .i64 (v1 + 1)) + 1)) + 1)))]) (IntKind.wrap .i64 ((IntKind.wrap .i64 ((IntKind.wrap .i64 ((IntKind.wrap .i64 (v1 + 1)) + 1)) + 1)) + 1))
    refine ⟨(K_sisi.mk (m82 v1) (IntKind.wrap .i64 (v1 + 1)) (m82 (IntKind.wrap .i64 ((IntKind.wrap .i64 (v1 + 1)) + 1))) (IntKind.wrap .i64 ((IntKind.wrap .i64 ((IntKind.wrap .i64 (v1 + 1)) + 1)) + 1))) :: q, w1, w2, w3, ?_, by simp [e2]⟩
    · have e : set (p ++ x0 :: l) (Int.toNat (p.length : Int)) (K_sisi.mk (m82 v1) (IntKind.wrap .i64 (v1 + 1)) (m82 (IntKind.wrap .i64 ((IntKind.wrap .i64 (v1 + 1)) + 1))) (IntKind.wrap .i64 ((IntKind.wrap .i64 ((IntKind.wrap .i64 (v1 + 1)) + 1)) + 1))) = (p ++ [(K_sisi.mk (m82 v1) (IntKind.wrap .i64 (v1 + 1)) (m82 (IntKind.wrap .i64 ((IntKind.wrap .i64 (v1 + 1)) + 1))) (IntKind.wrap .i64 ((IntKind.wrap .i64 ((IntKind.wrap .i64 (v1 + 1)) + 1)) + 1)))]) ++ l := by simp
      have e0 : ((p ++ [(K_sisi.mk (m82 v1) (IntKind.wrap .i64 (v1 + 1)) (m82 (IntKind.wrap .i64 ((IntKind.wrap .i64 (v1 + 1)) + 1))) (IntKind.wrap .i64 ((IntKind.wrap .i64 ((IntKind.wrap .i64 (v1 + 1)) + 1)) + 1)))]).length : Int) = (p.length : Int) + 1 := by simp
      rw [e0] at e1
      simp only [r99_0]
      first | (rw [e, e1]; simp; done) | (simp only [e, e1]; simp; done)

theorem ol99 (a : List K_sisi) (k : Int) : (o99_0 a k).length = a.length := by
  obtain ⟨q, w1, w2, w3, e1, e2⟩ := ow99_0 a a [] k
  simp only [List.nil_append, length_nil] at e1
  rw [show ((0 : Nat) : Int) = 0 from rfl] at e1
  unfold o99_0
  rw [e1]; exact e2
/-! loop.example/g00539/laws.markServer -/
def o52_0 (a0 : K_LsisiEi) (a1 : Int) : List K_sisi :=
  (o99_0 a0.f0 a1)
def m52 (a0 : K_LsisiEi) (a1 : Int) : Int :=
  (m99 a0.f0 a1)
theorem e52 {a0 : K_LsisiEi} {a1 : Int} (hy0 : length a0.f0 * 48 ≤ 140737488351232) : Ev F X (.call 52 [(.agg [(.ref ⟨(0, 0, 0), [], 0, (length (map d_sisi a0.f0))⟩), (.val (.int .i64 a0.f1))]), (.one (.val (.int .i64 a1)))] [((0, 0, 0), ⟨4, (map d_sisi a0.f0), []⟩)] [(map d_sisi (o52_0 a0 a1))] [(.one (.val (.int .i64 (m52 a0 a1))))]) := by
  have f0 : 0 = 0 := rfl
  have f1 : (length (map d_sisi a0.f0)) = (length (map d_sisi a0.f0)) := rfl
  have f2 : pureR (map d_sisi a0.f0) = true := (pureR_sisi _)
  have f3 : Ev F X (.call 99 [(.one (.ref ⟨(0, 0, 0), [], 0, (length (map d_sisi a0.f0))⟩)), (.oi a1)] [((0, 0, 0), ⟨4, (map d_sisi a0.f0), []⟩)] [(map d_sisi (o99_0 a0.f0 a1))] [(.oi (m99 a0.f0 a1))]) := (e99 (a0 := a0.f0) (a1 := a1) (by with_reducible assumption))
  have f4 : pureR (map d_sisi (o99_0 a0.f0 a1)) = true := (pureR_sisi _)
  exact callP_ok (ps := [true]) (os := [(map d_sisi (o99_0 a0.f0 a1))]) (rs := [(.oi (m99 a0.f0 a1))]) (by kernel_rfl) (.f f0 (.f f1 (.f f2 (.r 11 [true] [] f3 (.f f4 .nil)))))
theorem ol52_0 (a : K_LsisiEi) (k : Int) : (o52_0 a k).length = length a.f0 := by
  unfold o52_0
  simp [ol99]
/-! loop.example/g00539/spec.l1In -/
def m113 (a0 : Int) (a1 : Int) (a2 : Int) : Bool :=
  if (decide (a0 ≥ a1)) = true then (decide (a0 ≤ a2)) else
  false
theorem e113 {a0 : Int} {a1 : Int} {a2 : Int} : Ev F X (.call 113 [(.one (.val (.int .i64 a0))), (.one (.val (.int .i64 a1))), (.one (.val (.int .i64 a2)))] [] [] [(.one (.val (.bool (m113 a0 a1 a2))))]) := by
  unfold m113
  by_cases h0 : (decide (a0 ≥ a1)) = true
  · try simp only [if_pos h0]
    exact callP_ok (ps := []) (os := []) (rs := [(.one (.val (.bool (decide (a0 ≤ a2)))))]) (by kernel_rfl) (.f h0 (.f h0 (.f h0 (.f h0 (.h 10 (.b true) (.h 12 (.b true) (.h 14 (.b true) (.h 17 (.b true) .nil))))))))
  · try simp only [if_neg h0]
    exact callP_ok (ps := []) (os := []) (rs := [(.one (.val (.bool false)))]) (by kernel_rfl) (.f (nt h0) (.f (nt h0) (.f (nt h0) (.f (nt h0) (.h 10 (.b false) (.h 12 (.b false) (.h 14 (.b false) (.h 17 (.b false) .nil))))))))
/-! loop.example/g00539/spec.l9Letter -/
def m148 (a0 : Int) : Bool :=
  if (decide (a0 ≥ 97)) = true then (if (decide (a0 ≤ 122)) = true then true else
    if (decide (a0 ≥ 65)) = true then (if (decide (a0 ≤ 90)) = true then true else
        if (decide (a0 ≥ 48)) = true then (decide (a0 ≤ 57)) else
          false) else
      if (decide (a0 ≥ 48)) = true then (decide (a0 ≤ 57)) else
        false) else
  if (decide (a0 ≥ 65)) = true then (if (decide (a0 ≤ 90)) = true then true else
      if (decide (a0 ≥ 48)) = true then (decide (a0 ≤ 57)) else
        false) else
    if (decide (a0 ≥ 48)) = true then (decide (a0 ≤ 57)) else
      false
theorem e148 {a0 : Int} : Ev F X (.call 148 [(.one (.val (.int .u8 a0)))] [] [] [(.one (.val (.bool (m148 a0))))]) := by
  unfold m148
  by_cases h0 : (decide (a0 ≥ 97)) = true
  · try simp only [if_pos h0]
    by_cases h1 : (decide (a0 ≤ 122)) = true
    · try simp only [if_pos h1]
      exact callP_ok (ps := []) (os := []) (rs := [(.one (.val (.bool true)))]) (by kernel_rfl) (.f h0 (.f h0 (.f h0 (.f h1 (.f h1 (.f h1 (.f h1 (.f h1 (.h 8 (.b true) (.h 10 (.b true) (.h 13 (.b true) (.h 16 (.b true) (.h 18 (.b true) (.h 20 (.b true) (.h 26 (.b true) (.h 29 (.b true) .nil))))))))))))))))
    · try simp only [if_neg h1]
      by_cases h2 : (decide (a0 ≥ 65)) = true
      · try simp only [if_pos h2]
        by_cases h3 : (decide (a0 ≤ 90)) = true
        · try simp only [if_pos h3]
          exact callP_ok (ps := []) (os := []) (rs := [(.one (.val (.bool true)))]) (by kernel_rfl) (.f h0 (.f h0 (.f h0 (.f (nt h1) (.f (nt h1) (.f (nt h1) (.f h2 (.f h2 (.f (nt h1) (.f h2 (.f (nt h1) (.f h3 (.f h3 (.f h3 (.f h3 (.f h3 (.h 8 (.b true) (.h 10 (.b true) (.h 13 (.b true) (.h 16 (.b false) (.h 18 (.b false) (.h 20 (.b false) (.h 22 (.b true) (.h 24 (.b true) (.h 26 (.b false) (.h 27 (.b true) (.h 29 (.b false) (.h 32 (.b true) (.h 34 (.b true) (.h 36 (.b true) (.h 42 (.b true) (.h 45 (.b true) .nil))))))))))))))))))))))))))))))))
        · try simp only [if_neg h3]
          by_cases h4 : (decide (a0 ≥ 48)) = true
          · try simp only [if_pos h4]
            exact callP_ok (ps := []) (os := []) (rs := [(.one (.val (.bool (decide (a0 ≤ 57)))))]) (by kernel_rfl) (.f h0 (.f h0 (.f h0 (.f (nt h1) (.f (nt h1) (.f (nt h1) (.f h2 (.f h2 (.f (nt h1) (.f h2 (.f (nt h1) (.f (nt h3) (.f (nt h3) (.f (nt h3) (.f h4 (.f h4 (.f (nt h3) (.f h4 (.f (nt h3) (.h 8 (.b true) (.h 10 (.b true) (.h 13 (.b true) (.h 16 (.b false) (.h 18 (.b false) (.h 20 (.b false) (.h 22 (.b true) (.h 24 (.b true) (.h 26 (.b false) (.h 27 (.b true) (.h 29 (.b false) (.h 32 (.b false) (.h 34 (.b false) (.h 36 (.b false) (.h 38 (.b true) (.h 40 (.b true) (.h 42 (.b false) (.h 43 (.b true) (.h 45 (.b false) .nil))))))))))))))))))))))))))))))))))))))
          · try simp only [if_neg h4]
            exact callP_ok (ps := []) (os := []) (rs := [(.one (.val (.bool false)))]) (by kernel_rfl) (.f h0 (.f h0 (.f h0 (.f (nt h1) (.f (nt h1) (.f (nt h1) (.f h2 (.f h2 (.f (nt h1) (.f h2 (.f (nt h1) (.f (nt h3) (.f (nt h3) (.f (nt h3) (.f (nt h4) (.f (nt h4) (.f (nt h3) (.f (nt h4) (.f (nt h3) (.h 8 (.b true) (.h 10 (.b true) (.h 13 (.b true) (.h 16 (.b false) (.h 18 (.b false) (.h 20 (.b false) (.h 22 (.b true) (.h 24 (.b true) (.h 26 (.b false) (.h 27 (.b true) (.h 29 (.b false) (.h 32 (.b false) (.h 34 (.b false) (.h 36 (.b false) (.h 38 (.b false) (.h 40 (.b false) (.h 42 (.b false) (.h 43 (.b false) (.h 45 (.b false) .nil))))))))))))))))))))))))))))))))))))))
      · try simp only [if_neg h2]
        by_cases h3 : (decide (a0 ≥ 48)) = true
        · try simp only [if_pos h3]
          exact callP_ok (ps := []) (os := []) (rs := [(.one (.val (.bool (decide (a0 ≤ 57)))))]) (by kernel_rfl) (.f h0 (.f h0 (.f h0 (.f (nt h1) (.f (nt h1) (.f (nt h1) (.f (nt h2) (.f (nt h2) (.f (nt h1) (.f (nt h2) (.f (nt h1) (.f h3 (.f h3 (.f h3 (.h 8 (.b true) (.h 10 (.b true) (.h 13 (.b true) (.h 16 (.b false) (.h 18 (.b false) (.h 20 (.b false) (.h 22 (.b false) (.h 24 (.b false) (.h 26 (.b false) (.h 27 (.b false) (.h 29 (.b false) (.h 38 (.b true) (.h 40 (.b true) (.h 43 (.b true) .nil))))))))))))))))))))))))))))
        · try simp only [if_neg h3]
          exact callP_ok (ps := []) (os := []) (rs := [(.one (.val (.bool false)))]) (by kernel_rfl) (.f h0 (.f h0 (.f h0 (.f (nt h1) (.f (nt h1) (.f (nt h1) (.f (nt h2) (.f (nt h2) (.f (nt h1) (.f (nt h2) (.f (nt h1) (.f (nt h3) (.f (nt h3) (.f (nt h3) (.h 8 (.b true) (.h 10 (.b true) (.h 13 (.b true) (.h 16 (.b false) (.h 18 (.b false) (.h 20 (.b false) (.h 22 (.b false) (.h 24 (.b false) (.h 26 (.b false) (.h 27 (.b false) (.h 29 (.b false) (.h 38 (.b false) (.h 40 (.b false) (.h 43 (.b false) .nil))))))))))))))))))))))))))))
  · try simp only [if_neg h0]
    by_cases h1 : (decide (a0 ≥ 65)) = true
    · try simp only [if_pos h1]
      by_cases h2 : (decide (a0 ≤ 90)) = true
      · try simp only [if_pos h2]
        exact callP_ok (ps := []) (os := []) (rs := [(.one (.val (.bool true)))]) (by kernel_rfl) (.f (nt h0) (.f (nt h0) (.f (nt h0) (.f h1 (.f h1 (.f h1 (.f h2 (.f h2 (.f h2 (.f h2 (.f h2 (.h 8 (.b false) (.h 10 (.b false) (.h 13 (.b false) (.h 22 (.b true) (.h 24 (.b true) (.h 27 (.b true) (.h 32 (.b true) (.h 34 (.b true) (.h 36 (.b true) (.h 42 (.b true) (.h 45 (.b true) .nil))))))))))))))))))))))
      · try simp only [if_neg h2]
        by_cases h3 : (decide (a0 ≥ 48)) = true
        · try simp only [if_pos h3]
          exact callP_ok (ps := []) (os := []) (rs := [(.one (.val (.bool (decide (a0 ≤ 57)))))]) (by kernel_rfl) (.f (nt h0) (.f (nt h0) (.f (nt h0) (.f h1 (.f h1 (.f h1 (.f (nt h2) (.f (nt h2) (.f (nt h2) (.f h3 (.f h3 (.f (nt h2) (.f h3 (.f (nt h2) (.h 8 (.b false) (.h 10 (.b false) (.h 13 (.b false) (.h 22 (.b true) (.h 24 (.b true) (.h 27 (.b true) (.h 32 (.b false) (.h 34 (.b false) (.h 36 (.b false) (.h 38 (.b true) (.h 40 (.b true) (.h 42 (.b false) (.h 43 (.b true) (.h 45 (.b false) .nil))))))))))))))))))))))))))))
        · try simp only [if_neg h3]
          exact callP_ok (ps := []) (os := []) (rs := [(.one (.val (.bool false)))]) (by kernel_rfl) (.f (nt h0) (.f (nt h0) (.f (nt h0) (.f h1 (.f h1 (.f h1 (.f (nt h2) (.f (nt h2) (.f (nt h2) (.f (nt h3) (.f (nt h3) (.f (nt h2) (.f (nt h3) (.f (nt h2) (.h 8 (.b false) (.h 10 (.b false) (.h 13 (.b false) (.h 22 (.b true) (.h 24 (.b true) (.h 27 (.b true) (.h 32 (.b false) (.h 34 (.b false) (.h 36 (.b false) (.h 38 (.b false) (.h 40 (.b false) (.h 42 (.b false) (.h 43 (.b false) (.h 45 (.b false) .nil))))))))))))))))))))))))))))
    · try simp only [if_neg h1]
      by_cases h2 : (decide (a0 ≥ 48)) = true
      · try simp only [if_pos h2]
        exact callP_ok (ps := []) (os := []) (rs := [(.one (.val (.bool (decide (a0 ≤ 57)))))]) (by kernel_rfl) (.f (nt h0) (.f (nt h0) (.f (nt h0) (.f (nt h1) (.f (nt h1) (.f (nt h1) (.f h2 (.f h2 (.f h2 (.h 8 (.b false) (.h 10 (.b false) (.h 13 (.b false) (.h 22 (.b false) (.h 24 (.b false) (.h 27 (.b false) (.h 38 (.b true) (.h 40 (.b true) (.h 43 (.b true) .nil))))))))))))))))))
      · try simp only [if_neg h2]
        exact callP_ok (ps := []) (os := []) (rs := [(.one (.val (.bool false)))]) (by kernel_rfl) (.f (nt h0) (.f (nt h0) (.f (nt h0) (.f (nt h1) (.f (nt h1) (.f (nt h1) (.f (nt h2) (.f (nt h2) (.f (nt h2) (.h 8 (.b false) (.h 10 (.b false) (.h 13 (.b false) (.h 22 (.b false) (.h 24 (.b false) (.h 27 (.b false) (.h 38 (.b false) (.h 40 (.b false) (.h 43 (.b false) .nil))))))))))))))))))
/-! loop 114_0 -/
inductive O114_0 where
  | k0 (w0 : Int) (w1 : Bool)
  | k1
def r114_0 (a0 : ByteArray) : Nat → Int → O114_0
  | n + 1, i =>
    if (!(m148 (byteAt a0 i))) = true then (O114_0.k1) else
    (r114_0 a0 n (i + 1) )
  | 0, i => (O114_0.k0 i (decide (i < (ByteArray.size a0 : Int))))
def h114_0 (a0 : ByteArray) (i : Int)  : St := ⟨[(0, (.one (.val (.string a0)))), (3, (.one (.val (.int .i64 i))))], []⟩
def ex114_0 : O114_0 → VX.Exit
  | .k0 _ _ => (.exit 0)
  | .k1 => .ret
def fin114_0 (a0 : ByteArray) : O114_0 → St
  | .k0 w0 w1 => ⟨[(0, (.one (.val (.string a0)))), (3, (.one (.val (.int .i64 w0)))), (7, (.one (.val (.bool w1))))], []⟩
  | .k1 => ⟨[(2, (.one (.val (.bool false))))], []⟩
theorem t114_0 {a0 : ByteArray} (hy0 : ByteArray.size a0 ≤ 140737488351232) : ∀ (n : Nat) (i : Int) , 0 ≤ i → n = Int.toNat ((ByteArray.size a0 : Int) - i) → (ByteArray.size a0 : Int) ≤ 9223372036854775807 → Ev F X (.code l114_0 (h114_0 a0 i ) (ex114_0 (r114_0 a0 n i )) (fin114_0 a0 (r114_0 a0 n i )))
  | 0, i, hn0, hn, hi0 => by
    have hc : ¬ (decide (i < (ByteArray.size a0 : Int))) = true := by
      simp only [decide_eq_true_eq]; omega
    have st := codeH_ok (F := F) (X := X) (c := b114_0) (t := 0) (hs := [(8, .b false)]) (σ := h114_0 a0 i ) (σ' := fin114_0 a0 (.k0 i (decide (i < (ByteArray.size a0 : Int))))) (e := (.exit 0)) (t' := 9) (hs' := []) (q := [(decide (i < (ByteArray.size a0 : Int))) = false]) (by kernel_rfl) ⟨(nt hc), trivial⟩
    exact .loopX st (show ((.exit 0) : VX.Exit) ≠ .normal from by simp)
  | n + 1, i, hn0, hn, hi0 => by
    have hc : (decide (i < (ByteArray.size a0 : Int))) = true := by
      simp only [decide_eq_true_eq]; omega
    have hw : IntKind.wrap .i64 (i + 1) = i + 1 := wrap64 (by omega)
    have hj0 := hi0; try simp only [length_map, length_set, length_append, length_replicate, length_cons, length_nil, Int.toNat_natCast] at hj0
    simp only [r114_0]
    by_cases h_1 : (!(m148 (byteAt a0 i))) = true
    · try simp only [if_pos h_1]
      have st := codeH_ok (F := F) (X := X) (c := b114_0) (t := 0) (hs := [(8, .b true), (16, .ret [] [(.one (.val (.bool (m148 (byteAt a0 i)))))] [] []), (19, .b true)]) (σ := h114_0 a0 i ) (σ' := fin114_0 a0 (.k1)) (e := .ret) (t' := 22) (hs' := []) (q := [(decide (i < (ByteArray.size a0 : Int))) = true, 0 ≤ i ∧ i < (ByteArray.size a0 : Int), Ev F X (.call 148 [(.one (.val (.int .u8 (byteAt a0 i))))] [] [] [(.one (.val (.bool (m148 (byteAt a0 i)))))]), (!(m148 (byteAt a0 i))) = true]) (by kernel_rfl) ⟨hc, (by omega), (e148 (a0 := (byteAt a0 i))), h_1, trivial⟩
      exact .loopX st (show (.ret : VX.Exit) ≠ .normal from by simp)
    · try simp only [if_neg h_1]
      have st := codeH_ok (F := F) (X := X) (c := b114_0) (t := 0) (hs := [(8, .b true), (16, .ret [] [(.one (.val (.bool (m148 (byteAt a0 i)))))] [] []), (19, .b false)]) (σ := h114_0 a0 i ) (σ' := ⟨[(0, (.one (.val (.string a0)))), (3, (.oi (IntKind.wrap .i64 (i + 1))))], []⟩) (e := .normal) (t' := 26) (hs' := []) (q := [(decide (i < (ByteArray.size a0 : Int))) = true, 0 ≤ i ∧ i < (ByteArray.size a0 : Int), Ev F X (.call 148 [(.one (.val (.int .u8 (byteAt a0 i))))] [] [] [(.one (.val (.bool (m148 (byteAt a0 i)))))]), (!(m148 (byteAt a0 i))) = false, True]) (by kernel_rfl) ⟨hc, (by omega), (e148 (a0 := (byteAt a0 i))), (nt h_1), trivial, trivial⟩
      have ih := t114_0 (a0 := a0) hy0 n (i + 1)  (by omega) (by omega) (by omega)
      rw [show (⟨[(0, (.one (.val (.string a0)))), (3, (.oi (IntKind.wrap .i64 (i + 1))))], []⟩ : St) = h114_0 a0 (i + 1)  from (by unfold h114_0; simp only [hw]; done)] at st
      exact .loopN st ih
/-! loop.example/g00539/spec.l9Arg -/
def m114 (a0 : ByteArray) : Bool :=
  (match r114_0 a0 (Int.toNat (ByteArray.size a0 : Int)) 0 with | .k0 w0_0 w1_0 => (decide ((ByteArray.size a0 : Int) ≤ 12)) | .k1 => false)
theorem e114 {a0 : ByteArray} (hy0 : ByteArray.size a0 ≤ 140737488351232) : Ev F X (.call 114 [(.one (.val (.string a0)))] [] [] [(.one (.val (.bool (m114 a0))))]) := by
  unfold m114
  cases h0 : r114_0 a0 (Int.toNat (ByteArray.size a0 : Int)) 0 with
  | k0 w0_0 w1_0 =>
    try dsimp only
    have f0 : (⟨[(0, (.one (.val (.string a0)))), (3, (.oi 0))], []⟩ : St) = h114_0 a0 0  := (by rfl)
    have f1 : Ev F X (.code l114_0 (h114_0 a0 0 ) (.exit 0) ⟨[(0, (.one (.val (.string a0)))), (3, (.oi w0_0)), (7, (.one (.val (.bool w1_0))))], []⟩) := (by have t : Ev F X (.code l114_0 (h114_0 a0 0 ) (ex114_0 (r114_0 a0 (Int.toNat (ByteArray.size a0 : Int)) 0)) (fin114_0 a0 (r114_0 a0 (Int.toNat (ByteArray.size a0 : Int)) 0))) := t114_0 (a0 := a0) (by assumption) _ 0  (by omega) (by omega) (by omega); rw [h0] at t; exact t)
    exact callP_ok (ps := []) (os := []) (rs := [(.one (.val (.bool (decide ((ByteArray.size a0 : Int) ≤ 12)))))]) (by kernel_rfl) (.f f0 (.f f1 (.h 4 (.loop (h114_0 a0 0 ) (.exit 0) ⟨[(0, (.one (.val (.string a0)))), (3, (.oi w0_0)), (7, (.one (.val (.bool w1_0))))], []⟩) .nil)))
  | k1 =>
    try dsimp only
    have f0 : (⟨[(0, (.one (.val (.string a0)))), (3, (.oi 0))], []⟩ : St) = h114_0 a0 0  := (by rfl)
    have f1 : Ev F X (.code l114_0 (h114_0 a0 0 ) .ret ⟨[(2, (.one (.val (.bool false))))], []⟩) := (by have t : Ev F X (.code l114_0 (h114_0 a0 0 ) (ex114_0 (r114_0 a0 (Int.toNat (ByteArray.size a0 : Int)) 0)) (fin114_0 a0 (r114_0 a0 (Int.toNat (ByteArray.size a0 : Int)) 0))) := t114_0 (a0 := a0) (by assumption) _ 0  (by omega) (by omega) (by omega); rw [h0] at t; exact t)
    exact callP_ok (ps := []) (os := []) (rs := [(.one (.val (.bool false)))]) (by kernel_rfl) (.f f0 (.f f1 (.h 4 (.loop (h114_0 a0 0 ) .ret ⟨[(2, (.one (.val (.bool false))))], []⟩) .nil)))
/-! loop 154_0 -/
inductive O154_0 where
  | k0 (w0 : Int) (w1 : Bool)
  | k1
def r154_0 (a0 : ByteArray) : Nat → Int → O154_0
  | n + 1, i =>
    if ((byteAt a0 i) == 10) = true then (O154_0.k1) else
    (r154_0 a0 n (i + 1) )
  | 0, i => (O154_0.k0 i (decide (i < (ByteArray.size a0 : Int))))
def h154_0 (a0 : ByteArray) (i : Int)  : St := ⟨[(0, (.one (.val (.string a0)))), (3, (.one (.val (.int .i64 i))))], []⟩
def ex154_0 : O154_0 → VX.Exit
  | .k0 _ _ => (.exit 0)
  | .k1 => .ret
def fin154_0 (a0 : ByteArray) : O154_0 → St
  | .k0 w0 w1 => ⟨[(0, (.one (.val (.string a0)))), (3, (.one (.val (.int .i64 w0)))), (7, (.one (.val (.bool w1))))], []⟩
  | .k1 => ⟨[(2, (.one (.val (.bool false))))], []⟩
theorem t154_0 {a0 : ByteArray} (hy0 : ByteArray.size a0 ≤ 140737488351232) : ∀ (n : Nat) (i : Int) , 0 ≤ i → n = Int.toNat ((ByteArray.size a0 : Int) - i) → (ByteArray.size a0 : Int) ≤ 9223372036854775807 → Ev F X (.code l154_0 (h154_0 a0 i ) (ex154_0 (r154_0 a0 n i )) (fin154_0 a0 (r154_0 a0 n i )))
  | 0, i, hn0, hn, hi0 => by
    have hc : ¬ (decide (i < (ByteArray.size a0 : Int))) = true := by
      simp only [decide_eq_true_eq]; omega
    have st := codeH_ok (F := F) (X := X) (c := b154_0) (t := 0) (hs := [(8, .b false)]) (σ := h154_0 a0 i ) (σ' := fin154_0 a0 (.k0 i (decide (i < (ByteArray.size a0 : Int))))) (e := (.exit 0)) (t' := 9) (hs' := []) (q := [(decide (i < (ByteArray.size a0 : Int))) = false]) (by kernel_rfl) ⟨(nt hc), trivial⟩
    exact .loopX st (show ((.exit 0) : VX.Exit) ≠ .normal from by simp)
  | n + 1, i, hn0, hn, hi0 => by
    have hc : (decide (i < (ByteArray.size a0 : Int))) = true := by
      simp only [decide_eq_true_eq]; omega
    have hw : IntKind.wrap .i64 (i + 1) = i + 1 := wrap64 (by omega)
    have hj0 := hi0; try simp only [length_map, length_set, length_append, length_replicate, length_cons, length_nil, Int.toNat_natCast] at hj0
    simp only [r154_0]
    by_cases h_1 : ((byteAt a0 i) == 10) = true
    · try simp only [if_pos h_1]
      have st := codeH_ok (F := F) (X := X) (c := b154_0) (t := 0) (hs := [(8, .b true), (17, .b true)]) (σ := h154_0 a0 i ) (σ' := fin154_0 a0 (.k1)) (e := .ret) (t' := 20) (hs' := []) (q := [(decide (i < (ByteArray.size a0 : Int))) = true, 0 ≤ i ∧ i < (ByteArray.size a0 : Int), ((byteAt a0 i) == 10) = true]) (by kernel_rfl) ⟨hc, (by omega), h_1, trivial⟩
      exact .loopX st (show (.ret : VX.Exit) ≠ .normal from by simp)
    · try simp only [if_neg h_1]
      have st := codeH_ok (F := F) (X := X) (c := b154_0) (t := 0) (hs := [(8, .b true), (17, .b false)]) (σ := h154_0 a0 i ) (σ' := ⟨[(0, (.one (.val (.string a0)))), (3, (.oi (IntKind.wrap .i64 (i + 1))))], []⟩) (e := .normal) (t' := 24) (hs' := []) (q := [(decide (i < (ByteArray.size a0 : Int))) = true, 0 ≤ i ∧ i < (ByteArray.size a0 : Int), ((byteAt a0 i) == 10) = false, True]) (by kernel_rfl) ⟨hc, (by omega), (nt h_1), trivial, trivial⟩
      have ih := t154_0 (a0 := a0) hy0 n (i + 1)  (by omega) (by omega) (by omega)
      rw [show (⟨[(0, (.one (.val (.string a0)))), (3, (.oi (IntKind.wrap .i64 (i + 1))))], []⟩ : St) = h154_0 a0 (i + 1)  from (by unfold h154_0; simp only [hw]; done)] at st
      exact .loopN st ih
/-! loop.example/g00539/spec.l10Rest -/
def m154 (a0 : ByteArray) : Bool :=
  (match r154_0 a0 (Int.toNat (ByteArray.size a0 : Int)) 0 with | .k0 w0_0 w1_0 => (decide ((ByteArray.size a0 : Int) ≤ 161)) | .k1 => false)
theorem e154 {a0 : ByteArray} (hy0 : ByteArray.size a0 ≤ 140737488351232) : Ev F X (.call 154 [(.one (.val (.string a0)))] [] [] [(.one (.val (.bool (m154 a0))))]) := by
  unfold m154
  cases h0 : r154_0 a0 (Int.toNat (ByteArray.size a0 : Int)) 0 with
  | k0 w0_0 w1_0 =>
    try dsimp only
    have f0 : (⟨[(0, (.one (.val (.string a0)))), (3, (.oi 0))], []⟩ : St) = h154_0 a0 0  := (by rfl)
    have f1 : Ev F X (.code l154_0 (h154_0 a0 0 ) (.exit 0) ⟨[(0, (.one (.val (.string a0)))), (3, (.oi w0_0)), (7, (.one (.val (.bool w1_0))))], []⟩) := (by have t : Ev F X (.code l154_0 (h154_0 a0 0 ) (ex154_0 (r154_0 a0 (Int.toNat (ByteArray.size a0 : Int)) 0)) (fin154_0 a0 (r154_0 a0 (Int.toNat (ByteArray.size a0 : Int)) 0))) := t154_0 (a0 := a0) (by assumption) _ 0  (by omega) (by omega) (by omega); rw [h0] at t; exact t)
    exact callP_ok (ps := []) (os := []) (rs := [(.one (.val (.bool (decide ((ByteArray.size a0 : Int) ≤ 161)))))]) (by kernel_rfl) (.f f0 (.f f1 (.h 4 (.loop (h154_0 a0 0 ) (.exit 0) ⟨[(0, (.one (.val (.string a0)))), (3, (.oi w0_0)), (7, (.one (.val (.bool w1_0))))], []⟩) .nil)))
  | k1 =>
    try dsimp only
    have f0 : (⟨[(0, (.one (.val (.string a0)))), (3, (.oi 0))], []⟩ : St) = h154_0 a0 0  := (by rfl)
    have f1 : Ev F X (.code l154_0 (h154_0 a0 0 ) .ret ⟨[(2, (.one (.val (.bool false))))], []⟩) := (by have t : Ev F X (.code l154_0 (h154_0 a0 0 ) (ex154_0 (r154_0 a0 (Int.toNat (ByteArray.size a0 : Int)) 0)) (fin154_0 a0 (r154_0 a0 (Int.toNat (ByteArray.size a0 : Int)) 0))) := t154_0 (a0 := a0) (by assumption) _ 0  (by omega) (by omega) (by omega); rw [h0] at t; exact t)
    exact callP_ok (ps := []) (os := []) (rs := [(.one (.val (.bool false)))]) (by kernel_rfl) (.f f0 (.f f1 (.h 4 (.loop (h154_0 a0 0 ) .ret ⟨[(2, (.one (.val (.bool false))))], []⟩) .nil)))
/-! loop 136_0 -/
inductive O136_0 where
  | k0 (w0 : Int) (w1 : Bool)
  | k1
def r136_0 (a0 : K_LsisiEi) (a1 : Int) : Nat → Int → O136_0
  | n + 1, i =>
    if (decide (((getD a0.f0 (Int.toNat a1) (K_sisi.mk (⟨#[]⟩ : ByteArray) 0 (⟨#[]⟩ : ByteArray) 0)).f1) ≥ 0)) = true then (if (((getD a0.f0 (Int.toNat i) (K_sisi.mk (⟨#[]⟩ : ByteArray) 0 (⟨#[]⟩ : ByteArray) 0)).f1) == ((getD a0.f0 (Int.toNat a1) (K_sisi.mk (⟨#[]⟩ : ByteArray) 0 (⟨#[]⟩ : ByteArray) 0)).f1)) = true then (O136_0.k1) else
      (r136_0 a0 a1 n (i + 1) )) else
    (r136_0 a0 a1 n (i + 1) )
  | 0, i => (O136_0.k0 i (decide (i < a1)))
def h136_0 (l0 : Nat) (a0 : K_LsisiEi) (a1 : Int) (i : Int)  : St := ⟨[(0, (.bptr l0 [(.sl (map b_sisi a0.f0)), (.val (.int .i64 a0.f1))])), (1, (.one (.val (.int .i64 a1)))), (5, (.bptr l0 [(.val (.string ((getD a0.f0 (Int.toNat a1) (K_sisi.mk (⟨#[]⟩ : ByteArray) 0 (⟨#[]⟩ : ByteArray) 0)).f0))), (.val (.int .i64 ((getD a0.f0 (Int.toNat a1) (K_sisi.mk (⟨#[]⟩ : ByteArray) 0 (⟨#[]⟩ : ByteArray) 0)).f1))), (.val (.string ((getD a0.f0 (Int.toNat a1) (K_sisi.mk (⟨#[]⟩ : ByteArray) 0 (⟨#[]⟩ : ByteArray) 0)).f2))), (.val (.int .i64 ((getD a0.f0 (Int.toNat a1) (K_sisi.mk (⟨#[]⟩ : ByteArray) 0 (⟨#[]⟩ : ByteArray) 0)).f3)))])), (6, (.one (.val (.int .i64 i))))], []⟩
def ex136_0 : O136_0 → VX.Exit
  | .k0 _ _ => (.exit 0)
  | .k1 => .ret
def fin136_0 (l0 : Nat) (a0 : K_LsisiEi) (a1 : Int) : O136_0 → St
  | .k0 w0 w1 => ⟨[(0, (.bptr l0 [(.sl (map b_sisi a0.f0)), (.val (.int .i64 a0.f1))])), (1, (.one (.val (.int .i64 a1)))), (5, (.bptr l0 [(.val (.string ((getD a0.f0 (Int.toNat a1) (K_sisi.mk (⟨#[]⟩ : ByteArray) 0 (⟨#[]⟩ : ByteArray) 0)).f0))), (.val (.int .i64 ((getD a0.f0 (Int.toNat a1) (K_sisi.mk (⟨#[]⟩ : ByteArray) 0 (⟨#[]⟩ : ByteArray) 0)).f1))), (.val (.string ((getD a0.f0 (Int.toNat a1) (K_sisi.mk (⟨#[]⟩ : ByteArray) 0 (⟨#[]⟩ : ByteArray) 0)).f2))), (.val (.int .i64 ((getD a0.f0 (Int.toNat a1) (K_sisi.mk (⟨#[]⟩ : ByteArray) 0 (⟨#[]⟩ : ByteArray) 0)).f3)))])), (6, (.one (.val (.int .i64 w0)))), (55, (.one (.val (.bool w1))))], []⟩
  | .k1 => ⟨[(4, (.one (.val (.int .i64 6))))], []⟩
theorem t136_0 {l0 : Nat} {a0 : K_LsisiEi} {a1 : Int} (hy0 : 0 ≤ a1) (hy1 : a1 < length a0.f0) (hy2 : length a0.f0 * 48 ≤ 140737488351232) (hy3 : ∀ z ∈ a0.f0, os_sisi z) : ∀ (n : Nat) (i : Int) , 0 ≤ i → n = Int.toNat (a1 - i) → a1 ≤ 9223372036854775807 → Ev F X (.code l136_0 (h136_0 l0 a0 a1 i ) (ex136_0 (r136_0 a0 a1 n i )) (fin136_0 l0 a0 a1 (r136_0 a0 a1 n i )))
  | 0, i, hn0, hn, hi0 => by
    have hc : ¬ (decide (i < a1)) = true := by
      simp only [decide_eq_true_eq]; omega
    have st := codeH_ok (F := F) (X := X) (c := b136_0) (t := 0) (hs := [(6, .b false)]) (σ := h136_0 l0 a0 a1 i ) (σ' := fin136_0 l0 a0 a1 (.k0 i (decide (i < a1)))) (e := (.exit 0)) (t' := 7) (hs' := []) (q := [(decide (i < a1)) = false]) (by kernel_rfl) ⟨(nt hc), trivial⟩
    exact .loopX st (show ((.exit 0) : VX.Exit) ≠ .normal from by simp)
  | n + 1, i, hn0, hn, hi0 => by
    have hc : (decide (i < a1)) = true := by
      simp only [decide_eq_true_eq]; omega
    have hw : IntKind.wrap .i64 (i + 1) = i + 1 := wrap64 (by omega)
    have hj0 := hi0; try simp only [length_map, length_set, length_append, length_replicate, length_cons, length_nil, Int.toNat_natCast] at hj0
    simp only [r136_0]
    by_cases h_1 : (decide (((getD a0.f0 (Int.toNat a1) (K_sisi.mk (⟨#[]⟩ : ByteArray) 0 (⟨#[]⟩ : ByteArray) 0)).f1) ≥ 0)) = true
    · try simp only [if_pos h_1]
      by_cases h_2 : (((getD a0.f0 (Int.toNat i) (K_sisi.mk (⟨#[]⟩ : ByteArray) 0 (⟨#[]⟩ : ByteArray) 0)).f1) == ((getD a0.f0 (Int.toNat a1) (K_sisi.mk (⟨#[]⟩ : ByteArray) 0 (⟨#[]⟩ : ByteArray) 0)).f1)) = true
      · try simp only [if_pos h_2]
        have st := codeH_ok (F := F) (X := X) (c := b136_0) (t := 0) (hs := [(6, .b true), (19, .b true), (21, .b true), (23, .b true), (25, .b true), (27, .b true), (29, .b true), (30, .row [(.val (.string ((getD a0.f0 (Int.toNat i) (K_sisi.mk (⟨#[]⟩ : ByteArray) 0 (⟨#[]⟩ : ByteArray) 0)).f0))), (.i ((getD a0.f0 (Int.toNat i) (K_sisi.mk (⟨#[]⟩ : ByteArray) 0 (⟨#[]⟩ : ByteArray) 0)).f1)), (.val (.string ((getD a0.f0 (Int.toNat i) (K_sisi.mk (⟨#[]⟩ : ByteArray) 0 (⟨#[]⟩ : ByteArray) 0)).f2))), (.i ((getD a0.f0 (Int.toNat i) (K_sisi.mk (⟨#[]⟩ : ByteArray) 0 (⟨#[]⟩ : ByteArray) 0)).f3))]), (31, .b true), (33, .b true), (35, .b true), (37, .b true), (39, .b true), (41, .b true), (43, .b true), (46, .b true), (47, .b true)]) (σ := h136_0 l0 a0 a1 i ) (σ' := fin136_0 l0 a0 a1 (.k1)) (e := .ret) (t' := 50) (hs' := []) (q := [(decide (i < a1)) = true, (decide (((getD a0.f0 (Int.toNat a1) (K_sisi.mk (⟨#[]⟩ : ByteArray) 0 (⟨#[]⟩ : ByteArray) 0)).f1) ≥ 0)) = true, (decide (((getD a0.f0 (Int.toNat a1) (K_sisi.mk (⟨#[]⟩ : ByteArray) 0 (⟨#[]⟩ : ByteArray) 0)).f1) ≥ 0)) = true, (decide (((getD a0.f0 (Int.toNat a1) (K_sisi.mk (⟨#[]⟩ : ByteArray) 0 (⟨#[]⟩ : ByteArray) 0)).f1) ≥ 0)) = true, (decide (((getD a0.f0 (Int.toNat a1) (K_sisi.mk (⟨#[]⟩ : ByteArray) 0 (⟨#[]⟩ : ByteArray) 0)).f1) ≥ 0)) = true, (decide (((getD a0.f0 (Int.toNat a1) (K_sisi.mk (⟨#[]⟩ : ByteArray) 0 (⟨#[]⟩ : ByteArray) 0)).f1) ≥ 0)) = true, (decide (((getD a0.f0 (Int.toNat a1) (K_sisi.mk (⟨#[]⟩ : ByteArray) 0 (⟨#[]⟩ : ByteArray) 0)).f1) ≥ 0)) = true, 0 ≤ i, (map b_sisi a0.f0)[(Int.toNat i)]? = some [(.val (.string ((getD a0.f0 (Int.toNat i) (K_sisi.mk (⟨#[]⟩ : ByteArray) 0 (⟨#[]⟩ : ByteArray) 0)).f0))), (.i ((getD a0.f0 (Int.toNat i) (K_sisi.mk (⟨#[]⟩ : ByteArray) 0 (⟨#[]⟩ : ByteArray) 0)).f1)), (.val (.string ((getD a0.f0 (Int.toNat i) (K_sisi.mk (⟨#[]⟩ : ByteArray) 0 (⟨#[]⟩ : ByteArray) 0)).f2))), (.i ((getD a0.f0 (Int.toNat i) (K_sisi.mk (⟨#[]⟩ : ByteArray) 0 (⟨#[]⟩ : ByteArray) 0)).f3))], (decide (((getD a0.f0 (Int.toNat a1) (K_sisi.mk (⟨#[]⟩ : ByteArray) 0 (⟨#[]⟩ : ByteArray) 0)).f1) ≥ 0)) = true, (decide (((getD a0.f0 (Int.toNat a1) (K_sisi.mk (⟨#[]⟩ : ByteArray) 0 (⟨#[]⟩ : ByteArray) 0)).f1) ≥ 0)) = true, (decide (((getD a0.f0 (Int.toNat a1) (K_sisi.mk (⟨#[]⟩ : ByteArray) 0 (⟨#[]⟩ : ByteArray) 0)).f1) ≥ 0)) = true, (decide (((getD a0.f0 (Int.toNat a1) (K_sisi.mk (⟨#[]⟩ : ByteArray) 0 (⟨#[]⟩ : ByteArray) 0)).f1) ≥ 0)) = true, (decide (((getD a0.f0 (Int.toNat a1) (K_sisi.mk (⟨#[]⟩ : ByteArray) 0 (⟨#[]⟩ : ByteArray) 0)).f1) ≥ 0)) = true, (decide (((getD a0.f0 (Int.toNat a1) (K_sisi.mk (⟨#[]⟩ : ByteArray) 0 (⟨#[]⟩ : ByteArray) 0)).f1) ≥ 0)) = true, (decide (((getD a0.f0 (Int.toNat a1) (K_sisi.mk (⟨#[]⟩ : ByteArray) 0 (⟨#[]⟩ : ByteArray) 0)).f1) ≥ 0)) = true, (decide (((getD a0.f0 (Int.toNat a1) (K_sisi.mk (⟨#[]⟩ : ByteArray) 0 (⟨#[]⟩ : ByteArray) 0)).f1) ≥ 0)) = true, (((getD a0.f0 (Int.toNat i) (K_sisi.mk (⟨#[]⟩ : ByteArray) 0 (⟨#[]⟩ : ByteArray) 0)).f1) == ((getD a0.f0 (Int.toNat a1) (K_sisi.mk (⟨#[]⟩ : ByteArray) 0 (⟨#[]⟩ : ByteArray) 0)).f1)) = true]) (by kernel_rfl) ⟨hc, h_1, h_1, h_1, h_1, h_1, h_1, (by with_reducible assumption), (by rw [getElem?_map, getD_at a0.f0 (Int.toNat i) (K_sisi.mk (⟨#[]⟩ : ByteArray) 0 (⟨#[]⟩ : ByteArray) 0) (by first | exact True.intro | with_reducible rfl | with_reducible assumption | omega | (simp only [decide_eq_true_eq, length_map] at *; omega) | (simp only [decide_eq_true_eq] at *; omega) | (simp only [length_map]; omega) | (simp [ol99, ol52_0]; omega) | (simp [take_of_length_le, ol99, ol52_0]; done) | assumption | trivial | (simp [*, ol99, ol52_0, byteRows_eq, ints_y]; done))]; rfl), h_1, h_1, h_1, h_1, h_1, h_1, h_1, h_1, h_2, trivial⟩
        exact .loopX st (show (.ret : VX.Exit) ≠ .normal from by simp)
      · try simp only [if_neg h_2]
        have st := codeH_ok (F := F) (X := X) (c := b136_0) (t := 0) (hs := [(6, .b true), (19, .b true), (21, .b true), (23, .b true), (25, .b true), (27, .b true), (29, .b true), (30, .row [(.val (.string ((getD a0.f0 (Int.toNat i) (K_sisi.mk (⟨#[]⟩ : ByteArray) 0 (⟨#[]⟩ : ByteArray) 0)).f0))), (.i ((getD a0.f0 (Int.toNat i) (K_sisi.mk (⟨#[]⟩ : ByteArray) 0 (⟨#[]⟩ : ByteArray) 0)).f1)), (.val (.string ((getD a0.f0 (Int.toNat i) (K_sisi.mk (⟨#[]⟩ : ByteArray) 0 (⟨#[]⟩ : ByteArray) 0)).f2))), (.i ((getD a0.f0 (Int.toNat i) (K_sisi.mk (⟨#[]⟩ : ByteArray) 0 (⟨#[]⟩ : ByteArray) 0)).f3))]), (31, .b true), (33, .b true), (35, .b true), (37, .b true), (39, .b true), (41, .b true), (43, .b true), (46, .b true), (47, .b false)]) (σ := h136_0 l0 a0 a1 i ) (σ' := ⟨[(0, (.bptr l0 [(.sl (map b_sisi a0.f0)), (.i a0.f1)])), (1, (.oi a1)), (5, (.bptr l0 [(.val (.string ((getD a0.f0 (Int.toNat a1) (K_sisi.mk (⟨#[]⟩ : ByteArray) 0 (⟨#[]⟩ : ByteArray) 0)).f0))), (.i ((getD a0.f0 (Int.toNat a1) (K_sisi.mk (⟨#[]⟩ : ByteArray) 0 (⟨#[]⟩ : ByteArray) 0)).f1)), (.val (.string ((getD a0.f0 (Int.toNat a1) (K_sisi.mk (⟨#[]⟩ : ByteArray) 0 (⟨#[]⟩ : ByteArray) 0)).f2))), (.i ((getD a0.f0 (Int.toNat a1) (K_sisi.mk (⟨#[]⟩ : ByteArray) 0 (⟨#[]⟩ : ByteArray) 0)).f3))])), (6, (.oi (IntKind.wrap .i64 (i + 1))))], []⟩) (e := .normal) (t' := 54) (hs' := []) (q := [(decide (i < a1)) = true, (decide (((getD a0.f0 (Int.toNat a1) (K_sisi.mk (⟨#[]⟩ : ByteArray) 0 (⟨#[]⟩ : ByteArray) 0)).f1) ≥ 0)) = true, (decide (((getD a0.f0 (Int.toNat a1) (K_sisi.mk (⟨#[]⟩ : ByteArray) 0 (⟨#[]⟩ : ByteArray) 0)).f1) ≥ 0)) = true, (decide (((getD a0.f0 (Int.toNat a1) (K_sisi.mk (⟨#[]⟩ : ByteArray) 0 (⟨#[]⟩ : ByteArray) 0)).f1) ≥ 0)) = true, (decide (((getD a0.f0 (Int.toNat a1) (K_sisi.mk (⟨#[]⟩ : ByteArray) 0 (⟨#[]⟩ : ByteArray) 0)).f1) ≥ 0)) = true, (decide (((getD a0.f0 (Int.toNat a1) (K_sisi.mk (⟨#[]⟩ : ByteArray) 0 (⟨#[]⟩ : ByteArray) 0)).f1) ≥ 0)) = true, (decide (((getD a0.f0 (Int.toNat a1) (K_sisi.mk (⟨#[]⟩ : ByteArray) 0 (⟨#[]⟩ : ByteArray) 0)).f1) ≥ 0)) = true, 0 ≤ i, (map b_sisi a0.f0)[(Int.toNat i)]? = some [(.val (.string ((getD a0.f0 (Int.toNat i) (K_sisi.mk (⟨#[]⟩ : ByteArray) 0 (⟨#[]⟩ : ByteArray) 0)).f0))), (.i ((getD a0.f0 (Int.toNat i) (K_sisi.mk (⟨#[]⟩ : ByteArray) 0 (⟨#[]⟩ : ByteArray) 0)).f1)), (.val (.string ((getD a0.f0 (Int.toNat i) (K_sisi.mk (⟨#[]⟩ : ByteArray) 0 (⟨#[]⟩ : ByteArray) 0)).f2))), (.i ((getD a0.f0 (Int.toNat i) (K_sisi.mk (⟨#[]⟩ : ByteArray) 0 (⟨#[]⟩ : ByteArray) 0)).f3))], (decide (((getD a0.f0 (Int.toNat a1) (K_sisi.mk (⟨#[]⟩ : ByteArray) 0 (⟨#[]⟩ : ByteArray) 0)).f1) ≥ 0)) = true, (decide (((getD a0.f0 (Int.toNat a1) (K_sisi.mk (⟨#[]⟩ : ByteArray) 0 (⟨#[]⟩ : ByteArray) 0)).f1) ≥ 0)) = true, (decide (((getD a0.f0 (Int.toNat a1) (K_sisi.mk (⟨#[]⟩ : ByteArray) 0 (⟨#[]⟩ : ByteArray) 0)).f1) ≥ 0)) = true, (decide (((getD a0.f0 (Int.toNat a1) (K_sisi.mk (⟨#[]⟩ : ByteArray) 0 (⟨#[]⟩ : ByteArray) 0)).f1) ≥ 0)) = true, (decide (((getD a0.f0 (Int.toNat a1) (K_sisi.mk (⟨#[]⟩ : ByteArray) 0 (⟨#[]⟩ : ByteArray) 0)).f1) ≥ 0)) = true, (decide (((getD a0.f0 (Int.toNat a1) (K_sisi.mk (⟨#[]⟩ : ByteArray) 0 (⟨#[]⟩ : ByteArray) 0)).f1) ≥ 0)) = true, (decide (((getD a0.f0 (Int.toNat a1) (K_sisi.mk (⟨#[]⟩ : ByteArray) 0 (⟨#[]⟩ : ByteArray) 0)).f1) ≥ 0)) = true, (decide (((getD a0.f0 (Int.toNat a1) (K_sisi.mk (⟨#[]⟩ : ByteArray) 0 (⟨#[]⟩ : ByteArray) 0)).f1) ≥ 0)) = true, (((getD a0.f0 (Int.toNat i) (K_sisi.mk (⟨#[]⟩ : ByteArray) 0 (⟨#[]⟩ : ByteArray) 0)).f1) == ((getD a0.f0 (Int.toNat a1) (K_sisi.mk (⟨#[]⟩ : ByteArray) 0 (⟨#[]⟩ : ByteArray) 0)).f1)) = false, True]) (by kernel_rfl) ⟨hc, h_1, h_1, h_1, h_1, h_1, h_1, (by with_reducible assumption), (by rw [getElem?_map, getD_at a0.f0 (Int.toNat i) (K_sisi.mk (⟨#[]⟩ : ByteArray) 0 (⟨#[]⟩ : ByteArray) 0) (by first | exact True.intro | with_reducible rfl | with_reducible assumption | omega | (simp only [decide_eq_true_eq, length_map] at *; omega) | (simp only [decide_eq_true_eq] at *; omega) | (simp only [length_map]; omega) | (simp [ol99, ol52_0]; omega) | (simp [take_of_length_le, ol99, ol52_0]; done) | assumption | trivial | (simp [*, ol99, ol52_0, byteRows_eq, ints_y]; done))]; rfl), h_1, h_1, h_1, h_1, h_1, h_1, h_1, h_1, (nt h_2), trivial, trivial⟩
        have ih := t136_0 (l0 := l0) (a0 := a0) (a1 := a1) hy0 hy1 hy2 hy3 n (i + 1)  (by omega) (by omega) (by omega)
        rw [show (⟨[(0, (.bptr l0 [(.sl (map b_sisi a0.f0)), (.i a0.f1)])), (1, (.oi a1)), (5, (.bptr l0 [(.val (.string ((getD a0.f0 (Int.toNat a1) (K_sisi.mk (⟨#[]⟩ : ByteArray) 0 (⟨#[]⟩ : ByteArray) 0)).f0))), (.i ((getD a0.f0 (Int.toNat a1) (K_sisi.mk (⟨#[]⟩ : ByteArray) 0 (⟨#[]⟩ : ByteArray) 0)).f1)), (.val (.string ((getD a0.f0 (Int.toNat a1) (K_sisi.mk (⟨#[]⟩ : ByteArray) 0 (⟨#[]⟩ : ByteArray) 0)).f2))), (.i ((getD a0.f0 (Int.toNat a1) (K_sisi.mk (⟨#[]⟩ : ByteArray) 0 (⟨#[]⟩ : ByteArray) 0)).f3))])), (6, (.oi (IntKind.wrap .i64 (i + 1))))], []⟩ : St) = h136_0 l0 a0 a1 (i + 1)  from (by unfold h136_0; simp only [hw]; done)] at st
        exact .loopN st ih
    · try simp only [if_neg h_1]
      have st := codeH_ok (F := F) (X := X) (c := b136_0) (t := 0) (hs := [(6, .b true), (19, .b false), (21, .b false), (23, .b false), (25, .b false), (27, .b false), (29, .b false), (31, .b false), (33, .b false), (35, .b false), (37, .b false), (39, .b false), (41, .b false), (43, .b false), (46, .b false)]) (σ := h136_0 l0 a0 a1 i ) (σ' := ⟨[(0, (.bptr l0 [(.sl (map b_sisi a0.f0)), (.i a0.f1)])), (1, (.oi a1)), (5, (.bptr l0 [(.val (.string ((getD a0.f0 (Int.toNat a1) (K_sisi.mk (⟨#[]⟩ : ByteArray) 0 (⟨#[]⟩ : ByteArray) 0)).f0))), (.i ((getD a0.f0 (Int.toNat a1) (K_sisi.mk (⟨#[]⟩ : ByteArray) 0 (⟨#[]⟩ : ByteArray) 0)).f1)), (.val (.string ((getD a0.f0 (Int.toNat a1) (K_sisi.mk (⟨#[]⟩ : ByteArray) 0 (⟨#[]⟩ : ByteArray) 0)).f2))), (.i ((getD a0.f0 (Int.toNat a1) (K_sisi.mk (⟨#[]⟩ : ByteArray) 0 (⟨#[]⟩ : ByteArray) 0)).f3))])), (6, (.oi (IntKind.wrap .i64 (i + 1))))], []⟩) (e := .normal) (t' := 54) (hs' := []) (q := [(decide (i < a1)) = true, (decide (((getD a0.f0 (Int.toNat a1) (K_sisi.mk (⟨#[]⟩ : ByteArray) 0 (⟨#[]⟩ : ByteArray) 0)).f1) ≥ 0)) = false, (decide (((getD a0.f0 (Int.toNat a1) (K_sisi.mk (⟨#[]⟩ : ByteArray) 0 (⟨#[]⟩ : ByteArray) 0)).f1) ≥ 0)) = false, (decide (((getD a0.f0 (Int.toNat a1) (K_sisi.mk (⟨#[]⟩ : ByteArray) 0 (⟨#[]⟩ : ByteArray) 0)).f1) ≥ 0)) = false, (decide (((getD a0.f0 (Int.toNat a1) (K_sisi.mk (⟨#[]⟩ : ByteArray) 0 (⟨#[]⟩ : ByteArray) 0)).f1) ≥ 0)) = false, (decide (((getD a0.f0 (Int.toNat a1) (K_sisi.mk (⟨#[]⟩ : ByteArray) 0 (⟨#[]⟩ : ByteArray) 0)).f1) ≥ 0)) = false, (decide (((getD a0.f0 (Int.toNat a1) (K_sisi.mk (⟨#[]⟩ : ByteArray) 0 (⟨#[]⟩ : ByteArray) 0)).f1) ≥ 0)) = false, (decide (((getD a0.f0 (Int.toNat a1) (K_sisi.mk (⟨#[]⟩ : ByteArray) 0 (⟨#[]⟩ : ByteArray) 0)).f1) ≥ 0)) = false, (decide (((getD a0.f0 (Int.toNat a1) (K_sisi.mk (⟨#[]⟩ : ByteArray) 0 (⟨#[]⟩ : ByteArray) 0)).f1) ≥ 0)) = false, (decide (((getD a0.f0 (Int.toNat a1) (K_sisi.mk (⟨#[]⟩ : ByteArray) 0 (⟨#[]⟩ : ByteArray) 0)).f1) ≥ 0)) = false, (decide (((getD a0.f0 (Int.toNat a1) (K_sisi.mk (⟨#[]⟩ : ByteArray) 0 (⟨#[]⟩ : ByteArray) 0)).f1) ≥ 0)) = false, (decide (((getD a0.f0 (Int.toNat a1) (K_sisi.mk (⟨#[]⟩ : ByteArray) 0 (⟨#[]⟩ : ByteArray) 0)).f1) ≥ 0)) = false, (decide (((getD a0.f0 (Int.toNat a1) (K_sisi.mk (⟨#[]⟩ : ByteArray) 0 (⟨#[]⟩ : ByteArray) 0)).f1) ≥ 0)) = false, (decide (((getD a0.f0 (Int.toNat a1) (K_sisi.mk (⟨#[]⟩ : ByteArray) 0 (⟨#[]⟩ : ByteArray) 0)).f1) ≥ 0)) = false, (decide (((getD a0.f0 (Int.toNat a1) (K_sisi.mk (⟨#[]⟩ : ByteArray) 0 (⟨#[]⟩ : ByteArray) 0)).f1) ≥ 0)) = false, True]) (by kernel_rfl) ⟨hc, (nt h_1), (nt h_1), (nt h_1), (nt h_1), (nt h_1), (nt h_1), (nt h_1), (nt h_1), (nt h_1), (nt h_1), (nt h_1), (nt h_1), (nt h_1), (nt h_1), trivial, trivial⟩
      have ih := t136_0 (l0 := l0) (a0 := a0) (a1 := a1) hy0 hy1 hy2 hy3 n (i + 1)  (by omega) (by omega) (by omega)
      rw [show (⟨[(0, (.bptr l0 [(.sl (map b_sisi a0.f0)), (.i a0.f1)])), (1, (.oi a1)), (5, (.bptr l0 [(.val (.string ((getD a0.f0 (Int.toNat a1) (K_sisi.mk (⟨#[]⟩ : ByteArray) 0 (⟨#[]⟩ : ByteArray) 0)).f0))), (.i ((getD a0.f0 (Int.toNat a1) (K_sisi.mk (⟨#[]⟩ : ByteArray) 0 (⟨#[]⟩ : ByteArray) 0)).f1)), (.val (.string ((getD a0.f0 (Int.toNat a1) (K_sisi.mk (⟨#[]⟩ : ByteArray) 0 (⟨#[]⟩ : ByteArray) 0)).f2))), (.i ((getD a0.f0 (Int.toNat a1) (K_sisi.mk (⟨#[]⟩ : ByteArray) 0 (⟨#[]⟩ : ByteArray) 0)).f3))])), (6, (.oi (IntKind.wrap .i64 (i + 1))))], []⟩ : St) = h136_0 l0 a0 a1 (i + 1)  from (by unfold h136_0; simp only [hw]; done)] at st
      exact .loopN st ih
/-! loop.example/g00539/spec.l10One -/
def m136 (a0 : K_LsisiEi) (a1 : Int) : Int :=
  if (!(m154 ((getD a0.f0 (Int.toNat a1) (K_sisi.mk (⟨#[]⟩ : ByteArray) 0 (⟨#[]⟩ : ByteArray) 0)).f0))) = true then 5 else
  if (!(m114 ((getD a0.f0 (Int.toNat a1) (K_sisi.mk (⟨#[]⟩ : ByteArray) 0 (⟨#[]⟩ : ByteArray) 0)).f2))) = true then 5 else
    if (!(m113 ((getD a0.f0 (Int.toNat a1) (K_sisi.mk (⟨#[]⟩ : ByteArray) 0 (⟨#[]⟩ : ByteArray) 0)).f1) (-1) 998)) = true then 3 else
      if (!(m113 ((getD a0.f0 (Int.toNat a1) (K_sisi.mk (⟨#[]⟩ : ByteArray) 0 (⟨#[]⟩ : ByteArray) 0)).f3) 1 9999)) = true then 3 else
        if (!(((getD a0.f0 (Int.toNat a1) (K_sisi.mk (⟨#[]⟩ : ByteArray) 0 (⟨#[]⟩ : ByteArray) 0)).f2).toList == (⟨#[]⟩ : ByteArray).toList)) = true then (if (decide (((getD a0.f0 (Int.toNat a1) (K_sisi.mk (⟨#[]⟩ : ByteArray) 0 (⟨#[]⟩ : ByteArray) 0)).f1) < 0)) = true then 1 else
            (match r136_0 a0 a1 (Int.toNat a1) 0 with | .k0 w0_28 w1_28 => 0 | .k1 => 6)) else
          (match r136_0 a0 a1 (Int.toNat a1) 0 with | .k0 w0_27 w1_27 => 0 | .k1 => 6)
theorem e136 {l0 : Nat} {a0 : K_LsisiEi} {a1 : Int} (hy0 : 0 ≤ a1) (hy1 : a1 < length a0.f0) (hy2 : length a0.f0 * 48 ≤ 140737488351232) (hy3 : ∀ z ∈ a0.f0, os_sisi z) : Ev F X (.call 136 [(.bptr l0 [(.sl (map b_sisi a0.f0)), (.val (.int .i64 a0.f1))]), (.one (.val (.int .i64 a1)))] [] [] [(.one (.val (.int .i64 (m136 a0 a1))))]) := by
  unfold m136
  have f0 : 0 ≤ a1 := (by with_reducible assumption)
  have f1 : (map b_sisi a0.f0)[(Int.toNat a1)]? = some [(.val (.string ((getD a0.f0 (Int.toNat a1) (K_sisi.mk (⟨#[]⟩ : ByteArray) 0 (⟨#[]⟩ : ByteArray) 0)).f0))), (.val (.int .i64 ((getD a0.f0 (Int.toNat a1) (K_sisi.mk (⟨#[]⟩ : ByteArray) 0 (⟨#[]⟩ : ByteArray) 0)).f1))), (.val (.string ((getD a0.f0 (Int.toNat a1) (K_sisi.mk (⟨#[]⟩ : ByteArray) 0 (⟨#[]⟩ : ByteArray) 0)).f2))), (.val (.int .i64 ((getD a0.f0 (Int.toNat a1) (K_sisi.mk (⟨#[]⟩ : ByteArray) 0 (⟨#[]⟩ : ByteArray) 0)).f3)))] := (by rw [getElem?_map, getD_at a0.f0 (Int.toNat a1) (K_sisi.mk (⟨#[]⟩ : ByteArray) 0 (⟨#[]⟩ : ByteArray) 0) (by first | exact True.intro | with_reducible rfl | with_reducible assumption | omega | (simp only [decide_eq_true_eq, length_map] at *; omega) | (simp only [decide_eq_true_eq] at *; omega) | (simp only [length_map]; omega) | (simp [ol99, ol52_0]; omega) | (simp [take_of_length_le, ol99, ol52_0]; done) | assumption | trivial | (simp [*, ol99, ol52_0, byteRows_eq, ints_y]; done))]; rfl)
  have f2 : Ev F X (.call 154 [(.one (.val (.string ((getD a0.f0 (Int.toNat a1) (K_sisi.mk (⟨#[]⟩ : ByteArray) 0 (⟨#[]⟩ : ByteArray) 0)).f0))))] [] [] [(.one (.val (.bool (m154 ((getD a0.f0 (Int.toNat a1) (K_sisi.mk (⟨#[]⟩ : ByteArray) 0 (⟨#[]⟩ : ByteArray) 0)).f0)))))]) := (e154 (a0 := ((getD a0.f0 (Int.toNat a1) (K_sisi.mk (⟨#[]⟩ : ByteArray) 0 (⟨#[]⟩ : ByteArray) 0)).f0)) (by have q := gos_sisi (l := a0.f0) (by first | assumption | (intro z hz; exact (by assumption : ∀ z ∈ _, os_sisi z) z (List.mem_of_mem_take hz))) (Int.toNat a1) (K_sisi.mk (⟨#[]⟩ : ByteArray) 0 (⟨#[]⟩ : ByteArray) 0) (by simp [os_sisi, ByteArray.size]); first | exact q | exact q.1 | exact q.2 | exact q.2.1 | exact q.2.2 | exact Nat.le_trans q (by decide) | exact Nat.le_trans q.1 (by decide) | (have q1 := q.1; simp only [length_map]; omega)))
  by_cases h0 : (!(m154 ((getD a0.f0 (Int.toNat a1) (K_sisi.mk (⟨#[]⟩ : ByteArray) 0 (⟨#[]⟩ : ByteArray) 0)).f0))) = true
  · try simp only [if_pos h0]
    exact callP_ok (ps := []) (os := []) (rs := [(.oi 5)]) (by kernel_rfl) (.f f0 (.f f1 (.h 13 (.row [(.val (.string ((getD a0.f0 (Int.toNat a1) (K_sisi.mk (⟨#[]⟩ : ByteArray) 0 (⟨#[]⟩ : ByteArray) 0)).f0))), (.i ((getD a0.f0 (Int.toNat a1) (K_sisi.mk (⟨#[]⟩ : ByteArray) 0 (⟨#[]⟩ : ByteArray) 0)).f1)), (.val (.string ((getD a0.f0 (Int.toNat a1) (K_sisi.mk (⟨#[]⟩ : ByteArray) 0 (⟨#[]⟩ : ByteArray) 0)).f2))), (.i ((getD a0.f0 (Int.toNat a1) (K_sisi.mk (⟨#[]⟩ : ByteArray) 0 (⟨#[]⟩ : ByteArray) 0)).f3))]) (.r 25 [] [] f2 (.f h0 (.f h0 (.f h0 (.f h0 (.f h0 (.f h0 (.f h0 (.h 30 (.b true) (.h 32 (.b true) (.h 34 (.b true) (.h 36 (.b true) (.h 38 (.b true) (.h 40 (.b true) (.h 43 (.b true) .nil))))))))))))))))))
  · try simp only [if_neg h0]
    have f8 : Ev F X (.call 114 [(.one (.val (.string ((getD a0.f0 (Int.toNat a1) (K_sisi.mk (⟨#[]⟩ : ByteArray) 0 (⟨#[]⟩ : ByteArray) 0)).f2))))] [] [] [(.one (.val (.bool (m114 ((getD a0.f0 (Int.toNat a1) (K_sisi.mk (⟨#[]⟩ : ByteArray) 0 (⟨#[]⟩ : ByteArray) 0)).f2)))))]) := (e114 (a0 := ((getD a0.f0 (Int.toNat a1) (K_sisi.mk (⟨#[]⟩ : ByteArray) 0 (⟨#[]⟩ : ByteArray) 0)).f2)) (by have q := gos_sisi (l := a0.f0) (by first | assumption | (intro z hz; exact (by assumption : ∀ z ∈ _, os_sisi z) z (List.mem_of_mem_take hz))) (Int.toNat a1) (K_sisi.mk (⟨#[]⟩ : ByteArray) 0 (⟨#[]⟩ : ByteArray) 0) (by simp [os_sisi, ByteArray.size]); first | exact q | exact q.1 | exact q.2 | exact q.2.1 | exact q.2.2 | exact Nat.le_trans q (by decide) | exact Nat.le_trans q.1 (by decide) | (have q1 := q.1; simp only [length_map]; omega)))
    by_cases h1 : (!(m114 ((getD a0.f0 (Int.toNat a1) (K_sisi.mk (⟨#[]⟩ : ByteArray) 0 (⟨#[]⟩ : ByteArray) 0)).f2))) = true
    · try simp only [if_pos h1]
      exact callP_ok (ps := []) (os := []) (rs := [(.oi 5)]) (by kernel_rfl) (.f f0 (.f f1 (.h 13 (.row [(.val (.string ((getD a0.f0 (Int.toNat a1) (K_sisi.mk (⟨#[]⟩ : ByteArray) 0 (⟨#[]⟩ : ByteArray) 0)).f0))), (.i ((getD a0.f0 (Int.toNat a1) (K_sisi.mk (⟨#[]⟩ : ByteArray) 0 (⟨#[]⟩ : ByteArray) 0)).f1)), (.val (.string ((getD a0.f0 (Int.toNat a1) (K_sisi.mk (⟨#[]⟩ : ByteArray) 0 (⟨#[]⟩ : ByteArray) 0)).f2))), (.i ((getD a0.f0 (Int.toNat a1) (K_sisi.mk (⟨#[]⟩ : ByteArray) 0 (⟨#[]⟩ : ByteArray) 0)).f3))]) (.r 25 [] [] f2 (.f (nt h0) (.f (nt h0) (.f (nt h0) (.f (nt h0) (.f (nt h0) (.h 30 (.b false) (.h 32 (.b false) (.h 34 (.b false) (.h 36 (.b false) (.h 38 (.b false) (.r 39 [] [] f8 (.f (nt h0) (.f (nt h0) (.f h1 (.h 40 (.b false) (.h 43 (.b false) (.h 44 (.b true) .nil)))))))))))))))))))))
    · try simp only [if_neg h1]
      have f12 : Ev F X (.call 113 [(.oi ((getD a0.f0 (Int.toNat a1) (K_sisi.mk (⟨#[]⟩ : ByteArray) 0 (⟨#[]⟩ : ByteArray) 0)).f1)), (.oi (-1)), (.oi 998)] [] [] [(.one (.val (.bool (m113 ((getD a0.f0 (Int.toNat a1) (K_sisi.mk (⟨#[]⟩ : ByteArray) 0 (⟨#[]⟩ : ByteArray) 0)).f1) (-1) 998))))]) := (e113 (a0 := ((getD a0.f0 (Int.toNat a1) (K_sisi.mk (⟨#[]⟩ : ByteArray) 0 (⟨#[]⟩ : ByteArray) 0)).f1)) (a1 := (-1)) (a2 := 998))
      by_cases h2 : (!(m113 ((getD a0.f0 (Int.toNat a1) (K_sisi.mk (⟨#[]⟩ : ByteArray) 0 (⟨#[]⟩ : ByteArray) 0)).f1) (-1) 998)) = true
      · try simp only [if_pos h2]
        exact callP_ok (ps := []) (os := []) (rs := [(.oi 3)]) (by kernel_rfl) (.f f0 (.f f1 (.h 13 (.row [(.val (.string ((getD a0.f0 (Int.toNat a1) (K_sisi.mk (⟨#[]⟩ : ByteArray) 0 (⟨#[]⟩ : ByteArray) 0)).f0))), (.i ((getD a0.f0 (Int.toNat a1) (K_sisi.mk (⟨#[]⟩ : ByteArray) 0 (⟨#[]⟩ : ByteArray) 0)).f1)), (.val (.string ((getD a0.f0 (Int.toNat a1) (K_sisi.mk (⟨#[]⟩ : ByteArray) 0 (⟨#[]⟩ : ByteArray) 0)).f2))), (.i ((getD a0.f0 (Int.toNat a1) (K_sisi.mk (⟨#[]⟩ : ByteArray) 0 (⟨#[]⟩ : ByteArray) 0)).f3))]) (.r 25 [] [] f2 (.f (nt h0) (.f (nt h0) (.f (nt h0) (.f (nt h0) (.f (nt h0) (.h 30 (.b false) (.h 32 (.b false) (.h 34 (.b false) (.h 36 (.b false) (.h 38 (.b false) (.r 39 [] [] f8 (.f (nt h0) (.f (nt h0) (.f (nt h1) (.h 40 (.b false) (.h 43 (.b false) (.h 44 (.b false) (.r 54 [] [] f12 (.f h2 (.f h2 (.f h2 (.f h2 (.f h2 (.f h2 (.f h2 (.h 59 (.b true) (.h 61 (.b true) (.h 63 (.b true) (.h 65 (.b true) (.h 67 (.b true) (.h 69 (.b true) (.h 72 (.b true) .nil))))))))))))))))))))))))))))))))))))
      · try simp only [if_neg h2]
        have f18 : Ev F X (.call 113 [(.oi ((getD a0.f0 (Int.toNat a1) (K_sisi.mk (⟨#[]⟩ : ByteArray) 0 (⟨#[]⟩ : ByteArray) 0)).f3)), (.oi 1), (.oi 9999)] [] [] [(.one (.val (.bool (m113 ((getD a0.f0 (Int.toNat a1) (K_sisi.mk (⟨#[]⟩ : ByteArray) 0 (⟨#[]⟩ : ByteArray) 0)).f3) 1 9999))))]) := (e113 (a0 := ((getD a0.f0 (Int.toNat a1) (K_sisi.mk (⟨#[]⟩ : ByteArray) 0 (⟨#[]⟩ : ByteArray) 0)).f3)) (a1 := 1) (a2 := 9999))
        by_cases h3 : (!(m113 ((getD a0.f0 (Int.toNat a1) (K_sisi.mk (⟨#[]⟩ : ByteArray) 0 (⟨#[]⟩ : ByteArray) 0)).f3) 1 9999)) = true
        · try simp only [if_pos h3]
          exact callP_ok (ps := []) (os := []) (rs := [(.oi 3)]) (by kernel_rfl) (.f f0 (.f f1 (.h 13 (.row [(.val (.string ((getD a0.f0 (Int.toNat a1) (K_sisi.mk (⟨#[]⟩ : ByteArray) 0 (⟨#[]⟩ : ByteArray) 0)).f0))), (.i ((getD a0.f0 (Int.toNat a1) (K_sisi.mk (⟨#[]⟩ : ByteArray) 0 (⟨#[]⟩ : ByteArray) 0)).f1)), (.val (.string ((getD a0.f0 (Int.toNat a1) (K_sisi.mk (⟨#[]⟩ : ByteArray) 0 (⟨#[]⟩ : ByteArray) 0)).f2))), (.i ((getD a0.f0 (Int.toNat a1) (K_sisi.mk (⟨#[]⟩ : ByteArray) 0 (⟨#[]⟩ : ByteArray) 0)).f3))]) (.r 25 [] [] f2 (.f (nt h0) (.f (nt h0) (.f (nt h0) (.f (nt h0) (.f (nt h0) (.h 30 (.b false) (.h 32 (.b false) (.h 34 (.b false) (.h 36 (.b false) (.h 38 (.b false) (.r 39 [] [] f8 (.f (nt h0) (.f (nt h0) (.f (nt h1) (.h 40 (.b false) (.h 43 (.b false) (.h 44 (.b false) (.r 54 [] [] f12 (.f (nt h2) (.f (nt h2) (.f (nt h2) (.f (nt h2) (.f (nt h2) (.h 59 (.b false) (.h 61 (.b false) (.h 63 (.b false) (.h 65 (.b false) (.h 67 (.b false) (.r 68 [] [] f18 (.f (nt h2) (.f (nt h2) (.f h3 (.h 69 (.b false) (.h 72 (.b false) (.h 73 (.b true) .nil)))))))))))))))))))))))))))))))))))))))
        · try simp only [if_neg h3]
          by_cases h4 : (!(((getD a0.f0 (Int.toNat a1) (K_sisi.mk (⟨#[]⟩ : ByteArray) 0 (⟨#[]⟩ : ByteArray) 0)).f2).toList == (⟨#[]⟩ : ByteArray).toList)) = true
          · try simp only [if_pos h4]
            by_cases h5 : (decide (((getD a0.f0 (Int.toNat a1) (K_sisi.mk (⟨#[]⟩ : ByteArray) 0 (⟨#[]⟩ : ByteArray) 0)).f1) < 0)) = true
            · try simp only [if_pos h5]
              exact callP_ok (ps := []) (os := []) (rs := [(.oi 1)]) (by kernel_rfl) (.f f0 (.f f1 (.h 13 (.row [(.val (.string ((getD a0.f0 (Int.toNat a1) (K_sisi.mk (⟨#[]⟩ : ByteArray) 0 (⟨#[]⟩ : ByteArray) 0)).f0))), (.i ((getD a0.f0 (Int.toNat a1) (K_sisi.mk (⟨#[]⟩ : ByteArray) 0 (⟨#[]⟩ : ByteArray) 0)).f1)), (.val (.string ((getD a0.f0 (Int.toNat a1) (K_sisi.mk (⟨#[]⟩ : ByteArray) 0 (⟨#[]⟩ : ByteArray) 0)).f2))), (.i ((getD a0.f0 (Int.toNat a1) (K_sisi.mk (⟨#[]⟩ : ByteArray) 0 (⟨#[]⟩ : ByteArray) 0)).f3))]) (.r 25 [] [] f2 (.f (nt h0) (.f (nt h0) (.f (nt h0) (.f (nt h0) (.f (nt h0) (.h 30 (.b false) (.h 32 (.b false) (.h 34 (.b false) (.h 36 (.b false) (.h 38 (.b false) (.r 39 [] [] f8 (.f (nt h0) (.f (nt h0) (.f (nt h1) (.h 40 (.b false) (.h 43 (.b false) (.h 44 (.b false) (.r 54 [] [] f12 (.f (nt h2) (.f (nt h2) (.f (nt h2) (.f (nt h2) (.f (nt h2) (.h 59 (.b false) (.h 61 (.b false) (.h 63 (.b false) (.h 65 (.b false) (.h 67 (.b false) (.r 68 [] [] f18 (.f (nt h2) (.f (nt h2) (.f (nt h3) (.f h4 (.f h4 (.f h4 (.f h4 (.f h4 (.f h4 (.f h5 (.h 69 (.b false) (.h 72 (.b false) (.h 73 (.b false) (.h 86 (.b true) (.h 88 (.b true) (.h 90 (.b true) (.h 92 (.b true) (.h 94 (.b true) (.h 97 (.b true) (.h 98 (.b true) .nil)))))))))))))))))))))))))))))))))))))))))))))))))))))
            · try simp only [if_neg h5]
              cases h6 : r136_0 a0 a1 (Int.toNat a1) 0 with
              | k0 w0_28 w1_28 =>
                try dsimp only
                have f29 : (⟨[(0, (.bptr l0 [(.sl (map b_sisi a0.f0)), (.i a0.f1)])), (1, (.oi a1)), (5, (.bptr l0 [(.val (.string ((getD a0.f0 (Int.toNat a1) (K_sisi.mk (⟨#[]⟩ : ByteArray) 0 (⟨#[]⟩ : ByteArray) 0)).f0))), (.i ((getD a0.f0 (Int.toNat a1) (K_sisi.mk (⟨#[]⟩ : ByteArray) 0 (⟨#[]⟩ : ByteArray) 0)).f1)), (.val (.string ((getD a0.f0 (Int.toNat a1) (K_sisi.mk (⟨#[]⟩ : ByteArray) 0 (⟨#[]⟩ : ByteArray) 0)).f2))), (.i ((getD a0.f0 (Int.toNat a1) (K_sisi.mk (⟨#[]⟩ : ByteArray) 0 (⟨#[]⟩ : ByteArray) 0)).f3))])), (6, (.oi 0))], []⟩ : St) = h136_0 l0 a0 a1 0  := (by rfl)
                have f30 : Ev F X (.code l136_0 (h136_0 l0 a0 a1 0 ) (.exit 0) ⟨[(0, (.bptr l0 [(.sl (map b_sisi a0.f0)), (.i a0.f1)])), (1, (.oi a1)), (5, (.bptr l0 [(.val (.string ((getD a0.f0 (Int.toNat a1) (K_sisi.mk (⟨#[]⟩ : ByteArray) 0 (⟨#[]⟩ : ByteArray) 0)).f0))), (.i ((getD a0.f0 (Int.toNat a1) (K_sisi.mk (⟨#[]⟩ : ByteArray) 0 (⟨#[]⟩ : ByteArray) 0)).f1)), (.val (.string ((getD a0.f0 (Int.toNat a1) (K_sisi.mk (⟨#[]⟩ : ByteArray) 0 (⟨#[]⟩ : ByteArray) 0)).f2))), (.i ((getD a0.f0 (Int.toNat a1) (K_sisi.mk (⟨#[]⟩ : ByteArray) 0 (⟨#[]⟩ : ByteArray) 0)).f3))])), (6, (.oi w0_28)), (55, (.one (.val (.bool w1_28))))], []⟩) := (by have t : Ev F X (.code l136_0 (h136_0 l0 a0 a1 0 ) (ex136_0 (r136_0 a0 a1 (Int.toNat a1) 0)) (fin136_0 l0 a0 a1 (r136_0 a0 a1 (Int.toNat a1) 0))) := t136_0 (l0 := l0) (a0 := a0) (a1 := a1) (by assumption) (by assumption) (by assumption) (by assumption) _ 0  (by omega) (by omega) (by omega); rw [h6] at t; exact t)
                exact callP_ok (ps := []) (os := []) (rs := [(.oi 0)]) (by kernel_rfl) (.f f0 (.f f1 (.h 13 (.row [(.val (.string ((getD a0.f0 (Int.toNat a1) (K_sisi.mk (⟨#[]⟩ : ByteArray) 0 (⟨#[]⟩ : ByteArray) 0)).f0))), (.i ((getD a0.f0 (Int.toNat a1) (K_sisi.mk (⟨#[]⟩ : ByteArray) 0 (⟨#[]⟩ : ByteArray) 0)).f1)), (.val (.string ((getD a0.f0 (Int.toNat a1) (K_sisi.mk (⟨#[]⟩ : ByteArray) 0 (⟨#[]⟩ : ByteArray) 0)).f2))), (.i ((getD a0.f0 (Int.toNat a1) (K_sisi.mk (⟨#[]⟩ : ByteArray) 0 (⟨#[]⟩ : ByteArray) 0)).f3))]) (.r 25 [] [] f2 (.f (nt h0) (.f (nt h0) (.f (nt h0) (.f (nt h0) (.f (nt h0) (.h 30 (.b false) (.h 32 (.b false) (.h 34 (.b false) (.h 36 (.b false) (.h 38 (.b false) (.r 39 [] [] f8 (.f (nt h0) (.f (nt h0) (.f (nt h1) (.h 40 (.b false) (.h 43 (.b false) (.h 44 (.b false) (.r 54 [] [] f12 (.f (nt h2) (.f (nt h2) (.f (nt h2) (.f (nt h2) (.f (nt h2) (.h 59 (.b false) (.h 61 (.b false) (.h 63 (.b false) (.h 65 (.b false) (.h 67 (.b false) (.r 68 [] [] f18 (.f (nt h2) (.f (nt h2) (.f (nt h3) (.f h4 (.f h4 (.f h4 (.f h4 (.f h4 (.f h4 (.f (nt h5) (.f f29 (.f f30 (.h 69 (.b false) (.h 72 (.b false) (.h 73 (.b false) (.h 86 (.b true) (.h 88 (.b true) (.h 90 (.b true) (.h 92 (.b true) (.h 94 (.b true) (.h 97 (.b true) (.h 98 (.b false) (.h 101 (.loop (h136_0 l0 a0 a1 0 ) (.exit 0) ⟨[(0, (.bptr l0 [(.sl (map b_sisi a0.f0)), (.i a0.f1)])), (1, (.oi a1)), (5, (.bptr l0 [(.val (.string ((getD a0.f0 (Int.toNat a1) (K_sisi.mk (⟨#[]⟩ : ByteArray) 0 (⟨#[]⟩ : ByteArray) 0)).f0))), (.i ((getD a0.f0 (Int.toNat a1) (K_sisi.mk (⟨#[]⟩ : ByteArray) 0 (⟨#[]⟩ : ByteArray) 0)).f1)), (.val (.string ((getD a0.f0 (Int.toNat a1) (K_sisi.mk (⟨#[]⟩ : ByteArray) 0 (⟨#[]⟩ : ByteArray) 0)).f2))), (.i ((getD a0.f0 (Int.toNat a1) (K_sisi.mk (⟨#[]⟩ : ByteArray) 0 (⟨#[]⟩ : ByteArray) 0)).f3))])), (6, (.oi w0_28)), (55, (.one (.val (.bool w1_28))))], []⟩) .nil))))))))))))))))))))))))))))))))))))))))))))))))))))))))
              | k1 =>
                try dsimp only
                have f29 : (⟨[(0, (.bptr l0 [(.sl (map b_sisi a0.f0)), (.i a0.f1)])), (1, (.oi a1)), (5, (.bptr l0 [(.val (.string ((getD a0.f0 (Int.toNat a1) (K_sisi.mk (⟨#[]⟩ : ByteArray) 0 (⟨#[]⟩ : ByteArray) 0)).f0))), (.i ((getD a0.f0 (Int.toNat a1) (K_sisi.mk (⟨#[]⟩ : ByteArray) 0 (⟨#[]⟩ : ByteArray) 0)).f1)), (.val (.string ((getD a0.f0 (Int.toNat a1) (K_sisi.mk (⟨#[]⟩ : ByteArray) 0 (⟨#[]⟩ : ByteArray) 0)).f2))), (.i ((getD a0.f0 (Int.toNat a1) (K_sisi.mk (⟨#[]⟩ : ByteArray) 0 (⟨#[]⟩ : ByteArray) 0)).f3))])), (6, (.oi 0))], []⟩ : St) = h136_0 l0 a0 a1 0  := (by rfl)
                have f30 : Ev F X (.code l136_0 (h136_0 l0 a0 a1 0 ) .ret ⟨[(4, (.oi 6))], []⟩) := (by have t : Ev F X (.code l136_0 (h136_0 l0 a0 a1 0 ) (ex136_0 (r136_0 a0 a1 (Int.toNat a1) 0)) (fin136_0 l0 a0 a1 (r136_0 a0 a1 (Int.toNat a1) 0))) := t136_0 (l0 := l0) (a0 := a0) (a1 := a1) (by assumption) (by assumption) (by assumption) (by assumption) _ 0  (by omega) (by omega) (by omega); rw [h6] at t; exact t)
                exact callP_ok (ps := []) (os := []) (rs := [(.oi 6)]) (by kernel_rfl) (.f f0 (.f f1 (.h 13 (.row [(.val (.string ((getD a0.f0 (Int.toNat a1) (K_sisi.mk (⟨#[]⟩ : ByteArray) 0 (⟨#[]⟩ : ByteArray) 0)).f0))), (.i ((getD a0.f0 (Int.toNat a1) (K_sisi.mk (⟨#[]⟩ : ByteArray) 0 (⟨#[]⟩ : ByteArray) 0)).f1)), (.val (.string ((getD a0.f0 (Int.toNat a1) (K_sisi.mk (⟨#[]⟩ : ByteArray) 0 (⟨#[]⟩ : ByteArray) 0)).f2))), (.i ((getD a0.f0 (Int.toNat a1) (K_sisi.mk (⟨#[]⟩ : ByteArray) 0 (⟨#[]⟩ : ByteArray) 0)).f3))]) (.r 25 [] [] f2 (.f (nt h0) (.f (nt h0) (.f (nt h0) (.f (nt h0) (.f (nt h0) (.h 30 (.b false) (.h 32 (.b false) (.h 34 (.b false) (.h 36 (.b false) (.h 38 (.b false) (.r 39 [] [] f8 (.f (nt h0) (.f (nt h0) (.f (nt h1) (.h 40 (.b false) (.h 43 (.b false) (.h 44 (.b false) (.r 54 [] [] f12 (.f (nt h2) (.f (nt h2) (.f (nt h2) (.f (nt h2) (.f (nt h2) (.h 59 (.b false) (.h 61 (.b false) (.h 63 (.b false) (.h 65 (.b false) (.h 67 (.b false) (.r 68 [] [] f18 (.f (nt h2) (.f (nt h2) (.f (nt h3) (.f h4 (.f h4 (.f h4 (.f h4 (.f h4 (.f h4 (.f (nt h5) (.f f29 (.f f30 (.h 69 (.b false) (.h 72 (.b false) (.h 73 (.b false) (.h 86 (.b true) (.h 88 (.b true) (.h 90 (.b true) (.h 92 (.b true) (.h 94 (.b true) (.h 97 (.b true) (.h 98 (.b false) (.h 101 (.loop (h136_0 l0 a0 a1 0 ) .ret ⟨[(4, (.oi 6))], []⟩) .nil))))))))))))))))))))))))))))))))))))))))))))))))))))))))
          · try simp only [if_neg h4]
            cases h5 : r136_0 a0 a1 (Int.toNat a1) 0 with
            | k0 w0_27 w1_27 =>
              try dsimp only
              have f28 : (⟨[(0, (.bptr l0 [(.sl (map b_sisi a0.f0)), (.i a0.f1)])), (1, (.oi a1)), (5, (.bptr l0 [(.val (.string ((getD a0.f0 (Int.toNat a1) (K_sisi.mk (⟨#[]⟩ : ByteArray) 0 (⟨#[]⟩ : ByteArray) 0)).f0))), (.i ((getD a0.f0 (Int.toNat a1) (K_sisi.mk (⟨#[]⟩ : ByteArray) 0 (⟨#[]⟩ : ByteArray) 0)).f1)), (.val (.string ((getD a0.f0 (Int.toNat a1) (K_sisi.mk (⟨#[]⟩ : ByteArray) 0 (⟨#[]⟩ : ByteArray) 0)).f2))), (.i ((getD a0.f0 (Int.toNat a1) (K_sisi.mk (⟨#[]⟩ : ByteArray) 0 (⟨#[]⟩ : ByteArray) 0)).f3))])), (6, (.oi 0))], []⟩ : St) = h136_0 l0 a0 a1 0  := (by rfl)
              have f29 : Ev F X (.code l136_0 (h136_0 l0 a0 a1 0 ) (.exit 0) ⟨[(0, (.bptr l0 [(.sl (map b_sisi a0.f0)), (.i a0.f1)])), (1, (.oi a1)), (5, (.bptr l0 [(.val (.string ((getD a0.f0 (Int.toNat a1) (K_sisi.mk (⟨#[]⟩ : ByteArray) 0 (⟨#[]⟩ : ByteArray) 0)).f0))), (.i ((getD a0.f0 (Int.toNat a1) (K_sisi.mk (⟨#[]⟩ : ByteArray) 0 (⟨#[]⟩ : ByteArray) 0)).f1)), (.val (.string ((getD a0.f0 (Int.toNat a1) (K_sisi.mk (⟨#[]⟩ : ByteArray) 0 (⟨#[]⟩ : ByteArray) 0)).f2))), (.i ((getD a0.f0 (Int.toNat a1) (K_sisi.mk (⟨#[]⟩ : ByteArray) 0 (⟨#[]⟩ : ByteArray) 0)).f3))])), (6, (.oi w0_27)), (55, (.one (.val (.bool w1_27))))], []⟩) := (by have t : Ev F X (.code l136_0 (h136_0 l0 a0 a1 0 ) (ex136_0 (r136_0 a0 a1 (Int.toNat a1) 0)) (fin136_0 l0 a0 a1 (r136_0 a0 a1 (Int.toNat a1) 0))) := t136_0 (l0 := l0) (a0 := a0) (a1 := a1) (by assumption) (by assumption) (by assumption) (by assumption) _ 0  (by omega) (by omega) (by omega); rw [h5] at t; exact t)
              exact callP_ok (ps := []) (os := []) (rs := [(.oi 0)]) (by kernel_rfl) (.f f0 (.f f1 (.h 13 (.row [(.val (.string ((getD a0.f0 (Int.toNat a1) (K_sisi.mk (⟨#[]⟩ : ByteArray) 0 (⟨#[]⟩ : ByteArray) 0)).f0))), (.i ((getD a0.f0 (Int.toNat a1) (K_sisi.mk (⟨#[]⟩ : ByteArray) 0 (⟨#[]⟩ : ByteArray) 0)).f1)), (.val (.string ((getD a0.f0 (Int.toNat a1) (K_sisi.mk (⟨#[]⟩ : ByteArray) 0 (⟨#[]⟩ : ByteArray) 0)).f2))), (.i ((getD a0.f0 (Int.toNat a1) (K_sisi.mk (⟨#[]⟩ : ByteArray) 0 (⟨#[]⟩ : ByteArray) 0)).f3))]) (.r 25 [] [] f2 (.f (nt h0) (.f (nt h0) (.f (nt h0) (.f (nt h0) (.f (nt h0) (.h 30 (.b false) (.h 32 (.b false) (.h 34 (.b false) (.h 36 (.b false) (.h 38 (.b false) (.r 39 [] [] f8 (.f (nt h0) (.f (nt h0) (.f (nt h1) (.h 40 (.b false) (.h 43 (.b false) (.h 44 (.b false) (.r 54 [] [] f12 (.f (nt h2) (.f (nt h2) (.f (nt h2) (.f (nt h2) (.f (nt h2) (.h 59 (.b false) (.h 61 (.b false) (.h 63 (.b false) (.h 65 (.b false) (.h 67 (.b false) (.r 68 [] [] f18 (.f (nt h2) (.f (nt h2) (.f (nt h3) (.f (nt h4) (.f (nt h4) (.f (nt h4) (.f (nt h4) (.f (nt h4) (.f (nt h4) (.f f28 (.f f29 (.h 69 (.b false) (.h 72 (.b false) (.h 73 (.b false) (.h 86 (.b false) (.h 88 (.b false) (.h 90 (.b false) (.h 92 (.b false) (.h 94 (.b false) (.h 97 (.b false) (.h 101 (.loop (h136_0 l0 a0 a1 0 ) (.exit 0) ⟨[(0, (.bptr l0 [(.sl (map b_sisi a0.f0)), (.i a0.f1)])), (1, (.oi a1)), (5, (.bptr l0 [(.val (.string ((getD a0.f0 (Int.toNat a1) (K_sisi.mk (⟨#[]⟩ : ByteArray) 0 (⟨#[]⟩ : ByteArray) 0)).f0))), (.i ((getD a0.f0 (Int.toNat a1) (K_sisi.mk (⟨#[]⟩ : ByteArray) 0 (⟨#[]⟩ : ByteArray) 0)).f1)), (.val (.string ((getD a0.f0 (Int.toNat a1) (K_sisi.mk (⟨#[]⟩ : ByteArray) 0 (⟨#[]⟩ : ByteArray) 0)).f2))), (.i ((getD a0.f0 (Int.toNat a1) (K_sisi.mk (⟨#[]⟩ : ByteArray) 0 (⟨#[]⟩ : ByteArray) 0)).f3))])), (6, (.oi w0_27)), (55, (.one (.val (.bool w1_27))))], []⟩) .nil))))))))))))))))))))))))))))))))))))))))))))))))))))))
            | k1 =>
              try dsimp only
              have f28 : (⟨[(0, (.bptr l0 [(.sl (map b_sisi a0.f0)), (.i a0.f1)])), (1, (.oi a1)), (5, (.bptr l0 [(.val (.string ((getD a0.f0 (Int.toNat a1) (K_sisi.mk (⟨#[]⟩ : ByteArray) 0 (⟨#[]⟩ : ByteArray) 0)).f0))), (.i ((getD a0.f0 (Int.toNat a1) (K_sisi.mk (⟨#[]⟩ : ByteArray) 0 (⟨#[]⟩ : ByteArray) 0)).f1)), (.val (.string ((getD a0.f0 (Int.toNat a1) (K_sisi.mk (⟨#[]⟩ : ByteArray) 0 (⟨#[]⟩ : ByteArray) 0)).f2))), (.i ((getD a0.f0 (Int.toNat a1) (K_sisi.mk (⟨#[]⟩ : ByteArray) 0 (⟨#[]⟩ : ByteArray) 0)).f3))])), (6, (.oi 0))], []⟩ : St) = h136_0 l0 a0 a1 0  := (by rfl)
              have f29 : Ev F X (.code l136_0 (h136_0 l0 a0 a1 0 ) .ret ⟨[(4, (.oi 6))], []⟩) := (by have t : Ev F X (.code l136_0 (h136_0 l0 a0 a1 0 ) (ex136_0 (r136_0 a0 a1 (Int.toNat a1) 0)) (fin136_0 l0 a0 a1 (r136_0 a0 a1 (Int.toNat a1) 0))) := t136_0 (l0 := l0) (a0 := a0) (a1 := a1) (by assumption) (by assumption) (by assumption) (by assumption) _ 0  (by omega) (by omega) (by omega); rw [h5] at t; exact t)
              exact callP_ok (ps := []) (os := []) (rs := [(.oi 6)]) (by kernel_rfl) (.f f0 (.f f1 (.h 13 (.row [(.val (.string ((getD a0.f0 (Int.toNat a1) (K_sisi.mk (⟨#[]⟩ : ByteArray) 0 (⟨#[]⟩ : ByteArray) 0)).f0))), (.i ((getD a0.f0 (Int.toNat a1) (K_sisi.mk (⟨#[]⟩ : ByteArray) 0 (⟨#[]⟩ : ByteArray) 0)).f1)), (.val (.string ((getD a0.f0 (Int.toNat a1) (K_sisi.mk (⟨#[]⟩ : ByteArray) 0 (⟨#[]⟩ : ByteArray) 0)).f2))), (.i ((getD a0.f0 (Int.toNat a1) (K_sisi.mk (⟨#[]⟩ : ByteArray) 0 (⟨#[]⟩ : ByteArray) 0)).f3))]) (.r 25 [] [] f2 (.f (nt h0) (.f (nt h0) (.f (nt h0) (.f (nt h0) (.f (nt h0) (.h 30 (.b false) (.h 32 (.b false) (.h 34 (.b false) (.h 36 (.b false) (.h 38 (.b false) (.r 39 [] [] f8 (.f (nt h0) (.f (nt h0) (.f (nt h1) (.h 40 (.b false) (.h 43 (.b false) (.h 44 (.b false) (.r 54 [] [] f12 (.f (nt h2) (.f (nt h2) (.f (nt h2) (.f (nt h2) (.f (nt h2) (.h 59 (.b false) (.h 61 (.b false) (.h 63 (.b false) (.h 65 (.b false) (.h 67 (.b false) (.r 68 [] [] f18 (.f (nt h2) (.f (nt h2) (.f (nt h3) (.f (nt h4) (.f (nt h4) (.f (nt h4) (.f (nt h4) (.f (nt h4) (.f (nt h4) (.f f28 (.f f29 (.h 69 (.b false) (.h 72 (.b false) (.h 73 (.b false) (.h 86 (.b false) (.h 88 (.b false) (.h 90 (.b false) (.h 92 (.b false) (.h 94 (.b false) (.h 97 (.b false) (.h 101 (.loop (h136_0 l0 a0 a1 0 ) .ret ⟨[(4, (.oi 6))], []⟩) .nil))))))))))))))))))))))))))))))))))))))))))))))))))))))
/-! loop 90_0 -/
inductive O90_0 where
  | k0 (w0 : Int) (w1 : Bool)
  | k1 (w0 : Int)
def r90_0 (a0 : K_LsisiEi) : List K_sisi → Int → O90_0
  | x0 :: y0, i =>
    if ((m136 a0 i) != 0) = true then (O90_0.k1 (m136 a0 i)) else
    (r90_0 a0 y0 (i + 1) )
  | [], i => (O90_0.k0 i (decide (i < ((length (map b_sisi a0.f0)) : Int))))
def h90_0 (l0 : Nat) (a0 : K_LsisiEi) (i : Int)  : St := ⟨[(0, (.bptr l0 [(.sl (map b_sisi a0.f0)), (.val (.int .i64 a0.f1))])), (3, (.one (.val (.int .i64 i))))], []⟩
def ex90_0 : O90_0 → VX.Exit
  | .k0 _ _ => (.exit 0)
  | .k1 _ => .ret
def fin90_0 (l0 : Nat) (a0 : K_LsisiEi) : O90_0 → St
  | .k0 w0 w1 => ⟨[(0, (.bptr l0 [(.sl (map b_sisi a0.f0)), (.val (.int .i64 a0.f1))])), (3, (.one (.val (.int .i64 w0)))), (18, (.one (.val (.bool w1))))], []⟩
  | .k1 w0 => ⟨[(2, (.one (.val (.int .i64 w0))))], []⟩
theorem t90_0 {l0 : Nat} {a0 : K_LsisiEi} (hy0 : length a0.f0 * 48 ≤ 140737488351232) (hy1 : ∀ z ∈ a0.f0, os_sisi z) : ∀ (y0 : List K_sisi) (p : List K_sisi) , p ++ y0 = a0.f0 → Ev F X (.code l90_0 (h90_0 l0 a0 (length p : Int) ) (ex90_0 (r90_0 a0 y0 (length p : Int) )) (fin90_0 l0 a0 (r90_0 a0 y0 (length p : Int) )))
  | [], p, hp0 => by
    have hc : ¬ (decide ((length p : Int) < ((length (map b_sisi a0.f0)) : Int))) = true := by
      rw [← hp0]; simp only [length_map, length_set, length_append, length_replicate, length_cons, length_nil, decide_eq_true_eq]; omega
    have st := codeH_ok (F := F) (X := X) (c := b90_0) (t := 0) (hs := [(14, .b false)]) (σ := h90_0 l0 a0 (length p : Int) ) (σ' := fin90_0 l0 a0 (.k0 (length p : Int) (decide ((length p : Int) < ((length (map b_sisi a0.f0)) : Int))))) (e := (.exit 0)) (t' := 15) (hs' := []) (q := [(decide ((length p : Int) < ((length (map b_sisi a0.f0)) : Int))) = false]) (by kernel_rfl) ⟨(nt hc), trivial⟩
    exact .loopX st (show ((.exit 0) : VX.Exit) ≠ .normal from by simp)
  | x0 :: y0, p, hp0 => by
    have hc : (decide ((length p : Int) < ((length (map b_sisi a0.f0)) : Int))) = true := by
      rw [← hp0]; simp only [length_map, length_set, length_append, length_replicate, length_cons, length_nil, decide_eq_true_eq]; omega
    have Hx0 : (a0.f0)[Int.toNat (length p : Int)]? = some x0 := by
      rw [← hp0, Int.toNat_natCast]; simp
    obtain ⟨Mx0_0, Mx0_1⟩ := hy1 x0 (List.mem_of_getElem? Hx0)
    have hlen : length (a0.f0) = length p + length y0 + 1 := by rw [← hp0]; simp; omega
    have hw : IntKind.wrap .i64 ((length p : Int) + 1) = (length p : Int) + 1 := wrap64 (by omega)
    simp only [r90_0]
    by_cases h_1 : ((m136 a0 (length p : Int)) != 0) = true
    · try simp only [if_pos h_1]
      have st := codeH_ok (F := F) (X := X) (c := b90_0) (t := 0) (hs := [(14, .b true), (20, .ret [] [(.oi (m136 a0 (length p : Int)))] [] []), (27, .b true)]) (σ := h90_0 l0 a0 (length p : Int) ) (σ' := fin90_0 l0 a0 (.k1 (m136 a0 (length p : Int)))) (e := .ret) (t' := 32) (hs' := []) (q := [(decide ((length p : Int) < ((length (map b_sisi a0.f0)) : Int))) = true, Ev F X (.call 136 [(.bptr (l0 + 1) [(.sl (map b_sisi a0.f0)), (.i a0.f1)]), (.oi (length p : Int))] [] [] [(.oi (m136 a0 (length p : Int)))]), ((m136 a0 (length p : Int)) != 0) = true]) (by kernel_rfl) ⟨hc, (e136 (a0 := a0) (a1 := (length p : Int)) (by omega) (by omega) (by with_reducible assumption) (by with_reducible assumption)), h_1, trivial⟩
      exact .loopX st (show (.ret : VX.Exit) ≠ .normal from by simp)
    · try simp only [if_neg h_1]
      have st := codeH_ok (F := F) (X := X) (c := b90_0) (t := 0) (hs := [(14, .b true), (20, .ret [] [(.oi (m136 a0 (length p : Int)))] [] []), (27, .b false)]) (σ := h90_0 l0 a0 (length p : Int) ) (σ' := ⟨[(0, (.bptr l0 [(.sl (map b_sisi a0.f0)), (.i a0.f1)])), (3, (.oi (IntKind.wrap .i64 ((length p : Int) + 1))))], []⟩) (e := .normal) (t' := 34) (hs' := []) (q := [(decide ((length p : Int) < ((length (map b_sisi a0.f0)) : Int))) = true, Ev F X (.call 136 [(.bptr (l0 + 1) [(.sl (map b_sisi a0.f0)), (.i a0.f1)]), (.oi (length p : Int))] [] [] [(.oi (m136 a0 (length p : Int)))]), ((m136 a0 (length p : Int)) != 0) = false, True]) (by kernel_rfl) ⟨hc, (e136 (a0 := a0) (a1 := (length p : Int)) (by omega) (by omega) (by with_reducible assumption) (by with_reducible assumption)), (nt h_1), trivial, trivial⟩
      have ih := t90_0 (l0 := l0) (a0 := a0) hy0 hy1 y0 (p ++ [x0])  (by rw [append_assoc]; exact hp0)
      rw [show ((p ++ [x0]).length : Int) = (p.length : Int) + 1 from by simp] at ih
      rw [show (⟨[(0, (.bptr l0 [(.sl (map b_sisi a0.f0)), (.i a0.f1)])), (3, (.oi (IntKind.wrap .i64 ((length p : Int) + 1))))], []⟩ : St) = h90_0 l0 a0 ((length p : Int) + 1)  from (by unfold h90_0; simp only [hw]; done)] at st
      exact .loopN st ih
/-! loop 90_1 -/
inductive O90_1 where
  | k0 (w0 : Int) (w1 : Bool)
  | k1
def r90_1 (a0 : K_LsisiEi) : List K_sisi → Int → O90_1
  | x0 :: y0, i =>
    if (decide (x0.f1 ≥ a0.f1)) = true then (O90_1.k1) else
    (r90_1 a0 y0 (i + 1) )
  | [], i => (O90_1.k0 i (decide (i < ((length (map b_sisi a0.f0)) : Int))))
def h90_1 (l0 : Nat) (a0 : K_LsisiEi) (i : Int)  : St := ⟨[(0, (.bptr l0 [(.sl (map b_sisi a0.f0)), (.val (.int .i64 a0.f1))])), (5, (.one (.val (.int .i64 i))))], []⟩
def ex90_1 : O90_1 → VX.Exit
  | .k0 _ _ => (.exit 2)
  | .k1 => .ret
def fin90_1 (l0 : Nat) (a0 : K_LsisiEi) : O90_1 → St
  | .k0 w0 w1 => ⟨[(0, (.bptr l0 [(.sl (map b_sisi a0.f0)), (.val (.int .i64 a0.f1))])), (5, (.one (.val (.int .i64 w0)))), (39, (.one (.val (.bool w1))))], []⟩
  | .k1 => ⟨[(2, (.one (.val (.int .i64 3))))], []⟩
theorem t90_1 {l0 : Nat} {a0 : K_LsisiEi} (hy0 : length a0.f0 * 48 ≤ 140737488351232) (hy1 : ∀ z ∈ a0.f0, os_sisi z) : ∀ (y0 : List K_sisi) (p : List K_sisi) , p ++ y0 = a0.f0 → Ev F X (.code l90_1 (h90_1 l0 a0 (length p : Int) ) (ex90_1 (r90_1 a0 y0 (length p : Int) )) (fin90_1 l0 a0 (r90_1 a0 y0 (length p : Int) )))
  | [], p, hp0 => by
    have hc : ¬ (decide ((length p : Int) < ((length (map b_sisi a0.f0)) : Int))) = true := by
      rw [← hp0]; simp only [length_map, length_set, length_append, length_replicate, length_cons, length_nil, decide_eq_true_eq]; omega
    have st := codeH_ok (F := F) (X := X) (c := b90_1) (t := 0) (hs := [(14, .b false)]) (σ := h90_1 l0 a0 (length p : Int) ) (σ' := fin90_1 l0 a0 (.k0 (length p : Int) (decide ((length p : Int) < ((length (map b_sisi a0.f0)) : Int))))) (e := (.exit 2)) (t' := 15) (hs' := []) (q := [(decide ((length p : Int) < ((length (map b_sisi a0.f0)) : Int))) = false]) (by kernel_rfl) ⟨(nt hc), trivial⟩
    exact .loopX st (show ((.exit 2) : VX.Exit) ≠ .normal from by simp)
  | x0 :: y0, p, hp0 => by
    have hc : (decide ((length p : Int) < ((length (map b_sisi a0.f0)) : Int))) = true := by
      rw [← hp0]; simp only [length_map, length_set, length_append, length_replicate, length_cons, length_nil, decide_eq_true_eq]; omega
    have Hx0 : (a0.f0)[Int.toNat (length p : Int)]? = some x0 := by
      rw [← hp0, Int.toNat_natCast]; simp
    obtain ⟨Mx0_0, Mx0_1⟩ := hy1 x0 (List.mem_of_getElem? Hx0)
    have hlen : length (a0.f0) = length p + length y0 + 1 := by rw [← hp0]; simp; omega
    have hw : IntKind.wrap .i64 ((length p : Int) + 1) = (length p : Int) + 1 := wrap64 (by omega)
    simp only [r90_1]
    by_cases h_1 : (decide (x0.f1 ≥ a0.f1)) = true
    · try simp only [if_pos h_1]
      have st := codeH_ok (F := F) (X := X) (c := b90_1) (t := 0) (hs := [(14, .b true), (26, .row [(.val (.string x0.f0)), (.i x0.f1), (.val (.string x0.f2)), (.i x0.f3)]), (41, .b true)]) (σ := h90_1 l0 a0 (length p : Int) ) (σ' := fin90_1 l0 a0 (.k1)) (e := .ret) (t' := 44) (hs' := []) (q := [(decide ((length p : Int) < ((length (map b_sisi a0.f0)) : Int))) = true, 0 ≤ (length p : Int), (map b_sisi a0.f0)[(Int.toNat (length p : Int))]? = some [(.val (.string x0.f0)), (.i x0.f1), (.val (.string x0.f2)), (.i x0.f3)], (decide (x0.f1 ≥ a0.f1)) = true]) (by kernel_rfl) ⟨hc, (by omega), (by rw [getElem?_map, Hx0]; rfl), h_1, trivial⟩
      exact .loopX st (show (.ret : VX.Exit) ≠ .normal from by simp)
    · try simp only [if_neg h_1]
      have st := codeH_ok (F := F) (X := X) (c := b90_1) (t := 0) (hs := [(14, .b true), (26, .row [(.val (.string x0.f0)), (.i x0.f1), (.val (.string x0.f2)), (.i x0.f3)]), (41, .b false)]) (σ := h90_1 l0 a0 (length p : Int) ) (σ' := ⟨[(0, (.bptr l0 [(.sl (map b_sisi a0.f0)), (.i a0.f1)])), (5, (.oi (IntKind.wrap .i64 ((length p : Int) + 1))))], []⟩) (e := .normal) (t' := 48) (hs' := []) (q := [(decide ((length p : Int) < ((length (map b_sisi a0.f0)) : Int))) = true, 0 ≤ (length p : Int), (map b_sisi a0.f0)[(Int.toNat (length p : Int))]? = some [(.val (.string x0.f0)), (.i x0.f1), (.val (.string x0.f2)), (.i x0.f3)], (decide (x0.f1 ≥ a0.f1)) = false, True]) (by kernel_rfl) ⟨hc, (by omega), (by rw [getElem?_map, Hx0]; rfl), (nt h_1), trivial, trivial⟩
      have ih := t90_1 (l0 := l0) (a0 := a0) hy0 hy1 y0 (p ++ [x0])  (by rw [append_assoc]; exact hp0)
      rw [show ((p ++ [x0]).length : Int) = (p.length : Int) + 1 from by simp] at ih
      rw [show (⟨[(0, (.bptr l0 [(.sl (map b_sisi a0.f0)), (.i a0.f1)])), (5, (.oi (IntKind.wrap .i64 ((length p : Int) + 1))))], []⟩ : St) = h90_1 l0 a0 ((length p : Int) + 1)  from (by unfold h90_1; simp only [hw]; done)] at st
      exact .loopN st ih
/-! loop.example/g00539/spec.l10Fault -/
def m90 (a0 : K_LsisiEi) : Int :=
  if (decide (((length (map b_sisi a0.f0)) : Int) > 4)) = true then 2 else
  (match r90_0 a0 a0.f0 0 with | .k0 w0_1 w1_1 => (if (!(m113 a0.f1 0 999)) = true then 3 else (match r90_1 a0 a0.f0 0 with | .k0 w0_4 w1_4 => 0 | .k1 => 3)) | .k1 w0_1 => w0_1)
theorem e90 {l0 : Nat} {a0 : K_LsisiEi} (hy0 : length a0.f0 * 48 ≤ 140737488351232) (hy1 : ∀ z ∈ a0.f0, os_sisi z) : Ev F X (.call 90 [(.bptr l0 [(.sl (map b_sisi a0.f0)), (.val (.int .i64 a0.f1))])] [] [] [(.one (.val (.int .i64 (m90 a0))))]) := by
  unfold m90
  by_cases h0 : (decide (((length (map b_sisi a0.f0)) : Int) > 4)) = true
  · try simp only [if_pos h0]
    exact callP_ok (ps := []) (os := []) (rs := [(.oi 2)]) (by kernel_rfl) (.f h0 (.h 14 (.b true) .nil))
  · try simp only [if_neg h0]
    cases h1 : r90_0 a0 a0.f0 0 with
    | k0 w0_1 w1_1 =>
      try dsimp only
      have f1 : (⟨[(0, (.bptr l0 [(.sl (map b_sisi a0.f0)), (.i a0.f1)])), (3, (.oi 0))], []⟩ : St) = h90_0 l0 a0 0  := (by rfl)
      have f2 : Ev F X (.code l90_0 (h90_0 l0 a0 0 ) (.exit 0) ⟨[(0, (.bptr l0 [(.sl (map b_sisi a0.f0)), (.i a0.f1)])), (3, (.oi w0_1)), (18, (.one (.val (.bool w1_1))))], []⟩) := (by have t : Ev F X (.code l90_0 (h90_0 l0 a0 0 ) (ex90_0 (r90_0 a0 a0.f0 0)) (fin90_0 l0 a0 (r90_0 a0 a0.f0 0))) := t90_0 (l0 := l0) (a0 := a0) (by assumption) (by assumption) a0.f0 []  rfl; rw [h1] at t; exact t)
      have f3 : Ev F X (.call 113 [(.oi a0.f1), (.oi 0), (.oi 999)] [] [] [(.one (.val (.bool (m113 a0.f1 0 999))))]) := (e113 (a0 := a0.f1) (a1 := 0) (a2 := 999))
      by_cases h2 : (!(m113 a0.f1 0 999)) = true
      · try simp only [if_pos h2]
        exact callP_ok (ps := []) (os := []) (rs := [(.oi 3)]) (by kernel_rfl) (.f (nt h0) (.f f1 (.f f2 (.h 14 (.b false) (.h 17 (.loop (h90_0 l0 a0 0 ) (.exit 0) ⟨[(0, (.bptr l0 [(.sl (map b_sisi a0.f0)), (.i a0.f1)])), (3, (.oi w0_1)), (18, (.one (.val (.bool w1_1))))], []⟩) (.r 27 [] [] f3 (.f h2 (.h 30 (.b true) .nil))))))))
      · try simp only [if_neg h2]
        cases h3 : r90_1 a0 a0.f0 0 with
        | k0 w0_4 w1_4 =>
          try dsimp only
          have f5 : (⟨[(0, (.bptr l0 [(.sl (map b_sisi a0.f0)), (.i a0.f1)])), (5, (.oi 0))], []⟩ : St) = h90_1 l0 a0 0  := (by rfl)
          have f6 : Ev F X (.code l90_1 (h90_1 l0 a0 0 ) (.exit 2) ⟨[(0, (.bptr l0 [(.sl (map b_sisi a0.f0)), (.i a0.f1)])), (5, (.oi w0_4)), (39, (.one (.val (.bool w1_4))))], []⟩) := (by have t : Ev F X (.code l90_1 (h90_1 l0 a0 0 ) (ex90_1 (r90_1 a0 a0.f0 0)) (fin90_1 l0 a0 (r90_1 a0 a0.f0 0))) := t90_1 (l0 := l0) (a0 := a0) (by assumption) (by assumption) a0.f0 []  rfl; rw [h3] at t; exact t)
          exact callP_ok (ps := []) (os := []) (rs := [(.oi 0)]) (by kernel_rfl) (.f (nt h0) (.f f1 (.f f2 (.h 14 (.b false) (.h 17 (.loop (h90_0 l0 a0 0 ) (.exit 0) ⟨[(0, (.bptr l0 [(.sl (map b_sisi a0.f0)), (.i a0.f1)])), (3, (.oi w0_1)), (18, (.one (.val (.bool w1_1))))], []⟩) (.r 27 [] [] f3 (.f (nt h2) (.f f5 (.f f6 (.h 30 (.b false) (.h 33 (.loop (h90_1 l0 a0 0 ) (.exit 2) ⟨[(0, (.bptr l0 [(.sl (map b_sisi a0.f0)), (.i a0.f1)])), (5, (.oi w0_4)), (39, (.one (.val (.bool w1_4))))], []⟩) .nil)))))))))))
        | k1 =>
          try dsimp only
          have f5 : (⟨[(0, (.bptr l0 [(.sl (map b_sisi a0.f0)), (.i a0.f1)])), (5, (.oi 0))], []⟩ : St) = h90_1 l0 a0 0  := (by rfl)
          have f6 : Ev F X (.code l90_1 (h90_1 l0 a0 0 ) .ret ⟨[(2, (.oi 3))], []⟩) := (by have t : Ev F X (.code l90_1 (h90_1 l0 a0 0 ) (ex90_1 (r90_1 a0 a0.f0 0)) (fin90_1 l0 a0 (r90_1 a0 a0.f0 0))) := t90_1 (l0 := l0) (a0 := a0) (by assumption) (by assumption) a0.f0 []  rfl; rw [h3] at t; exact t)
          exact callP_ok (ps := []) (os := []) (rs := [(.oi 3)]) (by kernel_rfl) (.f (nt h0) (.f f1 (.f f2 (.h 14 (.b false) (.h 17 (.loop (h90_0 l0 a0 0 ) (.exit 0) ⟨[(0, (.bptr l0 [(.sl (map b_sisi a0.f0)), (.i a0.f1)])), (3, (.oi w0_1)), (18, (.one (.val (.bool w1_1))))], []⟩) (.r 27 [] [] f3 (.f (nt h2) (.f f5 (.f f6 (.h 30 (.b false) (.h 33 (.loop (h90_1 l0 a0 0 ) .ret ⟨[(2, (.oi 3))], []⟩) .nil)))))))))))
    | k1 w0_1 =>
      try dsimp only
      have f1 : (⟨[(0, (.bptr l0 [(.sl (map b_sisi a0.f0)), (.i a0.f1)])), (3, (.oi 0))], []⟩ : St) = h90_0 l0 a0 0  := (by rfl)
      have f2 : Ev F X (.code l90_0 (h90_0 l0 a0 0 ) .ret ⟨[(2, (.oi w0_1))], []⟩) := (by have t : Ev F X (.code l90_0 (h90_0 l0 a0 0 ) (ex90_0 (r90_0 a0 a0.f0 0)) (fin90_0 l0 a0 (r90_0 a0 a0.f0 0))) := t90_0 (l0 := l0) (a0 := a0) (by assumption) (by assumption) a0.f0 []  rfl; rw [h1] at t; exact t)
      exact callP_ok (ps := []) (os := []) (rs := [(.oi w0_1)]) (by kernel_rfl) (.f (nt h0) (.f f1 (.f f2 (.h 14 (.b false) (.h 17 (.loop (h90_0 l0 a0 0 ) .ret ⟨[(2, (.oi w0_1))], []⟩) .nil)))))
/-! loop.example/g00539/spec.l10Bad -/
def m102 (a0 : Int) : K_iLsELiisiiiiELsisiEi :=
  (K_iLsELiisiiiiELsisiEi.mk a0 [] [] [] 0)
theorem e102 {a0 : Int} : Ev F X (.call 102 [(.one (.val (.int .i64 a0)))] [] [] [(.agg [(.val (.int .i64 ((K_iLsELiisiiiiELsisiEi.mk a0 [] [] [] 0).f0))), (.own 1 (map d_s ((K_iLsELiisiiiiELsisiEi.mk a0 [] [] [] 0).f1))), (.own 7 (map d_iisiiii ((K_iLsELiisiiiiELsisiEi.mk a0 [] [] [] 0).f2))), (.own 4 (map d_sisi ((K_iLsELiisiiiiELsisiEi.mk a0 [] [] [] 0).f3))), (.val (.int .i64 ((K_iLsELiisiiiiELsisiEi.mk a0 [] [] [] 0).f4)))])]) := by
  have f0 : pureR [] = true := (by trivial)
  have f1 : pureR [] = true := (by with_reducible assumption)
  have f2 : pureR [] = true := (by with_reducible assumption)
  exact callP_ok (ps := []) (os := []) (rs := [(.agg [(.i a0), (.own 1 []), (.own 7 []), (.own 4 []), (.i 0)])]) (by kernel_rfl) (.f f0 (.f f1 (.f f2 .nil)))
/-! loop.example/g00539/spec.l10Copy -/
def m103 (a0 : K_LsisiEi) : K_LsisiEi :=
  (K_LsisiEi.mk (([]) ++ a0.f0) a0.f1)
theorem e103 {l0_0 : Nat} {a0 : K_LsisiEi} (hy0 : length a0.f0 * 48 ≤ 70368744177664) : Ev F X (.call 103 [(.agg [(.bor l0_0 (map b_sisi a0.f0)), (.val (.int .i64 a0.f1))])] [] [] [(.agg [(.own 4 (map d_sisi ((K_LsisiEi.mk (([]) ++ a0.f0) a0.f1).f0))), (.val (.int .i64 ((K_LsisiEi.mk (([]) ++ a0.f0) a0.f1).f1)))])]) := by
  have f0 : 0 + 0 ≤ 0 := (by omega)
  have f1 : (length ([] ++ (fromBR l0_0 (map b_sisi a0.f0)))) * 48 ≤ 70368744177664 := (by simp [ol99, ol52_0]; omega)
  have f2 : ∀ r ∈ ((fromBR l0_0 (map b_sisi a0.f0)) : List (List D)), r.length = 4 := (by simp [*, ol99, ol52_0, b_sisi, d_sisi, byteRows_eq, ints_y]; done)
  have f3 : 0 = 0 := rfl
  have f4 : (length ([] ++ (fromBR l0_0 (map b_sisi a0.f0)))) = (length ([] ++ (fromBR l0_0 (map b_sisi a0.f0)))) := rfl
  have f5 : ([[(.own 4 ([] ++ (fromBR l0_0 (map b_sisi a0.f0)))), (.val (.int .i64 a0.f1))]] : List (List D)) = [[(.own 4 (map d_sisi (([]) ++ a0.f0))), (.val (.int .i64 a0.f1))]] := (by simp [byteRows_eq, ints_y, take_of_length_le, d_sisi, d_LsisiEi, d_b, d_i, d_s, d_iisiiii, d_iLsELiisiiiiELsisiEi, d_LsisiE, d_LsE, d_LiisiiiiE, d_y, fromBR_sisi, fromBR_b, fromBR_i, fromBR_s, fromBR_iisiiii, fromBR_y, ol99, ol52_0]; done)
  have f6 : pureR (map d_sisi (([]) ++ a0.f0)) = true := (pureR_sisi _)
  exact callP_ok (ps := []) (os := []) (rs := [(.agg [(.own 4 (map d_sisi (([]) ++ a0.f0))), (.i a0.f1)])]) (by kernel_rfl) (.f f0 (.f f1 (.f f2 (.f f3 (.f f4 (.f f5 (.f f6 (.h 20 (.norm (2, 0, 0) [[(.own 4 (map d_sisi (([]) ++ a0.f0))), (.i a0.f1)]]) .nil))))))))
/-! loop.example/g00539/spec.OpenSession -/
def m55 (a0 : K_LsisiEi) : K_iLsELiisiiiiELsisiEi :=
  if ((m90 a0) != 0) = true then (K_iLsELiisiiiiELsisiEi.mk (m90 a0) ([]) ([]) ([]) 0) else
  if (decide (((length (map b_sisi a0.f0)) : Int) ≥ 4)) = true then (K_iLsELiisiiiiELsisiEi.mk 10 ([]) ([]) ([]) 0) else
    (K_iLsELiisiiiiELsisiEi.mk 0 [] [] ((([]) ++ a0.f0) ++ ([(K_sisi.mk (⟨#[]⟩ : ByteArray) (-1) (⟨#[]⟩ : ByteArray) 1)])) a0.f1)
theorem e55 {l0_0 : Nat} {a0 : K_LsisiEi} (hy0 : length a0.f0 * 48 ≤ 140737488351232) (hy1 : ∀ z ∈ a0.f0, os_sisi z) : Ev F X (.call 55 [(.agg [(.bor l0_0 (map b_sisi a0.f0)), (.val (.int .i64 a0.f1))])] [] [] [(.agg [(.val (.int .i64 ((m55 a0).f0))), (.own 1 (map d_s ((m55 a0).f1))), (.own 7 (map d_iisiiii ((m55 a0).f2))), (.own 4 (map d_sisi ((m55 a0).f3))), (.val (.int .i64 ((m55 a0).f4)))])]) := by
  unfold m55
  have f0 : fullL [(.bor l0_0 (map b_sisi a0.f0)), (.val (.int .i64 a0.f1))] = true := (by trivial)
  have f1 : Ev F X (.call 90 [(.bptr 0 [(.sl (map b_sisi a0.f0)), (.i a0.f1)])] [] [] [(.oi (m90 a0))]) := (e90 (a0 := a0) (by with_reducible assumption) (by with_reducible assumption))
  by_cases h0 : ((m90 a0) != 0) = true
  · try simp only [if_pos h0]
    have f3 : Ev F X (.call 102 [(.oi (m90 a0))] [] [] [(.agg [(.i (m90 a0)), (.own 1 (map d_s ([]))), (.own 7 (map d_iisiiii ([]))), (.own 4 (map d_sisi ([]))), (.i 0)])]) := (e102 (a0 := (m90 a0)))
    have f4 : 0 = 0 := rfl
    have f5 : (length (map d_s ([]))) = (length (map d_s ([]))) := rfl
    have f6 : 0 = 0 := rfl
    have f7 : (length (map d_iisiiii ([]))) = (length (map d_iisiiii ([]))) := rfl
    have f8 : 0 = 0 := rfl
    have f9 : (length (map d_sisi ([]))) = (length (map d_sisi ([]))) := rfl
    have f10 : pureR (map d_s ([])) = true := (pureR_s _)
    have f11 : pureR (map d_iisiiii ([])) = true := (pureR_iisiiii _)
    have f12 : pureR (map d_sisi ([])) = true := (pureR_sisi _)
    exact callP_ok (ps := []) (os := []) (rs := [(.agg [(.i (m90 a0)), (.own 1 (map d_s ([]))), (.own 7 (map d_iisiiii ([]))), (.own 4 (map d_sisi ([]))), (.i 0)])]) (by kernel_rfl) (.f f0 (.r 5 [] [] f1 (.f h0 (.h 12 (.b true) (.r 16 [] [] f3 (.f f4 (.f f5 (.f f6 (.f f7 (.f f8 (.f f9 (.f f10 (.f f11 (.f f12 .nil))))))))))))))
  · try simp only [if_neg h0]
    by_cases h1 : (decide (((length (map b_sisi a0.f0)) : Int) ≥ 4)) = true
    · try simp only [if_pos h1]
      have f4 : Ev F X (.call 102 [(.oi 10)] [] [] [(.agg [(.i 10), (.own 1 (map d_s ([]))), (.own 7 (map d_iisiiii ([]))), (.own 4 (map d_sisi ([]))), (.i 0)])]) := (e102 (a0 := 10))
      have f5 : 0 = 0 := rfl
      have f6 : (length (map d_s ([]))) = (length (map d_s ([]))) := rfl
      have f7 : 0 = 0 := rfl
      have f8 : (length (map d_iisiiii ([]))) = (length (map d_iisiiii ([]))) := rfl
      have f9 : 0 = 0 := rfl
      have f10 : (length (map d_sisi ([]))) = (length (map d_sisi ([]))) := rfl
      have f11 : pureR (map d_s ([])) = true := (pureR_s _)
      have f12 : pureR (map d_iisiiii ([])) = true := (pureR_iisiiii _)
      have f13 : pureR (map d_sisi ([])) = true := (pureR_sisi _)
      exact callP_ok (ps := []) (os := []) (rs := [(.agg [(.i 10), (.own 1 (map d_s ([]))), (.own 7 (map d_iisiiii ([]))), (.own 4 (map d_sisi ([]))), (.i 0)])]) (by kernel_rfl) (.f f0 (.r 5 [] [] f1 (.f (nt h0) (.f h1 (.h 12 (.b false) (.h 21 (.b true) (.r 23 [] [] f4 (.f f5 (.f f6 (.f f7 (.f f8 (.f f9 (.f f10 (.f f11 (.f f12 (.f f13 .nil))))))))))))))))
    · try simp only [if_neg h1]
      have f4 : Ev F X (.call 103 [(.agg [(.bor (l0_0 + 1) (map b_sisi a0.f0)), (.i a0.f1)])] [] [] [(.agg [(.own 4 (map d_sisi (([]) ++ a0.f0))), (.i a0.f1)])]) := (e103 (a0 := a0) (by have q : length a0.f0 < 4 := (by simp only [decide_eq_true_eq, length_map] at *; omega); omega))
      have f5 : 0 = 0 := rfl
      have f6 : (length (map d_sisi (([]) ++ a0.f0))) = (length (map d_sisi (([]) ++ a0.f0))) := rfl
      have f7 : 0 + (length (map d_sisi (([]) ++ a0.f0))) ≤ (length (map d_sisi (([]) ++ a0.f0))) := (by omega)
      have f8 : 1 ≤ 1 := (by omega)
      have f9 : ((take 1 (drop 0 [[(.val (.string (⟨#[]⟩ : ByteArray))), (.val (.int .i64 (-1))), (.val (.string (⟨#[]⟩ : ByteArray))), (.val (.int .i64 1))]])).all fun x => x.all copyable) = true := (by assumption)
      have f10 : (length ((take (length (map d_sisi (([]) ++ a0.f0))) (drop 0 (map d_sisi (([]) ++ a0.f0)))) ++ ([[(.val (.string (⟨#[]⟩ : ByteArray))), (.val (.int .i64 (-1))), (.val (.string (⟨#[]⟩ : ByteArray))), (.val (.int .i64 1))]] : List (List D)))) * 48 ≤ 70368744177664 := (by have q : length a0.f0 < 4 := (by simp only [decide_eq_true_eq, length_map] at *; omega); simp only [List.nil_append, length_append, length_take, length_drop, length_map, length_cons, length_nil]; omega)
      have f11 : ∀ r ∈ ([[(.val (.string (⟨#[]⟩ : ByteArray))), (.val (.int .i64 (-1))), (.val (.string (⟨#[]⟩ : ByteArray))), (.val (.int .i64 1))]] : List (List D)), r.length = 4 := (by simp [ol99, ol52_0]; done)
      have f12 : 0 = 0 := rfl
      have f13 : (length ((take (length (map d_sisi (([]) ++ a0.f0))) (drop 0 (map d_sisi (([]) ++ a0.f0)))) ++ ([[(.val (.string (⟨#[]⟩ : ByteArray))), (.val (.int .i64 (-1))), (.val (.string (⟨#[]⟩ : ByteArray))), (.val (.int .i64 1))]] : List (List D)))) = (length ((take (length (map d_sisi (([]) ++ a0.f0))) (drop 0 (map d_sisi (([]) ++ a0.f0)))) ++ ([[(.val (.string (⟨#[]⟩ : ByteArray))), (.val (.int .i64 (-1))), (.val (.string (⟨#[]⟩ : ByteArray))), (.val (.int .i64 1))]] : List (List D)))) := rfl
      have f14 : ([[(.own 4 ((take (length (map d_sisi (([]) ++ a0.f0))) (drop 0 (map d_sisi (([]) ++ a0.f0)))) ++ ([[(.val (.string (⟨#[]⟩ : ByteArray))), (.val (.int .i64 (-1))), (.val (.string (⟨#[]⟩ : ByteArray))), (.val (.int .i64 1))]] : List (List D)))), (.val (.int .i64 a0.f1))]] : List (List D)) = [[(.own 4 (map d_sisi ((([]) ++ a0.f0) ++ ([(K_sisi.mk (⟨#[]⟩ : ByteArray) (-1) (⟨#[]⟩ : ByteArray) 1)])))), (.val (.int .i64 a0.f1))]] := (by simp [byteRows_eq, ints_y, take_of_length_le, d_sisi, d_LsisiEi, d_b, d_i, d_s, d_iisiiii, d_iLsELiisiiiiELsisiEi, d_LsisiE, d_LsE, d_LiisiiiiE, d_y, fromBR_sisi, fromBR_b, fromBR_i, fromBR_s, fromBR_iisiiii, fromBR_y, ol99, ol52_0]; done)
      have f15 : 0 = 0 := rfl
      have f16 : (length (map d_sisi ((([]) ++ a0.f0) ++ ([(K_sisi.mk (⟨#[]⟩ : ByteArray) (-1) (⟨#[]⟩ : ByteArray) 1)])))) = (length (map d_sisi ((([]) ++ a0.f0) ++ ([(K_sisi.mk (⟨#[]⟩ : ByteArray) (-1) (⟨#[]⟩ : ByteArray) 1)])))) := rfl
      have f17 : pureR [] = true := (by assumption)
      have f18 : pureR [] = true := (by with_reducible assumption)
      have f19 : pureR (map d_sisi ((([]) ++ a0.f0) ++ ([(K_sisi.mk (⟨#[]⟩ : ByteArray) (-1) (⟨#[]⟩ : ByteArray) 1)]))) = true := (pureR_sisi _)
      exact callP_ok (ps := []) (os := []) (rs := [(.agg [(.i 0), (.own 1 []), (.own 7 []), (.own 4 (map d_sisi ((([]) ++ a0.f0) ++ ([(K_sisi.mk (⟨#[]⟩ : ByteArray) (-1) (⟨#[]⟩ : ByteArray) 1)])))), (.i a0.f1)])]) (by kernel_rfl) (.f f0 (.r 5 [] [] f1 (.f (nt h0) (.f (nt h1) (.h 12 (.b false) (.h 21 (.b false) (.r 25 [] [] f4 (.f f5 (.f f6 (.f f7 (.f f8 (.f f9 (.f f10 (.f f11 (.f f12 (.f f13 (.f f14 (.f f15 (.f f16 (.f f17 (.f f18 (.f f19 (.h 39 (.b true) (.h 44 (.norm (4, 0, 0) [[(.own 4 (map d_sisi ((([]) ++ a0.f0) ++ ([(K_sisi.mk (⟨#[]⟩ : ByteArray) (-1) (⟨#[]⟩ : ByteArray) 1)])))), (.i a0.f1)]]) .nil))))))))))))))))))))))))
theorem okm55 (a0 : K_LsisiEi) : ok_iLsELiisiiiiELsisiEi (m55 a0) := by
  unfold m55
  split
  · simp [ok_LsisiEi, ok_iLsELiisiiiiELsisiEi, ok_LsisiE, ok_LsE, ok_LiisiiiiE]
  · split
    · simp [ok_LsisiEi, ok_iLsELiisiiiiELsisiEi, ok_LsisiE, ok_LsE, ok_LiisiiiiE]
    · rename_i h
      simp only [decide_eq_true_eq, length_map] at h
      simp only [ok_LsisiEi, ok_iLsELiisiiiiELsisiEi, ok_LsisiE, ok_LsE, ok_LiisiiiiE, List.nil_append, length_append, length_cons, length_nil]; omega
/-! loop.example/g00539/impl.in -/
def m93 (a0 : Int) (a1 : Int) (a2 : Int) : Bool :=
  if (decide (a0 ≥ a1)) = true then (decide (a0 ≤ a2)) else
  false
theorem e93 {a0 : Int} {a1 : Int} {a2 : Int} : Ev F X (.call 93 [(.one (.val (.int .i64 a0))), (.one (.val (.int .i64 a1))), (.one (.val (.int .i64 a2)))] [] [] [(.one (.val (.bool (m93 a0 a1 a2))))]) := by
  unfold m93
  by_cases h0 : (decide (a0 ≥ a1)) = true
  · try simp only [if_pos h0]
    exact callP_ok (ps := []) (os := []) (rs := [(.one (.val (.bool (decide (a0 ≤ a2)))))]) (by kernel_rfl) (.f h0 (.f h0 (.f h0 (.f h0 (.h 10 (.b true) (.h 12 (.b true) (.h 14 (.b true) (.h 17 (.b true) .nil))))))))
  · try simp only [if_neg h0]
    exact callP_ok (ps := []) (os := []) (rs := [(.one (.val (.bool false)))]) (by kernel_rfl) (.f (nt h0) (.f (nt h0) (.f (nt h0) (.f (nt h0) (.h 10 (.b false) (.h 12 (.b false) (.h 14 (.b false) (.h 17 (.b false) .nil))))))))
/-! strings.IndexByte -/
theorem e138 {a0 : ByteArray} {a1 : Int} : Ev F X (.call 138 [(.one (.val (.string a0))), (.one (.val (.int .u8 a1)))] [] [] [(.one (.val (.int .i64 (idxB a0 a1))))]) :=
  .ext (.inr (.inl (⟨rfl, (⟨a0, a1, rfl, rfl⟩)⟩)))
/-! strings.Trim -/
theorem e156 {a0 a1 : ByteArray} (hy0 : ByteArray.size a0 ≤ 9223372036854775807) (hy1 : ByteArray.size a1 < 4294967281) (hy2 : asciiB a1 = true) : Ev F X (.call 156 [(.one (.val (.string a0))), (.one (.val (.string a1)))] [] [] [(.one (.val (.string (trimB a0 a1))))]) :=
  .ext (.inr (.inr (⟨rfl, (⟨a0, a1, hy0, hy1, hy2, rfl, rfl⟩)⟩)))
end Go.Proofs.YtdnopbpdiineiaaDoor.OpenSession
