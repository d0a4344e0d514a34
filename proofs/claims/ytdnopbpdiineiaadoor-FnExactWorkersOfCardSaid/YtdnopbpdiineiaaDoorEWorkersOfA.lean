/- What the functions compute. -/
import Derived.Test.YtdnopbpdiineiaaDoorTWorkersOf
import Derived.Test.YtdnopbpdiineiaaDoorVNum
import Derived.Test.YtdnopbpdiineiaaDoorVClone
import Derived.Test.YtdnopbpdiineiaaDoorVExt
import Derived.Test.YtdnopbpdiineiaaDoorXWorkersOf
import Derived.KernelRfl
namespace Go.Proofs.YtdnopbpdiineiaaDoor.WorkersOf
open Go Go.Proofs.YtdnopbpdiineiaaDoor.V
set_option linter.unusedVariables false
set_option linter.unusedSimpArgs false
set_option maxRecDepth 20000
def X : Ext := fun f args rs => (f = 138 ∧ IdxX args rs) ∨ (f = 156 ∧ TrimX args rs)
structure K_sisi where
  f0 : ByteArray
  f1 : Int
  f2 : ByteArray
  f3 : Int
def b_sisi (x : K_sisi) : List B := [(.val (.string x.f0)), (.val (.int .i64 x.f1)), (.val (.string x.f2)), (.val (.int .i64 x.f3))]
def d_sisi (x : K_sisi) : List D := [(.val (.string x.f0)), (.val (.int .i64 x.f1)), (.val (.string x.f2)), (.val (.int .i64 x.f3))]
theorem toBR_sisi : ∀ (l : List K_sisi), toBR (l.map d_sisi) = l.map b_sisi
  | [] => rfl
  | x :: l => by simp [toBR, toBL, toB, d_sisi, b_sisi, toBR_sisi l]
theorem fullR_sisi : ∀ (l : List K_sisi), fullR (l.map d_sisi) = true
  | [] => rfl
  | x :: l => by simp [fullR, fullL, full, d_sisi, fullR_sisi l]
theorem pureR_sisi : ∀ (l : List K_sisi), pureR (l.map d_sisi) = true
  | [] => rfl
  | x :: l => by simp [pureR, pureL, V.pure, d_sisi, pureR_sisi l]
theorem ft_sisi (a b : Nat) (l : List K_sisi) : fullR (List.take a (List.drop b (l.map d_sisi))) = true := by rw [← List.map_drop, ← List.map_take]; exact fullR_sisi _
theorem tbt_sisi (a b : Nat) (l : List K_sisi) : toBR (List.take a (List.drop b (l.map d_sisi))) = (List.take a (List.drop b l)).map b_sisi := by rw [← List.map_drop, ← List.map_take]; exact toBR_sisi _
theorem tb_sisi (l : List K_sisi) : toBR (List.take (l.map d_sisi).length (List.drop 0 (l.map d_sisi))) = l.map b_sisi := by rw [List.drop_zero, List.take_length]; exact toBR_sisi l
theorem lenB_sisi (l : List K_sisi) : ∀ r ∈ l.map b_sisi, r.length = 4 := by intro r h; obtain ⟨x, _, rfl⟩ := List.mem_map.1 h; rfl
theorem lenD_sisi (l : List K_sisi) : ∀ r ∈ l.map d_sisi, r.length = 4 := by intro r h; obtain ⟨x, _, rfl⟩ := List.mem_map.1 h; rfl
def os_sisi (x : K_sisi) : Prop := (ByteArray.size x.f0 ≤ 140737488351232) ∧ (ByteArray.size x.f2 ≤ 140737488351232)
theorem gos_sisi {l : List K_sisi} (h : ∀ z ∈ l, os_sisi z) (n : Nat) (d : K_sisi) (hd : os_sisi d) : os_sisi (l.getD n d) := by
  rw [List.getD_eq_getElem?_getD]; cases h2 : l[n]? with
  | none => simpa using hd
  | some x => exact h x (List.mem_of_getElem? h2)
theorem fromBR_sisi (n : Nat) (l : List K_sisi) : fromBR n (l.map b_sisi) = l.map d_sisi := by simp [fromBR, b_sisi, d_sisi, fromB, Function.comp_def]
theorem copy_sisi (l : List K_sisi) : (l.map d_sisi).all (fun x => x.all copyable) = true := by simp [d_sisi, copyable, Function.comp_def]
theorem ct_sisi (a b : Nat) (l : List K_sisi) : ((List.take a (List.drop b (l.map d_sisi))).all fun x => x.all copyable) = true := by rw [← List.map_drop, ← List.map_take]; exact copy_sisi _
structure K_LsisiEi where
  f0 : (List K_sisi)
  f1 : Int
def b_LsisiEi (x : K_LsisiEi) : List B := [(.sl (List.map b_sisi x.f0)), (.val (.int .i64 x.f1))]
def d_LsisiEi (x : K_LsisiEi) : List D := [(.own 4 (List.map d_sisi x.f0)), (.val (.int .i64 x.f1))]
theorem toBR_LsisiEi : ∀ (l : List K_LsisiEi), toBR (l.map d_LsisiEi) = l.map b_LsisiEi
  | [] => rfl
  | x :: l => by simp [toBR, toBL, toB, d_LsisiEi, b_LsisiEi, toBR_LsisiEi l, toBR_sisi]
theorem fullR_LsisiEi : ∀ (l : List K_LsisiEi), fullR (l.map d_LsisiEi) = true
  | [] => rfl
  | x :: l => by simp [fullR, fullL, full, d_LsisiEi, fullR_LsisiEi l, fullR_sisi]
theorem pureR_LsisiEi : ∀ (l : List K_LsisiEi), pureR (l.map d_LsisiEi) = true
  | [] => rfl
  | x :: l => by simp [pureR, pureL, V.pure, d_LsisiEi, pureR_LsisiEi l, pureR_sisi]
theorem ft_LsisiEi (a b : Nat) (l : List K_LsisiEi) : fullR (List.take a (List.drop b (l.map d_LsisiEi))) = true := by rw [← List.map_drop, ← List.map_take]; exact fullR_LsisiEi _
theorem tbt_LsisiEi (a b : Nat) (l : List K_LsisiEi) : toBR (List.take a (List.drop b (l.map d_LsisiEi))) = (List.take a (List.drop b l)).map b_LsisiEi := by rw [← List.map_drop, ← List.map_take]; exact toBR_LsisiEi _
theorem tb_LsisiEi (l : List K_LsisiEi) : toBR (List.take (l.map d_LsisiEi).length (List.drop 0 (l.map d_LsisiEi))) = l.map b_LsisiEi := by rw [List.drop_zero, List.take_length]; exact toBR_LsisiEi l
theorem lenB_LsisiEi (l : List K_LsisiEi) : ∀ r ∈ l.map b_LsisiEi, r.length = 2 := by intro r h; obtain ⟨x, _, rfl⟩ := List.mem_map.1 h; rfl
theorem lenD_LsisiEi (l : List K_LsisiEi) : ∀ r ∈ l.map d_LsisiEi, r.length = 2 := by intro r h; obtain ⟨x, _, rfl⟩ := List.mem_map.1 h; rfl
def ok_LsisiEi (x : K_LsisiEi) : Prop := (List.length x.f0 * 48 ≤ 140737488351232)
def os_LsisiEi (x : K_LsisiEi) : Prop := (List.length x.f0 * 48 ≤ 140737488351232) ∧ (∀ z ∈ x.f0, os_sisi z)
theorem os_ok_LsisiEi (x : K_LsisiEi) (h : os_LsisiEi x) : ok_LsisiEi x := h.1
theorem gos_LsisiEi {l : List K_LsisiEi} (h : ∀ z ∈ l, os_LsisiEi z) (n : Nat) (d : K_LsisiEi) (hd : os_LsisiEi d) : os_LsisiEi (l.getD n d) := by
  rw [List.getD_eq_getElem?_getD]; cases h2 : l[n]? with
  | none => simpa using hd
  | some x => exact h x (List.mem_of_getElem? h2)
theorem gok_LsisiEi {l : List K_LsisiEi} (h : ∀ z ∈ l, ok_LsisiEi z) (n : Nat) (d : K_LsisiEi) (hd : ok_LsisiEi d) : ok_LsisiEi (l.getD n d) := by
  rw [List.getD_eq_getElem?_getD]; cases h2 : l[n]? with
  | none => simpa using hd
  | some x => exact h x (List.mem_of_getElem? h2)
def b_b (x : Bool) : List B := [(.val (.bool x))]
def d_b (x : Bool) : List D := [(.val (.bool x))]
theorem toBR_b : ∀ (l : List Bool), toBR (l.map d_b) = l.map b_b
  | [] => rfl
  | x :: l => by simp [toBR, toBL, toB, d_b, b_b, toBR_b l]
theorem fullR_b : ∀ (l : List Bool), fullR (l.map d_b) = true
  | [] => rfl
  | x :: l => by simp [fullR, fullL, full, d_b, fullR_b l]
theorem pureR_b : ∀ (l : List Bool), pureR (l.map d_b) = true
  | [] => rfl
  | x :: l => by simp [pureR, pureL, V.pure, d_b, pureR_b l]
theorem ft_b (a b : Nat) (l : List Bool) : fullR (List.take a (List.drop b (l.map d_b))) = true := by rw [← List.map_drop, ← List.map_take]; exact fullR_b _
theorem tbt_b (a b : Nat) (l : List Bool) : toBR (List.take a (List.drop b (l.map d_b))) = (List.take a (List.drop b l)).map b_b := by rw [← List.map_drop, ← List.map_take]; exact toBR_b _
theorem tb_b (l : List Bool) : toBR (List.take (l.map d_b).length (List.drop 0 (l.map d_b))) = l.map b_b := by rw [List.drop_zero, List.take_length]; exact toBR_b l
theorem lenB_b (l : List Bool) : ∀ r ∈ l.map b_b, r.length = 1 := by intro r h; obtain ⟨x, _, rfl⟩ := List.mem_map.1 h; rfl
theorem lenD_b (l : List Bool) : ∀ r ∈ l.map d_b, r.length = 1 := by intro r h; obtain ⟨x, _, rfl⟩ := List.mem_map.1 h; rfl
theorem fromBR_b (n : Nat) (l : List Bool) : fromBR n (l.map b_b) = l.map d_b := by simp [fromBR, b_b, d_b, fromB, Function.comp_def]
theorem copy_b (l : List Bool) : (l.map d_b).all (fun x => x.all copyable) = true := by simp [d_b, copyable, Function.comp_def]
theorem ct_b (a b : Nat) (l : List Bool) : ((List.take a (List.drop b (l.map d_b))).all fun x => x.all copyable) = true := by rw [← List.map_drop, ← List.map_take]; exact copy_b _
def b_i (x : Int) : List B := [(.val (.int .i64 x))]
def d_i (x : Int) : List D := [(.val (.int .i64 x))]
theorem toBR_i : ∀ (l : List Int), toBR (l.map d_i) = l.map b_i
  | [] => rfl
  | x :: l => by simp [toBR, toBL, toB, d_i, b_i, toBR_i l]
theorem fullR_i : ∀ (l : List Int), fullR (l.map d_i) = true
  | [] => rfl
  | x :: l => by simp [fullR, fullL, full, d_i, fullR_i l]
theorem pureR_i : ∀ (l : List Int), pureR (l.map d_i) = true
  | [] => rfl
  | x :: l => by simp [pureR, pureL, V.pure, d_i, pureR_i l]
theorem ft_i (a b : Nat) (l : List Int) : fullR (List.take a (List.drop b (l.map d_i))) = true := by rw [← List.map_drop, ← List.map_take]; exact fullR_i _
theorem tbt_i (a b : Nat) (l : List Int) : toBR (List.take a (List.drop b (l.map d_i))) = (List.take a (List.drop b l)).map b_i := by rw [← List.map_drop, ← List.map_take]; exact toBR_i _
theorem tb_i (l : List Int) : toBR (List.take (l.map d_i).length (List.drop 0 (l.map d_i))) = l.map b_i := by rw [List.drop_zero, List.take_length]; exact toBR_i l
theorem lenB_i (l : List Int) : ∀ r ∈ l.map b_i, r.length = 1 := by intro r h; obtain ⟨x, _, rfl⟩ := List.mem_map.1 h; rfl
theorem lenD_i (l : List Int) : ∀ r ∈ l.map d_i, r.length = 1 := by intro r h; obtain ⟨x, _, rfl⟩ := List.mem_map.1 h; rfl
theorem fromBR_i (n : Nat) (l : List Int) : fromBR n (l.map b_i) = l.map d_i := by simp [fromBR, b_i, d_i, fromB, Function.comp_def]
theorem copy_i (l : List Int) : (l.map d_i).all (fun x => x.all copyable) = true := by simp [d_i, copyable, Function.comp_def]
theorem ct_i (a b : Nat) (l : List Int) : ((List.take a (List.drop b (l.map d_i))).all fun x => x.all copyable) = true := by rw [← List.map_drop, ← List.map_take]; exact copy_i _
def b_s (x : ByteArray) : List B := [(.val (.string x))]
def d_s (x : ByteArray) : List D := [(.val (.string x))]
theorem toBR_s : ∀ (l : List ByteArray), toBR (l.map d_s) = l.map b_s
  | [] => rfl
  | x :: l => by simp [toBR, toBL, toB, d_s, b_s, toBR_s l]
theorem fullR_s : ∀ (l : List ByteArray), fullR (l.map d_s) = true
  | [] => rfl
  | x :: l => by simp [fullR, fullL, full, d_s, fullR_s l]
theorem pureR_s : ∀ (l : List ByteArray), pureR (l.map d_s) = true
  | [] => rfl
  | x :: l => by simp [pureR, pureL, V.pure, d_s, pureR_s l]
theorem ft_s (a b : Nat) (l : List ByteArray) : fullR (List.take a (List.drop b (l.map d_s))) = true := by rw [← List.map_drop, ← List.map_take]; exact fullR_s _
theorem tbt_s (a b : Nat) (l : List ByteArray) : toBR (List.take a (List.drop b (l.map d_s))) = (List.take a (List.drop b l)).map b_s := by rw [← List.map_drop, ← List.map_take]; exact toBR_s _
theorem tb_s (l : List ByteArray) : toBR (List.take (l.map d_s).length (List.drop 0 (l.map d_s))) = l.map b_s := by rw [List.drop_zero, List.take_length]; exact toBR_s l
theorem lenB_s (l : List ByteArray) : ∀ r ∈ l.map b_s, r.length = 1 := by intro r h; obtain ⟨x, _, rfl⟩ := List.mem_map.1 h; rfl
theorem lenD_s (l : List ByteArray) : ∀ r ∈ l.map d_s, r.length = 1 := by intro r h; obtain ⟨x, _, rfl⟩ := List.mem_map.1 h; rfl
def os_s (x : ByteArray) : Prop := (ByteArray.size x ≤ 140737488351232)
theorem gos_s {l : List ByteArray} (h : ∀ z ∈ l, os_s z) (n : Nat) (d : ByteArray) (hd : os_s d) : os_s (l.getD n d) := by
  rw [List.getD_eq_getElem?_getD]; cases h2 : l[n]? with
  | none => simpa using hd
  | some x => exact h x (List.mem_of_getElem? h2)
theorem fromBR_s (n : Nat) (l : List ByteArray) : fromBR n (l.map b_s) = l.map d_s := by simp [fromBR, b_s, d_s, fromB, Function.comp_def]
theorem copy_s (l : List ByteArray) : (l.map d_s).all (fun x => x.all copyable) = true := by simp [d_s, copyable, Function.comp_def]
theorem ct_s (a b : Nat) (l : List ByteArray) : ((List.take a (List.drop b (l.map d_s))).all fun x => x.all copyable) = true := by rw [← List.map_drop, ← List.map_take]; exact copy_s _
structure K_iLsEs where
  f0 : Int
  f1 : (List ByteArray)
  f2 : ByteArray
def b_iLsEs (x : K_iLsEs) : List B := [(.val (.int .i64 x.f0)), (.sl (List.map b_s x.f1)), (.val (.string x.f2))]
def d_iLsEs (x : K_iLsEs) : List D := [(.val (.int .i64 x.f0)), (.own 1 (List.map d_s x.f1)), (.val (.string x.f2))]
theorem toBR_iLsEs : ∀ (l : List K_iLsEs), toBR (l.map d_iLsEs) = l.map b_iLsEs
  | [] => rfl
  | x :: l => by simp [toBR, toBL, toB, d_iLsEs, b_iLsEs, toBR_iLsEs l, toBR_s]
theorem fullR_iLsEs : ∀ (l : List K_iLsEs), fullR (l.map d_iLsEs) = true
  | [] => rfl
  | x :: l => by simp [fullR, fullL, full, d_iLsEs, fullR_iLsEs l, fullR_s]
theorem pureR_iLsEs : ∀ (l : List K_iLsEs), pureR (l.map d_iLsEs) = true
  | [] => rfl
  | x :: l => by simp [pureR, pureL, V.pure, d_iLsEs, pureR_iLsEs l, pureR_s]
theorem ft_iLsEs (a b : Nat) (l : List K_iLsEs) : fullR (List.take a (List.drop b (l.map d_iLsEs))) = true := by rw [← List.map_drop, ← List.map_take]; exact fullR_iLsEs _
theorem tbt_iLsEs (a b : Nat) (l : List K_iLsEs) : toBR (List.take a (List.drop b (l.map d_iLsEs))) = (List.take a (List.drop b l)).map b_iLsEs := by rw [← List.map_drop, ← List.map_take]; exact toBR_iLsEs _
theorem tb_iLsEs (l : List K_iLsEs) : toBR (List.take (l.map d_iLsEs).length (List.drop 0 (l.map d_iLsEs))) = l.map b_iLsEs := by rw [List.drop_zero, List.take_length]; exact toBR_iLsEs l
theorem lenB_iLsEs (l : List K_iLsEs) : ∀ r ∈ l.map b_iLsEs, r.length = 3 := by intro r h; obtain ⟨x, _, rfl⟩ := List.mem_map.1 h; rfl
theorem lenD_iLsEs (l : List K_iLsEs) : ∀ r ∈ l.map d_iLsEs, r.length = 3 := by intro r h; obtain ⟨x, _, rfl⟩ := List.mem_map.1 h; rfl
def ok_iLsEs (x : K_iLsEs) : Prop := (List.length x.f1 * 16 ≤ 140737488351232)
def os_iLsEs (x : K_iLsEs) : Prop := (List.length x.f1 * 16 ≤ 140737488351232) ∧ (∀ z ∈ x.f1, os_s z) ∧ (ByteArray.size x.f2 ≤ 140737488351232)
theorem os_ok_iLsEs (x : K_iLsEs) (h : os_iLsEs x) : ok_iLsEs x := h.1
theorem gos_iLsEs {l : List K_iLsEs} (h : ∀ z ∈ l, os_iLsEs z) (n : Nat) (d : K_iLsEs) (hd : os_iLsEs d) : os_iLsEs (l.getD n d) := by
  rw [List.getD_eq_getElem?_getD]; cases h2 : l[n]? with
  | none => simpa using hd
  | some x => exact h x (List.mem_of_getElem? h2)
theorem gok_iLsEs {l : List K_iLsEs} (h : ∀ z ∈ l, ok_iLsEs z) (n : Nat) (d : K_iLsEs) (hd : ok_iLsEs d) : ok_iLsEs (l.getD n d) := by
  rw [List.getD_eq_getElem?_getD]; cases h2 : l[n]? with
  | none => simpa using hd
  | some x => exact h x (List.mem_of_getElem? h2)
def b_LsisiE (x : (List K_sisi)) : List B := [(.sl (List.map b_sisi x))]
def d_LsisiE (x : (List K_sisi)) : List D := [(.own 4 (List.map d_sisi x))]
theorem toBR_LsisiE : ∀ (l : List (List K_sisi)), toBR (l.map d_LsisiE) = l.map b_LsisiE
  | [] => rfl
  | x :: l => by simp [toBR, toBL, toB, d_LsisiE, b_LsisiE, toBR_LsisiE l, toBR_sisi]
theorem fullR_LsisiE : ∀ (l : List (List K_sisi)), fullR (l.map d_LsisiE) = true
  | [] => rfl
  | x :: l => by simp [fullR, fullL, full, d_LsisiE, fullR_LsisiE l, fullR_sisi]
theorem pureR_LsisiE : ∀ (l : List (List K_sisi)), pureR (l.map d_LsisiE) = true
  | [] => rfl
  | x :: l => by simp [pureR, pureL, V.pure, d_LsisiE, pureR_LsisiE l, pureR_sisi]
theorem ft_LsisiE (a b : Nat) (l : List (List K_sisi)) : fullR (List.take a (List.drop b (l.map d_LsisiE))) = true := by rw [← List.map_drop, ← List.map_take]; exact fullR_LsisiE _
theorem tbt_LsisiE (a b : Nat) (l : List (List K_sisi)) : toBR (List.take a (List.drop b (l.map d_LsisiE))) = (List.take a (List.drop b l)).map b_LsisiE := by rw [← List.map_drop, ← List.map_take]; exact toBR_LsisiE _
theorem tb_LsisiE (l : List (List K_sisi)) : toBR (List.take (l.map d_LsisiE).length (List.drop 0 (l.map d_LsisiE))) = l.map b_LsisiE := by rw [List.drop_zero, List.take_length]; exact toBR_LsisiE l
theorem lenB_LsisiE (l : List (List K_sisi)) : ∀ r ∈ l.map b_LsisiE, r.length = 1 := by intro r h; obtain ⟨x, _, rfl⟩ := List.mem_map.1 h; rfl
theorem lenD_LsisiE (l : List (List K_sisi)) : ∀ r ∈ l.map d_LsisiE, r.length = 1 := by intro r h; obtain ⟨x, _, rfl⟩ := List.mem_map.1 h; rfl
def ok_LsisiE (x : (List K_sisi)) : Prop := (List.length x * 48 ≤ 140737488351232)
def os_LsisiE (x : (List K_sisi)) : Prop := (List.length x * 48 ≤ 140737488351232) ∧ (∀ z ∈ x, os_sisi z)
theorem os_ok_LsisiE (x : (List K_sisi)) (h : os_LsisiE x) : ok_LsisiE x := h.1
theorem gos_LsisiE {l : List (List K_sisi)} (h : ∀ z ∈ l, os_LsisiE z) (n : Nat) (d : (List K_sisi)) (hd : os_LsisiE d) : os_LsisiE (l.getD n d) := by
  rw [List.getD_eq_getElem?_getD]; cases h2 : l[n]? with
  | none => simpa using hd
  | some x => exact h x (List.mem_of_getElem? h2)
theorem gok_LsisiE {l : List (List K_sisi)} (h : ∀ z ∈ l, ok_LsisiE z) (n : Nat) (d : (List K_sisi)) (hd : ok_LsisiE d) : ok_LsisiE (l.getD n d) := by
  rw [List.getD_eq_getElem?_getD]; cases h2 : l[n]? with
  | none => simpa using hd
  | some x => exact h x (List.mem_of_getElem? h2)
def b_LsE (x : (List ByteArray)) : List B := [(.sl (List.map b_s x))]
def d_LsE (x : (List ByteArray)) : List D := [(.own 1 (List.map d_s x))]
theorem toBR_LsE : ∀ (l : List (List ByteArray)), toBR (l.map d_LsE) = l.map b_LsE
  | [] => rfl
  | x :: l => by simp [toBR, toBL, toB, d_LsE, b_LsE, toBR_LsE l, toBR_s]
theorem fullR_LsE : ∀ (l : List (List ByteArray)), fullR (l.map d_LsE) = true
  | [] => rfl
  | x :: l => by simp [fullR, fullL, full, d_LsE, fullR_LsE l, fullR_s]
theorem pureR_LsE : ∀ (l : List (List ByteArray)), pureR (l.map d_LsE) = true
  | [] => rfl
  | x :: l => by simp [pureR, pureL, V.pure, d_LsE, pureR_LsE l, pureR_s]
theorem ft_LsE (a b : Nat) (l : List (List ByteArray)) : fullR (List.take a (List.drop b (l.map d_LsE))) = true := by rw [← List.map_drop, ← List.map_take]; exact fullR_LsE _
theorem tbt_LsE (a b : Nat) (l : List (List ByteArray)) : toBR (List.take a (List.drop b (l.map d_LsE))) = (List.take a (List.drop b l)).map b_LsE := by rw [← List.map_drop, ← List.map_take]; exact toBR_LsE _
theorem tb_LsE (l : List (List ByteArray)) : toBR (List.take (l.map d_LsE).length (List.drop 0 (l.map d_LsE))) = l.map b_LsE := by rw [List.drop_zero, List.take_length]; exact toBR_LsE l
theorem lenB_LsE (l : List (List ByteArray)) : ∀ r ∈ l.map b_LsE, r.length = 1 := by intro r h; obtain ⟨x, _, rfl⟩ := List.mem_map.1 h; rfl
theorem lenD_LsE (l : List (List ByteArray)) : ∀ r ∈ l.map d_LsE, r.length = 1 := by intro r h; obtain ⟨x, _, rfl⟩ := List.mem_map.1 h; rfl
def ok_LsE (x : (List ByteArray)) : Prop := (List.length x * 16 ≤ 140737488351232)
def os_LsE (x : (List ByteArray)) : Prop := (List.length x * 16 ≤ 140737488351232) ∧ (∀ z ∈ x, os_s z)
theorem os_ok_LsE (x : (List ByteArray)) (h : os_LsE x) : ok_LsE x := h.1
theorem gos_LsE {l : List (List ByteArray)} (h : ∀ z ∈ l, os_LsE z) (n : Nat) (d : (List ByteArray)) (hd : os_LsE d) : os_LsE (l.getD n d) := by
  rw [List.getD_eq_getElem?_getD]; cases h2 : l[n]? with
  | none => simpa using hd
  | some x => exact h x (List.mem_of_getElem? h2)
theorem gok_LsE {l : List (List ByteArray)} (h : ∀ z ∈ l, ok_LsE z) (n : Nat) (d : (List ByteArray)) (hd : ok_LsE d) : ok_LsE (l.getD n d) := by
  rw [List.getD_eq_getElem?_getD]; cases h2 : l[n]? with
  | none => simpa using hd
  | some x => exact h x (List.mem_of_getElem? h2)
def b_y (x : Int) : List B := [(.val (.int .u8 x))]
def d_y (x : Int) : List D := [(.val (.int .u8 x))]
theorem toBR_y : ∀ (l : List Int), toBR (l.map d_y) = l.map b_y
  | [] => rfl
  | x :: l => by simp [toBR, toBL, toB, d_y, b_y, toBR_y l]
theorem fullR_y : ∀ (l : List Int), fullR (l.map d_y) = true
  | [] => rfl
  | x :: l => by simp [fullR, fullL, full, d_y, fullR_y l]
theorem pureR_y : ∀ (l : List Int), pureR (l.map d_y) = true
  | [] => rfl
  | x :: l => by simp [pureR, pureL, V.pure, d_y, pureR_y l]
theorem ft_y (a b : Nat) (l : List Int) : fullR (List.take a (List.drop b (l.map d_y))) = true := by rw [← List.map_drop, ← List.map_take]; exact fullR_y _
theorem tbt_y (a b : Nat) (l : List Int) : toBR (List.take a (List.drop b (l.map d_y))) = (List.take a (List.drop b l)).map b_y := by rw [← List.map_drop, ← List.map_take]; exact toBR_y _
theorem tb_y (l : List Int) : toBR (List.take (l.map d_y).length (List.drop 0 (l.map d_y))) = l.map b_y := by rw [List.drop_zero, List.take_length]; exact toBR_y l
theorem lenB_y (l : List Int) : ∀ r ∈ l.map b_y, r.length = 1 := by intro r h; obtain ⟨x, _, rfl⟩ := List.mem_map.1 h; rfl
theorem lenD_y (l : List Int) : ∀ r ∈ l.map d_y, r.length = 1 := by intro r h; obtain ⟨x, _, rfl⟩ := List.mem_map.1 h; rfl
theorem fromBR_y (n : Nat) (l : List Int) : fromBR n (l.map b_y) = l.map d_y := by simp [fromBR, b_y, d_y, fromB, Function.comp_def]
theorem copy_y (l : List Int) : (l.map d_y).all (fun x => x.all copyable) = true := by simp [d_y, copyable, Function.comp_def]
theorem ct_y (a b : Nat) (l : List Int) : ((List.take a (List.drop b (l.map d_y))).all fun x => x.all copyable) = true := by rw [← List.map_drop, ← List.map_take]; exact copy_y _
def strInts (s : ByteArray) : List Int := s.data.toList.map fun b => (b.toNat : Int)
theorem ly_y (a : Int) (l : List Int) : [D.val (.int .u8 a)] :: List.map d_y l = List.map d_y (a :: l) := rfl
theorem ly0_y (a : Int) : [[D.val (.int .u8 a)]] = List.map d_y [a] := rfl
theorem strInts_len (s : ByteArray) : (strInts s).length = s.size := by simp [strInts]
theorem byteRows_len (s : ByteArray) : (byteRows s).length = s.size := by simp [byteRows]
theorem byteRows_eq (s : ByteArray) : byteRows s = (strInts s).map d_y := by simp [byteRows, strInts, d_y, Function.comp_def]
theorem tsi (s : ByteArray) : List.take (ByteArray.size s) (List.map d_y (strInts s)) = List.map d_y (strInts s) := by rw [List.take_of_length_le (by simp [strInts_len])]
theorem tbr (s : ByteArray) : List.take (ByteArray.size s) (byteRows s) = List.map d_y (strInts s) := by rw [byteRows_eq, tsi]
theorem ints_y : ∀ (l : List Int), rowsInts .u8 (l.map d_y) = some l
  | [] => rfl
  | x :: l => by simp only [List.map_cons, d_y, rowsInts, ints_y l]; rfl
attribute [local simp] toBR_sisi fullR_sisi pureR_sisi lenB_sisi lenD_sisi fromBR_sisi copy_sisi toBR_LsisiEi fullR_LsisiEi pureR_LsisiEi lenB_LsisiEi lenD_LsisiEi toBR_b fullR_b pureR_b lenB_b lenD_b fromBR_b copy_b toBR_i fullR_i pureR_i lenB_i lenD_i fromBR_i copy_i toBR_s fullR_s pureR_s lenB_s lenD_s fromBR_s copy_s toBR_iLsEs fullR_iLsEs pureR_iLsEs lenB_iLsEs lenD_iLsEs toBR_LsisiE fullR_LsisiE pureR_LsisiE lenB_LsisiE lenD_LsisiE toBR_LsE fullR_LsE pureR_LsE lenB_LsE lenD_LsE strInts_len byteRows_len toBR_y fullR_y pureR_y lenB_y lenD_y fromBR_y copy_y

/-! loop.example/g00539/laws.szSession -/
def m135 (a0 : K_sisi) (a1 : Int) : Int :=
  if (decide ((IntKind.wrap .i64 (a1 - (ByteArray.size a0.f0 : Int))) < 0)) = true then (-1) else
  if (decide ((IntKind.wrap .i64 ((IntKind.wrap .i64 (a1 - (ByteArray.size a0.f0 : Int))) - (ByteArray.size a0.f2 : Int))) < 0)) = true then (-1) else
    (IntKind.wrap .i64 ((IntKind.wrap .i64 (a1 - (ByteArray.size a0.f0 : Int))) - (ByteArray.size a0.f2 : Int)))
theorem e135 {a0 : K_sisi} {a1 : Int} : Ev F X (.call 135 [(.agg [(.val (.string a0.f0)), (.val (.int .i64 a0.f1)), (.val (.string a0.f2)), (.val (.int .i64 a0.f3))]), (.one (.val (.int .i64 a1)))] [] [] [(.one (.val (.int .i64 (m135 a0 a1))))]) := by
  unfold m135
  by_cases h0 : (decide ((IntKind.wrap .i64 (a1 - (ByteArray.size a0.f0 : Int))) < 0)) = true
  · try simp only [if_pos h0]
    exact callP_ok (ps := []) (os := []) (rs := [(.one (.val (.int .i64 (-1))))]) (by kernel_rfl) (.f h0 (.h 20 (.b true) .nil))
  · try simp only [if_neg h0]
    by_cases h1 : (decide ((IntKind.wrap .i64 ((IntKind.wrap .i64 (a1 - (ByteArray.size a0.f0 : Int))) - (ByteArray.size a0.f2 : Int))) < 0)) = true
    · try simp only [if_pos h1]
      exact callP_ok (ps := []) (os := []) (rs := [(.one (.val (.int .i64 (-1))))]) (by kernel_rfl) (.f (nt h0) (.f h1 (.h 20 (.b false) (.h 37 (.b true) .nil))))
    · try simp only [if_neg h1]
      exact callP_ok (ps := []) (os := []) (rs := [(.one (.val (.int .i64 (IntKind.wrap .i64 ((IntKind.wrap .i64 (a1 - (ByteArray.size a0.f0 : Int))) - (ByteArray.size a0.f2 : Int))))))]) (by kernel_rfl) (.f (nt h0) (.f (nt h1) (.h 20 (.b false) (.h 37 (.b false) .nil))))
/-! loop 89_0 -/
inductive O89_0 where
  | k0 (w0 : Int) (w1 : Int) (w2 : Bool)
  | k1
def r89_0 (a0 : (List K_sisi)) : List K_sisi → Int → Int → O89_0
  | x0_89_0 :: l0_89_0, i_89_0, v0_89_0 =>
    if (decide ((m135 x0_89_0 v0_89_0) < 0)) = true then (O89_0.k1) else
    (r89_0 a0 l0_89_0 (i_89_0 + 1) (m135 x0_89_0 v0_89_0))
  | [], i_89_0, v0_89_0 => (O89_0.k0 v0_89_0 i_89_0 (decide (i_89_0 < ((List.length (List.map b_sisi a0)) : Int))))
def h89_0 (l0_0 : Nat) (a0 : (List K_sisi)) (a1 : Int) (i_89_0 : Int) (v0_89_0 : Int) : St := ⟨[(0, (.one (.bor l0_0 (List.map b_sisi a0)))), (1, (.one (.val (.int .i64 v0_89_0)))), (5, (.one (.val (.int .i64 i_89_0))))], []⟩
def ex89_0 : O89_0 → VX.Exit
  | .k0 _ _ _ => (.exit 0)
  | .k1 => .ret
def fin89_0 (l0_0 : Nat) (a0 : (List K_sisi)) (a1 : Int) : O89_0 → St
  | .k0 w0 w1 w2 => ⟨[(0, (.one (.bor l0_0 (List.map b_sisi a0)))), (1, (.one (.val (.int .i64 w0)))), (5, (.one (.val (.int .i64 w1)))), (15, (.one (.val (.bool w2))))], []⟩
  | .k1 => ⟨[(4, (.one (.val (.int .i64 (-1)))))], []⟩
theorem t89_0 {l0_0 : Nat} {a0 : (List K_sisi)} {a1 : Int} (hy0 : List.length a0 * 48 ≤ 140737488351232) : ∀ (l0_89_0 : List K_sisi) (p_89_0 : List K_sisi) (v0_89_0 : Int), p_89_0 ++ l0_89_0 = a0 → Ev F X (.code l89_0 (h89_0 l0_0 a0 a1 (List.length p_89_0 : Int) v0_89_0) (ex89_0 (r89_0 a0 l0_89_0 (List.length p_89_0 : Int) v0_89_0)) (fin89_0 l0_0 a0 a1 (r89_0 a0 l0_89_0 (List.length p_89_0 : Int) v0_89_0)))
  | [], p_89_0, v0_89_0, hp0 => by
    have hc : ¬ (decide ((List.length p_89_0 : Int) < ((List.length (List.map b_sisi a0)) : Int))) = true := by
      rw [← hp0]; simp only [List.length_map, List.length_set, List.length_append, List.length_replicate, List.length_cons, List.length_nil, decide_eq_true_eq]; omega
    have st := codeH_ok (F := F) (X := X) (c := b89_0) (t := 0) (hs := [(8, .b false)]) (σ := h89_0 l0_0 a0 a1 (List.length p_89_0 : Int) v0_89_0) (σ' := ⟨[(0, (.one (.bor l0_0 (List.map b_sisi a0)))), (1, (.one (.val (.int .i64 v0_89_0)))), (5, (.one (.val (.int .i64 (List.length p_89_0 : Int))))), (15, (.one (.val (.bool (decide ((List.length p_89_0 : Int) < ((List.length (List.map b_sisi a0)) : Int)))))))], []⟩) (e := (.exit 0)) (t' := 9) (hs' := []) (q := [(decide ((List.length p_89_0 : Int) < ((List.length (List.map b_sisi a0)) : Int))) = false]) (by kernel_rfl) ⟨(nt hc), trivial⟩
    rw [show (⟨[(0, (.one (.bor l0_0 (List.map b_sisi a0)))), (1, (.one (.val (.int .i64 v0_89_0)))), (5, (.one (.val (.int .i64 (List.length p_89_0 : Int))))), (15, (.one (.val (.bool (decide ((List.length p_89_0 : Int) < ((List.length (List.map b_sisi a0)) : Int)))))))], []⟩ : St) = fin89_0 l0_0 a0 a1 (.k0 v0_89_0 (List.length p_89_0 : Int) (decide ((List.length p_89_0 : Int) < ((List.length (List.map b_sisi a0)) : Int)))) from by first | rfl | (unfold fin89_0; simp [byteRows_eq, ints_y, List.take_of_length_le, d_sisi, d_LsisiEi, d_b, d_i, d_s, d_iLsEs, d_LsisiE, d_LsE, d_y, fromBR_sisi, fromBR_b, fromBR_i, fromBR_s, fromBR_y]; done)] at st
    exact .loopX st (show ((.exit 0) : VX.Exit) ≠ .normal from by simp)
  | x0_89_0 :: l0_89_0, p_89_0, v0_89_0, hp0 => by
    have hc : (decide ((List.length p_89_0 : Int) < ((List.length (List.map b_sisi a0)) : Int))) = true := by
      rw [← hp0]; simp only [List.length_map, List.length_set, List.length_append, List.length_replicate, List.length_cons, List.length_nil, decide_eq_true_eq]; omega
    have Hx0_89_0 : (a0)[Int.toNat (List.length p_89_0 : Int)]? = some x0_89_0 := by
      rw [← hp0, Int.toNat_natCast]; simp
    have hlen : List.length (a0) = List.length p_89_0 + List.length l0_89_0 + 1 := by rw [← hp0]; simp; omega
    have hw : IntKind.wrap .i64 ((List.length p_89_0 : Int) + 1) = (List.length p_89_0 : Int) + 1 := wrap64 (by omega)
    simp only [r89_0]
    by_cases h_89_0_1 : (decide ((m135 x0_89_0 v0_89_0) < 0)) = true
    · try simp only [if_pos h_89_0_1]
      have st := codeH_ok (F := F) (X := X) (c := b89_0) (t := 0) (hs := [(8, .b true), (14, .row [(.val (.string x0_89_0.f0)), (.val (.int .i64 x0_89_0.f1)), (.val (.string x0_89_0.f2)), (.val (.int .i64 x0_89_0.f3))]), (20, .ret [] [(.one (.val (.int .i64 (m135 x0_89_0 v0_89_0))))] [] []), (27, .b true)]) (σ := h89_0 l0_0 a0 a1 (List.length p_89_0 : Int) v0_89_0) (σ' := ⟨[(4, (.one (.val (.int .i64 (-1)))))], []⟩) (e := .ret) (t' := 30) (hs' := []) (q := [(decide ((List.length p_89_0 : Int) < ((List.length (List.map b_sisi a0)) : Int))) = true, 0 ≤ (List.length p_89_0 : Int), (List.map b_sisi a0)[(Int.toNat (List.length p_89_0 : Int))]? = some [(.val (.string x0_89_0.f0)), (.val (.int .i64 x0_89_0.f1)), (.val (.string x0_89_0.f2)), (.val (.int .i64 x0_89_0.f3))], Ev F X (.call 135 [(.agg [(.val (.string x0_89_0.f0)), (.val (.int .i64 x0_89_0.f1)), (.val (.string x0_89_0.f2)), (.val (.int .i64 x0_89_0.f3))]), (.one (.val (.int .i64 v0_89_0)))] [] [] [(.one (.val (.int .i64 (m135 x0_89_0 v0_89_0))))]), (decide ((m135 x0_89_0 v0_89_0) < 0)) = true]) (by kernel_rfl) ⟨hc, (by first | exact True.intro | with_reducible rfl | with_reducible assumption | omega | (simp only [decide_eq_true_eq] at *; omega) | (simp only [List.length_map, List.length_set, List.length_append, List.length_replicate, List.length_cons, List.length_nil]; omega) | (simp; omega) | (simp [List.take_of_length_le]; done) | assumption | trivial | (simp [*, byteRows_eq, ints_y]; done)), (by first | (rw [List.getElem?_map, Hx0_89_0]; rfl) | (rw [Nat.zero_add, List.getElem?_map, Hx0_89_0]; rfl) | exact True.intro | with_reducible rfl | with_reducible assumption | omega | (simp only [List.length_map, List.length_set, List.length_append, List.length_replicate, List.length_cons, List.length_nil]; omega) | (simp; done) | (simp; omega) | (simp [List.take_of_length_le]; done) | (simp [← List.map_take, ← List.map_drop]; done) | assumption | trivial | (simp [*, b_sisi, d_sisi, byteRows_eq, ints_y]; done)), (e135 (a0 := x0_89_0) (a1 := v0_89_0)), h_89_0_1, trivial⟩
      rw [show (⟨[(4, (.one (.val (.int .i64 (-1)))))], []⟩ : St) = fin89_0 l0_0 a0 a1 (.k1) from by first | rfl | (unfold fin89_0; simp [byteRows_eq, ints_y, List.take_of_length_le, d_sisi, d_LsisiEi, d_b, d_i, d_s, d_iLsEs, d_LsisiE, d_LsE, d_y, fromBR_sisi, fromBR_b, fromBR_i, fromBR_s, fromBR_y]; done)] at st
      exact .loopX st (show (.ret : VX.Exit) ≠ .normal from by simp)
    · try simp only [if_neg h_89_0_1]
      have st := codeH_ok (F := F) (X := X) (c := b89_0) (t := 0) (hs := [(8, .b true), (14, .row [(.val (.string x0_89_0.f0)), (.val (.int .i64 x0_89_0.f1)), (.val (.string x0_89_0.f2)), (.val (.int .i64 x0_89_0.f3))]), (20, .ret [] [(.one (.val (.int .i64 (m135 x0_89_0 v0_89_0))))] [] []), (27, .b false)]) (σ := h89_0 l0_0 a0 a1 (List.length p_89_0 : Int) v0_89_0) (σ' := ⟨[(0, (.one (.bor l0_0 (List.map b_sisi a0)))), (1, (.one (.val (.int .i64 (m135 x0_89_0 v0_89_0))))), (5, (.one (.val (.int .i64 (IntKind.wrap .i64 ((List.length p_89_0 : Int) + 1))))))], []⟩) (e := .normal) (t' := 34) (hs' := []) (q := [(decide ((List.length p_89_0 : Int) < ((List.length (List.map b_sisi a0)) : Int))) = true, 0 ≤ (List.length p_89_0 : Int), (List.map b_sisi a0)[(Int.toNat (List.length p_89_0 : Int))]? = some [(.val (.string x0_89_0.f0)), (.val (.int .i64 x0_89_0.f1)), (.val (.string x0_89_0.f2)), (.val (.int .i64 x0_89_0.f3))], Ev F X (.call 135 [(.agg [(.val (.string x0_89_0.f0)), (.val (.int .i64 x0_89_0.f1)), (.val (.string x0_89_0.f2)), (.val (.int .i64 x0_89_0.f3))]), (.one (.val (.int .i64 v0_89_0)))] [] [] [(.one (.val (.int .i64 (m135 x0_89_0 v0_89_0))))]), (decide ((m135 x0_89_0 v0_89_0) < 0)) = false, True]) (by kernel_rfl) ⟨hc, (by first | exact True.intro | with_reducible rfl | with_reducible assumption | omega | (simp only [decide_eq_true_eq] at *; omega) | (simp only [List.length_map, List.length_set, List.length_append, List.length_replicate, List.length_cons, List.length_nil]; omega) | (simp; omega) | (simp [List.take_of_length_le]; done) | assumption | trivial | (simp [*, byteRows_eq, ints_y]; done)), (by first | (rw [List.getElem?_map, Hx0_89_0]; rfl) | (rw [Nat.zero_add, List.getElem?_map, Hx0_89_0]; rfl) | exact True.intro | with_reducible rfl | with_reducible assumption | omega | (simp only [List.length_map, List.length_set, List.length_append, List.length_replicate, List.length_cons, List.length_nil]; omega) | (simp; done) | (simp; omega) | (simp [List.take_of_length_le]; done) | (simp [← List.map_take, ← List.map_drop]; done) | assumption | trivial | (simp [*, b_sisi, d_sisi, byteRows_eq, ints_y]; done)), (e135 (a0 := x0_89_0) (a1 := v0_89_0)), (nt h_89_0_1), trivial, trivial⟩
      have ih := t89_0 (l0_0 := l0_0) (a0 := a0) (a1 := a1) hy0 l0_89_0 (p_89_0 ++ [x0_89_0]) (m135 x0_89_0 v0_89_0) (by rw [List.append_assoc]; exact hp0)
      rw [show ((p_89_0 ++ [x0_89_0]).length : Int) = (p_89_0.length : Int) + 1 from by simp] at ih
      rw [show (⟨[(0, (.one (.bor l0_0 (List.map b_sisi a0)))), (1, (.one (.val (.int .i64 (m135 x0_89_0 v0_89_0))))), (5, (.one (.val (.int .i64 (IntKind.wrap .i64 ((List.length p_89_0 : Int) + 1))))))], []⟩ : St) = h89_0 l0_0 a0 a1 ((List.length p_89_0 : Int) + 1) (m135 x0_89_0 v0_89_0) from by first | (unfold h89_0; simp only [hw]; done) | (unfold h89_0; simp only [hw, List.length_map, List.length_set, List.length_append, List.length_replicate, List.length_cons, List.length_nil]; done) | (unfold h89_0; simp [hw, byteRows_eq, ints_y, List.take_of_length_le, d_sisi, d_LsisiEi, d_b, d_i, d_s, d_iLsEs, d_LsisiE, d_LsE, d_y, fromBR_sisi, fromBR_b, fromBR_i, fromBR_s, fromBR_y]; done)] at st
      exact .loopN st ih
/-! loop.example/g00539/laws.szSessionS -/
def m89 (a0 : (List K_sisi)) (a1 : Int) : Int :=
  if (decide ((IntKind.wrap .i64 (a1 - ((List.length (List.map b_sisi a0)) : Int))) < 0)) = true then (-1) else
  (match r89_0 a0 a0 0 (IntKind.wrap .i64 (a1 - ((List.length (List.map b_sisi a0)) : Int))) with | .k0 w0_89_0_1 w1_89_0_1 w2_89_0_1 => w0_89_0_1 | .k1 => (-1))
theorem e89 {l0_0 : Nat} {a0 : (List K_sisi)} {a1 : Int} (hy0 : List.length a0 * 48 ≤ 140737488351232) : Ev F X (.call 89 [(.one (.bor l0_0 (List.map b_sisi a0))), (.one (.val (.int .i64 a1)))] [] [] [(.one (.val (.int .i64 (m89 a0 a1))))]) := by
  unfold m89
  by_cases h0 : (decide ((IntKind.wrap .i64 (a1 - ((List.length (List.map b_sisi a0)) : Int))) < 0)) = true
  · try simp only [if_pos h0]
    exact callP_ok (ps := []) (os := []) (rs := [(.one (.val (.int .i64 (-1))))]) (by kernel_rfl) (.f h0 (.h 16 (.b true) .nil))
  · try simp only [if_neg h0]
    cases h1 : r89_0 a0 a0 0 (IntKind.wrap .i64 (a1 - ((List.length (List.map b_sisi a0)) : Int))) with
    | k0 w0_89_0_1 w1_89_0_1 w2_89_0_1 =>
      try dsimp only
      have f1 : (⟨[(0, (.one (.bor l0_0 (List.map b_sisi a0)))), (1, (.one (.val (.int .i64 (IntKind.wrap .i64 (a1 - ((List.length (List.map b_sisi a0)) : Int))))))), (5, (.one (.val (.int .i64 0))))], []⟩ : St) = h89_0 l0_0 a0 a1 0 (IntKind.wrap .i64 (a1 - ((List.length (List.map b_sisi a0)) : Int))) := (by first | rfl | (unfold h89_0; simp [byteRows_eq, ints_y, List.take_of_length_le, d_sisi, d_LsisiEi, d_b, d_i, d_s, d_iLsEs, d_LsisiE, d_LsE, d_y, fromBR_sisi, fromBR_b, fromBR_i, fromBR_s, fromBR_y]; done))
      have f2 : Ev F X (.code l89_0 (h89_0 l0_0 a0 a1 0 (IntKind.wrap .i64 (a1 - ((List.length (List.map b_sisi a0)) : Int)))) (.exit 0) ⟨[(0, (.one (.bor l0_0 (List.map b_sisi a0)))), (1, (.one (.val (.int .i64 w0_89_0_1)))), (5, (.one (.val (.int .i64 w1_89_0_1)))), (15, (.one (.val (.bool w2_89_0_1))))], []⟩) := (by have t : Ev F X (.code l89_0 (h89_0 l0_0 a0 a1 0 (IntKind.wrap .i64 (a1 - ((List.length (List.map b_sisi a0)) : Int)))) (ex89_0 (r89_0 a0 a0 0 (IntKind.wrap .i64 (a1 - ((List.length (List.map b_sisi a0)) : Int))))) (fin89_0 l0_0 a0 a1 (r89_0 a0 a0 0 (IntKind.wrap .i64 (a1 - ((List.length (List.map b_sisi a0)) : Int)))))) := t89_0 (l0_0 := l0_0) (a0 := a0) (a1 := a1) (by first | assumption | omega) a0 [] (IntKind.wrap .i64 (a1 - ((List.length (List.map b_sisi a0)) : Int))) rfl; rw [h1] at t; exact t)
      exact callP_ok (ps := []) (os := []) (rs := [(.one (.val (.int .i64 w0_89_0_1)))]) (by kernel_rfl) (.f (nt h0) (.f f1 (.f f2 (.h 16 (.b false) (.h 19 (.loop (h89_0 l0_0 a0 a1 0 (IntKind.wrap .i64 (a1 - ((List.length (List.map b_sisi a0)) : Int)))) (.exit 0) ⟨[(0, (.one (.bor l0_0 (List.map b_sisi a0)))), (1, (.one (.val (.int .i64 w0_89_0_1)))), (5, (.one (.val (.int .i64 w1_89_0_1)))), (15, (.one (.val (.bool w2_89_0_1))))], []⟩) .nil)))))
    | k1 =>
      try dsimp only
      have f1 : (⟨[(0, (.one (.bor l0_0 (List.map b_sisi a0)))), (1, (.one (.val (.int .i64 (IntKind.wrap .i64 (a1 - ((List.length (List.map b_sisi a0)) : Int))))))), (5, (.one (.val (.int .i64 0))))], []⟩ : St) = h89_0 l0_0 a0 a1 0 (IntKind.wrap .i64 (a1 - ((List.length (List.map b_sisi a0)) : Int))) := (by first | rfl | (unfold h89_0; simp [byteRows_eq, ints_y, List.take_of_length_le, d_sisi, d_LsisiEi, d_b, d_i, d_s, d_iLsEs, d_LsisiE, d_LsE, d_y, fromBR_sisi, fromBR_b, fromBR_i, fromBR_s, fromBR_y]; done))
      have f2 : Ev F X (.code l89_0 (h89_0 l0_0 a0 a1 0 (IntKind.wrap .i64 (a1 - ((List.length (List.map b_sisi a0)) : Int)))) .ret ⟨[(4, (.one (.val (.int .i64 (-1)))))], []⟩) := (by have t : Ev F X (.code l89_0 (h89_0 l0_0 a0 a1 0 (IntKind.wrap .i64 (a1 - ((List.length (List.map b_sisi a0)) : Int)))) (ex89_0 (r89_0 a0 a0 0 (IntKind.wrap .i64 (a1 - ((List.length (List.map b_sisi a0)) : Int))))) (fin89_0 l0_0 a0 a1 (r89_0 a0 a0 0 (IntKind.wrap .i64 (a1 - ((List.length (List.map b_sisi a0)) : Int)))))) := t89_0 (l0_0 := l0_0) (a0 := a0) (a1 := a1) (by first | assumption | omega) a0 [] (IntKind.wrap .i64 (a1 - ((List.length (List.map b_sisi a0)) : Int))) rfl; rw [h1] at t; exact t)
      exact callP_ok (ps := []) (os := []) (rs := [(.one (.val (.int .i64 (-1))))]) (by kernel_rfl) (.f (nt h0) (.f f1 (.f f2 (.h 16 (.b false) (.h 19 (.loop (h89_0 l0_0 a0 a1 0 (IntKind.wrap .i64 (a1 - ((List.length (List.map b_sisi a0)) : Int)))) .ret ⟨[(4, (.one (.val (.int .i64 (-1)))))], []⟩) .nil)))))
/-! loop.example/g00539/laws.szServer -/
def m44 (a0 : K_LsisiEi) (a1 : Int) : Int :=
  if (decide ((m89 a0.f0 a1) < 0)) = true then (-1) else
  (m89 a0.f0 a1)
theorem e44 {l0_0 : Nat} {a0 : K_LsisiEi} {a1 : Int} (hy0 : List.length a0.f0 * 48 ≤ 140737488351232) : Ev F X (.call 44 [(.agg [(.bor l0_0 (List.map b_sisi a0.f0)), (.val (.int .i64 a0.f1))]), (.one (.val (.int .i64 a1)))] [] [] [(.one (.val (.int .i64 (m44 a0 a1))))]) := by
  unfold m44
  have f0 : Ev F X (.call 89 [(.one (.bor (l0_0 + 1) (List.map b_sisi a0.f0))), (.one (.val (.int .i64 a1)))] [] [] [(.one (.val (.int .i64 (m89 a0.f0 a1))))]) := (e89 (a0 := a0.f0) (a1 := a1) (by first | with_reducible assumption | omega | assumption | (simp only [List.length_map]; omega) | (simp; omega)))
  by_cases h0 : (decide ((m89 a0.f0 a1) < 0)) = true
  · try simp only [if_pos h0]
    exact callP_ok (ps := []) (os := []) (rs := [(.one (.val (.int .i64 (-1))))]) (by kernel_rfl) (.r 11 [] [] f0 (.f h0 (.h 18 (.b true) .nil)))
  · try simp only [if_neg h0]
    exact callP_ok (ps := []) (os := []) (rs := [(.one (.val (.int .i64 (m89 a0.f0 a1))))]) (by kernel_rfl) (.r 11 [] [] f0 (.f (nt h0) (.h 18 (.b false) .nil)))
/-! loop.example/g00539/laws.toSession -/
def m137 (a0 : K_sisi) : K_sisi :=
  a0
theorem e137 {a0 : K_sisi} : Ev F X (.call 137 [(.agg [(.val (.string a0.f0)), (.val (.int .i64 a0.f1)), (.val (.string a0.f2)), (.val (.int .i64 a0.f3))])] [] [] [(.agg [(.val (.string a0.f0)), (.val (.int .i64 a0.f1)), (.val (.string a0.f2)), (.val (.int .i64 a0.f3))])]) := by
  exact callP_ok (ps := []) (os := []) (rs := [(.agg [(.val (.string a0.f0)), (.val (.int .i64 a0.f1)), (.val (.string a0.f2)), (.val (.int .i64 a0.f3))])]) (by kernel_rfl) .nil
/-! loop 91_0 -/
inductive O91_0 where
  | k0 (w0 : List K_sisi) (w1 : Int) (w2 : Bool)
def r91_0 (a0 : (List K_sisi)) : List K_sisi → Int → List K_sisi → O91_0
  | x0_91_0 :: l0_91_0, i_91_0, v0_91_0 =>
    (r91_0 a0 l0_91_0 (i_91_0 + 1) (List.set v0_91_0 (Int.toNat i_91_0) x0_91_0))
  | [], i_91_0, v0_91_0 => (O91_0.k0 v0_91_0 i_91_0 (decide (i_91_0 < ((List.length (List.map b_sisi a0)) : Int))))
def h91_0 (l0_0 : Nat) (a0 : (List K_sisi)) (i_91_0 : Int) (v0_91_0 : List K_sisi) : St := ⟨[(0, (.one (.bor l0_0 (List.map b_sisi a0)))), (3, (.one (.ref ⟨(3, 0, 0), [], 0, (Int.toNat ((List.length (List.map b_sisi a0)) : Int))⟩))), (4, (.one (.val (.int .i64 i_91_0))))], [((3, 0, 0), .live ⟨4, (List.map d_sisi v0_91_0), []⟩)]⟩
def ex91_0 : O91_0 → VX.Exit
  | .k0 _ _ _ => (.exit 0)
def fin91_0 (l0_0 : Nat) (a0 : (List K_sisi)) : O91_0 → St
  | .k0 w0 w1 w2 => ⟨[(0, (.one (.bor l0_0 (List.map b_sisi a0)))), (3, (.one (.ref ⟨(3, 0, 0), [], 0, (Int.toNat ((List.length (List.map b_sisi a0)) : Int))⟩))), (4, (.one (.val (.int .i64 w1)))), (11, (.one (.val (.bool w2))))], [((3, 0, 0), .live ⟨4, (List.map d_sisi w0), []⟩)]⟩
theorem t91_0 {l0_0 : Nat} {a0 : (List K_sisi)} (hy0 : List.length a0 * 48 ≤ 140737488351232) : ∀ (l0_91_0 : List K_sisi) (p_91_0 : List K_sisi) (v0_91_0 : List K_sisi), p_91_0 ++ l0_91_0 = a0 → List.length v0_91_0 = (Int.toNat ((List.length (List.map b_sisi a0)) : Int)) → Ev F X (.code l91_0 (h91_0 l0_0 a0 (List.length p_91_0 : Int) v0_91_0) (ex91_0 (r91_0 a0 l0_91_0 (List.length p_91_0 : Int) v0_91_0)) (fin91_0 l0_0 a0 (r91_0 a0 l0_91_0 (List.length p_91_0 : Int) v0_91_0)))
  | [], p_91_0, v0_91_0, hp0, hi0 => by
    have hc : ¬ (decide ((List.length p_91_0 : Int) < ((List.length (List.map b_sisi a0)) : Int))) = true := by
      rw [← hp0]; simp only [List.length_map, List.length_set, List.length_append, List.length_replicate, List.length_cons, List.length_nil, decide_eq_true_eq]; omega
    have hj0 := hi0; try simp only [List.length_map, List.length_set, List.length_append, List.length_replicate, List.length_cons, List.length_nil, Int.toNat_natCast] at hj0
    have st := codeH_ok (F := F) (X := X) (c := b91_0) (t := 0) (hs := [(8, .b false)]) (σ := h91_0 l0_0 a0 (List.length p_91_0 : Int) v0_91_0) (σ' := ⟨[(0, (.one (.bor l0_0 (List.map b_sisi a0)))), (3, (.one (.ref ⟨(3, 0, 0), [], 0, (Int.toNat ((List.length (List.map b_sisi a0)) : Int))⟩))), (4, (.one (.val (.int .i64 (List.length p_91_0 : Int))))), (11, (.one (.val (.bool (decide ((List.length p_91_0 : Int) < ((List.length (List.map b_sisi a0)) : Int)))))))], [((3, 0, 0), .live ⟨4, (List.map d_sisi v0_91_0), []⟩)]⟩) (e := (.exit 0)) (t' := 9) (hs' := []) (q := [(decide ((List.length p_91_0 : Int) < ((List.length (List.map b_sisi a0)) : Int))) = false]) (by kernel_rfl) ⟨(nt hc), trivial⟩
    rw [show (⟨[(0, (.one (.bor l0_0 (List.map b_sisi a0)))), (3, (.one (.ref ⟨(3, 0, 0), [], 0, (Int.toNat ((List.length (List.map b_sisi a0)) : Int))⟩))), (4, (.one (.val (.int .i64 (List.length p_91_0 : Int))))), (11, (.one (.val (.bool (decide ((List.length p_91_0 : Int) < ((List.length (List.map b_sisi a0)) : Int)))))))], [((3, 0, 0), .live ⟨4, (List.map d_sisi v0_91_0), []⟩)]⟩ : St) = fin91_0 l0_0 a0 (.k0 v0_91_0 (List.length p_91_0 : Int) (decide ((List.length p_91_0 : Int) < ((List.length (List.map b_sisi a0)) : Int)))) from by first | rfl | (unfold fin91_0; simp [byteRows_eq, ints_y, List.take_of_length_le, d_sisi, d_LsisiEi, d_b, d_i, d_s, d_iLsEs, d_LsisiE, d_LsE, d_y, fromBR_sisi, fromBR_b, fromBR_i, fromBR_s, fromBR_y]; done)] at st
    exact .loopX st (show ((.exit 0) : VX.Exit) ≠ .normal from by simp)
  | x0_91_0 :: l0_91_0, p_91_0, v0_91_0, hp0, hi0 => by
    have hc : (decide ((List.length p_91_0 : Int) < ((List.length (List.map b_sisi a0)) : Int))) = true := by
      rw [← hp0]; simp only [List.length_map, List.length_set, List.length_append, List.length_replicate, List.length_cons, List.length_nil, decide_eq_true_eq]; omega
    have Hx0_91_0 : (a0)[Int.toNat (List.length p_91_0 : Int)]? = some x0_91_0 := by
      rw [← hp0, Int.toNat_natCast]; simp
    have hlen : List.length (a0) = List.length p_91_0 + List.length l0_91_0 + 1 := by rw [← hp0]; simp; omega
    have hw : IntKind.wrap .i64 ((List.length p_91_0 : Int) + 1) = (List.length p_91_0 : Int) + 1 := wrap64 (by omega)
    have hj0 := hi0; try simp only [List.length_map, List.length_set, List.length_append, List.length_replicate, List.length_cons, List.length_nil, Int.toNat_natCast] at hj0
    obtain ⟨x1_91_0, Hx1_91_0⟩ : ∃ y, v0_91_0[Int.toNat (List.length p_91_0 : Int)]? = some y := ⟨_, List.getElem?_eq_getElem (by omega)⟩
    simp only [r91_0]
    have st := codeH_ok (F := F) (X := X) (c := b91_0) (t := 0) (hs := [(8, .b true), (18, .row [(.val (.string x0_91_0.f0)), (.val (.int .i64 x0_91_0.f1)), (.val (.string x0_91_0.f2)), (.val (.int .i64 x0_91_0.f3))]), (22, .ret [] [(.agg [(.val (.string x0_91_0.f0)), (.val (.int .i64 x0_91_0.f1)), (.val (.string x0_91_0.f2)), (.val (.int .i64 x0_91_0.f3))])] [] []), (26, .rowD [(.val (.string x1_91_0.f0)), (.val (.int .i64 x1_91_0.f1)), (.val (.string x1_91_0.f2)), (.val (.int .i64 x1_91_0.f3))]), (27, .norm (3, 0, 0) (List.map d_sisi (List.set v0_91_0 (Int.toNat (List.length p_91_0 : Int)) x0_91_0)))]) (σ := h91_0 l0_0 a0 (List.length p_91_0 : Int) v0_91_0) (σ' := ⟨[(0, (.one (.bor l0_0 (List.map b_sisi a0)))), (3, (.one (.ref ⟨(3, 0, 0), [], 0, (Int.toNat ((List.length (List.map b_sisi a0)) : Int))⟩))), (4, (.one (.val (.int .i64 (IntKind.wrap .i64 ((List.length p_91_0 : Int) + 1))))))], [((3, 0, 0), .live ⟨4, (List.map d_sisi (List.set v0_91_0 (Int.toNat (List.length p_91_0 : Int)) x0_91_0)), []⟩)]⟩) (e := .normal) (t' := 34) (hs' := []) (q := [(decide ((List.length p_91_0 : Int) < ((List.length (List.map b_sisi a0)) : Int))) = true, 0 ≤ (List.length p_91_0 : Int), (List.map b_sisi a0)[(Int.toNat (List.length p_91_0 : Int))]? = some [(.val (.string x0_91_0.f0)), (.val (.int .i64 x0_91_0.f1)), (.val (.string x0_91_0.f2)), (.val (.int .i64 x0_91_0.f3))], Ev F X (.call 137 [(.agg [(.val (.string x0_91_0.f0)), (.val (.int .i64 x0_91_0.f1)), (.val (.string x0_91_0.f2)), (.val (.int .i64 x0_91_0.f3))])] [] [] [(.agg [(.val (.string x0_91_0.f0)), (.val (.int .i64 x0_91_0.f1)), (.val (.string x0_91_0.f2)), (.val (.int .i64 x0_91_0.f3))])]), 0 + (Int.toNat ((List.length (List.map b_sisi a0)) : Int)) ≤ (List.length (List.map d_sisi v0_91_0)), 0 ≤ (List.length p_91_0 : Int) ∧ (List.length p_91_0 : Int) < ((Int.toNat ((List.length (List.map b_sisi a0)) : Int)) : Int), (List.map d_sisi v0_91_0)[(0 + (Int.toNat (List.length p_91_0 : Int)))]? = some [(.val (.string x1_91_0.f0)), (.val (.int .i64 x1_91_0.f1)), (.val (.string x1_91_0.f2)), (.val (.int .i64 x1_91_0.f3))], (List.set (List.map d_sisi v0_91_0) (0 + (Int.toNat (List.length p_91_0 : Int))) [(.val (.string x0_91_0.f0)), (.val (.int .i64 x0_91_0.f1)), (.val (.string x0_91_0.f2)), (.val (.int .i64 x0_91_0.f3))]) = (List.map d_sisi (List.set v0_91_0 (Int.toNat (List.length p_91_0 : Int)) x0_91_0)), True]) (by kernel_rfl) ⟨hc, (by first | exact True.intro | with_reducible rfl | with_reducible assumption | omega | (simp only [decide_eq_true_eq] at *; omega) | (simp only [List.length_map, List.length_set, List.length_append, List.length_replicate, List.length_cons, List.length_nil]; omega) | (simp; omega) | (simp [List.take_of_length_le]; done) | assumption | trivial | (simp [*, byteRows_eq, ints_y]; done)), (by first | (rw [List.getElem?_map, Hx0_91_0]; rfl) | (rw [Nat.zero_add, List.getElem?_map, Hx0_91_0]; rfl) | exact True.intro | with_reducible rfl | with_reducible assumption | omega | (simp only [List.length_map, List.length_set, List.length_append, List.length_replicate, List.length_cons, List.length_nil]; omega) | (simp; done) | (simp; omega) | (simp [List.take_of_length_le]; done) | (simp [← List.map_take, ← List.map_drop]; done) | assumption | trivial | (simp [*, b_sisi, d_sisi, byteRows_eq, ints_y]; done)), (e137 (a0 := x0_91_0)), (by first | exact True.intro | with_reducible rfl | with_reducible assumption | omega | (simp only [decide_eq_true_eq] at *; omega) | (simp only [List.length_map]; omega) | (simp; omega) | (simp [List.take_of_length_le]; done) | assumption | trivial | (simp [*, b_sisi, d_sisi, byteRows_eq, ints_y]; done)), (by first | exact True.intro | with_reducible rfl | with_reducible assumption | omega | (simp only [decide_eq_true_eq] at *; omega) | (simp only [List.length_map]; omega) | (simp; omega) | (simp [List.take_of_length_le]; done) | assumption | trivial | (simp [*, b_sisi, d_sisi, byteRows_eq, ints_y]; done)), (by first | (rw [List.getElem?_map, Hx1_91_0]; rfl) | (rw [Nat.zero_add, List.getElem?_map, Hx1_91_0]; rfl) | exact True.intro | with_reducible rfl | with_reducible assumption | omega | (simp only [List.length_map, List.length_set, List.length_append, List.length_replicate, List.length_cons, List.length_nil]; omega) | (simp; done) | (simp; omega) | (simp [List.take_of_length_le]; done) | (simp [← List.map_take, ← List.map_drop]; done) | assumption | trivial | (simp [*, b_sisi, d_sisi, byteRows_eq, ints_y]; done)), (by first | rfl | (simp [byteRows_eq, ints_y, List.take_of_length_le, d_sisi, d_LsisiEi, d_b, d_i, d_s, d_iLsEs, d_LsisiE, d_LsE, d_y, fromBR_sisi, fromBR_b, fromBR_i, fromBR_s, fromBR_y]; done) | (simp [List.map_set, List.map_take, List.map_drop, byteRows_eq, ints_y, List.take_of_length_le, d_sisi, d_LsisiEi, d_b, d_i, d_s, d_iLsEs, d_LsisiE, d_LsE, d_y, fromBR_sisi, fromBR_b, fromBR_i, fromBR_s, fromBR_y]; done)), trivial, trivial⟩
    have ih := t91_0 (l0_0 := l0_0) (a0 := a0) hy0 l0_91_0 (p_91_0 ++ [x0_91_0]) (List.set v0_91_0 (Int.toNat (List.length p_91_0 : Int)) x0_91_0) (by rw [List.append_assoc]; exact hp0) (by first | omega | (simp only [List.length_map, List.length_set, List.length_append, List.length_replicate, List.length_cons, List.length_nil]; omega) | (simp only [List.length_map, List.length_set, List.length_append, List.length_replicate, List.length_cons, List.length_nil]; assumption) | assumption | (simp only [List.length_map, List.length_set, List.length_append, List.length_replicate, List.length_cons, List.length_nil] at *; omega))
    rw [show ((p_91_0 ++ [x0_91_0]).length : Int) = (p_91_0.length : Int) + 1 from by simp] at ih
    rw [show (⟨[(0, (.one (.bor l0_0 (List.map b_sisi a0)))), (3, (.one (.ref ⟨(3, 0, 0), [], 0, (Int.toNat ((List.length (List.map b_sisi a0)) : Int))⟩))), (4, (.one (.val (.int .i64 (IntKind.wrap .i64 ((List.length p_91_0 : Int) + 1))))))], [((3, 0, 0), .live ⟨4, (List.map d_sisi (List.set v0_91_0 (Int.toNat (List.length p_91_0 : Int)) x0_91_0)), []⟩)]⟩ : St) = h91_0 l0_0 a0 ((List.length p_91_0 : Int) + 1) (List.set v0_91_0 (Int.toNat (List.length p_91_0 : Int)) x0_91_0) from by first | (unfold h91_0; simp only [hw]; done) | (unfold h91_0; simp only [hw, List.length_map, List.length_set, List.length_append, List.length_replicate, List.length_cons, List.length_nil]; done) | (unfold h91_0; simp [hw, byteRows_eq, ints_y, List.take_of_length_le, d_sisi, d_LsisiEi, d_b, d_i, d_s, d_iLsEs, d_LsisiE, d_LsE, d_y, fromBR_sisi, fromBR_b, fromBR_i, fromBR_s, fromBR_y]; done)] at st
    exact .loopN st ih
def post91_0 (n0 : Nat) : O91_0 → Prop
  | .k0 w0 _ _ => List.length w0 = n0
theorem z91_0 {a0 : (List K_sisi)} : ∀ (l0_91_0 : List K_sisi) (i_91_0 : Int) (v0_91_0 : List K_sisi), post91_0 (List.length v0_91_0) (r91_0 a0 l0_91_0 i_91_0 v0_91_0)
  | [], i_91_0, v0_91_0 => by
    first | trivial | (simp only [post91_0, List.length_nil, Nat.add_zero]; done) | (simp [post91_0]; done)
  | x0_91_0 :: l0_91_0, i_91_0, v0_91_0 => by
    simp only [r91_0]
    have z := z91_0 (a0 := a0) l0_91_0 (i_91_0 + 1) (List.set v0_91_0 (Int.toNat i_91_0) x0_91_0)
    rw [show (List.length v0_91_0) = (List.length (List.set v0_91_0 (Int.toNat i_91_0) x0_91_0)) from by first | omega | (simp only [List.length_map, List.length_set, List.length_append, List.length_replicate, List.length_cons, List.length_nil]; done) | (simp only [List.length_map, List.length_set, List.length_append, List.length_replicate, List.length_cons, List.length_nil]; omega)]
    exact z
/-! loop.example/g00539/laws.toSessionS -/
def m91 (a0 : (List K_sisi)) : (List K_sisi) :=
  (match r91_0 a0 a0 0 (List.replicate (Int.toNat ((List.length (List.map b_sisi a0)) : Int)) (K_sisi.mk (⟨#[]⟩ : ByteArray) 0 (⟨#[]⟩ : ByteArray) 0)) with | .k0 w0_91_0_1 w1_91_0_1 w2_91_0_1 => w0_91_0_1)
theorem e91 {l0_0 : Nat} {a0 : (List K_sisi)} (hy0 : List.length a0 * 48 ≤ 140737488351232) : Ev F X (.call 91 [(.one (.bor l0_0 (List.map b_sisi a0)))] [] [] [(.one (.own 4 (List.map d_sisi (m91 a0))))]) := by
  unfold m91
  have f0 : 0 ≤ ((List.length (List.map b_sisi a0)) : Int) ∧ ((List.length (List.map b_sisi a0)) : Int) ≤ ((List.length (List.map b_sisi a0)) : Int) ∧ ((List.length (List.map b_sisi a0)) : Int) ≤ 140737488355328 ∧ ((List.length (List.map b_sisi a0)) : Int) * 48 ≤ 140737488355328 := (by first | exact True.intro | with_reducible rfl | with_reducible assumption | omega | (simp only [decide_eq_true_eq] at *; omega) | (simp only [List.length_map]; omega) | (simp; omega) | (simp [List.take_of_length_le]; done) | assumption | trivial | (simp [*, b_sisi, d_sisi, byteRows_eq, ints_y]; done))
  have f1 : (List.replicate (Int.toNat ((List.length (List.map b_sisi a0)) : Int)) [(.val (.string (⟨#[]⟩ : ByteArray))), (.val (.int .i64 0)), (.val (.string (⟨#[]⟩ : ByteArray))), (.val (.int .i64 0))]) = (List.map d_sisi (List.replicate (Int.toNat ((List.length (List.map b_sisi a0)) : Int)) (K_sisi.mk (⟨#[]⟩ : ByteArray) 0 (⟨#[]⟩ : ByteArray) 0))) := (by first | rfl | (simp [byteRows_eq, ints_y, List.take_of_length_le, d_sisi, d_LsisiEi, d_b, d_i, d_s, d_iLsEs, d_LsisiE, d_LsE, d_y, fromBR_sisi, fromBR_b, fromBR_i, fromBR_s, fromBR_y]; done) | (simp [List.map_set, List.map_take, List.map_drop, byteRows_eq, ints_y, List.take_of_length_le, d_sisi, d_LsisiEi, d_b, d_i, d_s, d_iLsEs, d_LsisiE, d_LsE, d_y, fromBR_sisi, fromBR_b, fromBR_i, fromBR_s, fromBR_y]; done))
  cases h0 : r91_0 a0 a0 0 (List.replicate (Int.toNat ((List.length (List.map b_sisi a0)) : Int)) (K_sisi.mk (⟨#[]⟩ : ByteArray) 0 (⟨#[]⟩ : ByteArray) 0)) with
  | k0 w0_91_0_1 w1_91_0_1 w2_91_0_1 =>
    try dsimp only
    have zh0 := z91_0 (a0 := a0) a0 0 (List.replicate (Int.toNat ((List.length (List.map b_sisi a0)) : Int)) (K_sisi.mk (⟨#[]⟩ : ByteArray) 0 (⟨#[]⟩ : ByteArray) 0)); rw [h0] at zh0; simp only [post91_0, List.length_map, List.length_set, List.length_append, List.length_replicate, List.length_cons, List.length_nil, Int.toNat_natCast] at zh0
    have f2 : (⟨[(0, (.one (.bor l0_0 (List.map b_sisi a0)))), (3, (.one (.ref ⟨(3, 0, 0), [], 0, (Int.toNat ((List.length (List.map b_sisi a0)) : Int))⟩))), (4, (.one (.val (.int .i64 0))))], [((3, 0, 0), .live ⟨4, (List.map d_sisi (List.replicate (Int.toNat ((List.length (List.map b_sisi a0)) : Int)) (K_sisi.mk (⟨#[]⟩ : ByteArray) 0 (⟨#[]⟩ : ByteArray) 0))), []⟩)]⟩ : St) = h91_0 l0_0 a0 0 (List.replicate (Int.toNat ((List.length (List.map b_sisi a0)) : Int)) (K_sisi.mk (⟨#[]⟩ : ByteArray) 0 (⟨#[]⟩ : ByteArray) 0)) := (by first | rfl | (unfold h91_0; simp [byteRows_eq, ints_y, List.take_of_length_le, d_sisi, d_LsisiEi, d_b, d_i, d_s, d_iLsEs, d_LsisiE, d_LsE, d_y, fromBR_sisi, fromBR_b, fromBR_i, fromBR_s, fromBR_y]; done))
    have f3 : Ev F X (.code l91_0 (h91_0 l0_0 a0 0 (List.replicate (Int.toNat ((List.length (List.map b_sisi a0)) : Int)) (K_sisi.mk (⟨#[]⟩ : ByteArray) 0 (⟨#[]⟩ : ByteArray) 0))) (.exit 0) ⟨[(0, (.one (.bor l0_0 (List.map b_sisi a0)))), (3, (.one (.ref ⟨(3, 0, 0), [], 0, (Int.toNat ((List.length (List.map b_sisi a0)) : Int))⟩))), (4, (.one (.val (.int .i64 w1_91_0_1)))), (11, (.one (.val (.bool w2_91_0_1))))], [((3, 0, 0), .live ⟨4, (List.map d_sisi w0_91_0_1), []⟩)]⟩) := (by have t : Ev F X (.code l91_0 (h91_0 l0_0 a0 0 (List.replicate (Int.toNat ((List.length (List.map b_sisi a0)) : Int)) (K_sisi.mk (⟨#[]⟩ : ByteArray) 0 (⟨#[]⟩ : ByteArray) 0))) (ex91_0 (r91_0 a0 a0 0 (List.replicate (Int.toNat ((List.length (List.map b_sisi a0)) : Int)) (K_sisi.mk (⟨#[]⟩ : ByteArray) 0 (⟨#[]⟩ : ByteArray) 0)))) (fin91_0 l0_0 a0 (r91_0 a0 a0 0 (List.replicate (Int.toNat ((List.length (List.map b_sisi a0)) : Int)) (K_sisi.mk (⟨#[]⟩ : ByteArray) 0 (⟨#[]⟩ : ByteArray) 0))))) := t91_0 (l0_0 := l0_0) (a0 := a0) (by first | assumption | omega) a0 [] (List.replicate (Int.toNat ((List.length (List.map b_sisi a0)) : Int)) (K_sisi.mk (⟨#[]⟩ : ByteArray) 0 (⟨#[]⟩ : ByteArray) 0)) rfl (by first | rfl | omega | (simp only [List.length_map, List.length_set, List.length_append, List.length_replicate, List.length_cons, List.length_nil]; done) | (simp only [List.length_map, List.length_set, List.length_append, List.length_replicate, List.length_cons, List.length_nil]; omega) | (simp; done)); rw [h0] at t; exact t)
    have f4 : 0 = 0 := rfl
    have f5 : (Int.toNat ((List.length (List.map b_sisi a0)) : Int)) = (List.length (List.map d_sisi w0_91_0_1)) := (by first | exact True.intro | with_reducible rfl | with_reducible assumption | omega | (simp only [List.length_map]; omega) | (simp; done) | (simp; omega) | (simp [List.take_of_length_le]; done) | (simp [← List.map_take, ← List.map_drop]; done) | assumption | trivial | (simp [*, b_sisi, d_sisi, byteRows_eq, ints_y]; done))
    have f6 : pureR (List.map d_sisi w0_91_0_1) = true := (pureR_sisi _)
    exact callP_ok (ps := []) (os := []) (rs := [(.one (.own 4 (List.map d_sisi w0_91_0_1)))]) (by kernel_rfl) (.f f0 (.f f1 (.f f2 (.f f3 (.f f4 (.f f5 (.f f6 (.h 10 (.norm (3, 0, 0) (List.map d_sisi (List.replicate (Int.toNat ((List.length (List.map b_sisi a0)) : Int)) (K_sisi.mk (⟨#[]⟩ : ByteArray) 0 (⟨#[]⟩ : ByteArray) 0)))) (.h 13 (.loop (h91_0 l0_0 a0 0 (List.replicate (Int.toNat ((List.length (List.map b_sisi a0)) : Int)) (K_sisi.mk (⟨#[]⟩ : ByteArray) 0 (⟨#[]⟩ : ByteArray) 0))) (.exit 0) ⟨[(0, (.one (.bor l0_0 (List.map b_sisi a0)))), (3, (.one (.ref ⟨(3, 0, 0), [], 0, (Int.toNat ((List.length (List.map b_sisi a0)) : Int))⟩))), (4, (.one (.val (.int .i64 w1_91_0_1)))), (11, (.one (.val (.bool w2_91_0_1))))], [((3, 0, 0), .live ⟨4, (List.map d_sisi w0_91_0_1), []⟩)]⟩) .nil)))))))))
theorem c91_0 (a0 : List K_sisi) : ∀ (l p q : List K_sisi), q.length = l.length → ∃ w1 w2, r91_0 a0 l (p.length : Int) (p ++ q) = .k0 (p ++ l) w1 w2
  | [], p, [], _ => ⟨_, _, rfl⟩
  | [], _, _ :: _, h => by simp at h
  | _ :: _, _, [], h => by simp at h
  | x :: l, p, y :: q, h => by
    have ih := c91_0 a0 l (p ++ [x]) q (by simpa using h)
    have e : List.set (p ++ y :: q) (Int.toNat (p.length : Int)) x = (p ++ [x]) ++ q := by simp
    have e2 : ((p ++ [x]).length : Int) = (p.length : Int) + 1 := by simp
    rw [e2] at ih
    simp only [r91_0]
    rw [show p ++ x :: l = (p ++ [x]) ++ l by simp]
    first | (rw [e]; exact ih) | (simp only [e]; exact ih)
theorem q91 (a0 : (List K_sisi)) (hy0 : List.length a0 * 48 ≤ 140737488351232) : (m91 a0) = a0 := by
  have h := c91_0 a0 a0 [] (List.replicate (Int.toNat ((List.length (List.map b_sisi a0)) : Int)) (K_sisi.mk (⟨#[]⟩ : ByteArray) 0 (⟨#[]⟩ : ByteArray) 0)) (by simp)
  unfold m91
  simp only [List.nil_append, List.length_nil] at h
  obtain ⟨_, _, h⟩ := h
  rw [show ((0 : Nat) : Int) = 0 from rfl] at h
  rw [h]
theorem g91 {l0_0 : Nat} {a0 : (List K_sisi)} (hy0 : List.length a0 * 48 ≤ 140737488351232) : Ev F X (.call 91 [(.one (.bor l0_0 (List.map b_sisi a0)))] [] [] [(.one (.own 4 (List.map d_sisi a0)))]) := by
  have t := e91 (l0_0 := l0_0) (a0 := a0) hy0
  rw [q91 a0 hy0] at t
  exact t
/-! loop.example/g00539/laws.toServer -/
def m46 (a0 : K_LsisiEi) : K_LsisiEi :=
  a0
theorem e46 {l0_0 : Nat} {a0 : K_LsisiEi} (hy0 : List.length a0.f0 * 48 ≤ 140737488351232) : Ev F X (.call 46 [(.agg [(.bor l0_0 (List.map b_sisi a0.f0)), (.val (.int .i64 a0.f1))])] [] [] [(.agg [(.own 4 (List.map d_sisi a0.f0)), (.val (.int .i64 a0.f1))])]) := by
  have f0 : Ev F X (.call 91 [(.one (.bor (l0_0 + 1) (List.map b_sisi a0.f0)))] [] [] [(.one (.own 4 (List.map d_sisi a0.f0)))]) := (g91 (a0 := a0.f0) (by first | with_reducible assumption | omega | assumption | (simp only [List.length_map]; omega) | (simp; omega)))
  have f1 : 0 = 0 := rfl
  have f2 : (List.length (List.map d_sisi a0.f0)) = (List.length (List.map d_sisi a0.f0)) := rfl
  have f3 : 0 = 0 := rfl
  have f4 : (List.length (List.map d_sisi a0.f0)) = (List.length (List.map d_sisi a0.f0)) := rfl
  have f5 : pureR (List.map d_sisi a0.f0) = true := (pureR_sisi _)
  exact callP_ok (ps := []) (os := []) (rs := [(.agg [(.own 4 (List.map d_sisi a0.f0)), (.val (.int .i64 a0.f1))])]) (by kernel_rfl) (.r 11 [] [] f0 (.f f1 (.f f2 (.f f3 (.f f4 (.f f5 .nil))))))
/-! loop.example/g00539/laws.eqSession -/
def m143 (a0 : K_sisi) (a1 : K_sisi) : Bool :=
  if (!(a0.f0.toList == a1.f0.toList)) = true then false else
  if (a0.f1 != a1.f1) = true then false else
    if (!(a0.f2.toList == a1.f2.toList)) = true then false else
      if (a0.f3 != a1.f3) = true then false else
        true
theorem e143 {a0 : K_sisi} {a1 : K_sisi} : Ev F X (.call 143 [(.agg [(.val (.string a0.f0)), (.val (.int .i64 a0.f1)), (.val (.string a0.f2)), (.val (.int .i64 a0.f3))]), (.agg [(.val (.string a1.f0)), (.val (.int .i64 a1.f1)), (.val (.string a1.f2)), (.val (.int .i64 a1.f3))])] [] [] [(.one (.val (.bool (m143 a0 a1))))]) := by
  unfold m143
  by_cases h0 : (!(a0.f0.toList == a1.f0.toList)) = true
  · try simp only [if_pos h0]
    exact callP_ok (ps := []) (os := []) (rs := [(.one (.val (.bool false)))]) (by kernel_rfl) (.f h0 (.h 16 (.b true) .nil))
  · try simp only [if_neg h0]
    by_cases h1 : (a0.f1 != a1.f1) = true
    · try simp only [if_pos h1]
      exact callP_ok (ps := []) (os := []) (rs := [(.one (.val (.bool false)))]) (by kernel_rfl) (.f (nt h0) (.f h1 (.h 16 (.b false) (.h 27 (.b true) .nil))))
    · try simp only [if_neg h1]
      by_cases h2 : (!(a0.f2.toList == a1.f2.toList)) = true
      · try simp only [if_pos h2]
        exact callP_ok (ps := []) (os := []) (rs := [(.one (.val (.bool false)))]) (by kernel_rfl) (.f (nt h0) (.f (nt h1) (.f h2 (.h 16 (.b false) (.h 27 (.b false) (.h 38 (.b true) .nil))))))
      · try simp only [if_neg h2]
        by_cases h3 : (a0.f3 != a1.f3) = true
        · try simp only [if_pos h3]
          exact callP_ok (ps := []) (os := []) (rs := [(.one (.val (.bool false)))]) (by kernel_rfl) (.f (nt h0) (.f (nt h1) (.f (nt h2) (.f h3 (.h 16 (.b false) (.h 27 (.b false) (.h 38 (.b false) (.h 49 (.b true) .nil))))))))
        · try simp only [if_neg h3]
          exact callP_ok (ps := []) (os := []) (rs := [(.one (.val (.bool true)))]) (by kernel_rfl) (.f (nt h0) (.f (nt h1) (.f (nt h2) (.f (nt h3) (.h 16 (.b false) (.h 27 (.b false) (.h 38 (.b false) (.h 49 (.b false) .nil))))))))
open Classical in
theorem eqd143 (a b : K_sisi) : m143 a b = decide (a = b) := by
  rw [Bool.eq_iff_iff, decide_eq_true_eq]
  constructor
  · intro h
    unfold m143 at h
    cases a; cases b
    (repeat' split at h) <;> simp_all [ba_eq]
  · rintro rfl
    simp [m143, ba_eq]
/-! loop 96_0 -/
inductive O96_0 where
  | k0 (w0 : Int) (w1 : Bool)
  | k1
def r96_0 (a0 : (List K_sisi)) : List K_sisi → List K_sisi → Int → O96_0
  | x0_96_0 :: l0_96_0, x1_96_0 :: l1_96_0, i_96_0 =>
    if (!(m143 x0_96_0 x1_96_0)) = true then (O96_0.k1) else
    (r96_0 a0 l0_96_0 l1_96_0 (i_96_0 + 1) )
  | _, _, i_96_0 => (O96_0.k0 i_96_0 (decide (i_96_0 < ((List.length (List.map b_sisi a0)) : Int))))
def h96_0 (l0_0 : Nat) (l1_0 : Nat) (a0 : (List K_sisi)) (a1 : (List K_sisi)) (i_96_0 : Int)  : St := ⟨[(0, (.one (.bor l0_0 (List.map b_sisi a0)))), (1, (.one (.bor l1_0 (List.map b_sisi a1)))), (5, (.one (.val (.int .i64 i_96_0))))], []⟩
def ex96_0 : O96_0 → VX.Exit
  | .k0 _ _ => (.exit 0)
  | .k1 => .ret
def fin96_0 (l0_0 : Nat) (l1_0 : Nat) (a0 : (List K_sisi)) (a1 : (List K_sisi)) : O96_0 → St
  | .k0 w0 w1 => ⟨[(0, (.one (.bor l0_0 (List.map b_sisi a0)))), (1, (.one (.bor l1_0 (List.map b_sisi a1)))), (5, (.one (.val (.int .i64 w0)))), (14, (.one (.val (.bool w1))))], []⟩
  | .k1 => ⟨[(4, (.one (.val (.bool false))))], []⟩
theorem t96_0 {l0_0 : Nat} {l1_0 : Nat} {a0 : (List K_sisi)} {a1 : (List K_sisi)} (hy0 : List.length a0 * 48 ≤ 140737488351232) (hy1 : List.length a1 * 48 ≤ 140737488351232) : ∀ (l0_96_0 : List K_sisi) (l1_96_0 : List K_sisi) (p_96_0 : List K_sisi) (p_96_0_1 : List K_sisi) , p_96_0 ++ l0_96_0 = a0 → p_96_0_1 ++ l1_96_0 = a1 → List.length p_96_0 = List.length p_96_0_1 → List.length l0_96_0 = List.length l1_96_0 → Ev F X (.code l96_0 (h96_0 l0_0 l1_0 a0 a1 (List.length p_96_0 : Int) ) (ex96_0 (r96_0 a0 l0_96_0 l1_96_0 (List.length p_96_0 : Int) )) (fin96_0 l0_0 l1_0 a0 a1 (r96_0 a0 l0_96_0 l1_96_0 (List.length p_96_0 : Int) )))
  | [], [], p_96_0, p_96_0_1, hp0, hp1, hq1, hl1 => by
    have hc : ¬ (decide ((List.length p_96_0 : Int) < ((List.length (List.map b_sisi a0)) : Int))) = true := by
      rw [← hp0]; simp only [List.length_map, List.length_set, List.length_append, List.length_replicate, List.length_cons, List.length_nil, decide_eq_true_eq]; omega
    have st := codeH_ok (F := F) (X := X) (c := b96_0) (t := 0) (hs := [(8, .b false)]) (σ := h96_0 l0_0 l1_0 a0 a1 (List.length p_96_0 : Int) ) (σ' := ⟨[(0, (.one (.bor l0_0 (List.map b_sisi a0)))), (1, (.one (.bor l1_0 (List.map b_sisi a1)))), (5, (.one (.val (.int .i64 (List.length p_96_0 : Int))))), (14, (.one (.val (.bool (decide ((List.length p_96_0 : Int) < ((List.length (List.map b_sisi a0)) : Int)))))))], []⟩) (e := (.exit 0)) (t' := 9) (hs' := []) (q := [(decide ((List.length p_96_0 : Int) < ((List.length (List.map b_sisi a0)) : Int))) = false]) (by kernel_rfl) ⟨(nt hc), trivial⟩
    rw [show (⟨[(0, (.one (.bor l0_0 (List.map b_sisi a0)))), (1, (.one (.bor l1_0 (List.map b_sisi a1)))), (5, (.one (.val (.int .i64 (List.length p_96_0 : Int))))), (14, (.one (.val (.bool (decide ((List.length p_96_0 : Int) < ((List.length (List.map b_sisi a0)) : Int)))))))], []⟩ : St) = fin96_0 l0_0 l1_0 a0 a1 (.k0 (List.length p_96_0 : Int) (decide ((List.length p_96_0 : Int) < ((List.length (List.map b_sisi a0)) : Int)))) from by first | rfl | (unfold fin96_0; simp [byteRows_eq, ints_y, List.take_of_length_le, d_sisi, d_LsisiEi, d_b, d_i, d_s, d_iLsEs, d_LsisiE, d_LsE, d_y, fromBR_sisi, fromBR_b, fromBR_i, fromBR_s, fromBR_y]; done)] at st
    exact .loopX st (show ((.exit 0) : VX.Exit) ≠ .normal from by simp)
  | x0_96_0 :: l0_96_0, x1_96_0 :: l1_96_0, p_96_0, p_96_0_1, hp0, hp1, hq1, hl1 => by
    have hc : (decide ((List.length p_96_0 : Int) < ((List.length (List.map b_sisi a0)) : Int))) = true := by
      rw [← hp0]; simp only [List.length_map, List.length_set, List.length_append, List.length_replicate, List.length_cons, List.length_nil, decide_eq_true_eq]; omega
    have Hx0_96_0 : (a0)[Int.toNat (List.length p_96_0 : Int)]? = some x0_96_0 := by
      rw [← hp0, Int.toNat_natCast]; simp
    have Hx1_96_0 : (a1)[Int.toNat (List.length p_96_0 : Int)]? = some x1_96_0 := by
      rw [← hp1, hq1, Int.toNat_natCast]; simp
    have hlen : List.length (a0) = List.length p_96_0 + List.length l0_96_0 + 1 := by rw [← hp0]; simp; omega
    have hw : IntKind.wrap .i64 ((List.length p_96_0 : Int) + 1) = (List.length p_96_0 : Int) + 1 := wrap64 (by omega)
    simp only [r96_0]
    by_cases h_96_0_1 : (!(m143 x0_96_0 x1_96_0)) = true
    · try simp only [if_pos h_96_0_1]
      have st := codeH_ok (F := F) (X := X) (c := b96_0) (t := 0) (hs := [(8, .b true), (14, .row [(.val (.string x0_96_0.f0)), (.val (.int .i64 x0_96_0.f1)), (.val (.string x0_96_0.f2)), (.val (.int .i64 x0_96_0.f3))]), (22, .row [(.val (.string x1_96_0.f0)), (.val (.int .i64 x1_96_0.f1)), (.val (.string x1_96_0.f2)), (.val (.int .i64 x1_96_0.f3))]), (26, .ret [] [(.one (.val (.bool (m143 x0_96_0 x1_96_0))))] [] []), (29, .b true)]) (σ := h96_0 l0_0 l1_0 a0 a1 (List.length p_96_0 : Int) ) (σ' := ⟨[(4, (.one (.val (.bool false))))], []⟩) (e := .ret) (t' := 32) (hs' := []) (q := [(decide ((List.length p_96_0 : Int) < ((List.length (List.map b_sisi a0)) : Int))) = true, 0 ≤ (List.length p_96_0 : Int), (List.map b_sisi a0)[(Int.toNat (List.length p_96_0 : Int))]? = some [(.val (.string x0_96_0.f0)), (.val (.int .i64 x0_96_0.f1)), (.val (.string x0_96_0.f2)), (.val (.int .i64 x0_96_0.f3))], 0 ≤ (List.length p_96_0 : Int), (List.map b_sisi a1)[(Int.toNat (List.length p_96_0 : Int))]? = some [(.val (.string x1_96_0.f0)), (.val (.int .i64 x1_96_0.f1)), (.val (.string x1_96_0.f2)), (.val (.int .i64 x1_96_0.f3))], Ev F X (.call 143 [(.agg [(.val (.string x0_96_0.f0)), (.val (.int .i64 x0_96_0.f1)), (.val (.string x0_96_0.f2)), (.val (.int .i64 x0_96_0.f3))]), (.agg [(.val (.string x1_96_0.f0)), (.val (.int .i64 x1_96_0.f1)), (.val (.string x1_96_0.f2)), (.val (.int .i64 x1_96_0.f3))])] [] [] [(.one (.val (.bool (m143 x0_96_0 x1_96_0))))]), (!(m143 x0_96_0 x1_96_0)) = true]) (by kernel_rfl) ⟨hc, (by first | exact True.intro | with_reducible rfl | with_reducible assumption | omega | (simp only [decide_eq_true_eq] at *; omega) | (simp only [List.length_map, List.length_set, List.length_append, List.length_replicate, List.length_cons, List.length_nil]; omega) | (simp; omega) | (simp [List.take_of_length_le]; done) | assumption | trivial | (simp [*, byteRows_eq, ints_y]; done)), (by first | (rw [List.getElem?_map, Hx0_96_0]; rfl) | (rw [Nat.zero_add, List.getElem?_map, Hx0_96_0]; rfl) | exact True.intro | with_reducible rfl | with_reducible assumption | omega | (simp only [List.length_map, List.length_set, List.length_append, List.length_replicate, List.length_cons, List.length_nil]; omega) | (simp; done) | (simp; omega) | (simp [List.take_of_length_le]; done) | (simp [← List.map_take, ← List.map_drop]; done) | assumption | trivial | (simp [*, b_sisi, d_sisi, byteRows_eq, ints_y]; done)), (by first | exact True.intro | with_reducible rfl | with_reducible assumption | omega | (simp only [decide_eq_true_eq] at *; omega) | (simp only [List.length_map, List.length_set, List.length_append, List.length_replicate, List.length_cons, List.length_nil]; omega) | (simp; omega) | (simp [List.take_of_length_le]; done) | assumption | trivial | (simp [*, byteRows_eq, ints_y]; done)), (by first | (rw [List.getElem?_map, Hx1_96_0]; rfl) | (rw [Nat.zero_add, List.getElem?_map, Hx1_96_0]; rfl) | exact True.intro | with_reducible rfl | with_reducible assumption | omega | (simp only [List.length_map, List.length_set, List.length_append, List.length_replicate, List.length_cons, List.length_nil]; omega) | (simp; done) | (simp; omega) | (simp [List.take_of_length_le]; done) | (simp [← List.map_take, ← List.map_drop]; done) | assumption | trivial | (simp [*, b_sisi, d_sisi, byteRows_eq, ints_y]; done)), (e143 (a0 := x0_96_0) (a1 := x1_96_0)), h_96_0_1, trivial⟩
      rw [show (⟨[(4, (.one (.val (.bool false))))], []⟩ : St) = fin96_0 l0_0 l1_0 a0 a1 (.k1) from by first | rfl | (unfold fin96_0; simp [byteRows_eq, ints_y, List.take_of_length_le, d_sisi, d_LsisiEi, d_b, d_i, d_s, d_iLsEs, d_LsisiE, d_LsE, d_y, fromBR_sisi, fromBR_b, fromBR_i, fromBR_s, fromBR_y]; done)] at st
      exact .loopX st (show (.ret : VX.Exit) ≠ .normal from by simp)
    · try simp only [if_neg h_96_0_1]
      have st := codeH_ok (F := F) (X := X) (c := b96_0) (t := 0) (hs := [(8, .b true), (14, .row [(.val (.string x0_96_0.f0)), (.val (.int .i64 x0_96_0.f1)), (.val (.string x0_96_0.f2)), (.val (.int .i64 x0_96_0.f3))]), (22, .row [(.val (.string x1_96_0.f0)), (.val (.int .i64 x1_96_0.f1)), (.val (.string x1_96_0.f2)), (.val (.int .i64 x1_96_0.f3))]), (26, .ret [] [(.one (.val (.bool (m143 x0_96_0 x1_96_0))))] [] []), (29, .b false)]) (σ := h96_0 l0_0 l1_0 a0 a1 (List.length p_96_0 : Int) ) (σ' := ⟨[(0, (.one (.bor l0_0 (List.map b_sisi a0)))), (1, (.one (.bor l1_0 (List.map b_sisi a1)))), (5, (.one (.val (.int .i64 (IntKind.wrap .i64 ((List.length p_96_0 : Int) + 1))))))], []⟩) (e := .normal) (t' := 36) (hs' := []) (q := [(decide ((List.length p_96_0 : Int) < ((List.length (List.map b_sisi a0)) : Int))) = true, 0 ≤ (List.length p_96_0 : Int), (List.map b_sisi a0)[(Int.toNat (List.length p_96_0 : Int))]? = some [(.val (.string x0_96_0.f0)), (.val (.int .i64 x0_96_0.f1)), (.val (.string x0_96_0.f2)), (.val (.int .i64 x0_96_0.f3))], 0 ≤ (List.length p_96_0 : Int), (List.map b_sisi a1)[(Int.toNat (List.length p_96_0 : Int))]? = some [(.val (.string x1_96_0.f0)), (.val (.int .i64 x1_96_0.f1)), (.val (.string x1_96_0.f2)), (.val (.int .i64 x1_96_0.f3))], Ev F X (.call 143 [(.agg [(.val (.string x0_96_0.f0)), (.val (.int .i64 x0_96_0.f1)), (.val (.string x0_96_0.f2)), (.val (.int .i64 x0_96_0.f3))]), (.agg [(.val (.string x1_96_0.f0)), (.val (.int .i64 x1_96_0.f1)), (.val (.string x1_96_0.f2)), (.val (.int .i64 x1_96_0.f3))])] [] [] [(.one (.val (.bool (m143 x0_96_0 x1_96_0))))]), (!(m143 x0_96_0 x1_96_0)) = false, True]) (by kernel_rfl) ⟨hc, (by first | exact True.intro | with_reducible rfl | with_reducible assumption | omega | (simp only [decide_eq_true_eq] at *; omega) | (simp only [List.length_map, List.length_set, List.length_append, List.length_replicate, List.length_cons, List.length_nil]; omega) | (simp; omega) | (simp [List.take_of_length_le]; done) | assumption | trivial | (simp [*, byteRows_eq, ints_y]; done)), (by first | (rw [List.getElem?_map, Hx0_96_0]; rfl) | (rw [Nat.zero_add, List.getElem?_map, Hx0_96_0]; rfl) | exact True.intro | with_reducible rfl | with_reducible assumption | omega | (simp only [List.length_map, List.length_set, List.length_append, List.length_replicate, List.length_cons, List.length_nil]; omega) | (simp; done) | (simp; omega) | (simp [List.take_of_length_le]; done) | (simp [← List.map_take, ← List.map_drop]; done) | assumption | trivial | (simp [*, b_sisi, d_sisi, byteRows_eq, ints_y]; done)), (by first | exact True.intro | with_reducible rfl | with_reducible assumption | omega | (simp only [decide_eq_true_eq] at *; omega) | (simp only [List.length_map, List.length_set, List.length_append, List.length_replicate, List.length_cons, List.length_nil]; omega) | (simp; omega) | (simp [List.take_of_length_le]; done) | assumption | trivial | (simp [*, byteRows_eq, ints_y]; done)), (by first | (rw [List.getElem?_map, Hx1_96_0]; rfl) | (rw [Nat.zero_add, List.getElem?_map, Hx1_96_0]; rfl) | exact True.intro | with_reducible rfl | with_reducible assumption | omega | (simp only [List.length_map, List.length_set, List.length_append, List.length_replicate, List.length_cons, List.length_nil]; omega) | (simp; done) | (simp; omega) | (simp [List.take_of_length_le]; done) | (simp [← List.map_take, ← List.map_drop]; done) | assumption | trivial | (simp [*, b_sisi, d_sisi, byteRows_eq, ints_y]; done)), (e143 (a0 := x0_96_0) (a1 := x1_96_0)), (nt h_96_0_1), trivial, trivial⟩
      have ih := t96_0 (l0_0 := l0_0) (l1_0 := l1_0) (a0 := a0) (a1 := a1) hy0 hy1 l0_96_0 l1_96_0 (p_96_0 ++ [x0_96_0]) (p_96_0_1 ++ [x1_96_0])  (by rw [List.append_assoc]; exact hp0) (by rw [List.append_assoc]; exact hp1) (by simp only [List.length_map, List.length_set, List.length_append, List.length_replicate, List.length_cons, List.length_nil]; omega) (by simp only [List.length_map, List.length_set, List.length_append, List.length_replicate, List.length_cons, List.length_nil] at hl1; omega)
      rw [show ((p_96_0 ++ [x0_96_0]).length : Int) = (p_96_0.length : Int) + 1 from by simp] at ih
      rw [show (⟨[(0, (.one (.bor l0_0 (List.map b_sisi a0)))), (1, (.one (.bor l1_0 (List.map b_sisi a1)))), (5, (.one (.val (.int .i64 (IntKind.wrap .i64 ((List.length p_96_0 : Int) + 1))))))], []⟩ : St) = h96_0 l0_0 l1_0 a0 a1 ((List.length p_96_0 : Int) + 1)  from by first | (unfold h96_0; simp only [hw]; done) | (unfold h96_0; simp only [hw, List.length_map, List.length_set, List.length_append, List.length_replicate, List.length_cons, List.length_nil]; done) | (unfold h96_0; simp [hw, byteRows_eq, ints_y, List.take_of_length_le, d_sisi, d_LsisiEi, d_b, d_i, d_s, d_iLsEs, d_LsisiE, d_LsE, d_y, fromBR_sisi, fromBR_b, fromBR_i, fromBR_s, fromBR_y]; done)] at st
      exact .loopN st ih
/-! loop.example/g00539/laws.eqSessionS -/
def m96 (a0 : (List K_sisi)) (a1 : (List K_sisi)) : Bool :=
  if (((List.length (List.map b_sisi a0)) : Int) != ((List.length (List.map b_sisi a1)) : Int)) = true then false else
  (match r96_0 a0 a0 a1 0 with | .k0 w0_96_0_1 w1_96_0_1 => true | .k1 => false)
theorem e96 {l0_0 : Nat} {a0 : (List K_sisi)} {l1_0 : Nat} {a1 : (List K_sisi)} (hy0 : List.length a0 * 48 ≤ 140737488351232) (hy1 : List.length a1 * 48 ≤ 140737488351232) : Ev F X (.call 96 [(.one (.bor l0_0 (List.map b_sisi a0))), (.one (.bor l1_0 (List.map b_sisi a1)))] [] [] [(.one (.val (.bool (m96 a0 a1))))]) := by
  unfold m96
  by_cases h0 : (((List.length (List.map b_sisi a0)) : Int) != ((List.length (List.map b_sisi a1)) : Int)) = true
  · try simp only [if_pos h0]
    exact callP_ok (ps := []) (os := []) (rs := [(.one (.val (.bool false)))]) (by kernel_rfl) (.f h0 (.h 12 (.b true) .nil))
  · try simp only [if_neg h0]
    cases h1 : r96_0 a0 a0 a1 0 with
    | k0 w0_96_0_1 w1_96_0_1 =>
      try dsimp only
      have f1 : (⟨[(0, (.one (.bor l0_0 (List.map b_sisi a0)))), (1, (.one (.bor l1_0 (List.map b_sisi a1)))), (5, (.one (.val (.int .i64 0))))], []⟩ : St) = h96_0 l0_0 l1_0 a0 a1 0  := (by first | rfl | (unfold h96_0; simp [byteRows_eq, ints_y, List.take_of_length_le, d_sisi, d_LsisiEi, d_b, d_i, d_s, d_iLsEs, d_LsisiE, d_LsE, d_y, fromBR_sisi, fromBR_b, fromBR_i, fromBR_s, fromBR_y]; done))
      have f2 : Ev F X (.code l96_0 (h96_0 l0_0 l1_0 a0 a1 0 ) (.exit 0) ⟨[(0, (.one (.bor l0_0 (List.map b_sisi a0)))), (1, (.one (.bor l1_0 (List.map b_sisi a1)))), (5, (.one (.val (.int .i64 w0_96_0_1)))), (14, (.one (.val (.bool w1_96_0_1))))], []⟩) := (by have t : Ev F X (.code l96_0 (h96_0 l0_0 l1_0 a0 a1 0 ) (ex96_0 (r96_0 a0 a0 a1 0)) (fin96_0 l0_0 l1_0 a0 a1 (r96_0 a0 a0 a1 0))) := t96_0 (l0_0 := l0_0) (l1_0 := l1_0) (a0 := a0) (a1 := a1) (by first | assumption | omega) (by first | assumption | omega) a0 a1 [] []  rfl rfl rfl (by first | omega | (simp at *; omega)); rw [h1] at t; exact t)
      exact callP_ok (ps := []) (os := []) (rs := [(.one (.val (.bool true)))]) (by kernel_rfl) (.f (nt h0) (.f f1 (.f f2 (.h 12 (.b false) (.h 15 (.loop (h96_0 l0_0 l1_0 a0 a1 0 ) (.exit 0) ⟨[(0, (.one (.bor l0_0 (List.map b_sisi a0)))), (1, (.one (.bor l1_0 (List.map b_sisi a1)))), (5, (.one (.val (.int .i64 w0_96_0_1)))), (14, (.one (.val (.bool w1_96_0_1))))], []⟩) .nil)))))
    | k1 =>
      try dsimp only
      have f1 : (⟨[(0, (.one (.bor l0_0 (List.map b_sisi a0)))), (1, (.one (.bor l1_0 (List.map b_sisi a1)))), (5, (.one (.val (.int .i64 0))))], []⟩ : St) = h96_0 l0_0 l1_0 a0 a1 0  := (by first | rfl | (unfold h96_0; simp [byteRows_eq, ints_y, List.take_of_length_le, d_sisi, d_LsisiEi, d_b, d_i, d_s, d_iLsEs, d_LsisiE, d_LsE, d_y, fromBR_sisi, fromBR_b, fromBR_i, fromBR_s, fromBR_y]; done))
      have f2 : Ev F X (.code l96_0 (h96_0 l0_0 l1_0 a0 a1 0 ) .ret ⟨[(4, (.one (.val (.bool false))))], []⟩) := (by have t : Ev F X (.code l96_0 (h96_0 l0_0 l1_0 a0 a1 0 ) (ex96_0 (r96_0 a0 a0 a1 0)) (fin96_0 l0_0 l1_0 a0 a1 (r96_0 a0 a0 a1 0))) := t96_0 (l0_0 := l0_0) (l1_0 := l1_0) (a0 := a0) (a1 := a1) (by first | assumption | omega) (by first | assumption | omega) a0 a1 [] []  rfl rfl rfl (by first | omega | (simp at *; omega)); rw [h1] at t; exact t)
      exact callP_ok (ps := []) (os := []) (rs := [(.one (.val (.bool false)))]) (by kernel_rfl) (.f (nt h0) (.f f1 (.f f2 (.h 12 (.b false) (.h 15 (.loop (h96_0 l0_0 l1_0 a0 a1 0 ) .ret ⟨[(4, (.one (.val (.bool false))))], []⟩) .nil)))))
theorem eqr96_0 (a0 : (List K_sisi)) : ∀ (l m : List K_sisi) (i : Int), l.length = m.length → (r96_0 a0 l m i = .k1 ∧ l ≠ m) ∨ (∃ w0 w1, r96_0 a0 l m i = .k0 w0 w1 ∧ l = m)
  | [], [], i, _ => .inr ⟨_, _, rfl, rfl⟩
  | [], _ :: _, i, h => by simp at h
  | _ :: _, [], i, h => by simp at h
  | x :: l, y :: m, i, h => by
    have ih := eqr96_0 a0 l m (i + 1) (by simpa using h)
    by_cases hxy : x = y
    · subst hxy
      have e : r96_0 a0 (x :: l) (x :: m) i = r96_0 a0 l m (i + 1) := by simp [r96_0, ba_eq, eqd143]
      rw [e]
      rcases ih with ⟨h1, h2⟩ | ⟨w0, w1, h1, h2⟩
      · exact .inl ⟨h1, by simp [h2]⟩
      · exact .inr ⟨_, _, h1, by rw [h2]⟩
    · have e : r96_0 a0 (x :: l) (y :: m) i = .k1 := by
        simp only [r96_0]
        first
          | ((repeat' split) <;> simp_all [ba_eq, eqd143]; done)
          | (cases x; cases y; (repeat' split) <;> simp_all [ba_eq, eqd143])
      exact .inl ⟨e, by simp [hxy]⟩
open Classical in
theorem eqd96 (a b : (List K_sisi)) : m96 a b = decide (a = b) := by
  rw [Bool.eq_iff_iff, decide_eq_true_eq]
  unfold m96
  by_cases hl : List.length a = List.length b
  · rcases eqr96_0 a a b 0 hl with ⟨h1, h2⟩ | ⟨w0, w1, h1, h2⟩
    · simp only [h1, List.length_map, hl]
      first
        | (simp [h2, ba_eq, eqd143]; done)
        | (cases a; cases b; simp_all [ba_eq, eqd143]; done)
        | (cases a; cases b; (repeat' split) <;> simp_all [ba_eq, eqd143])
    · simp only [h1, List.length_map, hl]
      first
        | (simp [h2, ba_eq, eqd143]; done)
        | (cases a; cases b; simp_all [ba_eq, eqd143]; done)
        | (cases a; cases b; (repeat' split) <;> simp_all [ba_eq, eqd143])
  · have hn : a ≠ b := by rintro rfl; exact hl rfl
    simp only [List.length_map]
    first
      | (simp [hn, hl, ba_eq, eqd143]; done)
      | ((repeat' split) <;> simp_all [ba_eq, eqd143]; done)
      | (simp [hn]; omega)
/-! loop.example/g00539/laws.eqServer -/
def m48 (a0 : K_LsisiEi) (a1 : K_LsisiEi) : Bool :=
  if (!(m96 a0.f0 a1.f0)) = true then false else
  if (a0.f1 != a1.f1) = true then false else
    true
theorem e48 {l0_0 : Nat} {a0 : K_LsisiEi} {l1_0 : Nat} {a1 : K_LsisiEi} (hy0 : List.length a0.f0 * 48 ≤ 140737488351232) (hy1 : List.length a1.f0 * 48 ≤ 140737488351232) : Ev F X (.call 48 [(.agg [(.bor l0_0 (List.map b_sisi a0.f0)), (.val (.int .i64 a0.f1))]), (.agg [(.bor l1_0 (List.map b_sisi a1.f0)), (.val (.int .i64 a1.f1))])] [] [] [(.one (.val (.bool (m48 a0 a1))))]) := by
  unfold m48
  have f0 : Ev F X (.call 96 [(.one (.bor (l0_0 + 1) (List.map b_sisi a0.f0))), (.one (.bor (l1_0 + 1) (List.map b_sisi a1.f0)))] [] [] [(.one (.val (.bool (m96 a0.f0 a1.f0))))]) := (e96 (a0 := a0.f0) (a1 := a1.f0) (by first | with_reducible assumption | omega | assumption | (simp only [List.length_map]; omega) | (simp; omega)) (by first | with_reducible assumption | omega | assumption | (simp only [List.length_map]; omega) | (simp; omega)))
  by_cases h0 : (!(m96 a0.f0 a1.f0)) = true
  · try simp only [if_pos h0]
    exact callP_ok (ps := []) (os := []) (rs := [(.one (.val (.bool false)))]) (by kernel_rfl) (.r 15 [] [] f0 (.f h0 (.h 18 (.b true) .nil)))
  · try simp only [if_neg h0]
    by_cases h1 : (a0.f1 != a1.f1) = true
    · try simp only [if_pos h1]
      exact callP_ok (ps := []) (os := []) (rs := [(.one (.val (.bool false)))]) (by kernel_rfl) (.r 15 [] [] f0 (.f (nt h0) (.f h1 (.h 18 (.b false) (.h 29 (.b true) .nil)))))
    · try simp only [if_neg h1]
      exact callP_ok (ps := []) (os := []) (rs := [(.one (.val (.bool true)))]) (by kernel_rfl) (.r 15 [] [] f0 (.f (nt h0) (.f (nt h1) (.h 18 (.b false) (.h 29 (.b false) .nil)))))
open Classical in
theorem eqd48 (a b : K_LsisiEi) : m48 a b = decide (a = b) := by
  rw [Bool.eq_iff_iff, decide_eq_true_eq]
  constructor
  · intro h
    unfold m48 at h
    cases a; cases b
    (repeat' split at h) <;> simp_all [ba_eq, eqd96]
  · rintro rfl
    simp [m48, ba_eq, eqd96]
/-! loop.example/g00539/spec.l1In -/
def m113 (a0 : Int) (a1 : Int) (a2 : Int) : Bool :=
  if (decide (a0 ≥ a1)) = true then (decide (a0 ≤ a2)) else
  false
theorem e113 {a0 : Int} {a1 : Int} {a2 : Int} : Ev F X (.call 113 [(.one (.val (.int .i64 a0))), (.one (.val (.int .i64 a1))), (.one (.val (.int .i64 a2)))] [] [] [(.one (.val (.bool (m113 a0 a1 a2))))]) := by
  unfold m113
  by_cases h0 : (decide (a0 ≥ a1)) = true
  · try simp only [if_pos h0]
    exact callP_ok (ps := []) (os := []) (rs := [(.one (.val (.bool (decide (a0 ≤ a2)))))]) (by kernel_rfl) (.f h0 (.f h0 (.f h0 (.f h0 (.h 10 (.b true) (.h 12 (.b true) (.h 14 (.b true) (.h 17 (.b true) .nil))))))))
  · try simp only [if_neg h0]
    exact callP_ok (ps := []) (os := []) (rs := [(.one (.val (.bool false)))]) (by kernel_rfl) (.f (nt h0) (.f (nt h0) (.f (nt h0) (.f (nt h0) (.h 10 (.b false) (.h 12 (.b false) (.h 14 (.b false) (.h 17 (.b false) .nil))))))))
/-! loop.example/g00539/spec.l9Letter -/
def m148 (a0 : Int) : Bool :=
  if (decide (a0 ≥ 97)) = true then (if (decide (a0 ≤ 122)) = true then true else
    if (decide (a0 ≥ 65)) = true then (if (decide (a0 ≤ 90)) = true then true else
        if (decide (a0 ≥ 48)) = true then (decide (a0 ≤ 57)) else
          false) else
      if (decide (a0 ≥ 48)) = true then (decide (a0 ≤ 57)) else
        false) else
  if (decide (a0 ≥ 65)) = true then (if (decide (a0 ≤ 90)) = true then true else
      if (decide (a0 ≥ 48)) = true then (decide (a0 ≤ 57)) else
        false) else
    if (decide (a0 ≥ 48)) = true then (decide (a0 ≤ 57)) else
      false
theorem e148 {a0 : Int} : Ev F X (.call 148 [(.one (.val (.int .u8 a0)))] [] [] [(.one (.val (.bool (m148 a0))))]) := by
  unfold m148
  by_cases h0 : (decide (a0 ≥ 97)) = true
  · try simp only [if_pos h0]
    by_cases h1 : (decide (a0 ≤ 122)) = true
    · try simp only [if_pos h1]
      exact callP_ok (ps := []) (os := []) (rs := [(.one (.val (.bool true)))]) (by kernel_rfl) (.f h0 (.f h0 (.f h0 (.f h1 (.f h1 (.f h1 (.f h1 (.f h1 (.h 8 (.b true) (.h 10 (.b true) (.h 13 (.b true) (.h 16 (.b true) (.h 18 (.b true) (.h 20 (.b true) (.h 26 (.b true) (.h 29 (.b true) .nil))))))))))))))))
    · try simp only [if_neg h1]
      by_cases h2 : (decide (a0 ≥ 65)) = true
      · try simp only [if_pos h2]
        by_cases h3 : (decide (a0 ≤ 90)) = true
        · try simp only [if_pos h3]
          exact callP_ok (ps := []) (os := []) (rs := [(.one (.val (.bool true)))]) (by kernel_rfl) (.f h0 (.f h0 (.f h0 (.f (nt h1) (.f (nt h1) (.f (nt h1) (.f h2 (.f h2 (.f (nt h1) (.f h2 (.f (nt h1) (.f h3 (.f h3 (.f h3 (.f h3 (.f h3 (.h 8 (.b true) (.h 10 (.b true) (.h 13 (.b true) (.h 16 (.b false) (.h 18 (.b false) (.h 20 (.b false) (.h 22 (.b true) (.h 24 (.b true) (.h 26 (.b false) (.h 27 (.b true) (.h 29 (.b false) (.h 32 (.b true) (.h 34 (.b true) (.h 36 (.b true) (.h 42 (.b true) (.h 45 (.b true) .nil))))))))))))))))))))))))))))))))
        · try simp only [if_neg h3]
          by_cases h4 : (decide (a0 ≥ 48)) = true
          · try simp only [if_pos h4]
            exact callP_ok (ps := []) (os := []) (rs := [(.one (.val (.bool (decide (a0 ≤ 57)))))]) (by kernel_rfl) (.f h0 (.f h0 (.f h0 (.f (nt h1) (.f (nt h1) (.f (nt h1) (.f h2 (.f h2 (.f (nt h1) (.f h2 (.f (nt h1) (.f (nt h3) (.f (nt h3) (.f (nt h3) (.f h4 (.f h4 (.f (nt h3) (.f h4 (.f (nt h3) (.h 8 (.b true) (.h 10 (.b true) (.h 13 (.b true) (.h 16 (.b false) (.h 18 (.b false) (.h 20 (.b false) (.h 22 (.b true) (.h 24 (.b true) (.h 26 (.b false) (.h 27 (.b true) (.h 29 (.b false) (.h 32 (.b false) (.h 34 (.b false) (.h 36 (.b false) (.h 38 (.b true) (.h 40 (.b true) (.h 42 (.b false) (.h 43 (.b true) (.h 45 (.b false) .nil))))))))))))))))))))))))))))))))))))))
          · try simp only [if_neg h4]
            exact callP_ok (ps := []) (os := []) (rs := [(.one (.val (.bool false)))]) (by kernel_rfl) (.f h0 (.f h0 (.f h0 (.f (nt h1) (.f (nt h1) (.f (nt h1) (.f h2 (.f h2 (.f (nt h1) (.f h2 (.f (nt h1) (.f (nt h3) (.f (nt h3) (.f (nt h3) (.f (nt h4) (.f (nt h4) (.f (nt h3) (.f (nt h4) (.f (nt h3) (.h 8 (.b true) (.h 10 (.b true) (.h 13 (.b true) (.h 16 (.b false) (.h 18 (.b false) (.h 20 (.b false) (.h 22 (.b true) (.h 24 (.b true) (.h 26 (.b false) (.h 27 (.b true) (.h 29 (.b false) (.h 32 (.b false) (.h 34 (.b false) (.h 36 (.b false) (.h 38 (.b false) (.h 40 (.b false) (.h 42 (.b false) (.h 43 (.b false) (.h 45 (.b false) .nil))))))))))))))))))))))))))))))))))))))
      · try simp only [if_neg h2]
        by_cases h3 : (decide (a0 ≥ 48)) = true
        · try simp only [if_pos h3]
          exact callP_ok (ps := []) (os := []) (rs := [(.one (.val (.bool (decide (a0 ≤ 57)))))]) (by kernel_rfl) (.f h0 (.f h0 (.f h0 (.f (nt h1) (.f (nt h1) (.f (nt h1) (.f (nt h2) (.f (nt h2) (.f (nt h1) (.f (nt h2) (.f (nt h1) (.f h3 (.f h3 (.f h3 (.h 8 (.b true) (.h 10 (.b true) (.h 13 (.b true) (.h 16 (.b false) (.h 18 (.b false) (.h 20 (.b false) (.h 22 (.b false) (.h 24 (.b false) (.h 26 (.b false) (.h 27 (.b false) (.h 29 (.b false) (.h 38 (.b true) (.h 40 (.b true) (.h 43 (.b true) .nil))))))))))))))))))))))))))))
        · try simp only [if_neg h3]
          exact callP_ok (ps := []) (os := []) (rs := [(.one (.val (.bool false)))]) (by kernel_rfl) (.f h0 (.f h0 (.f h0 (.f (nt h1) (.f (nt h1) (.f (nt h1) (.f (nt h2) (.f (nt h2) (.f (nt h1) (.f (nt h2) (.f (nt h1) (.f (nt h3) (.f (nt h3) (.f (nt h3) (.h 8 (.b true) (.h 10 (.b true) (.h 13 (.b true) (.h 16 (.b false) (.h 18 (.b false) (.h 20 (.b false) (.h 22 (.b false) (.h 24 (.b false) (.h 26 (.b false) (.h 27 (.b false) (.h 29 (.b false) (.h 38 (.b false) (.h 40 (.b false) (.h 43 (.b false) .nil))))))))))))))))))))))))))))
  · try simp only [if_neg h0]
    by_cases h1 : (decide (a0 ≥ 65)) = true
    · try simp only [if_pos h1]
      by_cases h2 : (decide (a0 ≤ 90)) = true
      · try simp only [if_pos h2]
        exact callP_ok (ps := []) (os := []) (rs := [(.one (.val (.bool true)))]) (by kernel_rfl) (.f (nt h0) (.f (nt h0) (.f (nt h0) (.f h1 (.f h1 (.f h1 (.f h2 (.f h2 (.f h2 (.f h2 (.f h2 (.h 8 (.b false) (.h 10 (.b false) (.h 13 (.b false) (.h 22 (.b true) (.h 24 (.b true) (.h 27 (.b true) (.h 32 (.b true) (.h 34 (.b true) (.h 36 (.b true) (.h 42 (.b true) (.h 45 (.b true) .nil))))))))))))))))))))))
      · try simp only [if_neg h2]
        by_cases h3 : (decide (a0 ≥ 48)) = true
        · try simp only [if_pos h3]
          exact callP_ok (ps := []) (os := []) (rs := [(.one (.val (.bool (decide (a0 ≤ 57)))))]) (by kernel_rfl) (.f (nt h0) (.f (nt h0) (.f (nt h0) (.f h1 (.f h1 (.f h1 (.f (nt h2) (.f (nt h2) (.f (nt h2) (.f h3 (.f h3 (.f (nt h2) (.f h3 (.f (nt h2) (.h 8 (.b false) (.h 10 (.b false) (.h 13 (.b false) (.h 22 (.b true) (.h 24 (.b true) (.h 27 (.b true) (.h 32 (.b false) (.h 34 (.b false) (.h 36 (.b false) (.h 38 (.b true) (.h 40 (.b true) (.h 42 (.b false) (.h 43 (.b true) (.h 45 (.b false) .nil))))))))))))))))))))))))))))
        · try simp only [if_neg h3]
          exact callP_ok (ps := []) (os := []) (rs := [(.one (.val (.bool false)))]) (by kernel_rfl) (.f (nt h0) (.f (nt h0) (.f (nt h0) (.f h1 (.f h1 (.f h1 (.f (nt h2) (.f (nt h2) (.f (nt h2) (.f (nt h3) (.f (nt h3) (.f (nt h2) (.f (nt h3) (.f (nt h2) (.h 8 (.b false) (.h 10 (.b false) (.h 13 (.b false) (.h 22 (.b true) (.h 24 (.b true) (.h 27 (.b true) (.h 32 (.b false) (.h 34 (.b false) (.h 36 (.b false) (.h 38 (.b false) (.h 40 (.b false) (.h 42 (.b false) (.h 43 (.b false) (.h 45 (.b false) .nil))))))))))))))))))))))))))))
    · try simp only [if_neg h1]
      by_cases h2 : (decide (a0 ≥ 48)) = true
      · try simp only [if_pos h2]
        exact callP_ok (ps := []) (os := []) (rs := [(.one (.val (.bool (decide (a0 ≤ 57)))))]) (by kernel_rfl) (.f (nt h0) (.f (nt h0) (.f (nt h0) (.f (nt h1) (.f (nt h1) (.f (nt h1) (.f h2 (.f h2 (.f h2 (.h 8 (.b false) (.h 10 (.b false) (.h 13 (.b false) (.h 22 (.b false) (.h 24 (.b false) (.h 27 (.b false) (.h 38 (.b true) (.h 40 (.b true) (.h 43 (.b true) .nil))))))))))))))))))
      · try simp only [if_neg h2]
        exact callP_ok (ps := []) (os := []) (rs := [(.one (.val (.bool false)))]) (by kernel_rfl) (.f (nt h0) (.f (nt h0) (.f (nt h0) (.f (nt h1) (.f (nt h1) (.f (nt h1) (.f (nt h2) (.f (nt h2) (.f (nt h2) (.h 8 (.b false) (.h 10 (.b false) (.h 13 (.b false) (.h 22 (.b false) (.h 24 (.b false) (.h 27 (.b false) (.h 38 (.b false) (.h 40 (.b false) (.h 43 (.b false) .nil))))))))))))))))))
/-! loop 114_0 -/
inductive O114_0 where
  | k0 (w0 : Int) (w1 : Bool)
  | k1
def r114_0 (a0 : ByteArray) : Nat → Int → O114_0
  | n_114_0 + 1, i_114_0 =>
    if (!(m148 (byteAt a0 i_114_0))) = true then (O114_0.k1) else
    (r114_0 a0 n_114_0 (i_114_0 + 1) )
  | 0, i_114_0 => (O114_0.k0 i_114_0 (decide (i_114_0 < (ByteArray.size a0 : Int))))
def h114_0 (a0 : ByteArray) (i_114_0 : Int)  : St := ⟨[(0, (.one (.val (.string a0)))), (3, (.one (.val (.int .i64 i_114_0))))], []⟩
def ex114_0 : O114_0 → VX.Exit
  | .k0 _ _ => (.exit 0)
  | .k1 => .ret
def fin114_0 (a0 : ByteArray) : O114_0 → St
  | .k0 w0 w1 => ⟨[(0, (.one (.val (.string a0)))), (3, (.one (.val (.int .i64 w0)))), (7, (.one (.val (.bool w1))))], []⟩
  | .k1 => ⟨[(2, (.one (.val (.bool false))))], []⟩
theorem t114_0 {a0 : ByteArray} (hy0 : ByteArray.size a0 ≤ 140737488351232) : ∀ (n_114_0 : Nat) (i_114_0 : Int) , 0 ≤ i_114_0 → n_114_0 = Int.toNat ((ByteArray.size a0 : Int) - i_114_0) → (ByteArray.size a0 : Int) ≤ 9223372036854775807 → Ev F X (.code l114_0 (h114_0 a0 i_114_0 ) (ex114_0 (r114_0 a0 n_114_0 i_114_0 )) (fin114_0 a0 (r114_0 a0 n_114_0 i_114_0 )))
  | 0, i_114_0, hn0, hn, hi0 => by
    have hc : ¬ (decide (i_114_0 < (ByteArray.size a0 : Int))) = true := by
      simp only [decide_eq_true_eq]; omega
    have st := codeH_ok (F := F) (X := X) (c := b114_0) (t := 0) (hs := [(8, .b false)]) (σ := h114_0 a0 i_114_0 ) (σ' := ⟨[(0, (.one (.val (.string a0)))), (3, (.one (.val (.int .i64 i_114_0)))), (7, (.one (.val (.bool (decide (i_114_0 < (ByteArray.size a0 : Int)))))))], []⟩) (e := (.exit 0)) (t' := 9) (hs' := []) (q := [(decide (i_114_0 < (ByteArray.size a0 : Int))) = false]) (by kernel_rfl) ⟨(nt hc), trivial⟩
    rw [show (⟨[(0, (.one (.val (.string a0)))), (3, (.one (.val (.int .i64 i_114_0)))), (7, (.one (.val (.bool (decide (i_114_0 < (ByteArray.size a0 : Int)))))))], []⟩ : St) = fin114_0 a0 (.k0 i_114_0 (decide (i_114_0 < (ByteArray.size a0 : Int)))) from by first | rfl | (unfold fin114_0; simp [byteRows_eq, ints_y, List.take_of_length_le, d_sisi, d_LsisiEi, d_b, d_i, d_s, d_iLsEs, d_LsisiE, d_LsE, d_y, fromBR_sisi, fromBR_b, fromBR_i, fromBR_s, fromBR_y]; done)] at st
    exact .loopX st (show ((.exit 0) : VX.Exit) ≠ .normal from by simp)
  | n_114_0 + 1, i_114_0, hn0, hn, hi0 => by
    have hc : (decide (i_114_0 < (ByteArray.size a0 : Int))) = true := by
      simp only [decide_eq_true_eq]; omega
    have hw : IntKind.wrap .i64 (i_114_0 + 1) = i_114_0 + 1 := wrap64 (by omega)
    have hj0 := hi0; try simp only [List.length_map, List.length_set, List.length_append, List.length_replicate, List.length_cons, List.length_nil, Int.toNat_natCast] at hj0
    simp only [r114_0]
    by_cases h_114_0_1 : (!(m148 (byteAt a0 i_114_0))) = true
    · try simp only [if_pos h_114_0_1]
      have st := codeH_ok (F := F) (X := X) (c := b114_0) (t := 0) (hs := [(8, .b true), (16, .ret [] [(.one (.val (.bool (m148 (byteAt a0 i_114_0)))))] [] []), (19, .b true)]) (σ := h114_0 a0 i_114_0 ) (σ' := ⟨[(2, (.one (.val (.bool false))))], []⟩) (e := .ret) (t' := 22) (hs' := []) (q := [(decide (i_114_0 < (ByteArray.size a0 : Int))) = true, 0 ≤ i_114_0 ∧ i_114_0 < (ByteArray.size a0 : Int), Ev F X (.call 148 [(.one (.val (.int .u8 (byteAt a0 i_114_0))))] [] [] [(.one (.val (.bool (m148 (byteAt a0 i_114_0)))))]), (!(m148 (byteAt a0 i_114_0))) = true]) (by kernel_rfl) ⟨hc, (by first | exact True.intro | with_reducible rfl | with_reducible assumption | omega | (simp only [decide_eq_true_eq] at *; omega) | (simp only [List.length_map, List.length_set, List.length_append, List.length_replicate, List.length_cons, List.length_nil]; omega) | (simp; omega) | (simp [List.take_of_length_le]; done) | assumption | trivial | (simp [*, byteRows_eq, ints_y]; done)), (e148 (a0 := (byteAt a0 i_114_0))), h_114_0_1, trivial⟩
      rw [show (⟨[(2, (.one (.val (.bool false))))], []⟩ : St) = fin114_0 a0 (.k1) from by first | rfl | (unfold fin114_0; simp [byteRows_eq, ints_y, List.take_of_length_le, d_sisi, d_LsisiEi, d_b, d_i, d_s, d_iLsEs, d_LsisiE, d_LsE, d_y, fromBR_sisi, fromBR_b, fromBR_i, fromBR_s, fromBR_y]; done)] at st
      exact .loopX st (show (.ret : VX.Exit) ≠ .normal from by simp)
    · try simp only [if_neg h_114_0_1]
      have st := codeH_ok (F := F) (X := X) (c := b114_0) (t := 0) (hs := [(8, .b true), (16, .ret [] [(.one (.val (.bool (m148 (byteAt a0 i_114_0)))))] [] []), (19, .b false)]) (σ := h114_0 a0 i_114_0 ) (σ' := ⟨[(0, (.one (.val (.string a0)))), (3, (.one (.val (.int .i64 (IntKind.wrap .i64 (i_114_0 + 1))))))], []⟩) (e := .normal) (t' := 26) (hs' := []) (q := [(decide (i_114_0 < (ByteArray.size a0 : Int))) = true, 0 ≤ i_114_0 ∧ i_114_0 < (ByteArray.size a0 : Int), Ev F X (.call 148 [(.one (.val (.int .u8 (byteAt a0 i_114_0))))] [] [] [(.one (.val (.bool (m148 (byteAt a0 i_114_0)))))]), (!(m148 (byteAt a0 i_114_0))) = false, True]) (by kernel_rfl) ⟨hc, (by first | exact True.intro | with_reducible rfl | with_reducible assumption | omega | (simp only [decide_eq_true_eq] at *; omega) | (simp only [List.length_map, List.length_set, List.length_append, List.length_replicate, List.length_cons, List.length_nil]; omega) | (simp; omega) | (simp [List.take_of_length_le]; done) | assumption | trivial | (simp [*, byteRows_eq, ints_y]; done)), (e148 (a0 := (byteAt a0 i_114_0))), (nt h_114_0_1), trivial, trivial⟩
      have ih := t114_0 (a0 := a0) hy0 n_114_0 (i_114_0 + 1)  (by omega) (by omega) (by first | omega | (simp only [List.length_map, List.length_set, List.length_append, List.length_replicate, List.length_cons, List.length_nil]; omega) | (simp only [List.length_map, List.length_set, List.length_append, List.length_replicate, List.length_cons, List.length_nil]; assumption) | assumption | (simp only [List.length_map, List.length_set, List.length_append, List.length_replicate, List.length_cons, List.length_nil] at *; omega))
      rw [show (⟨[(0, (.one (.val (.string a0)))), (3, (.one (.val (.int .i64 (IntKind.wrap .i64 (i_114_0 + 1))))))], []⟩ : St) = h114_0 a0 (i_114_0 + 1)  from by first | (unfold h114_0; simp only [hw]; done) | (unfold h114_0; simp only [hw, List.length_map, List.length_set, List.length_append, List.length_replicate, List.length_cons, List.length_nil]; done) | (unfold h114_0; simp [hw, byteRows_eq, ints_y, List.take_of_length_le, d_sisi, d_LsisiEi, d_b, d_i, d_s, d_iLsEs, d_LsisiE, d_LsE, d_y, fromBR_sisi, fromBR_b, fromBR_i, fromBR_s, fromBR_y]; done)] at st
      exact .loopN st ih
/-! loop.example/g00539/spec.l9Arg -/
def m114 (a0 : ByteArray) : Bool :=
  (match r114_0 a0 (Int.toNat (ByteArray.size a0 : Int)) 0 with | .k0 w0_114_0_0 w1_114_0_0 => (decide ((ByteArray.size a0 : Int) ≤ 12)) | .k1 => false)
theorem e114 {a0 : ByteArray} (hy0 : ByteArray.size a0 ≤ 140737488351232) : Ev F X (.call 114 [(.one (.val (.string a0)))] [] [] [(.one (.val (.bool (m114 a0))))]) := by
  unfold m114
  cases h0 : r114_0 a0 (Int.toNat (ByteArray.size a0 : Int)) 0 with
  | k0 w0_114_0_0 w1_114_0_0 =>
    try dsimp only
    have f0 : (⟨[(0, (.one (.val (.string a0)))), (3, (.one (.val (.int .i64 0))))], []⟩ : St) = h114_0 a0 0  := (by first | rfl | (unfold h114_0; simp [byteRows_eq, ints_y, List.take_of_length_le, d_sisi, d_LsisiEi, d_b, d_i, d_s, d_iLsEs, d_LsisiE, d_LsE, d_y, fromBR_sisi, fromBR_b, fromBR_i, fromBR_s, fromBR_y]; done))
    have f1 : Ev F X (.code l114_0 (h114_0 a0 0 ) (.exit 0) ⟨[(0, (.one (.val (.string a0)))), (3, (.one (.val (.int .i64 w0_114_0_0)))), (7, (.one (.val (.bool w1_114_0_0))))], []⟩) := (by have t : Ev F X (.code l114_0 (h114_0 a0 0 ) (ex114_0 (r114_0 a0 (Int.toNat (ByteArray.size a0 : Int)) 0)) (fin114_0 a0 (r114_0 a0 (Int.toNat (ByteArray.size a0 : Int)) 0))) := t114_0 (a0 := a0) (by first | assumption | omega) _ 0  (by omega) (by omega) (by first | rfl | omega | (simp only [List.length_map, List.length_set, List.length_append, List.length_replicate, List.length_cons, List.length_nil]; done) | (simp only [List.length_map, List.length_set, List.length_append, List.length_replicate, List.length_cons, List.length_nil]; omega) | (simp; done)); rw [h0] at t; exact t)
    exact callP_ok (ps := []) (os := []) (rs := [(.one (.val (.bool (decide ((ByteArray.size a0 : Int) ≤ 12)))))]) (by kernel_rfl) (.f f0 (.f f1 (.h 4 (.loop (h114_0 a0 0 ) (.exit 0) ⟨[(0, (.one (.val (.string a0)))), (3, (.one (.val (.int .i64 w0_114_0_0)))), (7, (.one (.val (.bool w1_114_0_0))))], []⟩) .nil)))
  | k1 =>
    try dsimp only
    have f0 : (⟨[(0, (.one (.val (.string a0)))), (3, (.one (.val (.int .i64 0))))], []⟩ : St) = h114_0 a0 0  := (by first | rfl | (unfold h114_0; simp [byteRows_eq, ints_y, List.take_of_length_le, d_sisi, d_LsisiEi, d_b, d_i, d_s, d_iLsEs, d_LsisiE, d_LsE, d_y, fromBR_sisi, fromBR_b, fromBR_i, fromBR_s, fromBR_y]; done))
    have f1 : Ev F X (.code l114_0 (h114_0 a0 0 ) .ret ⟨[(2, (.one (.val (.bool false))))], []⟩) := (by have t : Ev F X (.code l114_0 (h114_0 a0 0 ) (ex114_0 (r114_0 a0 (Int.toNat (ByteArray.size a0 : Int)) 0)) (fin114_0 a0 (r114_0 a0 (Int.toNat (ByteArray.size a0 : Int)) 0))) := t114_0 (a0 := a0) (by first | assumption | omega) _ 0  (by omega) (by omega) (by first | rfl | omega | (simp only [List.length_map, List.length_set, List.length_append, List.length_replicate, List.length_cons, List.length_nil]; done) | (simp only [List.length_map, List.length_set, List.length_append, List.length_replicate, List.length_cons, List.length_nil]; omega) | (simp; done)); rw [h0] at t; exact t)
    exact callP_ok (ps := []) (os := []) (rs := [(.one (.val (.bool false)))]) (by kernel_rfl) (.f f0 (.f f1 (.h 4 (.loop (h114_0 a0 0 ) .ret ⟨[(2, (.one (.val (.bool false))))], []⟩) .nil)))
/-! loop 154_0 -/
inductive O154_0 where
  | k0 (w0 : Int) (w1 : Bool)
  | k1
def r154_0 (a0 : ByteArray) : Nat → Int → O154_0
  | n_154_0 + 1, i_154_0 =>
    if ((byteAt a0 i_154_0) == 10) = true then (O154_0.k1) else
    (r154_0 a0 n_154_0 (i_154_0 + 1) )
  | 0, i_154_0 => (O154_0.k0 i_154_0 (decide (i_154_0 < (ByteArray.size a0 : Int))))
def h154_0 (a0 : ByteArray) (i_154_0 : Int)  : St := ⟨[(0, (.one (.val (.string a0)))), (3, (.one (.val (.int .i64 i_154_0))))], []⟩
def ex154_0 : O154_0 → VX.Exit
  | .k0 _ _ => (.exit 0)
  | .k1 => .ret
def fin154_0 (a0 : ByteArray) : O154_0 → St
  | .k0 w0 w1 => ⟨[(0, (.one (.val (.string a0)))), (3, (.one (.val (.int .i64 w0)))), (7, (.one (.val (.bool w1))))], []⟩
  | .k1 => ⟨[(2, (.one (.val (.bool false))))], []⟩
theorem t154_0 {a0 : ByteArray} (hy0 : ByteArray.size a0 ≤ 140737488351232) : ∀ (n_154_0 : Nat) (i_154_0 : Int) , 0 ≤ i_154_0 → n_154_0 = Int.toNat ((ByteArray.size a0 : Int) - i_154_0) → (ByteArray.size a0 : Int) ≤ 9223372036854775807 → Ev F X (.code l154_0 (h154_0 a0 i_154_0 ) (ex154_0 (r154_0 a0 n_154_0 i_154_0 )) (fin154_0 a0 (r154_0 a0 n_154_0 i_154_0 )))
  | 0, i_154_0, hn0, hn, hi0 => by
    have hc : ¬ (decide (i_154_0 < (ByteArray.size a0 : Int))) = true := by
      simp only [decide_eq_true_eq]; omega
    have st := codeH_ok (F := F) (X := X) (c := b154_0) (t := 0) (hs := [(8, .b false)]) (σ := h154_0 a0 i_154_0 ) (σ' := ⟨[(0, (.one (.val (.string a0)))), (3, (.one (.val (.int .i64 i_154_0)))), (7, (.one (.val (.bool (decide (i_154_0 < (ByteArray.size a0 : Int)))))))], []⟩) (e := (.exit 0)) (t' := 9) (hs' := []) (q := [(decide (i_154_0 < (ByteArray.size a0 : Int))) = false]) (by kernel_rfl) ⟨(nt hc), trivial⟩
    rw [show (⟨[(0, (.one (.val (.string a0)))), (3, (.one (.val (.int .i64 i_154_0)))), (7, (.one (.val (.bool (decide (i_154_0 < (ByteArray.size a0 : Int)))))))], []⟩ : St) = fin154_0 a0 (.k0 i_154_0 (decide (i_154_0 < (ByteArray.size a0 : Int)))) from by first | rfl | (unfold fin154_0; simp [byteRows_eq, ints_y, List.take_of_length_le, d_sisi, d_LsisiEi, d_b, d_i, d_s, d_iLsEs, d_LsisiE, d_LsE, d_y, fromBR_sisi, fromBR_b, fromBR_i, fromBR_s, fromBR_y]; done)] at st
    exact .loopX st (show ((.exit 0) : VX.Exit) ≠ .normal from by simp)
  | n_154_0 + 1, i_154_0, hn0, hn, hi0 => by
    have hc : (decide (i_154_0 < (ByteArray.size a0 : Int))) = true := by
      simp only [decide_eq_true_eq]; omega
    have hw : IntKind.wrap .i64 (i_154_0 + 1) = i_154_0 + 1 := wrap64 (by omega)
    have hj0 := hi0; try simp only [List.length_map, List.length_set, List.length_append, List.length_replicate, List.length_cons, List.length_nil, Int.toNat_natCast] at hj0
    simp only [r154_0]
    by_cases h_154_0_1 : ((byteAt a0 i_154_0) == 10) = true
    · try simp only [if_pos h_154_0_1]
      have st := codeH_ok (F := F) (X := X) (c := b154_0) (t := 0) (hs := [(8, .b true), (17, .b true)]) (σ := h154_0 a0 i_154_0 ) (σ' := ⟨[(2, (.one (.val (.bool false))))], []⟩) (e := .ret) (t' := 20) (hs' := []) (q := [(decide (i_154_0 < (ByteArray.size a0 : Int))) = true, 0 ≤ i_154_0 ∧ i_154_0 < (ByteArray.size a0 : Int), ((byteAt a0 i_154_0) == 10) = true]) (by kernel_rfl) ⟨hc, (by first | exact True.intro | with_reducible rfl | with_reducible assumption | omega | (simp only [decide_eq_true_eq] at *; omega) | (simp only [List.length_map, List.length_set, List.length_append, List.length_replicate, List.length_cons, List.length_nil]; omega) | (simp; omega) | (simp [List.take_of_length_le]; done) | assumption | trivial | (simp [*, byteRows_eq, ints_y]; done)), h_154_0_1, trivial⟩
      rw [show (⟨[(2, (.one (.val (.bool false))))], []⟩ : St) = fin154_0 a0 (.k1) from by first | rfl | (unfold fin154_0; simp [byteRows_eq, ints_y, List.take_of_length_le, d_sisi, d_LsisiEi, d_b, d_i, d_s, d_iLsEs, d_LsisiE, d_LsE, d_y, fromBR_sisi, fromBR_b, fromBR_i, fromBR_s, fromBR_y]; done)] at st
      exact .loopX st (show (.ret : VX.Exit) ≠ .normal from by simp)
    · try simp only [if_neg h_154_0_1]
      have st := codeH_ok (F := F) (X := X) (c := b154_0) (t := 0) (hs := [(8, .b true), (17, .b false)]) (σ := h154_0 a0 i_154_0 ) (σ' := ⟨[(0, (.one (.val (.string a0)))), (3, (.one (.val (.int .i64 (IntKind.wrap .i64 (i_154_0 + 1))))))], []⟩) (e := .normal) (t' := 24) (hs' := []) (q := [(decide (i_154_0 < (ByteArray.size a0 : Int))) = true, 0 ≤ i_154_0 ∧ i_154_0 < (ByteArray.size a0 : Int), ((byteAt a0 i_154_0) == 10) = false, True]) (by kernel_rfl) ⟨hc, (by first | exact True.intro | with_reducible rfl | with_reducible assumption | omega | (simp only [decide_eq_true_eq] at *; omega) | (simp only [List.length_map, List.length_set, List.length_append, List.length_replicate, List.length_cons, List.length_nil]; omega) | (simp; omega) | (simp [List.take_of_length_le]; done) | assumption | trivial | (simp [*, byteRows_eq, ints_y]; done)), (nt h_154_0_1), trivial, trivial⟩
      have ih := t154_0 (a0 := a0) hy0 n_154_0 (i_154_0 + 1)  (by omega) (by omega) (by first | omega | (simp only [List.length_map, List.length_set, List.length_append, List.length_replicate, List.length_cons, List.length_nil]; omega) | (simp only [List.length_map, List.length_set, List.length_append, List.length_replicate, List.length_cons, List.length_nil]; assumption) | assumption | (simp only [List.length_map, List.length_set, List.length_append, List.length_replicate, List.length_cons, List.length_nil] at *; omega))
      rw [show (⟨[(0, (.one (.val (.string a0)))), (3, (.one (.val (.int .i64 (IntKind.wrap .i64 (i_154_0 + 1))))))], []⟩ : St) = h154_0 a0 (i_154_0 + 1)  from by first | (unfold h154_0; simp only [hw]; done) | (unfold h154_0; simp only [hw, List.length_map, List.length_set, List.length_append, List.length_replicate, List.length_cons, List.length_nil]; done) | (unfold h154_0; simp [hw, byteRows_eq, ints_y, List.take_of_length_le, d_sisi, d_LsisiEi, d_b, d_i, d_s, d_iLsEs, d_LsisiE, d_LsE, d_y, fromBR_sisi, fromBR_b, fromBR_i, fromBR_s, fromBR_y]; done)] at st
      exact .loopN st ih
/-! loop.example/g00539/spec.l10Rest -/
def m154 (a0 : ByteArray) : Bool :=
  (match r154_0 a0 (Int.toNat (ByteArray.size a0 : Int)) 0 with | .k0 w0_154_0_0 w1_154_0_0 => (decide ((ByteArray.size a0 : Int) ≤ 161)) | .k1 => false)
theorem e154 {a0 : ByteArray} (hy0 : ByteArray.size a0 ≤ 140737488351232) : Ev F X (.call 154 [(.one (.val (.string a0)))] [] [] [(.one (.val (.bool (m154 a0))))]) := by
  unfold m154
  cases h0 : r154_0 a0 (Int.toNat (ByteArray.size a0 : Int)) 0 with
  | k0 w0_154_0_0 w1_154_0_0 =>
    try dsimp only
    have f0 : (⟨[(0, (.one (.val (.string a0)))), (3, (.one (.val (.int .i64 0))))], []⟩ : St) = h154_0 a0 0  := (by first | rfl | (unfold h154_0; simp [byteRows_eq, ints_y, List.take_of_length_le, d_sisi, d_LsisiEi, d_b, d_i, d_s, d_iLsEs, d_LsisiE, d_LsE, d_y, fromBR_sisi, fromBR_b, fromBR_i, fromBR_s, fromBR_y]; done))
    have f1 : Ev F X (.code l154_0 (h154_0 a0 0 ) (.exit 0) ⟨[(0, (.one (.val (.string a0)))), (3, (.one (.val (.int .i64 w0_154_0_0)))), (7, (.one (.val (.bool w1_154_0_0))))], []⟩) := (by have t : Ev F X (.code l154_0 (h154_0 a0 0 ) (ex154_0 (r154_0 a0 (Int.toNat (ByteArray.size a0 : Int)) 0)) (fin154_0 a0 (r154_0 a0 (Int.toNat (ByteArray.size a0 : Int)) 0))) := t154_0 (a0 := a0) (by first | assumption | omega) _ 0  (by omega) (by omega) (by first | rfl | omega | (simp only [List.length_map, List.length_set, List.length_append, List.length_replicate, List.length_cons, List.length_nil]; done) | (simp only [List.length_map, List.length_set, List.length_append, List.length_replicate, List.length_cons, List.length_nil]; omega) | (simp; done)); rw [h0] at t; exact t)
    exact callP_ok (ps := []) (os := []) (rs := [(.one (.val (.bool (decide ((ByteArray.size a0 : Int) ≤ 161)))))]) (by kernel_rfl) (.f f0 (.f f1 (.h 4 (.loop (h154_0 a0 0 ) (.exit 0) ⟨[(0, (.one (.val (.string a0)))), (3, (.one (.val (.int .i64 w0_154_0_0)))), (7, (.one (.val (.bool w1_154_0_0))))], []⟩) .nil)))
  | k1 =>
    try dsimp only
    have f0 : (⟨[(0, (.one (.val (.string a0)))), (3, (.one (.val (.int .i64 0))))], []⟩ : St) = h154_0 a0 0  := (by first | rfl | (unfold h154_0; simp [byteRows_eq, ints_y, List.take_of_length_le, d_sisi, d_LsisiEi, d_b, d_i, d_s, d_iLsEs, d_LsisiE, d_LsE, d_y, fromBR_sisi, fromBR_b, fromBR_i, fromBR_s, fromBR_y]; done))
    have f1 : Ev F X (.code l154_0 (h154_0 a0 0 ) .ret ⟨[(2, (.one (.val (.bool false))))], []⟩) := (by have t : Ev F X (.code l154_0 (h154_0 a0 0 ) (ex154_0 (r154_0 a0 (Int.toNat (ByteArray.size a0 : Int)) 0)) (fin154_0 a0 (r154_0 a0 (Int.toNat (ByteArray.size a0 : Int)) 0))) := t154_0 (a0 := a0) (by first | assumption | omega) _ 0  (by omega) (by omega) (by first | rfl | omega | (simp only [List.length_map, List.length_set, List.length_append, List.length_replicate, List.length_cons, List.length_nil]; done) | (simp only [List.length_map, List.length_set, List.length_append, List.length_replicate, List.length_cons, List.length_nil]; omega) | (simp; done)); rw [h0] at t; exact t)
    exact callP_ok (ps := []) (os := []) (rs := [(.one (.val (.bool false)))]) (by kernel_rfl) (.f f0 (.f f1 (.h 4 (.loop (h154_0 a0 0 ) .ret ⟨[(2, (.one (.val (.bool false))))], []⟩) .nil)))
/-! loop 136_0 -/
inductive O136_0 where
  | k0 (w0 : Int) (w1 : Bool)
  | k1
def r136_0 (a0 : K_LsisiEi) (a1 : Int) : Nat → Int → O136_0
  | n_136_0 + 1, i_136_0 =>
    if (decide (((List.getD a0.f0 (Int.toNat a1) (K_sisi.mk (⟨#[]⟩ : ByteArray) 0 (⟨#[]⟩ : ByteArray) 0)).f1) ≥ 0)) = true then (if (((List.getD a0.f0 (Int.toNat i_136_0) (K_sisi.mk (⟨#[]⟩ : ByteArray) 0 (⟨#[]⟩ : ByteArray) 0)).f1) == ((List.getD a0.f0 (Int.toNat a1) (K_sisi.mk (⟨#[]⟩ : ByteArray) 0 (⟨#[]⟩ : ByteArray) 0)).f1)) = true then (O136_0.k1) else
      (r136_0 a0 a1 n_136_0 (i_136_0 + 1) )) else
    (r136_0 a0 a1 n_136_0 (i_136_0 + 1) )
  | 0, i_136_0 => (O136_0.k0 i_136_0 (decide (i_136_0 < a1)))
def h136_0 (l0 : Nat) (a0 : K_LsisiEi) (a1 : Int) (i_136_0 : Int)  : St := ⟨[(0, (.bptr l0 [(.sl (List.map b_sisi a0.f0)), (.val (.int .i64 a0.f1))])), (1, (.one (.val (.int .i64 a1)))), (5, (.bptr l0 [(.val (.string ((List.getD a0.f0 (Int.toNat a1) (K_sisi.mk (⟨#[]⟩ : ByteArray) 0 (⟨#[]⟩ : ByteArray) 0)).f0))), (.val (.int .i64 ((List.getD a0.f0 (Int.toNat a1) (K_sisi.mk (⟨#[]⟩ : ByteArray) 0 (⟨#[]⟩ : ByteArray) 0)).f1))), (.val (.string ((List.getD a0.f0 (Int.toNat a1) (K_sisi.mk (⟨#[]⟩ : ByteArray) 0 (⟨#[]⟩ : ByteArray) 0)).f2))), (.val (.int .i64 ((List.getD a0.f0 (Int.toNat a1) (K_sisi.mk (⟨#[]⟩ : ByteArray) 0 (⟨#[]⟩ : ByteArray) 0)).f3)))])), (6, (.one (.val (.int .i64 i_136_0))))], []⟩
def ex136_0 : O136_0 → VX.Exit
  | .k0 _ _ => (.exit 0)
  | .k1 => .ret
def fin136_0 (l0 : Nat) (a0 : K_LsisiEi) (a1 : Int) : O136_0 → St
  | .k0 w0 w1 => ⟨[(0, (.bptr l0 [(.sl (List.map b_sisi a0.f0)), (.val (.int .i64 a0.f1))])), (1, (.one (.val (.int .i64 a1)))), (5, (.bptr l0 [(.val (.string ((List.getD a0.f0 (Int.toNat a1) (K_sisi.mk (⟨#[]⟩ : ByteArray) 0 (⟨#[]⟩ : ByteArray) 0)).f0))), (.val (.int .i64 ((List.getD a0.f0 (Int.toNat a1) (K_sisi.mk (⟨#[]⟩ : ByteArray) 0 (⟨#[]⟩ : ByteArray) 0)).f1))), (.val (.string ((List.getD a0.f0 (Int.toNat a1) (K_sisi.mk (⟨#[]⟩ : ByteArray) 0 (⟨#[]⟩ : ByteArray) 0)).f2))), (.val (.int .i64 ((List.getD a0.f0 (Int.toNat a1) (K_sisi.mk (⟨#[]⟩ : ByteArray) 0 (⟨#[]⟩ : ByteArray) 0)).f3)))])), (6, (.one (.val (.int .i64 w0)))), (55, (.one (.val (.bool w1))))], []⟩
  | .k1 => ⟨[(4, (.one (.val (.int .i64 6))))], []⟩
theorem t136_0 {l0 : Nat} {a0 : K_LsisiEi} {a1 : Int} (hy0 : 0 ≤ a1) (hy1 : a1 < List.length a0.f0) (hy2 : List.length a0.f0 * 48 ≤ 140737488351232) (hy3 : ∀ z ∈ a0.f0, os_sisi z) : ∀ (n_136_0 : Nat) (i_136_0 : Int) , 0 ≤ i_136_0 → n_136_0 = Int.toNat (a1 - i_136_0) → a1 ≤ 9223372036854775807 → Ev F X (.code l136_0 (h136_0 l0 a0 a1 i_136_0 ) (ex136_0 (r136_0 a0 a1 n_136_0 i_136_0 )) (fin136_0 l0 a0 a1 (r136_0 a0 a1 n_136_0 i_136_0 )))
  | 0, i_136_0, hn0, hn, hi0 => by
    have hc : ¬ (decide (i_136_0 < a1)) = true := by
      simp only [decide_eq_true_eq]; omega
    have st := codeH_ok (F := F) (X := X) (c := b136_0) (t := 0) (hs := [(6, .b false)]) (σ := h136_0 l0 a0 a1 i_136_0 ) (σ' := ⟨[(0, (.bptr l0 [(.sl (List.map b_sisi a0.f0)), (.val (.int .i64 a0.f1))])), (1, (.one (.val (.int .i64 a1)))), (5, (.bptr l0 [(.val (.string ((List.getD a0.f0 (Int.toNat a1) (K_sisi.mk (⟨#[]⟩ : ByteArray) 0 (⟨#[]⟩ : ByteArray) 0)).f0))), (.val (.int .i64 ((List.getD a0.f0 (Int.toNat a1) (K_sisi.mk (⟨#[]⟩ : ByteArray) 0 (⟨#[]⟩ : ByteArray) 0)).f1))), (.val (.string ((List.getD a0.f0 (Int.toNat a1) (K_sisi.mk (⟨#[]⟩ : ByteArray) 0 (⟨#[]⟩ : ByteArray) 0)).f2))), (.val (.int .i64 ((List.getD a0.f0 (Int.toNat a1) (K_sisi.mk (⟨#[]⟩ : ByteArray) 0 (⟨#[]⟩ : ByteArray) 0)).f3)))])), (6, (.one (.val (.int .i64 i_136_0)))), (55, (.one (.val (.bool (decide (i_136_0 < a1))))))], []⟩) (e := (.exit 0)) (t' := 7) (hs' := []) (q := [(decide (i_136_0 < a1)) = false]) (by kernel_rfl) ⟨(nt hc), trivial⟩
    rw [show (⟨[(0, (.bptr l0 [(.sl (List.map b_sisi a0.f0)), (.val (.int .i64 a0.f1))])), (1, (.one (.val (.int .i64 a1)))), (5, (.bptr l0 [(.val (.string ((List.getD a0.f0 (Int.toNat a1) (K_sisi.mk (⟨#[]⟩ : ByteArray) 0 (⟨#[]⟩ : ByteArray) 0)).f0))), (.val (.int .i64 ((List.getD a0.f0 (Int.toNat a1) (K_sisi.mk (⟨#[]⟩ : ByteArray) 0 (⟨#[]⟩ : ByteArray) 0)).f1))), (.val (.string ((List.getD a0.f0 (Int.toNat a1) (K_sisi.mk (⟨#[]⟩ : ByteArray) 0 (⟨#[]⟩ : ByteArray) 0)).f2))), (.val (.int .i64 ((List.getD a0.f0 (Int.toNat a1) (K_sisi.mk (⟨#[]⟩ : ByteArray) 0 (⟨#[]⟩ : ByteArray) 0)).f3)))])), (6, (.one (.val (.int .i64 i_136_0)))), (55, (.one (.val (.bool (decide (i_136_0 < a1))))))], []⟩ : St) = fin136_0 l0 a0 a1 (.k0 i_136_0 (decide (i_136_0 < a1))) from by first | rfl | (unfold fin136_0; simp [byteRows_eq, ints_y, List.take_of_length_le, d_sisi, d_LsisiEi, d_b, d_i, d_s, d_iLsEs, d_LsisiE, d_LsE, d_y, fromBR_sisi, fromBR_b, fromBR_i, fromBR_s, fromBR_y]; done)] at st
    exact .loopX st (show ((.exit 0) : VX.Exit) ≠ .normal from by simp)
  | n_136_0 + 1, i_136_0, hn0, hn, hi0 => by
    have hc : (decide (i_136_0 < a1)) = true := by
      simp only [decide_eq_true_eq]; omega
    have hw : IntKind.wrap .i64 (i_136_0 + 1) = i_136_0 + 1 := wrap64 (by omega)
    have hj0 := hi0; try simp only [List.length_map, List.length_set, List.length_append, List.length_replicate, List.length_cons, List.length_nil, Int.toNat_natCast] at hj0
    simp only [r136_0]
    by_cases h_136_0_1 : (decide (((List.getD a0.f0 (Int.toNat a1) (K_sisi.mk (⟨#[]⟩ : ByteArray) 0 (⟨#[]⟩ : ByteArray) 0)).f1) ≥ 0)) = true
    · try simp only [if_pos h_136_0_1]
      by_cases h_136_0_2 : (((List.getD a0.f0 (Int.toNat i_136_0) (K_sisi.mk (⟨#[]⟩ : ByteArray) 0 (⟨#[]⟩ : ByteArray) 0)).f1) == ((List.getD a0.f0 (Int.toNat a1) (K_sisi.mk (⟨#[]⟩ : ByteArray) 0 (⟨#[]⟩ : ByteArray) 0)).f1)) = true
      · try simp only [if_pos h_136_0_2]
        have st := codeH_ok (F := F) (X := X) (c := b136_0) (t := 0) (hs := [(6, .b true), (19, .b true), (21, .b true), (23, .b true), (25, .b true), (27, .b true), (29, .b true), (30, .row [(.val (.string ((List.getD a0.f0 (Int.toNat i_136_0) (K_sisi.mk (⟨#[]⟩ : ByteArray) 0 (⟨#[]⟩ : ByteArray) 0)).f0))), (.val (.int .i64 ((List.getD a0.f0 (Int.toNat i_136_0) (K_sisi.mk (⟨#[]⟩ : ByteArray) 0 (⟨#[]⟩ : ByteArray) 0)).f1))), (.val (.string ((List.getD a0.f0 (Int.toNat i_136_0) (K_sisi.mk (⟨#[]⟩ : ByteArray) 0 (⟨#[]⟩ : ByteArray) 0)).f2))), (.val (.int .i64 ((List.getD a0.f0 (Int.toNat i_136_0) (K_sisi.mk (⟨#[]⟩ : ByteArray) 0 (⟨#[]⟩ : ByteArray) 0)).f3)))]), (31, .b true), (33, .b true), (35, .b true), (37, .b true), (39, .b true), (41, .b true), (43, .b true), (46, .b true), (47, .b true)]) (σ := h136_0 l0 a0 a1 i_136_0 ) (σ' := ⟨[(4, (.one (.val (.int .i64 6))))], []⟩) (e := .ret) (t' := 50) (hs' := []) (q := [(decide (i_136_0 < a1)) = true, (decide (((List.getD a0.f0 (Int.toNat a1) (K_sisi.mk (⟨#[]⟩ : ByteArray) 0 (⟨#[]⟩ : ByteArray) 0)).f1) ≥ 0)) = true, (decide (((List.getD a0.f0 (Int.toNat a1) (K_sisi.mk (⟨#[]⟩ : ByteArray) 0 (⟨#[]⟩ : ByteArray) 0)).f1) ≥ 0)) = true, (decide (((List.getD a0.f0 (Int.toNat a1) (K_sisi.mk (⟨#[]⟩ : ByteArray) 0 (⟨#[]⟩ : ByteArray) 0)).f1) ≥ 0)) = true, (decide (((List.getD a0.f0 (Int.toNat a1) (K_sisi.mk (⟨#[]⟩ : ByteArray) 0 (⟨#[]⟩ : ByteArray) 0)).f1) ≥ 0)) = true, (decide (((List.getD a0.f0 (Int.toNat a1) (K_sisi.mk (⟨#[]⟩ : ByteArray) 0 (⟨#[]⟩ : ByteArray) 0)).f1) ≥ 0)) = true, (decide (((List.getD a0.f0 (Int.toNat a1) (K_sisi.mk (⟨#[]⟩ : ByteArray) 0 (⟨#[]⟩ : ByteArray) 0)).f1) ≥ 0)) = true, 0 ≤ i_136_0, (List.map b_sisi a0.f0)[(Int.toNat i_136_0)]? = some [(.val (.string ((List.getD a0.f0 (Int.toNat i_136_0) (K_sisi.mk (⟨#[]⟩ : ByteArray) 0 (⟨#[]⟩ : ByteArray) 0)).f0))), (.val (.int .i64 ((List.getD a0.f0 (Int.toNat i_136_0) (K_sisi.mk (⟨#[]⟩ : ByteArray) 0 (⟨#[]⟩ : ByteArray) 0)).f1))), (.val (.string ((List.getD a0.f0 (Int.toNat i_136_0) (K_sisi.mk (⟨#[]⟩ : ByteArray) 0 (⟨#[]⟩ : ByteArray) 0)).f2))), (.val (.int .i64 ((List.getD a0.f0 (Int.toNat i_136_0) (K_sisi.mk (⟨#[]⟩ : ByteArray) 0 (⟨#[]⟩ : ByteArray) 0)).f3)))], (decide (((List.getD a0.f0 (Int.toNat a1) (K_sisi.mk (⟨#[]⟩ : ByteArray) 0 (⟨#[]⟩ : ByteArray) 0)).f1) ≥ 0)) = true, (decide (((List.getD a0.f0 (Int.toNat a1) (K_sisi.mk (⟨#[]⟩ : ByteArray) 0 (⟨#[]⟩ : ByteArray) 0)).f1) ≥ 0)) = true, (decide (((List.getD a0.f0 (Int.toNat a1) (K_sisi.mk (⟨#[]⟩ : ByteArray) 0 (⟨#[]⟩ : ByteArray) 0)).f1) ≥ 0)) = true, (decide (((List.getD a0.f0 (Int.toNat a1) (K_sisi.mk (⟨#[]⟩ : ByteArray) 0 (⟨#[]⟩ : ByteArray) 0)).f1) ≥ 0)) = true, (decide (((List.getD a0.f0 (Int.toNat a1) (K_sisi.mk (⟨#[]⟩ : ByteArray) 0 (⟨#[]⟩ : ByteArray) 0)).f1) ≥ 0)) = true, (decide (((List.getD a0.f0 (Int.toNat a1) (K_sisi.mk (⟨#[]⟩ : ByteArray) 0 (⟨#[]⟩ : ByteArray) 0)).f1) ≥ 0)) = true, (decide (((List.getD a0.f0 (Int.toNat a1) (K_sisi.mk (⟨#[]⟩ : ByteArray) 0 (⟨#[]⟩ : ByteArray) 0)).f1) ≥ 0)) = true, (decide (((List.getD a0.f0 (Int.toNat a1) (K_sisi.mk (⟨#[]⟩ : ByteArray) 0 (⟨#[]⟩ : ByteArray) 0)).f1) ≥ 0)) = true, (((List.getD a0.f0 (Int.toNat i_136_0) (K_sisi.mk (⟨#[]⟩ : ByteArray) 0 (⟨#[]⟩ : ByteArray) 0)).f1) == ((List.getD a0.f0 (Int.toNat a1) (K_sisi.mk (⟨#[]⟩ : ByteArray) 0 (⟨#[]⟩ : ByteArray) 0)).f1)) = true]) (by kernel_rfl) ⟨hc, h_136_0_1, h_136_0_1, h_136_0_1, h_136_0_1, h_136_0_1, h_136_0_1, (by first | exact True.intro | with_reducible rfl | with_reducible assumption | omega | (simp only [decide_eq_true_eq, List.length_map] at *; omega) | (simp only [decide_eq_true_eq] at *; omega) | (simp only [List.length_map, List.length_set, List.length_append, List.length_replicate, List.length_cons, List.length_nil]; omega) | (simp; omega) | (simp [List.take_of_length_le]; done) | assumption | trivial | (simp [*, byteRows_eq, ints_y]; done)), (by first | (rw [List.getElem?_map, getD_at a0.f0 (Int.toNat i_136_0) (K_sisi.mk (⟨#[]⟩ : ByteArray) 0 (⟨#[]⟩ : ByteArray) 0) (by first | exact True.intro | with_reducible rfl | with_reducible assumption | omega | (simp only [decide_eq_true_eq, List.length_map] at *; omega) | (simp only [decide_eq_true_eq] at *; omega) | (simp only [List.length_map]; omega) | (simp; omega) | (simp [List.take_of_length_le]; done) | assumption | trivial | (simp [*, byteRows_eq, ints_y]; done))]; rfl) | (rw [Nat.zero_add, List.getElem?_map, getD_at a0.f0 (Int.toNat i_136_0) (K_sisi.mk (⟨#[]⟩ : ByteArray) 0 (⟨#[]⟩ : ByteArray) 0) (by first | exact True.intro | with_reducible rfl | with_reducible assumption | omega | (simp only [decide_eq_true_eq, List.length_map] at *; omega) | (simp only [decide_eq_true_eq] at *; omega) | (simp only [List.length_map]; omega) | (simp; omega) | (simp [List.take_of_length_le]; done) | assumption | trivial | (simp [*, byteRows_eq, ints_y]; done))]; rfl)), h_136_0_1, h_136_0_1, h_136_0_1, h_136_0_1, h_136_0_1, h_136_0_1, h_136_0_1, h_136_0_1, h_136_0_2, trivial⟩
        rw [show (⟨[(4, (.one (.val (.int .i64 6))))], []⟩ : St) = fin136_0 l0 a0 a1 (.k1) from by first | rfl | (unfold fin136_0; simp [byteRows_eq, ints_y, List.take_of_length_le, d_sisi, d_LsisiEi, d_b, d_i, d_s, d_iLsEs, d_LsisiE, d_LsE, d_y, fromBR_sisi, fromBR_b, fromBR_i, fromBR_s, fromBR_y]; done)] at st
        exact .loopX st (show (.ret : VX.Exit) ≠ .normal from by simp)
      · try simp only [if_neg h_136_0_2]
        have st := codeH_ok (F := F) (X := X) (c := b136_0) (t := 0) (hs := [(6, .b true), (19, .b true), (21, .b true), (23, .b true), (25, .b true), (27, .b true), (29, .b true), (30, .row [(.val (.string ((List.getD a0.f0 (Int.toNat i_136_0) (K_sisi.mk (⟨#[]⟩ : ByteArray) 0 (⟨#[]⟩ : ByteArray) 0)).f0))), (.val (.int .i64 ((List.getD a0.f0 (Int.toNat i_136_0) (K_sisi.mk (⟨#[]⟩ : ByteArray) 0 (⟨#[]⟩ : ByteArray) 0)).f1))), (.val (.string ((List.getD a0.f0 (Int.toNat i_136_0) (K_sisi.mk (⟨#[]⟩ : ByteArray) 0 (⟨#[]⟩ : ByteArray) 0)).f2))), (.val (.int .i64 ((List.getD a0.f0 (Int.toNat i_136_0) (K_sisi.mk (⟨#[]⟩ : ByteArray) 0 (⟨#[]⟩ : ByteArray) 0)).f3)))]), (31, .b true), (33, .b true), (35, .b true), (37, .b true), (39, .b true), (41, .b true), (43, .b true), (46, .b true), (47, .b false)]) (σ := h136_0 l0 a0 a1 i_136_0 ) (σ' := ⟨[(0, (.bptr l0 [(.sl (List.map b_sisi a0.f0)), (.val (.int .i64 a0.f1))])), (1, (.one (.val (.int .i64 a1)))), (5, (.bptr l0 [(.val (.string ((List.getD a0.f0 (Int.toNat a1) (K_sisi.mk (⟨#[]⟩ : ByteArray) 0 (⟨#[]⟩ : ByteArray) 0)).f0))), (.val (.int .i64 ((List.getD a0.f0 (Int.toNat a1) (K_sisi.mk (⟨#[]⟩ : ByteArray) 0 (⟨#[]⟩ : ByteArray) 0)).f1))), (.val (.string ((List.getD a0.f0 (Int.toNat a1) (K_sisi.mk (⟨#[]⟩ : ByteArray) 0 (⟨#[]⟩ : ByteArray) 0)).f2))), (.val (.int .i64 ((List.getD a0.f0 (Int.toNat a1) (K_sisi.mk (⟨#[]⟩ : ByteArray) 0 (⟨#[]⟩ : ByteArray) 0)).f3)))])), (6, (.one (.val (.int .i64 (IntKind.wrap .i64 (i_136_0 + 1))))))], []⟩) (e := .normal) (t' := 54) (hs' := []) (q := [(decide (i_136_0 < a1)) = true, (decide (((List.getD a0.f0 (Int.toNat a1) (K_sisi.mk (⟨#[]⟩ : ByteArray) 0 (⟨#[]⟩ : ByteArray) 0)).f1) ≥ 0)) = true, (decide (((List.getD a0.f0 (Int.toNat a1) (K_sisi.mk (⟨#[]⟩ : ByteArray) 0 (⟨#[]⟩ : ByteArray) 0)).f1) ≥ 0)) = true, (decide (((List.getD a0.f0 (Int.toNat a1) (K_sisi.mk (⟨#[]⟩ : ByteArray) 0 (⟨#[]⟩ : ByteArray) 0)).f1) ≥ 0)) = true, (decide (((List.getD a0.f0 (Int.toNat a1) (K_sisi.mk (⟨#[]⟩ : ByteArray) 0 (⟨#[]⟩ : ByteArray) 0)).f1) ≥ 0)) = true, (decide (((List.getD a0.f0 (Int.toNat a1) (K_sisi.mk (⟨#[]⟩ : ByteArray) 0 (⟨#[]⟩ : ByteArray) 0)).f1) ≥ 0)) = true, (decide (((List.getD a0.f0 (Int.toNat a1) (K_sisi.mk (⟨#[]⟩ : ByteArray) 0 (⟨#[]⟩ : ByteArray) 0)).f1) ≥ 0)) = true, 0 ≤ i_136_0, (List.map b_sisi a0.f0)[(Int.toNat i_136_0)]? = some [(.val (.string ((List.getD a0.f0 (Int.toNat i_136_0) (K_sisi.mk (⟨#[]⟩ : ByteArray) 0 (⟨#[]⟩ : ByteArray) 0)).f0))), (.val (.int .i64 ((List.getD a0.f0 (Int.toNat i_136_0) (K_sisi.mk (⟨#[]⟩ : ByteArray) 0 (⟨#[]⟩ : ByteArray) 0)).f1))), (.val (.string ((List.getD a0.f0 (Int.toNat i_136_0) (K_sisi.mk (⟨#[]⟩ : ByteArray) 0 (⟨#[]⟩ : ByteArray) 0)).f2))), (.val (.int .i64 ((List.getD a0.f0 (Int.toNat i_136_0) (K_sisi.mk (⟨#[]⟩ : ByteArray) 0 (⟨#[]⟩ : ByteArray) 0)).f3)))], (decide (((List.getD a0.f0 (Int.toNat a1) (K_sisi.mk (⟨#[]⟩ : ByteArray) 0 (⟨#[]⟩ : ByteArray) 0)).f1) ≥ 0)) = true, (decide (((List.getD a0.f0 (Int.toNat a1) (K_sisi.mk (⟨#[]⟩ : ByteArray) 0 (⟨#[]⟩ : ByteArray) 0)).f1) ≥ 0)) = true, (decide (((List.getD a0.f0 (Int.toNat a1) (K_sisi.mk (⟨#[]⟩ : ByteArray) 0 (⟨#[]⟩ : ByteArray) 0)).f1) ≥ 0)) = true, (decide (((List.getD a0.f0 (Int.toNat a1) (K_sisi.mk (⟨#[]⟩ : ByteArray) 0 (⟨#[]⟩ : ByteArray) 0)).f1) ≥ 0)) = true, (decide (((List.getD a0.f0 (Int.toNat a1) (K_sisi.mk (⟨#[]⟩ : ByteArray) 0 (⟨#[]⟩ : ByteArray) 0)).f1) ≥ 0)) = true, (decide (((List.getD a0.f0 (Int.toNat a1) (K_sisi.mk (⟨#[]⟩ : ByteArray) 0 (⟨#[]⟩ : ByteArray) 0)).f1) ≥ 0)) = true, (decide (((List.getD a0.f0 (Int.toNat a1) (K_sisi.mk (⟨#[]⟩ : ByteArray) 0 (⟨#[]⟩ : ByteArray) 0)).f1) ≥ 0)) = true, (decide (((List.getD a0.f0 (Int.toNat a1) (K_sisi.mk (⟨#[]⟩ : ByteArray) 0 (⟨#[]⟩ : ByteArray) 0)).f1) ≥ 0)) = true, (((List.getD a0.f0 (Int.toNat i_136_0) (K_sisi.mk (⟨#[]⟩ : ByteArray) 0 (⟨#[]⟩ : ByteArray) 0)).f1) == ((List.getD a0.f0 (Int.toNat a1) (K_sisi.mk (⟨#[]⟩ : ByteArray) 0 (⟨#[]⟩ : ByteArray) 0)).f1)) = false, True]) (by kernel_rfl) ⟨hc, h_136_0_1, h_136_0_1, h_136_0_1, h_136_0_1, h_136_0_1, h_136_0_1, (by first | exact True.intro | with_reducible rfl | with_reducible assumption | omega | (simp only [decide_eq_true_eq, List.length_map] at *; omega) | (simp only [decide_eq_true_eq] at *; omega) | (simp only [List.length_map, List.length_set, List.length_append, List.length_replicate, List.length_cons, List.length_nil]; omega) | (simp; omega) | (simp [List.take_of_length_le]; done) | assumption | trivial | (simp [*, byteRows_eq, ints_y]; done)), (by first | (rw [List.getElem?_map, getD_at a0.f0 (Int.toNat i_136_0) (K_sisi.mk (⟨#[]⟩ : ByteArray) 0 (⟨#[]⟩ : ByteArray) 0) (by first | exact True.intro | with_reducible rfl | with_reducible assumption | omega | (simp only [decide_eq_true_eq, List.length_map] at *; omega) | (simp only [decide_eq_true_eq] at *; omega) | (simp only [List.length_map]; omega) | (simp; omega) | (simp [List.take_of_length_le]; done) | assumption | trivial | (simp [*, byteRows_eq, ints_y]; done))]; rfl) | (rw [Nat.zero_add, List.getElem?_map, getD_at a0.f0 (Int.toNat i_136_0) (K_sisi.mk (⟨#[]⟩ : ByteArray) 0 (⟨#[]⟩ : ByteArray) 0) (by first | exact True.intro | with_reducible rfl | with_reducible assumption | omega | (simp only [decide_eq_true_eq, List.length_map] at *; omega) | (simp only [decide_eq_true_eq] at *; omega) | (simp only [List.length_map]; omega) | (simp; omega) | (simp [List.take_of_length_le]; done) | assumption | trivial | (simp [*, byteRows_eq, ints_y]; done))]; rfl)), h_136_0_1, h_136_0_1, h_136_0_1, h_136_0_1, h_136_0_1, h_136_0_1, h_136_0_1, h_136_0_1, (nt h_136_0_2), trivial, trivial⟩
        have ih := t136_0 (l0 := l0) (a0 := a0) (a1 := a1) hy0 hy1 hy2 hy3 n_136_0 (i_136_0 + 1)  (by omega) (by omega) (by first | omega | (simp only [List.length_map, List.length_set, List.length_append, List.length_replicate, List.length_cons, List.length_nil]; omega) | (simp only [List.length_map, List.length_set, List.length_append, List.length_replicate, List.length_cons, List.length_nil]; assumption) | assumption | (simp only [List.length_map, List.length_set, List.length_append, List.length_replicate, List.length_cons, List.length_nil] at *; omega))
        rw [show (⟨[(0, (.bptr l0 [(.sl (List.map b_sisi a0.f0)), (.val (.int .i64 a0.f1))])), (1, (.one (.val (.int .i64 a1)))), (5, (.bptr l0 [(.val (.string ((List.getD a0.f0 (Int.toNat a1) (K_sisi.mk (⟨#[]⟩ : ByteArray) 0 (⟨#[]⟩ : ByteArray) 0)).f0))), (.val (.int .i64 ((List.getD a0.f0 (Int.toNat a1) (K_sisi.mk (⟨#[]⟩ : ByteArray) 0 (⟨#[]⟩ : ByteArray) 0)).f1))), (.val (.string ((List.getD a0.f0 (Int.toNat a1) (K_sisi.mk (⟨#[]⟩ : ByteArray) 0 (⟨#[]⟩ : ByteArray) 0)).f2))), (.val (.int .i64 ((List.getD a0.f0 (Int.toNat a1) (K_sisi.mk (⟨#[]⟩ : ByteArray) 0 (⟨#[]⟩ : ByteArray) 0)).f3)))])), (6, (.one (.val (.int .i64 (IntKind.wrap .i64 (i_136_0 + 1))))))], []⟩ : St) = h136_0 l0 a0 a1 (i_136_0 + 1)  from by first | (unfold h136_0; simp only [hw]; done) | (unfold h136_0; simp only [hw, List.length_map, List.length_set, List.length_append, List.length_replicate, List.length_cons, List.length_nil]; done) | (unfold h136_0; simp [hw, byteRows_eq, ints_y, List.take_of_length_le, d_sisi, d_LsisiEi, d_b, d_i, d_s, d_iLsEs, d_LsisiE, d_LsE, d_y, fromBR_sisi, fromBR_b, fromBR_i, fromBR_s, fromBR_y]; done)] at st
        exact .loopN st ih
    · try simp only [if_neg h_136_0_1]
      have st := codeH_ok (F := F) (X := X) (c := b136_0) (t := 0) (hs := [(6, .b true), (19, .b false), (21, .b false), (23, .b false), (25, .b false), (27, .b false), (29, .b false), (31, .b false), (33, .b false), (35, .b false), (37, .b false), (39, .b false), (41, .b false), (43, .b false), (46, .b false)]) (σ := h136_0 l0 a0 a1 i_136_0 ) (σ' := ⟨[(0, (.bptr l0 [(.sl (List.map b_sisi a0.f0)), (.val (.int .i64 a0.f1))])), (1, (.one (.val (.int .i64 a1)))), (5, (.bptr l0 [(.val (.string ((List.getD a0.f0 (Int.toNat a1) (K_sisi.mk (⟨#[]⟩ : ByteArray) 0 (⟨#[]⟩ : ByteArray) 0)).f0))), (.val (.int .i64 ((List.getD a0.f0 (Int.toNat a1) (K_sisi.mk (⟨#[]⟩ : ByteArray) 0 (⟨#[]⟩ : ByteArray) 0)).f1))), (.val (.string ((List.getD a0.f0 (Int.toNat a1) (K_sisi.mk (⟨#[]⟩ : ByteArray) 0 (⟨#[]⟩ : ByteArray) 0)).f2))), (.val (.int .i64 ((List.getD a0.f0 (Int.toNat a1) (K_sisi.mk (⟨#[]⟩ : ByteArray) 0 (⟨#[]⟩ : ByteArray) 0)).f3)))])), (6, (.one (.val (.int .i64 (IntKind.wrap .i64 (i_136_0 + 1))))))], []⟩) (e := .normal) (t' := 54) (hs' := []) (q := [(decide (i_136_0 < a1)) = true, (decide (((List.getD a0.f0 (Int.toNat a1) (K_sisi.mk (⟨#[]⟩ : ByteArray) 0 (⟨#[]⟩ : ByteArray) 0)).f1) ≥ 0)) = false, (decide (((List.getD a0.f0 (Int.toNat a1) (K_sisi.mk (⟨#[]⟩ : ByteArray) 0 (⟨#[]⟩ : ByteArray) 0)).f1) ≥ 0)) = false, (decide (((List.getD a0.f0 (Int.toNat a1) (K_sisi.mk (⟨#[]⟩ : ByteArray) 0 (⟨#[]⟩ : ByteArray) 0)).f1) ≥ 0)) = false, (decide (((List.getD a0.f0 (Int.toNat a1) (K_sisi.mk (⟨#[]⟩ : ByteArray) 0 (⟨#[]⟩ : ByteArray) 0)).f1) ≥ 0)) = false, (decide (((List.getD a0.f0 (Int.toNat a1) (K_sisi.mk (⟨#[]⟩ : ByteArray) 0 (⟨#[]⟩ : ByteArray) 0)).f1) ≥ 0)) = false, (decide (((List.getD a0.f0 (Int.toNat a1) (K_sisi.mk (⟨#[]⟩ : ByteArray) 0 (⟨#[]⟩ : ByteArray) 0)).f1) ≥ 0)) = false, (decide (((List.getD a0.f0 (Int.toNat a1) (K_sisi.mk (⟨#[]⟩ : ByteArray) 0 (⟨#[]⟩ : ByteArray) 0)).f1) ≥ 0)) = false, (decide (((List.getD a0.f0 (Int.toNat a1) (K_sisi.mk (⟨#[]⟩ : ByteArray) 0 (⟨#[]⟩ : ByteArray) 0)).f1) ≥ 0)) = false, (decide (((List.getD a0.f0 (Int.toNat a1) (K_sisi.mk (⟨#[]⟩ : ByteArray) 0 (⟨#[]⟩ : ByteArray) 0)).f1) ≥ 0)) = false, (decide (((List.getD a0.f0 (Int.toNat a1) (K_sisi.mk (⟨#[]⟩ : ByteArray) 0 (⟨#[]⟩ : ByteArray) 0)).f1) ≥ 0)) = false, (decide (((List.getD a0.f0 (Int.toNat a1) (K_sisi.mk (⟨#[]⟩ : ByteArray) 0 (⟨#[]⟩ : ByteArray) 0)).f1) ≥ 0)) = false, (decide (((List.getD a0.f0 (Int.toNat a1) (K_sisi.mk (⟨#[]⟩ : ByteArray) 0 (⟨#[]⟩ : ByteArray) 0)).f1) ≥ 0)) = false, (decide (((List.getD a0.f0 (Int.toNat a1) (K_sisi.mk (⟨#[]⟩ : ByteArray) 0 (⟨#[]⟩ : ByteArray) 0)).f1) ≥ 0)) = false, (decide (((List.getD a0.f0 (Int.toNat a1) (K_sisi.mk (⟨#[]⟩ : ByteArray) 0 (⟨#[]⟩ : ByteArray) 0)).f1) ≥ 0)) = false, True]) (by kernel_rfl) ⟨hc, (nt h_136_0_1), (nt h_136_0_1), (nt h_136_0_1), (nt h_136_0_1), (nt h_136_0_1), (nt h_136_0_1), (nt h_136_0_1), (nt h_136_0_1), (nt h_136_0_1), (nt h_136_0_1), (nt h_136_0_1), (nt h_136_0_1), (nt h_136_0_1), (nt h_136_0_1), trivial, trivial⟩
      have ih := t136_0 (l0 := l0) (a0 := a0) (a1 := a1) hy0 hy1 hy2 hy3 n_136_0 (i_136_0 + 1)  (by omega) (by omega) (by first | omega | (simp only [List.length_map, List.length_set, List.length_append, List.length_replicate, List.length_cons, List.length_nil]; omega) | (simp only [List.length_map, List.length_set, List.length_append, List.length_replicate, List.length_cons, List.length_nil]; assumption) | assumption | (simp only [List.length_map, List.length_set, List.length_append, List.length_replicate, List.length_cons, List.length_nil] at *; omega))
      rw [show (⟨[(0, (.bptr l0 [(.sl (List.map b_sisi a0.f0)), (.val (.int .i64 a0.f1))])), (1, (.one (.val (.int .i64 a1)))), (5, (.bptr l0 [(.val (.string ((List.getD a0.f0 (Int.toNat a1) (K_sisi.mk (⟨#[]⟩ : ByteArray) 0 (⟨#[]⟩ : ByteArray) 0)).f0))), (.val (.int .i64 ((List.getD a0.f0 (Int.toNat a1) (K_sisi.mk (⟨#[]⟩ : ByteArray) 0 (⟨#[]⟩ : ByteArray) 0)).f1))), (.val (.string ((List.getD a0.f0 (Int.toNat a1) (K_sisi.mk (⟨#[]⟩ : ByteArray) 0 (⟨#[]⟩ : ByteArray) 0)).f2))), (.val (.int .i64 ((List.getD a0.f0 (Int.toNat a1) (K_sisi.mk (⟨#[]⟩ : ByteArray) 0 (⟨#[]⟩ : ByteArray) 0)).f3)))])), (6, (.one (.val (.int .i64 (IntKind.wrap .i64 (i_136_0 + 1))))))], []⟩ : St) = h136_0 l0 a0 a1 (i_136_0 + 1)  from by first | (unfold h136_0; simp only [hw]; done) | (unfold h136_0; simp only [hw, List.length_map, List.length_set, List.length_append, List.length_replicate, List.length_cons, List.length_nil]; done) | (unfold h136_0; simp [hw, byteRows_eq, ints_y, List.take_of_length_le, d_sisi, d_LsisiEi, d_b, d_i, d_s, d_iLsEs, d_LsisiE, d_LsE, d_y, fromBR_sisi, fromBR_b, fromBR_i, fromBR_s, fromBR_y]; done)] at st
      exact .loopN st ih
/-! loop.example/g00539/spec.l10One -/
def m136 (a0 : K_LsisiEi) (a1 : Int) : Int :=
  if (!(m154 ((List.getD a0.f0 (Int.toNat a1) (K_sisi.mk (⟨#[]⟩ : ByteArray) 0 (⟨#[]⟩ : ByteArray) 0)).f0))) = true then 5 else
  if (!(m114 ((List.getD a0.f0 (Int.toNat a1) (K_sisi.mk (⟨#[]⟩ : ByteArray) 0 (⟨#[]⟩ : ByteArray) 0)).f2))) = true then 5 else
    if (!(m113 ((List.getD a0.f0 (Int.toNat a1) (K_sisi.mk (⟨#[]⟩ : ByteArray) 0 (⟨#[]⟩ : ByteArray) 0)).f1) (-1) 998)) = true then 3 else
      if (!(m113 ((List.getD a0.f0 (Int.toNat a1) (K_sisi.mk (⟨#[]⟩ : ByteArray) 0 (⟨#[]⟩ : ByteArray) 0)).f3) 1 9999)) = true then 3 else
        if (!(((List.getD a0.f0 (Int.toNat a1) (K_sisi.mk (⟨#[]⟩ : ByteArray) 0 (⟨#[]⟩ : ByteArray) 0)).f2).toList == (⟨#[]⟩ : ByteArray).toList)) = true then (if (decide (((List.getD a0.f0 (Int.toNat a1) (K_sisi.mk (⟨#[]⟩ : ByteArray) 0 (⟨#[]⟩ : ByteArray) 0)).f1) < 0)) = true then 1 else
            (match r136_0 a0 a1 (Int.toNat a1) 0 with | .k0 w0_136_0_28 w1_136_0_28 => 0 | .k1 => 6)) else
          (match r136_0 a0 a1 (Int.toNat a1) 0 with | .k0 w0_136_0_27 w1_136_0_27 => 0 | .k1 => 6)
theorem e136 {l0 : Nat} {a0 : K_LsisiEi} {a1 : Int} (hy0 : 0 ≤ a1) (hy1 : a1 < List.length a0.f0) (hy2 : List.length a0.f0 * 48 ≤ 140737488351232) (hy3 : ∀ z ∈ a0.f0, os_sisi z) : Ev F X (.call 136 [(.bptr l0 [(.sl (List.map b_sisi a0.f0)), (.val (.int .i64 a0.f1))]), (.one (.val (.int .i64 a1)))] [] [] [(.one (.val (.int .i64 (m136 a0 a1))))]) := by
  unfold m136
  have f0 : 0 ≤ a1 := (by first | exact True.intro | with_reducible rfl | with_reducible assumption | omega | (simp only [decide_eq_true_eq, List.length_map] at *; omega) | (simp only [decide_eq_true_eq] at *; omega) | (simp only [List.length_map, List.length_set, List.length_append, List.length_replicate, List.length_cons, List.length_nil]; omega) | (simp; omega) | (simp [List.take_of_length_le]; done) | assumption | trivial | (simp [*, byteRows_eq, ints_y]; done))
  have f1 : (List.map b_sisi a0.f0)[(Int.toNat a1)]? = some [(.val (.string ((List.getD a0.f0 (Int.toNat a1) (K_sisi.mk (⟨#[]⟩ : ByteArray) 0 (⟨#[]⟩ : ByteArray) 0)).f0))), (.val (.int .i64 ((List.getD a0.f0 (Int.toNat a1) (K_sisi.mk (⟨#[]⟩ : ByteArray) 0 (⟨#[]⟩ : ByteArray) 0)).f1))), (.val (.string ((List.getD a0.f0 (Int.toNat a1) (K_sisi.mk (⟨#[]⟩ : ByteArray) 0 (⟨#[]⟩ : ByteArray) 0)).f2))), (.val (.int .i64 ((List.getD a0.f0 (Int.toNat a1) (K_sisi.mk (⟨#[]⟩ : ByteArray) 0 (⟨#[]⟩ : ByteArray) 0)).f3)))] := (by first | (rw [List.getElem?_map, getD_at a0.f0 (Int.toNat a1) (K_sisi.mk (⟨#[]⟩ : ByteArray) 0 (⟨#[]⟩ : ByteArray) 0) (by first | exact True.intro | with_reducible rfl | with_reducible assumption | omega | (simp only [decide_eq_true_eq, List.length_map] at *; omega) | (simp only [decide_eq_true_eq] at *; omega) | (simp only [List.length_map]; omega) | (simp; omega) | (simp [List.take_of_length_le]; done) | assumption | trivial | (simp [*, byteRows_eq, ints_y]; done))]; rfl) | (rw [Nat.zero_add, List.getElem?_map, getD_at a0.f0 (Int.toNat a1) (K_sisi.mk (⟨#[]⟩ : ByteArray) 0 (⟨#[]⟩ : ByteArray) 0) (by first | exact True.intro | with_reducible rfl | with_reducible assumption | omega | (simp only [decide_eq_true_eq, List.length_map] at *; omega) | (simp only [decide_eq_true_eq] at *; omega) | (simp only [List.length_map]; omega) | (simp; omega) | (simp [List.take_of_length_le]; done) | assumption | trivial | (simp [*, byteRows_eq, ints_y]; done))]; rfl))
  have f2 : Ev F X (.call 154 [(.one (.val (.string ((List.getD a0.f0 (Int.toNat a1) (K_sisi.mk (⟨#[]⟩ : ByteArray) 0 (⟨#[]⟩ : ByteArray) 0)).f0))))] [] [] [(.one (.val (.bool (m154 ((List.getD a0.f0 (Int.toNat a1) (K_sisi.mk (⟨#[]⟩ : ByteArray) 0 (⟨#[]⟩ : ByteArray) 0)).f0)))))]) := (e154 (a0 := ((List.getD a0.f0 (Int.toNat a1) (K_sisi.mk (⟨#[]⟩ : ByteArray) 0 (⟨#[]⟩ : ByteArray) 0)).f0)) (by first | with_reducible assumption | omega | (simp only [decide_eq_true_eq, List.length_map] at *; omega) | (have q := gos_sisi (l := a0.f0) (by first | assumption | (intro z hz; exact (by assumption : ∀ z ∈ _, os_sisi z) z (List.mem_of_mem_take hz))) (Int.toNat a1) (K_sisi.mk (⟨#[]⟩ : ByteArray) 0 (⟨#[]⟩ : ByteArray) 0) (by simp [os_sisi, ByteArray.size]); first | exact q | exact q.1 | exact q.2 | exact q.2.1 | exact q.2.2 | exact Nat.le_trans q (by decide) | exact Nat.le_trans q.1 (by decide) | (have q1 := q.1; simp only [List.length_map]; omega)) | assumption | (simp only [List.length_cons, List.length_nil]; omega) | (simp; omega)))
  by_cases h0 : (!(m154 ((List.getD a0.f0 (Int.toNat a1) (K_sisi.mk (⟨#[]⟩ : ByteArray) 0 (⟨#[]⟩ : ByteArray) 0)).f0))) = true
  · try simp only [if_pos h0]
    exact callP_ok (ps := []) (os := []) (rs := [(.one (.val (.int .i64 5)))]) (by kernel_rfl) (.f f0 (.f f1 (.h 13 (.row [(.val (.string ((List.getD a0.f0 (Int.toNat a1) (K_sisi.mk (⟨#[]⟩ : ByteArray) 0 (⟨#[]⟩ : ByteArray) 0)).f0))), (.val (.int .i64 ((List.getD a0.f0 (Int.toNat a1) (K_sisi.mk (⟨#[]⟩ : ByteArray) 0 (⟨#[]⟩ : ByteArray) 0)).f1))), (.val (.string ((List.getD a0.f0 (Int.toNat a1) (K_sisi.mk (⟨#[]⟩ : ByteArray) 0 (⟨#[]⟩ : ByteArray) 0)).f2))), (.val (.int .i64 ((List.getD a0.f0 (Int.toNat a1) (K_sisi.mk (⟨#[]⟩ : ByteArray) 0 (⟨#[]⟩ : ByteArray) 0)).f3)))]) (.r 25 [] [] f2 (.f h0 (.f h0 (.f h0 (.f h0 (.f h0 (.f h0 (.f h0 (.h 30 (.b true) (.h 32 (.b true) (.h 34 (.b true) (.h 36 (.b true) (.h 38 (.b true) (.h 40 (.b true) (.h 43 (.b true) .nil))))))))))))))))))
  · try simp only [if_neg h0]
    have f8 : Ev F X (.call 114 [(.one (.val (.string ((List.getD a0.f0 (Int.toNat a1) (K_sisi.mk (⟨#[]⟩ : ByteArray) 0 (⟨#[]⟩ : ByteArray) 0)).f2))))] [] [] [(.one (.val (.bool (m114 ((List.getD a0.f0 (Int.toNat a1) (K_sisi.mk (⟨#[]⟩ : ByteArray) 0 (⟨#[]⟩ : ByteArray) 0)).f2)))))]) := (e114 (a0 := ((List.getD a0.f0 (Int.toNat a1) (K_sisi.mk (⟨#[]⟩ : ByteArray) 0 (⟨#[]⟩ : ByteArray) 0)).f2)) (by first | with_reducible assumption | omega | (simp only [decide_eq_true_eq, List.length_map] at *; omega) | (have q := gos_sisi (l := a0.f0) (by first | assumption | (intro z hz; exact (by assumption : ∀ z ∈ _, os_sisi z) z (List.mem_of_mem_take hz))) (Int.toNat a1) (K_sisi.mk (⟨#[]⟩ : ByteArray) 0 (⟨#[]⟩ : ByteArray) 0) (by simp [os_sisi, ByteArray.size]); first | exact q | exact q.1 | exact q.2 | exact q.2.1 | exact q.2.2 | exact Nat.le_trans q (by decide) | exact Nat.le_trans q.1 (by decide) | (have q1 := q.1; simp only [List.length_map]; omega)) | assumption | (simp only [List.length_cons, List.length_nil]; omega) | (simp; omega)))
    by_cases h1 : (!(m114 ((List.getD a0.f0 (Int.toNat a1) (K_sisi.mk (⟨#[]⟩ : ByteArray) 0 (⟨#[]⟩ : ByteArray) 0)).f2))) = true
    · try simp only [if_pos h1]
      exact callP_ok (ps := []) (os := []) (rs := [(.one (.val (.int .i64 5)))]) (by kernel_rfl) (.f f0 (.f f1 (.h 13 (.row [(.val (.string ((List.getD a0.f0 (Int.toNat a1) (K_sisi.mk (⟨#[]⟩ : ByteArray) 0 (⟨#[]⟩ : ByteArray) 0)).f0))), (.val (.int .i64 ((List.getD a0.f0 (Int.toNat a1) (K_sisi.mk (⟨#[]⟩ : ByteArray) 0 (⟨#[]⟩ : ByteArray) 0)).f1))), (.val (.string ((List.getD a0.f0 (Int.toNat a1) (K_sisi.mk (⟨#[]⟩ : ByteArray) 0 (⟨#[]⟩ : ByteArray) 0)).f2))), (.val (.int .i64 ((List.getD a0.f0 (Int.toNat a1) (K_sisi.mk (⟨#[]⟩ : ByteArray) 0 (⟨#[]⟩ : ByteArray) 0)).f3)))]) (.r 25 [] [] f2 (.f (nt h0) (.f (nt h0) (.f (nt h0) (.f (nt h0) (.f (nt h0) (.h 30 (.b false) (.h 32 (.b false) (.h 34 (.b false) (.h 36 (.b false) (.h 38 (.b false) (.r 39 [] [] f8 (.f (nt h0) (.f (nt h0) (.f h1 (.h 40 (.b false) (.h 43 (.b false) (.h 44 (.b true) .nil)))))))))))))))))))))
    · try simp only [if_neg h1]
      have f12 : Ev F X (.call 113 [(.one (.val (.int .i64 ((List.getD a0.f0 (Int.toNat a1) (K_sisi.mk (⟨#[]⟩ : ByteArray) 0 (⟨#[]⟩ : ByteArray) 0)).f1)))), (.one (.val (.int .i64 (-1)))), (.one (.val (.int .i64 998)))] [] [] [(.one (.val (.bool (m113 ((List.getD a0.f0 (Int.toNat a1) (K_sisi.mk (⟨#[]⟩ : ByteArray) 0 (⟨#[]⟩ : ByteArray) 0)).f1) (-1) 998))))]) := (e113 (a0 := ((List.getD a0.f0 (Int.toNat a1) (K_sisi.mk (⟨#[]⟩ : ByteArray) 0 (⟨#[]⟩ : ByteArray) 0)).f1)) (a1 := (-1)) (a2 := 998))
      by_cases h2 : (!(m113 ((List.getD a0.f0 (Int.toNat a1) (K_sisi.mk (⟨#[]⟩ : ByteArray) 0 (⟨#[]⟩ : ByteArray) 0)).f1) (-1) 998)) = true
      · try simp only [if_pos h2]
        exact callP_ok (ps := []) (os := []) (rs := [(.one (.val (.int .i64 3)))]) (by kernel_rfl) (.f f0 (.f f1 (.h 13 (.row [(.val (.string ((List.getD a0.f0 (Int.toNat a1) (K_sisi.mk (⟨#[]⟩ : ByteArray) 0 (⟨#[]⟩ : ByteArray) 0)).f0))), (.val (.int .i64 ((List.getD a0.f0 (Int.toNat a1) (K_sisi.mk (⟨#[]⟩ : ByteArray) 0 (⟨#[]⟩ : ByteArray) 0)).f1))), (.val (.string ((List.getD a0.f0 (Int.toNat a1) (K_sisi.mk (⟨#[]⟩ : ByteArray) 0 (⟨#[]⟩ : ByteArray) 0)).f2))), (.val (.int .i64 ((List.getD a0.f0 (Int.toNat a1) (K_sisi.mk (⟨#[]⟩ : ByteArray) 0 (⟨#[]⟩ : ByteArray) 0)).f3)))]) (.r 25 [] [] f2 (.f (nt h0) (.f (nt h0) (.f (nt h0) (.f (nt h0) (.f (nt h0) (.h 30 (.b false) (.h 32 (.b false) (.h 34 (.b false) (.h 36 (.b false) (.h 38 (.b false) (.r 39 [] [] f8 (.f (nt h0) (.f (nt h0) (.f (nt h1) (.h 40 (.b false) (.h 43 (.b false) (.h 44 (.b false) (.r 54 [] [] f12 (.f h2 (.f h2 (.f h2 (.f h2 (.f h2 (.f h2 (.f h2 (.h 59 (.b true) (.h 61 (.b true) (.h 63 (.b true) (.h 65 (.b true) (.h 67 (.b true) (.h 69 (.b true) (.h 72 (.b true) .nil))))))))))))))))))))))))))))))))))))
      · try simp only [if_neg h2]
        have f18 : Ev F X (.call 113 [(.one (.val (.int .i64 ((List.getD a0.f0 (Int.toNat a1) (K_sisi.mk (⟨#[]⟩ : ByteArray) 0 (⟨#[]⟩ : ByteArray) 0)).f3)))), (.one (.val (.int .i64 1))), (.one (.val (.int .i64 9999)))] [] [] [(.one (.val (.bool (m113 ((List.getD a0.f0 (Int.toNat a1) (K_sisi.mk (⟨#[]⟩ : ByteArray) 0 (⟨#[]⟩ : ByteArray) 0)).f3) 1 9999))))]) := (e113 (a0 := ((List.getD a0.f0 (Int.toNat a1) (K_sisi.mk (⟨#[]⟩ : ByteArray) 0 (⟨#[]⟩ : ByteArray) 0)).f3)) (a1 := 1) (a2 := 9999))
        by_cases h3 : (!(m113 ((List.getD a0.f0 (Int.toNat a1) (K_sisi.mk (⟨#[]⟩ : ByteArray) 0 (⟨#[]⟩ : ByteArray) 0)).f3) 1 9999)) = true
        · try simp only [if_pos h3]
          exact callP_ok (ps := []) (os := []) (rs := [(.one (.val (.int .i64 3)))]) (by kernel_rfl) (.f f0 (.f f1 (.h 13 (.row [(.val (.string ((List.getD a0.f0 (Int.toNat a1) (K_sisi.mk (⟨#[]⟩ : ByteArray) 0 (⟨#[]⟩ : ByteArray) 0)).f0))), (.val (.int .i64 ((List.getD a0.f0 (Int.toNat a1) (K_sisi.mk (⟨#[]⟩ : ByteArray) 0 (⟨#[]⟩ : ByteArray) 0)).f1))), (.val (.string ((List.getD a0.f0 (Int.toNat a1) (K_sisi.mk (⟨#[]⟩ : ByteArray) 0 (⟨#[]⟩ : ByteArray) 0)).f2))), (.val (.int .i64 ((List.getD a0.f0 (Int.toNat a1) (K_sisi.mk (⟨#[]⟩ : ByteArray) 0 (⟨#[]⟩ : ByteArray) 0)).f3)))]) (.r 25 [] [] f2 (.f (nt h0) (.f (nt h0) (.f (nt h0) (.f (nt h0) (.f (nt h0) (.h 30 (.b false) (.h 32 (.b false) (.h 34 (.b false) (.h 36 (.b false) (.h 38 (.b false) (.r 39 [] [] f8 (.f (nt h0) (.f (nt h0) (.f (nt h1) (.h 40 (.b false) (.h 43 (.b false) (.h 44 (.b false) (.r 54 [] [] f12 (.f (nt h2) (.f (nt h2) (.f (nt h2) (.f (nt h2) (.f (nt h2) (.h 59 (.b false) (.h 61 (.b false) (.h 63 (.b false) (.h 65 (.b false) (.h 67 (.b false) (.r 68 [] [] f18 (.f (nt h2) (.f (nt h2) (.f h3 (.h 69 (.b false) (.h 72 (.b false) (.h 73 (.b true) .nil)))))))))))))))))))))))))))))))))))))))
        · try simp only [if_neg h3]
          by_cases h4 : (!(((List.getD a0.f0 (Int.toNat a1) (K_sisi.mk (⟨#[]⟩ : ByteArray) 0 (⟨#[]⟩ : ByteArray) 0)).f2).toList == (⟨#[]⟩ : ByteArray).toList)) = true
          · try simp only [if_pos h4]
            by_cases h5 : (decide (((List.getD a0.f0 (Int.toNat a1) (K_sisi.mk (⟨#[]⟩ : ByteArray) 0 (⟨#[]⟩ : ByteArray) 0)).f1) < 0)) = true
            · try simp only [if_pos h5]
              exact callP_ok (ps := []) (os := []) (rs := [(.one (.val (.int .i64 1)))]) (by kernel_rfl) (.f f0 (.f f1 (.h 13 (.row [(.val (.string ((List.getD a0.f0 (Int.toNat a1) (K_sisi.mk (⟨#[]⟩ : ByteArray) 0 (⟨#[]⟩ : ByteArray) 0)).f0))), (.val (.int .i64 ((List.getD a0.f0 (Int.toNat a1) (K_sisi.mk (⟨#[]⟩ : ByteArray) 0 (⟨#[]⟩ : ByteArray) 0)).f1))), (.val (.string ((List.getD a0.f0 (Int.toNat a1) (K_sisi.mk (⟨#[]⟩ : ByteArray) 0 (⟨#[]⟩ : ByteArray) 0)).f2))), (.val (.int .i64 ((List.getD a0.f0 (Int.toNat a1) (K_sisi.mk (⟨#[]⟩ : ByteArray) 0 (⟨#[]⟩ : ByteArray) 0)).f3)))]) (.r 25 [] [] f2 (.f (nt h0) (.f (nt h0) (.f (nt h0) (.f (nt h0) (.f (nt h0) (.h 30 (.b false) (.h 32 (.b false) (.h 34 (.b false) (.h 36 (.b false) (.h 38 (.b false) (.r 39 [] [] f8 (.f (nt h0) (.f (nt h0) (.f (nt h1) (.h 40 (.b false) (.h 43 (.b false) (.h 44 (.b false) (.r 54 [] [] f12 (.f (nt h2) (.f (nt h2) (.f (nt h2) (.f (nt h2) (.f (nt h2) (.h 59 (.b false) (.h 61 (.b false) (.h 63 (.b false) (.h 65 (.b false) (.h 67 (.b false) (.r 68 [] [] f18 (.f (nt h2) (.f (nt h2) (.f (nt h3) (.f h4 (.f h4 (.f h4 (.f h4 (.f h4 (.f h4 (.f h5 (.h 69 (.b false) (.h 72 (.b false) (.h 73 (.b false) (.h 86 (.b true) (.h 88 (.b true) (.h 90 (.b true) (.h 92 (.b true) (.h 94 (.b true) (.h 97 (.b true) (.h 98 (.b true) .nil)))))))))))))))))))))))))))))))))))))))))))))))))))))
            · try simp only [if_neg h5]
              cases h6 : r136_0 a0 a1 (Int.toNat a1) 0 with
              | k0 w0_136_0_28 w1_136_0_28 =>
                try dsimp only
                have f29 : (⟨[(0, (.bptr l0 [(.sl (List.map b_sisi a0.f0)), (.val (.int .i64 a0.f1))])), (1, (.one (.val (.int .i64 a1)))), (5, (.bptr l0 [(.val (.string ((List.getD a0.f0 (Int.toNat a1) (K_sisi.mk (⟨#[]⟩ : ByteArray) 0 (⟨#[]⟩ : ByteArray) 0)).f0))), (.val (.int .i64 ((List.getD a0.f0 (Int.toNat a1) (K_sisi.mk (⟨#[]⟩ : ByteArray) 0 (⟨#[]⟩ : ByteArray) 0)).f1))), (.val (.string ((List.getD a0.f0 (Int.toNat a1) (K_sisi.mk (⟨#[]⟩ : ByteArray) 0 (⟨#[]⟩ : ByteArray) 0)).f2))), (.val (.int .i64 ((List.getD a0.f0 (Int.toNat a1) (K_sisi.mk (⟨#[]⟩ : ByteArray) 0 (⟨#[]⟩ : ByteArray) 0)).f3)))])), (6, (.one (.val (.int .i64 0))))], []⟩ : St) = h136_0 l0 a0 a1 0  := (by first | rfl | (unfold h136_0; simp [byteRows_eq, ints_y, List.take_of_length_le, d_sisi, d_LsisiEi, d_b, d_i, d_s, d_iLsEs, d_LsisiE, d_LsE, d_y, fromBR_sisi, fromBR_b, fromBR_i, fromBR_s, fromBR_y]; done))
                have f30 : Ev F X (.code l136_0 (h136_0 l0 a0 a1 0 ) (.exit 0) ⟨[(0, (.bptr l0 [(.sl (List.map b_sisi a0.f0)), (.val (.int .i64 a0.f1))])), (1, (.one (.val (.int .i64 a1)))), (5, (.bptr l0 [(.val (.string ((List.getD a0.f0 (Int.toNat a1) (K_sisi.mk (⟨#[]⟩ : ByteArray) 0 (⟨#[]⟩ : ByteArray) 0)).f0))), (.val (.int .i64 ((List.getD a0.f0 (Int.toNat a1) (K_sisi.mk (⟨#[]⟩ : ByteArray) 0 (⟨#[]⟩ : ByteArray) 0)).f1))), (.val (.string ((List.getD a0.f0 (Int.toNat a1) (K_sisi.mk (⟨#[]⟩ : ByteArray) 0 (⟨#[]⟩ : ByteArray) 0)).f2))), (.val (.int .i64 ((List.getD a0.f0 (Int.toNat a1) (K_sisi.mk (⟨#[]⟩ : ByteArray) 0 (⟨#[]⟩ : ByteArray) 0)).f3)))])), (6, (.one (.val (.int .i64 w0_136_0_28)))), (55, (.one (.val (.bool w1_136_0_28))))], []⟩) := (by have t : Ev F X (.code l136_0 (h136_0 l0 a0 a1 0 ) (ex136_0 (r136_0 a0 a1 (Int.toNat a1) 0)) (fin136_0 l0 a0 a1 (r136_0 a0 a1 (Int.toNat a1) 0))) := t136_0 (l0 := l0) (a0 := a0) (a1 := a1) (by first | assumption | omega) (by first | assumption | omega) (by first | assumption | omega) (by first | assumption | omega) _ 0  (by omega) (by omega) (by first | rfl | omega | (simp only [List.length_map, List.length_set, List.length_append, List.length_replicate, List.length_cons, List.length_nil]; done) | (simp only [List.length_map, List.length_set, List.length_append, List.length_replicate, List.length_cons, List.length_nil]; omega) | (simp; done)); rw [h6] at t; exact t)
                exact callP_ok (ps := []) (os := []) (rs := [(.one (.val (.int .i64 0)))]) (by kernel_rfl) (.f f0 (.f f1 (.h 13 (.row [(.val (.string ((List.getD a0.f0 (Int.toNat a1) (K_sisi.mk (⟨#[]⟩ : ByteArray) 0 (⟨#[]⟩ : ByteArray) 0)).f0))), (.val (.int .i64 ((List.getD a0.f0 (Int.toNat a1) (K_sisi.mk (⟨#[]⟩ : ByteArray) 0 (⟨#[]⟩ : ByteArray) 0)).f1))), (.val (.string ((List.getD a0.f0 (Int.toNat a1) (K_sisi.mk (⟨#[]⟩ : ByteArray) 0 (⟨#[]⟩ : ByteArray) 0)).f2))), (.val (.int .i64 ((List.getD a0.f0 (Int.toNat a1) (K_sisi.mk (⟨#[]⟩ : ByteArray) 0 (⟨#[]⟩ : ByteArray) 0)).f3)))]) (.r 25 [] [] f2 (.f (nt h0) (.f (nt h0) (.f (nt h0) (.f (nt h0) (.f (nt h0) (.h 30 (.b false) (.h 32 (.b false) (.h 34 (.b false) (.h 36 (.b false) (.h 38 (.b false) (.r 39 [] [] f8 (.f (nt h0) (.f (nt h0) (.f (nt h1) (.h 40 (.b false) (.h 43 (.b false) (.h 44 (.b false) (.r 54 [] [] f12 (.f (nt h2) (.f (nt h2) (.f (nt h2) (.f (nt h2) (.f (nt h2) (.h 59 (.b false) (.h 61 (.b false) (.h 63 (.b false) (.h 65 (.b false) (.h 67 (.b false) (.r 68 [] [] f18 (.f (nt h2) (.f (nt h2) (.f (nt h3) (.f h4 (.f h4 (.f h4 (.f h4 (.f h4 (.f h4 (.f (nt h5) (.f f29 (.f f30 (.h 69 (.b false) (.h 72 (.b false) (.h 73 (.b false) (.h 86 (.b true) (.h 88 (.b true) (.h 90 (.b true) (.h 92 (.b true) (.h 94 (.b true) (.h 97 (.b true) (.h 98 (.b false) (.h 101 (.loop (h136_0 l0 a0 a1 0 ) (.exit 0) ⟨[(0, (.bptr l0 [(.sl (List.map b_sisi a0.f0)), (.val (.int .i64 a0.f1))])), (1, (.one (.val (.int .i64 a1)))), (5, (.bptr l0 [(.val (.string ((List.getD a0.f0 (Int.toNat a1) (K_sisi.mk (⟨#[]⟩ : ByteArray) 0 (⟨#[]⟩ : ByteArray) 0)).f0))), (.val (.int .i64 ((List.getD a0.f0 (Int.toNat a1) (K_sisi.mk (⟨#[]⟩ : ByteArray) 0 (⟨#[]⟩ : ByteArray) 0)).f1))), (.val (.string ((List.getD a0.f0 (Int.toNat a1) (K_sisi.mk (⟨#[]⟩ : ByteArray) 0 (⟨#[]⟩ : ByteArray) 0)).f2))), (.val (.int .i64 ((List.getD a0.f0 (Int.toNat a1) (K_sisi.mk (⟨#[]⟩ : ByteArray) 0 (⟨#[]⟩ : ByteArray) 0)).f3)))])), (6, (.one (.val (.int .i64 w0_136_0_28)))), (55, (.one (.val (.bool w1_136_0_28))))], []⟩) .nil))))))))))))))))))))))))))))))))))))))))))))))))))))))))
              | k1 =>
                try dsimp only
                have f29 : (⟨[(0, (.bptr l0 [(.sl (List.map b_sisi a0.f0)), (.val (.int .i64 a0.f1))])), (1, (.one (.val (.int .i64 a1)))), (5, (.bptr l0 [(.val (.string ((List.getD a0.f0 (Int.toNat a1) (K_sisi.mk (⟨#[]⟩ : ByteArray) 0 (⟨#[]⟩ : ByteArray) 0)).f0))), (.val (.int .i64 ((List.getD a0.f0 (Int.toNat a1) (K_sisi.mk (⟨#[]⟩ : ByteArray) 0 (⟨#[]⟩ : ByteArray) 0)).f1))), (.val (.string ((List.getD a0.f0 (Int.toNat a1) (K_sisi.mk (⟨#[]⟩ : ByteArray) 0 (⟨#[]⟩ : ByteArray) 0)).f2))), (.val (.int .i64 ((List.getD a0.f0 (Int.toNat a1) (K_sisi.mk (⟨#[]⟩ : ByteArray) 0 (⟨#[]⟩ : ByteArray) 0)).f3)))])), (6, (.one (.val (.int .i64 0))))], []⟩ : St) = h136_0 l0 a0 a1 0  := (by first | rfl | (unfold h136_0; simp [byteRows_eq, ints_y, List.take_of_length_le, d_sisi, d_LsisiEi, d_b, d_i, d_s, d_iLsEs, d_LsisiE, d_LsE, d_y, fromBR_sisi, fromBR_b, fromBR_i, fromBR_s, fromBR_y]; done))
                have f30 : Ev F X (.code l136_0 (h136_0 l0 a0 a1 0 ) .ret ⟨[(4, (.one (.val (.int .i64 6))))], []⟩) := (by have t : Ev F X (.code l136_0 (h136_0 l0 a0 a1 0 ) (ex136_0 (r136_0 a0 a1 (Int.toNat a1) 0)) (fin136_0 l0 a0 a1 (r136_0 a0 a1 (Int.toNat a1) 0))) := t136_0 (l0 := l0) (a0 := a0) (a1 := a1) (by first | assumption | omega) (by first | assumption | omega) (by first | assumption | omega) (by first | assumption | omega) _ 0  (by omega) (by omega) (by first | rfl | omega | (simp only [List.length_map, List.length_set, List.length_append, List.length_replicate, List.length_cons, List.length_nil]; done) | (simp only [List.length_map, List.length_set, List.length_append, List.length_replicate, List.length_cons, List.length_nil]; omega) | (simp; done)); rw [h6] at t; exact t)
                exact callP_ok (ps := []) (os := []) (rs := [(.one (.val (.int .i64 6)))]) (by kernel_rfl) (.f f0 (.f f1 (.h 13 (.row [(.val (.string ((List.getD a0.f0 (Int.toNat a1) (K_sisi.mk (⟨#[]⟩ : ByteArray) 0 (⟨#[]⟩ : ByteArray) 0)).f0))), (.val (.int .i64 ((List.getD a0.f0 (Int.toNat a1) (K_sisi.mk (⟨#[]⟩ : ByteArray) 0 (⟨#[]⟩ : ByteArray) 0)).f1))), (.val (.string ((List.getD a0.f0 (Int.toNat a1) (K_sisi.mk (⟨#[]⟩ : ByteArray) 0 (⟨#[]⟩ : ByteArray) 0)).f2))), (.val (.int .i64 ((List.getD a0.f0 (Int.toNat a1) (K_sisi.mk (⟨#[]⟩ : ByteArray) 0 (⟨#[]⟩ : ByteArray) 0)).f3)))]) (.r 25 [] [] f2 (.f (nt h0) (.f (nt h0) (.f (nt h0) (.f (nt h0) (.f (nt h0) (.h 30 (.b false) (.h 32 (.b false) (.h 34 (.b false) (.h 36 (.b false) (.h 38 (.b false) (.r 39 [] [] f8 (.f (nt h0) (.f (nt h0) (.f (nt h1) (.h 40 (.b false) (.h 43 (.b false) (.h 44 (.b false) (.r 54 [] [] f12 (.f (nt h2) (.f (nt h2) (.f (nt h2) (.f (nt h2) (.f (nt h2) (.h 59 (.b false) (.h 61 (.b false) (.h 63 (.b false) (.h 65 (.b false) (.h 67 (.b false) (.r 68 [] [] f18 (.f (nt h2) (.f (nt h2) (.f (nt h3) (.f h4 (.f h4 (.f h4 (.f h4 (.f h4 (.f h4 (.f (nt h5) (.f f29 (.f f30 (.h 69 (.b false) (.h 72 (.b false) (.h 73 (.b false) (.h 86 (.b true) (.h 88 (.b true) (.h 90 (.b true) (.h 92 (.b true) (.h 94 (.b true) (.h 97 (.b true) (.h 98 (.b false) (.h 101 (.loop (h136_0 l0 a0 a1 0 ) .ret ⟨[(4, (.one (.val (.int .i64 6))))], []⟩) .nil))))))))))))))))))))))))))))))))))))))))))))))))))))))))
          · try simp only [if_neg h4]
            cases h5 : r136_0 a0 a1 (Int.toNat a1) 0 with
            | k0 w0_136_0_27 w1_136_0_27 =>
              try dsimp only
              have f28 : (⟨[(0, (.bptr l0 [(.sl (List.map b_sisi a0.f0)), (.val (.int .i64 a0.f1))])), (1, (.one (.val (.int .i64 a1)))), (5, (.bptr l0 [(.val (.string ((List.getD a0.f0 (Int.toNat a1) (K_sisi.mk (⟨#[]⟩ : ByteArray) 0 (⟨#[]⟩ : ByteArray) 0)).f0))), (.val (.int .i64 ((List.getD a0.f0 (Int.toNat a1) (K_sisi.mk (⟨#[]⟩ : ByteArray) 0 (⟨#[]⟩ : ByteArray) 0)).f1))), (.val (.string ((List.getD a0.f0 (Int.toNat a1) (K_sisi.mk (⟨#[]⟩ : ByteArray) 0 (⟨#[]⟩ : ByteArray) 0)).f2))), (.val (.int .i64 ((List.getD a0.f0 (Int.toNat a1) (K_sisi.mk (⟨#[]⟩ : ByteArray) 0 (⟨#[]⟩ : ByteArray) 0)).f3)))])), (6, (.one (.val (.int .i64 0))))], []⟩ : St) = h136_0 l0 a0 a1 0  := (by first | rfl | (unfold h136_0; simp [byteRows_eq, ints_y, List.take_of_length_le, d_sisi, d_LsisiEi, d_b, d_i, d_s, d_iLsEs, d_LsisiE, d_LsE, d_y, fromBR_sisi, fromBR_b, fromBR_i, fromBR_s, fromBR_y]; done))
              have f29 : Ev F X (.code l136_0 (h136_0 l0 a0 a1 0 ) (.exit 0) ⟨[(0, (.bptr l0 [(.sl (List.map b_sisi a0.f0)), (.val (.int .i64 a0.f1))])), (1, (.one (.val (.int .i64 a1)))), (5, (.bptr l0 [(.val (.string ((List.getD a0.f0 (Int.toNat a1) (K_sisi.mk (⟨#[]⟩ : ByteArray) 0 (⟨#[]⟩ : ByteArray) 0)).f0))), (.val (.int .i64 ((List.getD a0.f0 (Int.toNat a1) (K_sisi.mk (⟨#[]⟩ : ByteArray) 0 (⟨#[]⟩ : ByteArray) 0)).f1))), (.val (.string ((List.getD a0.f0 (Int.toNat a1) (K_sisi.mk (⟨#[]⟩ : ByteArray) 0 (⟨#[]⟩ : ByteArray) 0)).f2))), (.val (.int .i64 ((List.getD a0.f0 (Int.toNat a1) (K_sisi.mk (⟨#[]⟩ : ByteArray) 0 (⟨#[]⟩ : ByteArray) 0)).f3)))])), (6, (.one (.val (.int .i64 w0_136_0_27)))), (55, (.one (.val (.bool w1_136_0_27))))], []⟩) := (by have t : Ev F X (.code l136_0 (h136_0 l0 a0 a1 0 ) (ex136_0 (r136_0 a0 a1 (Int.toNat a1) 0)) (fin136_0 l0 a0 a1 (r136_0 a0 a1 (Int.toNat a1) 0))) := t136_0 (l0 := l0) (a0 := a0) (a1 := a1) (by first | assumption | omega) (by first | assumption | omega) (by first | assumption | omega) (by first | assumption | omega) _ 0  (by omega) (by omega) (by first | rfl | omega | (simp only [List.length_map, List.length_set, List.length_append, List.length_replicate, List.length_cons, List.length_nil]; done) | (simp only [List.length_map, List.length_set, List.length_append, List.length_replicate, List.length_cons, List.length_nil]; omega) | (simp; done)); rw [h5] at t; exact t)
              exact callP_ok (ps := []) (os := []) (rs := [(.one (.val (.int .i64 0)))]) (by kernel_rfl) (.f f0 (.f f1 (.h 13 (.row [(.val (.string ((List.getD a0.f0 (Int.toNat a1) (K_sisi.mk (⟨#[]⟩ : ByteArray) 0 (⟨#[]⟩ : ByteArray) 0)).f0))), (.val (.int .i64 ((List.getD a0.f0 (Int.toNat a1) (K_sisi.mk (⟨#[]⟩ : ByteArray) 0 (⟨#[]⟩ : ByteArray) 0)).f1))), (.val (.string ((List.getD a0.f0 (Int.toNat a1) (K_sisi.mk (⟨#[]⟩ : ByteArray) 0 (⟨#[]⟩ : ByteArray) 0)).f2))), (.val (.int .i64 ((List.getD a0.f0 (Int.toNat a1) (K_sisi.mk (⟨#[]⟩ : ByteArray) 0 (⟨#[]⟩ : ByteArray) 0)).f3)))]) (.r 25 [] [] f2 (.f (nt h0) (.f (nt h0) (.f (nt h0) (.f (nt h0) (.f (nt h0) (.h 30 (.b false) (.h 32 (.b false) (.h 34 (.b false) (.h 36 (.b false) (.h 38 (.b false) (.r 39 [] [] f8 (.f (nt h0) (.f (nt h0) (.f (nt h1) (.h 40 (.b false) (.h 43 (.b false) (.h 44 (.b false) (.r 54 [] [] f12 (.f (nt h2) (.f (nt h2) (.f (nt h2) (.f (nt h2) (.f (nt h2) (.h 59 (.b false) (.h 61 (.b false) (.h 63 (.b false) (.h 65 (.b false) (.h 67 (.b false) (.r 68 [] [] f18 (.f (nt h2) (.f (nt h2) (.f (nt h3) (.f (nt h4) (.f (nt h4) (.f (nt h4) (.f (nt h4) (.f (nt h4) (.f (nt h4) (.f f28 (.f f29 (.h 69 (.b false) (.h 72 (.b false) (.h 73 (.b false) (.h 86 (.b false) (.h 88 (.b false) (.h 90 (.b false) (.h 92 (.b false) (.h 94 (.b false) (.h 97 (.b false) (.h 101 (.loop (h136_0 l0 a0 a1 0 ) (.exit 0) ⟨[(0, (.bptr l0 [(.sl (List.map b_sisi a0.f0)), (.val (.int .i64 a0.f1))])), (1, (.one (.val (.int .i64 a1)))), (5, (.bptr l0 [(.val (.string ((List.getD a0.f0 (Int.toNat a1) (K_sisi.mk (⟨#[]⟩ : ByteArray) 0 (⟨#[]⟩ : ByteArray) 0)).f0))), (.val (.int .i64 ((List.getD a0.f0 (Int.toNat a1) (K_sisi.mk (⟨#[]⟩ : ByteArray) 0 (⟨#[]⟩ : ByteArray) 0)).f1))), (.val (.string ((List.getD a0.f0 (Int.toNat a1) (K_sisi.mk (⟨#[]⟩ : ByteArray) 0 (⟨#[]⟩ : ByteArray) 0)).f2))), (.val (.int .i64 ((List.getD a0.f0 (Int.toNat a1) (K_sisi.mk (⟨#[]⟩ : ByteArray) 0 (⟨#[]⟩ : ByteArray) 0)).f3)))])), (6, (.one (.val (.int .i64 w0_136_0_27)))), (55, (.one (.val (.bool w1_136_0_27))))], []⟩) .nil))))))))))))))))))))))))))))))))))))))))))))))))))))))
            | k1 =>
              try dsimp only
              have f28 : (⟨[(0, (.bptr l0 [(.sl (List.map b_sisi a0.f0)), (.val (.int .i64 a0.f1))])), (1, (.one (.val (.int .i64 a1)))), (5, (.bptr l0 [(.val (.string ((List.getD a0.f0 (Int.toNat a1) (K_sisi.mk (⟨#[]⟩ : ByteArray) 0 (⟨#[]⟩ : ByteArray) 0)).f0))), (.val (.int .i64 ((List.getD a0.f0 (Int.toNat a1) (K_sisi.mk (⟨#[]⟩ : ByteArray) 0 (⟨#[]⟩ : ByteArray) 0)).f1))), (.val (.string ((List.getD a0.f0 (Int.toNat a1) (K_sisi.mk (⟨#[]⟩ : ByteArray) 0 (⟨#[]⟩ : ByteArray) 0)).f2))), (.val (.int .i64 ((List.getD a0.f0 (Int.toNat a1) (K_sisi.mk (⟨#[]⟩ : ByteArray) 0 (⟨#[]⟩ : ByteArray) 0)).f3)))])), (6, (.one (.val (.int .i64 0))))], []⟩ : St) = h136_0 l0 a0 a1 0  := (by first | rfl | (unfold h136_0; simp [byteRows_eq, ints_y, List.take_of_length_le, d_sisi, d_LsisiEi, d_b, d_i, d_s, d_iLsEs, d_LsisiE, d_LsE, d_y, fromBR_sisi, fromBR_b, fromBR_i, fromBR_s, fromBR_y]; done))
              have f29 : Ev F X (.code l136_0 (h136_0 l0 a0 a1 0 ) .ret ⟨[(4, (.one (.val (.int .i64 6))))], []⟩) := (by have t : Ev F X (.code l136_0 (h136_0 l0 a0 a1 0 ) (ex136_0 (r136_0 a0 a1 (Int.toNat a1) 0)) (fin136_0 l0 a0 a1 (r136_0 a0 a1 (Int.toNat a1) 0))) := t136_0 (l0 := l0) (a0 := a0) (a1 := a1) (by first | assumption | omega) (by first | assumption | omega) (by first | assumption | omega) (by first | assumption | omega) _ 0  (by omega) (by omega) (by first | rfl | omega | (simp only [List.length_map, List.length_set, List.length_append, List.length_replicate, List.length_cons, List.length_nil]; done) | (simp only [List.length_map, List.length_set, List.length_append, List.length_replicate, List.length_cons, List.length_nil]; omega) | (simp; done)); rw [h5] at t; exact t)
              exact callP_ok (ps := []) (os := []) (rs := [(.one (.val (.int .i64 6)))]) (by kernel_rfl) (.f f0 (.f f1 (.h 13 (.row [(.val (.string ((List.getD a0.f0 (Int.toNat a1) (K_sisi.mk (⟨#[]⟩ : ByteArray) 0 (⟨#[]⟩ : ByteArray) 0)).f0))), (.val (.int .i64 ((List.getD a0.f0 (Int.toNat a1) (K_sisi.mk (⟨#[]⟩ : ByteArray) 0 (⟨#[]⟩ : ByteArray) 0)).f1))), (.val (.string ((List.getD a0.f0 (Int.toNat a1) (K_sisi.mk (⟨#[]⟩ : ByteArray) 0 (⟨#[]⟩ : ByteArray) 0)).f2))), (.val (.int .i64 ((List.getD a0.f0 (Int.toNat a1) (K_sisi.mk (⟨#[]⟩ : ByteArray) 0 (⟨#[]⟩ : ByteArray) 0)).f3)))]) (.r 25 [] [] f2 (.f (nt h0) (.f (nt h0) (.f (nt h0) (.f (nt h0) (.f (nt h0) (.h 30 (.b false) (.h 32 (.b false) (.h 34 (.b false) (.h 36 (.b false) (.h 38 (.b false) (.r 39 [] [] f8 (.f (nt h0) (.f (nt h0) (.f (nt h1) (.h 40 (.b false) (.h 43 (.b false) (.h 44 (.b false) (.r 54 [] [] f12 (.f (nt h2) (.f (nt h2) (.f (nt h2) (.f (nt h2) (.f (nt h2) (.h 59 (.b false) (.h 61 (.b false) (.h 63 (.b false) (.h 65 (.b false) (.h 67 (.b false) (.r 68 [] [] f18 (.f (nt h2) (.f (nt h2) (.f (nt h3) (.f (nt h4) (.f (nt h4) (.f (nt h4) (.f (nt h4) (.f (nt h4) (.f (nt h4) (.f f28 (.f f29 (.h 69 (.b false) (.h 72 (.b false) (.h 73 (.b false) (.h 86 (.b false) (.h 88 (.b false) (.h 90 (.b false) (.h 92 (.b false) (.h 94 (.b false) (.h 97 (.b false) (.h 101 (.loop (h136_0 l0 a0 a1 0 ) .ret ⟨[(4, (.one (.val (.int .i64 6))))], []⟩) .nil))))))))))))))))))))))))))))))))))))))))))))))))))))))
/-! loop 90_0 -/
inductive O90_0 where
  | k0 (w0 : Int) (w1 : Bool)
  | k1 (w0 : Int)
def r90_0 (a0 : K_LsisiEi) : List K_sisi → Int → O90_0
  | x0_90_0 :: l0_90_0, i_90_0 =>
    if ((m136 a0 i_90_0) != 0) = true then (O90_0.k1 (m136 a0 i_90_0)) else
    (r90_0 a0 l0_90_0 (i_90_0 + 1) )
  | [], i_90_0 => (O90_0.k0 i_90_0 (decide (i_90_0 < ((List.length (List.map b_sisi a0.f0)) : Int))))
def h90_0 (l0 : Nat) (a0 : K_LsisiEi) (i_90_0 : Int)  : St := ⟨[(0, (.bptr l0 [(.sl (List.map b_sisi a0.f0)), (.val (.int .i64 a0.f1))])), (3, (.one (.val (.int .i64 i_90_0))))], []⟩
def ex90_0 : O90_0 → VX.Exit
  | .k0 _ _ => (.exit 0)
  | .k1 _ => .ret
def fin90_0 (l0 : Nat) (a0 : K_LsisiEi) : O90_0 → St
  | .k0 w0 w1 => ⟨[(0, (.bptr l0 [(.sl (List.map b_sisi a0.f0)), (.val (.int .i64 a0.f1))])), (3, (.one (.val (.int .i64 w0)))), (18, (.one (.val (.bool w1))))], []⟩
  | .k1 w0 => ⟨[(2, (.one (.val (.int .i64 w0))))], []⟩
theorem t90_0 {l0 : Nat} {a0 : K_LsisiEi} (hy0 : List.length a0.f0 * 48 ≤ 140737488351232) (hy1 : ∀ z ∈ a0.f0, os_sisi z) : ∀ (l0_90_0 : List K_sisi) (p_90_0 : List K_sisi) , p_90_0 ++ l0_90_0 = a0.f0 → Ev F X (.code l90_0 (h90_0 l0 a0 (List.length p_90_0 : Int) ) (ex90_0 (r90_0 a0 l0_90_0 (List.length p_90_0 : Int) )) (fin90_0 l0 a0 (r90_0 a0 l0_90_0 (List.length p_90_0 : Int) )))
  | [], p_90_0, hp0 => by
    have hc : ¬ (decide ((List.length p_90_0 : Int) < ((List.length (List.map b_sisi a0.f0)) : Int))) = true := by
      rw [← hp0]; simp only [List.length_map, List.length_set, List.length_append, List.length_replicate, List.length_cons, List.length_nil, decide_eq_true_eq]; omega
    have st := codeH_ok (F := F) (X := X) (c := b90_0) (t := 0) (hs := [(14, .b false)]) (σ := h90_0 l0 a0 (List.length p_90_0 : Int) ) (σ' := ⟨[(0, (.bptr l0 [(.sl (List.map b_sisi a0.f0)), (.val (.int .i64 a0.f1))])), (3, (.one (.val (.int .i64 (List.length p_90_0 : Int))))), (18, (.one (.val (.bool (decide ((List.length p_90_0 : Int) < ((List.length (List.map b_sisi a0.f0)) : Int)))))))], []⟩) (e := (.exit 0)) (t' := 15) (hs' := []) (q := [(decide ((List.length p_90_0 : Int) < ((List.length (List.map b_sisi a0.f0)) : Int))) = false]) (by kernel_rfl) ⟨(nt hc), trivial⟩
    rw [show (⟨[(0, (.bptr l0 [(.sl (List.map b_sisi a0.f0)), (.val (.int .i64 a0.f1))])), (3, (.one (.val (.int .i64 (List.length p_90_0 : Int))))), (18, (.one (.val (.bool (decide ((List.length p_90_0 : Int) < ((List.length (List.map b_sisi a0.f0)) : Int)))))))], []⟩ : St) = fin90_0 l0 a0 (.k0 (List.length p_90_0 : Int) (decide ((List.length p_90_0 : Int) < ((List.length (List.map b_sisi a0.f0)) : Int)))) from by first | rfl | (unfold fin90_0; simp [byteRows_eq, ints_y, List.take_of_length_le, d_sisi, d_LsisiEi, d_b, d_i, d_s, d_iLsEs, d_LsisiE, d_LsE, d_y, fromBR_sisi, fromBR_b, fromBR_i, fromBR_s, fromBR_y]; done)] at st
    exact .loopX st (show ((.exit 0) : VX.Exit) ≠ .normal from by simp)
  | x0_90_0 :: l0_90_0, p_90_0, hp0 => by
    have hc : (decide ((List.length p_90_0 : Int) < ((List.length (List.map b_sisi a0.f0)) : Int))) = true := by
      rw [← hp0]; simp only [List.length_map, List.length_set, List.length_append, List.length_replicate, List.length_cons, List.length_nil, decide_eq_true_eq]; omega
    have Hx0_90_0 : (a0.f0)[Int.toNat (List.length p_90_0 : Int)]? = some x0_90_0 := by
      rw [← hp0, Int.toNat_natCast]; simp
    obtain ⟨Mx0_90_0_0, Mx0_90_0_1⟩ := hy1 x0_90_0 (List.mem_of_getElem? Hx0_90_0)
    have hlen : List.length (a0.f0) = List.length p_90_0 + List.length l0_90_0 + 1 := by rw [← hp0]; simp; omega
    have hw : IntKind.wrap .i64 ((List.length p_90_0 : Int) + 1) = (List.length p_90_0 : Int) + 1 := wrap64 (by omega)
    simp only [r90_0]
    by_cases h_90_0_1 : ((m136 a0 (List.length p_90_0 : Int)) != 0) = true
    · try simp only [if_pos h_90_0_1]
      have st := codeH_ok (F := F) (X := X) (c := b90_0) (t := 0) (hs := [(14, .b true), (20, .ret [] [(.one (.val (.int .i64 (m136 a0 (List.length p_90_0 : Int)))))] [] []), (27, .b true)]) (σ := h90_0 l0 a0 (List.length p_90_0 : Int) ) (σ' := ⟨[(2, (.one (.val (.int .i64 (m136 a0 (List.length p_90_0 : Int))))))], []⟩) (e := .ret) (t' := 32) (hs' := []) (q := [(decide ((List.length p_90_0 : Int) < ((List.length (List.map b_sisi a0.f0)) : Int))) = true, Ev F X (.call 136 [(.bptr (l0 + 1) [(.sl (List.map b_sisi a0.f0)), (.val (.int .i64 a0.f1))]), (.one (.val (.int .i64 (List.length p_90_0 : Int))))] [] [] [(.one (.val (.int .i64 (m136 a0 (List.length p_90_0 : Int)))))]), ((m136 a0 (List.length p_90_0 : Int)) != 0) = true]) (by kernel_rfl) ⟨hc, (e136 (a0 := a0) (a1 := (List.length p_90_0 : Int)) (by first | exact True.intro | with_reducible rfl | with_reducible assumption | omega | (simp only [decide_eq_true_eq] at *; omega) | (simp only [List.length_map, List.length_set, List.length_append, List.length_replicate, List.length_cons, List.length_nil]; omega) | (simp; omega) | (simp [List.take_of_length_le]; done) | assumption | trivial | (simp [*, byteRows_eq, ints_y]; done)) (by first | exact True.intro | with_reducible rfl | with_reducible assumption | omega | (simp only [decide_eq_true_eq] at *; omega) | (simp only [List.length_map]; omega) | (simp; omega) | (simp [List.take_of_length_le]; done) | assumption | trivial | (simp [*, byteRows_eq, ints_y]; done)) (by first | with_reducible assumption | omega | assumption | (simp only [List.length_map]; omega) | (simp; omega)) (by first | exact True.intro | with_reducible rfl | with_reducible assumption | omega | (simp only [List.length_map, List.length_set, List.length_append, List.length_replicate, List.length_cons, List.length_nil]; omega) | (simp; done) | (simp; omega) | (simp [List.take_of_length_le]; done) | (simp [← List.map_take, ← List.map_drop]; done) | assumption | trivial | (simp [*, byteRows_eq, ints_y]; done))), h_90_0_1, trivial⟩
      rw [show (⟨[(2, (.one (.val (.int .i64 (m136 a0 (List.length p_90_0 : Int))))))], []⟩ : St) = fin90_0 l0 a0 (.k1 (m136 a0 (List.length p_90_0 : Int))) from by first | rfl | (unfold fin90_0; simp [byteRows_eq, ints_y, List.take_of_length_le, d_sisi, d_LsisiEi, d_b, d_i, d_s, d_iLsEs, d_LsisiE, d_LsE, d_y, fromBR_sisi, fromBR_b, fromBR_i, fromBR_s, fromBR_y]; done)] at st
      exact .loopX st (show (.ret : VX.Exit) ≠ .normal from by simp)
    · try simp only [if_neg h_90_0_1]
      have st := codeH_ok (F := F) (X := X) (c := b90_0) (t := 0) (hs := [(14, .b true), (20, .ret [] [(.one (.val (.int .i64 (m136 a0 (List.length p_90_0 : Int)))))] [] []), (27, .b false)]) (σ := h90_0 l0 a0 (List.length p_90_0 : Int) ) (σ' := ⟨[(0, (.bptr l0 [(.sl (List.map b_sisi a0.f0)), (.val (.int .i64 a0.f1))])), (3, (.one (.val (.int .i64 (IntKind.wrap .i64 ((List.length p_90_0 : Int) + 1))))))], []⟩) (e := .normal) (t' := 34) (hs' := []) (q := [(decide ((List.length p_90_0 : Int) < ((List.length (List.map b_sisi a0.f0)) : Int))) = true, Ev F X (.call 136 [(.bptr (l0 + 1) [(.sl (List.map b_sisi a0.f0)), (.val (.int .i64 a0.f1))]), (.one (.val (.int .i64 (List.length p_90_0 : Int))))] [] [] [(.one (.val (.int .i64 (m136 a0 (List.length p_90_0 : Int)))))]), ((m136 a0 (List.length p_90_0 : Int)) != 0) = false, True]) (by kernel_rfl) ⟨hc, (e136 (a0 := a0) (a1 := (List.length p_90_0 : Int)) (by first | exact True.intro | with_reducible rfl | with_reducible assumption | omega | (simp only [decide_eq_true_eq] at *; omega) | (simp only [List.length_map, List.length_set, List.length_append, List.length_replicate, List.length_cons, List.length_nil]; omega) | (simp; omega) | (simp [List.take_of_length_le]; done) | assumption | trivial | (simp [*, byteRows_eq, ints_y]; done)) (by first | exact True.intro | with_reducible rfl | with_reducible assumption | omega | (simp only [decide_eq_true_eq] at *; omega) | (simp only [List.length_map]; omega) | (simp; omega) | (simp [List.take_of_length_le]; done) | assumption | trivial | (simp [*, byteRows_eq, ints_y]; done)) (by first | with_reducible assumption | omega | assumption | (simp only [List.length_map]; omega) | (simp; omega)) (by first | exact True.intro | with_reducible rfl | with_reducible assumption | omega | (simp only [List.length_map, List.length_set, List.length_append, List.length_replicate, List.length_cons, List.length_nil]; omega) | (simp; done) | (simp; omega) | (simp [List.take_of_length_le]; done) | (simp [← List.map_take, ← List.map_drop]; done) | assumption | trivial | (simp [*, byteRows_eq, ints_y]; done))), (nt h_90_0_1), trivial, trivial⟩
      have ih := t90_0 (l0 := l0) (a0 := a0) hy0 hy1 l0_90_0 (p_90_0 ++ [x0_90_0])  (by rw [List.append_assoc]; exact hp0)
      rw [show ((p_90_0 ++ [x0_90_0]).length : Int) = (p_90_0.length : Int) + 1 from by simp] at ih
      rw [show (⟨[(0, (.bptr l0 [(.sl (List.map b_sisi a0.f0)), (.val (.int .i64 a0.f1))])), (3, (.one (.val (.int .i64 (IntKind.wrap .i64 ((List.length p_90_0 : Int) + 1))))))], []⟩ : St) = h90_0 l0 a0 ((List.length p_90_0 : Int) + 1)  from by first | (unfold h90_0; simp only [hw]; done) | (unfold h90_0; simp only [hw, List.length_map, List.length_set, List.length_append, List.length_replicate, List.length_cons, List.length_nil]; done) | (unfold h90_0; simp [hw, byteRows_eq, ints_y, List.take_of_length_le, d_sisi, d_LsisiEi, d_b, d_i, d_s, d_iLsEs, d_LsisiE, d_LsE, d_y, fromBR_sisi, fromBR_b, fromBR_i, fromBR_s, fromBR_y]; done)] at st
      exact .loopN st ih
/-! loop 90_1 -/
inductive O90_1 where
  | k0 (w0 : Int) (w1 : Bool)
  | k1
def r90_1 (a0 : K_LsisiEi) : List K_sisi → Int → O90_1
  | x0_90_1 :: l0_90_1, i_90_1 =>
    if (decide (x0_90_1.f1 ≥ a0.f1)) = true then (O90_1.k1) else
    (r90_1 a0 l0_90_1 (i_90_1 + 1) )
  | [], i_90_1 => (O90_1.k0 i_90_1 (decide (i_90_1 < ((List.length (List.map b_sisi a0.f0)) : Int))))
def h90_1 (l0 : Nat) (a0 : K_LsisiEi) (i_90_1 : Int)  : St := ⟨[(0, (.bptr l0 [(.sl (List.map b_sisi a0.f0)), (.val (.int .i64 a0.f1))])), (5, (.one (.val (.int .i64 i_90_1))))], []⟩
def ex90_1 : O90_1 → VX.Exit
  | .k0 _ _ => (.exit 2)
  | .k1 => .ret
def fin90_1 (l0 : Nat) (a0 : K_LsisiEi) : O90_1 → St
  | .k0 w0 w1 => ⟨[(0, (.bptr l0 [(.sl (List.map b_sisi a0.f0)), (.val (.int .i64 a0.f1))])), (5, (.one (.val (.int .i64 w0)))), (39, (.one (.val (.bool w1))))], []⟩
  | .k1 => ⟨[(2, (.one (.val (.int .i64 3))))], []⟩
theorem t90_1 {l0 : Nat} {a0 : K_LsisiEi} (hy0 : List.length a0.f0 * 48 ≤ 140737488351232) (hy1 : ∀ z ∈ a0.f0, os_sisi z) : ∀ (l0_90_1 : List K_sisi) (p_90_1 : List K_sisi) , p_90_1 ++ l0_90_1 = a0.f0 → Ev F X (.code l90_1 (h90_1 l0 a0 (List.length p_90_1 : Int) ) (ex90_1 (r90_1 a0 l0_90_1 (List.length p_90_1 : Int) )) (fin90_1 l0 a0 (r90_1 a0 l0_90_1 (List.length p_90_1 : Int) )))
  | [], p_90_1, hp0 => by
    have hc : ¬ (decide ((List.length p_90_1 : Int) < ((List.length (List.map b_sisi a0.f0)) : Int))) = true := by
      rw [← hp0]; simp only [List.length_map, List.length_set, List.length_append, List.length_replicate, List.length_cons, List.length_nil, decide_eq_true_eq]; omega
    have st := codeH_ok (F := F) (X := X) (c := b90_1) (t := 0) (hs := [(14, .b false)]) (σ := h90_1 l0 a0 (List.length p_90_1 : Int) ) (σ' := ⟨[(0, (.bptr l0 [(.sl (List.map b_sisi a0.f0)), (.val (.int .i64 a0.f1))])), (5, (.one (.val (.int .i64 (List.length p_90_1 : Int))))), (39, (.one (.val (.bool (decide ((List.length p_90_1 : Int) < ((List.length (List.map b_sisi a0.f0)) : Int)))))))], []⟩) (e := (.exit 2)) (t' := 15) (hs' := []) (q := [(decide ((List.length p_90_1 : Int) < ((List.length (List.map b_sisi a0.f0)) : Int))) = false]) (by kernel_rfl) ⟨(nt hc), trivial⟩
    rw [show (⟨[(0, (.bptr l0 [(.sl (List.map b_sisi a0.f0)), (.val (.int .i64 a0.f1))])), (5, (.one (.val (.int .i64 (List.length p_90_1 : Int))))), (39, (.one (.val (.bool (decide ((List.length p_90_1 : Int) < ((List.length (List.map b_sisi a0.f0)) : Int)))))))], []⟩ : St) = fin90_1 l0 a0 (.k0 (List.length p_90_1 : Int) (decide ((List.length p_90_1 : Int) < ((List.length (List.map b_sisi a0.f0)) : Int)))) from by first | rfl | (unfold fin90_1; simp [byteRows_eq, ints_y, List.take_of_length_le, d_sisi, d_LsisiEi, d_b, d_i, d_s, d_iLsEs, d_LsisiE, d_LsE, d_y, fromBR_sisi, fromBR_b, fromBR_i, fromBR_s, fromBR_y]; done)] at st
    exact .loopX st (show ((.exit 2) : VX.Exit) ≠ .normal from by simp)
  | x0_90_1 :: l0_90_1, p_90_1, hp0 => by
    have hc : (decide ((List.length p_90_1 : Int) < ((List.length (List.map b_sisi a0.f0)) : Int))) = true := by
      rw [← hp0]; simp only [List.length_map, List.length_set, List.length_append, List.length_replicate, List.length_cons, List.length_nil, decide_eq_true_eq]; omega
    have Hx0_90_1 : (a0.f0)[Int.toNat (List.length p_90_1 : Int)]? = some x0_90_1 := by
      rw [← hp0, Int.toNat_natCast]; simp
    obtain ⟨Mx0_90_1_0, Mx0_90_1_1⟩ := hy1 x0_90_1 (List.mem_of_getElem? Hx0_90_1)
    have hlen : List.length (a0.f0) = List.length p_90_1 + List.length l0_90_1 + 1 := by rw [← hp0]; simp; omega
    have hw : IntKind.wrap .i64 ((List.length p_90_1 : Int) + 1) = (List.length p_90_1 : Int) + 1 := wrap64 (by omega)
    simp only [r90_1]
    by_cases h_90_1_1 : (decide (x0_90_1.f1 ≥ a0.f1)) = true
    · try simp only [if_pos h_90_1_1]
      have st := codeH_ok (F := F) (X := X) (c := b90_1) (t := 0) (hs := [(14, .b true), (26, .row [(.val (.string x0_90_1.f0)), (.val (.int .i64 x0_90_1.f1)), (.val (.string x0_90_1.f2)), (.val (.int .i64 x0_90_1.f3))]), (41, .b true)]) (σ := h90_1 l0 a0 (List.length p_90_1 : Int) ) (σ' := ⟨[(2, (.one (.val (.int .i64 3))))], []⟩) (e := .ret) (t' := 44) (hs' := []) (q := [(decide ((List.length p_90_1 : Int) < ((List.length (List.map b_sisi a0.f0)) : Int))) = true, 0 ≤ (List.length p_90_1 : Int), (List.map b_sisi a0.f0)[(Int.toNat (List.length p_90_1 : Int))]? = some [(.val (.string x0_90_1.f0)), (.val (.int .i64 x0_90_1.f1)), (.val (.string x0_90_1.f2)), (.val (.int .i64 x0_90_1.f3))], (decide (x0_90_1.f1 ≥ a0.f1)) = true]) (by kernel_rfl) ⟨hc, (by first | exact True.intro | with_reducible rfl | with_reducible assumption | omega | (simp only [decide_eq_true_eq] at *; omega) | (simp only [List.length_map, List.length_set, List.length_append, List.length_replicate, List.length_cons, List.length_nil]; omega) | (simp; omega) | (simp [List.take_of_length_le]; done) | assumption | trivial | (simp [*, byteRows_eq, ints_y]; done)), (by first | (rw [List.getElem?_map, Hx0_90_1]; rfl) | (rw [Nat.zero_add, List.getElem?_map, Hx0_90_1]; rfl) | exact True.intro | with_reducible rfl | with_reducible assumption | omega | (simp only [List.length_map, List.length_set, List.length_append, List.length_replicate, List.length_cons, List.length_nil]; omega) | (simp; done) | (simp; omega) | (simp [List.take_of_length_le]; done) | (simp [← List.map_take, ← List.map_drop]; done) | assumption | trivial | (simp [*, b_sisi, d_sisi, byteRows_eq, ints_y]; done)), h_90_1_1, trivial⟩
      rw [show (⟨[(2, (.one (.val (.int .i64 3))))], []⟩ : St) = fin90_1 l0 a0 (.k1) from by first | rfl | (unfold fin90_1; simp [byteRows_eq, ints_y, List.take_of_length_le, d_sisi, d_LsisiEi, d_b, d_i, d_s, d_iLsEs, d_LsisiE, d_LsE, d_y, fromBR_sisi, fromBR_b, fromBR_i, fromBR_s, fromBR_y]; done)] at st
      exact .loopX st (show (.ret : VX.Exit) ≠ .normal from by simp)
    · try simp only [if_neg h_90_1_1]
      have st := codeH_ok (F := F) (X := X) (c := b90_1) (t := 0) (hs := [(14, .b true), (26, .row [(.val (.string x0_90_1.f0)), (.val (.int .i64 x0_90_1.f1)), (.val (.string x0_90_1.f2)), (.val (.int .i64 x0_90_1.f3))]), (41, .b false)]) (σ := h90_1 l0 a0 (List.length p_90_1 : Int) ) (σ' := ⟨[(0, (.bptr l0 [(.sl (List.map b_sisi a0.f0)), (.val (.int .i64 a0.f1))])), (5, (.one (.val (.int .i64 (IntKind.wrap .i64 ((List.length p_90_1 : Int) + 1))))))], []⟩) (e := .normal) (t' := 48) (hs' := []) (q := [(decide ((List.length p_90_1 : Int) < ((List.length (List.map b_sisi a0.f0)) : Int))) = true, 0 ≤ (List.length p_90_1 : Int), (List.map b_sisi a0.f0)[(Int.toNat (List.length p_90_1 : Int))]? = some [(.val (.string x0_90_1.f0)), (.val (.int .i64 x0_90_1.f1)), (.val (.string x0_90_1.f2)), (.val (.int .i64 x0_90_1.f3))], (decide (x0_90_1.f1 ≥ a0.f1)) = false, True]) (by kernel_rfl) ⟨hc, (by first | exact True.intro | with_reducible rfl | with_reducible assumption | omega | (simp only [decide_eq_true_eq] at *; omega) | (simp only [List.length_map, List.length_set, List.length_append, List.length_replicate, List.length_cons, List.length_nil]; omega) | (simp; omega) | (simp [List.take_of_length_le]; done) | assumption | trivial | (simp [*, byteRows_eq, ints_y]; done)), (by first | (rw [List.getElem?_map, Hx0_90_1]; rfl) | (rw [Nat.zero_add, List.getElem?_map, Hx0_90_1]; rfl) | exact True.intro | with_reducible rfl | with_reducible assumption | omega | (simp only [List.length_map, List.length_set, List.length_append, List.length_replicate, List.length_cons, List.length_nil]; omega) | (simp; done) | (simp; omega) | (simp [List.take_of_length_le]; done) | (simp [← List.map_take, ← List.map_drop]; done) | assumption | trivial | (simp [*, b_sisi, d_sisi, byteRows_eq, ints_y]; done)), (nt h_90_1_1), trivial, trivial⟩
      have ih := t90_1 (l0 := l0) (a0 := a0) hy0 hy1 l0_90_1 (p_90_1 ++ [x0_90_1])  (by rw [List.append_assoc]; exact hp0)
      rw [show ((p_90_1 ++ [x0_90_1]).length : Int) = (p_90_1.length : Int) + 1 from by simp] at ih
      rw [show (⟨[(0, (.bptr l0 [(.sl (List.map b_sisi a0.f0)), (.val (.int .i64 a0.f1))])), (5, (.one (.val (.int .i64 (IntKind.wrap .i64 ((List.length p_90_1 : Int) + 1))))))], []⟩ : St) = h90_1 l0 a0 ((List.length p_90_1 : Int) + 1)  from by first | (unfold h90_1; simp only [hw]; done) | (unfold h90_1; simp only [hw, List.length_map, List.length_set, List.length_append, List.length_replicate, List.length_cons, List.length_nil]; done) | (unfold h90_1; simp [hw, byteRows_eq, ints_y, List.take_of_length_le, d_sisi, d_LsisiEi, d_b, d_i, d_s, d_iLsEs, d_LsisiE, d_LsE, d_y, fromBR_sisi, fromBR_b, fromBR_i, fromBR_s, fromBR_y]; done)] at st
      exact .loopN st ih
/-! loop.example/g00539/spec.l10Fault -/
def m90 (a0 : K_LsisiEi) : Int :=
  if (decide (((List.length (List.map b_sisi a0.f0)) : Int) > 4)) = true then 2 else
  (match r90_0 a0 a0.f0 0 with | .k0 w0_90_0_1 w1_90_0_1 => (if (!(m113 a0.f1 0 999)) = true then 3 else (match r90_1 a0 a0.f0 0 with | .k0 w0_90_1_4 w1_90_1_4 => 0 | .k1 => 3)) | .k1 w0_90_0_1 => w0_90_0_1)
theorem e90 {l0 : Nat} {a0 : K_LsisiEi} (hy0 : List.length a0.f0 * 48 ≤ 140737488351232) (hy1 : ∀ z ∈ a0.f0, os_sisi z) : Ev F X (.call 90 [(.bptr l0 [(.sl (List.map b_sisi a0.f0)), (.val (.int .i64 a0.f1))])] [] [] [(.one (.val (.int .i64 (m90 a0))))]) := by
  unfold m90
  by_cases h0 : (decide (((List.length (List.map b_sisi a0.f0)) : Int) > 4)) = true
  · try simp only [if_pos h0]
    exact callP_ok (ps := []) (os := []) (rs := [(.one (.val (.int .i64 2)))]) (by kernel_rfl) (.f h0 (.h 14 (.b true) .nil))
  · try simp only [if_neg h0]
    cases h1 : r90_0 a0 a0.f0 0 with
    | k0 w0_90_0_1 w1_90_0_1 =>
      try dsimp only
      have f1 : (⟨[(0, (.bptr l0 [(.sl (List.map b_sisi a0.f0)), (.val (.int .i64 a0.f1))])), (3, (.one (.val (.int .i64 0))))], []⟩ : St) = h90_0 l0 a0 0  := (by first | rfl | (unfold h90_0; simp [byteRows_eq, ints_y, List.take_of_length_le, d_sisi, d_LsisiEi, d_b, d_i, d_s, d_iLsEs, d_LsisiE, d_LsE, d_y, fromBR_sisi, fromBR_b, fromBR_i, fromBR_s, fromBR_y]; done))
      have f2 : Ev F X (.code l90_0 (h90_0 l0 a0 0 ) (.exit 0) ⟨[(0, (.bptr l0 [(.sl (List.map b_sisi a0.f0)), (.val (.int .i64 a0.f1))])), (3, (.one (.val (.int .i64 w0_90_0_1)))), (18, (.one (.val (.bool w1_90_0_1))))], []⟩) := (by have t : Ev F X (.code l90_0 (h90_0 l0 a0 0 ) (ex90_0 (r90_0 a0 a0.f0 0)) (fin90_0 l0 a0 (r90_0 a0 a0.f0 0))) := t90_0 (l0 := l0) (a0 := a0) (by first | assumption | omega) (by first | assumption | omega) a0.f0 []  rfl; rw [h1] at t; exact t)
      have f3 : Ev F X (.call 113 [(.one (.val (.int .i64 a0.f1))), (.one (.val (.int .i64 0))), (.one (.val (.int .i64 999)))] [] [] [(.one (.val (.bool (m113 a0.f1 0 999))))]) := (e113 (a0 := a0.f1) (a1 := 0) (a2 := 999))
      by_cases h2 : (!(m113 a0.f1 0 999)) = true
      · try simp only [if_pos h2]
        exact callP_ok (ps := []) (os := []) (rs := [(.one (.val (.int .i64 3)))]) (by kernel_rfl) (.f (nt h0) (.f f1 (.f f2 (.h 14 (.b false) (.h 17 (.loop (h90_0 l0 a0 0 ) (.exit 0) ⟨[(0, (.bptr l0 [(.sl (List.map b_sisi a0.f0)), (.val (.int .i64 a0.f1))])), (3, (.one (.val (.int .i64 w0_90_0_1)))), (18, (.one (.val (.bool w1_90_0_1))))], []⟩) (.r 27 [] [] f3 (.f h2 (.h 30 (.b true) .nil))))))))
      · try simp only [if_neg h2]
        cases h3 : r90_1 a0 a0.f0 0 with
        | k0 w0_90_1_4 w1_90_1_4 =>
          try dsimp only
          have f5 : (⟨[(0, (.bptr l0 [(.sl (List.map b_sisi a0.f0)), (.val (.int .i64 a0.f1))])), (5, (.one (.val (.int .i64 0))))], []⟩ : St) = h90_1 l0 a0 0  := (by first | rfl | (unfold h90_1; simp [byteRows_eq, ints_y, List.take_of_length_le, d_sisi, d_LsisiEi, d_b, d_i, d_s, d_iLsEs, d_LsisiE, d_LsE, d_y, fromBR_sisi, fromBR_b, fromBR_i, fromBR_s, fromBR_y]; done))
          have f6 : Ev F X (.code l90_1 (h90_1 l0 a0 0 ) (.exit 2) ⟨[(0, (.bptr l0 [(.sl (List.map b_sisi a0.f0)), (.val (.int .i64 a0.f1))])), (5, (.one (.val (.int .i64 w0_90_1_4)))), (39, (.one (.val (.bool w1_90_1_4))))], []⟩) := (by have t : Ev F X (.code l90_1 (h90_1 l0 a0 0 ) (ex90_1 (r90_1 a0 a0.f0 0)) (fin90_1 l0 a0 (r90_1 a0 a0.f0 0))) := t90_1 (l0 := l0) (a0 := a0) (by first | assumption | omega) (by first | assumption | omega) a0.f0 []  rfl; rw [h3] at t; exact t)
          exact callP_ok (ps := []) (os := []) (rs := [(.one (.val (.int .i64 0)))]) (by kernel_rfl) (.f (nt h0) (.f f1 (.f f2 (.h 14 (.b false) (.h 17 (.loop (h90_0 l0 a0 0 ) (.exit 0) ⟨[(0, (.bptr l0 [(.sl (List.map b_sisi a0.f0)), (.val (.int .i64 a0.f1))])), (3, (.one (.val (.int .i64 w0_90_0_1)))), (18, (.one (.val (.bool w1_90_0_1))))], []⟩) (.r 27 [] [] f3 (.f (nt h2) (.f f5 (.f f6 (.h 30 (.b false) (.h 33 (.loop (h90_1 l0 a0 0 ) (.exit 2) ⟨[(0, (.bptr l0 [(.sl (List.map b_sisi a0.f0)), (.val (.int .i64 a0.f1))])), (5, (.one (.val (.int .i64 w0_90_1_4)))), (39, (.one (.val (.bool w1_90_1_4))))], []⟩) .nil)))))))))))
        | k1 =>
          try dsimp only
          have f5 : (⟨[(0, (.bptr l0 [(.sl (List.map b_sisi a0.f0)), (.val (.int .i64 a0.f1))])), (5, (.one (.val (.int .i64 0))))], []⟩ : St) = h90_1 l0 a0 0  := (by first | rfl | (unfold h90_1; simp [byteRows_eq, ints_y, List.take_of_length_le, d_sisi, d_LsisiEi, d_b, d_i, d_s, d_iLsEs, d_LsisiE, d_LsE, d_y, fromBR_sisi, fromBR_b, fromBR_i, fromBR_s, fromBR_y]; done))
          have f6 : Ev F X (.code l90_1 (h90_1 l0 a0 0 ) .ret ⟨[(2, (.one (.val (.int .i64 3))))], []⟩) := (by have t : Ev F X (.code l90_1 (h90_1 l0 a0 0 ) (ex90_1 (r90_1 a0 a0.f0 0)) (fin90_1 l0 a0 (r90_1 a0 a0.f0 0))) := t90_1 (l0 := l0) (a0 := a0) (by first | assumption | omega) (by first | assumption | omega) a0.f0 []  rfl; rw [h3] at t; exact t)
          exact callP_ok (ps := []) (os := []) (rs := [(.one (.val (.int .i64 3)))]) (by kernel_rfl) (.f (nt h0) (.f f1 (.f f2 (.h 14 (.b false) (.h 17 (.loop (h90_0 l0 a0 0 ) (.exit 0) ⟨[(0, (.bptr l0 [(.sl (List.map b_sisi a0.f0)), (.val (.int .i64 a0.f1))])), (3, (.one (.val (.int .i64 w0_90_0_1)))), (18, (.one (.val (.bool w1_90_0_1))))], []⟩) (.r 27 [] [] f3 (.f (nt h2) (.f f5 (.f f6 (.h 30 (.b false) (.h 33 (.loop (h90_1 l0 a0 0 ) .ret ⟨[(2, (.one (.val (.int .i64 3))))], []⟩) .nil)))))))))))
    | k1 w0_90_0_1 =>
      try dsimp only
      have f1 : (⟨[(0, (.bptr l0 [(.sl (List.map b_sisi a0.f0)), (.val (.int .i64 a0.f1))])), (3, (.one (.val (.int .i64 0))))], []⟩ : St) = h90_0 l0 a0 0  := (by first | rfl | (unfold h90_0; simp [byteRows_eq, ints_y, List.take_of_length_le, d_sisi, d_LsisiEi, d_b, d_i, d_s, d_iLsEs, d_LsisiE, d_LsE, d_y, fromBR_sisi, fromBR_b, fromBR_i, fromBR_s, fromBR_y]; done))
      have f2 : Ev F X (.code l90_0 (h90_0 l0 a0 0 ) .ret ⟨[(2, (.one (.val (.int .i64 w0_90_0_1))))], []⟩) := (by have t : Ev F X (.code l90_0 (h90_0 l0 a0 0 ) (ex90_0 (r90_0 a0 a0.f0 0)) (fin90_0 l0 a0 (r90_0 a0 a0.f0 0))) := t90_0 (l0 := l0) (a0 := a0) (by first | assumption | omega) (by first | assumption | omega) a0.f0 []  rfl; rw [h1] at t; exact t)
      exact callP_ok (ps := []) (os := []) (rs := [(.one (.val (.int .i64 w0_90_0_1)))]) (by kernel_rfl) (.f (nt h0) (.f f1 (.f f2 (.h 14 (.b false) (.h 17 (.loop (h90_0 l0 a0 0 ) .ret ⟨[(2, (.one (.val (.int .i64 w0_90_0_1))))], []⟩) .nil)))))
/-! loop 49_1 -/
inductive O49_1 where
  | k0 (w0 : Bool) (w1 : Int) (w2 : Bool)
def r49_1 (c1_49_1 : K_sisi) (c2_49_1 : List ByteArray) : List ByteArray → Int → Bool → O49_1
  | x0_49_1 :: l0_49_1, i_49_1, v0_49_1 =>
    if v0_49_1 = true then (r49_1 c1_49_1 c2_49_1 l0_49_1 (i_49_1 + 1) true) else
    (r49_1 c1_49_1 c2_49_1 l0_49_1 (i_49_1 + 1) (x0_49_1.toList == c1_49_1.f2.toList))
  | [], i_49_1, v0_49_1 => (O49_1.k0 v0_49_1 i_49_1 (decide (i_49_1 < ((List.length (List.map d_s c2_49_1)) : Int))))
def h49_1 (l0_0 : Nat) (a0 : K_LsisiEi) (c0_49_1 : Int) (c1_49_1 : K_sisi) (c2_49_1 : List ByteArray) (i_49_1 : Int) (v0_49_1 : Bool) : St := ⟨[(1, (.ptr ⟨(1, 0, 0), [], 0, 0, 2⟩)), (2, (.ptr ⟨(2, 0, 0), [], 0, 0, 3⟩)), (4, (.ptr ⟨(4, 0, 0), [], 0, 0, 3⟩)), (5, (.one (.val (.int .i64 c0_49_1)))), (6, (.one (.val (.string c1_49_1.f2)))), (7, (.one (.val (.bool v0_49_1)))), (8, (.one (.val (.int .i64 i_49_1))))], [((1, 0, 0), .live ⟨2, [[(.bor l0_0 (List.map b_sisi a0.f0)), (.val (.int .i64 a0.f1))]], []⟩), ((2, 0, 0), .live ⟨3, [[(.val (.int .i64 0)), (.own 1 []), (.val (.string (⟨#[]⟩ : ByteArray)))]], []⟩), ((4, 0, 0), .live ⟨3, [[(.val (.int .i64 0)), (.own 1 (List.map d_s c2_49_1)), (.val (.string (⟨#[]⟩ : ByteArray)))]], []⟩)]⟩
def ex49_1 : O49_1 → VX.Exit
  | .k0 _ _ _ => (.exit 2)
def fin49_1 (l0_0 : Nat) (a0 : K_LsisiEi) (c0_49_1 : Int) (c1_49_1 : K_sisi) (c2_49_1 : List ByteArray) : O49_1 → St
  | .k0 w0 w1 w2 => ⟨[(1, (.ptr ⟨(1, 0, 0), [], 0, 0, 2⟩)), (2, (.ptr ⟨(2, 0, 0), [], 0, 0, 3⟩)), (4, (.ptr ⟨(4, 0, 0), [], 0, 0, 3⟩)), (5, (.one (.val (.int .i64 c0_49_1)))), (6, (.one (.val (.string c1_49_1.f2)))), (7, (.one (.val (.bool w0)))), (8, (.one (.val (.int .i64 w1)))), (34, (.one (.val (.bool w2))))], [((1, 0, 0), .live ⟨2, [[(.bor l0_0 (List.map b_sisi a0.f0)), (.val (.int .i64 a0.f1))]], []⟩), ((2, 0, 0), .live ⟨3, [[(.val (.int .i64 0)), (.own 1 []), (.val (.string (⟨#[]⟩ : ByteArray)))]], []⟩), ((4, 0, 0), .live ⟨3, [[(.val (.int .i64 0)), (.own 1 (List.map d_s c2_49_1)), (.val (.string (⟨#[]⟩ : ByteArray)))]], []⟩)]⟩
theorem t49_1 {l0_0 : Nat} {a0 : K_LsisiEi} {c0_49_1 : Int} {c1_49_1 : K_sisi} {c2_49_1 : List ByteArray} (hy0 : List.length c2_49_1 ≤ 140737488351232) : ∀ (l0_49_1 : List ByteArray) (p_49_1 : List ByteArray) (v0_49_1 : Bool), p_49_1 ++ l0_49_1 = c2_49_1 → Ev F X (.code l49_1 (h49_1 l0_0 a0 c0_49_1 c1_49_1 c2_49_1 (List.length p_49_1 : Int) v0_49_1) (ex49_1 (r49_1 c1_49_1 c2_49_1 l0_49_1 (List.length p_49_1 : Int) v0_49_1)) (fin49_1 l0_0 a0 c0_49_1 c1_49_1 c2_49_1 (r49_1 c1_49_1 c2_49_1 l0_49_1 (List.length p_49_1 : Int) v0_49_1)))
  | [], p_49_1, v0_49_1, hp0 => by
    have hc : ¬ (decide ((List.length p_49_1 : Int) < ((List.length (List.map d_s c2_49_1)) : Int))) = true := by
      rw [← hp0]; simp only [List.length_map, List.length_set, List.length_append, List.length_replicate, List.length_cons, List.length_nil, decide_eq_true_eq]; omega
    have st := codeH_ok (F := F) (X := X) (c := b49_1) (t := 0) (hs := [(10, .b false)]) (σ := h49_1 l0_0 a0 c0_49_1 c1_49_1 c2_49_1 (List.length p_49_1 : Int) v0_49_1) (σ' := ⟨[(1, (.ptr ⟨(1, 0, 0), [], 0, 0, 2⟩)), (2, (.ptr ⟨(2, 0, 0), [], 0, 0, 3⟩)), (4, (.ptr ⟨(4, 0, 0), [], 0, 0, 3⟩)), (5, (.one (.val (.int .i64 c0_49_1)))), (6, (.one (.val (.string c1_49_1.f2)))), (7, (.one (.val (.bool v0_49_1)))), (8, (.one (.val (.int .i64 (List.length p_49_1 : Int))))), (34, (.one (.val (.bool (decide ((List.length p_49_1 : Int) < ((List.length (List.map d_s c2_49_1)) : Int)))))))], [((1, 0, 0), .live ⟨2, [[(.bor l0_0 (List.map b_sisi a0.f0)), (.val (.int .i64 a0.f1))]], []⟩), ((2, 0, 0), .live ⟨3, [[(.val (.int .i64 0)), (.own 1 []), (.val (.string (⟨#[]⟩ : ByteArray)))]], []⟩), ((4, 0, 0), .live ⟨3, [[(.val (.int .i64 0)), (.own 1 (List.map d_s c2_49_1)), (.val (.string (⟨#[]⟩ : ByteArray)))]], []⟩)]⟩) (e := (.exit 2)) (t' := 11) (hs' := []) (q := [(decide ((List.length p_49_1 : Int) < ((List.length (List.map d_s c2_49_1)) : Int))) = false]) (by kernel_rfl) ⟨(nt hc), trivial⟩
    rw [show (⟨[(1, (.ptr ⟨(1, 0, 0), [], 0, 0, 2⟩)), (2, (.ptr ⟨(2, 0, 0), [], 0, 0, 3⟩)), (4, (.ptr ⟨(4, 0, 0), [], 0, 0, 3⟩)), (5, (.one (.val (.int .i64 c0_49_1)))), (6, (.one (.val (.string c1_49_1.f2)))), (7, (.one (.val (.bool v0_49_1)))), (8, (.one (.val (.int .i64 (List.length p_49_1 : Int))))), (34, (.one (.val (.bool (decide ((List.length p_49_1 : Int) < ((List.length (List.map d_s c2_49_1)) : Int)))))))], [((1, 0, 0), .live ⟨2, [[(.bor l0_0 (List.map b_sisi a0.f0)), (.val (.int .i64 a0.f1))]], []⟩), ((2, 0, 0), .live ⟨3, [[(.val (.int .i64 0)), (.own 1 []), (.val (.string (⟨#[]⟩ : ByteArray)))]], []⟩), ((4, 0, 0), .live ⟨3, [[(.val (.int .i64 0)), (.own 1 (List.map d_s c2_49_1)), (.val (.string (⟨#[]⟩ : ByteArray)))]], []⟩)]⟩ : St) = fin49_1 l0_0 a0 c0_49_1 c1_49_1 c2_49_1 (.k0 v0_49_1 (List.length p_49_1 : Int) (decide ((List.length p_49_1 : Int) < ((List.length (List.map d_s c2_49_1)) : Int)))) from by first | rfl | (unfold fin49_1; simp [byteRows_eq, ints_y, List.take_of_length_le, d_sisi, d_LsisiEi, d_b, d_i, d_s, d_iLsEs, d_LsisiE, d_LsE, d_y, fromBR_sisi, fromBR_b, fromBR_i, fromBR_s, fromBR_y]; done)] at st
    exact .loopX st (show ((.exit 2) : VX.Exit) ≠ .normal from by simp)
  | x0_49_1 :: l0_49_1, p_49_1, v0_49_1, hp0 => by
    have hc : (decide ((List.length p_49_1 : Int) < ((List.length (List.map d_s c2_49_1)) : Int))) = true := by
      rw [← hp0]; simp only [List.length_map, List.length_set, List.length_append, List.length_replicate, List.length_cons, List.length_nil, decide_eq_true_eq]; omega
    have Hx0_49_1 : (c2_49_1)[Int.toNat (List.length p_49_1 : Int)]? = some x0_49_1 := by
      rw [← hp0, Int.toNat_natCast]; simp
    have hlen : List.length (c2_49_1) = List.length p_49_1 + List.length l0_49_1 + 1 := by rw [← hp0]; simp; omega
    have hw : IntKind.wrap .i64 ((List.length p_49_1 : Int) + 1) = (List.length p_49_1 : Int) + 1 := wrap64 (by omega)
    simp only [r49_1]
    by_cases h_49_1_1 : v0_49_1 = true
    · try simp only [if_pos h_49_1_1]
      have st := codeH_ok (F := F) (X := X) (c := b49_1) (t := 0) (hs := [(10, .b true), (15, .b true), (17, .b true), (19, .b true), (21, .b true), (23, .b true), (25, .b true), (27, .b true), (30, .b true)]) (σ := h49_1 l0_0 a0 c0_49_1 c1_49_1 c2_49_1 (List.length p_49_1 : Int) v0_49_1) (σ' := ⟨[(1, (.ptr ⟨(1, 0, 0), [], 0, 0, 2⟩)), (2, (.ptr ⟨(2, 0, 0), [], 0, 0, 3⟩)), (4, (.ptr ⟨(4, 0, 0), [], 0, 0, 3⟩)), (5, (.one (.val (.int .i64 c0_49_1)))), (6, (.one (.val (.string c1_49_1.f2)))), (7, (.one (.val (.bool true)))), (8, (.one (.val (.int .i64 (IntKind.wrap .i64 ((List.length p_49_1 : Int) + 1))))))], [((1, 0, 0), .live ⟨2, [[(.bor l0_0 (List.map b_sisi a0.f0)), (.val (.int .i64 a0.f1))]], []⟩), ((2, 0, 0), .live ⟨3, [[(.val (.int .i64 0)), (.own 1 []), (.val (.string (⟨#[]⟩ : ByteArray)))]], []⟩), ((4, 0, 0), .live ⟨3, [[(.val (.int .i64 0)), (.own 1 (List.map d_s c2_49_1)), (.val (.string (⟨#[]⟩ : ByteArray)))]], []⟩)]⟩) (e := .normal) (t' := 39) (hs' := []) (q := [(decide ((List.length p_49_1 : Int) < ((List.length (List.map d_s c2_49_1)) : Int))) = true, v0_49_1 = true, v0_49_1 = true, v0_49_1 = true, v0_49_1 = true, v0_49_1 = true, v0_49_1 = true, v0_49_1 = true, v0_49_1 = true, True]) (by kernel_rfl) ⟨hc, h_49_1_1, h_49_1_1, h_49_1_1, h_49_1_1, h_49_1_1, h_49_1_1, h_49_1_1, h_49_1_1, trivial, trivial⟩
      have ih := t49_1 (l0_0 := l0_0) (a0 := a0) (c0_49_1 := c0_49_1) (c1_49_1 := c1_49_1) (c2_49_1 := c2_49_1) hy0 l0_49_1 (p_49_1 ++ [x0_49_1]) true (by rw [List.append_assoc]; exact hp0)
      rw [show ((p_49_1 ++ [x0_49_1]).length : Int) = (p_49_1.length : Int) + 1 from by simp] at ih
      rw [show (⟨[(1, (.ptr ⟨(1, 0, 0), [], 0, 0, 2⟩)), (2, (.ptr ⟨(2, 0, 0), [], 0, 0, 3⟩)), (4, (.ptr ⟨(4, 0, 0), [], 0, 0, 3⟩)), (5, (.one (.val (.int .i64 c0_49_1)))), (6, (.one (.val (.string c1_49_1.f2)))), (7, (.one (.val (.bool true)))), (8, (.one (.val (.int .i64 (IntKind.wrap .i64 ((List.length p_49_1 : Int) + 1))))))], [((1, 0, 0), .live ⟨2, [[(.bor l0_0 (List.map b_sisi a0.f0)), (.val (.int .i64 a0.f1))]], []⟩), ((2, 0, 0), .live ⟨3, [[(.val (.int .i64 0)), (.own 1 []), (.val (.string (⟨#[]⟩ : ByteArray)))]], []⟩), ((4, 0, 0), .live ⟨3, [[(.val (.int .i64 0)), (.own 1 (List.map d_s c2_49_1)), (.val (.string (⟨#[]⟩ : ByteArray)))]], []⟩)]⟩ : St) = h49_1 l0_0 a0 c0_49_1 c1_49_1 c2_49_1 ((List.length p_49_1 : Int) + 1) true from by first | (unfold h49_1; simp only [hw]; done) | (unfold h49_1; simp only [hw, List.length_map, List.length_set, List.length_append, List.length_replicate, List.length_cons, List.length_nil]; done) | (unfold h49_1; simp [hw, byteRows_eq, ints_y, List.take_of_length_le, d_sisi, d_LsisiEi, d_b, d_i, d_s, d_iLsEs, d_LsisiE, d_LsE, d_y, fromBR_sisi, fromBR_b, fromBR_i, fromBR_s, fromBR_y]; done)] at st
      exact .loopN st ih
    · try simp only [if_neg h_49_1_1]
      have st := codeH_ok (F := F) (X := X) (c := b49_1) (t := 0) (hs := [(10, .b true), (15, .b false), (17, .b false), (19, .b false), (21, .b false), (23, .b false), (24, .rowD [(.val (.string x0_49_1))]), (25, .b false), (27, .b false), (30, .b false)]) (σ := h49_1 l0_0 a0 c0_49_1 c1_49_1 c2_49_1 (List.length p_49_1 : Int) v0_49_1) (σ' := ⟨[(1, (.ptr ⟨(1, 0, 0), [], 0, 0, 2⟩)), (2, (.ptr ⟨(2, 0, 0), [], 0, 0, 3⟩)), (4, (.ptr ⟨(4, 0, 0), [], 0, 0, 3⟩)), (5, (.one (.val (.int .i64 c0_49_1)))), (6, (.one (.val (.string c1_49_1.f2)))), (7, (.one (.val (.bool (x0_49_1.toList == c1_49_1.f2.toList))))), (8, (.one (.val (.int .i64 (IntKind.wrap .i64 ((List.length p_49_1 : Int) + 1))))))], [((1, 0, 0), .live ⟨2, [[(.bor l0_0 (List.map b_sisi a0.f0)), (.val (.int .i64 a0.f1))]], []⟩), ((2, 0, 0), .live ⟨3, [[(.val (.int .i64 0)), (.own 1 []), (.val (.string (⟨#[]⟩ : ByteArray)))]], []⟩), ((4, 0, 0), .live ⟨3, [[(.val (.int .i64 0)), (.own 1 (List.map d_s c2_49_1)), (.val (.string (⟨#[]⟩ : ByteArray)))]], []⟩)]⟩) (e := .normal) (t' := 39) (hs' := []) (q := [(decide ((List.length p_49_1 : Int) < ((List.length (List.map d_s c2_49_1)) : Int))) = true, v0_49_1 = false, v0_49_1 = false, v0_49_1 = false, v0_49_1 = false, 0 + (List.length (List.map d_s c2_49_1)) ≤ (List.length (List.map d_s c2_49_1)), 0 ≤ (List.length p_49_1 : Int) ∧ (List.length p_49_1 : Int) < ((List.length (List.map d_s c2_49_1)) : Int), v0_49_1 = false, (List.map d_s c2_49_1)[(0 + (Int.toNat (List.length p_49_1 : Int)))]? = some [(.val (.string x0_49_1))], v0_49_1 = false, v0_49_1 = false, v0_49_1 = false, True]) (by kernel_rfl) ⟨hc, (nt h_49_1_1), (nt h_49_1_1), (nt h_49_1_1), (nt h_49_1_1), (by omega), (by first | exact True.intro | with_reducible rfl | with_reducible assumption | omega | (simp only [decide_eq_true_eq] at *; omega) | (simp only [List.length_map]; omega) | (simp; omega) | (simp [List.take_of_length_le]; done) | assumption | trivial | (simp [*, b_s, d_s, byteRows_eq, ints_y]; done)), (nt h_49_1_1), (by first | (rw [List.getElem?_map, Hx0_49_1]; rfl) | (rw [Nat.zero_add, List.getElem?_map, Hx0_49_1]; rfl) | exact True.intro | with_reducible rfl | with_reducible assumption | omega | (simp only [List.length_map, List.length_set, List.length_append, List.length_replicate, List.length_cons, List.length_nil]; omega) | (simp; done) | (simp; omega) | (simp [List.take_of_length_le]; done) | (simp [← List.map_take, ← List.map_drop]; done) | assumption | trivial | (simp [*, b_s, d_s, byteRows_eq, ints_y]; done)), (nt h_49_1_1), (nt h_49_1_1), (nt h_49_1_1), trivial, trivial⟩
      have ih := t49_1 (l0_0 := l0_0) (a0 := a0) (c0_49_1 := c0_49_1) (c1_49_1 := c1_49_1) (c2_49_1 := c2_49_1) hy0 l0_49_1 (p_49_1 ++ [x0_49_1]) (x0_49_1.toList == c1_49_1.f2.toList) (by rw [List.append_assoc]; exact hp0)
      rw [show ((p_49_1 ++ [x0_49_1]).length : Int) = (p_49_1.length : Int) + 1 from by simp] at ih
      rw [show (⟨[(1, (.ptr ⟨(1, 0, 0), [], 0, 0, 2⟩)), (2, (.ptr ⟨(2, 0, 0), [], 0, 0, 3⟩)), (4, (.ptr ⟨(4, 0, 0), [], 0, 0, 3⟩)), (5, (.one (.val (.int .i64 c0_49_1)))), (6, (.one (.val (.string c1_49_1.f2)))), (7, (.one (.val (.bool (x0_49_1.toList == c1_49_1.f2.toList))))), (8, (.one (.val (.int .i64 (IntKind.wrap .i64 ((List.length p_49_1 : Int) + 1))))))], [((1, 0, 0), .live ⟨2, [[(.bor l0_0 (List.map b_sisi a0.f0)), (.val (.int .i64 a0.f1))]], []⟩), ((2, 0, 0), .live ⟨3, [[(.val (.int .i64 0)), (.own 1 []), (.val (.string (⟨#[]⟩ : ByteArray)))]], []⟩), ((4, 0, 0), .live ⟨3, [[(.val (.int .i64 0)), (.own 1 (List.map d_s c2_49_1)), (.val (.string (⟨#[]⟩ : ByteArray)))]], []⟩)]⟩ : St) = h49_1 l0_0 a0 c0_49_1 c1_49_1 c2_49_1 ((List.length p_49_1 : Int) + 1) (x0_49_1.toList == c1_49_1.f2.toList) from by first | (unfold h49_1; simp only [hw]; done) | (unfold h49_1; simp only [hw, List.length_map, List.length_set, List.length_append, List.length_replicate, List.length_cons, List.length_nil]; done) | (unfold h49_1; simp [hw, byteRows_eq, ints_y, List.take_of_length_le, d_sisi, d_LsisiEi, d_b, d_i, d_s, d_iLsEs, d_LsisiE, d_LsE, d_y, fromBR_sisi, fromBR_b, fromBR_i, fromBR_s, fromBR_y]; done)] at st
      exact .loopN st ih
/-! loop 49_0 -/
inductive O49_0 where
  | k0 (w0 : List ByteArray) (w1 : Int) (w2 : Bool)
def r49_0 (a0 : K_LsisiEi) : List K_sisi → Int → List ByteArray → O49_0
  | x0_49_0 :: l0_49_0, i_49_0, v0_49_0 =>
    (match r49_1 x0_49_0 v0_49_0 v0_49_0 0 (x0_49_0.f2.toList == (⟨#[]⟩ : ByteArray).toList) with | .k0 w0_49_1_2 w1_49_1_2 w2_49_1_2 => (if (!w0_49_1_2) = true then (r49_0 a0 l0_49_0 (i_49_0 + 1) (v0_49_0 ++ ([x0_49_0.f2]))) else (r49_0 a0 l0_49_0 (i_49_0 + 1) v0_49_0)))
  | [], i_49_0, v0_49_0 => (O49_0.k0 v0_49_0 i_49_0 (decide (i_49_0 < ((List.length (List.map b_sisi a0.f0)) : Int))))
def h49_0 (l0_0 : Nat) (a0 : K_LsisiEi) (i_49_0 : Int) (v0_49_0 : List ByteArray) : St := ⟨[(1, (.ptr ⟨(1, 0, 0), [], 0, 0, 2⟩)), (2, (.ptr ⟨(2, 0, 0), [], 0, 0, 3⟩)), (4, (.ptr ⟨(4, 0, 0), [], 0, 0, 3⟩)), (5, (.one (.val (.int .i64 i_49_0))))], [((1, 0, 0), .live ⟨2, [[(.bor l0_0 (List.map b_sisi a0.f0)), (.val (.int .i64 a0.f1))]], []⟩), ((2, 0, 0), .live ⟨3, [[(.val (.int .i64 0)), (.own 1 []), (.val (.string (⟨#[]⟩ : ByteArray)))]], []⟩), ((4, 0, 0), .live ⟨3, [[(.val (.int .i64 0)), (.own 1 (List.map d_s v0_49_0)), (.val (.string (⟨#[]⟩ : ByteArray)))]], []⟩)]⟩
def ex49_0 : O49_0 → VX.Exit
  | .k0 _ _ _ => (.exit 0)
def fin49_0 (l0_0 : Nat) (a0 : K_LsisiEi) : O49_0 → St
  | .k0 w0 w1 w2 => ⟨[(1, (.ptr ⟨(1, 0, 0), [], 0, 0, 2⟩)), (2, (.ptr ⟨(2, 0, 0), [], 0, 0, 3⟩)), (4, (.ptr ⟨(4, 0, 0), [], 0, 0, 3⟩)), (5, (.one (.val (.int .i64 w1)))), (19, (.one (.val (.bool w2))))], [((1, 0, 0), .live ⟨2, [[(.bor l0_0 (List.map b_sisi a0.f0)), (.val (.int .i64 a0.f1))]], []⟩), ((2, 0, 0), .live ⟨3, [[(.val (.int .i64 0)), (.own 1 []), (.val (.string (⟨#[]⟩ : ByteArray)))]], []⟩), ((4, 0, 0), .live ⟨3, [[(.val (.int .i64 0)), (.own 1 (List.map d_s w0)), (.val (.string (⟨#[]⟩ : ByteArray)))]], []⟩)]⟩
theorem t49_0 {l0_0 : Nat} {a0 : K_LsisiEi} (hy0 : List.length a0.f0 * 48 ≤ 140737488351232) (hy1 : ∀ z ∈ a0.f0, os_sisi z) : ∀ (l0_49_0 : List K_sisi) (p_49_0 : List K_sisi) (v0_49_0 : List ByteArray), p_49_0 ++ l0_49_0 = a0.f0 → (List.length v0_49_0 + List.length l0_49_0) * 16 ≤ 70368744177664 → Ev F X (.code l49_0 (h49_0 l0_0 a0 (List.length p_49_0 : Int) v0_49_0) (ex49_0 (r49_0 a0 l0_49_0 (List.length p_49_0 : Int) v0_49_0)) (fin49_0 l0_0 a0 (r49_0 a0 l0_49_0 (List.length p_49_0 : Int) v0_49_0)))
  | [], p_49_0, v0_49_0, hp0, hi0 => by
    have hc : ¬ (decide ((List.length p_49_0 : Int) < ((List.length (List.map b_sisi a0.f0)) : Int))) = true := by
      rw [← hp0]; simp only [List.length_map, List.length_set, List.length_append, List.length_replicate, List.length_cons, List.length_nil, decide_eq_true_eq]; omega
    have hj0 := hi0; try simp only [List.length_map, List.length_set, List.length_append, List.length_replicate, List.length_cons, List.length_nil, Int.toNat_natCast] at hj0
    have st := codeH_ok (F := F) (X := X) (c := b49_0) (t := 0) (hs := [(10, .b false)]) (σ := h49_0 l0_0 a0 (List.length p_49_0 : Int) v0_49_0) (σ' := ⟨[(1, (.ptr ⟨(1, 0, 0), [], 0, 0, 2⟩)), (2, (.ptr ⟨(2, 0, 0), [], 0, 0, 3⟩)), (4, (.ptr ⟨(4, 0, 0), [], 0, 0, 3⟩)), (5, (.one (.val (.int .i64 (List.length p_49_0 : Int))))), (19, (.one (.val (.bool (decide ((List.length p_49_0 : Int) < ((List.length (List.map b_sisi a0.f0)) : Int)))))))], [((1, 0, 0), .live ⟨2, [[(.bor l0_0 (List.map b_sisi a0.f0)), (.val (.int .i64 a0.f1))]], []⟩), ((2, 0, 0), .live ⟨3, [[(.val (.int .i64 0)), (.own 1 []), (.val (.string (⟨#[]⟩ : ByteArray)))]], []⟩), ((4, 0, 0), .live ⟨3, [[(.val (.int .i64 0)), (.own 1 (List.map d_s v0_49_0)), (.val (.string (⟨#[]⟩ : ByteArray)))]], []⟩)]⟩) (e := (.exit 0)) (t' := 11) (hs' := []) (q := [(decide ((List.length p_49_0 : Int) < ((List.length (List.map b_sisi a0.f0)) : Int))) = false]) (by kernel_rfl) ⟨(nt hc), trivial⟩
    rw [show (⟨[(1, (.ptr ⟨(1, 0, 0), [], 0, 0, 2⟩)), (2, (.ptr ⟨(2, 0, 0), [], 0, 0, 3⟩)), (4, (.ptr ⟨(4, 0, 0), [], 0, 0, 3⟩)), (5, (.one (.val (.int .i64 (List.length p_49_0 : Int))))), (19, (.one (.val (.bool (decide ((List.length p_49_0 : Int) < ((List.length (List.map b_sisi a0.f0)) : Int)))))))], [((1, 0, 0), .live ⟨2, [[(.bor l0_0 (List.map b_sisi a0.f0)), (.val (.int .i64 a0.f1))]], []⟩), ((2, 0, 0), .live ⟨3, [[(.val (.int .i64 0)), (.own 1 []), (.val (.string (⟨#[]⟩ : ByteArray)))]], []⟩), ((4, 0, 0), .live ⟨3, [[(.val (.int .i64 0)), (.own 1 (List.map d_s v0_49_0)), (.val (.string (⟨#[]⟩ : ByteArray)))]], []⟩)]⟩ : St) = fin49_0 l0_0 a0 (.k0 v0_49_0 (List.length p_49_0 : Int) (decide ((List.length p_49_0 : Int) < ((List.length (List.map b_sisi a0.f0)) : Int)))) from by first | rfl | (unfold fin49_0; simp [byteRows_eq, ints_y, List.take_of_length_le, d_sisi, d_LsisiEi, d_b, d_i, d_s, d_iLsEs, d_LsisiE, d_LsE, d_y, fromBR_sisi, fromBR_b, fromBR_i, fromBR_s, fromBR_y]; done)] at st
    exact .loopX st (show ((.exit 0) : VX.Exit) ≠ .normal from by simp)
  | x0_49_0 :: l0_49_0, p_49_0, v0_49_0, hp0, hi0 => by
    have hc : (decide ((List.length p_49_0 : Int) < ((List.length (List.map b_sisi a0.f0)) : Int))) = true := by
      rw [← hp0]; simp only [List.length_map, List.length_set, List.length_append, List.length_replicate, List.length_cons, List.length_nil, decide_eq_true_eq]; omega
    have Hx0_49_0 : (a0.f0)[Int.toNat (List.length p_49_0 : Int)]? = some x0_49_0 := by
      rw [← hp0, Int.toNat_natCast]; simp
    obtain ⟨Mx0_49_0_0, Mx0_49_0_1⟩ := hy1 x0_49_0 (List.mem_of_getElem? Hx0_49_0)
    have hlen : List.length (a0.f0) = List.length p_49_0 + List.length l0_49_0 + 1 := by rw [← hp0]; simp; omega
    have hw : IntKind.wrap .i64 ((List.length p_49_0 : Int) + 1) = (List.length p_49_0 : Int) + 1 := wrap64 (by omega)
    have hj0 := hi0; try simp only [List.length_map, List.length_set, List.length_append, List.length_replicate, List.length_cons, List.length_nil, Int.toNat_natCast] at hj0
    simp only [r49_0]
    cases h_49_0_1 : r49_1 x0_49_0 v0_49_0 v0_49_0 0 (x0_49_0.f2.toList == (⟨#[]⟩ : ByteArray).toList) with
    | k0 w0_49_1_2 w1_49_1_2 w2_49_1_2 =>
      try dsimp only
      by_cases h_49_0_2 : (!w0_49_1_2) = true
      · try simp only [if_pos h_49_0_2]
        have st := codeH_ok (F := F) (X := X) (c := b49_0) (t := 0) (hs := [(10, .b true), (18, .row [(.val (.string x0_49_0.f0)), (.val (.int .i64 x0_49_0.f1)), (.val (.string x0_49_0.f2)), (.val (.int .i64 x0_49_0.f3))]), (33, .loop (h49_1 l0_0 a0 (List.length p_49_0 : Int) x0_49_0 v0_49_0 0 (x0_49_0.f2.toList == (⟨#[]⟩ : ByteArray).toList)) (.exit 2) ⟨[(1, (.ptr ⟨(1, 0, 0), [], 0, 0, 2⟩)), (2, (.ptr ⟨(2, 0, 0), [], 0, 0, 3⟩)), (4, (.ptr ⟨(4, 0, 0), [], 0, 0, 3⟩)), (5, (.one (.val (.int .i64 (List.length p_49_0 : Int))))), (6, (.one (.val (.string x0_49_0.f2)))), (7, (.one (.val (.bool w0_49_1_2)))), (8, (.one (.val (.int .i64 w1_49_1_2)))), (34, (.one (.val (.bool w2_49_1_2))))], [((1, 0, 0), .live ⟨2, [[(.bor l0_0 (List.map b_sisi a0.f0)), (.val (.int .i64 a0.f1))]], []⟩), ((2, 0, 0), .live ⟨3, [[(.val (.int .i64 0)), (.own 1 []), (.val (.string (⟨#[]⟩ : ByteArray)))]], []⟩), ((4, 0, 0), .live ⟨3, [[(.val (.int .i64 0)), (.own 1 (List.map d_s v0_49_0)), (.val (.string (⟨#[]⟩ : ByteArray)))]], []⟩)]⟩), (38, .b true), (48, .b true), (53, .norm (4, 0, 0) [[(.val (.int .i64 0)), (.own 1 (List.map d_s (v0_49_0 ++ ([x0_49_0.f2])))), (.val (.string (⟨#[]⟩ : ByteArray)))]])]) (σ := h49_0 l0_0 a0 (List.length p_49_0 : Int) v0_49_0) (σ' := ⟨[(1, (.ptr ⟨(1, 0, 0), [], 0, 0, 2⟩)), (2, (.ptr ⟨(2, 0, 0), [], 0, 0, 3⟩)), (4, (.ptr ⟨(4, 0, 0), [], 0, 0, 3⟩)), (5, (.one (.val (.int .i64 (IntKind.wrap .i64 ((List.length p_49_0 : Int) + 1))))))], [((1, 0, 0), .live ⟨2, [[(.bor l0_0 (List.map b_sisi a0.f0)), (.val (.int .i64 a0.f1))]], []⟩), ((2, 0, 0), .live ⟨3, [[(.val (.int .i64 0)), (.own 1 []), (.val (.string (⟨#[]⟩ : ByteArray)))]], []⟩), ((4, 0, 0), .live ⟨3, [[(.val (.int .i64 0)), (.own 1 (List.map d_s (v0_49_0 ++ ([x0_49_0.f2])))), (.val (.string (⟨#[]⟩ : ByteArray)))]], []⟩)]⟩) (e := .normal) (t' := 60) (hs' := []) (q := [(decide ((List.length p_49_0 : Int) < ((List.length (List.map b_sisi a0.f0)) : Int))) = true, 0 ≤ (List.length p_49_0 : Int), (List.map b_sisi a0.f0)[(Int.toNat (List.length p_49_0 : Int))]? = some [(.val (.string x0_49_0.f0)), (.val (.int .i64 x0_49_0.f1)), (.val (.string x0_49_0.f2)), (.val (.int .i64 x0_49_0.f3))], (⟨[(1, (.ptr ⟨(1, 0, 0), [], 0, 0, 2⟩)), (2, (.ptr ⟨(2, 0, 0), [], 0, 0, 3⟩)), (4, (.ptr ⟨(4, 0, 0), [], 0, 0, 3⟩)), (5, (.one (.val (.int .i64 (List.length p_49_0 : Int))))), (6, (.one (.val (.string x0_49_0.f2)))), (7, (.one (.val (.bool (x0_49_0.f2.toList == (⟨#[]⟩ : ByteArray).toList))))), (8, (.one (.val (.int .i64 0))))], [((1, 0, 0), .live ⟨2, [[(.bor l0_0 (List.map b_sisi a0.f0)), (.val (.int .i64 a0.f1))]], []⟩), ((2, 0, 0), .live ⟨3, [[(.val (.int .i64 0)), (.own 1 []), (.val (.string (⟨#[]⟩ : ByteArray)))]], []⟩), ((4, 0, 0), .live ⟨3, [[(.val (.int .i64 0)), (.own 1 (List.map d_s v0_49_0)), (.val (.string (⟨#[]⟩ : ByteArray)))]], []⟩)]⟩ : St) = h49_1 l0_0 a0 (List.length p_49_0 : Int) x0_49_0 v0_49_0 0 (x0_49_0.f2.toList == (⟨#[]⟩ : ByteArray).toList), Ev F X (.code l49_1 (h49_1 l0_0 a0 (List.length p_49_0 : Int) x0_49_0 v0_49_0 0 (x0_49_0.f2.toList == (⟨#[]⟩ : ByteArray).toList)) (.exit 2) ⟨[(1, (.ptr ⟨(1, 0, 0), [], 0, 0, 2⟩)), (2, (.ptr ⟨(2, 0, 0), [], 0, 0, 3⟩)), (4, (.ptr ⟨(4, 0, 0), [], 0, 0, 3⟩)), (5, (.one (.val (.int .i64 (List.length p_49_0 : Int))))), (6, (.one (.val (.string x0_49_0.f2)))), (7, (.one (.val (.bool w0_49_1_2)))), (8, (.one (.val (.int .i64 w1_49_1_2)))), (34, (.one (.val (.bool w2_49_1_2))))], [((1, 0, 0), .live ⟨2, [[(.bor l0_0 (List.map b_sisi a0.f0)), (.val (.int .i64 a0.f1))]], []⟩), ((2, 0, 0), .live ⟨3, [[(.val (.int .i64 0)), (.own 1 []), (.val (.string (⟨#[]⟩ : ByteArray)))]], []⟩), ((4, 0, 0), .live ⟨3, [[(.val (.int .i64 0)), (.own 1 (List.map d_s v0_49_0)), (.val (.string (⟨#[]⟩ : ByteArray)))]], []⟩)]⟩), (!w0_49_1_2) = true, 0 + (List.length (List.map d_s v0_49_0)) ≤ (List.length (List.map d_s v0_49_0)), 1 ≤ 1, ((List.take 1 (List.drop 0 [[(.val (.string x0_49_0.f2))]])).all fun x => x.all copyable) = true, (List.length ((List.take (List.length (List.map d_s v0_49_0)) (List.drop 0 (List.map d_s v0_49_0))) ++ ([[(.val (.string x0_49_0.f2))]] : List (List D)))) * 16 ≤ 70368744177664, ∀ r ∈ ([[(.val (.string x0_49_0.f2))]] : List (List D)), r.length = 1, 0 = 0, (List.length ((List.take (List.length (List.map d_s v0_49_0)) (List.drop 0 (List.map d_s v0_49_0))) ++ ([[(.val (.string x0_49_0.f2))]] : List (List D)))) = (List.length ((List.take (List.length (List.map d_s v0_49_0)) (List.drop 0 (List.map d_s v0_49_0))) ++ ([[(.val (.string x0_49_0.f2))]] : List (List D)))), ([[(.val (.int .i64 0)), (.own 1 ((List.take (List.length (List.map d_s v0_49_0)) (List.drop 0 (List.map d_s v0_49_0))) ++ ([[(.val (.string x0_49_0.f2))]] : List (List D)))), (.val (.string (⟨#[]⟩ : ByteArray)))]] : List (List D)) = [[(.val (.int .i64 0)), (.own 1 (List.map d_s (v0_49_0 ++ ([x0_49_0.f2])))), (.val (.string (⟨#[]⟩ : ByteArray)))]], True]) (by kernel_rfl) ⟨hc, (by first | exact True.intro | with_reducible rfl | with_reducible assumption | omega | (simp only [decide_eq_true_eq] at *; omega) | (simp only [List.length_map, List.length_set, List.length_append, List.length_replicate, List.length_cons, List.length_nil]; omega) | (simp; omega) | (simp [List.take_of_length_le]; done) | assumption | trivial | (simp [*, byteRows_eq, ints_y]; done)), (by first | (rw [List.getElem?_map, Hx0_49_0]; rfl) | (rw [Nat.zero_add, List.getElem?_map, Hx0_49_0]; rfl) | exact True.intro | with_reducible rfl | with_reducible assumption | omega | (simp only [List.length_map, List.length_set, List.length_append, List.length_replicate, List.length_cons, List.length_nil]; omega) | (simp; done) | (simp; omega) | (simp [List.take_of_length_le]; done) | (simp [← List.map_take, ← List.map_drop]; done) | assumption | trivial | (simp [*, b_sisi, d_sisi, byteRows_eq, ints_y]; done)), (by first | rfl | (unfold h49_1; simp [byteRows_eq, ints_y, List.take_of_length_le, d_sisi, d_LsisiEi, d_b, d_i, d_s, d_iLsEs, d_LsisiE, d_LsE, d_y, fromBR_sisi, fromBR_b, fromBR_i, fromBR_s, fromBR_y]; done)), (by have t : Ev F X (.code l49_1 (h49_1 l0_0 a0 (List.length p_49_0 : Int) x0_49_0 v0_49_0 0 (x0_49_0.f2.toList == (⟨#[]⟩ : ByteArray).toList)) (ex49_1 (r49_1 x0_49_0 v0_49_0 v0_49_0 0 (x0_49_0.f2.toList == (⟨#[]⟩ : ByteArray).toList))) (fin49_1 l0_0 a0 (List.length p_49_0 : Int) x0_49_0 v0_49_0 (r49_1 x0_49_0 v0_49_0 v0_49_0 0 (x0_49_0.f2.toList == (⟨#[]⟩ : ByteArray).toList)))) := t49_1 (l0_0 := l0_0) (a0 := a0) (c0_49_1 := (List.length p_49_0 : Int)) (c1_49_1 := x0_49_0) (c2_49_1 := v0_49_0) (by first | assumption | omega) v0_49_0 [] (x0_49_0.f2.toList == (⟨#[]⟩ : ByteArray).toList) rfl; rw [h_49_0_1] at t; exact t), h_49_0_2, (by omega), (by omega), (by first | with_reducible assumption | (simp; done) | (simp [List.take_of_length_le]; done) | (simp [← List.map_take, ← List.map_drop]; done) | assumption | trivial | (simp [*, byteRows_eq, ints_y]; done)), (by first | with_reducible assumption | omega | assumption | (simp only [List.length_map, List.length_append, List.length_cons, List.length_nil, List.length_take, List.length_drop]; omega) | (simp; omega) | (simp only [List.drop_zero, tbr, tsi, ly_y, ly0_y, ← List.map_append, List.take_length, List.cons_append, List.nil_append, List.append_assoc]; simp only [List.length_map, List.length_append, List.length_cons, List.length_nil, strInts_len]; omega)), (by first | exact True.intro | with_reducible rfl | with_reducible assumption | omega | (simp only [List.length_map, List.length_set, List.length_append, List.length_replicate, List.length_cons, List.length_nil]; omega) | (simp; done) | (simp; omega) | (simp [List.take_of_length_le]; done) | (simp [← List.map_take, ← List.map_drop]; done) | assumption | trivial | (simp [*, byteRows_eq, ints_y]; done)), rfl, rfl, (by first | rfl | (simp [byteRows_eq, ints_y, List.take_of_length_le, d_sisi, d_LsisiEi, d_b, d_i, d_s, d_iLsEs, d_LsisiE, d_LsE, d_y, fromBR_sisi, fromBR_b, fromBR_i, fromBR_s, fromBR_y]; done) | (simp [List.map_set, List.map_take, List.map_drop, byteRows_eq, ints_y, List.take_of_length_le, d_sisi, d_LsisiEi, d_b, d_i, d_s, d_iLsEs, d_LsisiE, d_LsE, d_y, fromBR_sisi, fromBR_b, fromBR_i, fromBR_s, fromBR_y]; done)), trivial, trivial⟩
        have ih := t49_0 (l0_0 := l0_0) (a0 := a0) hy0 hy1 l0_49_0 (p_49_0 ++ [x0_49_0]) (v0_49_0 ++ ([x0_49_0.f2])) (by rw [List.append_assoc]; exact hp0) (by first | omega | (simp only [List.length_map, List.length_set, List.length_append, List.length_replicate, List.length_cons, List.length_nil]; omega) | (simp only [List.length_map, List.length_set, List.length_append, List.length_replicate, List.length_cons, List.length_nil]; assumption) | assumption | (simp only [List.length_map, List.length_set, List.length_append, List.length_replicate, List.length_cons, List.length_nil] at *; omega))
        rw [show ((p_49_0 ++ [x0_49_0]).length : Int) = (p_49_0.length : Int) + 1 from by simp] at ih
        rw [show (⟨[(1, (.ptr ⟨(1, 0, 0), [], 0, 0, 2⟩)), (2, (.ptr ⟨(2, 0, 0), [], 0, 0, 3⟩)), (4, (.ptr ⟨(4, 0, 0), [], 0, 0, 3⟩)), (5, (.one (.val (.int .i64 (IntKind.wrap .i64 ((List.length p_49_0 : Int) + 1))))))], [((1, 0, 0), .live ⟨2, [[(.bor l0_0 (List.map b_sisi a0.f0)), (.val (.int .i64 a0.f1))]], []⟩), ((2, 0, 0), .live ⟨3, [[(.val (.int .i64 0)), (.own 1 []), (.val (.string (⟨#[]⟩ : ByteArray)))]], []⟩), ((4, 0, 0), .live ⟨3, [[(.val (.int .i64 0)), (.own 1 (List.map d_s (v0_49_0 ++ ([x0_49_0.f2])))), (.val (.string (⟨#[]⟩ : ByteArray)))]], []⟩)]⟩ : St) = h49_0 l0_0 a0 ((List.length p_49_0 : Int) + 1) (v0_49_0 ++ ([x0_49_0.f2])) from by first | (unfold h49_0; simp only [hw]; done) | (unfold h49_0; simp only [hw, List.length_map, List.length_set, List.length_append, List.length_replicate, List.length_cons, List.length_nil]; done) | (unfold h49_0; simp [hw, byteRows_eq, ints_y, List.take_of_length_le, d_sisi, d_LsisiEi, d_b, d_i, d_s, d_iLsEs, d_LsisiE, d_LsE, d_y, fromBR_sisi, fromBR_b, fromBR_i, fromBR_s, fromBR_y]; done)] at st
        exact .loopN st ih
      · try simp only [if_neg h_49_0_2]
        have st := codeH_ok (F := F) (X := X) (c := b49_0) (t := 0) (hs := [(10, .b true), (18, .row [(.val (.string x0_49_0.f0)), (.val (.int .i64 x0_49_0.f1)), (.val (.string x0_49_0.f2)), (.val (.int .i64 x0_49_0.f3))]), (33, .loop (h49_1 l0_0 a0 (List.length p_49_0 : Int) x0_49_0 v0_49_0 0 (x0_49_0.f2.toList == (⟨#[]⟩ : ByteArray).toList)) (.exit 2) ⟨[(1, (.ptr ⟨(1, 0, 0), [], 0, 0, 2⟩)), (2, (.ptr ⟨(2, 0, 0), [], 0, 0, 3⟩)), (4, (.ptr ⟨(4, 0, 0), [], 0, 0, 3⟩)), (5, (.one (.val (.int .i64 (List.length p_49_0 : Int))))), (6, (.one (.val (.string x0_49_0.f2)))), (7, (.one (.val (.bool w0_49_1_2)))), (8, (.one (.val (.int .i64 w1_49_1_2)))), (34, (.one (.val (.bool w2_49_1_2))))], [((1, 0, 0), .live ⟨2, [[(.bor l0_0 (List.map b_sisi a0.f0)), (.val (.int .i64 a0.f1))]], []⟩), ((2, 0, 0), .live ⟨3, [[(.val (.int .i64 0)), (.own 1 []), (.val (.string (⟨#[]⟩ : ByteArray)))]], []⟩), ((4, 0, 0), .live ⟨3, [[(.val (.int .i64 0)), (.own 1 (List.map d_s v0_49_0)), (.val (.string (⟨#[]⟩ : ByteArray)))]], []⟩)]⟩), (38, .b false)]) (σ := h49_0 l0_0 a0 (List.length p_49_0 : Int) v0_49_0) (σ' := ⟨[(1, (.ptr ⟨(1, 0, 0), [], 0, 0, 2⟩)), (2, (.ptr ⟨(2, 0, 0), [], 0, 0, 3⟩)), (4, (.ptr ⟨(4, 0, 0), [], 0, 0, 3⟩)), (5, (.one (.val (.int .i64 (IntKind.wrap .i64 ((List.length p_49_0 : Int) + 1))))))], [((1, 0, 0), .live ⟨2, [[(.bor l0_0 (List.map b_sisi a0.f0)), (.val (.int .i64 a0.f1))]], []⟩), ((2, 0, 0), .live ⟨3, [[(.val (.int .i64 0)), (.own 1 []), (.val (.string (⟨#[]⟩ : ByteArray)))]], []⟩), ((4, 0, 0), .live ⟨3, [[(.val (.int .i64 0)), (.own 1 (List.map d_s v0_49_0)), (.val (.string (⟨#[]⟩ : ByteArray)))]], []⟩)]⟩) (e := .normal) (t' := 45) (hs' := []) (q := [(decide ((List.length p_49_0 : Int) < ((List.length (List.map b_sisi a0.f0)) : Int))) = true, 0 ≤ (List.length p_49_0 : Int), (List.map b_sisi a0.f0)[(Int.toNat (List.length p_49_0 : Int))]? = some [(.val (.string x0_49_0.f0)), (.val (.int .i64 x0_49_0.f1)), (.val (.string x0_49_0.f2)), (.val (.int .i64 x0_49_0.f3))], (⟨[(1, (.ptr ⟨(1, 0, 0), [], 0, 0, 2⟩)), (2, (.ptr ⟨(2, 0, 0), [], 0, 0, 3⟩)), (4, (.ptr ⟨(4, 0, 0), [], 0, 0, 3⟩)), (5, (.one (.val (.int .i64 (List.length p_49_0 : Int))))), (6, (.one (.val (.string x0_49_0.f2)))), (7, (.one (.val (.bool (x0_49_0.f2.toList == (⟨#[]⟩ : ByteArray).toList))))), (8, (.one (.val (.int .i64 0))))], [((1, 0, 0), .live ⟨2, [[(.bor l0_0 (List.map b_sisi a0.f0)), (.val (.int .i64 a0.f1))]], []⟩), ((2, 0, 0), .live ⟨3, [[(.val (.int .i64 0)), (.own 1 []), (.val (.string (⟨#[]⟩ : ByteArray)))]], []⟩), ((4, 0, 0), .live ⟨3, [[(.val (.int .i64 0)), (.own 1 (List.map d_s v0_49_0)), (.val (.string (⟨#[]⟩ : ByteArray)))]], []⟩)]⟩ : St) = h49_1 l0_0 a0 (List.length p_49_0 : Int) x0_49_0 v0_49_0 0 (x0_49_0.f2.toList == (⟨#[]⟩ : ByteArray).toList), Ev F X (.code l49_1 (h49_1 l0_0 a0 (List.length p_49_0 : Int) x0_49_0 v0_49_0 0 (x0_49_0.f2.toList == (⟨#[]⟩ : ByteArray).toList)) (.exit 2) ⟨[(1, (.ptr ⟨(1, 0, 0), [], 0, 0, 2⟩)), (2, (.ptr ⟨(2, 0, 0), [], 0, 0, 3⟩)), (4, (.ptr ⟨(4, 0, 0), [], 0, 0, 3⟩)), (5, (.one (.val (.int .i64 (List.length p_49_0 : Int))))), (6, (.one (.val (.string x0_49_0.f2)))), (7, (.one (.val (.bool w0_49_1_2)))), (8, (.one (.val (.int .i64 w1_49_1_2)))), (34, (.one (.val (.bool w2_49_1_2))))], [((1, 0, 0), .live ⟨2, [[(.bor l0_0 (List.map b_sisi a0.f0)), (.val (.int .i64 a0.f1))]], []⟩), ((2, 0, 0), .live ⟨3, [[(.val (.int .i64 0)), (.own 1 []), (.val (.string (⟨#[]⟩ : ByteArray)))]], []⟩), ((4, 0, 0), .live ⟨3, [[(.val (.int .i64 0)), (.own 1 (List.map d_s v0_49_0)), (.val (.string (⟨#[]⟩ : ByteArray)))]], []⟩)]⟩), (!w0_49_1_2) = false, True]) (by kernel_rfl) ⟨hc, (by first | exact True.intro | with_reducible rfl | with_reducible assumption | omega | (simp only [decide_eq_true_eq] at *; omega) | (simp only [List.length_map, List.length_set, List.length_append, List.length_replicate, List.length_cons, List.length_nil]; omega) | (simp; omega) | (simp [List.take_of_length_le]; done) | assumption | trivial | (simp [*, byteRows_eq, ints_y]; done)), (by first | (rw [List.getElem?_map, Hx0_49_0]; rfl) | (rw [Nat.zero_add, List.getElem?_map, Hx0_49_0]; rfl) | exact True.intro | with_reducible rfl | with_reducible assumption | omega | (simp only [List.length_map, List.length_set, List.length_append, List.length_replicate, List.length_cons, List.length_nil]; omega) | (simp; done) | (simp; omega) | (simp [List.take_of_length_le]; done) | (simp [← List.map_take, ← List.map_drop]; done) | assumption | trivial | (simp [*, b_sisi, d_sisi, byteRows_eq, ints_y]; done)), (by first | rfl | (unfold h49_1; simp [byteRows_eq, ints_y, List.take_of_length_le, d_sisi, d_LsisiEi, d_b, d_i, d_s, d_iLsEs, d_LsisiE, d_LsE, d_y, fromBR_sisi, fromBR_b, fromBR_i, fromBR_s, fromBR_y]; done)), (by have t : Ev F X (.code l49_1 (h49_1 l0_0 a0 (List.length p_49_0 : Int) x0_49_0 v0_49_0 0 (x0_49_0.f2.toList == (⟨#[]⟩ : ByteArray).toList)) (ex49_1 (r49_1 x0_49_0 v0_49_0 v0_49_0 0 (x0_49_0.f2.toList == (⟨#[]⟩ : ByteArray).toList))) (fin49_1 l0_0 a0 (List.length p_49_0 : Int) x0_49_0 v0_49_0 (r49_1 x0_49_0 v0_49_0 v0_49_0 0 (x0_49_0.f2.toList == (⟨#[]⟩ : ByteArray).toList)))) := t49_1 (l0_0 := l0_0) (a0 := a0) (c0_49_1 := (List.length p_49_0 : Int)) (c1_49_1 := x0_49_0) (c2_49_1 := v0_49_0) (by first | assumption | omega) v0_49_0 [] (x0_49_0.f2.toList == (⟨#[]⟩ : ByteArray).toList) rfl; rw [h_49_0_1] at t; exact t), (nt h_49_0_2), trivial, trivial⟩
        have ih := t49_0 (l0_0 := l0_0) (a0 := a0) hy0 hy1 l0_49_0 (p_49_0 ++ [x0_49_0]) v0_49_0 (by rw [List.append_assoc]; exact hp0) (by first | omega | (simp only [List.length_map, List.length_set, List.length_append, List.length_replicate, List.length_cons, List.length_nil]; omega) | (simp only [List.length_map, List.length_set, List.length_append, List.length_replicate, List.length_cons, List.length_nil]; assumption) | assumption | (simp only [List.length_map, List.length_set, List.length_append, List.length_replicate, List.length_cons, List.length_nil] at *; omega))
        rw [show ((p_49_0 ++ [x0_49_0]).length : Int) = (p_49_0.length : Int) + 1 from by simp] at ih
        rw [show (⟨[(1, (.ptr ⟨(1, 0, 0), [], 0, 0, 2⟩)), (2, (.ptr ⟨(2, 0, 0), [], 0, 0, 3⟩)), (4, (.ptr ⟨(4, 0, 0), [], 0, 0, 3⟩)), (5, (.one (.val (.int .i64 (IntKind.wrap .i64 ((List.length p_49_0 : Int) + 1))))))], [((1, 0, 0), .live ⟨2, [[(.bor l0_0 (List.map b_sisi a0.f0)), (.val (.int .i64 a0.f1))]], []⟩), ((2, 0, 0), .live ⟨3, [[(.val (.int .i64 0)), (.own 1 []), (.val (.string (⟨#[]⟩ : ByteArray)))]], []⟩), ((4, 0, 0), .live ⟨3, [[(.val (.int .i64 0)), (.own 1 (List.map d_s v0_49_0)), (.val (.string (⟨#[]⟩ : ByteArray)))]], []⟩)]⟩ : St) = h49_0 l0_0 a0 ((List.length p_49_0 : Int) + 1) v0_49_0 from by first | (unfold h49_0; simp only [hw]; done) | (unfold h49_0; simp only [hw, List.length_map, List.length_set, List.length_append, List.length_replicate, List.length_cons, List.length_nil]; done) | (unfold h49_0; simp [hw, byteRows_eq, ints_y, List.take_of_length_le, d_sisi, d_LsisiEi, d_b, d_i, d_s, d_iLsEs, d_LsisiE, d_LsE, d_y, fromBR_sisi, fromBR_b, fromBR_i, fromBR_s, fromBR_y]; done)] at st
        exact .loopN st ih
theorem wl49 (a : K_LsisiEi) : ∀ (l : List K_sisi) (i : Int) (v : List ByteArray), ∃ w j b, r49_0 a l i v = .k0 w j b ∧ w.length ≤ v.length + l.length
  | [], i, v => ⟨_, _, _, rfl, by simp⟩
  | x :: l, i, v => by
    obtain ⟨w, j, b, h, h2⟩ := wl49 a l (i + 1) (v ++ [x.f2])
    obtain ⟨w', j', b', h', h2'⟩ := wl49 a l (i + 1) v
    simp only [List.length_append, List.length_cons, List.length_nil] at h2
    simp only [r49_0]
    (repeat' split) <;> first | exact ⟨w, j, b, h, by simp only [List.length_cons]; omega⟩ | exact ⟨w', j', b', h', by simp only [List.length_cons]; omega⟩
/-! loop.example/g00539/spec.WorkersOf -/
def m49 (a0 : K_LsisiEi) : K_iLsEs :=
  if ((m90 a0) != 0) = true then (K_iLsEs.mk (m90 a0) [] (⟨#[]⟩ : ByteArray)) else
  (match r49_0 a0 a0.f0 0 [] with | .k0 w0_49_0_2 w1_49_0_2 w2_49_0_2 => (K_iLsEs.mk 0 w0_49_0_2 (⟨#[]⟩ : ByteArray)))
theorem e49 {l0_0 : Nat} {a0 : K_LsisiEi} (hy0 : List.length a0.f0 * 48 ≤ 140737488351232) (hy1 : ∀ z ∈ a0.f0, os_sisi z) : Ev F X (.call 49 [(.agg [(.bor l0_0 (List.map b_sisi a0.f0)), (.val (.int .i64 a0.f1))])] [] [] [(.agg [(.val (.int .i64 ((m49 a0).f0))), (.own 1 (List.map d_s ((m49 a0).f1))), (.val (.string ((m49 a0).f2)))])]) := by
  unfold m49
  have f0 : fullL [(.bor l0_0 (List.map b_sisi a0.f0)), (.val (.int .i64 a0.f1))] = true := (by first | exact True.intro | with_reducible rfl | with_reducible assumption | omega | (simp only [List.length_map, List.length_set, List.length_append, List.length_replicate, List.length_cons, List.length_nil]; omega) | (simp; done) | (simp; omega) | (simp [List.take_of_length_le]; done) | (simp [← List.map_take, ← List.map_drop]; done) | assumption | trivial | (simp [*, b_sisi, d_sisi, byteRows_eq, ints_y]; done))
  have f1 : Ev F X (.call 90 [(.bptr 0 [(.sl (List.map b_sisi a0.f0)), (.val (.int .i64 a0.f1))])] [] [] [(.one (.val (.int .i64 (m90 a0))))]) := (e90 (a0 := a0) (by first | with_reducible assumption | omega | assumption | (simp only [List.length_map]; omega) | (simp; omega)) (by first | exact True.intro | with_reducible rfl | with_reducible assumption | omega | (simp only [List.length_map, List.length_set, List.length_append, List.length_replicate, List.length_cons, List.length_nil]; omega) | (simp; done) | (simp; omega) | (simp [List.take_of_length_le]; done) | (simp [← List.map_take, ← List.map_drop]; done) | assumption | trivial | (simp [*, byteRows_eq, ints_y]; done)))
  by_cases h0 : ((m90 a0) != 0) = true
  · try simp only [if_pos h0]
    have f3 : pureR [] = true := (by first | with_reducible assumption | (simp; done) | (simp [List.take_of_length_le]; done) | (simp [← List.map_take, ← List.map_drop]; done) | assumption | trivial | (simp [*, byteRows_eq, ints_y]; done))
    exact callP_ok (ps := []) (os := []) (rs := [(.agg [(.val (.int .i64 (m90 a0))), (.own 1 []), (.val (.string (⟨#[]⟩ : ByteArray)))])]) (by kernel_rfl) (.f f0 (.r 5 [] [] f1 (.f h0 (.f f3 (.h 12 (.b true) .nil)))))
  · try simp only [if_neg h0]
    cases h1 : r49_0 a0 a0.f0 0 [] with
    | k0 w0_49_0_2 w1_49_0_2 w2_49_0_2 =>
      try dsimp only
      have f3 : (⟨[(1, (.ptr ⟨(1, 0, 0), [], 0, 0, 2⟩)), (2, (.ptr ⟨(2, 0, 0), [], 0, 0, 3⟩)), (4, (.ptr ⟨(4, 0, 0), [], 0, 0, 3⟩)), (5, (.one (.val (.int .i64 0))))], [((1, 0, 0), .live ⟨2, [[(.bor l0_0 (List.map b_sisi a0.f0)), (.val (.int .i64 a0.f1))]], []⟩), ((2, 0, 0), .live ⟨3, [[(.val (.int .i64 0)), (.own 1 []), (.val (.string (⟨#[]⟩ : ByteArray)))]], []⟩), ((4, 0, 0), .live ⟨3, [[(.val (.int .i64 0)), (.own 1 []), (.val (.string (⟨#[]⟩ : ByteArray)))]], []⟩)]⟩ : St) = h49_0 l0_0 a0 0 [] := (by first | rfl | (unfold h49_0; simp [byteRows_eq, ints_y, List.take_of_length_le, d_sisi, d_LsisiEi, d_b, d_i, d_s, d_iLsEs, d_LsisiE, d_LsE, d_y, fromBR_sisi, fromBR_b, fromBR_i, fromBR_s, fromBR_y]; done))
      have f4 : Ev F X (.code l49_0 (h49_0 l0_0 a0 0 []) (.exit 0) ⟨[(1, (.ptr ⟨(1, 0, 0), [], 0, 0, 2⟩)), (2, (.ptr ⟨(2, 0, 0), [], 0, 0, 3⟩)), (4, (.ptr ⟨(4, 0, 0), [], 0, 0, 3⟩)), (5, (.one (.val (.int .i64 w1_49_0_2)))), (19, (.one (.val (.bool w2_49_0_2))))], [((1, 0, 0), .live ⟨2, [[(.bor l0_0 (List.map b_sisi a0.f0)), (.val (.int .i64 a0.f1))]], []⟩), ((2, 0, 0), .live ⟨3, [[(.val (.int .i64 0)), (.own 1 []), (.val (.string (⟨#[]⟩ : ByteArray)))]], []⟩), ((4, 0, 0), .live ⟨3, [[(.val (.int .i64 0)), (.own 1 (List.map d_s w0_49_0_2)), (.val (.string (⟨#[]⟩ : ByteArray)))]], []⟩)]⟩) := (by have t : Ev F X (.code l49_0 (h49_0 l0_0 a0 0 []) (ex49_0 (r49_0 a0 a0.f0 0 [])) (fin49_0 l0_0 a0 (r49_0 a0 a0.f0 0 []))) := t49_0 (l0_0 := l0_0) (a0 := a0) (by first | assumption | omega) (by first | assumption | omega) a0.f0 [] [] rfl (by first | rfl | omega | (simp only [List.length_map, List.length_set, List.length_append, List.length_replicate, List.length_cons, List.length_nil]; done) | (simp only [List.length_map, List.length_set, List.length_append, List.length_replicate, List.length_cons, List.length_nil]; omega) | (simp; done)); rw [h1] at t; exact t)
      have f5 : 0 = 0 := rfl
      have f6 : (List.length (List.map d_s w0_49_0_2)) = (List.length (List.map d_s w0_49_0_2)) := rfl
      have f7 : pureR (List.map d_s w0_49_0_2) = true := (pureR_s _)
      exact callP_ok (ps := []) (os := []) (rs := [(.agg [(.val (.int .i64 0)), (.own 1 (List.map d_s w0_49_0_2)), (.val (.string (⟨#[]⟩ : ByteArray)))])]) (by kernel_rfl) (.f f0 (.r 5 [] [] f1 (.f (nt h0) (.f f3 (.f f4 (.f f5 (.f f6 (.f f7 (.h 12 (.b false) (.h 21 (.loop (h49_0 l0_0 a0 0 []) (.exit 0) ⟨[(1, (.ptr ⟨(1, 0, 0), [], 0, 0, 2⟩)), (2, (.ptr ⟨(2, 0, 0), [], 0, 0, 3⟩)), (4, (.ptr ⟨(4, 0, 0), [], 0, 0, 3⟩)), (5, (.one (.val (.int .i64 w1_49_0_2)))), (19, (.one (.val (.bool w2_49_0_2))))], [((1, 0, 0), .live ⟨2, [[(.bor l0_0 (List.map b_sisi a0.f0)), (.val (.int .i64 a0.f1))]], []⟩), ((2, 0, 0), .live ⟨3, [[(.val (.int .i64 0)), (.own 1 []), (.val (.string (⟨#[]⟩ : ByteArray)))]], []⟩), ((4, 0, 0), .live ⟨3, [[(.val (.int .i64 0)), (.own 1 (List.map d_s w0_49_0_2)), (.val (.string (⟨#[]⟩ : ByteArray)))]], []⟩)]⟩) .nil))))))))))
theorem okm49 (a0 : K_LsisiEi) (hz : List.length a0.f0 * 48 ≤ 140737488351232) : ok_iLsEs (m49 a0) := by
  unfold m49
  split
  · simp [ok_LsisiEi, ok_iLsEs, ok_LsisiE, ok_LsE]
  · obtain ⟨w, j, b, h, h2⟩ := wl49 a0 a0.f0 0 []
    rw [h]
    simp only [List.length_nil] at h2
    simp only [ok_LsisiEi, ok_iLsEs, ok_LsisiE, ok_LsE]; omega
/-! loop.example/g00539/impl.in -/
def m93 (a0 : Int) (a1 : Int) (a2 : Int) : Bool :=
  if (decide (a0 ≥ a1)) = true then (decide (a0 ≤ a2)) else
  false
theorem e93 {a0 : Int} {a1 : Int} {a2 : Int} : Ev F X (.call 93 [(.one (.val (.int .i64 a0))), (.one (.val (.int .i64 a1))), (.one (.val (.int .i64 a2)))] [] [] [(.one (.val (.bool (m93 a0 a1 a2))))]) := by
  unfold m93
  by_cases h0 : (decide (a0 ≥ a1)) = true
  · try simp only [if_pos h0]
    exact callP_ok (ps := []) (os := []) (rs := [(.one (.val (.bool (decide (a0 ≤ a2)))))]) (by kernel_rfl) (.f h0 (.f h0 (.f h0 (.f h0 (.h 10 (.b true) (.h 12 (.b true) (.h 14 (.b true) (.h 17 (.b true) .nil))))))))
  · try simp only [if_neg h0]
    exact callP_ok (ps := []) (os := []) (rs := [(.one (.val (.bool false)))]) (by kernel_rfl) (.f (nt h0) (.f (nt h0) (.f (nt h0) (.f (nt h0) (.h 10 (.b false) (.h 12 (.b false) (.h 14 (.b false) (.h 17 (.b false) .nil))))))))
/-! strings.IndexByte -/
theorem e138 {a0 : ByteArray} {a1 : Int} : Ev F X (.call 138 [(.one (.val (.string a0))), (.one (.val (.int .u8 a1)))] [] [] [(.one (.val (.int .i64 (idxB a0 a1))))]) :=
  .ext (.inl (⟨rfl, (⟨a0, a1, rfl, rfl⟩)⟩))
/-! strings.Trim -/
theorem e156 {a0 a1 : ByteArray} (hy0 : ByteArray.size a0 ≤ 9223372036854775807) (hy1 : ByteArray.size a1 < 4294967281) (hy2 : asciiB a1 = true) : Ev F X (.call 156 [(.one (.val (.string a0))), (.one (.val (.string a1)))] [] [] [(.one (.val (.string (trimB a0 a1))))]) :=
  .ext (.inr (⟨rfl, (⟨a0, a1, hy0, hy1, hy2, rfl, rfl⟩)⟩))
/-! loop.example/g00539/impl.argOk -/
def m149 (a0 : ByteArray) : Bool :=
  if (decide ((ByteArray.size a0 : Int) ≤ 12)) = true then ((trimB a0 (⟨#[97, 98, 99, 100, 101, 102, 103, 104, 105, 106, 107, 108, 109, 110, 111, 112, 113, 114, 115, 116, 117, 118, 119, 120, 121, 122, 65, 66, 67, 68, 69, 70, 71, 72, 73, 74, 75, 76, 77, 78, 79, 80, 81, 82, 83, 84, 85, 86, 87, 88, 89, 90, 48, 49, 50, 51, 52, 53, 54, 55, 56, 57]⟩ : ByteArray)).toList == (⟨#[]⟩ : ByteArray).toList) else
  false
theorem e149 {a0 : ByteArray} : Ev F X (.call 149 [(.one (.val (.string a0)))] [] [] [(.one (.val (.bool (m149 a0))))]) := by
  unfold m149
  by_cases h0 : (decide ((ByteArray.size a0 : Int) ≤ 12)) = true
  · try simp only [if_pos h0]
    have f2 : Ev F X (.call 156 [(.one (.val (.string a0))), (.one (.val (.string (⟨#[97, 98, 99, 100, 101, 102, 103, 104, 105, 106, 107, 108, 109, 110, 111, 112, 113, 114, 115, 116, 117, 118, 119, 120, 121, 122, 65, 66, 67, 68, 69, 70, 71, 72, 73, 74, 75, 76, 77, 78, 79, 80, 81, 82, 83, 84, 85, 86, 87, 88, 89, 90, 48, 49, 50, 51, 52, 53, 54, 55, 56, 57]⟩ : ByteArray))))] [] [] [(.one (.val (.string (trimB a0 (⟨#[97, 98, 99, 100, 101, 102, 103, 104, 105, 106, 107, 108, 109, 110, 111, 112, 113, 114, 115, 116, 117, 118, 119, 120, 121, 122, 65, 66, 67, 68, 69, 70, 71, 72, 73, 74, 75, 76, 77, 78, 79, 80, 81, 82, 83, 84, 85, 86, 87, 88, 89, 90, 48, 49, 50, 51, 52, 53, 54, 55, 56, 57]⟩ : ByteArray)))))]) := (e156 (a0 := a0) (a1 := (⟨#[97, 98, 99, 100, 101, 102, 103, 104, 105, 106, 107, 108, 109, 110, 111, 112, 113, 114, 115, 116, 117, 118, 119, 120, 121, 122, 65, 66, 67, 68, 69, 70, 71, 72, 73, 74, 75, 76, 77, 78, 79, 80, 81, 82, 83, 84, 85, 86, 87, 88, 89, 90, 48, 49, 50, 51, 52, 53, 54, 55, 56, 57]⟩ : ByteArray)) (by first | exact True.intro | with_reducible rfl | with_reducible assumption | omega | (simp only [decide_eq_true_eq] at *; omega) | (simp only [List.length_map, List.length_set, List.length_append, List.length_replicate, List.length_cons, List.length_nil]; omega) | (simp; omega) | (simp [List.take_of_length_le]; done) | assumption | trivial | (simp [*, byteRows_eq, ints_y]; done)) (by decide) (by decide))
    exact callP_ok (ps := []) (os := []) (rs := [(.one (.val (.bool ((trimB a0 (⟨#[97, 98, 99, 100, 101, 102, 103, 104, 105, 106, 107, 108, 109, 110, 111, 112, 113, 114, 115, 116, 117, 118, 119, 120, 121, 122, 65, 66, 67, 68, 69, 70, 71, 72, 73, 74, 75, 76, 77, 78, 79, 80, 81, 82, 83, 84, 85, 86, 87, 88, 89, 90, 48, 49, 50, 51, 52, 53, 54, 55, 56, 57]⟩ : ByteArray)).toList == (⟨#[]⟩ : ByteArray).toList))))]) (by kernel_rfl) (.f h0 (.f h0 (.h 10 (.b true) (.h 12 (.b true) (.r 13 [] [] f2 (.f h0 (.f h0 (.h 14 (.b true) (.h 17 (.b true) .nil)))))))))
  · try simp only [if_neg h0]
    exact callP_ok (ps := []) (os := []) (rs := [(.one (.val (.bool false)))]) (by kernel_rfl) (.f (nt h0) (.f (nt h0) (.f (nt h0) (.f (nt h0) (.h 10 (.b false) (.h 12 (.b false) (.h 14 (.b false) (.h 17 (.b false) .nil))))))))
/-! loop.example/g00539/impl.badArg -/
def m139 (a0 : ByteArray) : Bool :=
  (!(m149 a0))
theorem e139 {a0 : ByteArray} : Ev F X (.call 139 [(.one (.val (.string a0)))] [] [] [(.one (.val (.bool (!(m149 a0)))))]) := by
  have f0 : Ev F X (.call 149 [(.one (.val (.string a0)))] [] [] [(.one (.val (.bool (m149 a0))))]) := (e149 (a0 := a0))
  exact callP_ok (ps := []) (os := []) (rs := [(.one (.val (.bool (!(m149 a0)))))]) (by kernel_rfl) (.r 5 [] [] f0 .nil)
/-! loop.example/g00539/impl.isLevel -/
def m140 (a0 : Int) : Bool :=
  (m93 a0 1 9999)
theorem e140 {a0 : Int} : Ev F X (.call 140 [(.one (.val (.int .i64 a0)))] [] [] [(.one (.val (.bool (m93 a0 1 9999))))]) := by
  have f0 : Ev F X (.call 93 [(.one (.val (.int .i64 a0))), (.one (.val (.int .i64 1))), (.one (.val (.int .i64 9999)))] [] [] [(.one (.val (.bool (m93 a0 1 9999))))]) := (e93 (a0 := a0) (a1 := 1) (a2 := 9999))
  exact callP_ok (ps := []) (os := []) (rs := [(.one (.val (.bool (m93 a0 1 9999))))]) (by kernel_rfl) (.r 5 [] [] f0 .nil)
/-! loop.example/g00539/impl.sessionFault$1 -/
def m1014100 (a0 : K_sisi) (a101001 : ByteArray) (a101002 : Int) (a101003 : ByteArray) (a101004 : Int) : Bool :=
  (a101002 == a0.f1)
theorem e1014100 {a0 : K_sisi} {l101000 : Nat} {a101001 : ByteArray} {a101002 : Int} {a101003 : ByteArray} {a101004 : Int} : Ev F X (.call 141 [(.agg [(.val (.string a0.f0)), (.val (.int .i64 a0.f1)), (.val (.string a0.f2)), (.val (.int .i64 a0.f3))]), (.bptr l101000 [(.val (.string a101001)), (.val (.int .i64 a101002)), (.val (.string a101003)), (.val (.int .i64 a101004))])] [] [] [(.one (.val (.bool (a101002 == a0.f1))))]) := by
  exact callP_ok (ps := []) (os := []) (rs := [(.one (.val (.bool (a101002 == a0.f1))))]) (by kernel_rfl) .nil
/-! loop 1014200_0 -/
inductive O1014200_0 where
  | k0 (w0 : Int) (w1 : Bool)
  | k1 (w0 : Int)
def r1014200_0 (a0 : (List K_sisi)) (a2002 : Int) : List K_sisi → Int → O1014200_0
  | x0_1014200_0 :: l0_1014200_0, i_1014200_0 =>
    if (a2002 == x0_1014200_0.f1) = true then (O1014200_0.k1 i_1014200_0) else
    (r1014200_0 a0 a2002 l0_1014200_0 (i_1014200_0 + 1) )
  | [], i_1014200_0 => (O1014200_0.k0 i_1014200_0 (decide (i_1014200_0 < ((List.length (List.map b_sisi a0)) : Int))))
def h1014200_0 (l0_0 : Nat) (l2000 : Nat) (a0 : (List K_sisi)) (a2001 : ByteArray) (a2002 : Int) (a2003 : ByteArray) (a2004 : Int) (i_1014200_0 : Int)  : St := ⟨[(0, (.one (.bor l0_0 (List.map b_sisi a0)))), (1, (.clo 141 [] [(.bptr l2000 [(.val (.string a2001)), (.val (.int .i64 a2002)), (.val (.string a2003)), (.val (.int .i64 a2004))])])), (7, (.one (.val (.int .i64 ((List.length (List.map b_sisi a0)) : Int))))), (8, (.one (.val (.int .i64 i_1014200_0))))], []⟩
def ex1014200_0 : O1014200_0 → VX.Exit
  | .k0 _ _ => (.exit 0)
  | .k1 _ => .ret
def fin1014200_0 (l0_0 : Nat) (l2000 : Nat) (a0 : (List K_sisi)) (a2001 : ByteArray) (a2002 : Int) (a2003 : ByteArray) (a2004 : Int) : O1014200_0 → St
  | .k0 w0 w1 => ⟨[(0, (.one (.bor l0_0 (List.map b_sisi a0)))), (1, (.clo 141 [] [(.bptr l2000 [(.val (.string a2001)), (.val (.int .i64 a2002)), (.val (.string a2003)), (.val (.int .i64 a2004))])])), (7, (.one (.val (.int .i64 ((List.length (List.map b_sisi a0)) : Int))))), (8, (.one (.val (.int .i64 w0)))), (9, (.one (.val (.bool w1))))], []⟩
  | .k1 w0 => ⟨[(4, (.one (.val (.int .i64 w0))))], []⟩
theorem t1014200_0 {l0_0 : Nat} {l2000 : Nat} {a0 : (List K_sisi)} {a2001 : ByteArray} {a2002 : Int} {a2003 : ByteArray} {a2004 : Int} (hy0 : List.length a0 * 48 ≤ 140737488351232) : ∀ (l0_1014200_0 : List K_sisi) (p_1014200_0 : List K_sisi) , p_1014200_0 ++ l0_1014200_0 = a0 → Ev F X (.code l142_0 (h1014200_0 l0_0 l2000 a0 a2001 a2002 a2003 a2004 (List.length p_1014200_0 : Int) ) (ex1014200_0 (r1014200_0 a0 a2002 l0_1014200_0 (List.length p_1014200_0 : Int) )) (fin1014200_0 l0_0 l2000 a0 a2001 a2002 a2003 a2004 (r1014200_0 a0 a2002 l0_1014200_0 (List.length p_1014200_0 : Int) )))
  | [], p_1014200_0, hp0 => by
    have hc : ¬ (decide ((List.length p_1014200_0 : Int) < ((List.length (List.map b_sisi a0)) : Int))) = true := by
      rw [← hp0]; simp only [List.length_map, List.length_set, List.length_append, List.length_replicate, List.length_cons, List.length_nil, decide_eq_true_eq]; omega
    have st := codeH_ok (F := F) (X := X) (c := b142_0) (t := 0) (hs := [(2, .b false)]) (σ := h1014200_0 l0_0 l2000 a0 a2001 a2002 a2003 a2004 (List.length p_1014200_0 : Int) ) (σ' := ⟨[(0, (.one (.bor l0_0 (List.map b_sisi a0)))), (1, (.clo 141 [] [(.bptr l2000 [(.val (.string a2001)), (.val (.int .i64 a2002)), (.val (.string a2003)), (.val (.int .i64 a2004))])])), (7, (.one (.val (.int .i64 ((List.length (List.map b_sisi a0)) : Int))))), (8, (.one (.val (.int .i64 (List.length p_1014200_0 : Int))))), (9, (.one (.val (.bool (decide ((List.length p_1014200_0 : Int) < ((List.length (List.map b_sisi a0)) : Int)))))))], []⟩) (e := (.exit 0)) (t' := 3) (hs' := []) (q := [(decide ((List.length p_1014200_0 : Int) < ((List.length (List.map b_sisi a0)) : Int))) = false]) (by kernel_rfl) ⟨(nt hc), trivial⟩
    rw [show (⟨[(0, (.one (.bor l0_0 (List.map b_sisi a0)))), (1, (.clo 141 [] [(.bptr l2000 [(.val (.string a2001)), (.val (.int .i64 a2002)), (.val (.string a2003)), (.val (.int .i64 a2004))])])), (7, (.one (.val (.int .i64 ((List.length (List.map b_sisi a0)) : Int))))), (8, (.one (.val (.int .i64 (List.length p_1014200_0 : Int))))), (9, (.one (.val (.bool (decide ((List.length p_1014200_0 : Int) < ((List.length (List.map b_sisi a0)) : Int)))))))], []⟩ : St) = fin1014200_0 l0_0 l2000 a0 a2001 a2002 a2003 a2004 (.k0 (List.length p_1014200_0 : Int) (decide ((List.length p_1014200_0 : Int) < ((List.length (List.map b_sisi a0)) : Int)))) from by first | rfl | (unfold fin1014200_0; simp [byteRows_eq, ints_y, List.take_of_length_le, d_sisi, d_LsisiEi, d_b, d_i, d_s, d_iLsEs, d_LsisiE, d_LsE, d_y, fromBR_sisi, fromBR_b, fromBR_i, fromBR_s, fromBR_y]; done)] at st
    exact .loopX st (show ((.exit 0) : VX.Exit) ≠ .normal from by simp)
  | x0_1014200_0 :: l0_1014200_0, p_1014200_0, hp0 => by
    have hc : (decide ((List.length p_1014200_0 : Int) < ((List.length (List.map b_sisi a0)) : Int))) = true := by
      rw [← hp0]; simp only [List.length_map, List.length_set, List.length_append, List.length_replicate, List.length_cons, List.length_nil, decide_eq_true_eq]; omega
    have Hx0_1014200_0 : (a0)[Int.toNat (List.length p_1014200_0 : Int)]? = some x0_1014200_0 := by
      rw [← hp0, Int.toNat_natCast]; simp
    have hlen : List.length (a0) = List.length p_1014200_0 + List.length l0_1014200_0 + 1 := by rw [← hp0]; simp; omega
    have hw : IntKind.wrap .i64 ((List.length p_1014200_0 : Int) + 1) = (List.length p_1014200_0 : Int) + 1 := wrap64 (by omega)
    simp only [r1014200_0]
    by_cases h_1014200_0_1 : (a2002 == x0_1014200_0.f1) = true
    · try simp only [if_pos h_1014200_0_1]
      have st := codeH_ok (F := F) (X := X) (c := b142_0) (t := 0) (hs := [(2, .b true), (14, .row [(.val (.string x0_1014200_0.f0)), (.val (.int .i64 x0_1014200_0.f1)), (.val (.string x0_1014200_0.f2)), (.val (.int .i64 x0_1014200_0.f3))]), (18, .ret [] [(.one (.val (.bool (a2002 == x0_1014200_0.f1))))] [] []), (19, .b true)]) (σ := h1014200_0 l0_0 l2000 a0 a2001 a2002 a2003 a2004 (List.length p_1014200_0 : Int) ) (σ' := ⟨[(4, (.one (.val (.int .i64 (List.length p_1014200_0 : Int)))))], []⟩) (e := .ret) (t' := 24) (hs' := []) (q := [(decide ((List.length p_1014200_0 : Int) < ((List.length (List.map b_sisi a0)) : Int))) = true, 0 ≤ (List.length p_1014200_0 : Int), (List.map b_sisi a0)[(Int.toNat (List.length p_1014200_0 : Int))]? = some [(.val (.string x0_1014200_0.f0)), (.val (.int .i64 x0_1014200_0.f1)), (.val (.string x0_1014200_0.f2)), (.val (.int .i64 x0_1014200_0.f3))], Ev F X (.call 141 [(.agg [(.val (.string x0_1014200_0.f0)), (.val (.int .i64 x0_1014200_0.f1)), (.val (.string x0_1014200_0.f2)), (.val (.int .i64 x0_1014200_0.f3))]), (.bptr (l2000 + 1) [(.val (.string a2001)), (.val (.int .i64 a2002)), (.val (.string a2003)), (.val (.int .i64 a2004))])] [] [] [(.one (.val (.bool (a2002 == x0_1014200_0.f1))))]), (a2002 == x0_1014200_0.f1) = true]) (by kernel_rfl) ⟨hc, (by first | exact True.intro | with_reducible rfl | with_reducible assumption | omega | (simp only [decide_eq_true_eq] at *; omega) | (simp only [List.length_map, List.length_set, List.length_append, List.length_replicate, List.length_cons, List.length_nil]; omega) | (simp; omega) | (simp [List.take_of_length_le]; done) | assumption | trivial | (simp [*, byteRows_eq, ints_y]; done)), (by first | (rw [List.getElem?_map, Hx0_1014200_0]; rfl) | (rw [Nat.zero_add, List.getElem?_map, Hx0_1014200_0]; rfl) | exact True.intro | with_reducible rfl | with_reducible assumption | omega | (simp only [List.length_map, List.length_set, List.length_append, List.length_replicate, List.length_cons, List.length_nil]; omega) | (simp; done) | (simp; omega) | (simp [List.take_of_length_le]; done) | (simp [← List.map_take, ← List.map_drop]; done) | assumption | trivial | (simp [*, b_sisi, d_sisi, byteRows_eq, ints_y]; done)), (e1014100 (a0 := x0_1014200_0) (a101001 := a2001) (a101002 := a2002) (a101003 := a2003) (a101004 := a2004)), h_1014200_0_1, trivial⟩
      rw [show (⟨[(4, (.one (.val (.int .i64 (List.length p_1014200_0 : Int)))))], []⟩ : St) = fin1014200_0 l0_0 l2000 a0 a2001 a2002 a2003 a2004 (.k1 (List.length p_1014200_0 : Int)) from by first | rfl | (unfold fin1014200_0; simp [byteRows_eq, ints_y, List.take_of_length_le, d_sisi, d_LsisiEi, d_b, d_i, d_s, d_iLsEs, d_LsisiE, d_LsE, d_y, fromBR_sisi, fromBR_b, fromBR_i, fromBR_s, fromBR_y]; done)] at st
      exact .loopX st (show (.ret : VX.Exit) ≠ .normal from by simp)
    · try simp only [if_neg h_1014200_0_1]
      have st := codeH_ok (F := F) (X := X) (c := b142_0) (t := 0) (hs := [(2, .b true), (14, .row [(.val (.string x0_1014200_0.f0)), (.val (.int .i64 x0_1014200_0.f1)), (.val (.string x0_1014200_0.f2)), (.val (.int .i64 x0_1014200_0.f3))]), (18, .ret [] [(.one (.val (.bool (a2002 == x0_1014200_0.f1))))] [] []), (19, .b false)]) (σ := h1014200_0 l0_0 l2000 a0 a2001 a2002 a2003 a2004 (List.length p_1014200_0 : Int) ) (σ' := ⟨[(0, (.one (.bor l0_0 (List.map b_sisi a0)))), (1, (.clo 141 [] [(.bptr l2000 [(.val (.string a2001)), (.val (.int .i64 a2002)), (.val (.string a2003)), (.val (.int .i64 a2004))])])), (7, (.one (.val (.int .i64 ((List.length (List.map b_sisi a0)) : Int))))), (8, (.one (.val (.int .i64 (IntKind.wrap .i64 ((List.length p_1014200_0 : Int) + 1))))))], []⟩) (e := .normal) (t' := 24) (hs' := []) (q := [(decide ((List.length p_1014200_0 : Int) < ((List.length (List.map b_sisi a0)) : Int))) = true, 0 ≤ (List.length p_1014200_0 : Int), (List.map b_sisi a0)[(Int.toNat (List.length p_1014200_0 : Int))]? = some [(.val (.string x0_1014200_0.f0)), (.val (.int .i64 x0_1014200_0.f1)), (.val (.string x0_1014200_0.f2)), (.val (.int .i64 x0_1014200_0.f3))], Ev F X (.call 141 [(.agg [(.val (.string x0_1014200_0.f0)), (.val (.int .i64 x0_1014200_0.f1)), (.val (.string x0_1014200_0.f2)), (.val (.int .i64 x0_1014200_0.f3))]), (.bptr (l2000 + 1) [(.val (.string a2001)), (.val (.int .i64 a2002)), (.val (.string a2003)), (.val (.int .i64 a2004))])] [] [] [(.one (.val (.bool (a2002 == x0_1014200_0.f1))))]), (a2002 == x0_1014200_0.f1) = false, True]) (by kernel_rfl) ⟨hc, (by first | exact True.intro | with_reducible rfl | with_reducible assumption | omega | (simp only [decide_eq_true_eq] at *; omega) | (simp only [List.length_map, List.length_set, List.length_append, List.length_replicate, List.length_cons, List.length_nil]; omega) | (simp; omega) | (simp [List.take_of_length_le]; done) | assumption | trivial | (simp [*, byteRows_eq, ints_y]; done)), (by first | (rw [List.getElem?_map, Hx0_1014200_0]; rfl) | (rw [Nat.zero_add, List.getElem?_map, Hx0_1014200_0]; rfl) | exact True.intro | with_reducible rfl | with_reducible assumption | omega | (simp only [List.length_map, List.length_set, List.length_append, List.length_replicate, List.length_cons, List.length_nil]; omega) | (simp; done) | (simp; omega) | (simp [List.take_of_length_le]; done) | (simp [← List.map_take, ← List.map_drop]; done) | assumption | trivial | (simp [*, b_sisi, d_sisi, byteRows_eq, ints_y]; done)), (e1014100 (a0 := x0_1014200_0) (a101001 := a2001) (a101002 := a2002) (a101003 := a2003) (a101004 := a2004)), (nt h_1014200_0_1), trivial, trivial⟩
      have ih := t1014200_0 (l0_0 := l0_0) (l2000 := l2000) (a0 := a0) (a2001 := a2001) (a2002 := a2002) (a2003 := a2003) (a2004 := a2004) hy0 l0_1014200_0 (p_1014200_0 ++ [x0_1014200_0])  (by rw [List.append_assoc]; exact hp0)
      rw [show ((p_1014200_0 ++ [x0_1014200_0]).length : Int) = (p_1014200_0.length : Int) + 1 from by simp] at ih
      rw [show (⟨[(0, (.one (.bor l0_0 (List.map b_sisi a0)))), (1, (.clo 141 [] [(.bptr l2000 [(.val (.string a2001)), (.val (.int .i64 a2002)), (.val (.string a2003)), (.val (.int .i64 a2004))])])), (7, (.one (.val (.int .i64 ((List.length (List.map b_sisi a0)) : Int))))), (8, (.one (.val (.int .i64 (IntKind.wrap .i64 ((List.length p_1014200_0 : Int) + 1))))))], []⟩ : St) = h1014200_0 l0_0 l2000 a0 a2001 a2002 a2003 a2004 ((List.length p_1014200_0 : Int) + 1)  from by first | (unfold h1014200_0; simp only [hw]; done) | (unfold h1014200_0; simp only [hw, List.length_map, List.length_set, List.length_append, List.length_replicate, List.length_cons, List.length_nil]; done) | (unfold h1014200_0; simp [hw, byteRows_eq, ints_y, List.take_of_length_le, d_sisi, d_LsisiEi, d_b, d_i, d_s, d_iLsEs, d_LsisiE, d_LsE, d_y, fromBR_sisi, fromBR_b, fromBR_i, fromBR_s, fromBR_y]; done)] at st
      exact .loopN st ih
/-! slices.IndexFunc[[]loop.example/g00539/impl.Session,loop.example/g00539/impl.Session] -/
def m1014200 (a0 : (List K_sisi)) (a2001 : ByteArray) (a2002 : Int) (a2003 : ByteArray) (a2004 : Int) : Int :=
  (match r1014200_0 a0 a2002 a0 0 with | .k0 w0_1014200_0_0 w1_1014200_0_0 => (-1) | .k1 w0_1014200_0_0 => w0_1014200_0_0)
theorem e1014200 {l0_0 : Nat} {a0 : (List K_sisi)} {l2000 : Nat} {a2001 : ByteArray} {a2002 : Int} {a2003 : ByteArray} {a2004 : Int} (hy0 : List.length a0 * 48 ≤ 140737488351232) : Ev F X (.call 142 [(.one (.bor l0_0 (List.map b_sisi a0))), (.clo 141 [] [(.bptr l2000 [(.val (.string a2001)), (.val (.int .i64 a2002)), (.val (.string a2003)), (.val (.int .i64 a2004))])])] [] [] [(.one (.val (.int .i64 (m1014200 a0 a2001 a2002 a2003 a2004))))]) := by
  unfold m1014200
  cases h0 : r1014200_0 a0 a2002 a0 0 with
  | k0 w0_1014200_0_0 w1_1014200_0_0 =>
    try dsimp only
    have f0 : (⟨[(0, (.one (.bor l0_0 (List.map b_sisi a0)))), (1, (.clo 141 [] [(.bptr l2000 [(.val (.string a2001)), (.val (.int .i64 a2002)), (.val (.string a2003)), (.val (.int .i64 a2004))])])), (7, (.one (.val (.int .i64 ((List.length (List.map b_sisi a0)) : Int))))), (8, (.one (.val (.int .i64 0))))], []⟩ : St) = h1014200_0 l0_0 l2000 a0 a2001 a2002 a2003 a2004 0  := (by first | rfl | (unfold h1014200_0; simp [byteRows_eq, ints_y, List.take_of_length_le, d_sisi, d_LsisiEi, d_b, d_i, d_s, d_iLsEs, d_LsisiE, d_LsE, d_y, fromBR_sisi, fromBR_b, fromBR_i, fromBR_s, fromBR_y]; done))
    have f1 : Ev F X (.code l142_0 (h1014200_0 l0_0 l2000 a0 a2001 a2002 a2003 a2004 0 ) (.exit 0) ⟨[(0, (.one (.bor l0_0 (List.map b_sisi a0)))), (1, (.clo 141 [] [(.bptr l2000 [(.val (.string a2001)), (.val (.int .i64 a2002)), (.val (.string a2003)), (.val (.int .i64 a2004))])])), (7, (.one (.val (.int .i64 ((List.length (List.map b_sisi a0)) : Int))))), (8, (.one (.val (.int .i64 w0_1014200_0_0)))), (9, (.one (.val (.bool w1_1014200_0_0))))], []⟩) := (by have t : Ev F X (.code l142_0 (h1014200_0 l0_0 l2000 a0 a2001 a2002 a2003 a2004 0 ) (ex1014200_0 (r1014200_0 a0 a2002 a0 0)) (fin1014200_0 l0_0 l2000 a0 a2001 a2002 a2003 a2004 (r1014200_0 a0 a2002 a0 0))) := t1014200_0 (l0_0 := l0_0) (l2000 := l2000) (a0 := a0) (a2001 := a2001) (a2002 := a2002) (a2003 := a2003) (a2004 := a2004) (by first | assumption | omega) a0 []  rfl; rw [h0] at t; exact t)
    exact callP_ok (ps := []) (os := []) (rs := [(.one (.val (.int .i64 (-1))))]) (by kernel_rfl) (.f f0 (.f f1 (.h 8 (.loop (h1014200_0 l0_0 l2000 a0 a2001 a2002 a2003 a2004 0 ) (.exit 0) ⟨[(0, (.one (.bor l0_0 (List.map b_sisi a0)))), (1, (.clo 141 [] [(.bptr l2000 [(.val (.string a2001)), (.val (.int .i64 a2002)), (.val (.string a2003)), (.val (.int .i64 a2004))])])), (7, (.one (.val (.int .i64 ((List.length (List.map b_sisi a0)) : Int))))), (8, (.one (.val (.int .i64 w0_1014200_0_0)))), (9, (.one (.val (.bool w1_1014200_0_0))))], []⟩) .nil)))
  | k1 w0_1014200_0_0 =>
    try dsimp only
    have f0 : (⟨[(0, (.one (.bor l0_0 (List.map b_sisi a0)))), (1, (.clo 141 [] [(.bptr l2000 [(.val (.string a2001)), (.val (.int .i64 a2002)), (.val (.string a2003)), (.val (.int .i64 a2004))])])), (7, (.one (.val (.int .i64 ((List.length (List.map b_sisi a0)) : Int))))), (8, (.one (.val (.int .i64 0))))], []⟩ : St) = h1014200_0 l0_0 l2000 a0 a2001 a2002 a2003 a2004 0  := (by first | rfl | (unfold h1014200_0; simp [byteRows_eq, ints_y, List.take_of_length_le, d_sisi, d_LsisiEi, d_b, d_i, d_s, d_iLsEs, d_LsisiE, d_LsE, d_y, fromBR_sisi, fromBR_b, fromBR_i, fromBR_s, fromBR_y]; done))
    have f1 : Ev F X (.code l142_0 (h1014200_0 l0_0 l2000 a0 a2001 a2002 a2003 a2004 0 ) .ret ⟨[(4, (.one (.val (.int .i64 w0_1014200_0_0))))], []⟩) := (by have t : Ev F X (.code l142_0 (h1014200_0 l0_0 l2000 a0 a2001 a2002 a2003 a2004 0 ) (ex1014200_0 (r1014200_0 a0 a2002 a0 0)) (fin1014200_0 l0_0 l2000 a0 a2001 a2002 a2003 a2004 (r1014200_0 a0 a2002 a0 0))) := t1014200_0 (l0_0 := l0_0) (l2000 := l2000) (a0 := a0) (a2001 := a2001) (a2002 := a2002) (a2003 := a2003) (a2004 := a2004) (by first | assumption | omega) a0 []  rfl; rw [h0] at t; exact t)
    exact callP_ok (ps := []) (os := []) (rs := [(.one (.val (.int .i64 w0_1014200_0_0)))]) (by kernel_rfl) (.f f0 (.f f1 (.h 8 (.loop (h1014200_0 l0_0 l2000 a0 a2001 a2002 a2003 a2004 0 ) .ret ⟨[(4, (.one (.val (.int .i64 w0_1014200_0_0))))], []⟩) .nil)))
theorem ixr1014200_0 (a0 : (List K_sisi)) (a2002 : Int) : ∀ (l : List K_sisi) (i : Int), (∃ (w0 : _) (w1 : _), r1014200_0 a0 a2002 l i = .k0 w0 w1) ∨ (∃ w, r1014200_0 a0 a2002 l i = .k1 w ∧ i ≤ w ∧ w < i + l.length)
  | [], i => .inl ⟨i, (decide (i < ((List.length (List.map b_sisi a0)) : Int))), rfl⟩
  | x :: l, i => by
    have ih := ixr1014200_0 a0 a2002 l (i + 1)
    simp only [r1014200_0]
    (repeat' split)
    all_goals first
      | exact .inr ⟨i, rfl, by omega, by simp only [List.length_cons]; omega⟩
      | (rcases ih with ⟨w0, w1, h⟩ | ⟨w, h, h1, h2⟩
         · exact .inl ⟨w0, w1, h⟩
         · exact .inr ⟨w, h, by omega, by simp only [List.length_cons]; omega⟩)
theorem ix1014200 (a0 : (List K_sisi)) (a2001 : ByteArray) (a2002 : Int) (a2003 : ByteArray) (a2004 : Int) : -1 ≤ m1014200 a0 a2001 a2002 a2003 a2004 ∧ m1014200 a0 a2001 a2002 a2003 a2004 < (List.length a0 : Int) := by
  unfold m1014200
  rcases ixr1014200_0 a0 a2002 a0 0 with ⟨w0, w1, h⟩ | ⟨w, h, h1, h2⟩ <;> simp only [h] <;> omega
/-! slices.ContainsFunc[[]loop.example/g00539/impl.Session,loop.example/g00539/impl.Session] -/
def m1009400 (a0 : (List K_sisi)) (a2001 : ByteArray) (a2002 : Int) (a2003 : ByteArray) (a2004 : Int) : Bool :=
  (decide ((m1014200 a0 a2001 a2002 a2003 a2004) ≥ 0))
theorem e1009400 {l0_0 : Nat} {a0 : (List K_sisi)} {l2000 : Nat} {a2001 : ByteArray} {a2002 : Int} {a2003 : ByteArray} {a2004 : Int} (hy0 : List.length a0 * 48 ≤ 140737488351232) : Ev F X (.call 94 [(.one (.bor l0_0 (List.map b_sisi a0))), (.clo 141 [] [(.bptr l2000 [(.val (.string a2001)), (.val (.int .i64 a2002)), (.val (.string a2003)), (.val (.int .i64 a2004))])])] [] [] [(.one (.val (.bool (decide ((m1014200 a0 a2001 a2002 a2003 a2004) ≥ 0)))))]) := by
  have f0 : Ev F X (.call 142 [(.one (.bor (l0_0 + 1) (List.map b_sisi a0))), (.clo 141 [] [(.bptr (l2000 + 1) [(.val (.string a2001)), (.val (.int .i64 a2002)), (.val (.string a2003)), (.val (.int .i64 a2004))])])] [] [] [(.one (.val (.int .i64 (m1014200 a0 a2001 a2002 a2003 a2004))))]) := (e1014200 (a0 := a0) (a2001 := a2001) (a2002 := a2002) (a2003 := a2003) (a2004 := a2004) (by first | with_reducible assumption | omega | assumption | (simp only [List.length_map]; omega) | (simp; omega)))
  exact callP_ok (ps := []) (os := []) (rs := [(.one (.val (.bool (decide ((m1014200 a0 a2001 a2002 a2003 a2004) ≥ 0)))))]) (by kernel_rfl) (.r 7 [] [] f0 .nil)
end Go.Proofs.YtdnopbpdiineiaaDoor.WorkersOf
