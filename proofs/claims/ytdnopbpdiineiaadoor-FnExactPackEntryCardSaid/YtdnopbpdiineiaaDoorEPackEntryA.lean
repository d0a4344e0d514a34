/- What the functions compute. -/
import Derived.Test.YtdnopbpdiineiaaDoorTPackEntry
import Derived.Test.YtdnopbpdiineiaaDoorVNum
import Derived.Test.YtdnopbpdiineiaaDoorVClone
import Derived.Test.YtdnopbpdiineiaaDoorVExt
import Derived.Test.YtdnopbpdiineiaaDoorXPackEntry
import Derived.KernelRfl
namespace Go.Proofs.YtdnopbpdiineiaaDoor.PackEntry
open Go Go.Proofs.YtdnopbpdiineiaaDoor.V
set_option linter.unusedVariables false
set_option linter.unusedSimpArgs false
set_option maxRecDepth 20000
def X : Ext := fun f args rs => (f = 156 ∧ TrimX args rs)
structure K_isii where
  f0 : Int
  f1 : ByteArray
  f2 : Int
  f3 : Int
def b_isii (x : K_isii) : List B := [(.val (.int .i64 x.f0)), (.val (.string x.f1)), (.val (.int .i64 x.f2)), (.val (.int .i64 x.f3))]
def d_isii (x : K_isii) : List D := [(.val (.int .i64 x.f0)), (.val (.string x.f1)), (.val (.int .i64 x.f2)), (.val (.int .i64 x.f3))]
theorem toBR_isii : ∀ (l : List K_isii), toBR (l.map d_isii) = l.map b_isii
  | [] => rfl
  | x :: l => by simp [toBR, toBL, toB, d_isii, b_isii, toBR_isii l]
theorem fullR_isii : ∀ (l : List K_isii), fullR (l.map d_isii) = true
  | [] => rfl
  | x :: l => by simp [fullR, fullL, full, d_isii, fullR_isii l]
theorem pureR_isii : ∀ (l : List K_isii), pureR (l.map d_isii) = true
  | [] => rfl
  | x :: l => by simp [pureR, pureL, V.pure, d_isii, pureR_isii l]
theorem ft_isii (a b : Nat) (l : List K_isii) : fullR (List.take a (List.drop b (l.map d_isii))) = true := by rw [← List.map_drop, ← List.map_take]; exact fullR_isii _
theorem tbt_isii (a b : Nat) (l : List K_isii) : toBR (List.take a (List.drop b (l.map d_isii))) = (List.take a (List.drop b l)).map b_isii := by rw [← List.map_drop, ← List.map_take]; exact toBR_isii _
theorem tb_isii (l : List K_isii) : toBR (List.take (l.map d_isii).length (List.drop 0 (l.map d_isii))) = l.map b_isii := by rw [List.drop_zero, List.take_length]; exact toBR_isii l
theorem lenB_isii (l : List K_isii) : ∀ r ∈ l.map b_isii, r.length = 4 := by intro r h; obtain ⟨x, _, rfl⟩ := List.mem_map.1 h; rfl
theorem lenD_isii (l : List K_isii) : ∀ r ∈ l.map d_isii, r.length = 4 := by intro r h; obtain ⟨x, _, rfl⟩ := List.mem_map.1 h; rfl
def os_isii (x : K_isii) : Prop := (ByteArray.size x.f1 ≤ 140737488351232)
theorem gos_isii {l : List K_isii} (h : ∀ z ∈ l, os_isii z) (n : Nat) (d : K_isii) (hd : os_isii d) : os_isii (l.getD n d) := by
  rw [List.getD_eq_getElem?_getD]; cases h2 : l[n]? with
  | none => simpa using hd
  | some x => exact h x (List.mem_of_getElem? h2)
theorem fromBR_isii (n : Nat) (l : List K_isii) : fromBR n (l.map b_isii) = l.map d_isii := by simp [fromBR, b_isii, d_isii, fromB, Function.comp_def]
theorem copy_isii (l : List K_isii) : (l.map d_isii).all (fun x => x.all copyable) = true := by simp [d_isii, copyable, Function.comp_def]
theorem ct_isii (a b : Nat) (l : List K_isii) : ((List.take a (List.drop b (l.map d_isii))).all fun x => x.all copyable) = true := by rw [← List.map_drop, ← List.map_take]; exact copy_isii _
def b_b (x : Bool) : List B := [(.val (.bool x))]
def d_b (x : Bool) : List D := [(.val (.bool x))]
theorem toBR_b : ∀ (l : List Bool), toBR (l.map d_b) = l.map b_b
  | [] => rfl
  | x :: l => by simp [toBR, toBL, toB, d_b, b_b, toBR_b l]
theorem fullR_b : ∀ (l : List Bool), fullR (l.map d_b) = true
  | [] => rfl
  | x :: l => by simp [fullR, fullL, full, d_b, fullR_b l]
theorem pureR_b : ∀ (l : List Bool), pureR (l.map d_b) = true
  | [] => rfl
  | x :: l => by simp [pureR, pureL, V.pure, d_b, pureR_b l]
theorem ft_b (a b : Nat) (l : List Bool) : fullR (List.take a (List.drop b (l.map d_b))) = true := by rw [← List.map_drop, ← List.map_take]; exact fullR_b _
theorem tbt_b (a b : Nat) (l : List Bool) : toBR (List.take a (List.drop b (l.map d_b))) = (List.take a (List.drop b l)).map b_b := by rw [← List.map_drop, ← List.map_take]; exact toBR_b _
theorem tb_b (l : List Bool) : toBR (List.take (l.map d_b).length (List.drop 0 (l.map d_b))) = l.map b_b := by rw [List.drop_zero, List.take_length]; exact toBR_b l
theorem lenB_b (l : List Bool) : ∀ r ∈ l.map b_b, r.length = 1 := by intro r h; obtain ⟨x, _, rfl⟩ := List.mem_map.1 h; rfl
theorem lenD_b (l : List Bool) : ∀ r ∈ l.map d_b, r.length = 1 := by intro r h; obtain ⟨x, _, rfl⟩ := List.mem_map.1 h; rfl
theorem fromBR_b (n : Nat) (l : List Bool) : fromBR n (l.map b_b) = l.map d_b := by simp [fromBR, b_b, d_b, fromB, Function.comp_def]
theorem copy_b (l : List Bool) : (l.map d_b).all (fun x => x.all copyable) = true := by simp [d_b, copyable, Function.comp_def]
theorem ct_b (a b : Nat) (l : List Bool) : ((List.take a (List.drop b (l.map d_b))).all fun x => x.all copyable) = true := by rw [← List.map_drop, ← List.map_take]; exact copy_b _
def b_i (x : Int) : List B := [(.val (.int .i64 x))]
def d_i (x : Int) : List D := [(.val (.int .i64 x))]
theorem toBR_i : ∀ (l : List Int), toBR (l.map d_i) = l.map b_i
  | [] => rfl
  | x :: l => by simp [toBR, toBL, toB, d_i, b_i, toBR_i l]
theorem fullR_i : ∀ (l : List Int), fullR (l.map d_i) = true
  | [] => rfl
  | x :: l => by simp [fullR, fullL, full, d_i, fullR_i l]
theorem pureR_i : ∀ (l : List Int), pureR (l.map d_i) = true
  | [] => rfl
  | x :: l => by simp [pureR, pureL, V.pure, d_i, pureR_i l]
theorem ft_i (a b : Nat) (l : List Int) : fullR (List.take a (List.drop b (l.map d_i))) = true := by rw [← List.map_drop, ← List.map_take]; exact fullR_i _
theorem tbt_i (a b : Nat) (l : List Int) : toBR (List.take a (List.drop b (l.map d_i))) = (List.take a (List.drop b l)).map b_i := by rw [← List.map_drop, ← List.map_take]; exact toBR_i _
theorem tb_i (l : List Int) : toBR (List.take (l.map d_i).length (List.drop 0 (l.map d_i))) = l.map b_i := by rw [List.drop_zero, List.take_length]; exact toBR_i l
theorem lenB_i (l : List Int) : ∀ r ∈ l.map b_i, r.length = 1 := by intro r h; obtain ⟨x, _, rfl⟩ := List.mem_map.1 h; rfl
theorem lenD_i (l : List Int) : ∀ r ∈ l.map d_i, r.length = 1 := by intro r h; obtain ⟨x, _, rfl⟩ := List.mem_map.1 h; rfl
theorem fromBR_i (n : Nat) (l : List Int) : fromBR n (l.map b_i) = l.map d_i := by simp [fromBR, b_i, d_i, fromB, Function.comp_def]
theorem copy_i (l : List Int) : (l.map d_i).all (fun x => x.all copyable) = true := by simp [d_i, copyable, Function.comp_def]
theorem ct_i (a b : Nat) (l : List Int) : ((List.take a (List.drop b (l.map d_i))).all fun x => x.all copyable) = true := by rw [← List.map_drop, ← List.map_take]; exact copy_i _
def b_y (x : Int) : List B := [(.val (.int .u8 x))]
def d_y (x : Int) : List D := [(.val (.int .u8 x))]
theorem toBR_y : ∀ (l : List Int), toBR (l.map d_y) = l.map b_y
  | [] => rfl
  | x :: l => by simp [toBR, toBL, toB, d_y, b_y, toBR_y l]
theorem fullR_y : ∀ (l : List Int), fullR (l.map d_y) = true
  | [] => rfl
  | x :: l => by simp [fullR, fullL, full, d_y, fullR_y l]
theorem pureR_y : ∀ (l : List Int), pureR (l.map d_y) = true
  | [] => rfl
  | x :: l => by simp [pureR, pureL, V.pure, d_y, pureR_y l]
theorem ft_y (a b : Nat) (l : List Int) : fullR (List.take a (List.drop b (l.map d_y))) = true := by rw [← List.map_drop, ← List.map_take]; exact fullR_y _
theorem tbt_y (a b : Nat) (l : List Int) : toBR (List.take a (List.drop b (l.map d_y))) = (List.take a (List.drop b l)).map b_y := by rw [← List.map_drop, ← List.map_take]; exact toBR_y _
theorem tb_y (l : List Int) : toBR (List.take (l.map d_y).length (List.drop 0 (l.map d_y))) = l.map b_y := by rw [List.drop_zero, List.take_length]; exact toBR_y l
theorem lenB_y (l : List Int) : ∀ r ∈ l.map b_y, r.length = 1 := by intro r h; obtain ⟨x, _, rfl⟩ := List.mem_map.1 h; rfl
theorem lenD_y (l : List Int) : ∀ r ∈ l.map d_y, r.length = 1 := by intro r h; obtain ⟨x, _, rfl⟩ := List.mem_map.1 h; rfl
theorem fromBR_y (n : Nat) (l : List Int) : fromBR n (l.map b_y) = l.map d_y := by simp [fromBR, b_y, d_y, fromB, Function.comp_def]
theorem copy_y (l : List Int) : (l.map d_y).all (fun x => x.all copyable) = true := by simp [d_y, copyable, Function.comp_def]
theorem ct_y (a b : Nat) (l : List Int) : ((List.take a (List.drop b (l.map d_y))).all fun x => x.all copyable) = true := by rw [← List.map_drop, ← List.map_take]; exact copy_y _
def strInts (s : ByteArray) : List Int := s.data.toList.map fun b => (b.toNat : Int)
theorem ly_y (a : Int) (l : List Int) : [D.val (.int .u8 a)] :: List.map d_y l = List.map d_y (a :: l) := rfl
theorem ly0_y (a : Int) : [[D.val (.int .u8 a)]] = List.map d_y [a] := rfl
theorem strInts_len (s : ByteArray) : (strInts s).length = s.size := by simp [strInts]
theorem byteRows_len (s : ByteArray) : (byteRows s).length = s.size := by simp [byteRows]
theorem byteRows_eq (s : ByteArray) : byteRows s = (strInts s).map d_y := by simp [byteRows, strInts, d_y, Function.comp_def]
theorem tsi (s : ByteArray) : List.take (ByteArray.size s) (List.map d_y (strInts s)) = List.map d_y (strInts s) := by rw [List.take_of_length_le (by simp [strInts_len])]
theorem tbr (s : ByteArray) : List.take (ByteArray.size s) (byteRows s) = List.map d_y (strInts s) := by rw [byteRows_eq, tsi]
theorem ints_y : ∀ (l : List Int), rowsInts .u8 (l.map d_y) = some l
  | [] => rfl
  | x :: l => by simp only [List.map_cons, d_y, rowsInts, ints_y l]; rfl
structure K_iLyE where
  f0 : Int
  f1 : (List Int)
def b_iLyE (x : K_iLyE) : List B := [(.val (.int .i64 x.f0)), (.sl (List.map b_y x.f1))]
def d_iLyE (x : K_iLyE) : List D := [(.val (.int .i64 x.f0)), (.own 1 (List.map d_y x.f1))]
theorem toBR_iLyE : ∀ (l : List K_iLyE), toBR (l.map d_iLyE) = l.map b_iLyE
  | [] => rfl
  | x :: l => by simp [toBR, toBL, toB, d_iLyE, b_iLyE, toBR_iLyE l, toBR_y]
theorem fullR_iLyE : ∀ (l : List K_iLyE), fullR (l.map d_iLyE) = true
  | [] => rfl
  | x :: l => by simp [fullR, fullL, full, d_iLyE, fullR_iLyE l, fullR_y]
theorem pureR_iLyE : ∀ (l : List K_iLyE), pureR (l.map d_iLyE) = true
  | [] => rfl
  | x :: l => by simp [pureR, pureL, V.pure, d_iLyE, pureR_iLyE l, pureR_y]
theorem ft_iLyE (a b : Nat) (l : List K_iLyE) : fullR (List.take a (List.drop b (l.map d_iLyE))) = true := by rw [← List.map_drop, ← List.map_take]; exact fullR_iLyE _
theorem tbt_iLyE (a b : Nat) (l : List K_iLyE) : toBR (List.take a (List.drop b (l.map d_iLyE))) = (List.take a (List.drop b l)).map b_iLyE := by rw [← List.map_drop, ← List.map_take]; exact toBR_iLyE _
theorem tb_iLyE (l : List K_iLyE) : toBR (List.take (l.map d_iLyE).length (List.drop 0 (l.map d_iLyE))) = l.map b_iLyE := by rw [List.drop_zero, List.take_length]; exact toBR_iLyE l
theorem lenB_iLyE (l : List K_iLyE) : ∀ r ∈ l.map b_iLyE, r.length = 2 := by intro r h; obtain ⟨x, _, rfl⟩ := List.mem_map.1 h; rfl
theorem lenD_iLyE (l : List K_iLyE) : ∀ r ∈ l.map d_iLyE, r.length = 2 := by intro r h; obtain ⟨x, _, rfl⟩ := List.mem_map.1 h; rfl
def ok_iLyE (x : K_iLyE) : Prop := (List.length x.f1 * 1 ≤ 140737488351232)
def os_iLyE (x : K_iLyE) : Prop := (List.length x.f1 * 1 ≤ 140737488351232)
theorem os_ok_iLyE (x : K_iLyE) (h : os_iLyE x) : ok_iLyE x := h
theorem gos_iLyE {l : List K_iLyE} (h : ∀ z ∈ l, os_iLyE z) (n : Nat) (d : K_iLyE) (hd : os_iLyE d) : os_iLyE (l.getD n d) := by
  rw [List.getD_eq_getElem?_getD]; cases h2 : l[n]? with
  | none => simpa using hd
  | some x => exact h x (List.mem_of_getElem? h2)
theorem gok_iLyE {l : List K_iLyE} (h : ∀ z ∈ l, ok_iLyE z) (n : Nat) (d : K_iLyE) (hd : ok_iLyE d) : ok_iLyE (l.getD n d) := by
  rw [List.getD_eq_getElem?_getD]; cases h2 : l[n]? with
  | none => simpa using hd
  | some x => exact h x (List.mem_of_getElem? h2)
def b_LyE (x : (List Int)) : List B := [(.sl (List.map b_y x))]
def d_LyE (x : (List Int)) : List D := [(.own 1 (List.map d_y x))]
theorem toBR_LyE : ∀ (l : List (List Int)), toBR (l.map d_LyE) = l.map b_LyE
  | [] => rfl
  | x :: l => by simp [toBR, toBL, toB, d_LyE, b_LyE, toBR_LyE l, toBR_y]
theorem fullR_LyE : ∀ (l : List (List Int)), fullR (l.map d_LyE) = true
  | [] => rfl
  | x :: l => by simp [fullR, fullL, full, d_LyE, fullR_LyE l, fullR_y]
theorem pureR_LyE : ∀ (l : List (List Int)), pureR (l.map d_LyE) = true
  | [] => rfl
  | x :: l => by simp [pureR, pureL, V.pure, d_LyE, pureR_LyE l, pureR_y]
theorem ft_LyE (a b : Nat) (l : List (List Int)) : fullR (List.take a (List.drop b (l.map d_LyE))) = true := by rw [← List.map_drop, ← List.map_take]; exact fullR_LyE _
theorem tbt_LyE (a b : Nat) (l : List (List Int)) : toBR (List.take a (List.drop b (l.map d_LyE))) = (List.take a (List.drop b l)).map b_LyE := by rw [← List.map_drop, ← List.map_take]; exact toBR_LyE _
theorem tb_LyE (l : List (List Int)) : toBR (List.take (l.map d_LyE).length (List.drop 0 (l.map d_LyE))) = l.map b_LyE := by rw [List.drop_zero, List.take_length]; exact toBR_LyE l
theorem lenB_LyE (l : List (List Int)) : ∀ r ∈ l.map b_LyE, r.length = 1 := by intro r h; obtain ⟨x, _, rfl⟩ := List.mem_map.1 h; rfl
theorem lenD_LyE (l : List (List Int)) : ∀ r ∈ l.map d_LyE, r.length = 1 := by intro r h; obtain ⟨x, _, rfl⟩ := List.mem_map.1 h; rfl
def ok_LyE (x : (List Int)) : Prop := (List.length x * 1 ≤ 140737488351232)
def os_LyE (x : (List Int)) : Prop := (List.length x * 1 ≤ 140737488351232)
theorem os_ok_LyE (x : (List Int)) (h : os_LyE x) : ok_LyE x := h
theorem gos_LyE {l : List (List Int)} (h : ∀ z ∈ l, os_LyE z) (n : Nat) (d : (List Int)) (hd : os_LyE d) : os_LyE (l.getD n d) := by
  rw [List.getD_eq_getElem?_getD]; cases h2 : l[n]? with
  | none => simpa using hd
  | some x => exact h x (List.mem_of_getElem? h2)
theorem gok_LyE {l : List (List Int)} (h : ∀ z ∈ l, ok_LyE z) (n : Nat) (d : (List Int)) (hd : ok_LyE d) : ok_LyE (l.getD n d) := by
  rw [List.getD_eq_getElem?_getD]; cases h2 : l[n]? with
  | none => simpa using hd
  | some x => exact h x (List.mem_of_getElem? h2)
def b_LLyEE (x : (List (List Int))) : List B := [(.sl (List.map b_LyE x))]
def d_LLyEE (x : (List (List Int))) : List D := [(.own 1 (List.map d_LyE x))]
theorem toBR_LLyEE : ∀ (l : List (List (List Int))), toBR (l.map d_LLyEE) = l.map b_LLyEE
  | [] => rfl
  | x :: l => by simp [toBR, toBL, toB, d_LLyEE, b_LLyEE, toBR_LLyEE l, toBR_LyE]
theorem fullR_LLyEE : ∀ (l : List (List (List Int))), fullR (l.map d_LLyEE) = true
  | [] => rfl
  | x :: l => by simp [fullR, fullL, full, d_LLyEE, fullR_LLyEE l, fullR_LyE]
theorem pureR_LLyEE : ∀ (l : List (List (List Int))), pureR (l.map d_LLyEE) = true
  | [] => rfl
  | x :: l => by simp [pureR, pureL, V.pure, d_LLyEE, pureR_LLyEE l, pureR_LyE]
theorem ft_LLyEE (a b : Nat) (l : List (List (List Int))) : fullR (List.take a (List.drop b (l.map d_LLyEE))) = true := by rw [← List.map_drop, ← List.map_take]; exact fullR_LLyEE _
theorem tbt_LLyEE (a b : Nat) (l : List (List (List Int))) : toBR (List.take a (List.drop b (l.map d_LLyEE))) = (List.take a (List.drop b l)).map b_LLyEE := by rw [← List.map_drop, ← List.map_take]; exact toBR_LLyEE _
theorem tb_LLyEE (l : List (List (List Int))) : toBR (List.take (l.map d_LLyEE).length (List.drop 0 (l.map d_LLyEE))) = l.map b_LLyEE := by rw [List.drop_zero, List.take_length]; exact toBR_LLyEE l
theorem lenB_LLyEE (l : List (List (List Int))) : ∀ r ∈ l.map b_LLyEE, r.length = 1 := by intro r h; obtain ⟨x, _, rfl⟩ := List.mem_map.1 h; rfl
theorem lenD_LLyEE (l : List (List (List Int))) : ∀ r ∈ l.map d_LLyEE, r.length = 1 := by intro r h; obtain ⟨x, _, rfl⟩ := List.mem_map.1 h; rfl
def ok_LLyEE (x : (List (List Int))) : Prop := (List.length x * 24 ≤ 140737488351232) ∧ (∀ z ∈ x, ok_LyE z)
def os_LLyEE (x : (List (List Int))) : Prop := (List.length x * 24 ≤ 140737488351232) ∧ (∀ z ∈ x, os_LyE z)
theorem os_ok_LLyEE (x : (List (List Int))) (h : os_LLyEE x) : ok_LLyEE x := ⟨h.1, fun z hz => os_ok_LyE z (h.2 z hz)⟩
theorem gos_LLyEE {l : List (List (List Int))} (h : ∀ z ∈ l, os_LLyEE z) (n : Nat) (d : (List (List Int))) (hd : os_LLyEE d) : os_LLyEE (l.getD n d) := by
  rw [List.getD_eq_getElem?_getD]; cases h2 : l[n]? with
  | none => simpa using hd
  | some x => exact h x (List.mem_of_getElem? h2)
theorem gok_LLyEE {l : List (List (List Int))} (h : ∀ z ∈ l, ok_LLyEE z) (n : Nat) (d : (List (List Int))) (hd : ok_LLyEE d) : ok_LLyEE (l.getD n d) := by
  rw [List.getD_eq_getElem?_getD]; cases h2 : l[n]? with
  | none => simpa using hd
  | some x => exact h x (List.mem_of_getElem? h2)
def b_s (x : ByteArray) : List B := [(.val (.string x))]
def d_s (x : ByteArray) : List D := [(.val (.string x))]
theorem toBR_s : ∀ (l : List ByteArray), toBR (l.map d_s) = l.map b_s
  | [] => rfl
  | x :: l => by simp [toBR, toBL, toB, d_s, b_s, toBR_s l]
theorem fullR_s : ∀ (l : List ByteArray), fullR (l.map d_s) = true
  | [] => rfl
  | x :: l => by simp [fullR, fullL, full, d_s, fullR_s l]
theorem pureR_s : ∀ (l : List ByteArray), pureR (l.map d_s) = true
  | [] => rfl
  | x :: l => by simp [pureR, pureL, V.pure, d_s, pureR_s l]
theorem ft_s (a b : Nat) (l : List ByteArray) : fullR (List.take a (List.drop b (l.map d_s))) = true := by rw [← List.map_drop, ← List.map_take]; exact fullR_s _
theorem tbt_s (a b : Nat) (l : List ByteArray) : toBR (List.take a (List.drop b (l.map d_s))) = (List.take a (List.drop b l)).map b_s := by rw [← List.map_drop, ← List.map_take]; exact toBR_s _
theorem tb_s (l : List ByteArray) : toBR (List.take (l.map d_s).length (List.drop 0 (l.map d_s))) = l.map b_s := by rw [List.drop_zero, List.take_length]; exact toBR_s l
theorem lenB_s (l : List ByteArray) : ∀ r ∈ l.map b_s, r.length = 1 := by intro r h; obtain ⟨x, _, rfl⟩ := List.mem_map.1 h; rfl
theorem lenD_s (l : List ByteArray) : ∀ r ∈ l.map d_s, r.length = 1 := by intro r h; obtain ⟨x, _, rfl⟩ := List.mem_map.1 h; rfl
def os_s (x : ByteArray) : Prop := (ByteArray.size x ≤ 140737488351232)
theorem gos_s {l : List ByteArray} (h : ∀ z ∈ l, os_s z) (n : Nat) (d : ByteArray) (hd : os_s d) : os_s (l.getD n d) := by
  rw [List.getD_eq_getElem?_getD]; cases h2 : l[n]? with
  | none => simpa using hd
  | some x => exact h x (List.mem_of_getElem? h2)
theorem fromBR_s (n : Nat) (l : List ByteArray) : fromBR n (l.map b_s) = l.map d_s := by simp [fromBR, b_s, d_s, fromB, Function.comp_def]
theorem copy_s (l : List ByteArray) : (l.map d_s).all (fun x => x.all copyable) = true := by simp [d_s, copyable, Function.comp_def]
theorem ct_s (a b : Nat) (l : List ByteArray) : ((List.take a (List.drop b (l.map d_s))).all fun x => x.all copyable) = true := by rw [← List.map_drop, ← List.map_take]; exact copy_s _
attribute [local simp] toBR_isii fullR_isii pureR_isii lenB_isii lenD_isii fromBR_isii copy_isii toBR_b fullR_b pureR_b lenB_b lenD_b fromBR_b copy_b toBR_i fullR_i pureR_i lenB_i lenD_i fromBR_i copy_i strInts_len byteRows_len toBR_y fullR_y pureR_y lenB_y lenD_y fromBR_y copy_y toBR_iLyE fullR_iLyE pureR_iLyE lenB_iLyE lenD_iLyE toBR_LyE fullR_LyE pureR_LyE lenB_LyE lenD_LyE toBR_LLyEE fullR_LLyEE pureR_LLyEE lenB_LLyEE lenD_LLyEE toBR_s fullR_s pureR_s lenB_s lenD_s fromBR_s copy_s

/-! loop.example/g00539/laws.szEntry -/
def m11 (a0 : K_isii) (a1 : Int) : Int :=
  if (decide ((IntKind.wrap .i64 (a1 - (ByteArray.size a0.f1 : Int))) < 0)) = true then (-1) else
  (IntKind.wrap .i64 (a1 - (ByteArray.size a0.f1 : Int)))
theorem e11 {a0 : K_isii} {a1 : Int} : Ev F X (.call 11 [(.agg [(.val (.int .i64 a0.f0)), (.val (.string a0.f1)), (.val (.int .i64 a0.f2)), (.val (.int .i64 a0.f3))]), (.one (.val (.int .i64 a1)))] [] [] [(.one (.val (.int .i64 (m11 a0 a1))))]) := by
  unfold m11
  by_cases h0 : (decide ((IntKind.wrap .i64 (a1 - (ByteArray.size a0.f1 : Int))) < 0)) = true
  · try simp only [if_pos h0]
    exact callP_ok (ps := []) (os := []) (rs := [(.one (.val (.int .i64 (-1))))]) (by kernel_rfl) (.f h0 (.h 20 (.b true) .nil))
  · try simp only [if_neg h0]
    exact callP_ok (ps := []) (os := []) (rs := [(.one (.val (.int .i64 (IntKind.wrap .i64 (a1 - (ByteArray.size a0.f1 : Int))))))]) (by kernel_rfl) (.f (nt h0) (.h 20 (.b false) .nil))
/-! loop.example/g00539/spec.l1In -/
def m113 (a0 : Int) (a1 : Int) (a2 : Int) : Bool :=
  if (decide (a0 ≥ a1)) = true then (decide (a0 ≤ a2)) else
  false
theorem e113 {a0 : Int} {a1 : Int} {a2 : Int} : Ev F X (.call 113 [(.one (.val (.int .i64 a0))), (.one (.val (.int .i64 a1))), (.one (.val (.int .i64 a2)))] [] [] [(.one (.val (.bool (m113 a0 a1 a2))))]) := by
  unfold m113
  by_cases h0 : (decide (a0 ≥ a1)) = true
  · try simp only [if_pos h0]
    exact callP_ok (ps := []) (os := []) (rs := [(.one (.val (.bool (decide (a0 ≤ a2)))))]) (by kernel_rfl) (.f h0 (.f h0 (.f h0 (.f h0 (.h 10 (.b true) (.h 12 (.b true) (.h 14 (.b true) (.h 17 (.b true) .nil))))))))
  · try simp only [if_neg h0]
    exact callP_ok (ps := []) (os := []) (rs := [(.one (.val (.bool false)))]) (by kernel_rfl) (.f (nt h0) (.f (nt h0) (.f (nt h0) (.f (nt h0) (.h 10 (.b false) (.h 12 (.b false) (.h 14 (.b false) (.h 17 (.b false) .nil))))))))
/-! loop.example/g00539/spec.l1Amount -/
def m75 (a0 : Int) : Bool :=
  (m113 a0 0 1000000)
theorem e75 {a0 : Int} : Ev F X (.call 75 [(.one (.val (.int .i64 a0)))] [] [] [(.one (.val (.bool (m113 a0 0 1000000))))]) := by
  have f0 : Ev F X (.call 113 [(.one (.val (.int .i64 a0))), (.one (.val (.int .i64 0))), (.one (.val (.int .i64 1000000)))] [] [] [(.one (.val (.bool (m113 a0 0 1000000))))]) := (e113 (a0 := a0) (a1 := 0) (a2 := 1000000))
  exact callP_ok (ps := []) (os := []) (rs := [(.one (.val (.bool (m113 a0 0 1000000))))]) (by kernel_rfl) (.r 5 [] [] f0 .nil)
/-! loop.example/g00539/spec.l15Has -/
def m112_0 (a0 : Int) : Bool :=
  if (a0 == 1) = true then true else
  (a0 == 5)
def m112_1 (a0 : Int) : Bool :=
  if (a0 == 1) = true then false else
  (!(a0 == 5))
def m112_2 (a0 : Int) : Bool :=
  if (a0 == 1) = true then true else
  if (a0 == 5) = true then true else
    (a0 == 2)
theorem e112 {a0 : Int} : Ev F X (.call 112 [(.one (.val (.int .i64 a0)))] [] [] [(.one (.val (.bool (m112_0 a0)))), (.one (.val (.bool (m112_1 a0)))), (.one (.val (.bool (m112_2 a0))))]) := by
  unfold m112_0 m112_1 m112_2
  by_cases h0 : (a0 == 1) = true
  · try simp only [if_pos h0]
    exact callP_ok (ps := []) (os := []) (rs := [(.one (.val (.bool true))), (.one (.val (.bool false))), (.one (.val (.bool true)))]) (by kernel_rfl) (.f h0 (.f h0 (.f h0 (.h 12 (.b true) (.h 14 (.b true) (.h 17 (.b true) .nil))))))
  · try simp only [if_neg h0]
    by_cases h1 : (a0 == 5) = true
    · try simp only [if_pos h1]
      exact callP_ok (ps := []) (os := []) (rs := [(.one (.val (.bool (a0 == 5)))), (.one (.val (.bool (!(a0 == 5))))), (.one (.val (.bool true)))]) (by kernel_rfl) (.f (nt h0) (.f (nt h0) (.f (nt h0) (.f h1 (.f h1 (.f h1 (.h 12 (.b false) (.h 14 (.b false) (.h 17 (.b false) (.h 30 (.b true) (.h 32 (.b true) (.h 35 (.b true) .nil))))))))))))
    · try simp only [if_neg h1]
      exact callP_ok (ps := []) (os := []) (rs := [(.one (.val (.bool (a0 == 5)))), (.one (.val (.bool (!(a0 == 5))))), (.one (.val (.bool (a0 == 2))))]) (by kernel_rfl) (.f (nt h0) (.f (nt h0) (.f (nt h0) (.f (nt h1) (.f (nt h1) (.f (nt h1) (.h 12 (.b false) (.h 14 (.b false) (.h 17 (.b false) (.h 30 (.b false) (.h 32 (.b false) (.h 35 (.b false) .nil))))))))))))
/-! loop.example/g00539/spec.l9Letter -/
def m148 (a0 : Int) : Bool :=
  if (decide (a0 ≥ 97)) = true then (if (decide (a0 ≤ 122)) = true then true else
    if (decide (a0 ≥ 65)) = true then (if (decide (a0 ≤ 90)) = true then true else
        if (decide (a0 ≥ 48)) = true then (decide (a0 ≤ 57)) else
          false) else
      if (decide (a0 ≥ 48)) = true then (decide (a0 ≤ 57)) else
        false) else
  if (decide (a0 ≥ 65)) = true then (if (decide (a0 ≤ 90)) = true then true else
      if (decide (a0 ≥ 48)) = true then (decide (a0 ≤ 57)) else
        false) else
    if (decide (a0 ≥ 48)) = true then (decide (a0 ≤ 57)) else
      false
theorem e148 {a0 : Int} : Ev F X (.call 148 [(.one (.val (.int .u8 a0)))] [] [] [(.one (.val (.bool (m148 a0))))]) := by
  unfold m148
  by_cases h0 : (decide (a0 ≥ 97)) = true
  · try simp only [if_pos h0]
    by_cases h1 : (decide (a0 ≤ 122)) = true
    · try simp only [if_pos h1]
      exact callP_ok (ps := []) (os := []) (rs := [(.one (.val (.bool true)))]) (by kernel_rfl) (.f h0 (.f h0 (.f h0 (.f h1 (.f h1 (.f h1 (.f h1 (.f h1 (.h 8 (.b true) (.h 10 (.b true) (.h 13 (.b true) (.h 16 (.b true) (.h 18 (.b true) (.h 20 (.b true) (.h 26 (.b true) (.h 29 (.b true) .nil))))))))))))))))
    · try simp only [if_neg h1]
      by_cases h2 : (decide (a0 ≥ 65)) = true
      · try simp only [if_pos h2]
        by_cases h3 : (decide (a0 ≤ 90)) = true
        · try simp only [if_pos h3]
          exact callP_ok (ps := []) (os := []) (rs := [(.one (.val (.bool true)))]) (by kernel_rfl) (.f h0 (.f h0 (.f h0 (.f (nt h1) (.f (nt h1) (.f (nt h1) (.f h2 (.f h2 (.f (nt h1) (.f h2 (.f (nt h1) (.f h3 (.f h3 (.f h3 (.f h3 (.f h3 (.h 8 (.b true) (.h 10 (.b true) (.h 13 (.b true) (.h 16 (.b false) (.h 18 (.b false) (.h 20 (.b false) (.h 22 (.b true) (.h 24 (.b true) (.h 26 (.b false) (.h 27 (.b true) (.h 29 (.b false) (.h 32 (.b true) (.h 34 (.b true) (.h 36 (.b true) (.h 42 (.b true) (.h 45 (.b true) .nil))))))))))))))))))))))))))))))))
        · try simp only [if_neg h3]
          by_cases h4 : (decide (a0 ≥ 48)) = true
          · try simp only [if_pos h4]
            exact callP_ok (ps := []) (os := []) (rs := [(.one (.val (.bool (decide (a0 ≤ 57)))))]) (by kernel_rfl) (.f h0 (.f h0 (.f h0 (.f (nt h1) (.f (nt h1) (.f (nt h1) (.f h2 (.f h2 (.f (nt h1) (.f h2 (.f (nt h1) (.f (nt h3) (.f (nt h3) (.f (nt h3) (.f h4 (.f h4 (.f (nt h3) (.f h4 (.f (nt h3) (.h 8 (.b true) (.h 10 (.b true) (.h 13 (.b true) (.h 16 (.b false) (.h 18 (.b false) (.h 20 (.b false) (.h 22 (.b true) (.h 24 (.b true) (.h 26 (.b false) (.h 27 (.b true) (.h 29 (.b false) (.h 32 (.b false) (.h 34 (.b false) (.h 36 (.b false) (.h 38 (.b true) (.h 40 (.b true) (.h 42 (.b false) (.h 43 (.b true) (.h 45 (.b false) .nil))))))))))))))))))))))))))))))))))))))
          · try simp only [if_neg h4]
            exact callP_ok (ps := []) (os := []) (rs := [(.one (.val (.bool false)))]) (by kernel_rfl) (.f h0 (.f h0 (.f h0 (.f (nt h1) (.f (nt h1) (.f (nt h1) (.f h2 (.f h2 (.f (nt h1) (.f h2 (.f (nt h1) (.f (nt h3) (.f (nt h3) (.f (nt h3) (.f (nt h4) (.f (nt h4) (.f (nt h3) (.f (nt h4) (.f (nt h3) (.h 8 (.b true) (.h 10 (.b true) (.h 13 (.b true) (.h 16 (.b false) (.h 18 (.b false) (.h 20 (.b false) (.h 22 (.b true) (.h 24 (.b true) (.h 26 (.b false) (.h 27 (.b true) (.h 29 (.b false) (.h 32 (.b false) (.h 34 (.b false) (.h 36 (.b false) (.h 38 (.b false) (.h 40 (.b false) (.h 42 (.b false) (.h 43 (.b false) (.h 45 (.b false) .nil))))))))))))))))))))))))))))))))))))))
      · try simp only [if_neg h2]
        by_cases h3 : (decide (a0 ≥ 48)) = true
        · try simp only [if_pos h3]
          exact callP_ok (ps := []) (os := []) (rs := [(.one (.val (.bool (decide (a0 ≤ 57)))))]) (by kernel_rfl) (.f h0 (.f h0 (.f h0 (.f (nt h1) (.f (nt h1) (.f (nt h1) (.f (nt h2) (.f (nt h2) (.f (nt h1) (.f (nt h2) (.f (nt h1) (.f h3 (.f h3 (.f h3 (.h 8 (.b true) (.h 10 (.b true) (.h 13 (.b true) (.h 16 (.b false) (.h 18 (.b false) (.h 20 (.b false) (.h 22 (.b false) (.h 24 (.b false) (.h 26 (.b false) (.h 27 (.b false) (.h 29 (.b false) (.h 38 (.b true) (.h 40 (.b true) (.h 43 (.b true) .nil))))))))))))))))))))))))))))
        · try simp only [if_neg h3]
          exact callP_ok (ps := []) (os := []) (rs := [(.one (.val (.bool false)))]) (by kernel_rfl) (.f h0 (.f h0 (.f h0 (.f (nt h1) (.f (nt h1) (.f (nt h1) (.f (nt h2) (.f (nt h2) (.f (nt h1) (.f (nt h2) (.f (nt h1) (.f (nt h3) (.f (nt h3) (.f (nt h3) (.h 8 (.b true) (.h 10 (.b true) (.h 13 (.b true) (.h 16 (.b false) (.h 18 (.b false) (.h 20 (.b false) (.h 22 (.b false) (.h 24 (.b false) (.h 26 (.b false) (.h 27 (.b false) (.h 29 (.b false) (.h 38 (.b false) (.h 40 (.b false) (.h 43 (.b false) .nil))))))))))))))))))))))))))))
  · try simp only [if_neg h0]
    by_cases h1 : (decide (a0 ≥ 65)) = true
    · try simp only [if_pos h1]
      by_cases h2 : (decide (a0 ≤ 90)) = true
      · try simp only [if_pos h2]
        exact callP_ok (ps := []) (os := []) (rs := [(.one (.val (.bool true)))]) (by kernel_rfl) (.f (nt h0) (.f (nt h0) (.f (nt h0) (.f h1 (.f h1 (.f h1 (.f h2 (.f h2 (.f h2 (.f h2 (.f h2 (.h 8 (.b false) (.h 10 (.b false) (.h 13 (.b false) (.h 22 (.b true) (.h 24 (.b true) (.h 27 (.b true) (.h 32 (.b true) (.h 34 (.b true) (.h 36 (.b true) (.h 42 (.b true) (.h 45 (.b true) .nil))))))))))))))))))))))
      · try simp only [if_neg h2]
        by_cases h3 : (decide (a0 ≥ 48)) = true
        · try simp only [if_pos h3]
          exact callP_ok (ps := []) (os := []) (rs := [(.one (.val (.bool (decide (a0 ≤ 57)))))]) (by kernel_rfl) (.f (nt h0) (.f (nt h0) (.f (nt h0) (.f h1 (.f h1 (.f h1 (.f (nt h2) (.f (nt h2) (.f (nt h2) (.f h3 (.f h3 (.f (nt h2) (.f h3 (.f (nt h2) (.h 8 (.b false) (.h 10 (.b false) (.h 13 (.b false) (.h 22 (.b true) (.h 24 (.b true) (.h 27 (.b true) (.h 32 (.b false) (.h 34 (.b false) (.h 36 (.b false) (.h 38 (.b true) (.h 40 (.b true) (.h 42 (.b false) (.h 43 (.b true) (.h 45 (.b false) .nil))))))))))))))))))))))))))))
        · try simp only [if_neg h3]
          exact callP_ok (ps := []) (os := []) (rs := [(.one (.val (.bool false)))]) (by kernel_rfl) (.f (nt h0) (.f (nt h0) (.f (nt h0) (.f h1 (.f h1 (.f h1 (.f (nt h2) (.f (nt h2) (.f (nt h2) (.f (nt h3) (.f (nt h3) (.f (nt h2) (.f (nt h3) (.f (nt h2) (.h 8 (.b false) (.h 10 (.b false) (.h 13 (.b false) (.h 22 (.b true) (.h 24 (.b true) (.h 27 (.b true) (.h 32 (.b false) (.h 34 (.b false) (.h 36 (.b false) (.h 38 (.b false) (.h 40 (.b false) (.h 42 (.b false) (.h 43 (.b false) (.h 45 (.b false) .nil))))))))))))))))))))))))))))
    · try simp only [if_neg h1]
      by_cases h2 : (decide (a0 ≥ 48)) = true
      · try simp only [if_pos h2]
        exact callP_ok (ps := []) (os := []) (rs := [(.one (.val (.bool (decide (a0 ≤ 57)))))]) (by kernel_rfl) (.f (nt h0) (.f (nt h0) (.f (nt h0) (.f (nt h1) (.f (nt h1) (.f (nt h1) (.f h2 (.f h2 (.f h2 (.h 8 (.b false) (.h 10 (.b false) (.h 13 (.b false) (.h 22 (.b false) (.h 24 (.b false) (.h 27 (.b false) (.h 38 (.b true) (.h 40 (.b true) (.h 43 (.b true) .nil))))))))))))))))))
      · try simp only [if_neg h2]
        exact callP_ok (ps := []) (os := []) (rs := [(.one (.val (.bool false)))]) (by kernel_rfl) (.f (nt h0) (.f (nt h0) (.f (nt h0) (.f (nt h1) (.f (nt h1) (.f (nt h1) (.f (nt h2) (.f (nt h2) (.f (nt h2) (.h 8 (.b false) (.h 10 (.b false) (.h 13 (.b false) (.h 22 (.b false) (.h 24 (.b false) (.h 27 (.b false) (.h 38 (.b false) (.h 40 (.b false) (.h 43 (.b false) .nil))))))))))))))))))
/-! loop 114_0 -/
inductive O114_0 where
  | k0 (w0 : Int) (w1 : Bool)
  | k1
def r114_0 (a0 : ByteArray) : Nat → Int → O114_0
  | n_114_0 + 1, i_114_0 =>
    if (!(m148 (byteAt a0 i_114_0))) = true then (O114_0.k1) else
    (r114_0 a0 n_114_0 (i_114_0 + 1) )
  | 0, i_114_0 => (O114_0.k0 i_114_0 (decide (i_114_0 < (ByteArray.size a0 : Int))))
def h114_0 (a0 : ByteArray) (i_114_0 : Int)  : St := ⟨[(0, (.one (.val (.string a0)))), (3, (.one (.val (.int .i64 i_114_0))))], []⟩
def ex114_0 : O114_0 → VX.Exit
  | .k0 _ _ => (.exit 0)
  | .k1 => .ret
def fin114_0 (a0 : ByteArray) : O114_0 → St
  | .k0 w0 w1 => ⟨[(0, (.one (.val (.string a0)))), (3, (.one (.val (.int .i64 w0)))), (7, (.one (.val (.bool w1))))], []⟩
  | .k1 => ⟨[(2, (.one (.val (.bool false))))], []⟩
theorem t114_0 {a0 : ByteArray} (hy0 : ByteArray.size a0 ≤ 140737488351232) : ∀ (n_114_0 : Nat) (i_114_0 : Int) , 0 ≤ i_114_0 → n_114_0 = Int.toNat ((ByteArray.size a0 : Int) - i_114_0) → (ByteArray.size a0 : Int) ≤ 9223372036854775807 → Ev F X (.code l114_0 (h114_0 a0 i_114_0 ) (ex114_0 (r114_0 a0 n_114_0 i_114_0 )) (fin114_0 a0 (r114_0 a0 n_114_0 i_114_0 )))
  | 0, i_114_0, hn0, hn, hi0 => by
    have hc : ¬ (decide (i_114_0 < (ByteArray.size a0 : Int))) = true := by
      simp only [decide_eq_true_eq]; omega
    have st := codeH_ok (F := F) (X := X) (c := b114_0) (t := 0) (hs := [(8, .b false)]) (σ := h114_0 a0 i_114_0 ) (σ' := ⟨[(0, (.one (.val (.string a0)))), (3, (.one (.val (.int .i64 i_114_0)))), (7, (.one (.val (.bool (decide (i_114_0 < (ByteArray.size a0 : Int)))))))], []⟩) (e := (.exit 0)) (t' := 9) (hs' := []) (q := [(decide (i_114_0 < (ByteArray.size a0 : Int))) = false]) (by kernel_rfl) ⟨(nt hc), trivial⟩
    rw [show (⟨[(0, (.one (.val (.string a0)))), (3, (.one (.val (.int .i64 i_114_0)))), (7, (.one (.val (.bool (decide (i_114_0 < (ByteArray.size a0 : Int)))))))], []⟩ : St) = fin114_0 a0 (.k0 i_114_0 (decide (i_114_0 < (ByteArray.size a0 : Int)))) from by first | rfl | (unfold fin114_0; simp [byteRows_eq, ints_y, List.take_of_length_le, d_isii, d_b, d_i, d_y, d_iLyE, d_LyE, d_LLyEE, d_s, fromBR_isii, fromBR_b, fromBR_i, fromBR_y, fromBR_s]; done)] at st
    exact .loopX st (show ((.exit 0) : VX.Exit) ≠ .normal from by simp)
  | n_114_0 + 1, i_114_0, hn0, hn, hi0 => by
    have hc : (decide (i_114_0 < (ByteArray.size a0 : Int))) = true := by
      simp only [decide_eq_true_eq]; omega
    have hw : IntKind.wrap .i64 (i_114_0 + 1) = i_114_0 + 1 := wrap64 (by omega)
    have hj0 := hi0; try simp only [List.length_map, List.length_set, List.length_append, List.length_replicate, List.length_cons, List.length_nil, Int.toNat_natCast] at hj0
    simp only [r114_0]
    by_cases h_114_0_1 : (!(m148 (byteAt a0 i_114_0))) = true
    · try simp only [if_pos h_114_0_1]
      have st := codeH_ok (F := F) (X := X) (c := b114_0) (t := 0) (hs := [(8, .b true), (16, .ret [] [(.one (.val (.bool (m148 (byteAt a0 i_114_0)))))] [] []), (19, .b true)]) (σ := h114_0 a0 i_114_0 ) (σ' := ⟨[(2, (.one (.val (.bool false))))], []⟩) (e := .ret) (t' := 22) (hs' := []) (q := [(decide (i_114_0 < (ByteArray.size a0 : Int))) = true, 0 ≤ i_114_0 ∧ i_114_0 < (ByteArray.size a0 : Int), Ev F X (.call 148 [(.one (.val (.int .u8 (byteAt a0 i_114_0))))] [] [] [(.one (.val (.bool (m148 (byteAt a0 i_114_0)))))]), (!(m148 (byteAt a0 i_114_0))) = true]) (by kernel_rfl) ⟨hc, (by first | exact True.intro | with_reducible rfl | with_reducible assumption | omega | (simp only [decide_eq_true_eq] at *; omega) | (simp only [List.length_map, List.length_set, List.length_append, List.length_replicate, List.length_cons, List.length_nil]; omega) | (simp; omega) | (simp [List.take_of_length_le]; done) | assumption | trivial | (simp [*, byteRows_eq, ints_y]; done)), (e148 (a0 := (byteAt a0 i_114_0))), h_114_0_1, trivial⟩
      rw [show (⟨[(2, (.one (.val (.bool false))))], []⟩ : St) = fin114_0 a0 (.k1) from by first | rfl | (unfold fin114_0; simp [byteRows_eq, ints_y, List.take_of_length_le, d_isii, d_b, d_i, d_y, d_iLyE, d_LyE, d_LLyEE, d_s, fromBR_isii, fromBR_b, fromBR_i, fromBR_y, fromBR_s]; done)] at st
      exact .loopX st (show (.ret : VX.Exit) ≠ .normal from by simp)
    · try simp only [if_neg h_114_0_1]
      have st := codeH_ok (F := F) (X := X) (c := b114_0) (t := 0) (hs := [(8, .b true), (16, .ret [] [(.one (.val (.bool (m148 (byteAt a0 i_114_0)))))] [] []), (19, .b false)]) (σ := h114_0 a0 i_114_0 ) (σ' := ⟨[(0, (.one (.val (.string a0)))), (3, (.one (.val (.int .i64 (IntKind.wrap .i64 (i_114_0 + 1))))))], []⟩) (e := .normal) (t' := 26) (hs' := []) (q := [(decide (i_114_0 < (ByteArray.size a0 : Int))) = true, 0 ≤ i_114_0 ∧ i_114_0 < (ByteArray.size a0 : Int), Ev F X (.call 148 [(.one (.val (.int .u8 (byteAt a0 i_114_0))))] [] [] [(.one (.val (.bool (m148 (byteAt a0 i_114_0)))))]), (!(m148 (byteAt a0 i_114_0))) = false, True]) (by kernel_rfl) ⟨hc, (by first | exact True.intro | with_reducible rfl | with_reducible assumption | omega | (simp only [decide_eq_true_eq] at *; omega) | (simp only [List.length_map, List.length_set, List.length_append, List.length_replicate, List.length_cons, List.length_nil]; omega) | (simp; omega) | (simp [List.take_of_length_le]; done) | assumption | trivial | (simp [*, byteRows_eq, ints_y]; done)), (e148 (a0 := (byteAt a0 i_114_0))), (nt h_114_0_1), trivial, trivial⟩
      have ih := t114_0 (a0 := a0) hy0 n_114_0 (i_114_0 + 1)  (by omega) (by omega) (by first | omega | (simp only [List.length_map, List.length_set, List.length_append, List.length_replicate, List.length_cons, List.length_nil]; omega) | (simp only [List.length_map, List.length_set, List.length_append, List.length_replicate, List.length_cons, List.length_nil]; assumption) | assumption | (simp only [List.length_map, List.length_set, List.length_append, List.length_replicate, List.length_cons, List.length_nil] at *; omega))
      rw [show (⟨[(0, (.one (.val (.string a0)))), (3, (.one (.val (.int .i64 (IntKind.wrap .i64 (i_114_0 + 1))))))], []⟩ : St) = h114_0 a0 (i_114_0 + 1)  from by first | (unfold h114_0; simp only [hw]; done) | (unfold h114_0; simp only [hw, List.length_map, List.length_set, List.length_append, List.length_replicate, List.length_cons, List.length_nil]; done) | (unfold h114_0; simp [hw, byteRows_eq, ints_y, List.take_of_length_le, d_isii, d_b, d_i, d_y, d_iLyE, d_LyE, d_LLyEE, d_s, fromBR_isii, fromBR_b, fromBR_i, fromBR_y, fromBR_s]; done)] at st
      exact .loopN st ih
/-! loop.example/g00539/spec.l9Arg -/
def m114 (a0 : ByteArray) : Bool :=
  (match r114_0 a0 (Int.toNat (ByteArray.size a0 : Int)) 0 with | .k0 w0_114_0_0 w1_114_0_0 => (decide ((ByteArray.size a0 : Int) ≤ 12)) | .k1 => false)
theorem e114 {a0 : ByteArray} (hy0 : ByteArray.size a0 ≤ 140737488351232) : Ev F X (.call 114 [(.one (.val (.string a0)))] [] [] [(.one (.val (.bool (m114 a0))))]) := by
  unfold m114
  cases h0 : r114_0 a0 (Int.toNat (ByteArray.size a0 : Int)) 0 with
  | k0 w0_114_0_0 w1_114_0_0 =>
    try dsimp only
    have f0 : (⟨[(0, (.one (.val (.string a0)))), (3, (.one (.val (.int .i64 0))))], []⟩ : St) = h114_0 a0 0  := (by first | rfl | (unfold h114_0; simp [byteRows_eq, ints_y, List.take_of_length_le, d_isii, d_b, d_i, d_y, d_iLyE, d_LyE, d_LLyEE, d_s, fromBR_isii, fromBR_b, fromBR_i, fromBR_y, fromBR_s]; done))
    have f1 : Ev F X (.code l114_0 (h114_0 a0 0 ) (.exit 0) ⟨[(0, (.one (.val (.string a0)))), (3, (.one (.val (.int .i64 w0_114_0_0)))), (7, (.one (.val (.bool w1_114_0_0))))], []⟩) := (by have t : Ev F X (.code l114_0 (h114_0 a0 0 ) (ex114_0 (r114_0 a0 (Int.toNat (ByteArray.size a0 : Int)) 0)) (fin114_0 a0 (r114_0 a0 (Int.toNat (ByteArray.size a0 : Int)) 0))) := t114_0 (a0 := a0) (by first | assumption | omega) _ 0  (by omega) (by omega) (by first | rfl | omega | (simp only [List.length_map, List.length_set, List.length_append, List.length_replicate, List.length_cons, List.length_nil]; done) | (simp only [List.length_map, List.length_set, List.length_append, List.length_replicate, List.length_cons, List.length_nil]; omega) | (simp; done)); rw [h0] at t; exact t)
    exact callP_ok (ps := []) (os := []) (rs := [(.one (.val (.bool (decide ((ByteArray.size a0 : Int) ≤ 12)))))]) (by kernel_rfl) (.f f0 (.f f1 (.h 4 (.loop (h114_0 a0 0 ) (.exit 0) ⟨[(0, (.one (.val (.string a0)))), (3, (.one (.val (.int .i64 w0_114_0_0)))), (7, (.one (.val (.bool w1_114_0_0))))], []⟩) .nil)))
  | k1 =>
    try dsimp only
    have f0 : (⟨[(0, (.one (.val (.string a0)))), (3, (.one (.val (.int .i64 0))))], []⟩ : St) = h114_0 a0 0  := (by first | rfl | (unfold h114_0; simp [byteRows_eq, ints_y, List.take_of_length_le, d_isii, d_b, d_i, d_y, d_iLyE, d_LyE, d_LLyEE, d_s, fromBR_isii, fromBR_b, fromBR_i, fromBR_y, fromBR_s]; done))
    have f1 : Ev F X (.code l114_0 (h114_0 a0 0 ) .ret ⟨[(2, (.one (.val (.bool false))))], []⟩) := (by have t : Ev F X (.code l114_0 (h114_0 a0 0 ) (ex114_0 (r114_0 a0 (Int.toNat (ByteArray.size a0 : Int)) 0)) (fin114_0 a0 (r114_0 a0 (Int.toNat (ByteArray.size a0 : Int)) 0))) := t114_0 (a0 := a0) (by first | assumption | omega) _ 0  (by omega) (by omega) (by first | rfl | omega | (simp only [List.length_map, List.length_set, List.length_append, List.length_replicate, List.length_cons, List.length_nil]; done) | (simp only [List.length_map, List.length_set, List.length_append, List.length_replicate, List.length_cons, List.length_nil]; omega) | (simp; done)); rw [h0] at t; exact t)
    exact callP_ok (ps := []) (os := []) (rs := [(.one (.val (.bool false)))]) (by kernel_rfl) (.f f0 (.f f1 (.h 4 (.loop (h114_0 a0 0 ) .ret ⟨[(2, (.one (.val (.bool false))))], []⟩) .nil)))
theorem arg_len114 {a : ByteArray} (h : m114 a = true) : ByteArray.size a ≤ 12 := by
  unfold m114 at h
  split at h
  · simp only [decide_eq_true_eq] at h; omega
  · cases h
/-! loop.example/g00539/spec.l4Sum -/
def m115 (a0 : Int) : Bool :=
  (m113 a0 0 2147483646)
theorem e115 {a0 : Int} : Ev F X (.call 115 [(.one (.val (.int .i64 a0)))] [] [] [(.one (.val (.bool (m113 a0 0 2147483646))))]) := by
  have f0 : Ev F X (.call 113 [(.one (.val (.int .i64 a0))), (.one (.val (.int .i64 0))), (.one (.val (.int .i64 2147483646)))] [] [] [(.one (.val (.bool (m113 a0 0 2147483646))))]) := (e113 (a0 := a0) (a1 := 0) (a2 := 2147483646))
  exact callP_ok (ps := []) (os := []) (rs := [(.one (.val (.bool (m113 a0 0 2147483646))))]) (by kernel_rfl) (.r 5 [] [] f0 .nil)
end Go.Proofs.YtdnopbpdiineiaaDoor.PackEntry
