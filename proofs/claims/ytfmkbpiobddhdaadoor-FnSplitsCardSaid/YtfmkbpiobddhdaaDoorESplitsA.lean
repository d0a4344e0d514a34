/- What the functions compute. -/
import Derived.Test.YtfmkbpiobddhdaaDoorTSplits
import Derived.Test.YtfmkbpiobddhdaaDoorVNum
import Derived.Test.YtfmkbpiobddhdaaDoorVClone
import Derived.Test.YtfmkbpiobddhdaaDoorVExt
import Derived.Test.YtfmkbpiobddhdaaDoorXSplits
import Derived.KernelRfl
namespace Go.Proofs.YtfmkbpiobddhdaaDoor.Splits
open Go Go.Proofs.YtfmkbpiobddhdaaDoor.V
set_option linter.unusedVariables false
set_option linter.unusedSimpArgs false
set_option maxRecDepth 20000
abbrev _root_.Go.Proofs.YtfmkbpiobddhdaaDoor.V.B.i (x : Int) : B := .val (.int .i64 x)
abbrev _root_.Go.Proofs.YtfmkbpiobddhdaaDoor.V.D.i (x : Int) : D := .val (.int .i64 x)
abbrev _root_.Go.Proofs.YtfmkbpiobddhdaaDoor.V.CV.i (x : Int) : CV := .val (.int .i64 x)
abbrev _root_.Go.Proofs.YtfmkbpiobddhdaaDoor.V.SV.oi (x : Int) : SV := .one (.val (.int .i64 x))
abbrev _root_.Go.Proofs.YtfmkbpiobddhdaaDoor.V.Ret.oi (x : Int) : Ret := .one (.val (.int .i64 x))
open List (length_replicate length_map length_set length_append length_cons length_nil length_take length_drop take_of_length_le map_take map_drop map_set append_assoc getElem?_map map length take drop getD set)
def X : Ext := fun f args rs => (f = 172 ∧ TrimX args rs)
def b_y (x : Int) : List B := [(.val (.int .u8 x))]
def d_y (x : Int) : List D := [(.val (.int .u8 x))]
theorem toBR_y : ∀ (l : List Int), toBR (l.map d_y) = l.map b_y
  | [] => rfl
  | x :: l => by simp [toBR, toBL, toB, d_y, b_y, toBR_y l]
theorem fullR_y : ∀ (l : List Int), fullR (l.map d_y) = true
  | [] => rfl
  | x :: l => by simp [fullR, fullL, full, d_y, fullR_y l]
theorem pureR_y : ∀ (l : List Int), pureR (l.map d_y) = true
  | [] => rfl
  | x :: l => by simp [pureR, pureL, V.pure, d_y, pureR_y l]
theorem ft_y (a b : Nat) (l : List Int) : fullR (take a (drop b (l.map d_y))) = true := by rw [← map_drop, ← map_take]; exact fullR_y _
theorem tbt_y (a b : Nat) (l : List Int) : toBR (take a (drop b (l.map d_y))) = (take a (drop b l)).map b_y := by rw [← map_drop, ← map_take]; exact toBR_y _
theorem tb_y (l : List Int) : toBR (take (l.map d_y).length (drop 0 (l.map d_y))) = l.map b_y := by rw [List.drop_zero, List.take_length]; exact toBR_y l
theorem lenB_y (l : List Int) : ∀ r ∈ l.map b_y, r.length = 1 := by intro r h; obtain ⟨x, _, rfl⟩ := List.mem_map.1 h; rfl
theorem lenD_y (l : List Int) : ∀ r ∈ l.map d_y, r.length = 1 := by intro r h; obtain ⟨x, _, rfl⟩ := List.mem_map.1 h; rfl
theorem fromBR_y (n : Nat) (l : List Int) : fromBR n (l.map b_y) = l.map d_y := by simp [fromBR, b_y, d_y, fromB, Function.comp_def]
theorem copy_y (l : List Int) : (l.map d_y).all (fun x => x.all copyable) = true := by simp [d_y, copyable, Function.comp_def]
theorem ct_y (a b : Nat) (l : List Int) : ((take a (drop b (l.map d_y))).all fun x => x.all copyable) = true := by rw [← map_drop, ← map_take]; exact copy_y _
def strInts (s : ByteArray) : List Int := s.data.toList.map fun b => (b.toNat : Int)
theorem ly_y (a : Int) (l : List Int) : [D.val (.int .u8 a)] :: map d_y l = map d_y (a :: l) := rfl
theorem ly0_y (a : Int) : [[D.val (.int .u8 a)]] = map d_y [a] := rfl
theorem strInts_len (s : ByteArray) : (strInts s).length = s.size := by simp [strInts]
theorem byteRows_len (s : ByteArray) : (byteRows s).length = s.size := by simp [byteRows]
theorem byteRows_eq (s : ByteArray) : byteRows s = (strInts s).map d_y := by simp [byteRows, strInts, d_y, Function.comp_def]
theorem tsi (s : ByteArray) : take (ByteArray.size s) (map d_y (strInts s)) = map d_y (strInts s) := by rw [take_of_length_le (by simp [strInts_len])]
theorem tbr (s : ByteArray) : take (ByteArray.size s) (byteRows s) = map d_y (strInts s) := by rw [byteRows_eq, tsi]
theorem ints_y : ∀ (l : List Int), rowsInts .u8 (l.map d_y) = some l
  | [] => rfl
  | x :: l => by simp only [List.map_cons, d_y, rowsInts, ints_y l]; rfl
def b_LyE (x : (List Int)) : List B := [(.sl (map b_y x))]
def d_LyE (x : (List Int)) : List D := [(.own 1 (map d_y x))]
theorem toBR_LyE : ∀ (l : List (List Int)), toBR (l.map d_LyE) = l.map b_LyE
  | [] => rfl
  | x :: l => by simp [toBR, toBL, toB, d_LyE, b_LyE, toBR_LyE l, toBR_y]
theorem fullR_LyE : ∀ (l : List (List Int)), fullR (l.map d_LyE) = true
  | [] => rfl
  | x :: l => by simp [fullR, fullL, full, d_LyE, fullR_LyE l, fullR_y]
theorem pureR_LyE : ∀ (l : List (List Int)), pureR (l.map d_LyE) = true
  | [] => rfl
  | x :: l => by simp [pureR, pureL, V.pure, d_LyE, pureR_LyE l, pureR_y]
theorem ft_LyE (a b : Nat) (l : List (List Int)) : fullR (take a (drop b (l.map d_LyE))) = true := by rw [← map_drop, ← map_take]; exact fullR_LyE _
theorem tbt_LyE (a b : Nat) (l : List (List Int)) : toBR (take a (drop b (l.map d_LyE))) = (take a (drop b l)).map b_LyE := by rw [← map_drop, ← map_take]; exact toBR_LyE _
theorem tb_LyE (l : List (List Int)) : toBR (take (l.map d_LyE).length (drop 0 (l.map d_LyE))) = l.map b_LyE := by rw [List.drop_zero, List.take_length]; exact toBR_LyE l
theorem lenB_LyE (l : List (List Int)) : ∀ r ∈ l.map b_LyE, r.length = 1 := by intro r h; obtain ⟨x, _, rfl⟩ := List.mem_map.1 h; rfl
theorem lenD_LyE (l : List (List Int)) : ∀ r ∈ l.map d_LyE, r.length = 1 := by intro r h; obtain ⟨x, _, rfl⟩ := List.mem_map.1 h; rfl
def ok_LyE (x : (List Int)) : Prop := (length x * 1 ≤ 140737488351232)
def os_LyE (x : (List Int)) : Prop := (length x * 1 ≤ 140737488351232)
theorem os_ok_LyE (x : (List Int)) (h : os_LyE x) : ok_LyE x := h
theorem gos_LyE {l : List (List Int)} (h : ∀ z ∈ l, os_LyE z) (n : Nat) (d : (List Int)) (hd : os_LyE d) : os_LyE (l.getD n d) := by
  rw [List.getD_eq_getElem?_getD]; cases h2 : l[n]? with
  | none => simpa using hd
  | some x => exact h x (List.mem_of_getElem? h2)
theorem gok_LyE {l : List (List Int)} (h : ∀ z ∈ l, ok_LyE z) (n : Nat) (d : (List Int)) (hd : ok_LyE d) : ok_LyE (l.getD n d) := by
  rw [List.getD_eq_getElem?_getD]; cases h2 : l[n]? with
  | none => simpa using hd
  | some x => exact h x (List.mem_of_getElem? h2)
def b_b (x : Bool) : List B := [(.val (.bool x))]
def d_b (x : Bool) : List D := [(.val (.bool x))]
theorem toBR_b : ∀ (l : List Bool), toBR (l.map d_b) = l.map b_b
  | [] => rfl
  | x :: l => by simp [toBR, toBL, toB, d_b, b_b, toBR_b l]
theorem fullR_b : ∀ (l : List Bool), fullR (l.map d_b) = true
  | [] => rfl
  | x :: l => by simp [fullR, fullL, full, d_b, fullR_b l]
theorem pureR_b : ∀ (l : List Bool), pureR (l.map d_b) = true
  | [] => rfl
  | x :: l => by simp [pureR, pureL, V.pure, d_b, pureR_b l]
theorem ft_b (a b : Nat) (l : List Bool) : fullR (take a (drop b (l.map d_b))) = true := by rw [← map_drop, ← map_take]; exact fullR_b _
theorem tbt_b (a b : Nat) (l : List Bool) : toBR (take a (drop b (l.map d_b))) = (take a (drop b l)).map b_b := by rw [← map_drop, ← map_take]; exact toBR_b _
theorem tb_b (l : List Bool) : toBR (take (l.map d_b).length (drop 0 (l.map d_b))) = l.map b_b := by rw [List.drop_zero, List.take_length]; exact toBR_b l
theorem lenB_b (l : List Bool) : ∀ r ∈ l.map b_b, r.length = 1 := by intro r h; obtain ⟨x, _, rfl⟩ := List.mem_map.1 h; rfl
theorem lenD_b (l : List Bool) : ∀ r ∈ l.map d_b, r.length = 1 := by intro r h; obtain ⟨x, _, rfl⟩ := List.mem_map.1 h; rfl
theorem fromBR_b (n : Nat) (l : List Bool) : fromBR n (l.map b_b) = l.map d_b := by simp [fromBR, b_b, d_b, fromB, Function.comp_def]
theorem copy_b (l : List Bool) : (l.map d_b).all (fun x => x.all copyable) = true := by simp [d_b, copyable, Function.comp_def]
theorem ct_b (a b : Nat) (l : List Bool) : ((take a (drop b (l.map d_b))).all fun x => x.all copyable) = true := by rw [← map_drop, ← map_take]; exact copy_b _
structure K_si where
  f0 : ByteArray
  f1 : Int
def b_si (x : K_si) : List B := [(.val (.string x.f0)), (.val (.int .i64 x.f1))]
def d_si (x : K_si) : List D := [(.val (.string x.f0)), (.val (.int .i64 x.f1))]
theorem toBR_si : ∀ (l : List K_si), toBR (l.map d_si) = l.map b_si
  | [] => rfl
  | x :: l => by simp [toBR, toBL, toB, d_si, b_si, toBR_si l]
theorem fullR_si : ∀ (l : List K_si), fullR (l.map d_si) = true
  | [] => rfl
  | x :: l => by simp [fullR, fullL, full, d_si, fullR_si l]
theorem pureR_si : ∀ (l : List K_si), pureR (l.map d_si) = true
  | [] => rfl
  | x :: l => by simp [pureR, pureL, V.pure, d_si, pureR_si l]
theorem ft_si (a b : Nat) (l : List K_si) : fullR (take a (drop b (l.map d_si))) = true := by rw [← map_drop, ← map_take]; exact fullR_si _
theorem tbt_si (a b : Nat) (l : List K_si) : toBR (take a (drop b (l.map d_si))) = (take a (drop b l)).map b_si := by rw [← map_drop, ← map_take]; exact toBR_si _
theorem tb_si (l : List K_si) : toBR (take (l.map d_si).length (drop 0 (l.map d_si))) = l.map b_si := by rw [List.drop_zero, List.take_length]; exact toBR_si l
theorem lenB_si (l : List K_si) : ∀ r ∈ l.map b_si, r.length = 2 := by intro r h; obtain ⟨x, _, rfl⟩ := List.mem_map.1 h; rfl
theorem lenD_si (l : List K_si) : ∀ r ∈ l.map d_si, r.length = 2 := by intro r h; obtain ⟨x, _, rfl⟩ := List.mem_map.1 h; rfl
def os_si (x : K_si) : Prop := (ByteArray.size x.f0 ≤ 140737488351232)
theorem gos_si {l : List K_si} (h : ∀ z ∈ l, os_si z) (n : Nat) (d : K_si) (hd : os_si d) : os_si (l.getD n d) := by
  rw [List.getD_eq_getElem?_getD]; cases h2 : l[n]? with
  | none => simpa using hd
  | some x => exact h x (List.mem_of_getElem? h2)
theorem fromBR_si (n : Nat) (l : List K_si) : fromBR n (l.map b_si) = l.map d_si := by simp [fromBR, b_si, d_si, fromB, Function.comp_def]
theorem copy_si (l : List K_si) : (l.map d_si).all (fun x => x.all copyable) = true := by simp [d_si, copyable, Function.comp_def]
theorem ct_si (a b : Nat) (l : List K_si) : ((take a (drop b (l.map d_si))).all fun x => x.all copyable) = true := by rw [← map_drop, ← map_take]; exact copy_si _
def b_LsiE (x : (List K_si)) : List B := [(.sl (map b_si x))]
def d_LsiE (x : (List K_si)) : List D := [(.own 2 (map d_si x))]
theorem toBR_LsiE : ∀ (l : List (List K_si)), toBR (l.map d_LsiE) = l.map b_LsiE
  | [] => rfl
  | x :: l => by simp [toBR, toBL, toB, d_LsiE, b_LsiE, toBR_LsiE l, toBR_si]
theorem fullR_LsiE : ∀ (l : List (List K_si)), fullR (l.map d_LsiE) = true
  | [] => rfl
  | x :: l => by simp [fullR, fullL, full, d_LsiE, fullR_LsiE l, fullR_si]
theorem pureR_LsiE : ∀ (l : List (List K_si)), pureR (l.map d_LsiE) = true
  | [] => rfl
  | x :: l => by simp [pureR, pureL, V.pure, d_LsiE, pureR_LsiE l, pureR_si]
theorem ft_LsiE (a b : Nat) (l : List (List K_si)) : fullR (take a (drop b (l.map d_LsiE))) = true := by rw [← map_drop, ← map_take]; exact fullR_LsiE _
theorem tbt_LsiE (a b : Nat) (l : List (List K_si)) : toBR (take a (drop b (l.map d_LsiE))) = (take a (drop b l)).map b_LsiE := by rw [← map_drop, ← map_take]; exact toBR_LsiE _
theorem tb_LsiE (l : List (List K_si)) : toBR (take (l.map d_LsiE).length (drop 0 (l.map d_LsiE))) = l.map b_LsiE := by rw [List.drop_zero, List.take_length]; exact toBR_LsiE l
theorem lenB_LsiE (l : List (List K_si)) : ∀ r ∈ l.map b_LsiE, r.length = 1 := by intro r h; obtain ⟨x, _, rfl⟩ := List.mem_map.1 h; rfl
theorem lenD_LsiE (l : List (List K_si)) : ∀ r ∈ l.map d_LsiE, r.length = 1 := by intro r h; obtain ⟨x, _, rfl⟩ := List.mem_map.1 h; rfl
def ok_LsiE (x : (List K_si)) : Prop := (length x * 24 ≤ 140737488351232)
def os_LsiE (x : (List K_si)) : Prop := (length x * 24 ≤ 140737488351232) ∧ (∀ z ∈ x, os_si z)
theorem os_ok_LsiE (x : (List K_si)) (h : os_LsiE x) : ok_LsiE x := h.1
theorem gos_LsiE {l : List (List K_si)} (h : ∀ z ∈ l, os_LsiE z) (n : Nat) (d : (List K_si)) (hd : os_LsiE d) : os_LsiE (l.getD n d) := by
  rw [List.getD_eq_getElem?_getD]; cases h2 : l[n]? with
  | none => simpa using hd
  | some x => exact h x (List.mem_of_getElem? h2)
theorem gok_LsiE {l : List (List K_si)} (h : ∀ z ∈ l, ok_LsiE z) (n : Nat) (d : (List K_si)) (hd : ok_LsiE d) : ok_LsiE (l.getD n d) := by
  rw [List.getD_eq_getElem?_getD]; cases h2 : l[n]? with
  | none => simpa using hd
  | some x => exact h x (List.mem_of_getElem? h2)
structure K_iLsiE where
  f0 : Int
  f1 : (List K_si)
def b_iLsiE (x : K_iLsiE) : List B := [(.val (.int .i64 x.f0)), (.sl (map b_si x.f1))]
def d_iLsiE (x : K_iLsiE) : List D := [(.val (.int .i64 x.f0)), (.own 2 (map d_si x.f1))]
theorem toBR_iLsiE : ∀ (l : List K_iLsiE), toBR (l.map d_iLsiE) = l.map b_iLsiE
  | [] => rfl
  | x :: l => by simp [toBR, toBL, toB, d_iLsiE, b_iLsiE, toBR_iLsiE l, toBR_si]
theorem fullR_iLsiE : ∀ (l : List K_iLsiE), fullR (l.map d_iLsiE) = true
  | [] => rfl
  | x :: l => by simp [fullR, fullL, full, d_iLsiE, fullR_iLsiE l, fullR_si]
theorem pureR_iLsiE : ∀ (l : List K_iLsiE), pureR (l.map d_iLsiE) = true
  | [] => rfl
  | x :: l => by simp [pureR, pureL, V.pure, d_iLsiE, pureR_iLsiE l, pureR_si]
theorem ft_iLsiE (a b : Nat) (l : List K_iLsiE) : fullR (take a (drop b (l.map d_iLsiE))) = true := by rw [← map_drop, ← map_take]; exact fullR_iLsiE _
theorem tbt_iLsiE (a b : Nat) (l : List K_iLsiE) : toBR (take a (drop b (l.map d_iLsiE))) = (take a (drop b l)).map b_iLsiE := by rw [← map_drop, ← map_take]; exact toBR_iLsiE _
theorem tb_iLsiE (l : List K_iLsiE) : toBR (take (l.map d_iLsiE).length (drop 0 (l.map d_iLsiE))) = l.map b_iLsiE := by rw [List.drop_zero, List.take_length]; exact toBR_iLsiE l
theorem lenB_iLsiE (l : List K_iLsiE) : ∀ r ∈ l.map b_iLsiE, r.length = 2 := by intro r h; obtain ⟨x, _, rfl⟩ := List.mem_map.1 h; rfl
theorem lenD_iLsiE (l : List K_iLsiE) : ∀ r ∈ l.map d_iLsiE, r.length = 2 := by intro r h; obtain ⟨x, _, rfl⟩ := List.mem_map.1 h; rfl
def ok_iLsiE (x : K_iLsiE) : Prop := (length x.f1 * 24 ≤ 140737488351232)
def os_iLsiE (x : K_iLsiE) : Prop := (length x.f1 * 24 ≤ 140737488351232) ∧ (∀ z ∈ x.f1, os_si z)
theorem os_ok_iLsiE (x : K_iLsiE) (h : os_iLsiE x) : ok_iLsiE x := h.1
theorem gos_iLsiE {l : List K_iLsiE} (h : ∀ z ∈ l, os_iLsiE z) (n : Nat) (d : K_iLsiE) (hd : os_iLsiE d) : os_iLsiE (l.getD n d) := by
  rw [List.getD_eq_getElem?_getD]; cases h2 : l[n]? with
  | none => simpa using hd
  | some x => exact h x (List.mem_of_getElem? h2)
theorem gok_iLsiE {l : List K_iLsiE} (h : ∀ z ∈ l, ok_iLsiE z) (n : Nat) (d : K_iLsiE) (hd : ok_iLsiE d) : ok_iLsiE (l.getD n d) := by
  rw [List.getD_eq_getElem?_getD]; cases h2 : l[n]? with
  | none => simpa using hd
  | some x => exact h x (List.mem_of_getElem? h2)
def b_i (x : Int) : List B := [(.val (.int .i64 x))]
def d_i (x : Int) : List D := [(.val (.int .i64 x))]
theorem toBR_i : ∀ (l : List Int), toBR (l.map d_i) = l.map b_i
  | [] => rfl
  | x :: l => by simp [toBR, toBL, toB, d_i, b_i, toBR_i l]
theorem fullR_i : ∀ (l : List Int), fullR (l.map d_i) = true
  | [] => rfl
  | x :: l => by simp [fullR, fullL, full, d_i, fullR_i l]
theorem pureR_i : ∀ (l : List Int), pureR (l.map d_i) = true
  | [] => rfl
  | x :: l => by simp [pureR, pureL, V.pure, d_i, pureR_i l]
theorem ft_i (a b : Nat) (l : List Int) : fullR (take a (drop b (l.map d_i))) = true := by rw [← map_drop, ← map_take]; exact fullR_i _
theorem tbt_i (a b : Nat) (l : List Int) : toBR (take a (drop b (l.map d_i))) = (take a (drop b l)).map b_i := by rw [← map_drop, ← map_take]; exact toBR_i _
theorem tb_i (l : List Int) : toBR (take (l.map d_i).length (drop 0 (l.map d_i))) = l.map b_i := by rw [List.drop_zero, List.take_length]; exact toBR_i l
theorem lenB_i (l : List Int) : ∀ r ∈ l.map b_i, r.length = 1 := by intro r h; obtain ⟨x, _, rfl⟩ := List.mem_map.1 h; rfl
theorem lenD_i (l : List Int) : ∀ r ∈ l.map d_i, r.length = 1 := by intro r h; obtain ⟨x, _, rfl⟩ := List.mem_map.1 h; rfl
theorem fromBR_i (n : Nat) (l : List Int) : fromBR n (l.map b_i) = l.map d_i := by simp [fromBR, b_i, d_i, fromB, Function.comp_def]
theorem copy_i (l : List Int) : (l.map d_i).all (fun x => x.all copyable) = true := by simp [d_i, copyable, Function.comp_def]
theorem ct_i (a b : Nat) (l : List Int) : ((take a (drop b (l.map d_i))).all fun x => x.all copyable) = true := by rw [← map_drop, ← map_take]; exact copy_i _
def b_s (x : ByteArray) : List B := [(.val (.string x))]
def d_s (x : ByteArray) : List D := [(.val (.string x))]
theorem toBR_s : ∀ (l : List ByteArray), toBR (l.map d_s) = l.map b_s
  | [] => rfl
  | x :: l => by simp [toBR, toBL, toB, d_s, b_s, toBR_s l]
theorem fullR_s : ∀ (l : List ByteArray), fullR (l.map d_s) = true
  | [] => rfl
  | x :: l => by simp [fullR, fullL, full, d_s, fullR_s l]
theorem pureR_s : ∀ (l : List ByteArray), pureR (l.map d_s) = true
  | [] => rfl
  | x :: l => by simp [pureR, pureL, V.pure, d_s, pureR_s l]
theorem ft_s (a b : Nat) (l : List ByteArray) : fullR (take a (drop b (l.map d_s))) = true := by rw [← map_drop, ← map_take]; exact fullR_s _
theorem tbt_s (a b : Nat) (l : List ByteArray) : toBR (take a (drop b (l.map d_s))) = (take a (drop b l)).map b_s := by rw [← map_drop, ← map_take]; exact toBR_s _
theorem tb_s (l : List ByteArray) : toBR (take (l.map d_s).length (drop 0 (l.map d_s))) = l.map b_s := by rw [List.drop_zero, List.take_length]; exact toBR_s l
theorem lenB_s (l : List ByteArray) : ∀ r ∈ l.map b_s, r.length = 1 := by intro r h; obtain ⟨x, _, rfl⟩ := List.mem_map.1 h; rfl
theorem lenD_s (l : List ByteArray) : ∀ r ∈ l.map d_s, r.length = 1 := by intro r h; obtain ⟨x, _, rfl⟩ := List.mem_map.1 h; rfl
def os_s (x : ByteArray) : Prop := (ByteArray.size x ≤ 140737488351232)
theorem gos_s {l : List ByteArray} (h : ∀ z ∈ l, os_s z) (n : Nat) (d : ByteArray) (hd : os_s d) : os_s (l.getD n d) := by
  rw [List.getD_eq_getElem?_getD]; cases h2 : l[n]? with
  | none => simpa using hd
  | some x => exact h x (List.mem_of_getElem? h2)
theorem fromBR_s (n : Nat) (l : List ByteArray) : fromBR n (l.map b_s) = l.map d_s := by simp [fromBR, b_s, d_s, fromB, Function.comp_def]
theorem copy_s (l : List ByteArray) : (l.map d_s).all (fun x => x.all copyable) = true := by simp [d_s, copyable, Function.comp_def]
theorem ct_s (a b : Nat) (l : List ByteArray) : ((take a (drop b (l.map d_s))).all fun x => x.all copyable) = true := by rw [← map_drop, ← map_take]; exact copy_s _
structure K_LyEi where
  f0 : (List Int)
  f1 : Int
def b_LyEi (x : K_LyEi) : List B := [(.sl (map b_y x.f0)), (.val (.int .i64 x.f1))]
def d_LyEi (x : K_LyEi) : List D := [(.own 1 (map d_y x.f0)), (.val (.int .i64 x.f1))]
theorem toBR_LyEi : ∀ (l : List K_LyEi), toBR (l.map d_LyEi) = l.map b_LyEi
  | [] => rfl
  | x :: l => by simp [toBR, toBL, toB, d_LyEi, b_LyEi, toBR_LyEi l, toBR_y]
theorem fullR_LyEi : ∀ (l : List K_LyEi), fullR (l.map d_LyEi) = true
  | [] => rfl
  | x :: l => by simp [fullR, fullL, full, d_LyEi, fullR_LyEi l, fullR_y]
theorem pureR_LyEi : ∀ (l : List K_LyEi), pureR (l.map d_LyEi) = true
  | [] => rfl
  | x :: l => by simp [pureR, pureL, V.pure, d_LyEi, pureR_LyEi l, pureR_y]
theorem ft_LyEi (a b : Nat) (l : List K_LyEi) : fullR (take a (drop b (l.map d_LyEi))) = true := by rw [← map_drop, ← map_take]; exact fullR_LyEi _
theorem tbt_LyEi (a b : Nat) (l : List K_LyEi) : toBR (take a (drop b (l.map d_LyEi))) = (take a (drop b l)).map b_LyEi := by rw [← map_drop, ← map_take]; exact toBR_LyEi _
theorem tb_LyEi (l : List K_LyEi) : toBR (take (l.map d_LyEi).length (drop 0 (l.map d_LyEi))) = l.map b_LyEi := by rw [List.drop_zero, List.take_length]; exact toBR_LyEi l
theorem lenB_LyEi (l : List K_LyEi) : ∀ r ∈ l.map b_LyEi, r.length = 2 := by intro r h; obtain ⟨x, _, rfl⟩ := List.mem_map.1 h; rfl
theorem lenD_LyEi (l : List K_LyEi) : ∀ r ∈ l.map d_LyEi, r.length = 2 := by intro r h; obtain ⟨x, _, rfl⟩ := List.mem_map.1 h; rfl
def ok_LyEi (x : K_LyEi) : Prop := (length x.f0 * 1 ≤ 140737488351232)
def os_LyEi (x : K_LyEi) : Prop := (length x.f0 * 1 ≤ 140737488351232)
theorem os_ok_LyEi (x : K_LyEi) (h : os_LyEi x) : ok_LyEi x := h
theorem gos_LyEi {l : List K_LyEi} (h : ∀ z ∈ l, os_LyEi z) (n : Nat) (d : K_LyEi) (hd : os_LyEi d) : os_LyEi (l.getD n d) := by
  rw [List.getD_eq_getElem?_getD]; cases h2 : l[n]? with
  | none => simpa using hd
  | some x => exact h x (List.mem_of_getElem? h2)
theorem gok_LyEi {l : List K_LyEi} (h : ∀ z ∈ l, ok_LyEi z) (n : Nat) (d : K_LyEi) (hd : ok_LyEi d) : ok_LyEi (l.getD n d) := by
  rw [List.getD_eq_getElem?_getD]; cases h2 : l[n]? with
  | none => simpa using hd
  | some x => exact h x (List.mem_of_getElem? h2)
def b_LiE (x : (List Int)) : List B := [(.sl (map b_i x))]
def d_LiE (x : (List Int)) : List D := [(.own 1 (map d_i x))]
theorem toBR_LiE : ∀ (l : List (List Int)), toBR (l.map d_LiE) = l.map b_LiE
  | [] => rfl
  | x :: l => by simp [toBR, toBL, toB, d_LiE, b_LiE, toBR_LiE l, toBR_i]
theorem fullR_LiE : ∀ (l : List (List Int)), fullR (l.map d_LiE) = true
  | [] => rfl
  | x :: l => by simp [fullR, fullL, full, d_LiE, fullR_LiE l, fullR_i]
theorem pureR_LiE : ∀ (l : List (List Int)), pureR (l.map d_LiE) = true
  | [] => rfl
  | x :: l => by simp [pureR, pureL, V.pure, d_LiE, pureR_LiE l, pureR_i]
theorem ft_LiE (a b : Nat) (l : List (List Int)) : fullR (take a (drop b (l.map d_LiE))) = true := by rw [← map_drop, ← map_take]; exact fullR_LiE _
theorem tbt_LiE (a b : Nat) (l : List (List Int)) : toBR (take a (drop b (l.map d_LiE))) = (take a (drop b l)).map b_LiE := by rw [← map_drop, ← map_take]; exact toBR_LiE _
theorem tb_LiE (l : List (List Int)) : toBR (take (l.map d_LiE).length (drop 0 (l.map d_LiE))) = l.map b_LiE := by rw [List.drop_zero, List.take_length]; exact toBR_LiE l
theorem lenB_LiE (l : List (List Int)) : ∀ r ∈ l.map b_LiE, r.length = 1 := by intro r h; obtain ⟨x, _, rfl⟩ := List.mem_map.1 h; rfl
theorem lenD_LiE (l : List (List Int)) : ∀ r ∈ l.map d_LiE, r.length = 1 := by intro r h; obtain ⟨x, _, rfl⟩ := List.mem_map.1 h; rfl
def ok_LiE (x : (List Int)) : Prop := (length x * 8 ≤ 140737488351232)
def os_LiE (x : (List Int)) : Prop := (length x * 8 ≤ 140737488351232)
theorem os_ok_LiE (x : (List Int)) (h : os_LiE x) : ok_LiE x := h
theorem gos_LiE {l : List (List Int)} (h : ∀ z ∈ l, os_LiE z) (n : Nat) (d : (List Int)) (hd : os_LiE d) : os_LiE (l.getD n d) := by
  rw [List.getD_eq_getElem?_getD]; cases h2 : l[n]? with
  | none => simpa using hd
  | some x => exact h x (List.mem_of_getElem? h2)
theorem gok_LiE {l : List (List Int)} (h : ∀ z ∈ l, ok_LiE z) (n : Nat) (d : (List Int)) (hd : ok_LiE d) : ok_LiE (l.getD n d) := by
  rw [List.getD_eq_getElem?_getD]; cases h2 : l[n]? with
  | none => simpa using hd
  | some x => exact h x (List.mem_of_getElem? h2)
attribute [local simp] strInts_len byteRows_len toBR_y fullR_y pureR_y lenB_y lenD_y fromBR_y copy_y toBR_LyE fullR_LyE pureR_LyE lenB_LyE lenD_LyE toBR_b fullR_b pureR_b lenB_b lenD_b fromBR_b copy_b toBR_si fullR_si pureR_si lenB_si lenD_si fromBR_si copy_si toBR_LsiE fullR_LsiE pureR_LsiE lenB_LsiE lenD_LsiE toBR_iLsiE fullR_iLsiE pureR_iLsiE lenB_iLsiE lenD_iLsiE toBR_i fullR_i pureR_i lenB_i lenD_i fromBR_i copy_i toBR_s fullR_s pureR_s lenB_s lenD_s fromBR_s copy_s toBR_LyEi fullR_LyEi pureR_LyEi lenB_LyEi lenD_LyEi toBR_LiE fullR_LiE pureR_LiE lenB_LiE lenD_LiE
def S (a : K_LyEi) (n : Nat) : Prop := (∀ z ∈ a.f0, (0 : Int) ≤ z ∧ z ≤ 255) ∧ length a.f0 ≤ 140737488351232 ∧ 0 ≤ a.f1 ∧ a.f1 + n ≤ 1000000
theorem S_le {a : K_LyEi} {n m : Nat} (h : S a n) (hm : m ≤ n) : S a m := ⟨h.1, h.2.1, h.2.2.1, by have := h.2.2.2; omega⟩
theorem at_eq (a : K_LyEi) (h : S a 1) : IntKind.wrap .i64 (IntKind.wrap .i64 (a.f1 + 1) - 1) = a.f1 ∧ IntKind.wrap .i64 (a.f1 + 1) = a.f1 + 1 := by
  obtain ⟨_, _, h1, h2⟩ := h
  have e : IntKind.wrap .i64 (a.f1 + 1) = a.f1 + 1 := wrap64 (by omega)
  refine ⟨?_, e⟩
  rw [e, wrap64 (by omega)]; omega
theorem idx_lt (x : Int) (l : List Int) (h0 : 0 ≤ x) (h : ((length (map b_y l)) : Int) ≠ 0) : Int.toNat (Int.tmod x ((length (map b_y l)) : Int)) < length l := by
  rw [length_map] at h ⊢
  have h1 := Int.tmod_lt_of_pos x (show (0 : Int) < (l.length : Int) by omega)
  have h2 := Int.tmod_nonneg (l.length : Int) h0
  omega
theorem getD_b (l : List Int) (h : ∀ z ∈ l, (0 : Int) ≤ z ∧ z ≤ 255) (i : Nat) : 0 ≤ getD l i 0 ∧ getD l i 0 ≤ 255 := by
  rw [List.getD_eq_getElem?_getD]
  cases e : l[i]? with
  | none => simp
  | some z => exact h z (List.mem_of_getElem? e)
/-! loop.example/g00539/laws.lwBig -/
def m38 (a0 : (List Int)) : Bool :=
  (decide (((length (map b_y a0)) : Int) > 1048576))
theorem e38 {l0_0 : Nat} {a0 : (List Int)} : Ev F X (.call 38 [(.one (.bor l0_0 (map b_y a0)))] [] [] [(.one (.val (.bool (m38 a0))))]) := by
  exact callP_ok (ps := []) (os := []) (rs := [(.one (.val (.bool (decide (((length (map b_y a0)) : Int) > 1048576)))))]) (by kernel_rfl) .nil
/-! loop.example/g00539/impl.in -/
def m93 (a0 : Int) (a1 : Int) (a2 : Int) : Bool :=
  if (decide (a0 ≥ a1)) = true then (decide (a0 ≤ a2)) else
  false
theorem e93 {a0 : Int} {a1 : Int} {a2 : Int} : Ev F X (.call 93 [(.one (.val (.int .i64 a0))), (.one (.val (.int .i64 a1))), (.one (.val (.int .i64 a2)))] [] [] [(.one (.val (.bool (m93 a0 a1 a2))))]) := by
  unfold m93
  by_cases h0 : (decide (a0 ≥ a1)) = true
  · try simp only [if_pos h0]
    exact callP_ok (ps := []) (os := []) (rs := [(.one (.val (.bool (decide (a0 ≤ a2)))))]) (by kernel_rfl) (.f h0 (.f h0 (.f h0 (.f h0 (.h 10 (.b true) (.h 12 (.b true) (.h 14 (.b true) (.h 17 (.b true) .nil))))))))
  · try simp only [if_neg h0]
    exact callP_ok (ps := []) (os := []) (rs := [(.one (.val (.bool false)))]) (by kernel_rfl) (.f (nt h0) (.f (nt h0) (.f (nt h0) (.f (nt h0) (.h 10 (.b false) (.h 12 (.b false) (.h 14 (.b false) (.h 17 (.b false) .nil))))))))
theorem jn93 {a b c : Int} (h : ¬ (!(m93 a b c)) = true) : b ≤ a ∧ a ≤ c := by
  simp only [Bool.not_eq_true', Bool.not_eq_false] at h
  unfold m93 at h; split at h <;> simp_all <;> omega
/-! strings.Trim -/
theorem e172 {a0 a1 : ByteArray} (hy0 : ByteArray.size a0 ≤ 9223372036854775807) (hy1 : ByteArray.size a1 < 4294967281) (hy2 : asciiB a1 = true) : Ev F X (.call 172 [(.one (.val (.string a0))), (.one (.val (.string a1)))] [] [] [(.one (.val (.string (trimB a0 a1))))]) :=
  .ext (⟨rfl, (⟨a0, a1, hy0, hy1, hy2, rfl, rfl⟩)⟩)
/-! loop.example/g00539/impl.argOk -/
def m155 (a0 : ByteArray) : Bool :=
  if (decide ((ByteArray.size a0 : Int) ≤ 12)) = true then ((trimB a0 (⟨#[97, 98, 99, 100, 101, 102, 103, 104, 105, 106, 107, 108, 109, 110, 111, 112, 113, 114, 115, 116, 117, 118, 119, 120, 121, 122, 65, 66, 67, 68, 69, 70, 71, 72, 73, 74, 75, 76, 77, 78, 79, 80, 81, 82, 83, 84, 85, 86, 87, 88, 89, 90, 48, 49, 50, 51, 52, 53, 54, 55, 56, 57]⟩ : ByteArray)).toList == (⟨#[]⟩ : ByteArray).toList) else
  false
theorem e155 {a0 : ByteArray} : Ev F X (.call 155 [(.one (.val (.string a0)))] [] [] [(.one (.val (.bool (m155 a0))))]) := by
  unfold m155
  by_cases h0 : (decide ((ByteArray.size a0 : Int) ≤ 12)) = true
  · try simp only [if_pos h0]
    have f2 : Ev F X (.call 172 [(.one (.val (.string a0))), (.one (.val (.string (⟨#[97, 98, 99, 100, 101, 102, 103, 104, 105, 106, 107, 108, 109, 110, 111, 112, 113, 114, 115, 116, 117, 118, 119, 120, 121, 122, 65, 66, 67, 68, 69, 70, 71, 72, 73, 74, 75, 76, 77, 78, 79, 80, 81, 82, 83, 84, 85, 86, 87, 88, 89, 90, 48, 49, 50, 51, 52, 53, 54, 55, 56, 57]⟩ : ByteArray))))] [] [] [(.one (.val (.string (trimB a0 (⟨#[97, 98, 99, 100, 101, 102, 103, 104, 105, 106, 107, 108, 109, 110, 111, 112, 113, 114, 115, 116, 117, 118, 119, 120, 121, 122, 65, 66, 67, 68, 69, 70, 71, 72, 73, 74, 75, 76, 77, 78, 79, 80, 81, 82, 83, 84, 85, 86, 87, 88, 89, 90, 48, 49, 50, 51, 52, 53, 54, 55, 56, 57]⟩ : ByteArray)))))]) := (e172 (a0 := a0) (a1 := (⟨#[97, 98, 99, 100, 101, 102, 103, 104, 105, 106, 107, 108, 109, 110, 111, 112, 113, 114, 115, 116, 117, 118, 119, 120, 121, 122, 65, 66, 67, 68, 69, 70, 71, 72, 73, 74, 75, 76, 77, 78, 79, 80, 81, 82, 83, 84, 85, 86, 87, 88, 89, 90, 48, 49, 50, 51, 52, 53, 54, 55, 56, 57]⟩ : ByteArray)) (by simp only [decide_eq_true_eq] at *; omega) (by decide) (by decide))
    exact callP_ok (ps := []) (os := []) (rs := [(.one (.val (.bool ((trimB a0 (⟨#[97, 98, 99, 100, 101, 102, 103, 104, 105, 106, 107, 108, 109, 110, 111, 112, 113, 114, 115, 116, 117, 118, 119, 120, 121, 122, 65, 66, 67, 68, 69, 70, 71, 72, 73, 74, 75, 76, 77, 78, 79, 80, 81, 82, 83, 84, 85, 86, 87, 88, 89, 90, 48, 49, 50, 51, 52, 53, 54, 55, 56, 57]⟩ : ByteArray)).toList == (⟨#[]⟩ : ByteArray).toList))))]) (by kernel_rfl) (.f h0 (.f h0 (.h 10 (.b true) (.h 12 (.b true) (.r 13 [] [] f2 (.f h0 (.f h0 (.h 14 (.b true) (.h 17 (.b true) .nil)))))))))
  · try simp only [if_neg h0]
    exact callP_ok (ps := []) (os := []) (rs := [(.one (.val (.bool false)))]) (by kernel_rfl) (.f (nt h0) (.f (nt h0) (.f (nt h0) (.f (nt h0) (.h 10 (.b false) (.h 12 (.b false) (.h 14 (.b false) (.h 17 (.b false) .nil))))))))
/-! loop.example/g00539/impl.workerOk -/
def m113 (a0 : ByteArray) : Bool :=
  if (!(a0.toList == (⟨#[]⟩ : ByteArray).toList)) = true then (m155 a0) else
  false
theorem e113 {a0 : ByteArray} : Ev F X (.call 113 [(.one (.val (.string a0)))] [] [] [(.one (.val (.bool (m113 a0))))]) := by
  unfold m113
  by_cases h0 : (!(a0.toList == (⟨#[]⟩ : ByteArray).toList)) = true
  · try simp only [if_pos h0]
    have f2 : Ev F X (.call 155 [(.one (.val (.string a0)))] [] [] [(.one (.val (.bool (m155 a0))))]) := (e155 (a0 := a0))
    exact callP_ok (ps := []) (os := []) (rs := [(.one (.val (.bool (m155 a0))))]) (by kernel_rfl) (.f h0 (.f h0 (.h 8 (.b true) (.h 10 (.b true) (.r 11 [] [] f2 (.f h0 (.h 13 (.b true) .nil)))))))
  · try simp only [if_neg h0]
    exact callP_ok (ps := []) (os := []) (rs := [(.one (.val (.bool false)))]) (by kernel_rfl) (.f (nt h0) (.f (nt h0) (.f (nt h0) (.h 8 (.b false) (.h 10 (.b false) (.h 13 (.b false) .nil))))))
/-! loop 46_0 -/
inductive O46_0 where
  | k0 (w0 : Int) (w1 : Bool)
  | k1
  | k2
def r46_0 (a0 : (List K_si)) : List K_si → Int → O46_0
  | x0 :: y0, i =>
    if (!(m113 x0.f0)) = true then (O46_0.k1) else
    if (!(m93 x0.f1 1 9999)) = true then (O46_0.k2) else
      (r46_0 a0 y0 (i + 1) )
  | [], i => (O46_0.k0 i (decide (i < ((length (map b_si a0)) : Int))))
def h46_0 (l0_0 : Nat) (a0 : (List K_si)) (i : Int)  : St := ⟨[(8, (.one (.bor l0_0 (map b_si a0)))), (9, (.one (.val (.int .i64 ((length (map b_si a0)) : Int))))), (10, (.one (.val (.int .i64 i))))], []⟩
def ex46_0 : O46_0 → VX.Exit
  | .k0 _ _ => (.exit 0)
  | .k1 => .ret
  | .k2 => .ret
def fin46_0 (l0_0 : Nat) (a0 : (List K_si)) : O46_0 → St
  | .k0 w0 w1 => ⟨[(8, (.one (.bor l0_0 (map b_si a0)))), (9, (.one (.val (.int .i64 ((length (map b_si a0)) : Int))))), (10, (.one (.val (.int .i64 w0)))), (11, (.one (.val (.bool w1))))], []⟩
  | .k1 => ⟨[(2, (.one (.val (.int .i64 5))))], []⟩
  | .k2 => ⟨[(2, (.one (.val (.int .i64 3))))], []⟩
theorem t46_0 {l0_0 : Nat} {a0 : (List K_si)} (hy0 : length a0 * 24 ≤ 140737488351232) : ∀ (y0 : List K_si) (p : List K_si) , p ++ y0 = a0 → Ev F X (.code l46_0 (h46_0 l0_0 a0 (length p : Int) ) (ex46_0 (r46_0 a0 y0 (length p : Int) )) (fin46_0 l0_0 a0 (r46_0 a0 y0 (length p : Int) )))
  | [], p, hp0 => by
    have hc : ¬ (decide ((length p : Int) < ((length (map b_si a0)) : Int))) = true := by
      rw [← hp0]; simp only [length_map, length_set, length_append, length_replicate, length_cons, length_nil, decide_eq_true_eq]; omega
    have st := codeH_ok (F := F) (X := X) (c := b46_0) (t := 0) (hs := [(2, .b false)]) (σ := h46_0 l0_0 a0 (length p : Int) ) (σ' := fin46_0 l0_0 a0 (.k0 (length p : Int) (decide ((length p : Int) < ((length (map b_si a0)) : Int))))) (e := (.exit 0)) (t' := 3) (hs' := []) (q := [(decide ((length p : Int) < ((length (map b_si a0)) : Int))) = false]) (by kernel_rfl) ⟨(nt hc), trivial⟩
    exact .loopX st (show ((.exit 0) : VX.Exit) ≠ .normal from by simp)
  | x0 :: y0, p, hp0 => by
    have hc : (decide ((length p : Int) < ((length (map b_si a0)) : Int))) = true := by
      rw [← hp0]; simp only [length_map, length_set, length_append, length_replicate, length_cons, length_nil, decide_eq_true_eq]; omega
    have Hx0 : (a0)[Int.toNat (length p : Int)]? = some x0 := by
      rw [← hp0, Int.toNat_natCast]; simp
    have hlen : length (a0) = length p + length y0 + 1 := by rw [← hp0]; simp; omega
    have hw : IntKind.wrap .i64 ((length p : Int) + 1) = (length p : Int) + 1 := wrap64 (by omega)
    simp only [r46_0]
    by_cases h_1 : (!(m113 x0.f0)) = true
    · try simp only [if_pos h_1]
      have st := codeH_ok (F := F) (X := X) (c := b46_0) (t := 0) (hs := [(2, .b true), (4, .row [(.val (.string x0.f0)), (.i x0.f1)]), (16, .ret [] [(.one (.val (.bool (m113 x0.f0))))] [] []), (21, .b true)]) (σ := h46_0 l0_0 a0 (length p : Int) ) (σ' := fin46_0 l0_0 a0 (.k1)) (e := .ret) (t' := 24) (hs' := []) (q := [(decide ((length p : Int) < ((length (map b_si a0)) : Int))) = true, 0 ≤ (length p : Int), (map b_si a0)[(Int.toNat (length p : Int))]? = some [(.val (.string x0.f0)), (.i x0.f1)], Ev F X (.call 113 [(.one (.val (.string x0.f0)))] [] [] [(.one (.val (.bool (m113 x0.f0))))]), (!(m113 x0.f0)) = true]) (by kernel_rfl) ⟨hc, (by omega), (by rw [getElem?_map, Hx0]; rfl), (e113 (a0 := x0.f0)), h_1, trivial⟩
      exact .loopX st (show (.ret : VX.Exit) ≠ .normal from by simp)
    · try simp only [if_neg h_1]
      by_cases h_2 : (!(m93 x0.f1 1 9999)) = true
      · try simp only [if_pos h_2]
        have st := codeH_ok (F := F) (X := X) (c := b46_0) (t := 0) (hs := [(2, .b true), (4, .row [(.val (.string x0.f0)), (.i x0.f1)]), (16, .ret [] [(.one (.val (.bool (m113 x0.f0))))] [] []), (21, .b false), (27, .ret [] [(.one (.val (.bool (m93 x0.f1 1 9999))))] [] []), (32, .b true)]) (σ := h46_0 l0_0 a0 (length p : Int) ) (σ' := fin46_0 l0_0 a0 (.k2)) (e := .ret) (t' := 35) (hs' := []) (q := [(decide ((length p : Int) < ((length (map b_si a0)) : Int))) = true, 0 ≤ (length p : Int), (map b_si a0)[(Int.toNat (length p : Int))]? = some [(.val (.string x0.f0)), (.i x0.f1)], Ev F X (.call 113 [(.one (.val (.string x0.f0)))] [] [] [(.one (.val (.bool (m113 x0.f0))))]), (!(m113 x0.f0)) = false, Ev F X (.call 93 [(.oi x0.f1), (.oi 1), (.oi 9999)] [] [] [(.one (.val (.bool (m93 x0.f1 1 9999))))]), (!(m93 x0.f1 1 9999)) = true]) (by kernel_rfl) ⟨hc, (by omega), (by rw [getElem?_map, Hx0]; rfl), (e113 (a0 := x0.f0)), (nt h_1), (e93 (a0 := x0.f1) (a1 := 1) (a2 := 9999)), h_2, trivial⟩
        exact .loopX st (show (.ret : VX.Exit) ≠ .normal from by simp)
      · try simp only [if_neg h_2]
        have st := codeH_ok (F := F) (X := X) (c := b46_0) (t := 0) (hs := [(2, .b true), (4, .row [(.val (.string x0.f0)), (.i x0.f1)]), (16, .ret [] [(.one (.val (.bool (m113 x0.f0))))] [] []), (21, .b false), (27, .ret [] [(.one (.val (.bool (m93 x0.f1 1 9999))))] [] []), (32, .b false)]) (σ := h46_0 l0_0 a0 (length p : Int) ) (σ' := ⟨[(8, (.one (.bor l0_0 (map b_si a0)))), (9, (.oi ((length (map b_si a0)) : Int))), (10, (.oi (IntKind.wrap .i64 ((length p : Int) + 1))))], []⟩) (e := .normal) (t' := 37) (hs' := []) (q := [(decide ((length p : Int) < ((length (map b_si a0)) : Int))) = true, 0 ≤ (length p : Int), (map b_si a0)[(Int.toNat (length p : Int))]? = some [(.val (.string x0.f0)), (.i x0.f1)], Ev F X (.call 113 [(.one (.val (.string x0.f0)))] [] [] [(.one (.val (.bool (m113 x0.f0))))]), (!(m113 x0.f0)) = false, Ev F X (.call 93 [(.oi x0.f1), (.oi 1), (.oi 9999)] [] [] [(.one (.val (.bool (m93 x0.f1 1 9999))))]), (!(m93 x0.f1 1 9999)) = false, True]) (by kernel_rfl) ⟨hc, (by omega), (by rw [getElem?_map, Hx0]; rfl), (e113 (a0 := x0.f0)), (nt h_1), (e93 (a0 := x0.f1) (a1 := 1) (a2 := 9999)), (nt h_2), trivial, trivial⟩
        have ih := t46_0 (l0_0 := l0_0) (a0 := a0) hy0 y0 (p ++ [x0])  (by rw [append_assoc]; exact hp0)
        rw [show ((p ++ [x0]).length : Int) = (p.length : Int) + 1 from by simp] at ih
        rw [show (⟨[(8, (.one (.bor l0_0 (map b_si a0)))), (9, (.oi ((length (map b_si a0)) : Int))), (10, (.oi (IntKind.wrap .i64 ((length p : Int) + 1))))], []⟩ : St) = h46_0 l0_0 a0 ((length p : Int) + 1)  from (by unfold h46_0; simp only [hw]; done)] at st
        exact .loopN st ih
/-! loop.example/g00539/impl.WindowFault -/
def m46 (a0 : (List K_si)) : Int :=
  if (decide (((length (map b_si a0)) : Int) > 12)) = true then 2 else
  (match r46_0 a0 a0 0 with | .k0 w0_1 w1_1 => 0 | .k1 => 5 | .k2 => 3)
theorem e46 {l0_0 : Nat} {a0 : (List K_si)} (hy0 : length a0 * 24 ≤ 140737488351232) : Ev F X (.call 46 [(.one (.bor l0_0 (map b_si a0)))] [] [] [(.one (.val (.int .i64 (m46 a0))))]) := by
  unfold m46
  by_cases h0 : (decide (((length (map b_si a0)) : Int) > 12)) = true
  · try simp only [if_pos h0]
    exact callP_ok (ps := []) (os := []) (rs := [(.oi 2)]) (by kernel_rfl) (.f h0 (.h 8 (.b true) .nil))
  · try simp only [if_neg h0]
    cases h1 : r46_0 a0 a0 0 with
    | k0 w0_1 w1_1 =>
      try dsimp only
      have f1 : (⟨[(8, (.one (.bor l0_0 (map b_si a0)))), (9, (.oi ((length (map b_si a0)) : Int))), (10, (.oi 0))], []⟩ : St) = h46_0 l0_0 a0 0  := (by rfl)
      have f2 : Ev F X (.code l46_0 (h46_0 l0_0 a0 0 ) (.exit 0) ⟨[(8, (.one (.bor l0_0 (map b_si a0)))), (9, (.oi ((length (map b_si a0)) : Int))), (10, (.oi w0_1)), (11, (.one (.val (.bool w1_1))))], []⟩) := (by have t : Ev F X (.code l46_0 (h46_0 l0_0 a0 0 ) (ex46_0 (r46_0 a0 a0 0)) (fin46_0 l0_0 a0 (r46_0 a0 a0 0))) := t46_0 (l0_0 := l0_0) (a0 := a0) (by assumption) a0 []  rfl; rw [h1] at t; exact t)
      exact callP_ok (ps := []) (os := []) (rs := [(.oi 0)]) (by kernel_rfl) (.f (nt h0) (.f f1 (.f f2 (.h 8 (.b false) (.h 15 (.loop (h46_0 l0_0 a0 0 ) (.exit 0) ⟨[(8, (.one (.bor l0_0 (map b_si a0)))), (9, (.oi ((length (map b_si a0)) : Int))), (10, (.oi w0_1)), (11, (.one (.val (.bool w1_1))))], []⟩) .nil)))))
    | k1 =>
      try dsimp only
      have f1 : (⟨[(8, (.one (.bor l0_0 (map b_si a0)))), (9, (.oi ((length (map b_si a0)) : Int))), (10, (.oi 0))], []⟩ : St) = h46_0 l0_0 a0 0  := (by rfl)
      have f2 : Ev F X (.code l46_0 (h46_0 l0_0 a0 0 ) .ret ⟨[(2, (.oi 5))], []⟩) := (by have t : Ev F X (.code l46_0 (h46_0 l0_0 a0 0 ) (ex46_0 (r46_0 a0 a0 0)) (fin46_0 l0_0 a0 (r46_0 a0 a0 0))) := t46_0 (l0_0 := l0_0) (a0 := a0) (by assumption) a0 []  rfl; rw [h1] at t; exact t)
      exact callP_ok (ps := []) (os := []) (rs := [(.oi 5)]) (by kernel_rfl) (.f (nt h0) (.f f1 (.f f2 (.h 8 (.b false) (.h 15 (.loop (h46_0 l0_0 a0 0 ) .ret ⟨[(2, (.oi 5))], []⟩) .nil)))))
    | k2 =>
      try dsimp only
      have f1 : (⟨[(8, (.one (.bor l0_0 (map b_si a0)))), (9, (.oi ((length (map b_si a0)) : Int))), (10, (.oi 0))], []⟩ : St) = h46_0 l0_0 a0 0  := (by rfl)
      have f2 : Ev F X (.code l46_0 (h46_0 l0_0 a0 0 ) .ret ⟨[(2, (.oi 3))], []⟩) := (by have t : Ev F X (.code l46_0 (h46_0 l0_0 a0 0 ) (ex46_0 (r46_0 a0 a0 0)) (fin46_0 l0_0 a0 (r46_0 a0 a0 0))) := t46_0 (l0_0 := l0_0) (a0 := a0) (by assumption) a0 []  rfl; rw [h1] at t; exact t)
      exact callP_ok (ps := []) (os := []) (rs := [(.oi 3)]) (by kernel_rfl) (.f (nt h0) (.f f1 (.f f2 (.h 8 (.b false) (.h 15 (.loop (h46_0 l0_0 a0 0 ) .ret ⟨[(2, (.oi 3))], []⟩) .nil)))))
theorem len12_46 (a : List K_si) (h : ¬ ((m46 a) != 0) = true) : length a ≤ 12 := by
  unfold m46 at h
  split at h
  · simp at h
  · rename_i h2
    simp only [decide_eq_true_eq, length_map] at h2
    omega
theorem wok_r46 (a : List K_si) : ∀ (l : List K_si) (i : Int), (match r46_0 a l i with | .k0 .. => (0 : Int) | .k1 => 5 | .k2 => 3) = 0 → ∀ z ∈ l, 1 ≤ z.f1 ∧ z.f1 ≤ 9999
  | [], i, _, x, hx => by cases hx
  | y :: l, i, h, x, hx => by
    simp only [r46_0] at h
    by_cases h1 : (!(m113 y.f0)) = true
    · simp [h1] at h
    · by_cases h2 : (!(m93 y.f1 1 9999)) = true
      · simp [h1, h2] at h
      · simp only [if_neg h1, if_neg h2] at h
        rcases List.mem_cons.1 hx with rfl | hx
        · exact jn93 h2
        · exact wok_r46 a l (i + 1) h x hx
theorem wok46 (a : List K_si) (h : ¬ ((m46 a) != 0) = true) : ∀ z ∈ a, 1 ≤ z.f1 ∧ z.f1 ≤ 9999 := by
  have h2 : m46 a = 0 := by simpa using h
  unfold m46 at h2
  split at h2
  · cases h2
  · exact wok_r46 a a 0 h2
/-! loop.example/g00539/impl.weightAt$1 -/
def m1014800 (a0 : K_si) (a101001 : ByteArray) : Bool :=
  (a0.f0.toList == a101001.toList)
theorem e1014800 {a0 : K_si} {l101000 : Nat} {a101001 : ByteArray} : Ev F X (.call 148 [(.agg [(.val (.string a0.f0)), (.val (.int .i64 a0.f1))]), (.bptr l101000 [(.val (.string a101001))])] [] [] [(.one (.val (.bool (a0.f0.toList == a101001.toList))))]) := by
  exact callP_ok (ps := []) (os := []) (rs := [(.one (.val (.bool (a0.f0.toList == a101001.toList))))]) (by kernel_rfl) .nil
/-! loop 1014700_0 -/
inductive O1014700_0 where
  | k0 (w0 : Int) (w1 : Bool)
  | k1 (w0 : Int)
def r1014700_0 (a0 : (List K_si)) (a2001 : ByteArray) : List K_si → Int → O1014700_0
  | x0 :: y0, i =>
    if (x0.f0.toList == a2001.toList) = true then (O1014700_0.k1 i) else
    (r1014700_0 a0 a2001 y0 (i + 1) )
  | [], i => (O1014700_0.k0 i (decide (i < ((length (map b_si a0)) : Int))))
def h1014700_0 (l0_0 : Nat) (l2000 : Nat) (a0 : (List K_si)) (a2001 : ByteArray) (i : Int)  : St := ⟨[(0, (.one (.bor l0_0 (map b_si a0)))), (1, (.clo 148 [] [(.bptr l2000 [(.val (.string a2001))])])), (7, (.one (.val (.int .i64 ((length (map b_si a0)) : Int))))), (8, (.one (.val (.int .i64 i))))], []⟩
def ex1014700_0 : O1014700_0 → VX.Exit
  | .k0 _ _ => (.exit 0)
  | .k1 _ => .ret
def fin1014700_0 (l0_0 : Nat) (l2000 : Nat) (a0 : (List K_si)) (a2001 : ByteArray) : O1014700_0 → St
  | .k0 w0 w1 => ⟨[(0, (.one (.bor l0_0 (map b_si a0)))), (1, (.clo 148 [] [(.bptr l2000 [(.val (.string a2001))])])), (7, (.one (.val (.int .i64 ((length (map b_si a0)) : Int))))), (8, (.one (.val (.int .i64 w0)))), (9, (.one (.val (.bool w1))))], []⟩
  | .k1 w0 => ⟨[(4, (.one (.val (.int .i64 w0))))], []⟩
theorem t1014700_0 {l0_0 : Nat} {l2000 : Nat} {a0 : (List K_si)} {a2001 : ByteArray} (hy0 : length a0 * 24 ≤ 140737488351232) : ∀ (y0 : List K_si) (p : List K_si) , p ++ y0 = a0 → Ev F X (.code l147_0 (h1014700_0 l0_0 l2000 a0 a2001 (length p : Int) ) (ex1014700_0 (r1014700_0 a0 a2001 y0 (length p : Int) )) (fin1014700_0 l0_0 l2000 a0 a2001 (r1014700_0 a0 a2001 y0 (length p : Int) )))
  | [], p, hp0 => by
    have hc : ¬ (decide ((length p : Int) < ((length (map b_si a0)) : Int))) = true := by
      rw [← hp0]; simp only [length_map, length_set, length_append, length_replicate, length_cons, length_nil, decide_eq_true_eq]; omega
    have st := codeH_ok (F := F) (X := X) (c := b147_0) (t := 0) (hs := [(2, .b false)]) (σ := h1014700_0 l0_0 l2000 a0 a2001 (length p : Int) ) (σ' := fin1014700_0 l0_0 l2000 a0 a2001 (.k0 (length p : Int) (decide ((length p : Int) < ((length (map b_si a0)) : Int))))) (e := (.exit 0)) (t' := 3) (hs' := []) (q := [(decide ((length p : Int) < ((length (map b_si a0)) : Int))) = false]) (by kernel_rfl) ⟨(nt hc), trivial⟩
    exact .loopX st (show ((.exit 0) : VX.Exit) ≠ .normal from by simp)
  | x0 :: y0, p, hp0 => by
    have hc : (decide ((length p : Int) < ((length (map b_si a0)) : Int))) = true := by
      rw [← hp0]; simp only [length_map, length_set, length_append, length_replicate, length_cons, length_nil, decide_eq_true_eq]; omega
    have Hx0 : (a0)[Int.toNat (length p : Int)]? = some x0 := by
      rw [← hp0, Int.toNat_natCast]; simp
    have hlen : length (a0) = length p + length y0 + 1 := by rw [← hp0]; simp; omega
    have hw : IntKind.wrap .i64 ((length p : Int) + 1) = (length p : Int) + 1 := wrap64 (by omega)
    simp only [r1014700_0]
    by_cases h_1 : (x0.f0.toList == a2001.toList) = true
    · try simp only [if_pos h_1]
      have st := codeH_ok (F := F) (X := X) (c := b147_0) (t := 0) (hs := [(2, .b true), (14, .row [(.val (.string x0.f0)), (.i x0.f1)]), (18, .ret [] [(.one (.val (.bool (x0.f0.toList == a2001.toList))))] [] []), (19, .b true)]) (σ := h1014700_0 l0_0 l2000 a0 a2001 (length p : Int) ) (σ' := fin1014700_0 l0_0 l2000 a0 a2001 (.k1 (length p : Int))) (e := .ret) (t' := 24) (hs' := []) (q := [(decide ((length p : Int) < ((length (map b_si a0)) : Int))) = true, 0 ≤ (length p : Int), (map b_si a0)[(Int.toNat (length p : Int))]? = some [(.val (.string x0.f0)), (.i x0.f1)], Ev F X (.call 148 [(.agg [(.val (.string x0.f0)), (.i x0.f1)]), (.bptr (l2000 + 1) [(.val (.string a2001))])] [] [] [(.one (.val (.bool (x0.f0.toList == a2001.toList))))]), (x0.f0.toList == a2001.toList) = true]) (by kernel_rfl) ⟨hc, (by omega), (by rw [getElem?_map, Hx0]; rfl), (e1014800 (a0 := x0) (a101001 := a2001)), h_1, trivial⟩
      exact .loopX st (show (.ret : VX.Exit) ≠ .normal from by simp)
    · try simp only [if_neg h_1]
      have st := codeH_ok (F := F) (X := X) (c := b147_0) (t := 0) (hs := [(2, .b true), (14, .row [(.val (.string x0.f0)), (.i x0.f1)]), (18, .ret [] [(.one (.val (.bool (x0.f0.toList == a2001.toList))))] [] []), (19, .b false)]) (σ := h1014700_0 l0_0 l2000 a0 a2001 (length p : Int) ) (σ' := ⟨[(0, (.one (.bor l0_0 (map b_si a0)))), (1, (.clo 148 [] [(.bptr l2000 [(.val (.string a2001))])])), (7, (.oi ((length (map b_si a0)) : Int))), (8, (.oi (IntKind.wrap .i64 ((length p : Int) + 1))))], []⟩) (e := .normal) (t' := 24) (hs' := []) (q := [(decide ((length p : Int) < ((length (map b_si a0)) : Int))) = true, 0 ≤ (length p : Int), (map b_si a0)[(Int.toNat (length p : Int))]? = some [(.val (.string x0.f0)), (.i x0.f1)], Ev F X (.call 148 [(.agg [(.val (.string x0.f0)), (.i x0.f1)]), (.bptr (l2000 + 1) [(.val (.string a2001))])] [] [] [(.one (.val (.bool (x0.f0.toList == a2001.toList))))]), (x0.f0.toList == a2001.toList) = false, True]) (by kernel_rfl) ⟨hc, (by omega), (by rw [getElem?_map, Hx0]; rfl), (e1014800 (a0 := x0) (a101001 := a2001)), (nt h_1), trivial, trivial⟩
      have ih := t1014700_0 (l0_0 := l0_0) (l2000 := l2000) (a0 := a0) (a2001 := a2001) hy0 y0 (p ++ [x0])  (by rw [append_assoc]; exact hp0)
      rw [show ((p ++ [x0]).length : Int) = (p.length : Int) + 1 from by simp] at ih
      rw [show (⟨[(0, (.one (.bor l0_0 (map b_si a0)))), (1, (.clo 148 [] [(.bptr l2000 [(.val (.string a2001))])])), (7, (.oi ((length (map b_si a0)) : Int))), (8, (.oi (IntKind.wrap .i64 ((length p : Int) + 1))))], []⟩ : St) = h1014700_0 l0_0 l2000 a0 a2001 ((length p : Int) + 1)  from (by unfold h1014700_0; simp only [hw]; done)] at st
      exact .loopN st ih
/-! slices.IndexFunc[[]loop.example/g00539/impl.Weight,loop.example/g00539/impl.Weight] -/
def m1014700 (a0 : (List K_si)) (a2001 : ByteArray) : Int :=
  (match r1014700_0 a0 a2001 a0 0 with | .k0 w0_0 w1_0 => (-1) | .k1 w0_0 => w0_0)
theorem e1014700 {l0_0 : Nat} {a0 : (List K_si)} {l2000 : Nat} {a2001 : ByteArray} (hy0 : length a0 * 24 ≤ 140737488351232) : Ev F X (.call 147 [(.one (.bor l0_0 (map b_si a0))), (.clo 148 [] [(.bptr l2000 [(.val (.string a2001))])])] [] [] [(.one (.val (.int .i64 (m1014700 a0 a2001))))]) := by
  unfold m1014700
  cases h0 : r1014700_0 a0 a2001 a0 0 with
  | k0 w0_0 w1_0 =>
    try dsimp only
    have f0 : (⟨[(0, (.one (.bor l0_0 (map b_si a0)))), (1, (.clo 148 [] [(.bptr l2000 [(.val (.string a2001))])])), (7, (.oi ((length (map b_si a0)) : Int))), (8, (.oi 0))], []⟩ : St) = h1014700_0 l0_0 l2000 a0 a2001 0  := (by rfl)
    have f1 : Ev F X (.code l147_0 (h1014700_0 l0_0 l2000 a0 a2001 0 ) (.exit 0) ⟨[(0, (.one (.bor l0_0 (map b_si a0)))), (1, (.clo 148 [] [(.bptr l2000 [(.val (.string a2001))])])), (7, (.oi ((length (map b_si a0)) : Int))), (8, (.oi w0_0)), (9, (.one (.val (.bool w1_0))))], []⟩) := (by have t : Ev F X (.code l147_0 (h1014700_0 l0_0 l2000 a0 a2001 0 ) (ex1014700_0 (r1014700_0 a0 a2001 a0 0)) (fin1014700_0 l0_0 l2000 a0 a2001 (r1014700_0 a0 a2001 a0 0))) := t1014700_0 (l0_0 := l0_0) (l2000 := l2000) (a0 := a0) (a2001 := a2001) (by assumption) a0 []  rfl; rw [h0] at t; exact t)
    exact callP_ok (ps := []) (os := []) (rs := [(.oi (-1))]) (by kernel_rfl) (.f f0 (.f f1 (.h 8 (.loop (h1014700_0 l0_0 l2000 a0 a2001 0 ) (.exit 0) ⟨[(0, (.one (.bor l0_0 (map b_si a0)))), (1, (.clo 148 [] [(.bptr l2000 [(.val (.string a2001))])])), (7, (.oi ((length (map b_si a0)) : Int))), (8, (.oi w0_0)), (9, (.one (.val (.bool w1_0))))], []⟩) .nil)))
  | k1 w0_0 =>
    try dsimp only
    have f0 : (⟨[(0, (.one (.bor l0_0 (map b_si a0)))), (1, (.clo 148 [] [(.bptr l2000 [(.val (.string a2001))])])), (7, (.oi ((length (map b_si a0)) : Int))), (8, (.oi 0))], []⟩ : St) = h1014700_0 l0_0 l2000 a0 a2001 0  := (by rfl)
    have f1 : Ev F X (.code l147_0 (h1014700_0 l0_0 l2000 a0 a2001 0 ) .ret ⟨[(4, (.oi w0_0))], []⟩) := (by have t : Ev F X (.code l147_0 (h1014700_0 l0_0 l2000 a0 a2001 0 ) (ex1014700_0 (r1014700_0 a0 a2001 a0 0)) (fin1014700_0 l0_0 l2000 a0 a2001 (r1014700_0 a0 a2001 a0 0))) := t1014700_0 (l0_0 := l0_0) (l2000 := l2000) (a0 := a0) (a2001 := a2001) (by assumption) a0 []  rfl; rw [h0] at t; exact t)
    exact callP_ok (ps := []) (os := []) (rs := [(.oi w0_0)]) (by kernel_rfl) (.f f0 (.f f1 (.h 8 (.loop (h1014700_0 l0_0 l2000 a0 a2001 0 ) .ret ⟨[(4, (.oi w0_0))], []⟩) .nil)))
theorem ixr1014700_0 (a0 : (List K_si)) (a2001 : ByteArray) : ∀ (l : List K_si) (i : Int), (∃ (w0 : _) (w1 : _), r1014700_0 a0 a2001 l i = .k0 w0 w1) ∨ (∃ w, r1014700_0 a0 a2001 l i = .k1 w ∧ i ≤ w ∧ w < i + l.length)
  | [], i => .inl ⟨i, (decide (i < ((length (map b_si a0)) : Int))), rfl⟩
  | x :: l, i => by
    have ih := ixr1014700_0 a0 a2001 l (i + 1)
    simp only [r1014700_0]
    (repeat' split)
    all_goals first
      | exact .inr ⟨i, rfl, by omega, by simp only [length_cons]; omega⟩
      | (rcases ih with ⟨w0, w1, h⟩ | ⟨w, h, h1, h2⟩
         · exact .inl ⟨w0, w1, h⟩
         · exact .inr ⟨w, h, by omega, by simp only [length_cons]; omega⟩)
theorem ix1014700 (a0 : (List K_si)) (a2001 : ByteArray) : -1 ≤ m1014700 a0 a2001 ∧ m1014700 a0 a2001 < (length a0 : Int) := by
  unfold m1014700
  rcases ixr1014700_0 a0 a2001 a0 0 with ⟨w0, w1, h⟩ | ⟨w, h, h1, h2⟩ <;> simp only [h] <;> omega
/-! loop.example/g00539/impl.weightAt -/
def m94 (a0 : (List K_si)) (a1 : ByteArray) : Int :=
  (m1014700 a0 a1)
theorem e94 {l0_0 : Nat} {a0 : (List K_si)} {a1 : ByteArray} (hy0 : length a0 * 24 ≤ 140737488351232) : Ev F X (.call 94 [(.one (.bor l0_0 (map b_si a0))), (.one (.val (.string a1)))] [] [] [(.one (.val (.int .i64 (m1014700 a0 a1))))]) := by
  have f0 : fullL [(.val (.string a1))] = true := (by trivial)
  have f1 : Ev F X (.call 147 [(.one (.bor (l0_0 + 1) (map b_si a0))), (.clo 148 [] [(.bptr 0 [(.val (.string a1))])])] [] [] [(.oi (m1014700 a0 a1))]) := (e1014700 (a0 := a0) (a2001 := a1) (by with_reducible assumption))
  exact callP_ok (ps := []) (os := []) (rs := [(.oi (m1014700 a0 a1))]) (by kernel_rfl) (.f f0 (.r 9 [] [] f1 .nil))
/-! loop 112_0 -/
inductive O112_0 where
  | k0 (w0 : List K_si) (w1 : Int) (w2 : Bool)
def r112_0 (a0 : (List K_si)) : List K_si → Int → List K_si → O112_0
  | x0 :: y0, i, v0 =>
    if (decide ((m1014700 v0 x0.f0) ≥ 0)) = true then (r112_0 a0 y0 (i + 1) (set v0 (Int.toNat (m1014700 v0 x0.f0)) (K_si.mk ((getD v0 (Int.toNat (m1014700 v0 x0.f0)) (K_si.mk (⟨#[]⟩ : ByteArray) 0)).f0) (IntKind.wrap .i64 (((getD v0 (Int.toNat (m1014700 v0 x0.f0)) (K_si.mk (⟨#[]⟩ : ByteArray) 0)).f1) + x0.f1))))) else
    (r112_0 a0 y0 (i + 1) (v0 ++ ([x0])))
  | [], i, v0 => (O112_0.k0 v0 i (decide (i < ((length (map b_si a0)) : Int))))
def h112_0 (l0_0 : Nat) (a0 : (List K_si)) (i : Int) (v0 : List K_si) : St := ⟨[(3, (.one (.ref ⟨(3, 0, 0), [], 0, (length (map d_si v0))⟩))), (8, (.one (.bor l0_0 (map b_si a0)))), (9, (.one (.val (.int .i64 ((length (map b_si a0)) : Int))))), (10, (.one (.val (.int .i64 i))))], [((3, 0, 0), .live ⟨2, (map d_si v0), []⟩)]⟩
def ex112_0 : O112_0 → VX.Exit
  | .k0 _ _ _ => (.exit 0)
def fin112_0 (l0_0 : Nat) (a0 : (List K_si)) : O112_0 → St
  | .k0 w0 w1 w2 => ⟨[(3, (.one (.ref ⟨(3, 0, 0), [], 0, (length (map d_si w0))⟩))), (8, (.one (.bor l0_0 (map b_si a0)))), (9, (.one (.val (.int .i64 ((length (map b_si a0)) : Int))))), (10, (.one (.val (.int .i64 w1)))), (11, (.one (.val (.bool w2))))], [((3, 0, 0), .live ⟨2, (map d_si w0), []⟩)]⟩
theorem t112_0 {l0_0 : Nat} {a0 : (List K_si)} (hy0 : length a0 * 24 ≤ 70368744177664) : ∀ (y0 : List K_si) (p : List K_si) (v0 : List K_si), p ++ y0 = a0 → (length v0 + length y0) * 24 ≤ 70368744177664 → Ev F X (.code l112_0 (h112_0 l0_0 a0 (length p : Int) v0) (ex112_0 (r112_0 a0 y0 (length p : Int) v0)) (fin112_0 l0_0 a0 (r112_0 a0 y0 (length p : Int) v0)))
  | [], p, v0, hp0, hi0 => by
    have hc : ¬ (decide ((length p : Int) < ((length (map b_si a0)) : Int))) = true := by
      rw [← hp0]; simp only [length_map, length_set, length_append, length_replicate, length_cons, length_nil, decide_eq_true_eq]; omega
    have hj0 := hi0; try simp only [length_map, length_set, length_append, length_replicate, length_cons, length_nil, Int.toNat_natCast] at hj0
    have st := codeH_ok (F := F) (X := X) (c := b112_0) (t := 0) (hs := [(2, .b false)]) (σ := h112_0 l0_0 a0 (length p : Int) v0) (σ' := fin112_0 l0_0 a0 (.k0 v0 (length p : Int) (decide ((length p : Int) < ((length (map b_si a0)) : Int))))) (e := (.exit 0)) (t' := 3) (hs' := []) (q := [(decide ((length p : Int) < ((length (map b_si a0)) : Int))) = false]) (by kernel_rfl) ⟨(nt hc), trivial⟩
    exact .loopX st (show ((.exit 0) : VX.Exit) ≠ .normal from by simp)
  | x0 :: y0, p, v0, hp0, hi0 => by
    have hc : (decide ((length p : Int) < ((length (map b_si a0)) : Int))) = true := by
      rw [← hp0]; simp only [length_map, length_set, length_append, length_replicate, length_cons, length_nil, decide_eq_true_eq]; omega
    have Hx0 : (a0)[Int.toNat (length p : Int)]? = some x0 := by
      rw [← hp0, Int.toNat_natCast]; simp
    have hlen : length (a0) = length p + length y0 + 1 := by rw [← hp0]; simp; omega
    have hw : IntKind.wrap .i64 ((length p : Int) + 1) = (length p : Int) + 1 := wrap64 (by omega)
    have hj0 := hi0; try simp only [length_map, length_set, length_append, length_replicate, length_cons, length_nil, Int.toNat_natCast] at hj0
    simp only [r112_0]
    by_cases h_1 : (decide ((m1014700 v0 x0.f0) ≥ 0)) = true
    · try simp only [if_pos h_1]
      have st := codeH_ok (F := F) (X := X) (c := b112_0) (t := 0) (hs := [(2, .b true), (4, .row [(.val (.string x0.f0)), (.i x0.f1)]), (18, .ret [] [(.oi (m1014700 v0 x0.f0))] [] [(map b_si v0)]), (25, .b true), (35, .rowD [(.val (.string ((getD v0 (Int.toNat (m1014700 v0 x0.f0)) (K_si.mk (⟨#[]⟩ : ByteArray) 0)).f0))), (.i ((getD v0 (Int.toNat (m1014700 v0 x0.f0)) (K_si.mk (⟨#[]⟩ : ByteArray) 0)).f1))]), (47, .rowD [(.val (.string ((getD v0 (Int.toNat (m1014700 v0 x0.f0)) (K_si.mk (⟨#[]⟩ : ByteArray) 0)).f0))), (.i ((getD v0 (Int.toNat (m1014700 v0 x0.f0)) (K_si.mk (⟨#[]⟩ : ByteArray) 0)).f1))]), (48, .norm (3, 0, 0) (map d_si (set v0 (Int.toNat (m1014700 v0 x0.f0)) (K_si.mk ((getD v0 (Int.toNat (m1014700 v0 x0.f0)) (K_si.mk (⟨#[]⟩ : ByteArray) 0)).f0) (IntKind.wrap .i64 (((getD v0 (Int.toNat (m1014700 v0 x0.f0)) (K_si.mk (⟨#[]⟩ : ByteArray) 0)).f1) + x0.f1))))))]) (σ := h112_0 l0_0 a0 (length p : Int) v0) (σ' := ⟨[(3, (.one (.ref ⟨(3, 0, 0), [], 0, (length (map d_si v0))⟩))), (8, (.one (.bor l0_0 (map b_si a0)))), (9, (.oi ((length (map b_si a0)) : Int))), (10, (.oi (IntKind.wrap .i64 ((length p : Int) + 1))))], [((3, 0, 0), .live ⟨2, (map d_si (set v0 (Int.toNat (m1014700 v0 x0.f0)) (K_si.mk ((getD v0 (Int.toNat (m1014700 v0 x0.f0)) (K_si.mk (⟨#[]⟩ : ByteArray) 0)).f0) (IntKind.wrap .i64 (((getD v0 (Int.toNat (m1014700 v0 x0.f0)) (K_si.mk (⟨#[]⟩ : ByteArray) 0)).f1) + x0.f1))))), []⟩)]⟩) (e := .normal) (t' := 53) (hs' := []) (q := [(decide ((length p : Int) < ((length (map b_si a0)) : Int))) = true, 0 ≤ (length p : Int), (map b_si a0)[(Int.toNat (length p : Int))]? = some [(.val (.string x0.f0)), (.i x0.f1)], 0 + (length (map d_si v0)) ≤ (length (map d_si v0)), fullR (take (length (map d_si v0)) (drop 0 (map d_si v0))) = true, toBR (take (length (map d_si v0)) (drop 0 (map d_si v0))) = (map b_si v0), Ev F X (.call 94 [(.one (.bor 0 (map b_si v0))), (.one (.val (.string x0.f0)))] [] [] [(.oi (m1014700 v0 x0.f0))]), (decide ((m1014700 v0 x0.f0) ≥ 0)) = true, 0 + (length (map d_si v0)) ≤ (length (map d_si v0)), 0 ≤ (m1014700 v0 x0.f0) ∧ (m1014700 v0 x0.f0) < ((length (map d_si v0)) : Int), (map d_si v0)[(0 + (Int.toNat (m1014700 v0 x0.f0)))]? = some [(.val (.string ((getD v0 (Int.toNat (m1014700 v0 x0.f0)) (K_si.mk (⟨#[]⟩ : ByteArray) 0)).f0))), (.i ((getD v0 (Int.toNat (m1014700 v0 x0.f0)) (K_si.mk (⟨#[]⟩ : ByteArray) 0)).f1))], True, 0 + (length (map d_si v0)) ≤ (length (map d_si v0)), 0 ≤ (m1014700 v0 x0.f0) ∧ (m1014700 v0 x0.f0) < ((length (map d_si v0)) : Int), (map d_si v0)[(0 + (Int.toNat (m1014700 v0 x0.f0)))]? = some [(.val (.string ((getD v0 (Int.toNat (m1014700 v0 x0.f0)) (K_si.mk (⟨#[]⟩ : ByteArray) 0)).f0))), (.i ((getD v0 (Int.toNat (m1014700 v0 x0.f0)) (K_si.mk (⟨#[]⟩ : ByteArray) 0)).f1))], (set (map d_si v0) (0 + (Int.toNat (m1014700 v0 x0.f0))) [(.val (.string ((getD v0 (Int.toNat (m1014700 v0 x0.f0)) (K_si.mk (⟨#[]⟩ : ByteArray) 0)).f0))), (.i (IntKind.wrap .i64 (((getD v0 (Int.toNat (m1014700 v0 x0.f0)) (K_si.mk (⟨#[]⟩ : ByteArray) 0)).f1) + x0.f1)))]) = (map d_si (set v0 (Int.toNat (m1014700 v0 x0.f0)) (K_si.mk ((getD v0 (Int.toNat (m1014700 v0 x0.f0)) (K_si.mk (⟨#[]⟩ : ByteArray) 0)).f0) (IntKind.wrap .i64 (((getD v0 (Int.toNat (m1014700 v0 x0.f0)) (K_si.mk (⟨#[]⟩ : ByteArray) 0)).f1) + x0.f1))))), True]) (by kernel_rfl) ⟨hc, (by omega), (by rw [getElem?_map, Hx0]; rfl), (by omega), (ft_si _ _ _), (tb_si _), (e94 (a0 := v0) (a1 := x0.f0) (by omega)), h_1, (by omega), (by have q := ix1014700 v0 x0.f0; simp only [decide_eq_true_eq, length_map] at *; omega), (by rw [Nat.zero_add, getElem?_map, getD_at v0 (Int.toNat (m1014700 v0 x0.f0)) (K_si.mk (⟨#[]⟩ : ByteArray) 0) (by first | exact True.intro | with_reducible rfl | with_reducible assumption | omega | (have q := ix1014700 v0 x0.f0; simp only [decide_eq_true_eq, length_map] at *; omega) | (unfold m1014700; (repeat' split) <;> simp_all <;> omega) | (simp only [decide_eq_true_eq] at *; omega) | (simp only [length_map]; omega) | (simp; omega) | (simp [take_of_length_le]; done) | assumption | trivial | (simp [*, byteRows_eq, ints_y]; done))]; rfl), trivial, (by omega), (by have q := ix1014700 v0 x0.f0; simp only [decide_eq_true_eq, length_map] at *; omega), (by rw [Nat.zero_add, getElem?_map, getD_at v0 (Int.toNat (m1014700 v0 x0.f0)) (K_si.mk (⟨#[]⟩ : ByteArray) 0) (by first | exact True.intro | with_reducible rfl | with_reducible assumption | omega | (have q := ix1014700 v0 x0.f0; simp only [decide_eq_true_eq, length_map] at *; omega) | (unfold m1014700; (repeat' split) <;> simp_all <;> omega) | (simp only [decide_eq_true_eq] at *; omega) | (simp only [length_map]; omega) | (simp; omega) | (simp [take_of_length_le]; done) | assumption | trivial | (simp [*, byteRows_eq, ints_y]; done))]; rfl), (by simp [byteRows_eq, ints_y, take_of_length_le, d_y, d_LyE, d_b, d_si, d_LsiE, d_iLsiE, d_i, d_s, d_LyEi, d_LiE, fromBR_y, fromBR_b, fromBR_si, fromBR_i, fromBR_s]; done), trivial, trivial⟩
      have ih := t112_0 (l0_0 := l0_0) (a0 := a0) hy0 y0 (p ++ [x0]) (set v0 (Int.toNat (m1014700 v0 x0.f0)) (K_si.mk ((getD v0 (Int.toNat (m1014700 v0 x0.f0)) (K_si.mk (⟨#[]⟩ : ByteArray) 0)).f0) (IntKind.wrap .i64 (((getD v0 (Int.toNat (m1014700 v0 x0.f0)) (K_si.mk (⟨#[]⟩ : ByteArray) 0)).f1) + x0.f1)))) (by rw [append_assoc]; exact hp0) (by simp only [length_map, length_set, length_append, length_replicate, length_cons, length_nil]; omega)
      rw [show ((p ++ [x0]).length : Int) = (p.length : Int) + 1 from by simp] at ih
      rw [show (⟨[(3, (.one (.ref ⟨(3, 0, 0), [], 0, (length (map d_si v0))⟩))), (8, (.one (.bor l0_0 (map b_si a0)))), (9, (.oi ((length (map b_si a0)) : Int))), (10, (.oi (IntKind.wrap .i64 ((length p : Int) + 1))))], [((3, 0, 0), .live ⟨2, (map d_si (set v0 (Int.toNat (m1014700 v0 x0.f0)) (K_si.mk ((getD v0 (Int.toNat (m1014700 v0 x0.f0)) (K_si.mk (⟨#[]⟩ : ByteArray) 0)).f0) (IntKind.wrap .i64 (((getD v0 (Int.toNat (m1014700 v0 x0.f0)) (K_si.mk (⟨#[]⟩ : ByteArray) 0)).f1) + x0.f1))))), []⟩)]⟩ : St) = h112_0 l0_0 a0 ((length p : Int) + 1) (set v0 (Int.toNat (m1014700 v0 x0.f0)) (K_si.mk ((getD v0 (Int.toNat (m1014700 v0 x0.f0)) (K_si.mk (⟨#[]⟩ : ByteArray) 0)).f0) (IntKind.wrap .i64 (((getD v0 (Int.toNat (m1014700 v0 x0.f0)) (K_si.mk (⟨#[]⟩ : ByteArray) 0)).f1) + x0.f1)))) from (by unfold h112_0; simp only [hw, length_map, length_set, length_append, length_replicate, length_cons, length_nil]; done)] at st
      exact .loopN st ih
    · try simp only [if_neg h_1]
      have st := codeH_ok (F := F) (X := X) (c := b112_0) (t := 0) (hs := [(2, .b true), (4, .row [(.val (.string x0.f0)), (.i x0.f1)]), (18, .ret [] [(.oi (m1014700 v0 x0.f0))] [] [(map b_si v0)]), (25, .b false), (33, .b true), (36, .norm (3, 0, 0) (map d_si (v0 ++ ([x0]))))]) (σ := h112_0 l0_0 a0 (length p : Int) v0) (σ' := ⟨[(3, (.one (.ref ⟨(3, 0, 0), [], 0, (length ((take (length (map d_si v0)) (drop 0 (map d_si v0))) ++ ([[(.val (.string x0.f0)), (.i x0.f1)]] : List (List D))))⟩))), (8, (.one (.bor l0_0 (map b_si a0)))), (9, (.oi ((length (map b_si a0)) : Int))), (10, (.oi (IntKind.wrap .i64 ((length p : Int) + 1))))], [((3, 0, 0), .live ⟨2, (map d_si (v0 ++ ([x0]))), []⟩)]⟩) (e := .normal) (t' := 41) (hs' := []) (q := [(decide ((length p : Int) < ((length (map b_si a0)) : Int))) = true, 0 ≤ (length p : Int), (map b_si a0)[(Int.toNat (length p : Int))]? = some [(.val (.string x0.f0)), (.i x0.f1)], 0 + (length (map d_si v0)) ≤ (length (map d_si v0)), fullR (take (length (map d_si v0)) (drop 0 (map d_si v0))) = true, toBR (take (length (map d_si v0)) (drop 0 (map d_si v0))) = (map b_si v0), Ev F X (.call 94 [(.one (.bor 0 (map b_si v0))), (.one (.val (.string x0.f0)))] [] [] [(.oi (m1014700 v0 x0.f0))]), (decide ((m1014700 v0 x0.f0) ≥ 0)) = false, 0 + (length (map d_si v0)) ≤ (length (map d_si v0)), 1 ≤ 1, ((take 1 (drop 0 [[(.val (.string x0.f0)), (.i x0.f1)]])).all fun x => x.all copyable) = true, (length ((take (length (map d_si v0)) (drop 0 (map d_si v0))) ++ ([[(.val (.string x0.f0)), (.i x0.f1)]] : List (List D)))) * 24 ≤ 70368744177664, ∀ r ∈ ([[(.val (.string x0.f0)), (.i x0.f1)]] : List (List D)), r.length = 2, ((take (length (map d_si v0)) (drop 0 (map d_si v0))) ++ ([[(.val (.string x0.f0)), (.i x0.f1)]] : List (List D))) = (map d_si (v0 ++ ([x0]))), True]) (by kernel_rfl) ⟨hc, (by omega), (by rw [getElem?_map, Hx0]; rfl), (by omega), (ft_si _ _ _), (tb_si _), (e94 (a0 := v0) (a1 := x0.f0) (by omega)), (nt h_1), (by omega), (by omega), (by trivial), (by simp only [length_map, length_append, length_cons, length_nil, length_take, length_drop]; omega), (by simp; done), (by simp [byteRows_eq, ints_y, take_of_length_le, d_y, d_LyE, d_b, d_si, d_LsiE, d_iLsiE, d_i, d_s, d_LyEi, d_LiE, fromBR_y, fromBR_b, fromBR_si, fromBR_i, fromBR_s]; done), trivial, trivial⟩
      have ih := t112_0 (l0_0 := l0_0) (a0 := a0) hy0 y0 (p ++ [x0]) (v0 ++ ([x0])) (by rw [append_assoc]; exact hp0) (by simp only [length_map, length_set, length_append, length_replicate, length_cons, length_nil]; omega)
      rw [show ((p ++ [x0]).length : Int) = (p.length : Int) + 1 from by simp] at ih
      rw [show (⟨[(3, (.one (.ref ⟨(3, 0, 0), [], 0, (length ((take (length (map d_si v0)) (drop 0 (map d_si v0))) ++ ([[(.val (.string x0.f0)), (.i x0.f1)]] : List (List D))))⟩))), (8, (.one (.bor l0_0 (map b_si a0)))), (9, (.oi ((length (map b_si a0)) : Int))), (10, (.oi (IntKind.wrap .i64 ((length p : Int) + 1))))], [((3, 0, 0), .live ⟨2, (map d_si (v0 ++ ([x0]))), []⟩)]⟩ : St) = h112_0 l0_0 a0 ((length p : Int) + 1) (v0 ++ ([x0])) from (by unfold h112_0; simp [hw, byteRows_eq, ints_y, take_of_length_le, d_y, d_LyE, d_b, d_si, d_LsiE, d_iLsiE, d_i, d_s, d_LyEi, d_LiE, fromBR_y, fromBR_b, fromBR_si, fromBR_i, fromBR_s]; done)] at st
      exact .loopN st ih
/-! loop.example/g00539/impl.merged -/
def m112 (a0 : (List K_si)) : (List K_si) :=
  (match r112_0 a0 a0 0 ([]) with | .k0 w0_0 w1_0 w2_0 => w0_0)
theorem e112 {l0_0 : Nat} {a0 : (List K_si)} (hy0 : length a0 * 24 ≤ 70368744177664) : Ev F X (.call 112 [(.one (.bor l0_0 (map b_si a0)))] [] [] [(.one (.own 2 (map d_si (m112 a0))))]) := by
  unfold m112
  cases h0 : r112_0 a0 a0 0 ([]) with
  | k0 w0_0 w1_0 w2_0 =>
    try dsimp only
    have f0 : (⟨[(3, (.one (.ref ⟨(3, 0, 0), [], 0, 0⟩))), (8, (.one (.bor l0_0 (map b_si a0)))), (9, (.oi ((length (map b_si a0)) : Int))), (10, (.oi 0))], [((3, 0, 0), .live ⟨2, [], []⟩)]⟩ : St) = h112_0 l0_0 a0 0 ([]) := (by rfl)
    have f1 : Ev F X (.code l112_0 (h112_0 l0_0 a0 0 ([])) (.exit 0) ⟨[(3, (.one (.ref ⟨(3, 0, 0), [], 0, (length (map d_si w0_0))⟩))), (8, (.one (.bor l0_0 (map b_si a0)))), (9, (.oi ((length (map b_si a0)) : Int))), (10, (.oi w1_0)), (11, (.one (.val (.bool w2_0))))], [((3, 0, 0), .live ⟨2, (map d_si w0_0), []⟩)]⟩) := (by have t : Ev F X (.code l112_0 (h112_0 l0_0 a0 0 ([])) (ex112_0 (r112_0 a0 a0 0 ([]))) (fin112_0 l0_0 a0 (r112_0 a0 a0 0 ([])))) := t112_0 (l0_0 := l0_0) (a0 := a0) (by assumption) a0 [] ([]) rfl (by simp only [length_map, length_set, length_append, length_replicate, length_cons, length_nil]; omega); rw [h0] at t; exact t)
    have f2 : 0 = 0 := rfl
    have f3 : (length (map d_si w0_0)) = (length (map d_si w0_0)) := rfl
    have f4 : pureR (map d_si w0_0) = true := (pureR_si _)
    exact callP_ok (ps := []) (os := []) (rs := [(.one (.own 2 (map d_si w0_0)))]) (by kernel_rfl) (.f f0 (.f f1 (.f f2 (.f f3 (.f f4 (.h 12 (.loop (h112_0 l0_0 a0 0 ([])) (.exit 0) ⟨[(3, (.one (.ref ⟨(3, 0, 0), [], 0, (length (map d_si w0_0))⟩))), (8, (.one (.bor l0_0 (map b_si a0)))), (9, (.oi ((length (map b_si a0)) : Int))), (10, (.oi w1_0)), (11, (.one (.val (.bool w2_0))))], [((3, 0, 0), .live ⟨2, (map d_si w0_0), []⟩)]⟩) .nil))))))
theorem mlen_r112 (a : List K_si) : ∀ (l : List K_si) (i : Int) (v : List K_si), ∃ w j b, r112_0 a l i v = .k0 w j b ∧ w.length ≤ v.length + l.length
  | [], i, v => ⟨_, _, _, rfl, by simp⟩
  | x :: l, i, v => by
    simp only [r112_0]
    split
    · obtain ⟨w, j, b, h, h2⟩ := mlen_r112 a l (i + 1) (set v (Int.toNat (m1014700 v x.f0)) (K_si.mk ((getD v (Int.toNat (m1014700 v x.f0)) (K_si.mk (⟨#[]⟩ : ByteArray) 0)).f0) (IntKind.wrap .i64 (((getD v (Int.toNat (m1014700 v x.f0)) (K_si.mk (⟨#[]⟩ : ByteArray) 0)).f1) + x.f1))))
      exact ⟨w, j, b, h, by simp at h2 ⊢; omega⟩
    · obtain ⟨w, j, b, h, h2⟩ := mlen_r112 a l (i + 1) (v ++ [x])
      exact ⟨w, j, b, h, by simp at h2 ⊢; omega⟩
theorem mlen_112 (a : List K_si) : (m112 a).length ≤ a.length := by
  unfold m112
  obtain ⟨w, j, b, h, h2⟩ := mlen_r112 a a 0 []
  rw [h]; simpa using h2
theorem mne_r112 (a : List K_si) : ∀ (l : List K_si) (i : Int) (v : List K_si) (k : Nat), (∀ z ∈ l, 1 ≤ z.f1 ∧ z.f1 ≤ 9999) → (∀ z ∈ v, 1 ≤ z.f1 ∧ z.f1 ≤ 9999 * (k : Int)) → k + l.length ≤ 1000 → ∃ w j b, r112_0 a l i v = .k0 w j b ∧ v.length ≤ w.length ∧ (0 < l.length → 0 < w.length) ∧ (∀ z ∈ w, 1 ≤ z.f1 ∧ z.f1 ≤ 9999 * ((k + l.length : Nat) : Int))
  | [], i, v, k, _, hv, _ => ⟨v, _, _, rfl, Nat.le_refl _, by simp, by simpa using hv⟩
  | x :: l, i, v, k, hl, hv, hk => by
    have hx := hl x (List.mem_cons_self ..)
    have hl' : ∀ z ∈ l, 1 ≤ z.f1 ∧ z.f1 ≤ 9999 := fun z hz => hl z (List.mem_cons_of_mem _ hz)
    simp only [length_cons] at hk
    simp only [r112_0]
    have q := ix1014700 v x.f0
    by_cases h : (decide ((m1014700 v x.f0) ≥ 0)) = true
    · rw [if_pos h]
      simp only [decide_eq_true_eq] at h
      have hg : getD v (Int.toNat (m1014700 v x.f0)) (K_si.mk (⟨#[]⟩ : ByteArray) 0) ∈ v := by
        rw [List.getD_eq_getElem?_getD, List.getElem?_eq_getElem (by omega)]; exact List.getElem_mem _
      have hgb := hv _ hg
      obtain ⟨w, j, b, e, h1, h2, h3⟩ := mne_r112 a l (i + 1) (set v (Int.toNat (m1014700 v x.f0)) (K_si.mk ((getD v (Int.toNat (m1014700 v x.f0)) (K_si.mk (⟨#[]⟩ : ByteArray) 0)).f0) (IntKind.wrap .i64 (((getD v (Int.toNat (m1014700 v x.f0)) (K_si.mk (⟨#[]⟩ : ByteArray) 0)).f1) + x.f1)))) (k + 1) hl' (fun z hz => by
        rcases List.mem_or_eq_of_mem_set hz with hz | rfl
        · have := hv z hz; omega
        · simp only []
          rw [wrap64 (by omega)]; omega) (by omega)
      refine ⟨w, j, b, e, by simpa using h1, fun _ => ?_, fun z hz => ?_⟩
      · simp only [length_set] at h1
        have : 0 < v.length := by omega
        omega
      · have := h3 z hz; simp only [length_cons]; omega
    · rw [if_neg h]
      obtain ⟨w, j, b, e, h1, h2, h3⟩ := mne_r112 a l (i + 1) (v ++ [x]) (k + 1) hl' (fun z hz => by
        rcases List.mem_append.1 hz with hz | hz
        · have := hv z hz; omega
        · rw [List.mem_singleton.1 hz]; omega) (by omega)
      simp only [length_append, length_cons, length_nil] at h1
      refine ⟨w, j, b, e, by omega, fun _ => by omega, fun z hz => ?_⟩
      have := h3 z hz; simp only [length_cons]; omega
theorem mne_112 (a : List K_si) (h : ∀ z ∈ a, 1 ≤ z.f1 ∧ z.f1 ≤ 9999) (hl : a.length ≤ 12) : (0 < a.length → 0 < (m112 a).length) ∧ ∀ z ∈ m112 a, 1 ≤ z.f1 ∧ z.f1 ≤ 119988 := by
  obtain ⟨w, j, b, e, h1, h2, h3⟩ := mne_r112 a a 0 [] 0 h (by simp) (by omega)
  unfold m112
  rw [e]
  refine ⟨h2, fun z hz => ?_⟩
  have := h3 z hz
  omega
/-! loop.example/g00539/impl.MergeWeights -/
def m45 (a0 : (List K_si)) : K_iLsiE :=
  if ((m46 a0) != 0) = true then (K_iLsiE.mk (m46 a0) []) else
  (K_iLsiE.mk 0 (m112 a0))
theorem e45 {l0_0 : Nat} {a0 : (List K_si)} (hy0 : length a0 * 24 ≤ 140737488351232) : Ev F X (.call 45 [(.one (.bor l0_0 (map b_si a0)))] [] [] [(.agg [(.val (.int .i64 ((m45 a0).f0))), (.own 2 (map d_si ((m45 a0).f1)))])]) := by
  unfold m45
  have f0 : Ev F X (.call 46 [(.one (.bor (l0_0 + 1) (map b_si a0)))] [] [] [(.oi (m46 a0))]) := (e46 (a0 := a0) (by with_reducible assumption))
  by_cases h0 : ((m46 a0) != 0) = true
  · try simp only [if_pos h0]
    have f2 : pureR [] = true := (by trivial)
    exact callP_ok (ps := []) (os := []) (rs := [(.agg [(.i (m46 a0)), (.own 2 [])])]) (by kernel_rfl) (.r 5 [] [] f0 (.f h0 (.f f2 (.h 12 (.b true) .nil))))
  · try simp only [if_neg h0]
    have f2 : Ev F X (.call 112 [(.one (.bor (l0_0 + 1) (map b_si a0)))] [] [] [(.one (.own 2 (map d_si (m112 a0))))]) := (e112 (a0 := a0) (by have q := len12_46 a0 (by assumption); omega))
    have f3 : 0 = 0 := rfl
    have f4 : (length (map d_si (m112 a0))) = (length (map d_si (m112 a0))) := rfl
    have f5 : pureR (map d_si (m112 a0)) = true := (pureR_si _)
    exact callP_ok (ps := []) (os := []) (rs := [(.agg [(.i 0), (.own 2 (map d_si (m112 a0)))])]) (by kernel_rfl) (.r 5 [] [] f0 (.f (nt h0) (.h 12 (.b false) (.r 16 [] [] f2 (.f f3 (.f f4 (.f f5 .nil)))))))
theorem okm45 (a0 : (List K_si)) : ok_iLsiE (m45 a0) := by
  unfold m45
  split
  · simp [ok_LyE, ok_LsiE, ok_iLsiE, ok_LyEi, ok_LiE]
  · have q1 := mlen_112 a0
    have q2 := len12_46 a0 (by assumption)
    simp only [ok_LyE, ok_LsiE, ok_iLsiE, ok_LyEi, ok_LiE]; omega
/-! loop.example/g00539/spec.l1Source -/
def m102 (a0 : (List Int)) : K_LyEi :=
  (K_LyEi.mk a0 0)
theorem e102 {l0_0 : Nat} {a0 : (List Int)} : Ev F X (.call 102 [(.one (.bor (l0_0 + 1) (map b_y a0)))] [] [] [(.ptr [(.bor l0_0 (map b_y ((m102 a0).f0))), (.val (.int .i64 ((m102 a0).f1)))])]) := by
  exact callP_ok (ps := []) (os := []) (rs := [(.ptr [(.bor l0_0 (map b_y a0)), (.i 0)])]) (by kernel_rfl) .nil
theorem S_src (c : List Int) (h1 : ∀ z ∈ c, (0 : Int) ≤ z ∧ z ≤ 255) (h2 : length c ≤ 140737488351232) : S (m102 c) 1000 := by
  unfold m102
  exact ⟨h1, h2, by simp, by simp⟩
/-! loop.example/g00539/spec.l1Next -/
def o114_0 (a0 : K_LyEi) (a1 : Int) : K_LyEi :=
  (K_LyEi.mk a0.f0 (IntKind.wrap .i64 (a0.f1 + 1)))
def m114 (a0 : K_LyEi) (a1 : Int) : Int :=
  if (decide (a1 < 1)) = true then 0 else
  if (((length (map b_y a0.f0)) : Int) == 0) = true then (Int.tmod (IntKind.wrap .i64 ((IntKind.wrap .i64 ((IntKind.wrap .i64 (a0.f1 + 1)) - 1)) * 7)) a1) else
    if (decide (a1 > 200)) = true then (Int.tmod (IntKind.wrap .i64 ((IntKind.wrap .i64 ((IntKind.wrap .i64 ((IntKind.wrap .i64 ((IntKind.wrap .i64 ((getD a0.f0 (Int.toNat (Int.tmod (IntKind.wrap .i64 ((IntKind.wrap .i64 (a0.f1 + 1)) - 1)) ((length (map b_y a0.f0)) : Int))) 0))) + (IntKind.wrap .i64 ((IntKind.wrap .i64 (Int.tdiv (IntKind.wrap .i64 ((IntKind.wrap .i64 (a0.f1 + 1)) - 1)) ((length (map b_y a0.f0)) : Int))) * 37)))) * 251)) + (IntKind.wrap .i64 ((IntKind.wrap .i64 ((getD a0.f0 (Int.toNat (Int.tmod (IntKind.wrap .i64 ((IntKind.wrap .i64 ((IntKind.wrap .i64 (a0.f1 + 1)) - 1)) + 1)) ((length (map b_y a0.f0)) : Int))) 0))) * 13)))) + (IntKind.wrap .i64 ((IntKind.wrap .i64 (a0.f1 + 1)) - 1)))) a1) else
      (Int.tmod (IntKind.wrap .i64 ((IntKind.wrap .i64 ((getD a0.f0 (Int.toNat (Int.tmod (IntKind.wrap .i64 ((IntKind.wrap .i64 (a0.f1 + 1)) - 1)) ((length (map b_y a0.f0)) : Int))) 0))) + (IntKind.wrap .i64 ((IntKind.wrap .i64 (Int.tdiv (IntKind.wrap .i64 ((IntKind.wrap .i64 (a0.f1 + 1)) - 1)) ((length (map b_y a0.f0)) : Int))) * 37)))) a1)
theorem e114 {l0_0 : Nat} {a0 : K_LyEi} {a1 : Int} (hy0 : S a0 1) : Ev F X (.call 114 [(.ptr ⟨(0, 0, 0), [], 0, 0, 2⟩), (.one (.val (.int .i64 a1)))] [((0, 0, 0), ⟨2, [[(.bor (l0_0 + 1) (map b_y a0.f0)), (.val (.int .i64 a0.f1))]], []⟩)] [[[(.bor l0_0 (map b_y a0.f0)), (.val (.int .i64 ((o114_0 a0 a1).f1)))]]] [(.one (.val (.int .i64 (m114 a0 a1))))]) := by
  unfold m114 o114_0
  by_cases h0 : (decide (a1 < 1)) = true
  · try simp only [if_pos h0]
    exact callP_ok (ps := [false]) (os := [[[(.bor l0_0 (map b_y a0.f0)), (.i (IntKind.wrap .i64 (a0.f1 + 1)))]]]) (rs := [(.oi 0)]) (by kernel_rfl) (.f trivial (.f h0 (.h 24 (.b true) .nil)))
  · try simp only [if_neg h0]
    by_cases h1 : (((length (map b_y a0.f0)) : Int) == 0) = true
    · try simp only [if_pos h1]
      have f3 : a1 ≠ 0 := (by simp only [decide_eq_true_eq] at *; omega)
      exact callP_ok (ps := [false]) (os := [[[(.bor l0_0 (map b_y a0.f0)), (.i (IntKind.wrap .i64 (a0.f1 + 1)))]]]) (rs := [(.oi (Int.tmod (IntKind.wrap .i64 ((IntKind.wrap .i64 ((IntKind.wrap .i64 (a0.f1 + 1)) - 1)) * 7)) a1))]) (by kernel_rfl) (.f trivial (.f (nt h0) (.f h1 (.f f3 (.h 24 (.b false) (.h 53 (.b true) .nil))))))
    · try simp only [if_neg h1]
      have f3 : ((length (map b_y a0.f0)) : Int) ≠ 0 := (by intro q; simp_all; done)
      have f4 : 0 ≤ (Int.tmod (IntKind.wrap .i64 ((IntKind.wrap .i64 (a0.f1 + 1)) - 1)) ((length (map b_y a0.f0)) : Int)) := (by rw [(at_eq a0 hy0).1]; exact Int.tmod_nonneg _ hy0.2.2.1)
      have f5 : (map b_y a0.f0)[(Int.toNat (Int.tmod (IntKind.wrap .i64 ((IntKind.wrap .i64 (a0.f1 + 1)) - 1)) ((length (map b_y a0.f0)) : Int)))]? = some [(.val (.int .u8 (getD a0.f0 (Int.toNat (Int.tmod (IntKind.wrap .i64 ((IntKind.wrap .i64 (a0.f1 + 1)) - 1)) ((length (map b_y a0.f0)) : Int))) 0)))] := (by rw [getElem?_map, getD_at a0.f0 (Int.toNat (Int.tmod (IntKind.wrap .i64 ((IntKind.wrap .i64 (a0.f1 + 1)) - 1)) ((length (map b_y a0.f0)) : Int))) 0 (by first | exact True.intro | with_reducible rfl | with_reducible assumption | omega | (simp only [decide_eq_true_eq] at *; omega) | (intro q; simp_all; done) | (rw [(at_eq a0 hy0).1]; exact Int.tmod_nonneg _ hy0.2.2.1) | (rw [(at_eq a0 hy0).1, (at_eq a0 hy0).2]; exact Int.tmod_nonneg _ (by have := hy0.2.2.1; omega)) | (rw [(at_eq a0 hy0).1]; exact idx_lt _ _ hy0.2.2.1 (by assumption)) | (rw [(at_eq a0 hy0).1, (at_eq a0 hy0).2]; exact idx_lt _ _ (by have := hy0.2.2.1; omega) (by assumption)) | (simp only [decide_eq_true_eq] at *; omega) | (simp only [length_map]; omega) | (simp; omega) | (simp [take_of_length_le]; done) | assumption | trivial | (simp [*, b_y, d_y, byteRows_eq, ints_y]; done))]; rfl)
      have f6 : ((length (map b_y a0.f0)) : Int) ≠ 0 := (by with_reducible assumption)
      by_cases h2 : (decide (a1 > 200)) = true
      · try simp only [if_pos h2]
        have f10 : ((length (map b_y a0.f0)) : Int) ≠ 0 := (by with_reducible assumption)
        have f11 : 0 ≤ (Int.tmod (IntKind.wrap .i64 ((IntKind.wrap .i64 ((IntKind.wrap .i64 (a0.f1 + 1)) - 1)) + 1)) ((length (map b_y a0.f0)) : Int)) := (by rw [(at_eq a0 hy0).1, (at_eq a0 hy0).2]; exact Int.tmod_nonneg _ (by have := hy0.2.2.1; omega))
        have f12 : (map b_y a0.f0)[(Int.toNat (Int.tmod (IntKind.wrap .i64 ((IntKind.wrap .i64 ((IntKind.wrap .i64 (a0.f1 + 1)) - 1)) + 1)) ((length (map b_y a0.f0)) : Int)))]? = some [(.val (.int .u8 (getD a0.f0 (Int.toNat (Int.tmod (IntKind.wrap .i64 ((IntKind.wrap .i64 ((IntKind.wrap .i64 (a0.f1 + 1)) - 1)) + 1)) ((length (map b_y a0.f0)) : Int))) 0)))] := (by rw [getElem?_map, getD_at a0.f0 (Int.toNat (Int.tmod (IntKind.wrap .i64 ((IntKind.wrap .i64 ((IntKind.wrap .i64 (a0.f1 + 1)) - 1)) + 1)) ((length (map b_y a0.f0)) : Int))) 0 (by first | exact True.intro | with_reducible rfl | with_reducible assumption | omega | (simp only [decide_eq_true_eq] at *; omega) | (intro q; simp_all; done) | (rw [(at_eq a0 hy0).1]; exact Int.tmod_nonneg _ hy0.2.2.1) | (rw [(at_eq a0 hy0).1, (at_eq a0 hy0).2]; exact Int.tmod_nonneg _ (by have := hy0.2.2.1; omega)) | (rw [(at_eq a0 hy0).1]; exact idx_lt _ _ hy0.2.2.1 (by assumption)) | (rw [(at_eq a0 hy0).1, (at_eq a0 hy0).2]; exact idx_lt _ _ (by have := hy0.2.2.1; omega) (by assumption)) | (simp only [decide_eq_true_eq] at *; omega) | (simp only [length_map]; omega) | (simp; omega) | (simp [take_of_length_le]; done) | assumption | trivial | (simp [*, b_y, d_y, byteRows_eq, ints_y]; done))]; rfl)
        have f15 : a1 ≠ 0 := (by simp only [decide_eq_true_eq] at *; omega)
        exact callP_ok (ps := [false]) (os := [[[(.bor l0_0 (map b_y a0.f0)), (.i (IntKind.wrap .i64 (a0.f1 + 1)))]]]) (rs := [(.oi (Int.tmod (IntKind.wrap .i64 ((IntKind.wrap .i64 ((IntKind.wrap .i64 ((IntKind.wrap .i64 ((IntKind.wrap .i64 ((getD a0.f0 (Int.toNat (Int.tmod (IntKind.wrap .i64 ((IntKind.wrap .i64 (a0.f1 + 1)) - 1)) ((length (map b_y a0.f0)) : Int))) 0))) + (IntKind.wrap .i64 ((IntKind.wrap .i64 (Int.tdiv (IntKind.wrap .i64 ((IntKind.wrap .i64 (a0.f1 + 1)) - 1)) ((length (map b_y a0.f0)) : Int))) * 37)))) * 251)) + (IntKind.wrap .i64 ((IntKind.wrap .i64 ((getD a0.f0 (Int.toNat (Int.tmod (IntKind.wrap .i64 ((IntKind.wrap .i64 ((IntKind.wrap .i64 (a0.f1 + 1)) - 1)) + 1)) ((length (map b_y a0.f0)) : Int))) 0))) * 13)))) + (IntKind.wrap .i64 ((IntKind.wrap .i64 (a0.f1 + 1)) - 1)))) a1))]) (by kernel_rfl) (.f trivial (.f (nt h0) (.f (nt h1) (.f f3 (.f f4 (.f f5 (.f f6 (.f trivial (.f h2 (.f trivial (.f f10 (.f f11 (.f f12 (.f trivial (.f trivial (.f f15 (.h 24 (.b false) (.h 53 (.b false) (.h 69 (.row [(.val (.int .u8 (getD a0.f0 (Int.toNat (Int.tmod (IntKind.wrap .i64 ((IntKind.wrap .i64 (a0.f1 + 1)) - 1)) ((length (map b_y a0.f0)) : Int))) 0)))]) (.h 90 (.b true) (.h 112 (.row [(.val (.int .u8 (getD a0.f0 (Int.toNat (Int.tmod (IntKind.wrap .i64 ((IntKind.wrap .i64 ((IntKind.wrap .i64 (a0.f1 + 1)) - 1)) + 1)) ((length (map b_y a0.f0)) : Int))) 0)))]) .nil)))))))))))))))))))))
      · try simp only [if_neg h2]
        have f9 : a1 ≠ 0 := (by simp only [decide_eq_true_eq] at *; omega)
        exact callP_ok (ps := [false]) (os := [[[(.bor l0_0 (map b_y a0.f0)), (.i (IntKind.wrap .i64 (a0.f1 + 1)))]]]) (rs := [(.oi (Int.tmod (IntKind.wrap .i64 ((IntKind.wrap .i64 ((getD a0.f0 (Int.toNat (Int.tmod (IntKind.wrap .i64 ((IntKind.wrap .i64 (a0.f1 + 1)) - 1)) ((length (map b_y a0.f0)) : Int))) 0))) + (IntKind.wrap .i64 ((IntKind.wrap .i64 (Int.tdiv (IntKind.wrap .i64 ((IntKind.wrap .i64 (a0.f1 + 1)) - 1)) ((length (map b_y a0.f0)) : Int))) * 37)))) a1))]) (by kernel_rfl) (.f trivial (.f (nt h0) (.f (nt h1) (.f f3 (.f f4 (.f f5 (.f f6 (.f trivial (.f (nt h2) (.f f9 (.h 24 (.b false) (.h 53 (.b false) (.h 69 (.row [(.val (.int .u8 (getD a0.f0 (Int.toNat (Int.tmod (IntKind.wrap .i64 ((IntKind.wrap .i64 (a0.f1 + 1)) - 1)) ((length (map b_y a0.f0)) : Int))) 0)))]) (.h 90 (.b false) .nil))))))))))))))
theorem rng (a : K_LyEi) (k : Int) (h : S a 1) (hk : 1 ≤ k) (hk2 : k ≤ 1000000000) : 0 ≤ m114 a k ∧ m114 a k < k := by
  have hm : ∀ x : Int, 0 ≤ x → 0 ≤ Int.tmod x k ∧ Int.tmod x k < k := fun x hx => ⟨Int.tmod_nonneg _ hx, Int.tmod_lt_of_pos _ (by omega)⟩
  obtain ⟨e1, e2⟩ := at_eq a h
  obtain ⟨hb, hl, h1, h2⟩ := h
  unfold m114
  rw [if_neg (by simp only [decide_eq_true_eq]; omega)]
  rw [e1]
  split
  · apply hm
    rw [wrap64 (by omega)]; omega
  · rename_i hn
    have hn' : 0 < ((length (map b_y a.f0)) : Int) := by simp at hn ⊢; exact List.length_pos_iff.2 hn
    have hq1 : 0 ≤ Int.tdiv a.f1 ((length (map b_y a.f0)) : Int) := Int.tdiv_nonneg h1 (by omega)
    have hq2 : Int.tdiv a.f1 ((length (map b_y a.f0)) : Int) ≤ a.f1 := by rw [Int.tdiv_eq_ediv_of_nonneg h1]; exact Int.ediv_le_self _ h1
    have hx := getD_b a.f0 hb (Int.toNat (Int.tmod a.f1 ((length (map b_y a.f0)) : Int)))
    have hy := getD_b a.f0 hb (Int.toNat (Int.tmod (IntKind.wrap .i64 (a.f1 + 1)) ((length (map b_y a.f0)) : Int)))
    revert hq1 hq2 hx hy
    generalize Int.tdiv a.f1 _ = q
    generalize getD a.f0 (Int.toNat (Int.tmod a.f1 _)) 0 = x
    generalize getD a.f0 _ 0 = y
    intro hq1 hq2 hx hy
    have g1 : IntKind.wrap .i64 q = q := wrap64 (by omega)
    have g2 : IntKind.wrap .i64 (q * 37) = q * 37 := wrap64 (by omega)
    have g3 : IntKind.wrap .i64 x = x := wrap64 (by omega)
    have g4 : IntKind.wrap .i64 (x + q * 37) = x + q * 37 := wrap64 (by omega)
    have g5 : IntKind.wrap .i64 ((x + q * 37) * 251) = (x + q * 37) * 251 := wrap64 (by omega)
    have g6 : IntKind.wrap .i64 y = y := wrap64 (by omega)
    have g7 : IntKind.wrap .i64 (y * 13) = y * 13 := wrap64 (by omega)
    have g8 : IntKind.wrap .i64 ((x + q * 37) * 251 + y * 13) = (x + q * 37) * 251 + y * 13 := wrap64 (by omega)
    have g9 : IntKind.wrap .i64 ((x + q * 37) * 251 + y * 13 + a.f1) = (x + q * 37) * 251 + y * 13 + a.f1 := wrap64 (by omega)
    simp only [g1, g2, g3, g4, g5, g6, g7, g8, g9]
    split
    · apply hm; omega
    · apply hm; omega
theorem st114 {a : K_LyEi} {n : Nat} (k : Int) (h : S a (n + 1)) : S (o114_0 a k) n := by
  have e := (at_eq a (S_le h (by omega))).2
  obtain ⟨hb, hl, h1, h2⟩ := h
  unfold o114_0
  refine ⟨hb, hl, ?_, ?_⟩
  · show 0 ≤ IntKind.wrap .i64 (a.f1 + 1)
    rw [e]; omega
  · show IntKind.wrap .i64 (a.f1 + 1) + n ≤ 1000000
    rw [e]; omega
theorem sm114 {a : K_LyEi} {n : Nat} {f : List Int} (k : Int) (h : S a (n + 1)) (e : a.f0 = f) : S (K_LyEi.mk f ((o114_0 a k).f1)) n := by subst e; exact st114 k h
/-! loop.example/g00539/spec.l1Pick -/
def o105_0 (a0 : K_LyEi) (a1 : (List Int)) : K_LyEi :=
  (K_LyEi.mk a0.f0 ((o114_0 a0 ((length (map b_i a1)) : Int)).f1))
def m105 (a0 : K_LyEi) (a1 : (List Int)) : Int :=
  (getD a1 (Int.toNat (m114 a0 ((length (map b_i a1)) : Int))) 0)
theorem e105 {l0_0 : Nat} {a0 : K_LyEi} {l1_0 : Nat} {a1 : (List Int)} (hy0 : S a0 1) (hy1 : 0 < length a1) (hy2 : length a1 ≤ 1000) : Ev F X (.call 105 [(.ptr ⟨(0, 0, 0), [], 0, 0, 2⟩), (.one (.bor l1_0 (map b_i a1)))] [((0, 0, 0), ⟨2, [[(.bor (l0_0 + 1) (map b_y a0.f0)), (.val (.int .i64 a0.f1))]], []⟩)] [[[(.bor l0_0 (map b_y a0.f0)), (.val (.int .i64 ((o105_0 a0 a1).f1)))]]] [(.one (.val (.int .i64 (m105 a0 a1))))]) := by
  have f0 : Ev F X (.call 114 [(.ptr ⟨(0, 0, 0), [], 0, 0, 2⟩), (.oi ((length (map b_i a1)) : Int))] [((0, 0, 0), ⟨2, [[(.bor (l0_0 + 2) (map b_y a0.f0)), (.i a0.f1)]], []⟩)] [[[(.bor (l0_0 + 1) (map b_y a0.f0)), (.i ((o114_0 a0 ((length (map b_i a1)) : Int)).f1))]]] [(.oi (m114 a0 ((length (map b_i a1)) : Int)))]) := (e114 (a0 := a0) (a1 := ((length (map b_i a1)) : Int)) (by with_reducible assumption))
  have f1 : 0 ≤ (m114 a0 ((length (map b_i a1)) : Int)) := (by exact (rng a0 _ hy0 (by simp; omega) (by simp; omega)).1)
  have f2 : (map b_i a1)[(Int.toNat (m114 a0 ((length (map b_i a1)) : Int)))]? = some [(.val (.int .i64 (getD a1 (Int.toNat (m114 a0 ((length (map b_i a1)) : Int))) 0)))] := (by rw [getElem?_map, getD_at a1 (Int.toNat (m114 a0 ((length (map b_i a1)) : Int))) 0 (by first | exact True.intro | with_reducible rfl | with_reducible assumption | omega | (exact (rng a0 _ hy0 (by simp; omega) (by simp; omega)).1) | (have q := rng a0 ((length (map b_i a1)) : Int) hy0 (by simp; omega) (by simp; omega); simp only [length_map] at *; omega) | (unfold m114; (repeat' split) <;> simp_all <;> omega) | (simp only [decide_eq_true_eq] at *; omega) | (simp only [length_map]; omega) | (simp; omega) | (simp [take_of_length_le]; done) | assumption | trivial | (simp [*, b_i, d_i, byteRows_eq, ints_y]; done))]; rfl)
  exact callP_ok (ps := [false]) (os := [[[(.bor l0_0 (map b_y a0.f0)), (.i ((o114_0 a0 ((length (map b_i a1)) : Int)).f1))]]]) (rs := [(.oi (getD a1 (Int.toNat (m114 a0 ((length (map b_i a1)) : Int))) 0))]) (by kernel_rfl) (.r 11 [false] [] f0 (.f f1 (.f f2 (.h 13 (.row [(.i (getD a1 (Int.toNat (m114 a0 ((length (map b_i a1)) : Int))) 0))]) .nil))))
theorem st105 {a : K_LyEi} {n : Nat} (l : List Int) (h : S a (n + 1)) : S (o105_0 a l) n := by
  unfold o105_0; exact sm114 _ h rfl
theorem sm105 {a : K_LyEi} {n : Nat} {f : List Int} (l : List Int) (h : S a (n + 1)) (e : a.f0 = f) : S (K_LyEi.mk f ((o105_0 a l).f1)) n := by subst e; exact st105 l h
/-! loop.example/g00539/spec.l13Worker -/
def o104_0 (a0 : K_LyEi) : K_LyEi :=
  (K_LyEi.mk a0.f0 ((o114_0 a0 4).f1))
def m104 (a0 : K_LyEi) : ByteArray :=
  (getD ([(⟨#[98, 111, 98]⟩ : ByteArray), (⟨#[97, 110, 110]⟩ : ByteArray), (⟨#[101, 118, 101]⟩ : ByteArray), (⟨#[120, 49]⟩ : ByteArray)]) (Int.toNat (m114 a0 4)) (⟨#[]⟩ : ByteArray))
theorem e104 {l0_0 : Nat} {a0 : K_LyEi} (hy0 : S a0 1) : Ev F X (.call 104 [(.ptr ⟨(0, 0, 0), [], 0, 0, 2⟩)] [((0, 0, 0), ⟨2, [[(.bor (l0_0 + 1) (map b_y a0.f0)), (.val (.int .i64 a0.f1))]], []⟩)] [[[(.bor l0_0 (map b_y a0.f0)), (.val (.int .i64 ((o104_0 a0).f1)))]]] [(.one (.val (.string (m104 a0))))]) := by
  have f0 : Ev F X (.call 114 [(.ptr ⟨(0, 0, 0), [], 0, 0, 2⟩), (.oi 4)] [((0, 0, 0), ⟨2, [[(.bor (l0_0 + 2) (map b_y a0.f0)), (.i a0.f1)]], []⟩)] [[[(.bor (l0_0 + 1) (map b_y a0.f0)), (.i ((o114_0 a0 4).f1))]]] [(.oi (m114 a0 4))]) := (e114 (a0 := a0) (a1 := 4) (by with_reducible assumption))
  have f1 : 4 ≤ 4 := (by omega)
  have f2 : 0 ≤ (m114 a0 4) ∧ (m114 a0 4) < (4 : Int) := (by have q := rng a0 4 hy0 (by omega) (by omega); omega)
  have f3 : ([[(.val (.string (⟨#[98, 111, 98]⟩ : ByteArray)))], [(.val (.string (⟨#[97, 110, 110]⟩ : ByteArray)))], [(.val (.string (⟨#[101, 118, 101]⟩ : ByteArray)))], [(.val (.string (⟨#[120, 49]⟩ : ByteArray)))]] : List (List D))[(0 + (Int.toNat (m114 a0 4)))]? = some [(.val (.string (getD ([(⟨#[98, 111, 98]⟩ : ByteArray), (⟨#[97, 110, 110]⟩ : ByteArray), (⟨#[101, 118, 101]⟩ : ByteArray), (⟨#[120, 49]⟩ : ByteArray)]) (Int.toNat (m114 a0 4)) (⟨#[]⟩ : ByteArray))))] := (show (map d_s [(⟨#[98, 111, 98]⟩ : ByteArray), (⟨#[97, 110, 110]⟩ : ByteArray), (⟨#[101, 118, 101]⟩ : ByteArray), (⟨#[120, 49]⟩ : ByteArray)])[(0 + (Int.toNat (m114 a0 4)))]? = some [(.val (.string (getD ([(⟨#[98, 111, 98]⟩ : ByteArray), (⟨#[97, 110, 110]⟩ : ByteArray), (⟨#[101, 118, 101]⟩ : ByteArray), (⟨#[120, 49]⟩ : ByteArray)]) (Int.toNat (m114 a0 4)) (⟨#[]⟩ : ByteArray))))] from (by rw [Nat.zero_add, getElem?_map, getD_at ([(⟨#[98, 111, 98]⟩ : ByteArray), (⟨#[97, 110, 110]⟩ : ByteArray), (⟨#[101, 118, 101]⟩ : ByteArray), (⟨#[120, 49]⟩ : ByteArray)]) (Int.toNat (m114 a0 4)) (⟨#[]⟩ : ByteArray) (by first | exact True.intro | with_reducible rfl | with_reducible assumption | omega | (have q := rng a0 4 hy0 (by omega) (by omega); omega) | (have q := rng a0 4 hy0 (by omega) (by omega); simp only [length_cons, length_nil]; omega) | (unfold m114; (repeat' split) <;> simp_all <;> omega) | (simp only [decide_eq_true_eq] at *; omega) | (simp only [length_cons, length_nil]; omega) | (simp; omega) | (simp [take_of_length_le]; done) | assumption | trivial | (simp [*, byteRows_eq, ints_y]; done))]; rfl))
  exact callP_ok (ps := [false]) (os := [[[(.bor l0_0 (map b_y a0.f0)), (.i ((o114_0 a0 4).f1))]]]) (rs := [(.one (.val (.string (getD ([(⟨#[98, 111, 98]⟩ : ByteArray), (⟨#[97, 110, 110]⟩ : ByteArray), (⟨#[101, 118, 101]⟩ : ByteArray), (⟨#[120, 49]⟩ : ByteArray)]) (Int.toNat (m114 a0 4)) (⟨#[]⟩ : ByteArray)))))]) (by kernel_rfl) (.r 7 [false] [] f0 (.f f1 (.f f2 (.f f3 (.h 11 (.rowD [(.val (.string (getD ([(⟨#[98, 111, 98]⟩ : ByteArray), (⟨#[97, 110, 110]⟩ : ByteArray), (⟨#[101, 118, 101]⟩ : ByteArray), (⟨#[120, 49]⟩ : ByteArray)]) (Int.toNat (m114 a0 4)) (⟨#[]⟩ : ByteArray))))]) .nil)))))
theorem st104 {a : K_LyEi} {n : Nat} (h : S a (n + 1)) : S (o104_0 a) n := by
  unfold o104_0; exact sm114 _ h rfl
theorem sm104 {a : K_LyEi} {n : Nat} {f : List Int} (h : S a (n + 1)) (e : a.f0 = f) : S (K_LyEi.mk f ((o104_0 a).f1)) n := by subst e; exact st104 h
theorem gsz (l : List ByteArray) (h : ∀ s ∈ l, ByteArray.size s ≤ 3) (i : Nat) : ByteArray.size (getD l i (⟨#[]⟩ : ByteArray)) ≤ 3 := by
  rw [List.getD_eq_getElem?_getD]
  cases e : l[i]? with
  | none => simp [ByteArray.size]
  | some z => exact h z (List.mem_of_getElem? e)
theorem wsz (a : K_LyEi) : ByteArray.size (m104 a) ≤ 3 := by
  unfold m104
  exact gsz _ (by decide) _
/-! loop 153_0 -/
inductive O153_0 where
  | k0 (w0 : Int) (w1 : List K_si) (w2 : Int) (w3 : Bool)
def r153_0 (a0 : K_LyEi) : Nat → Int → Int → List K_si → O153_0
  | n + 1, i, v0, v1 =>
    (r153_0 a0 n (i - 1) ((o105_0 (K_LyEi.mk a0.f0 ((o104_0 (K_LyEi.mk a0.f0 v0)).f1)) [1, 2, 3, 7, 9999]).f1) (v1 ++ ([(K_si.mk (m104 (K_LyEi.mk a0.f0 v0)) (m105 (K_LyEi.mk a0.f0 ((o104_0 (K_LyEi.mk a0.f0 v0)).f1)) [1, 2, 3, 7, 9999]))])))
  | 0, i, v0, v1 => (O153_0.k0 v0 v1 i (decide (i > 0)))
def h153_0 (l0_0 : Nat) (a0 : K_LyEi) (i : Int) (v0 : Int) (v1 : List K_si) : St := ⟨[(0, (.ptr ⟨(0, 0, 0), [], 0, 0, 2⟩)), (3, (.one (.ref ⟨(3, 0, 0), [], 0, (length (map d_si v1))⟩))), (4, (.one (.val (.int .i64 i))))], [((0, 0, 0), .live ⟨2, [[(.bor (l0_0 + 1) (map b_y a0.f0)), (.val (.int .i64 v0))]], []⟩), ((3, 0, 0), .live ⟨2, (map d_si v1), []⟩)]⟩
def ex153_0 : O153_0 → VX.Exit
  | .k0 _ _ _ _ => (.exit 0)
def fin153_0 (l0_0 : Nat) (a0 : K_LyEi) : O153_0 → St
  | .k0 w0 w1 w2 w3 => ⟨[(0, (.ptr ⟨(0, 0, 0), [], 0, 0, 2⟩)), (3, (.one (.ref ⟨(3, 0, 0), [], 0, (length (map d_si w1))⟩))), (4, (.one (.val (.int .i64 w2)))), (9, (.one (.val (.bool w3))))], [((0, 0, 0), .live ⟨2, [[(.bor (l0_0 + 1) (map b_y a0.f0)), (.val (.int .i64 w0))]], []⟩), ((3, 0, 0), .live ⟨2, (map d_si w1), []⟩)]⟩
theorem t153_0 {l0_0 : Nat} {a0 : K_LyEi} (hy0 : S a0 50) : ∀ (n : Nat) (i : Int) (v0 : Int) (v1 : List K_si), n = Int.toNat i → (length v1 + n) * 24 ≤ 70368744177664 → i ≤ 9223372036854775807 → S (K_LyEi.mk a0.f0 v0) (2 * n + 1) → (n : Int) ≤ 8 → Ev F X (.code l153_0 (h153_0 l0_0 a0 i v0 v1) (ex153_0 (r153_0 a0 n i v0 v1)) (fin153_0 l0_0 a0 (r153_0 a0 n i v0 v1)))
  | 0, i, v0, v1, hn, hi0, hi1, hi2, hi3 => by
    have hc : ¬ (decide (i > 0)) = true := by
      simp only [decide_eq_true_eq]; omega
    have st := codeH_ok (F := F) (X := X) (c := b153_0) (t := 0) (hs := [(4, .b false)]) (σ := h153_0 l0_0 a0 i v0 v1) (σ' := fin153_0 l0_0 a0 (.k0 v0 v1 i (decide (i > 0)))) (e := (.exit 0)) (t' := 5) (hs' := []) (q := [(decide (i > 0)) = false]) (by kernel_rfl) ⟨(nt hc), trivial⟩
    exact .loopX st (show ((.exit 0) : VX.Exit) ≠ .normal from by simp)
  | n + 1, i, v0, v1, hn, hi0, hi1, hi2, hi3 => by
    have hc : (decide (i > 0)) = true := by
      simp only [decide_eq_true_eq]; omega
    have hw : IntKind.wrap .i64 (i - 1) = i - 1 := wrap64 (by omega)
    have hj0 := hi0; try simp only [length_map, length_set, length_append, length_replicate, length_cons, length_nil, Int.toNat_natCast] at hj0
    have hj1 := hi1; try simp only [length_map, length_set, length_append, length_replicate, length_cons, length_nil, Int.toNat_natCast] at hj1
    have hj2 := hi2; try simp only [length_map, length_set, length_append, length_replicate, length_cons, length_nil, Int.toNat_natCast] at hj2
    have hj3 := hi3; try simp only [length_map, length_set, length_append, length_replicate, length_cons, length_nil, Int.toNat_natCast] at hj3
    simp only [r153_0]
    have st := codeH_ok (F := F) (X := X) (c := b153_0) (t := 0) (hs := [(4, .b true), (10, .ret [[[(.bor (l0_0 + 1) (map b_y a0.f0)), (.i ((o104_0 (K_LyEi.mk a0.f0 v0)).f1))]]] [(.one (.val (.string (m104 (K_LyEi.mk a0.f0 v0)))))] [false] []), (16, .ret [[[(.bor (l0_0 + 1) (map b_y a0.f0)), (.i ((o105_0 (K_LyEi.mk a0.f0 ((o104_0 (K_LyEi.mk a0.f0 v0)).f1)) [1, 2, 3, 7, 9999]).f1))]]] [(.oi (m105 (K_LyEi.mk a0.f0 ((o104_0 (K_LyEi.mk a0.f0 v0)).f1)) [1, 2, 3, 7, 9999]))] [false] [[[(.i 1)], [(.i 2)], [(.i 3)], [(.i 7)], [(.i 9999)]]]), (22, .b true), (25, .norm (3, 0, 0) (map d_si (v1 ++ ([(K_si.mk (m104 (K_LyEi.mk a0.f0 v0)) (m105 (K_LyEi.mk a0.f0 ((o104_0 (K_LyEi.mk a0.f0 v0)).f1)) [1, 2, 3, 7, 9999]))]))))]) (σ := h153_0 l0_0 a0 i v0 v1) (σ' := ⟨[(0, (.ptr ⟨(0, 0, 0), [], 0, 0, 2⟩)), (3, (.one (.ref ⟨(3, 0, 0), [], 0, (length ((take (length (map d_si v1)) (drop 0 (map d_si v1))) ++ ([[(.val (.string (m104 (K_LyEi.mk a0.f0 v0)))), (.i (m105 (K_LyEi.mk a0.f0 ((o104_0 (K_LyEi.mk a0.f0 v0)).f1)) [1, 2, 3, 7, 9999]))]] : List (List D))))⟩))), (4, (.oi (IntKind.wrap .i64 (i - 1))))], [((0, 0, 0), .live ⟨2, [[(.bor (l0_0 + 1) (map b_y a0.f0)), (.i ((o105_0 (K_LyEi.mk a0.f0 ((o104_0 (K_LyEi.mk a0.f0 v0)).f1)) [1, 2, 3, 7, 9999]).f1))]], []⟩), ((3, 0, 0), .live ⟨2, (map d_si (v1 ++ ([(K_si.mk (m104 (K_LyEi.mk a0.f0 v0)) (m105 (K_LyEi.mk a0.f0 ((o104_0 (K_LyEi.mk a0.f0 v0)).f1)) [1, 2, 3, 7, 9999]))]))), []⟩)]⟩) (e := .normal) (t' := 32) (hs' := []) (q := [(decide (i > 0)) = true, Ev F X (.call 104 [(.ptr ⟨(0, 0, 0), [], 0, 0, 2⟩)] [((0, 0, 0), ⟨2, [[(.bor (l0_0 + 2) (map b_y a0.f0)), (.i v0)]], []⟩)] [[[(.bor (l0_0 + 1) (map b_y a0.f0)), (.i ((o104_0 (K_LyEi.mk a0.f0 v0)).f1))]]] [(.one (.val (.string (m104 (K_LyEi.mk a0.f0 v0)))))]), 5 ≤ 5, fullR (take 5 (drop 0 [[(.i 1)], [(.i 2)], [(.i 3)], [(.i 7)], [(.i 9999)]])) = true, toBR (take 5 (drop 0 [[(.i 1)], [(.i 2)], [(.i 3)], [(.i 7)], [(.i 9999)]])) = [[(.i 1)], [(.i 2)], [(.i 3)], [(.i 7)], [(.i 9999)]], Ev F X (.call 105 [(.ptr ⟨(0, 0, 0), [], 0, 0, 2⟩), (.one (.bor 0 [[(.i 1)], [(.i 2)], [(.i 3)], [(.i 7)], [(.i 9999)]]))] [((0, 0, 0), ⟨2, [[(.bor (l0_0 + 2) (map b_y a0.f0)), (.i ((o104_0 (K_LyEi.mk a0.f0 v0)).f1))]], []⟩)] [[[(.bor (l0_0 + 1) (map b_y a0.f0)), (.i ((o105_0 (K_LyEi.mk a0.f0 ((o104_0 (K_LyEi.mk a0.f0 v0)).f1)) [1, 2, 3, 7, 9999]).f1))]]] [(.oi (m105 (K_LyEi.mk a0.f0 ((o104_0 (K_LyEi.mk a0.f0 v0)).f1)) [1, 2, 3, 7, 9999]))]), 0 + (length (map d_si v1)) ≤ (length (map d_si v1)), 1 ≤ 1, ((take 1 (drop 0 [[(.val (.string (m104 (K_LyEi.mk a0.f0 v0)))), (.i (m105 (K_LyEi.mk a0.f0 ((o104_0 (K_LyEi.mk a0.f0 v0)).f1)) [1, 2, 3, 7, 9999]))]])).all fun x => x.all copyable) = true, (length ((take (length (map d_si v1)) (drop 0 (map d_si v1))) ++ ([[(.val (.string (m104 (K_LyEi.mk a0.f0 v0)))), (.i (m105 (K_LyEi.mk a0.f0 ((o104_0 (K_LyEi.mk a0.f0 v0)).f1)) [1, 2, 3, 7, 9999]))]] : List (List D)))) * 24 ≤ 70368744177664, ∀ r ∈ ([[(.val (.string (m104 (K_LyEi.mk a0.f0 v0)))), (.i (m105 (K_LyEi.mk a0.f0 ((o104_0 (K_LyEi.mk a0.f0 v0)).f1)) [1, 2, 3, 7, 9999]))]] : List (List D)), r.length = 2, ((take (length (map d_si v1)) (drop 0 (map d_si v1))) ++ ([[(.val (.string (m104 (K_LyEi.mk a0.f0 v0)))), (.i (m105 (K_LyEi.mk a0.f0 ((o104_0 (K_LyEi.mk a0.f0 v0)).f1)) [1, 2, 3, 7, 9999]))]] : List (List D))) = (map d_si (v1 ++ ([(K_si.mk (m104 (K_LyEi.mk a0.f0 v0)) (m105 (K_LyEi.mk a0.f0 ((o104_0 (K_LyEi.mk a0.f0 v0)).f1)) [1, 2, 3, 7, 9999]))])))]) (by kernel_rfl) ⟨hc, (e104 (a0 := (K_LyEi.mk a0.f0 v0)) (by (repeat (first | with_reducible refine sm105 _ ?_ rfl | with_reducible refine sm114 _ ?_ rfl | with_reducible refine sm104 ?_ rfl)); exact S_le (by assumption) (by omega))), (by omega), (by trivial), (by trivial), (e105 (a0 := (K_LyEi.mk a0.f0 ((o104_0 (K_LyEi.mk a0.f0 v0)).f1))) (a1 := [1, 2, 3, 7, 9999]) (by (repeat (first | with_reducible refine sm105 _ ?_ rfl | with_reducible refine sm114 _ ?_ rfl | with_reducible refine sm104 ?_ rfl)); exact S_le (by assumption) (by omega)) (by simp only [length_cons, length_nil]; omega) (by simp only [length_cons, length_nil]; omega)), (by omega), (by omega), (by trivial), (by have q := rng a0 8 (S_le (by assumption) (by omega)) (by omega) (by omega); simp; omega), (by unfold m104 m105; (repeat' split) <;> simp_all <;> omega), (by simp [byteRows_eq, ints_y, take_of_length_le, d_y, d_LyE, d_b, d_si, d_LsiE, d_iLsiE, d_i, d_s, d_LyEi, d_LiE, fromBR_y, fromBR_b, fromBR_si, fromBR_i, fromBR_s]; done), trivial⟩
    have ih := t153_0 (l0_0 := l0_0) (a0 := a0) hy0 n (i - 1) ((o105_0 (K_LyEi.mk a0.f0 ((o104_0 (K_LyEi.mk a0.f0 v0)).f1)) [1, 2, 3, 7, 9999]).f1) (v1 ++ ([(K_si.mk (m104 (K_LyEi.mk a0.f0 v0)) (m105 (K_LyEi.mk a0.f0 ((o104_0 (K_LyEi.mk a0.f0 v0)).f1)) [1, 2, 3, 7, 9999]))])) (by omega) (by simp only [length_map, length_set, length_append, length_replicate, length_cons, length_nil]; omega) (by omega) (by (repeat (first | with_reducible refine sm105 _ ?_ rfl | with_reducible refine sm114 _ ?_ rfl | with_reducible refine sm104 ?_ rfl)); exact S_le (by assumption) (by omega)) (by omega)
    rw [show (⟨[(0, (.ptr ⟨(0, 0, 0), [], 0, 0, 2⟩)), (3, (.one (.ref ⟨(3, 0, 0), [], 0, (length ((take (length (map d_si v1)) (drop 0 (map d_si v1))) ++ ([[(.val (.string (m104 (K_LyEi.mk a0.f0 v0)))), (.i (m105 (K_LyEi.mk a0.f0 ((o104_0 (K_LyEi.mk a0.f0 v0)).f1)) [1, 2, 3, 7, 9999]))]] : List (List D))))⟩))), (4, (.oi (IntKind.wrap .i64 (i - 1))))], [((0, 0, 0), .live ⟨2, [[(.bor (l0_0 + 1) (map b_y a0.f0)), (.i ((o105_0 (K_LyEi.mk a0.f0 ((o104_0 (K_LyEi.mk a0.f0 v0)).f1)) [1, 2, 3, 7, 9999]).f1))]], []⟩), ((3, 0, 0), .live ⟨2, (map d_si (v1 ++ ([(K_si.mk (m104 (K_LyEi.mk a0.f0 v0)) (m105 (K_LyEi.mk a0.f0 ((o104_0 (K_LyEi.mk a0.f0 v0)).f1)) [1, 2, 3, 7, 9999]))]))), []⟩)]⟩ : St) = h153_0 l0_0 a0 (i - 1) ((o105_0 (K_LyEi.mk a0.f0 ((o104_0 (K_LyEi.mk a0.f0 v0)).f1)) [1, 2, 3, 7, 9999]).f1) (v1 ++ ([(K_si.mk (m104 (K_LyEi.mk a0.f0 v0)) (m105 (K_LyEi.mk a0.f0 ((o104_0 (K_LyEi.mk a0.f0 v0)).f1)) [1, 2, 3, 7, 9999]))])) from (by unfold h153_0; simp [hw, byteRows_eq, ints_y, take_of_length_le, d_y, d_LyE, d_b, d_si, d_LsiE, d_iLsiE, d_i, d_s, d_LyEi, d_LiE, fromBR_y, fromBR_b, fromBR_si, fromBR_i, fromBR_s]; done)] at st
    exact .loopN st ih
def post153_0 (n0 : Nat) : O153_0 → Prop
  | .k0 _ w1 _ _ => length w1 = n0
theorem z153_0 {a0 : K_LyEi} : ∀ (n : Nat) (i : Int) (v0 : Int) (v1 : List K_si), post153_0 (length v1 + n) (r153_0 a0 n i v0 v1)
  | 0, i, v0, v1 => by
    first | trivial | (simp only [post153_0, length_nil, Nat.add_zero]; done) | (simp [post153_0]; done)
  | n + 1, i, v0, v1 => by
    simp only [r153_0]
    have z := z153_0 (a0 := a0) n (i - 1) ((o105_0 (K_LyEi.mk a0.f0 ((o104_0 (K_LyEi.mk a0.f0 v0)).f1)) [1, 2, 3, 7, 9999]).f1) (v1 ++ ([(K_si.mk (m104 (K_LyEi.mk a0.f0 v0)) (m105 (K_LyEi.mk a0.f0 ((o104_0 (K_LyEi.mk a0.f0 v0)).f1)) [1, 2, 3, 7, 9999]))]))
    rw [show (length v1 + (n + 1)) = (length (v1 ++ ([(K_si.mk (m104 (K_LyEi.mk a0.f0 v0)) (m105 (K_LyEi.mk a0.f0 ((o104_0 (K_LyEi.mk a0.f0 v0)).f1)) [1, 2, 3, 7, 9999]))])) + n) from by first | omega | (simp only [length_map, length_set, length_append, length_replicate, length_cons, length_nil]; done) | (simp only [length_map, length_set, length_append, length_replicate, length_cons, length_nil]; omega)]
    exact z
/-! loop.example/g00539/spec.l13Draw -/
def o153_0 (a0 : K_LyEi) : K_LyEi :=
  (match r153_0 a0 (Int.toNat (m114 a0 8)) (m114 a0 8) ((o114_0 a0 8).f1) ([]) with | .k0 w0_1 w1_1 w2_1 w3_1 => (K_LyEi.mk a0.f0 w0_1))
def m153 (a0 : K_LyEi) : (List K_si) :=
  (match r153_0 a0 (Int.toNat (m114 a0 8)) (m114 a0 8) ((o114_0 a0 8).f1) ([]) with | .k0 w0_1 w1_1 w2_1 w3_1 => w1_1)
theorem e153 {l0_0 : Nat} {a0 : K_LyEi} (hy0 : S a0 50) : Ev F X (.call 153 [(.ptr ⟨(0, 0, 0), [], 0, 0, 2⟩)] [((0, 0, 0), ⟨2, [[(.bor (l0_0 + 1) (map b_y a0.f0)), (.val (.int .i64 a0.f1))]], []⟩)] [[[(.bor l0_0 (map b_y a0.f0)), (.val (.int .i64 ((o153_0 a0).f1)))]]] [(.one (.own 2 (map d_si (m153 a0))))]) := by
  unfold m153 o153_0
  have f0 : Ev F X (.call 114 [(.ptr ⟨(0, 0, 0), [], 0, 0, 2⟩), (.oi 8)] [((0, 0, 0), ⟨2, [[(.bor (l0_0 + 2) (map b_y a0.f0)), (.i a0.f1)]], []⟩)] [[[(.bor (l0_0 + 1) (map b_y a0.f0)), (.i ((o114_0 a0 8).f1))]]] [(.oi (m114 a0 8))]) := (e114 (a0 := a0) (a1 := 8) (by (repeat (first | with_reducible refine sm105 _ ?_ rfl | with_reducible refine sm114 _ ?_ rfl | with_reducible refine sm104 ?_ rfl)); exact S_le (by assumption) (by omega)))
  cases h0 : r153_0 a0 (Int.toNat (m114 a0 8)) (m114 a0 8) ((o114_0 a0 8).f1) ([]) with
  | k0 w0_1 w1_1 w2_1 w3_1 =>
    try dsimp only
    have zh0 := z153_0 (a0 := a0) (Int.toNat (m114 a0 8)) (m114 a0 8) ((o114_0 a0 8).f1) ([]); rw [h0] at zh0; simp only [post153_0, length_map, length_set, length_append, length_replicate, length_cons, length_nil, Int.toNat_natCast] at zh0
    have f1 : (⟨[(0, (.ptr ⟨(0, 0, 0), [], 0, 0, 2⟩)), (3, (.one (.ref ⟨(3, 0, 0), [], 0, 0⟩))), (4, (.oi (m114 a0 8)))], [((0, 0, 0), .live ⟨2, [[(.bor (l0_0 + 1) (map b_y a0.f0)), (.i ((o114_0 a0 8).f1))]], []⟩), ((3, 0, 0), .live ⟨2, [], []⟩)]⟩ : St) = h153_0 l0_0 a0 (m114 a0 8) ((o114_0 a0 8).f1) ([]) := (by rfl)
    have f2 : Ev F X (.code l153_0 (h153_0 l0_0 a0 (m114 a0 8) ((o114_0 a0 8).f1) ([])) (.exit 0) ⟨[(0, (.ptr ⟨(0, 0, 0), [], 0, 0, 2⟩)), (3, (.one (.ref ⟨(3, 0, 0), [], 0, (length (map d_si w1_1))⟩))), (4, (.oi w2_1)), (9, (.one (.val (.bool w3_1))))], [((0, 0, 0), .live ⟨2, [[(.bor (l0_0 + 1) (map b_y a0.f0)), (.i w0_1)]], []⟩), ((3, 0, 0), .live ⟨2, (map d_si w1_1), []⟩)]⟩) := (by have t : Ev F X (.code l153_0 (h153_0 l0_0 a0 (m114 a0 8) ((o114_0 a0 8).f1) ([])) (ex153_0 (r153_0 a0 (Int.toNat (m114 a0 8)) (m114 a0 8) ((o114_0 a0 8).f1) ([]))) (fin153_0 l0_0 a0 (r153_0 a0 (Int.toNat (m114 a0 8)) (m114 a0 8) ((o114_0 a0 8).f1) ([])))) := t153_0 (l0_0 := l0_0) (a0 := a0) (by assumption) _ (m114 a0 8) ((o114_0 a0 8).f1) ([]) (by omega) (by have q := rng a0 8 (S_le (by assumption) (by omega)) (by omega) (by omega); simp; omega) (by have q := rng a0 8 (S_le (by assumption) (by omega)) (by omega) (by omega); omega) (by have q := rng a0 8 (S_le (by assumption) (by omega)) (by omega) (by omega); (repeat (first | with_reducible refine sm105 _ ?_ rfl | with_reducible refine sm114 _ ?_ rfl | with_reducible refine sm104 ?_ rfl)); exact S_le (by assumption) (by omega)) (by have q := rng a0 8 (S_le (by assumption) (by omega)) (by omega) (by omega); omega); rw [h0] at t; exact t)
    have f3 : 0 = 0 := rfl
    have f4 : (length (map d_si w1_1)) = (length (map d_si w1_1)) := rfl
    have f5 : pureR (map d_si w1_1) = true := (pureR_si _)
    exact callP_ok (ps := [false]) (os := [[[(.bor l0_0 (map b_y a0.f0)), (.i w0_1)]]]) (rs := [(.one (.own 2 (map d_si w1_1)))]) (by kernel_rfl) (.r 9 [false] [] f0 (.f f1 (.f f2 (.f f3 (.f f4 (.f f5 (.h 12 (.loop (h153_0 l0_0 a0 (m114 a0 8) ((o114_0 a0 8).f1) ([])) (.exit 0) ⟨[(0, (.ptr ⟨(0, 0, 0), [], 0, 0, 2⟩)), (3, (.one (.ref ⟨(3, 0, 0), [], 0, (length (map d_si w1_1))⟩))), (4, (.oi w2_1)), (9, (.one (.val (.bool w3_1))))], [((0, 0, 0), .live ⟨2, [[(.bor (l0_0 + 1) (map b_y a0.f0)), (.i w0_1)]], []⟩), ((3, 0, 0), .live ⟨2, (map d_si w1_1), []⟩)]⟩) .nil)))))))
theorem sr153 (a0 : K_LyEi) : ∀ (n : Nat) (i v0 : Int) (v1 : List K_si) (m : Nat), S (K_LyEi.mk a0.f0 v0) (2 * n + m) → ∃ w0 w1 w2 w3, r153_0 a0 n i v0 v1 = .k0 w0 w1 w2 w3 ∧ S (K_LyEi.mk a0.f0 w0) m
  | 0, i, v0, v1, m, h => ⟨_, _, _, _, rfl, S_le h (by omega)⟩
  | n + 1, i, v0, v1, m, h => by
    simp only [r153_0]
    exact sr153 a0 n _ _ _ m (sm105 _ (sm104 (S_le h (by omega)) rfl) rfl)
theorem st153 {a : K_LyEi} {n : Nat} (h : S a (n + 17)) : S (o153_0 a) n := by
  have q := rng a 8 (S_le h (by omega)) (by omega) (by omega)
  obtain ⟨w0, w1, w2, w3, e, hs⟩ := sr153 a (Int.toNat (m114 a 8)) (m114 a 8) ((o114_0 a 8).f1) [] n (sm114 8 (S_le h (by omega)) rfl)
  unfold o153_0
  rw [e]; exact hs
theorem sm153 {a : K_LyEi} {n : Nat} {f : List Int} (h : S a (n + 17)) (e : a.f0 = f) : S (K_LyEi.mk f ((o153_0 a).f1)) n := by subst e; exact st153 h
theorem len153 {a : K_LyEi} (h : S a 50) : (m153 a).length ≤ 8 := by
  have q := rng a 8 (S_le h (by omega)) (by omega) (by omega)
  have z := z153_0 (a0 := a) (Int.toNat (m114 a 8)) (m114 a 8) ((o114_0 a 8).f1) []
  unfold m153
  cases hr : r153_0 a (Int.toNat (m114 a 8)) (m114 a 8) ((o114_0 a 8).f1) [] with
  | k0 w0 w1 w2 w3 => rw [hr] at z; simp only [post153_0, length_nil] at z; simp only []; omega
theorem szr (a0 : K_LyEi) : ∀ (n : Nat) (i v0 : Int) (v1 : List K_si), (∀ z ∈ v1, ByteArray.size z.f0 ≤ 3) → ∀ w0 w1 w2 w3, r153_0 a0 n i v0 v1 = .k0 w0 w1 w2 w3 → ∀ z ∈ w1, ByteArray.size z.f0 ≤ 3
  | 0, i, v0, v1, h, w0, w1, w2, w3, e => by
    simp only [r153_0] at e
    injection e with e0 e1 e2 e3
    subst e1; exact h
  | n + 1, i, v0, v1, h, w0, w1, w2, w3, e => by
    simp only [r153_0] at e
    refine szr a0 n _ _ _ ?_ w0 w1 w2 w3 e
    intro z hz
    rcases List.mem_append.1 hz with hz | hz
    · exact h z hz
    · rw [List.mem_singleton.1 hz]; exact wsz _
theorem dsz (a : K_LyEi) : ∀ z ∈ m153 a, ByteArray.size z.f0 ≤ 3 := by
  unfold m153
  cases hr : r153_0 a (Int.toNat (m114 a 8)) (m114 a 8) ((o114_0 a 8).f1) [] with
  | k0 w0 w1 w2 w3 => exact szr a _ _ _ [] (by simp) w0 w1 w2 w3 hr
/-! loop.example/g00539/spec.l13Bent -/
def o103_0 (a0 : K_LyEi) : K_LyEi :=
  if ((m114 (K_LyEi.mk a0.f0 ((o153_0 a0).f1)) 12) == 0) = true then (K_LyEi.mk a0.f0 ((o105_0 (K_LyEi.mk a0.f0 ((o114_0 (K_LyEi.mk a0.f0 ((o114_0 (K_LyEi.mk a0.f0 ((o153_0 a0).f1)) 12).f1)) 3).f1)) [0, 1, 10000]).f1)) else
  (K_LyEi.mk a0.f0 ((o114_0 (K_LyEi.mk a0.f0 ((o153_0 a0).f1)) 12).f1))
def m103 (a0 : K_LyEi) : (List K_si) :=
  if ((m114 (K_LyEi.mk a0.f0 ((o153_0 a0).f1)) 12) == 0) = true then ((m153 a0) ++ ([(K_si.mk (getD ([(⟨#[]⟩ : ByteArray), (⟨#[97, 32, 98]⟩ : ByteArray), (⟨#[111, 107]⟩ : ByteArray)]) (Int.toNat (m114 (K_LyEi.mk a0.f0 ((o114_0 (K_LyEi.mk a0.f0 ((o153_0 a0).f1)) 12).f1)) 3)) (⟨#[]⟩ : ByteArray)) (m105 (K_LyEi.mk a0.f0 ((o114_0 (K_LyEi.mk a0.f0 ((o114_0 (K_LyEi.mk a0.f0 ((o153_0 a0).f1)) 12).f1)) 3).f1)) [0, 1, 10000]))])) else
  if ((m114 (K_LyEi.mk a0.f0 ((o153_0 a0).f1)) 12) == 1) = true then [(K_si.mk (⟨#[]⟩ : ByteArray) 0), (K_si.mk (⟨#[]⟩ : ByteArray) 0), (K_si.mk (⟨#[]⟩ : ByteArray) 0), (K_si.mk (⟨#[]⟩ : ByteArray) 0), (K_si.mk (⟨#[]⟩ : ByteArray) 0), (K_si.mk (⟨#[]⟩ : ByteArray) 0), (K_si.mk (⟨#[]⟩ : ByteArray) 0), (K_si.mk (⟨#[]⟩ : ByteArray) 0), (K_si.mk (⟨#[]⟩ : ByteArray) 0), (K_si.mk (⟨#[]⟩ : ByteArray) 0), (K_si.mk (⟨#[]⟩ : ByteArray) 0), (K_si.mk (⟨#[]⟩ : ByteArray) 0), (K_si.mk (⟨#[]⟩ : ByteArray) 0)] else
    (m153 a0)
theorem e103 {l0_0 : Nat} {a0 : K_LyEi} (hy0 : S a0 60) : Ev F X (.call 103 [(.ptr ⟨(0, 0, 0), [], 0, 0, 2⟩)] [((0, 0, 0), ⟨2, [[(.bor (l0_0 + 1) (map b_y a0.f0)), (.val (.int .i64 a0.f1))]], []⟩)] [[[(.bor l0_0 (map b_y a0.f0)), (.val (.int .i64 ((o103_0 a0).f1)))]]] [(.one (.own 2 (map d_si (m103 a0))))]) := by
  unfold m103 o103_0
  have f0 : Ev F X (.call 153 [(.ptr ⟨(0, 0, 0), [], 0, 0, 2⟩)] [((0, 0, 0), ⟨2, [[(.bor (l0_0 + 2) (map b_y a0.f0)), (.i a0.f1)]], []⟩)] [[[(.bor (l0_0 + 1) (map b_y a0.f0)), (.i ((o153_0 a0).f1))]]] [(.one (.own 2 (map d_si (m153 a0))))]) := (e153 (a0 := a0) (by (repeat (first | with_reducible refine sm153 ?_ rfl | with_reducible refine sm105 _ ?_ rfl | with_reducible refine sm114 _ ?_ rfl | with_reducible refine sm104 ?_ rfl)); exact S_le (by assumption) (by omega)))
  have f1 : Ev F X (.call 114 [(.ptr ⟨(0, 0, 0), [], 0, 0, 2⟩), (.oi 12)] [((0, 0, 0), ⟨2, [[(.bor (l0_0 + 2) (map b_y a0.f0)), (.i ((o153_0 a0).f1))]], []⟩)] [[[(.bor (l0_0 + 1) (map b_y a0.f0)), (.i ((o114_0 (K_LyEi.mk a0.f0 ((o153_0 a0).f1)) 12).f1))]]] [(.oi (m114 (K_LyEi.mk a0.f0 ((o153_0 a0).f1)) 12))]) := (e114 (a0 := (K_LyEi.mk a0.f0 ((o153_0 a0).f1))) (a1 := 12) (by (repeat (first | with_reducible refine sm153 ?_ rfl | with_reducible refine sm105 _ ?_ rfl | with_reducible refine sm114 _ ?_ rfl | with_reducible refine sm104 ?_ rfl)); exact S_le (by assumption) (by omega)))
  by_cases h0 : ((m114 (K_LyEi.mk a0.f0 ((o153_0 a0).f1)) 12) == 0) = true
  · try simp only [if_pos h0]
    have f3 : Ev F X (.call 114 [(.ptr ⟨(0, 0, 0), [], 0, 0, 2⟩), (.oi 3)] [((0, 0, 0), ⟨2, [[(.bor (l0_0 + 2) (map b_y a0.f0)), (.i ((o114_0 (K_LyEi.mk a0.f0 ((o153_0 a0).f1)) 12).f1))]], []⟩)] [[[(.bor (l0_0 + 1) (map b_y a0.f0)), (.i ((o114_0 (K_LyEi.mk a0.f0 ((o114_0 (K_LyEi.mk a0.f0 ((o153_0 a0).f1)) 12).f1)) 3).f1))]]] [(.oi (m114 (K_LyEi.mk a0.f0 ((o114_0 (K_LyEi.mk a0.f0 ((o153_0 a0).f1)) 12).f1)) 3))]) := (e114 (a0 := (K_LyEi.mk a0.f0 ((o114_0 (K_LyEi.mk a0.f0 ((o153_0 a0).f1)) 12).f1))) (a1 := 3) (by (repeat (first | with_reducible refine sm153 ?_ rfl | with_reducible refine sm105 _ ?_ rfl | with_reducible refine sm114 _ ?_ rfl | with_reducible refine sm104 ?_ rfl)); exact S_le (by assumption) (by omega)))
    have f4 : 3 ≤ 3 := (by omega)
    have f5 : 0 ≤ (m114 (K_LyEi.mk a0.f0 ((o114_0 (K_LyEi.mk a0.f0 ((o153_0 a0).f1)) 12).f1)) 3) ∧ (m114 (K_LyEi.mk a0.f0 ((o114_0 (K_LyEi.mk a0.f0 ((o153_0 a0).f1)) 12).f1)) 3) < (3 : Int) := (by exact rng _ _ (by (repeat (first | with_reducible refine sm153 ?_ rfl | with_reducible refine sm105 _ ?_ rfl | with_reducible refine sm114 _ ?_ rfl | with_reducible refine sm104 ?_ rfl)); exact S_le (by assumption) (by omega)) (by omega) (by omega))
    have f6 : ([[(.val (.string (⟨#[]⟩ : ByteArray)))], [(.val (.string (⟨#[97, 32, 98]⟩ : ByteArray)))], [(.val (.string (⟨#[111, 107]⟩ : ByteArray)))]] : List (List D))[(0 + (Int.toNat (m114 (K_LyEi.mk a0.f0 ((o114_0 (K_LyEi.mk a0.f0 ((o153_0 a0).f1)) 12).f1)) 3)))]? = some [(.val (.string (getD ([(⟨#[]⟩ : ByteArray), (⟨#[97, 32, 98]⟩ : ByteArray), (⟨#[111, 107]⟩ : ByteArray)]) (Int.toNat (m114 (K_LyEi.mk a0.f0 ((o114_0 (K_LyEi.mk a0.f0 ((o153_0 a0).f1)) 12).f1)) 3)) (⟨#[]⟩ : ByteArray))))] := (show (map d_s [(⟨#[]⟩ : ByteArray), (⟨#[97, 32, 98]⟩ : ByteArray), (⟨#[111, 107]⟩ : ByteArray)])[(0 + (Int.toNat (m114 (K_LyEi.mk a0.f0 ((o114_0 (K_LyEi.mk a0.f0 ((o153_0 a0).f1)) 12).f1)) 3)))]? = some [(.val (.string (getD ([(⟨#[]⟩ : ByteArray), (⟨#[97, 32, 98]⟩ : ByteArray), (⟨#[111, 107]⟩ : ByteArray)]) (Int.toNat (m114 (K_LyEi.mk a0.f0 ((o114_0 (K_LyEi.mk a0.f0 ((o153_0 a0).f1)) 12).f1)) 3)) (⟨#[]⟩ : ByteArray))))] from (by rw [Nat.zero_add, getElem?_map, getD_at ([(⟨#[]⟩ : ByteArray), (⟨#[97, 32, 98]⟩ : ByteArray), (⟨#[111, 107]⟩ : ByteArray)]) (Int.toNat (m114 (K_LyEi.mk a0.f0 ((o114_0 (K_LyEi.mk a0.f0 ((o153_0 a0).f1)) 12).f1)) 3)) (⟨#[]⟩ : ByteArray) (by first | exact True.intro | with_reducible rfl | with_reducible assumption | omega | ((repeat (first | with_reducible refine sm153 ?_ rfl | with_reducible refine sm105 _ ?_ rfl | with_reducible refine sm114 _ ?_ rfl | with_reducible refine sm104 ?_ rfl)); exact S_le (by assumption) (by omega)) | (exact rng _ _ (by (repeat (first | with_reducible refine sm153 ?_ rfl | with_reducible refine sm105 _ ?_ rfl | with_reducible refine sm114 _ ?_ rfl | with_reducible refine sm104 ?_ rfl)); exact S_le (by assumption) (by omega)) (by omega) (by omega)) | (have q := len153 (a := a0) (S_le hy0 (by omega)); simp only [length_map, length_append, length_cons, length_nil, length_take, length_drop]; omega) | (simp; done) | (unfold m114; (repeat' split) <;> simp_all <;> omega) | (simp only [decide_eq_true_eq] at *; omega) | (simp only [length_cons, length_nil]; omega) | (simp; omega) | (simp [take_of_length_le]; done) | assumption | trivial | (simp [*, byteRows_eq, ints_y]; done))]; rfl))
    have f7 : 3 ≤ 3 := (by omega)
    have f8 : fullR (take 3 (drop 0 [[(.val (.int .i64 0))], [(.val (.int .i64 1))], [(.val (.int .i64 10000))]])) = true := (by trivial)
    have f9 : toBR (take 3 (drop 0 [[(.val (.int .i64 0))], [(.val (.int .i64 1))], [(.val (.int .i64 10000))]])) = [[(.val (.int .i64 0))], [(.val (.int .i64 1))], [(.val (.int .i64 10000))]] := (by trivial)
    have f10 : Ev F X (.call 105 [(.ptr ⟨(0, 0, 0), [], 0, 0, 2⟩), (.one (.bor 0 [[(.i 0)], [(.i 1)], [(.i 10000)]]))] [((0, 0, 0), ⟨2, [[(.bor (l0_0 + 2) (map b_y a0.f0)), (.i ((o114_0 (K_LyEi.mk a0.f0 ((o114_0 (K_LyEi.mk a0.f0 ((o153_0 a0).f1)) 12).f1)) 3).f1))]], []⟩)] [[[(.bor (l0_0 + 1) (map b_y a0.f0)), (.i ((o105_0 (K_LyEi.mk a0.f0 ((o114_0 (K_LyEi.mk a0.f0 ((o114_0 (K_LyEi.mk a0.f0 ((o153_0 a0).f1)) 12).f1)) 3).f1)) [0, 1, 10000]).f1))]]] [(.oi (m105 (K_LyEi.mk a0.f0 ((o114_0 (K_LyEi.mk a0.f0 ((o114_0 (K_LyEi.mk a0.f0 ((o153_0 a0).f1)) 12).f1)) 3).f1)) [0, 1, 10000]))]) := (e105 (a0 := (K_LyEi.mk a0.f0 ((o114_0 (K_LyEi.mk a0.f0 ((o114_0 (K_LyEi.mk a0.f0 ((o153_0 a0).f1)) 12).f1)) 3).f1))) (a1 := [0, 1, 10000]) (by (repeat (first | with_reducible refine sm153 ?_ rfl | with_reducible refine sm105 _ ?_ rfl | with_reducible refine sm114 _ ?_ rfl | with_reducible refine sm104 ?_ rfl)); exact S_le (by assumption) (by omega)) (by have q := len153 (a := a0) (S_le hy0 (by omega)); simp only [length_map, length_append, length_cons, length_nil, length_take, length_drop]; omega) (by have q := len153 (a := a0) (S_le hy0 (by omega)); simp only [length_map, length_append, length_cons, length_nil, length_take, length_drop]; omega))
    have f11 : 0 + (length (map d_si (m153 a0))) ≤ (length (map d_si (m153 a0))) := (by omega)
    have f12 : 1 ≤ 1 := (by omega)
    have f13 : ((take 1 (drop 0 [[(.val (.string (getD ([(⟨#[]⟩ : ByteArray), (⟨#[97, 32, 98]⟩ : ByteArray), (⟨#[111, 107]⟩ : ByteArray)]) (Int.toNat (m114 (K_LyEi.mk a0.f0 ((o114_0 (K_LyEi.mk a0.f0 ((o153_0 a0).f1)) 12).f1)) 3)) (⟨#[]⟩ : ByteArray)))), (.val (.int .i64 (m105 (K_LyEi.mk a0.f0 ((o114_0 (K_LyEi.mk a0.f0 ((o114_0 (K_LyEi.mk a0.f0 ((o153_0 a0).f1)) 12).f1)) 3).f1)) [0, 1, 10000])))]])).all fun x => x.all copyable) = true := (by assumption)
    have f14 : (length ((take (length (map d_si (m153 a0))) (drop 0 (map d_si (m153 a0)))) ++ ([[(.val (.string (getD ([(⟨#[]⟩ : ByteArray), (⟨#[97, 32, 98]⟩ : ByteArray), (⟨#[111, 107]⟩ : ByteArray)]) (Int.toNat (m114 (K_LyEi.mk a0.f0 ((o114_0 (K_LyEi.mk a0.f0 ((o153_0 a0).f1)) 12).f1)) 3)) (⟨#[]⟩ : ByteArray)))), (.val (.int .i64 (m105 (K_LyEi.mk a0.f0 ((o114_0 (K_LyEi.mk a0.f0 ((o114_0 (K_LyEi.mk a0.f0 ((o153_0 a0).f1)) 12).f1)) 3).f1)) [0, 1, 10000])))]] : List (List D)))) * 24 ≤ 70368744177664 := (by have q := len153 (a := a0) (S_le hy0 (by omega)); simp only [length_map, length_append, length_cons, length_nil, length_take, length_drop]; omega)
    have f15 : ∀ r ∈ ([[(.val (.string (getD ([(⟨#[]⟩ : ByteArray), (⟨#[97, 32, 98]⟩ : ByteArray), (⟨#[111, 107]⟩ : ByteArray)]) (Int.toNat (m114 (K_LyEi.mk a0.f0 ((o114_0 (K_LyEi.mk a0.f0 ((o153_0 a0).f1)) 12).f1)) 3)) (⟨#[]⟩ : ByteArray)))), (.val (.int .i64 (m105 (K_LyEi.mk a0.f0 ((o114_0 (K_LyEi.mk a0.f0 ((o114_0 (K_LyEi.mk a0.f0 ((o153_0 a0).f1)) 12).f1)) 3).f1)) [0, 1, 10000])))]] : List (List D)), r.length = 2 := (by simp; done)
    have f16 : ((take (length (map d_si (m153 a0))) (drop 0 (map d_si (m153 a0)))) ++ ([[(.val (.string (getD ([(⟨#[]⟩ : ByteArray), (⟨#[97, 32, 98]⟩ : ByteArray), (⟨#[111, 107]⟩ : ByteArray)]) (Int.toNat (m114 (K_LyEi.mk a0.f0 ((o114_0 (K_LyEi.mk a0.f0 ((o153_0 a0).f1)) 12).f1)) 3)) (⟨#[]⟩ : ByteArray)))), (.val (.int .i64 (m105 (K_LyEi.mk a0.f0 ((o114_0 (K_LyEi.mk a0.f0 ((o114_0 (K_LyEi.mk a0.f0 ((o153_0 a0).f1)) 12).f1)) 3).f1)) [0, 1, 10000])))]] : List (List D))) = (map d_si ((m153 a0) ++ ([(K_si.mk (getD ([(⟨#[]⟩ : ByteArray), (⟨#[97, 32, 98]⟩ : ByteArray), (⟨#[111, 107]⟩ : ByteArray)]) (Int.toNat (m114 (K_LyEi.mk a0.f0 ((o114_0 (K_LyEi.mk a0.f0 ((o153_0 a0).f1)) 12).f1)) 3)) (⟨#[]⟩ : ByteArray)) (m105 (K_LyEi.mk a0.f0 ((o114_0 (K_LyEi.mk a0.f0 ((o114_0 (K_LyEi.mk a0.f0 ((o153_0 a0).f1)) 12).f1)) 3).f1)) [0, 1, 10000]))]))) := (by simp [byteRows_eq, ints_y, take_of_length_le, d_y, d_LyE, d_b, d_si, d_LsiE, d_iLsiE, d_i, d_s, d_LyEi, d_LiE, fromBR_y, fromBR_b, fromBR_si, fromBR_i, fromBR_s]; done)
    have f17 : 0 = 0 := rfl
    have f18 : (length ((take (length (map d_si (m153 a0))) (drop 0 (map d_si (m153 a0)))) ++ ([[(.val (.string (getD ([(⟨#[]⟩ : ByteArray), (⟨#[97, 32, 98]⟩ : ByteArray), (⟨#[111, 107]⟩ : ByteArray)]) (Int.toNat (m114 (K_LyEi.mk a0.f0 ((o114_0 (K_LyEi.mk a0.f0 ((o153_0 a0).f1)) 12).f1)) 3)) (⟨#[]⟩ : ByteArray)))), (.val (.int .i64 (m105 (K_LyEi.mk a0.f0 ((o114_0 (K_LyEi.mk a0.f0 ((o114_0 (K_LyEi.mk a0.f0 ((o153_0 a0).f1)) 12).f1)) 3).f1)) [0, 1, 10000])))]] : List (List D)))) = (length (map d_si ((m153 a0) ++ ([(K_si.mk (getD ([(⟨#[]⟩ : ByteArray), (⟨#[97, 32, 98]⟩ : ByteArray), (⟨#[111, 107]⟩ : ByteArray)]) (Int.toNat (m114 (K_LyEi.mk a0.f0 ((o114_0 (K_LyEi.mk a0.f0 ((o153_0 a0).f1)) 12).f1)) 3)) (⟨#[]⟩ : ByteArray)) (m105 (K_LyEi.mk a0.f0 ((o114_0 (K_LyEi.mk a0.f0 ((o114_0 (K_LyEi.mk a0.f0 ((o153_0 a0).f1)) 12).f1)) 3).f1)) [0, 1, 10000]))])))) := (by have q := len153 (a := a0) (S_le hy0 (by omega)); simp only [length_map, length_append, length_cons, length_nil, length_take, length_drop]; omega)
    have f19 : pureR (map d_si ((m153 a0) ++ ([(K_si.mk (getD ([(⟨#[]⟩ : ByteArray), (⟨#[97, 32, 98]⟩ : ByteArray), (⟨#[111, 107]⟩ : ByteArray)]) (Int.toNat (m114 (K_LyEi.mk a0.f0 ((o114_0 (K_LyEi.mk a0.f0 ((o153_0 a0).f1)) 12).f1)) 3)) (⟨#[]⟩ : ByteArray)) (m105 (K_LyEi.mk a0.f0 ((o114_0 (K_LyEi.mk a0.f0 ((o114_0 (K_LyEi.mk a0.f0 ((o153_0 a0).f1)) 12).f1)) 3).f1)) [0, 1, 10000]))]))) = true := (pureR_si _)
    exact callP_ok (ps := [false]) (os := [[[(.bor l0_0 (map b_y a0.f0)), (.i ((o105_0 (K_LyEi.mk a0.f0 ((o114_0 (K_LyEi.mk a0.f0 ((o114_0 (K_LyEi.mk a0.f0 ((o153_0 a0).f1)) 12).f1)) 3).f1)) [0, 1, 10000]).f1))]]]) (rs := [(.one (.own 2 (map d_si ((m153 a0) ++ ([(K_si.mk (getD ([(⟨#[]⟩ : ByteArray), (⟨#[97, 32, 98]⟩ : ByteArray), (⟨#[111, 107]⟩ : ByteArray)]) (Int.toNat (m114 (K_LyEi.mk a0.f0 ((o114_0 (K_LyEi.mk a0.f0 ((o153_0 a0).f1)) 12).f1)) 3)) (⟨#[]⟩ : ByteArray)) (m105 (K_LyEi.mk a0.f0 ((o114_0 (K_LyEi.mk a0.f0 ((o114_0 (K_LyEi.mk a0.f0 ((o153_0 a0).f1)) 12).f1)) 3).f1)) [0, 1, 10000]))])))))]) (by kernel_rfl) (.r 5 [false] [] f0 (.r 11 [false] [] f1 (.f h0 (.h 16 (.b true) (.r 24 [false] [] f3 (.f f4 (.f f5 (.f f6 (.f f7 (.f f8 (.f f9 (.h 28 (.rowD [(.val (.string (getD ([(⟨#[]⟩ : ByteArray), (⟨#[97, 32, 98]⟩ : ByteArray), (⟨#[111, 107]⟩ : ByteArray)]) (Int.toNat (m114 (K_LyEi.mk a0.f0 ((o114_0 (K_LyEi.mk a0.f0 ((o153_0 a0).f1)) 12).f1)) 3)) (⟨#[]⟩ : ByteArray))))]) (.r 34 [false] [[[(.i 0)], [(.i 1)], [(.i 10000)]]] f10 (.f f11 (.f f12 (.f f13 (.f f14 (.f f15 (.f f16 (.f f17 (.f f18 (.f f19 (.h 40 (.b true) (.h 43 (.norm (3, 0, 0) (map d_si ((m153 a0) ++ ([(K_si.mk (getD ([(⟨#[]⟩ : ByteArray), (⟨#[97, 32, 98]⟩ : ByteArray), (⟨#[111, 107]⟩ : ByteArray)]) (Int.toNat (m114 (K_LyEi.mk a0.f0 ((o114_0 (K_LyEi.mk a0.f0 ((o153_0 a0).f1)) 12).f1)) 3)) (⟨#[]⟩ : ByteArray)) (m105 (K_LyEi.mk a0.f0 ((o114_0 (K_LyEi.mk a0.f0 ((o114_0 (K_LyEi.mk a0.f0 ((o153_0 a0).f1)) 12).f1)) 3).f1)) [0, 1, 10000]))])))) .nil))))))))))))))))))))))))
  · try simp only [if_neg h0]
    by_cases h1 : ((m114 (K_LyEi.mk a0.f0 ((o153_0 a0).f1)) 12) == 1) = true
    · try simp only [if_pos h1]
      have f4 : 0 ≤ (13 : Int) ∧ (13 : Int) ≤ (13 : Int) ∧ (13 : Int) ≤ 140737488355328 ∧ (13 : Int) * 24 ≤ 140737488355328 := (by omega)
      have f5 : 0 = 0 := rfl
      have f6 : 13 = 13 := rfl
      have f7 : pureR [[(.val (.string (⟨#[]⟩ : ByteArray))), (.val (.int .i64 0))], [(.val (.string (⟨#[]⟩ : ByteArray))), (.val (.int .i64 0))], [(.val (.string (⟨#[]⟩ : ByteArray))), (.val (.int .i64 0))], [(.val (.string (⟨#[]⟩ : ByteArray))), (.val (.int .i64 0))], [(.val (.string (⟨#[]⟩ : ByteArray))), (.val (.int .i64 0))], [(.val (.string (⟨#[]⟩ : ByteArray))), (.val (.int .i64 0))], [(.val (.string (⟨#[]⟩ : ByteArray))), (.val (.int .i64 0))], [(.val (.string (⟨#[]⟩ : ByteArray))), (.val (.int .i64 0))], [(.val (.string (⟨#[]⟩ : ByteArray))), (.val (.int .i64 0))], [(.val (.string (⟨#[]⟩ : ByteArray))), (.val (.int .i64 0))], [(.val (.string (⟨#[]⟩ : ByteArray))), (.val (.int .i64 0))], [(.val (.string (⟨#[]⟩ : ByteArray))), (.val (.int .i64 0))], [(.val (.string (⟨#[]⟩ : ByteArray))), (.val (.int .i64 0))]] = true := (by trivial)
      exact callP_ok (ps := [false]) (os := [[[(.bor l0_0 (map b_y a0.f0)), (.i ((o114_0 (K_LyEi.mk a0.f0 ((o153_0 a0).f1)) 12).f1))]]]) (rs := [(.one (.own 2 [[(.val (.string (⟨#[]⟩ : ByteArray))), (.i 0)], [(.val (.string (⟨#[]⟩ : ByteArray))), (.i 0)], [(.val (.string (⟨#[]⟩ : ByteArray))), (.i 0)], [(.val (.string (⟨#[]⟩ : ByteArray))), (.i 0)], [(.val (.string (⟨#[]⟩ : ByteArray))), (.i 0)], [(.val (.string (⟨#[]⟩ : ByteArray))), (.i 0)], [(.val (.string (⟨#[]⟩ : ByteArray))), (.i 0)], [(.val (.string (⟨#[]⟩ : ByteArray))), (.i 0)], [(.val (.string (⟨#[]⟩ : ByteArray))), (.i 0)], [(.val (.string (⟨#[]⟩ : ByteArray))), (.i 0)], [(.val (.string (⟨#[]⟩ : ByteArray))), (.i 0)], [(.val (.string (⟨#[]⟩ : ByteArray))), (.i 0)], [(.val (.string (⟨#[]⟩ : ByteArray))), (.i 0)]]))]) (by kernel_rfl) (.r 5 [false] [] f0 (.r 11 [false] [] f1 (.f (nt h0) (.f h1 (.f f4 (.f f5 (.f f6 (.f f7 (.h 16 (.b false) (.h 21 (.b true) .nil))))))))))
    · try simp only [if_neg h1]
      have f4 : 0 = 0 := rfl
      have f5 : (length (map d_si (m153 a0))) = (length (map d_si (m153 a0))) := rfl
      have f6 : pureR (map d_si (m153 a0)) = true := (pureR_si _)
      exact callP_ok (ps := [false]) (os := [[[(.bor l0_0 (map b_y a0.f0)), (.i ((o114_0 (K_LyEi.mk a0.f0 ((o153_0 a0).f1)) 12).f1))]]]) (rs := [(.one (.own 2 (map d_si (m153 a0))))]) (by kernel_rfl) (.r 5 [false] [] f0 (.r 11 [false] [] f1 (.f (nt h0) (.f (nt h1) (.f f4 (.f f5 (.f f6 (.h 16 (.b false) (.h 21 (.b false) .nil)))))))))
theorem st103 {a : K_LyEi} {n : Nat} (h : S a (n + 25)) : S (o103_0 a) n := by
  unfold o103_0
  (repeat' split) <;> ((repeat (first | with_reducible refine sm153 ?_ rfl | with_reducible refine sm105 _ ?_ rfl | with_reducible refine sm114 _ ?_ rfl | with_reducible refine sm104 ?_ rfl)); exact S_le h (by omega))
theorem sm103 {a : K_LyEi} {n : Nat} {f : List Int} (h : S a (n + 25)) (e : a.f0 = f) : S (K_LyEi.mk f ((o103_0 a).f1)) n := by
  have e2 : (o103_0 a).f0 = a.f0 := by unfold o103_0; (repeat' split) <;> rfl
  rw [← e, ← e2]; exact st103 h
theorem len103 {a : K_LyEi} (h : S a 60) : (m103 a).length ≤ 13 := by
  have q := len153 (a := a) (S_le h (by omega))
  unfold m103
  (repeat' split) <;> simp <;> omega
theorem bsz (a : K_LyEi) : ∀ z ∈ m103 a, ByteArray.size z.f0 ≤ 3 := by
  unfold m103
  split
  · intro z hz
    rcases List.mem_append.1 hz with hz | hz
    · exact dsz a z hz
    · rw [List.mem_singleton.1 hz]; exact gsz _ (by decide) _
  · split
    · intro z hz
      simp at hz
      rw [hz]; simp [ByteArray.size]
    · exact dsz a
theorem bos (a : K_LyEi) : ∀ z ∈ m103 a, os_si z := fun z hz => Nat.le_trans (bsz a z hz) (by decide)
/-! loop.example/g00539/spec.DrawSplitAmount -/
def m47_0 (a0 : (List Int)) : Int :=
  (m105 (K_LyEi.mk ((m102 a0).f0) ((o114_0 (m102 a0) 5000).f1)) [50, 49, 7, 0, 1000000, 1000001, (m114 (m102 a0) 5000)])
def m47_1 (a0 : (List Int)) : (List K_si) :=
  (m103 (K_LyEi.mk ((m102 a0).f0) ((o105_0 (K_LyEi.mk ((m102 a0).f0) ((o114_0 (m102 a0) 5000).f1)) [50, 49, 7, 0, 1000000, 1000001, (m114 (m102 a0) 5000)]).f1)))
theorem e47 {l0_0 : Nat} {a0 : (List Int)} (hy0 : ∀ z ∈ a0, (0 : Int) ≤ z ∧ z ≤ 255) (hy1 : length a0 ≤ 140737488351232) : Ev F X (.call 47 [(.one (.bor l0_0 (map b_y a0)))] [] [] [(.one (.val (.int .i64 (m47_0 a0)))), (.one (.own 2 (map d_si (m47_1 a0))))]) := by
  have f0 : Ev F X (.call 102 [(.one (.bor (l0_0 + 1) (map b_y a0)))] [] [] [(.ptr [(.bor l0_0 (map b_y ((m102 a0).f0))), (.i ((m102 a0).f1))])]) := (e102 (a0 := a0))
  have f1 : Ev F X (.call 114 [(.ptr ⟨(0, 0, 0), [], 0, 0, 2⟩), (.oi 5000)] [((0, 0, 0), ⟨2, [[(.bor (l0_0 + 1) (map b_y ((m102 a0).f0))), (.i ((m102 a0).f1))]], []⟩)] [[[(.bor l0_0 (map b_y ((m102 a0).f0))), (.i ((o114_0 (m102 a0) 5000).f1))]]] [(.oi (m114 (m102 a0) 5000))]) := (e114 (a0 := (m102 a0)) (a1 := 5000) (by (repeat (first | with_reducible refine sm103 ?_ rfl | with_reducible refine sm153 ?_ rfl | with_reducible refine sm105 _ ?_ rfl | with_reducible refine sm114 _ ?_ rfl | with_reducible refine sm104 ?_ rfl)); exact S_le (S_src a0 (by assumption) (by assumption)) (by omega)))
  have f2 : 7 ≤ 7 := (by omega)
  have f3 : fullR (take 7 (drop 0 [[(.val (.int .i64 50))], [(.val (.int .i64 49))], [(.val (.int .i64 7))], [(.val (.int .i64 0))], [(.val (.int .i64 1000000))], [(.val (.int .i64 1000001))], [(.val (.int .i64 (m114 (m102 a0) 5000)))]])) = true := (by trivial)
  have f4 : toBR (take 7 (drop 0 [[(.val (.int .i64 50))], [(.val (.int .i64 49))], [(.val (.int .i64 7))], [(.val (.int .i64 0))], [(.val (.int .i64 1000000))], [(.val (.int .i64 1000001))], [(.val (.int .i64 (m114 (m102 a0) 5000)))]])) = [[(.val (.int .i64 50))], [(.val (.int .i64 49))], [(.val (.int .i64 7))], [(.val (.int .i64 0))], [(.val (.int .i64 1000000))], [(.val (.int .i64 1000001))], [(.val (.int .i64 (m114 (m102 a0) 5000)))]] := (by trivial)
  have f5 : Ev F X (.call 105 [(.ptr ⟨(0, 0, 0), [], 0, 0, 2⟩), (.one (.bor 0 [[(.i 50)], [(.i 49)], [(.i 7)], [(.i 0)], [(.i 1000000)], [(.i 1000001)], [(.i (m114 (m102 a0) 5000))]]))] [((0, 0, 0), ⟨2, [[(.bor (l0_0 + 1) (map b_y ((m102 a0).f0))), (.i ((o114_0 (m102 a0) 5000).f1))]], []⟩)] [[[(.bor l0_0 (map b_y ((m102 a0).f0))), (.i ((o105_0 (K_LyEi.mk ((m102 a0).f0) ((o114_0 (m102 a0) 5000).f1)) [50, 49, 7, 0, 1000000, 1000001, (m114 (m102 a0) 5000)]).f1))]]] [(.oi (m105 (K_LyEi.mk ((m102 a0).f0) ((o114_0 (m102 a0) 5000).f1)) [50, 49, 7, 0, 1000000, 1000001, (m114 (m102 a0) 5000)]))]) := (e105 (a0 := (K_LyEi.mk ((m102 a0).f0) ((o114_0 (m102 a0) 5000).f1))) (a1 := [50, 49, 7, 0, 1000000, 1000001, (m114 (m102 a0) 5000)]) (by (repeat (first | with_reducible refine sm103 ?_ rfl | with_reducible refine sm153 ?_ rfl | with_reducible refine sm105 _ ?_ rfl | with_reducible refine sm114 _ ?_ rfl | with_reducible refine sm104 ?_ rfl)); exact S_le (S_src a0 (by assumption) (by assumption)) (by omega)) (by simp; done) (by simp; done))
  have f6 : Ev F X (.call 103 [(.ptr ⟨(0, 0, 0), [], 0, 0, 2⟩)] [((0, 0, 0), ⟨2, [[(.bor (l0_0 + 1) (map b_y ((m102 a0).f0))), (.i ((o105_0 (K_LyEi.mk ((m102 a0).f0) ((o114_0 (m102 a0) 5000).f1)) [50, 49, 7, 0, 1000000, 1000001, (m114 (m102 a0) 5000)]).f1))]], []⟩)] [[[(.bor l0_0 (map b_y ((m102 a0).f0))), (.i ((o103_0 (K_LyEi.mk ((m102 a0).f0) ((o105_0 (K_LyEi.mk ((m102 a0).f0) ((o114_0 (m102 a0) 5000).f1)) [50, 49, 7, 0, 1000000, 1000001, (m114 (m102 a0) 5000)]).f1))).f1))]]] [(.one (.own 2 (map d_si (m103 (K_LyEi.mk ((m102 a0).f0) ((o105_0 (K_LyEi.mk ((m102 a0).f0) ((o114_0 (m102 a0) 5000).f1)) [50, 49, 7, 0, 1000000, 1000001, (m114 (m102 a0) 5000)]).f1))))))]) := (e103 (a0 := (K_LyEi.mk ((m102 a0).f0) ((o105_0 (K_LyEi.mk ((m102 a0).f0) ((o114_0 (m102 a0) 5000).f1)) [50, 49, 7, 0, 1000000, 1000001, (m114 (m102 a0) 5000)]).f1))) (by (repeat (first | with_reducible refine sm103 ?_ rfl | with_reducible refine sm153 ?_ rfl | with_reducible refine sm105 _ ?_ rfl | with_reducible refine sm114 _ ?_ rfl | with_reducible refine sm104 ?_ rfl)); exact S_le (S_src a0 (by assumption) (by assumption)) (by omega)))
  have f7 : 0 = 0 := rfl
  have f8 : (length (map d_si (m103 (K_LyEi.mk ((m102 a0).f0) ((o105_0 (K_LyEi.mk ((m102 a0).f0) ((o114_0 (m102 a0) 5000).f1)) [50, 49, 7, 0, 1000000, 1000001, (m114 (m102 a0) 5000)]).f1))))) = (length (map d_si (m103 (K_LyEi.mk ((m102 a0).f0) ((o105_0 (K_LyEi.mk ((m102 a0).f0) ((o114_0 (m102 a0) 5000).f1)) [50, 49, 7, 0, 1000000, 1000001, (m114 (m102 a0) 5000)]).f1))))) := rfl
  have f9 : pureR (map d_si (m103 (K_LyEi.mk ((m102 a0).f0) ((o105_0 (K_LyEi.mk ((m102 a0).f0) ((o114_0 (m102 a0) 5000).f1)) [50, 49, 7, 0, 1000000, 1000001, (m114 (m102 a0) 5000)]).f1)))) = true := (pureR_si _)
  exact callP_ok (ps := []) (os := []) (rs := [(.oi (m105 (K_LyEi.mk ((m102 a0).f0) ((o114_0 (m102 a0) 5000).f1)) [50, 49, 7, 0, 1000000, 1000001, (m114 (m102 a0) 5000)])), (.one (.own 2 (map d_si (m103 (K_LyEi.mk ((m102 a0).f0) ((o105_0 (K_LyEi.mk ((m102 a0).f0) ((o114_0 (m102 a0) 5000).f1)) [50, 49, 7, 0, 1000000, 1000001, (m114 (m102 a0) 5000)]).f1))))))]) (by kernel_rfl) (.r 7 [] [] f0 (.r 15 [false] [] f1 (.f f2 (.f f3 (.f f4 (.r 19 [false] [[[(.i 50)], [(.i 49)], [(.i 7)], [(.i 0)], [(.i 1000000)], [(.i 1000001)], [(.i (m114 (m102 a0) 5000))]]] f5 (.r 23 [false] [] f6 (.f f7 (.f f8 (.f f9 .nil))))))))))
theorem dl47 {a0 : List Int} (h1 : ∀ z ∈ a0, (0 : Int) ≤ z ∧ z ≤ 255) (h2 : length a0 ≤ 140737488351232) : (m47_1 a0).length ≤ 13 := by unfold m47_1; exact len103 (by (repeat (first | with_reducible refine sm105 _ ?_ rfl | with_reducible refine sm114 _ ?_ rfl)); exact S_le (S_src a0 h1 h2) (by omega))
theorem dos (a0 : List Int) : ∀ z ∈ m47_1 a0, os_si z := bos _
/-! loop.example/g00539/impl.isAmount -/
def m72 (a0 : Int) : Bool :=
  (m93 a0 0 1000000)
theorem e72 {a0 : Int} : Ev F X (.call 72 [(.one (.val (.int .i64 a0)))] [] [] [(.one (.val (.bool (m93 a0 0 1000000))))]) := by
  have f0 : Ev F X (.call 93 [(.oi a0), (.oi 0), (.oi 1000000)] [] [] [(.one (.val (.bool (m93 a0 0 1000000))))]) := (e93 (a0 := a0) (a1 := 0) (a2 := 1000000))
  exact callP_ok (ps := []) (os := []) (rs := [(.one (.val (.bool (m93 a0 0 1000000))))]) (by kernel_rfl) (.r 5 [] [] f0 .nil)
/-! loop 75_0 -/
inductive O75_0 where
  | k0 (w0 : Int) (w1 : Int) (w2 : Bool)
def r75_0 (a0 : (List K_si)) : List K_si → Int → Int → O75_0
  | x0 :: y0, i, v0 =>
    (r75_0 a0 y0 (i + 1) (IntKind.wrap .i64 (v0 + x0.f1)))
  | [], i, v0 => (O75_0.k0 v0 i (decide (i < ((length (map b_si a0)) : Int))))
def h75_0 (l0_0 : Nat) (a0 : (List K_si)) (i : Int) (v0 : Int) : St := ⟨[(3, (.one (.val (.int .i64 v0)))), (6, (.one (.bor l0_0 (map b_si a0)))), (7, (.one (.val (.int .i64 ((length (map b_si a0)) : Int))))), (8, (.one (.val (.int .i64 i))))], []⟩
def ex75_0 : O75_0 → VX.Exit
  | .k0 _ _ _ => (.exit 0)
def fin75_0 (l0_0 : Nat) (a0 : (List K_si)) : O75_0 → St
  | .k0 w0 w1 w2 => ⟨[(3, (.one (.val (.int .i64 w0)))), (6, (.one (.bor l0_0 (map b_si a0)))), (7, (.one (.val (.int .i64 ((length (map b_si a0)) : Int))))), (8, (.one (.val (.int .i64 w1)))), (9, (.one (.val (.bool w2))))], []⟩
theorem t75_0 {l0_0 : Nat} {a0 : (List K_si)} (hy0 : length a0 * 24 ≤ 140737488351232) : ∀ (y0 : List K_si) (p : List K_si) (v0 : Int), p ++ y0 = a0 → Ev F X (.code l75_0 (h75_0 l0_0 a0 (length p : Int) v0) (ex75_0 (r75_0 a0 y0 (length p : Int) v0)) (fin75_0 l0_0 a0 (r75_0 a0 y0 (length p : Int) v0)))
  | [], p, v0, hp0 => by
    have hc : ¬ (decide ((length p : Int) < ((length (map b_si a0)) : Int))) = true := by
      rw [← hp0]; simp only [length_map, length_set, length_append, length_replicate, length_cons, length_nil, decide_eq_true_eq]; omega
    have st := codeH_ok (F := F) (X := X) (c := b75_0) (t := 0) (hs := [(2, .b false)]) (σ := h75_0 l0_0 a0 (length p : Int) v0) (σ' := fin75_0 l0_0 a0 (.k0 v0 (length p : Int) (decide ((length p : Int) < ((length (map b_si a0)) : Int))))) (e := (.exit 0)) (t' := 3) (hs' := []) (q := [(decide ((length p : Int) < ((length (map b_si a0)) : Int))) = false]) (by kernel_rfl) ⟨(nt hc), trivial⟩
    exact .loopX st (show ((.exit 0) : VX.Exit) ≠ .normal from by simp)
  | x0 :: y0, p, v0, hp0 => by
    have hc : (decide ((length p : Int) < ((length (map b_si a0)) : Int))) = true := by
      rw [← hp0]; simp only [length_map, length_set, length_append, length_replicate, length_cons, length_nil, decide_eq_true_eq]; omega
    have Hx0 : (a0)[Int.toNat (length p : Int)]? = some x0 := by
      rw [← hp0, Int.toNat_natCast]; simp
    have hlen : length (a0) = length p + length y0 + 1 := by rw [← hp0]; simp; omega
    have hw : IntKind.wrap .i64 ((length p : Int) + 1) = (length p : Int) + 1 := wrap64 (by omega)
    simp only [r75_0]
    have st := codeH_ok (F := F) (X := X) (c := b75_0) (t := 0) (hs := [(2, .b true), (4, .row [(.val (.string x0.f0)), (.i x0.f1)])]) (σ := h75_0 l0_0 a0 (length p : Int) v0) (σ' := ⟨[(3, (.oi (IntKind.wrap .i64 (v0 + x0.f1)))), (6, (.one (.bor l0_0 (map b_si a0)))), (7, (.oi ((length (map b_si a0)) : Int))), (8, (.oi (IntKind.wrap .i64 ((length p : Int) + 1))))], []⟩) (e := .normal) (t' := 25) (hs' := []) (q := [(decide ((length p : Int) < ((length (map b_si a0)) : Int))) = true, 0 ≤ (length p : Int), (map b_si a0)[(Int.toNat (length p : Int))]? = some [(.val (.string x0.f0)), (.i x0.f1)], True, True]) (by kernel_rfl) ⟨hc, (by omega), (by rw [getElem?_map, Hx0]; rfl), trivial, trivial, trivial⟩
    have ih := t75_0 (l0_0 := l0_0) (a0 := a0) hy0 y0 (p ++ [x0]) (IntKind.wrap .i64 (v0 + x0.f1)) (by rw [append_assoc]; exact hp0)
    rw [show ((p ++ [x0]).length : Int) = (p.length : Int) + 1 from by simp] at ih
    rw [show (⟨[(3, (.oi (IntKind.wrap .i64 (v0 + x0.f1)))), (6, (.one (.bor l0_0 (map b_si a0)))), (7, (.oi ((length (map b_si a0)) : Int))), (8, (.oi (IntKind.wrap .i64 ((length p : Int) + 1))))], []⟩ : St) = h75_0 l0_0 a0 ((length p : Int) + 1) (IntKind.wrap .i64 (v0 + x0.f1)) from (by unfold h75_0; simp only [hw]; done)] at st
    exact .loopN st ih
/-! loop.example/g00539/impl.amounts -/
def m75 (a0 : (List K_si)) : Int :=
  (match r75_0 a0 a0 0 0 with | .k0 w0_0 w1_0 w2_0 => w0_0)
theorem e75 {l0_0 : Nat} {a0 : (List K_si)} (hy0 : length a0 * 24 ≤ 140737488351232) : Ev F X (.call 75 [(.one (.bor l0_0 (map b_si a0)))] [] [] [(.one (.val (.int .i64 (m75 a0))))]) := by
  unfold m75
  cases h0 : r75_0 a0 a0 0 0 with
  | k0 w0_0 w1_0 w2_0 =>
    try dsimp only
    have f0 : (⟨[(3, (.oi 0)), (6, (.one (.bor l0_0 (map b_si a0)))), (7, (.oi ((length (map b_si a0)) : Int))), (8, (.oi 0))], []⟩ : St) = h75_0 l0_0 a0 0 0 := (by rfl)
    have f1 : Ev F X (.code l75_0 (h75_0 l0_0 a0 0 0) (.exit 0) ⟨[(3, (.oi w0_0)), (6, (.one (.bor l0_0 (map b_si a0)))), (7, (.oi ((length (map b_si a0)) : Int))), (8, (.oi w1_0)), (9, (.one (.val (.bool w2_0))))], []⟩) := (by have t : Ev F X (.code l75_0 (h75_0 l0_0 a0 0 0) (ex75_0 (r75_0 a0 a0 0 0)) (fin75_0 l0_0 a0 (r75_0 a0 a0 0 0))) := t75_0 (l0_0 := l0_0) (a0 := a0) (by assumption) a0 [] 0 rfl; rw [h0] at t; exact t)
    exact callP_ok (ps := []) (os := []) (rs := [(.oi w0_0)]) (by kernel_rfl) (.f f0 (.f f1 (.h 10 (.loop (h75_0 l0_0 a0 0 0) (.exit 0) ⟨[(3, (.oi w0_0)), (6, (.one (.bor l0_0 (map b_si a0)))), (7, (.oi ((length (map b_si a0)) : Int))), (8, (.oi w1_0)), (9, (.one (.val (.bool w2_0))))], []⟩) .nil)))
theorem tot_r75 (a : List K_si) : ∀ (l : List K_si) (i v : Int), (∀ z ∈ l, 1 ≤ z.f1 ∧ z.f1 ≤ 119988) → 0 ≤ v → v + 119988 * l.length ≤ 1000000000 → ∃ w j b, r75_0 a l i v = .k0 w j b ∧ v + l.length ≤ w ∧ w ≤ v + 119988 * l.length
  | [], i, v, _, _, _ => ⟨v, _, _, rfl, by simp, by simp⟩
  | x :: l, i, v, h, h0, hb => by
    have hx := h x (List.mem_cons_self ..)
    simp only [length_cons] at hb
    simp only [r75_0]
    rw [wrap64 (by omega)]
    obtain ⟨w, j, b, e, h1, h2⟩ := tot_r75 a l (i + 1) (v + x.f1) (fun z hz => h z (List.mem_cons_of_mem _ hz)) (by omega) (by omega)
    exact ⟨w, j, b, e, by simp only [length_cons]; omega, by simp only [length_cons]; omega⟩
theorem tot_75 (a : List K_si) (h : ∀ z ∈ a, 1 ≤ z.f1 ∧ z.f1 ≤ 119988) (hl : a.length ≤ 12) : (a.length : Int) ≤ m75 a ∧ m75 a ≤ 119988 * a.length := by
  obtain ⟨w, j, b, e, h1, h2⟩ := tot_r75 a a 0 0 h (by omega) (by omega)
  unfold m75
  rw [e]; simp only []; omega
/-! loop 151_0 -/
inductive O151_0 where
  | k0 (w0 : Int) (w1 : Bool)
  | k1 (w0 : Int)
def r151_0 (a0 : (List Int)) (a1 : Int) : List Int → Int → O151_0
  | x0 :: y0, i =>
    if (a1 == x0) = true then (O151_0.k1 i) else
    (r151_0 a0 a1 y0 (i + 1) )
  | [], i => (O151_0.k0 i (decide (i < ((length (map b_i a0)) : Int))))
def h151_0 (l0_0 : Nat) (a0 : (List Int)) (a1 : Int) (i : Int)  : St := ⟨[(0, (.one (.bor l0_0 (map b_i a0)))), (1, (.one (.val (.int .i64 a1)))), (7, (.one (.val (.int .i64 ((length (map b_i a0)) : Int))))), (8, (.one (.val (.int .i64 i))))], []⟩
def ex151_0 : O151_0 → VX.Exit
  | .k0 _ _ => (.exit 0)
  | .k1 _ => .ret
def fin151_0 (l0_0 : Nat) (a0 : (List Int)) (a1 : Int) : O151_0 → St
  | .k0 w0 w1 => ⟨[(0, (.one (.bor l0_0 (map b_i a0)))), (1, (.one (.val (.int .i64 a1)))), (7, (.one (.val (.int .i64 ((length (map b_i a0)) : Int))))), (8, (.one (.val (.int .i64 w0)))), (9, (.one (.val (.bool w1))))], []⟩
  | .k1 w0 => ⟨[(4, (.one (.val (.int .i64 w0))))], []⟩
theorem t151_0 {l0_0 : Nat} {a0 : (List Int)} {a1 : Int} (hy0 : length a0 * 8 ≤ 140737488351232) : ∀ (y0 : List Int) (p : List Int) , p ++ y0 = a0 → Ev F X (.code l151_0 (h151_0 l0_0 a0 a1 (length p : Int) ) (ex151_0 (r151_0 a0 a1 y0 (length p : Int) )) (fin151_0 l0_0 a0 a1 (r151_0 a0 a1 y0 (length p : Int) )))
  | [], p, hp0 => by
    have hc : ¬ (decide ((length p : Int) < ((length (map b_i a0)) : Int))) = true := by
      rw [← hp0]; simp only [length_map, length_set, length_append, length_replicate, length_cons, length_nil, decide_eq_true_eq]; omega
    have st := codeH_ok (F := F) (X := X) (c := b151_0) (t := 0) (hs := [(2, .b false)]) (σ := h151_0 l0_0 a0 a1 (length p : Int) ) (σ' := fin151_0 l0_0 a0 a1 (.k0 (length p : Int) (decide ((length p : Int) < ((length (map b_i a0)) : Int))))) (e := (.exit 0)) (t' := 3) (hs' := []) (q := [(decide ((length p : Int) < ((length (map b_i a0)) : Int))) = false]) (by kernel_rfl) ⟨(nt hc), trivial⟩
    exact .loopX st (show ((.exit 0) : VX.Exit) ≠ .normal from by simp)
  | x0 :: y0, p, hp0 => by
    have hc : (decide ((length p : Int) < ((length (map b_i a0)) : Int))) = true := by
      rw [← hp0]; simp only [length_map, length_set, length_append, length_replicate, length_cons, length_nil, decide_eq_true_eq]; omega
    have Hx0 : (a0)[Int.toNat (length p : Int)]? = some x0 := by
      rw [← hp0, Int.toNat_natCast]; simp
    have hlen : length (a0) = length p + length y0 + 1 := by rw [← hp0]; simp; omega
    have hw : IntKind.wrap .i64 ((length p : Int) + 1) = (length p : Int) + 1 := wrap64 (by omega)
    simp only [r151_0]
    by_cases h_1 : (a1 == x0) = true
    · try simp only [if_pos h_1]
      have st := codeH_ok (F := F) (X := X) (c := b151_0) (t := 0) (hs := [(2, .b true), (14, .row [(.i x0)]), (19, .b true)]) (σ := h151_0 l0_0 a0 a1 (length p : Int) ) (σ' := fin151_0 l0_0 a0 a1 (.k1 (length p : Int))) (e := .ret) (t' := 24) (hs' := []) (q := [(decide ((length p : Int) < ((length (map b_i a0)) : Int))) = true, 0 ≤ (length p : Int), (map b_i a0)[(Int.toNat (length p : Int))]? = some [(.i x0)], (a1 == x0) = true]) (by kernel_rfl) ⟨hc, (by omega), (by rw [getElem?_map, Hx0]; rfl), h_1, trivial⟩
      exact .loopX st (show (.ret : VX.Exit) ≠ .normal from by simp)
    · try simp only [if_neg h_1]
      have st := codeH_ok (F := F) (X := X) (c := b151_0) (t := 0) (hs := [(2, .b true), (14, .row [(.i x0)]), (19, .b false)]) (σ := h151_0 l0_0 a0 a1 (length p : Int) ) (σ' := ⟨[(0, (.one (.bor l0_0 (map b_i a0)))), (1, (.oi a1)), (7, (.oi ((length (map b_i a0)) : Int))), (8, (.oi (IntKind.wrap .i64 ((length p : Int) + 1))))], []⟩) (e := .normal) (t' := 24) (hs' := []) (q := [(decide ((length p : Int) < ((length (map b_i a0)) : Int))) = true, 0 ≤ (length p : Int), (map b_i a0)[(Int.toNat (length p : Int))]? = some [(.i x0)], (a1 == x0) = false, True]) (by kernel_rfl) ⟨hc, (by omega), (by rw [getElem?_map, Hx0]; rfl), (nt h_1), trivial, trivial⟩
      have ih := t151_0 (l0_0 := l0_0) (a0 := a0) (a1 := a1) hy0 y0 (p ++ [x0])  (by rw [append_assoc]; exact hp0)
      rw [show ((p ++ [x0]).length : Int) = (p.length : Int) + 1 from by simp] at ih
      rw [show (⟨[(0, (.one (.bor l0_0 (map b_i a0)))), (1, (.oi a1)), (7, (.oi ((length (map b_i a0)) : Int))), (8, (.oi (IntKind.wrap .i64 ((length p : Int) + 1))))], []⟩ : St) = h151_0 l0_0 a0 a1 ((length p : Int) + 1)  from (by unfold h151_0; simp only [hw]; done)] at st
      exact .loopN st ih
/-! slices.Index[[]int64,int64] -/
def m151 (a0 : (List Int)) (a1 : Int) : Int :=
  (match r151_0 a0 a1 a0 0 with | .k0 w0_0 w1_0 => (-1) | .k1 w0_0 => w0_0)
theorem e151 {l0_0 : Nat} {a0 : (List Int)} {a1 : Int} (hy0 : length a0 * 8 ≤ 140737488351232) : Ev F X (.call 151 [(.one (.bor l0_0 (map b_i a0))), (.one (.val (.int .i64 a1)))] [] [] [(.one (.val (.int .i64 (m151 a0 a1))))]) := by
  unfold m151
  cases h0 : r151_0 a0 a1 a0 0 with
  | k0 w0_0 w1_0 =>
    try dsimp only
    have f0 : (⟨[(0, (.one (.bor l0_0 (map b_i a0)))), (1, (.oi a1)), (7, (.oi ((length (map b_i a0)) : Int))), (8, (.oi 0))], []⟩ : St) = h151_0 l0_0 a0 a1 0  := (by rfl)
    have f1 : Ev F X (.code l151_0 (h151_0 l0_0 a0 a1 0 ) (.exit 0) ⟨[(0, (.one (.bor l0_0 (map b_i a0)))), (1, (.oi a1)), (7, (.oi ((length (map b_i a0)) : Int))), (8, (.oi w0_0)), (9, (.one (.val (.bool w1_0))))], []⟩) := (by have t : Ev F X (.code l151_0 (h151_0 l0_0 a0 a1 0 ) (ex151_0 (r151_0 a0 a1 a0 0)) (fin151_0 l0_0 a0 a1 (r151_0 a0 a1 a0 0))) := t151_0 (l0_0 := l0_0) (a0 := a0) (a1 := a1) (by assumption) a0 []  rfl; rw [h0] at t; exact t)
    exact callP_ok (ps := []) (os := []) (rs := [(.oi (-1))]) (by kernel_rfl) (.f f0 (.f f1 (.h 8 (.loop (h151_0 l0_0 a0 a1 0 ) (.exit 0) ⟨[(0, (.one (.bor l0_0 (map b_i a0)))), (1, (.oi a1)), (7, (.oi ((length (map b_i a0)) : Int))), (8, (.oi w0_0)), (9, (.one (.val (.bool w1_0))))], []⟩) .nil)))
  | k1 w0_0 =>
    try dsimp only
    have f0 : (⟨[(0, (.one (.bor l0_0 (map b_i a0)))), (1, (.oi a1)), (7, (.oi ((length (map b_i a0)) : Int))), (8, (.oi 0))], []⟩ : St) = h151_0 l0_0 a0 a1 0  := (by rfl)
    have f1 : Ev F X (.code l151_0 (h151_0 l0_0 a0 a1 0 ) .ret ⟨[(4, (.oi w0_0))], []⟩) := (by have t : Ev F X (.code l151_0 (h151_0 l0_0 a0 a1 0 ) (ex151_0 (r151_0 a0 a1 a0 0)) (fin151_0 l0_0 a0 a1 (r151_0 a0 a1 a0 0))) := t151_0 (l0_0 := l0_0) (a0 := a0) (a1 := a1) (by assumption) a0 []  rfl; rw [h0] at t; exact t)
    exact callP_ok (ps := []) (os := []) (rs := [(.oi w0_0)]) (by kernel_rfl) (.f f0 (.f f1 (.h 8 (.loop (h151_0 l0_0 a0 a1 0 ) .ret ⟨[(4, (.oi w0_0))], []⟩) .nil)))
theorem ixr151_0 (a0 : (List Int)) (a1 : Int) : ∀ (l : List Int) (i : Int), (∃ (w0 : _) (w1 : _), r151_0 a0 a1 l i = .k0 w0 w1) ∨ (∃ w, r151_0 a0 a1 l i = .k1 w ∧ i ≤ w ∧ w < i + l.length)
  | [], i => .inl ⟨i, (decide (i < ((length (map b_i a0)) : Int))), rfl⟩
  | x :: l, i => by
    have ih := ixr151_0 a0 a1 l (i + 1)
    simp only [r151_0]
    (repeat' split)
    all_goals first
      | exact .inr ⟨i, rfl, by omega, by simp only [length_cons]; omega⟩
      | (rcases ih with ⟨w0, w1, h⟩ | ⟨w, h, h1, h2⟩
         · exact .inl ⟨w0, w1, h⟩
         · exact .inr ⟨w, h, by omega, by simp only [length_cons]; omega⟩)
theorem ix151 (a0 : (List Int)) (a1 : Int) : -1 ≤ m151 a0 a1 ∧ m151 a0 a1 < (length a0 : Int) := by
  unfold m151
  rcases ixr151_0 a0 a1 a0 0 with ⟨w0, w1, h⟩ | ⟨w, h, h1, h2⟩ <;> simp only [h] <;> omega
/-! loop 152_0 -/
inductive O152_0 where
  | k0 (w0 : Int) (w1 : Int) (w2 : Bool)
def r152_0 (a0 : (List Int)) : Nat → Int → Int → O152_0
  | n + 1, v0, v1 =>
    if (decide (v1 < ((length (map b_i a0)) : Int))) = true then (r152_0 a0 n (vmax v0 (getD a0 (Int.toNat v1) 0)) (IntKind.wrap .i64 (v1 + 1))) else
    (O152_0.k0 v0 v1 (decide (v1 < ((length (map b_i a0)) : Int))))
  | 0, v0, v1 => (O152_0.k0 v0 v1 (decide (v1 < ((length (map b_i a0)) : Int))))
def h152_0 (l0_0 : Nat) (a0 : (List Int)) (v0 : Int) (v1 : Int) : St := ⟨[(0, (.one (.bor l0_0 (map b_i a0)))), (3, (.one (.val (.int .i64 v0)))), (4, (.one (.val (.int .i64 v1))))], []⟩
def ex152_0 : O152_0 → VX.Exit
  | .k0 _ _ _ => (.exit 0)
def fin152_0 (l0_0 : Nat) (a0 : (List Int)) : O152_0 → St
  | .k0 w0 w1 w2 => ⟨[(0, (.one (.bor l0_0 (map b_i a0)))), (3, (.one (.val (.int .i64 w0)))), (4, (.one (.val (.int .i64 w1)))), (15, (.one (.val (.bool w2))))], []⟩
theorem t152_0 {l0_0 : Nat} {a0 : (List Int)} (hy0 : 1 ≤ length a0) (hy1 : length a0 ≤ 1000) : ∀ (n : Nat) (v0 : Int) (v1 : Int), 0 ≤ v1 → ((length (map b_i a0)) : Int) ≤ 9223372036854775807 → Int.toNat (((length (map b_i a0)) : Int) - v1) ≤ n → Ev F X (.code l152_0 (h152_0 l0_0 a0 v0 v1) (ex152_0 (r152_0 a0 n v0 v1)) (fin152_0 l0_0 a0 (r152_0 a0 n v0 v1)))
  | 0, v0, v1, hi0, hi1, hn => by
    have hc : ¬ (decide (v1 < ((length (map b_i a0)) : Int))) = true := by first | (exact fuel64_zero hn) | (simp only [decide_eq_true_eq] at *; omega) | (simp at *; omega)
    have st := codeP_ok (F := F) (X := X) (c := b152_0) (t := 0) (σ := h152_0 l0_0 a0 v0 v1) (σ' := ⟨[(0, (.one (.bor l0_0 (map b_i a0)))), (3, (.oi v0)), (4, (.oi v1)), (15, (.one (.val (.bool (decide (v1 < ((length (map b_i a0)) : Int)))))))], []⟩) (e := (.exit 0)) (t' := 9) (by kernel_rfl) (.f (nt hc) (.h 8 (.b false) .nil))
    rw [show (⟨[(0, (.one (.bor l0_0 (map b_i a0)))), (3, (.oi v0)), (4, (.oi v1)), (15, (.one (.val (.bool (decide (v1 < ((length (map b_i a0)) : Int)))))))], []⟩ : St) = fin152_0 l0_0 a0 (.k0 v0 v1 (decide (v1 < ((length (map b_i a0)) : Int)))) from (by rfl)] at st
    exact .loopX st (show ((.exit 0) : VX.Exit) ≠ .normal from by simp)
  | n + 1, v0, v1, hi0, hi1, hn => by
    simp only [r152_0]
    by_cases h_0 : (decide (v1 < ((length (map b_i a0)) : Int))) = true
    · try simp only [if_pos h_0]
      have f1 : 0 ≤ v1 := (by with_reducible assumption)
      have f2 : (map b_i a0)[(Int.toNat v1)]? = some [(.val (.int .i64 (getD a0 (Int.toNat v1) 0)))] := (by rw [getElem?_map, getD_at a0 (Int.toNat v1) 0 (by first | exact True.intro | with_reducible rfl | with_reducible assumption | omega | (simp only [decide_eq_true_eq, length_map] at *; omega) | (simp only [decide_eq_true_eq] at *; omega) | (simp only [length_map]; omega) | (simp; omega) | (simp [take_of_length_le]; done) | assumption | trivial | (simp [*, byteRows_eq, ints_y]; done))]; rfl)
      have st := codeP_ok (F := F) (X := X) (c := b152_0) (t := 0) (σ := h152_0 l0_0 a0 v0 v1) (σ' := ⟨[(0, (.one (.bor l0_0 (map b_i a0)))), (3, (.oi (vmax v0 (getD a0 (Int.toNat v1) 0)))), (4, (.oi (IntKind.wrap .i64 (v1 + 1))))], []⟩) (e := .normal) (t' := 29) (by kernel_rfl) (.f h_0 (.f f1 (.f f2 (.f trivial (.h 8 (.b true) (.h 16 (.row [(.i (getD a0 (Int.toNat v1) 0))]) .nil))))))
      have ih := t152_0 (l0_0 := l0_0) (a0 := a0) hy0 hy1 n (vmax v0 (getD a0 (Int.toNat v1) 0)) (IntKind.wrap .i64 (v1 + 1)) (by rw [wrap64 (by simp only [decide_eq_true_eq] at *; omega)]; omega) (by assumption) (by rw [wrap64 (by simp only [decide_eq_true_eq] at *; omega)]; simp only [decide_eq_true_eq] at *; omega)
      rw [show (⟨[(0, (.one (.bor l0_0 (map b_i a0)))), (3, (.oi (vmax v0 (getD a0 (Int.toNat v1) 0)))), (4, (.oi (IntKind.wrap .i64 (v1 + 1))))], []⟩ : St) = h152_0 l0_0 a0 (vmax v0 (getD a0 (Int.toNat v1) 0)) (IntKind.wrap .i64 (v1 + 1)) from (by rfl)] at st
      exact .loopN st ih
    · try simp only [if_neg h_0]
      have st := codeP_ok (F := F) (X := X) (c := b152_0) (t := 0) (σ := h152_0 l0_0 a0 v0 v1) (σ' := ⟨[(0, (.one (.bor l0_0 (map b_i a0)))), (3, (.oi v0)), (4, (.oi v1)), (15, (.one (.val (.bool (decide (v1 < ((length (map b_i a0)) : Int)))))))], []⟩) (e := (.exit 0)) (t' := 9) (by kernel_rfl) (.f (nt h_0) (.h 8 (.b false) .nil))
      rw [show (⟨[(0, (.one (.bor l0_0 (map b_i a0)))), (3, (.oi v0)), (4, (.oi v1)), (15, (.one (.val (.bool (decide (v1 < ((length (map b_i a0)) : Int)))))))], []⟩ : St) = fin152_0 l0_0 a0 (.k0 v0 v1 (decide (v1 < ((length (map b_i a0)) : Int)))) from (by rfl)] at st
      exact .loopX st (show ((.exit 0) : VX.Exit) ≠ .normal from by simp)
/-! slices.Max[[]int64,int64] -/
def m152 (a0 : (List Int)) : Int :=
  if (decide (((length (map b_i a0)) : Int) < 1)) = true then 0 else
  (match r152_0 a0 (Int.toNat (((length (map b_i a0)) : Int) - 1)) (getD a0 0 0) 1 with | .k0 w0_2 w1_2 w2_2 => w0_2)
theorem e152 {l0_0 : Nat} {a0 : (List Int)} (hy0 : 1 ≤ length a0) (hy1 : length a0 ≤ 1000) : Ev F X (.call 152 [(.one (.bor l0_0 (map b_i a0)))] [] [] [(.one (.val (.int .i64 (m152 a0))))]) := by
  unfold m152
  by_cases h0 : (decide (((length (map b_i a0)) : Int) < 1)) = true
  · try simp only [if_pos h0]
    exfalso
    first | (simp_all; done) | omega | (simp only [decide_eq_true_eq, length_map] at *; omega)
  · try simp only [if_neg h0]
    have f1 : 0 ≤ (0 : Int) := (by omega)
    have f2 : (map b_i a0)[0]? = some [(.val (.int .i64 (getD a0 0 0)))] := (by rw [getElem?_map, getD_at a0 0 0 (by first | exact True.intro | with_reducible rfl | with_reducible assumption | omega | (simp only [decide_eq_true_eq, length_map] at *; omega) | (simp only [decide_eq_true_eq] at *; omega) | (simp only [length_map]; omega) | (simp; omega) | (simp [take_of_length_le]; done) | assumption | trivial | (simp [*, byteRows_eq, ints_y]; done))]; rfl)
    cases h1 : r152_0 a0 (Int.toNat (((length (map b_i a0)) : Int) - 1)) (getD a0 0 0) 1 with
    | k0 w0_2 w1_2 w2_2 =>
      try dsimp only
      have f3 : (⟨[(0, (.one (.bor l0_0 (map b_i a0)))), (3, (.oi (getD a0 0 0))), (4, (.oi 1))], []⟩ : St) = h152_0 l0_0 a0 (getD a0 0 0) 1 := (by rfl)
      have f4 : Ev F X (.code l152_0 (h152_0 l0_0 a0 (getD a0 0 0) 1) (.exit 0) ⟨[(0, (.one (.bor l0_0 (map b_i a0)))), (3, (.oi w0_2)), (4, (.oi w1_2)), (15, (.one (.val (.bool w2_2))))], []⟩) := (by have t : Ev F X (.code l152_0 (h152_0 l0_0 a0 (getD a0 0 0) 1) (ex152_0 (r152_0 a0 (Int.toNat (((length (map b_i a0)) : Int) - 1)) (getD a0 0 0) 1)) (fin152_0 l0_0 a0 (r152_0 a0 (Int.toNat (((length (map b_i a0)) : Int) - 1)) (getD a0 0 0) 1))) := t152_0 (l0_0 := l0_0) (a0 := a0) (by assumption) (by assumption) (Int.toNat (((length (map b_i a0)) : Int) - 1)) (getD a0 0 0) 1  (by omega) (by simp only [length_map, length_set, length_append, length_replicate, length_cons, length_nil]; omega) (Nat.le_refl _); rw [h1] at t; exact t)
      exact callP_ok (ps := []) (os := []) (rs := [(.oi w0_2)]) (by kernel_rfl) (.f (nt h0) (.f f1 (.f f2 (.f f3 (.f f4 (.h 8 (.b false) (.h 12 (.row [(.i (getD a0 0 0))]) (.h 19 (.loop (h152_0 l0_0 a0 (getD a0 0 0) 1) (.exit 0) ⟨[(0, (.one (.bor l0_0 (map b_i a0)))), (3, (.oi w0_2)), (4, (.oi w1_2)), (15, (.one (.val (.bool w2_2))))], []⟩) .nil))))))))
theorem getD_in (a : List Int) (i : Nat) (h : i < a.length) : getD a i 0 ∈ a := by
  rw [List.getD_eq_getElem?_getD, List.getElem?_eq_getElem h]; exact List.getElem_mem _
theorem mx_r (a : List Int) (hl : a.length ≤ 1000) : ∀ (n : Nat) (v i : Int), v ∈ a → 0 ≤ i → i + n ≤ a.length → ∃ w j b, r152_0 a n v i = .k0 w j b ∧ w ∈ a
  | 0, v, i, hv, _, _ => ⟨v, i, _, rfl, hv⟩
  | n + 1, v, i, hv, h0, h => by
    simp only [r152_0]
    rw [if_pos (by simp only [decide_eq_true_eq, length_map]; omega), wrap64 (by omega)]
    refine mx_r a hl n _ (i + 1) ?_ (by omega) (by omega)
    unfold vmax
    split
    · exact getD_in a _ (by omega)
    · exact hv
theorem mx_in (a : List Int) (h1 : 1 ≤ a.length) (hl : a.length ≤ 1000) : m152 a ∈ a := by
  obtain ⟨w, j, b, e, hw⟩ := mx_r a hl (Int.toNat ((a.length : Int) - 1)) (getD a 0 0) 1 (getD_in a 0 (by omega)) (by omega) (by omega)
  unfold m152
  rw [if_neg (by simp only [decide_eq_true_eq, length_map]; omega), length_map, e]
  exact hw
theorem ix_r (a : List Int) (x : Int) : ∀ (l : List Int) (i : Int), x ∈ l → ∃ w, r151_0 a x l i = .k1 w ∧ i ≤ w
  | [], i, h => by cases h
  | y :: l, i, h => by
    simp only [r151_0]
    by_cases e : (x == y) = true
    · rw [if_pos e]; exact ⟨i, rfl, by omega⟩
    · rw [if_neg e]
      rcases List.mem_cons.1 h with rfl | h
      · simp at e
      · obtain ⟨w, e1, e2⟩ := ix_r a x l (i + 1) h
        exact ⟨w, e1, by omega⟩
theorem im (a : List Int) (h1 : 1 ≤ a.length) (hl : a.length ≤ 1000) : 0 ≤ m151 a (m152 a) ∧ m151 a (m152 a) < (a.length : Int) := by
  refine ⟨?_, (ix151 a (m152 a)).2⟩
  obtain ⟨w, e1, e2⟩ := ix_r a (m152 a) a 0 (mx_in a h1 hl)
  unfold m151
  rw [e1]; exact e2
end Go.Proofs.YtfmkbpiobddhdaaDoor.Splits
