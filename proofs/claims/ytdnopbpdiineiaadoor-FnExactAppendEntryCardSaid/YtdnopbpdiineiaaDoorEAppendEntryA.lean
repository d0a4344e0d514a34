/- What the functions compute. -/
import Derived.Test.YtdnopbpdiineiaaDoorTAppendEntry
import Derived.Test.YtdnopbpdiineiaaDoorVNum
import Derived.Test.YtdnopbpdiineiaaDoorVClone
import Derived.Test.YtdnopbpdiineiaaDoorVExt
import Derived.Test.YtdnopbpdiineiaaDoorXAppendEntry
import Derived.KernelRfl
namespace Go.Proofs.YtdnopbpdiineiaaDoor.AppendEntry
open Go Go.Proofs.YtdnopbpdiineiaaDoor.V
set_option linter.unusedVariables false
set_option linter.unusedSimpArgs false
set_option maxRecDepth 20000
abbrev _root_.Go.Proofs.YtdnopbpdiineiaaDoor.V.B.i (x : Int) : B := .val (.int .i64 x)
abbrev _root_.Go.Proofs.YtdnopbpdiineiaaDoor.V.D.i (x : Int) : D := .val (.int .i64 x)
abbrev _root_.Go.Proofs.YtdnopbpdiineiaaDoor.V.CV.i (x : Int) : CV := .val (.int .i64 x)
abbrev _root_.Go.Proofs.YtdnopbpdiineiaaDoor.V.SV.oi (x : Int) : SV := .one (.val (.int .i64 x))
abbrev _root_.Go.Proofs.YtdnopbpdiineiaaDoor.V.Ret.oi (x : Int) : Ret := .one (.val (.int .i64 x))
open List (length_replicate length_map length_set length_append length_cons length_nil length_take length_drop take_of_length_le map_take map_drop map_set append_assoc getElem?_map map length take drop getD set)
def X : Ext := fun f args rs => (f = 156 ∧ TrimX args rs)
def w64 (n : Int) : Int := IntKind.wrap .i64 n
theorem wrap64 {x : Int} (h : -9223372036854775808 ≤ x ∧ x ≤ 9223372036854775807) : w64 x = x := V.wrap64 h
theorem wrap64d {x : Int} (h1 : -9223372036854775808 ≤ x) (h2 : x ≤ 9223372036854775807) : w64 x = x := V.wrap64 ⟨h1, h2⟩
theorem wrap64_range (x : Int) : -9223372036854775808 ≤ w64 x ∧ w64 x ≤ 9223372036854775807 := V.wrap64_range x
theorem wrap64_sub (x : Int) (n : Nat) (h0 : 0 ≤ x) (h1 : x ≤ 1048576) (h2 : n ≤ 140737488351232) : w64 (x - n) < 0 ∨ (w64 (x - n) = x - n ∧ (n : Int) ≤ x) := V.wrap64_sub x n h0 h1 h2
theorem fuel64_tdiv {x : Int} {n : Nat} (h : decide (x > 0) = true) (hn : fuel64 x ≤ n + 1) : fuel64 (w64 (Int.tdiv x 10)) ≤ n := V.fuel64_tdiv h hn
theorem pot64_tdiv {x : Int} (h : decide (x > 0) = true) : pot64 (w64 (Int.tdiv x 10)) + 1 ≤ pot64 x := V.pot64_tdiv h
theorem _root_.Go.Proofs.YtdnopbpdiineiaaDoor.V.PS.z {F X hs q} (t : Nat) (r : PS F X hs q) : PS F X ((t, .b false) :: hs) q := .h t _ r
theorem _root_.Go.Proofs.YtdnopbpdiineiaaDoor.V.PS.y {F X hs q} (t : Nat) (r : PS F X hs q) : PS F X ((t, .b true) :: hs) q := .h t _ r
theorem _root_.Go.Proofs.YtdnopbpdiineiaaDoor.V.PS.g {F X} {b : Bool} {hs q} (h : ¬ b = true) (r : PS F X hs q) : PS F X hs ((b = false) :: q) := .f (nt h) r
theorem _root_.Go.Proofs.YtdnopbpdiineiaaDoor.V.PS.n {F X} {b : Bool} {hs q} : ∀ (k : Nat) (h : ¬ b = true) (r : PS F X hs q), PS F X hs (List.replicate k (b = false) ++ q)
 | 0, _, r => r
 | k + 1, h, r => .f (nt h) (.n k h r)
theorem _root_.Go.Proofs.YtdnopbpdiineiaaDoor.V.PS.m {F X} {p : Prop} {hs q} : ∀ (k : Nat) (h : p) (r : PS F X hs q), PS F X hs (List.replicate k p ++ q)
 | 0, _, r => r
 | k + 1, h, r => .f h (.m k h r)
theorem _root_.Go.Proofs.YtdnopbpdiineiaaDoor.V.PS.e {F X} {α : Type} {hs q} (x : α) (r : PS F X hs q) : PS F X hs ((x = x) :: q) := .f rfl r
theorem cp {f : FuncId} {hs args rs q} (h : callH F X f hs [] args [] = some ([], rs, q)) (p : PS F X hs q) : Ev F X (.call f args [] [] rs) := callP_ok h p
theorem ch (c : VC) (hs : Hints) (σ σ' : St) (e : VX.Exit) (t : Nat) (q : List Prop) (h : codeH F X c 0 hs σ = some (e, σ', t, [], q)) (p : All q) : Ev F X (.code c σ e σ') := codeH_ok h p
theorem to_ {c : VC} {σ s s' : St} {e : VX.Exit} (h : Ev F X (.code c σ e s)) (k : s = s') : Ev F X (.code c σ e s') := k ▸ h
theorem lt1 {α β : Type} {f : α → β} {p y a : List α} {x : α} (h : p ++ x :: y = a) : (decide ((List.length p : Int) < ((List.length (List.map f a)) : Int))) = true := by
 rw [← h]; simp only [List.length_map, List.length_append, List.length_cons, decide_eq_true_eq]; omega
def b_y (x : Int) : List B := [(.val (.int .u8 x))]
def d_y (x : Int) : List D := [(.val (.int .u8 x))]
theorem toBR_y : ∀ (l : List Int), toBR (l.map d_y) = l.map b_y
 | [] => rfl
 | x :: l => by simp [toBR, toBL, toB, d_y, b_y, toBR_y l]
theorem fullR_y : ∀ (l : List Int), fullR (l.map d_y) = true
 | [] => rfl
 | x :: l => by simp [fullR, fullL, full, d_y, fullR_y l]
theorem pureR_y : ∀ (l : List Int), pureR (l.map d_y) = true
 | [] => rfl
 | x :: l => by simp [pureR, pureL, V.pure, d_y, pureR_y l]
theorem ft_y (a b : Nat) (l : List Int) : fullR (take a (drop b (l.map d_y))) = true := by rw [← map_drop, ← map_take]; exact fullR_y _
theorem tbt_y (a b : Nat) (l : List Int) : toBR (take a (drop b (l.map d_y))) = (take a (drop b l)).map b_y := by rw [← map_drop, ← map_take]; exact toBR_y _
theorem tb_y (l : List Int) : toBR (take (l.map d_y).length (drop 0 (l.map d_y))) = l.map b_y := by rw [List.drop_zero, List.take_length]; exact toBR_y l
theorem lenB_y (l : List Int) : ∀ r ∈ l.map b_y, r.length = 1 := by intro r h; obtain ⟨x, _, rfl⟩ := List.mem_map.1 h; rfl
theorem lenD_y (l : List Int) : ∀ r ∈ l.map d_y, r.length = 1 := by intro r h; obtain ⟨x, _, rfl⟩ := List.mem_map.1 h; rfl
theorem fromBR_y (n : Nat) (l : List Int) : fromBR n (l.map b_y) = l.map d_y := by simp [fromBR, b_y, d_y, fromB, Function.comp_def]
theorem copy_y (l : List Int) : (l.map d_y).all (fun x => x.all copyable) = true := by simp [d_y, copyable, Function.comp_def]
theorem ct_y (a b : Nat) (l : List Int) : ((take a (drop b (l.map d_y))).all fun x => x.all copyable) = true := by rw [← map_drop, ← map_take]; exact copy_y _
def strInts (s : ByteArray) : List Int := s.data.toList.map fun b => (b.toNat : Int)
theorem ly_y (a : Int) (l : List Int) : [D.val (.int .u8 a)] :: map d_y l = map d_y (a :: l) := rfl
theorem ly0_y (a : Int) : [[D.val (.int .u8 a)]] = map d_y [a] := rfl
theorem strInts_len (s : ByteArray) : (strInts s).length = s.size := by simp [strInts]
theorem byteRows_len (s : ByteArray) : (byteRows s).length = s.size := by simp [byteRows]
theorem byteRows_eq (s : ByteArray) : byteRows s = (strInts s).map d_y := by simp [byteRows, strInts, d_y, Function.comp_def]
theorem tsi (s : ByteArray) : take (ByteArray.size s) (map d_y (strInts s)) = map d_y (strInts s) := by rw [take_of_length_le (by simp [strInts_len])]
theorem tbr (s : ByteArray) : take (ByteArray.size s) (byteRows s) = map d_y (strInts s) := by rw [byteRows_eq, tsi]
theorem ints_y : ∀ (l : List Int), rowsInts .u8 (l.map d_y) = some l
 | [] => rfl
 | x :: l => by simp only [List.map_cons, d_y, rowsInts, ints_y l]; rfl
structure K_LyEi where
 f0 : (List Int)
 f1 : Int
def b_LyEi (x : K_LyEi) : List B := [(.sl (map b_y x.f0)), (.val (.int .i64 x.f1))]
def d_LyEi (x : K_LyEi) : List D := [(.own 1 (map d_y x.f0)), (.val (.int .i64 x.f1))]
theorem toBR_LyEi : ∀ (l : List K_LyEi), toBR (l.map d_LyEi) = l.map b_LyEi
 | [] => rfl
 | x :: l => by simp [toBR, toBL, toB, d_LyEi, b_LyEi, toBR_LyEi l, toBR_y]
theorem fullR_LyEi : ∀ (l : List K_LyEi), fullR (l.map d_LyEi) = true
 | [] => rfl
 | x :: l => by simp [fullR, fullL, full, d_LyEi, fullR_LyEi l, fullR_y]
theorem pureR_LyEi : ∀ (l : List K_LyEi), pureR (l.map d_LyEi) = true
 | [] => rfl
 | x :: l => by simp [pureR, pureL, V.pure, d_LyEi, pureR_LyEi l, pureR_y]
theorem ft_LyEi (a b : Nat) (l : List K_LyEi) : fullR (take a (drop b (l.map d_LyEi))) = true := by rw [← map_drop, ← map_take]; exact fullR_LyEi _
theorem tbt_LyEi (a b : Nat) (l : List K_LyEi) : toBR (take a (drop b (l.map d_LyEi))) = (take a (drop b l)).map b_LyEi := by rw [← map_drop, ← map_take]; exact toBR_LyEi _
theorem tb_LyEi (l : List K_LyEi) : toBR (take (l.map d_LyEi).length (drop 0 (l.map d_LyEi))) = l.map b_LyEi := by rw [List.drop_zero, List.take_length]; exact toBR_LyEi l
theorem lenB_LyEi (l : List K_LyEi) : ∀ r ∈ l.map b_LyEi, r.length = 2 := by intro r h; obtain ⟨x, _, rfl⟩ := List.mem_map.1 h; rfl
theorem lenD_LyEi (l : List K_LyEi) : ∀ r ∈ l.map d_LyEi, r.length = 2 := by intro r h; obtain ⟨x, _, rfl⟩ := List.mem_map.1 h; rfl
def ok_LyEi (x : K_LyEi) : Prop := (length x.f0 * 1 ≤ 140737488351232)
def os_LyEi (x : K_LyEi) : Prop := (length x.f0 * 1 ≤ 140737488351232)
theorem os_ok_LyEi (x : K_LyEi) (h : os_LyEi x) : ok_LyEi x := h
theorem gos_LyEi {l : List K_LyEi} (h : ∀ z ∈ l, os_LyEi z) (n : Nat) (d : K_LyEi) (hd : os_LyEi d) : os_LyEi (l.getD n d) := by
 rw [List.getD_eq_getElem?_getD]; cases h2 : l[n]? with
 | none => simpa using hd
 | some x => exact h x (List.mem_of_getElem? h2)
theorem gok_LyEi {l : List K_LyEi} (h : ∀ z ∈ l, ok_LyEi z) (n : Nat) (d : K_LyEi) (hd : ok_LyEi d) : ok_LyEi (l.getD n d) := by
 rw [List.getD_eq_getElem?_getD]; cases h2 : l[n]? with
 | none => simpa using hd
 | some x => exact h x (List.mem_of_getElem? h2)
structure K_isii where
 f0 : Int
 f1 : ByteArray
 f2 : Int
 f3 : Int
def b_isii (x : K_isii) : List B := [(.val (.int .i64 x.f0)), (.val (.string x.f1)), (.val (.int .i64 x.f2)), (.val (.int .i64 x.f3))]
def d_isii (x : K_isii) : List D := [(.val (.int .i64 x.f0)), (.val (.string x.f1)), (.val (.int .i64 x.f2)), (.val (.int .i64 x.f3))]
theorem toBR_isii : ∀ (l : List K_isii), toBR (l.map d_isii) = l.map b_isii
 | [] => rfl
 | x :: l => by simp [toBR, toBL, toB, d_isii, b_isii, toBR_isii l]
theorem fullR_isii : ∀ (l : List K_isii), fullR (l.map d_isii) = true
 | [] => rfl
 | x :: l => by simp [fullR, fullL, full, d_isii, fullR_isii l]
theorem pureR_isii : ∀ (l : List K_isii), pureR (l.map d_isii) = true
 | [] => rfl
 | x :: l => by simp [pureR, pureL, V.pure, d_isii, pureR_isii l]
theorem ft_isii (a b : Nat) (l : List K_isii) : fullR (take a (drop b (l.map d_isii))) = true := by rw [← map_drop, ← map_take]; exact fullR_isii _
theorem tbt_isii (a b : Nat) (l : List K_isii) : toBR (take a (drop b (l.map d_isii))) = (take a (drop b l)).map b_isii := by rw [← map_drop, ← map_take]; exact toBR_isii _
theorem tb_isii (l : List K_isii) : toBR (take (l.map d_isii).length (drop 0 (l.map d_isii))) = l.map b_isii := by rw [List.drop_zero, List.take_length]; exact toBR_isii l
theorem lenB_isii (l : List K_isii) : ∀ r ∈ l.map b_isii, r.length = 4 := by intro r h; obtain ⟨x, _, rfl⟩ := List.mem_map.1 h; rfl
theorem lenD_isii (l : List K_isii) : ∀ r ∈ l.map d_isii, r.length = 4 := by intro r h; obtain ⟨x, _, rfl⟩ := List.mem_map.1 h; rfl
def os_isii (x : K_isii) : Prop := (ByteArray.size x.f1 ≤ 140737488351232)
theorem gos_isii {l : List K_isii} (h : ∀ z ∈ l, os_isii z) (n : Nat) (d : K_isii) (hd : os_isii d) : os_isii (l.getD n d) := by
 rw [List.getD_eq_getElem?_getD]; cases h2 : l[n]? with
 | none => simpa using hd
 | some x => exact h x (List.mem_of_getElem? h2)
theorem fromBR_isii (n : Nat) (l : List K_isii) : fromBR n (l.map b_isii) = l.map d_isii := by simp [fromBR, b_isii, d_isii, fromB, Function.comp_def]
theorem copy_isii (l : List K_isii) : (l.map d_isii).all (fun x => x.all copyable) = true := by simp [d_isii, copyable, Function.comp_def]
theorem ct_isii (a b : Nat) (l : List K_isii) : ((take a (drop b (l.map d_isii))).all fun x => x.all copyable) = true := by rw [← map_drop, ← map_take]; exact copy_isii _
def b_b (x : Bool) : List B := [(.val (.bool x))]
def d_b (x : Bool) : List D := [(.val (.bool x))]
theorem toBR_b : ∀ (l : List Bool), toBR (l.map d_b) = l.map b_b
 | [] => rfl
 | x :: l => by simp [toBR, toBL, toB, d_b, b_b, toBR_b l]
theorem fullR_b : ∀ (l : List Bool), fullR (l.map d_b) = true
 | [] => rfl
 | x :: l => by simp [fullR, fullL, full, d_b, fullR_b l]
theorem pureR_b : ∀ (l : List Bool), pureR (l.map d_b) = true
 | [] => rfl
 | x :: l => by simp [pureR, pureL, V.pure, d_b, pureR_b l]
theorem ft_b (a b : Nat) (l : List Bool) : fullR (take a (drop b (l.map d_b))) = true := by rw [← map_drop, ← map_take]; exact fullR_b _
theorem tbt_b (a b : Nat) (l : List Bool) : toBR (take a (drop b (l.map d_b))) = (take a (drop b l)).map b_b := by rw [← map_drop, ← map_take]; exact toBR_b _
theorem tb_b (l : List Bool) : toBR (take (l.map d_b).length (drop 0 (l.map d_b))) = l.map b_b := by rw [List.drop_zero, List.take_length]; exact toBR_b l
theorem lenB_b (l : List Bool) : ∀ r ∈ l.map b_b, r.length = 1 := by intro r h; obtain ⟨x, _, rfl⟩ := List.mem_map.1 h; rfl
theorem lenD_b (l : List Bool) : ∀ r ∈ l.map d_b, r.length = 1 := by intro r h; obtain ⟨x, _, rfl⟩ := List.mem_map.1 h; rfl
theorem fromBR_b (n : Nat) (l : List Bool) : fromBR n (l.map b_b) = l.map d_b := by simp [fromBR, b_b, d_b, fromB, Function.comp_def]
theorem copy_b (l : List Bool) : (l.map d_b).all (fun x => x.all copyable) = true := by simp [d_b, copyable, Function.comp_def]
theorem ct_b (a b : Nat) (l : List Bool) : ((take a (drop b (l.map d_b))).all fun x => x.all copyable) = true := by rw [← map_drop, ← map_take]; exact copy_b _
def b_i (x : Int) : List B := [(.val (.int .i64 x))]
def d_i (x : Int) : List D := [(.val (.int .i64 x))]
theorem toBR_i : ∀ (l : List Int), toBR (l.map d_i) = l.map b_i
 | [] => rfl
 | x :: l => by simp [toBR, toBL, toB, d_i, b_i, toBR_i l]
theorem fullR_i : ∀ (l : List Int), fullR (l.map d_i) = true
 | [] => rfl
 | x :: l => by simp [fullR, fullL, full, d_i, fullR_i l]
theorem pureR_i : ∀ (l : List Int), pureR (l.map d_i) = true
 | [] => rfl
 | x :: l => by simp [pureR, pureL, V.pure, d_i, pureR_i l]
theorem ft_i (a b : Nat) (l : List Int) : fullR (take a (drop b (l.map d_i))) = true := by rw [← map_drop, ← map_take]; exact fullR_i _
theorem tbt_i (a b : Nat) (l : List Int) : toBR (take a (drop b (l.map d_i))) = (take a (drop b l)).map b_i := by rw [← map_drop, ← map_take]; exact toBR_i _
theorem tb_i (l : List Int) : toBR (take (l.map d_i).length (drop 0 (l.map d_i))) = l.map b_i := by rw [List.drop_zero, List.take_length]; exact toBR_i l
theorem lenB_i (l : List Int) : ∀ r ∈ l.map b_i, r.length = 1 := by intro r h; obtain ⟨x, _, rfl⟩ := List.mem_map.1 h; rfl
theorem lenD_i (l : List Int) : ∀ r ∈ l.map d_i, r.length = 1 := by intro r h; obtain ⟨x, _, rfl⟩ := List.mem_map.1 h; rfl
theorem fromBR_i (n : Nat) (l : List Int) : fromBR n (l.map b_i) = l.map d_i := by simp [fromBR, b_i, d_i, fromB, Function.comp_def]
theorem copy_i (l : List Int) : (l.map d_i).all (fun x => x.all copyable) = true := by simp [d_i, copyable, Function.comp_def]
theorem ct_i (a b : Nat) (l : List Int) : ((take a (drop b (l.map d_i))).all fun x => x.all copyable) = true := by rw [← map_drop, ← map_take]; exact copy_i _
structure K_iLyE where
 f0 : Int
 f1 : (List Int)
def b_iLyE (x : K_iLyE) : List B := [(.val (.int .i64 x.f0)), (.sl (map b_y x.f1))]
def d_iLyE (x : K_iLyE) : List D := [(.val (.int .i64 x.f0)), (.own 1 (map d_y x.f1))]
theorem toBR_iLyE : ∀ (l : List K_iLyE), toBR (l.map d_iLyE) = l.map b_iLyE
 | [] => rfl
 | x :: l => by simp [toBR, toBL, toB, d_iLyE, b_iLyE, toBR_iLyE l, toBR_y]
theorem fullR_iLyE : ∀ (l : List K_iLyE), fullR (l.map d_iLyE) = true
 | [] => rfl
 | x :: l => by simp [fullR, fullL, full, d_iLyE, fullR_iLyE l, fullR_y]
theorem pureR_iLyE : ∀ (l : List K_iLyE), pureR (l.map d_iLyE) = true
 | [] => rfl
 | x :: l => by simp [pureR, pureL, V.pure, d_iLyE, pureR_iLyE l, pureR_y]
theorem ft_iLyE (a b : Nat) (l : List K_iLyE) : fullR (take a (drop b (l.map d_iLyE))) = true := by rw [← map_drop, ← map_take]; exact fullR_iLyE _
theorem tbt_iLyE (a b : Nat) (l : List K_iLyE) : toBR (take a (drop b (l.map d_iLyE))) = (take a (drop b l)).map b_iLyE := by rw [← map_drop, ← map_take]; exact toBR_iLyE _
theorem tb_iLyE (l : List K_iLyE) : toBR (take (l.map d_iLyE).length (drop 0 (l.map d_iLyE))) = l.map b_iLyE := by rw [List.drop_zero, List.take_length]; exact toBR_iLyE l
theorem lenB_iLyE (l : List K_iLyE) : ∀ r ∈ l.map b_iLyE, r.length = 2 := by intro r h; obtain ⟨x, _, rfl⟩ := List.mem_map.1 h; rfl
theorem lenD_iLyE (l : List K_iLyE) : ∀ r ∈ l.map d_iLyE, r.length = 2 := by intro r h; obtain ⟨x, _, rfl⟩ := List.mem_map.1 h; rfl
def ok_iLyE (x : K_iLyE) : Prop := (length x.f1 * 1 ≤ 140737488351232)
def os_iLyE (x : K_iLyE) : Prop := (length x.f1 * 1 ≤ 140737488351232)
theorem os_ok_iLyE (x : K_iLyE) (h : os_iLyE x) : ok_iLyE x := h
theorem gos_iLyE {l : List K_iLyE} (h : ∀ z ∈ l, os_iLyE z) (n : Nat) (d : K_iLyE) (hd : os_iLyE d) : os_iLyE (l.getD n d) := by
 rw [List.getD_eq_getElem?_getD]; cases h2 : l[n]? with
 | none => simpa using hd
 | some x => exact h x (List.mem_of_getElem? h2)
theorem gok_iLyE {l : List K_iLyE} (h : ∀ z ∈ l, ok_iLyE z) (n : Nat) (d : K_iLyE) (hd : ok_iLyE d) : ok_iLyE (l.getD n d) := by
 rw [List.getD_eq_getElem?_getD]; cases h2 : l[n]? with
 | none => simpa using hd
 | some x => exact h x (List.mem_of_getElem? h2)
structure K_iLyEi where
 f0 : Int
 f1 : (List Int)
 f2 : Int
def b_iLyEi (x : K_iLyEi) : List B := [(.val (.int .i64 x.f0)), (.sl (map b_y x.f1)), (.val (.int .i64 x.f2))]
def d_iLyEi (x : K_iLyEi) : List D := [(.val (.int .i64 x.f0)), (.own 1 (map d_y x.f1)), (.val (.int .i64 x.f2))]
theorem toBR_iLyEi : ∀ (l : List K_iLyEi), toBR (l.map d_iLyEi) = l.map b_iLyEi
 | [] => rfl
 | x :: l => by simp [toBR, toBL, toB, d_iLyEi, b_iLyEi, toBR_iLyEi l, toBR_y]
theorem fullR_iLyEi : ∀ (l : List K_iLyEi), fullR (l.map d_iLyEi) = true
 | [] => rfl
 | x :: l => by simp [fullR, fullL, full, d_iLyEi, fullR_iLyEi l, fullR_y]
theorem pureR_iLyEi : ∀ (l : List K_iLyEi), pureR (l.map d_iLyEi) = true
 | [] => rfl
 | x :: l => by simp [pureR, pureL, V.pure, d_iLyEi, pureR_iLyEi l, pureR_y]
theorem ft_iLyEi (a b : Nat) (l : List K_iLyEi) : fullR (take a (drop b (l.map d_iLyEi))) = true := by rw [← map_drop, ← map_take]; exact fullR_iLyEi _
theorem tbt_iLyEi (a b : Nat) (l : List K_iLyEi) : toBR (take a (drop b (l.map d_iLyEi))) = (take a (drop b l)).map b_iLyEi := by rw [← map_drop, ← map_take]; exact toBR_iLyEi _
theorem tb_iLyEi (l : List K_iLyEi) : toBR (take (l.map d_iLyEi).length (drop 0 (l.map d_iLyEi))) = l.map b_iLyEi := by rw [List.drop_zero, List.take_length]; exact toBR_iLyEi l
theorem lenB_iLyEi (l : List K_iLyEi) : ∀ r ∈ l.map b_iLyEi, r.length = 3 := by intro r h; obtain ⟨x, _, rfl⟩ := List.mem_map.1 h; rfl
theorem lenD_iLyEi (l : List K_iLyEi) : ∀ r ∈ l.map d_iLyEi, r.length = 3 := by intro r h; obtain ⟨x, _, rfl⟩ := List.mem_map.1 h; rfl
def ok_iLyEi (x : K_iLyEi) : Prop := (length x.f1 * 1 ≤ 140737488351232)
def os_iLyEi (x : K_iLyEi) : Prop := (length x.f1 * 1 ≤ 140737488351232)
theorem os_ok_iLyEi (x : K_iLyEi) (h : os_iLyEi x) : ok_iLyEi x := h
theorem gos_iLyEi {l : List K_iLyEi} (h : ∀ z ∈ l, os_iLyEi z) (n : Nat) (d : K_iLyEi) (hd : os_iLyEi d) : os_iLyEi (l.getD n d) := by
 rw [List.getD_eq_getElem?_getD]; cases h2 : l[n]? with
 | none => simpa using hd
 | some x => exact h x (List.mem_of_getElem? h2)
theorem gok_iLyEi {l : List K_iLyEi} (h : ∀ z ∈ l, ok_iLyEi z) (n : Nat) (d : K_iLyEi) (hd : ok_iLyEi d) : ok_iLyEi (l.getD n d) := by
 rw [List.getD_eq_getElem?_getD]; cases h2 : l[n]? with
 | none => simpa using hd
 | some x => exact h x (List.mem_of_getElem? h2)
def b_LyE (x : (List Int)) : List B := [(.sl (map b_y x))]
def d_LyE (x : (List Int)) : List D := [(.own 1 (map d_y x))]
theorem toBR_LyE : ∀ (l : List (List Int)), toBR (l.map d_LyE) = l.map b_LyE
 | [] => rfl
 | x :: l => by simp [toBR, toBL, toB, d_LyE, b_LyE, toBR_LyE l, toBR_y]
theorem fullR_LyE : ∀ (l : List (List Int)), fullR (l.map d_LyE) = true
 | [] => rfl
 | x :: l => by simp [fullR, fullL, full, d_LyE, fullR_LyE l, fullR_y]
theorem pureR_LyE : ∀ (l : List (List Int)), pureR (l.map d_LyE) = true
 | [] => rfl
 | x :: l => by simp [pureR, pureL, V.pure, d_LyE, pureR_LyE l, pureR_y]
theorem ft_LyE (a b : Nat) (l : List (List Int)) : fullR (take a (drop b (l.map d_LyE))) = true := by rw [← map_drop, ← map_take]; exact fullR_LyE _
theorem tbt_LyE (a b : Nat) (l : List (List Int)) : toBR (take a (drop b (l.map d_LyE))) = (take a (drop b l)).map b_LyE := by rw [← map_drop, ← map_take]; exact toBR_LyE _
theorem tb_LyE (l : List (List Int)) : toBR (take (l.map d_LyE).length (drop 0 (l.map d_LyE))) = l.map b_LyE := by rw [List.drop_zero, List.take_length]; exact toBR_LyE l
theorem lenB_LyE (l : List (List Int)) : ∀ r ∈ l.map b_LyE, r.length = 1 := by intro r h; obtain ⟨x, _, rfl⟩ := List.mem_map.1 h; rfl
theorem lenD_LyE (l : List (List Int)) : ∀ r ∈ l.map d_LyE, r.length = 1 := by intro r h; obtain ⟨x, _, rfl⟩ := List.mem_map.1 h; rfl
def ok_LyE (x : (List Int)) : Prop := (length x * 1 ≤ 140737488351232)
def os_LyE (x : (List Int)) : Prop := (length x * 1 ≤ 140737488351232)
theorem os_ok_LyE (x : (List Int)) (h : os_LyE x) : ok_LyE x := h
theorem gos_LyE {l : List (List Int)} (h : ∀ z ∈ l, os_LyE z) (n : Nat) (d : (List Int)) (hd : os_LyE d) : os_LyE (l.getD n d) := by
 rw [List.getD_eq_getElem?_getD]; cases h2 : l[n]? with
 | none => simpa using hd
 | some x => exact h x (List.mem_of_getElem? h2)
theorem gok_LyE {l : List (List Int)} (h : ∀ z ∈ l, ok_LyE z) (n : Nat) (d : (List Int)) (hd : ok_LyE d) : ok_LyE (l.getD n d) := by
 rw [List.getD_eq_getElem?_getD]; cases h2 : l[n]? with
 | none => simpa using hd
 | some x => exact h x (List.mem_of_getElem? h2)
def b_LLyEE (x : (List (List Int))) : List B := [(.sl (map b_LyE x))]
def d_LLyEE (x : (List (List Int))) : List D := [(.own 1 (map d_LyE x))]
theorem toBR_LLyEE : ∀ (l : List (List (List Int))), toBR (l.map d_LLyEE) = l.map b_LLyEE
 | [] => rfl
 | x :: l => by simp [toBR, toBL, toB, d_LLyEE, b_LLyEE, toBR_LLyEE l, toBR_LyE]
theorem fullR_LLyEE : ∀ (l : List (List (List Int))), fullR (l.map d_LLyEE) = true
 | [] => rfl
 | x :: l => by simp [fullR, fullL, full, d_LLyEE, fullR_LLyEE l, fullR_LyE]
theorem pureR_LLyEE : ∀ (l : List (List (List Int))), pureR (l.map d_LLyEE) = true
 | [] => rfl
 | x :: l => by simp [pureR, pureL, V.pure, d_LLyEE, pureR_LLyEE l, pureR_LyE]
theorem ft_LLyEE (a b : Nat) (l : List (List (List Int))) : fullR (take a (drop b (l.map d_LLyEE))) = true := by rw [← map_drop, ← map_take]; exact fullR_LLyEE _
theorem tbt_LLyEE (a b : Nat) (l : List (List (List Int))) : toBR (take a (drop b (l.map d_LLyEE))) = (take a (drop b l)).map b_LLyEE := by rw [← map_drop, ← map_take]; exact toBR_LLyEE _
theorem tb_LLyEE (l : List (List (List Int))) : toBR (take (l.map d_LLyEE).length (drop 0 (l.map d_LLyEE))) = l.map b_LLyEE := by rw [List.drop_zero, List.take_length]; exact toBR_LLyEE l
theorem lenB_LLyEE (l : List (List (List Int))) : ∀ r ∈ l.map b_LLyEE, r.length = 1 := by intro r h; obtain ⟨x, _, rfl⟩ := List.mem_map.1 h; rfl
theorem lenD_LLyEE (l : List (List (List Int))) : ∀ r ∈ l.map d_LLyEE, r.length = 1 := by intro r h; obtain ⟨x, _, rfl⟩ := List.mem_map.1 h; rfl
def ok_LLyEE (x : (List (List Int))) : Prop := (length x * 24 ≤ 140737488351232) ∧ (∀ z ∈ x, ok_LyE z)
def os_LLyEE (x : (List (List Int))) : Prop := (length x * 24 ≤ 140737488351232) ∧ (∀ z ∈ x, os_LyE z)
theorem os_ok_LLyEE (x : (List (List Int))) (h : os_LLyEE x) : ok_LLyEE x := ⟨h.1, fun z hz => os_ok_LyE z (h.2 z hz)⟩
theorem gos_LLyEE {l : List (List (List Int))} (h : ∀ z ∈ l, os_LLyEE z) (n : Nat) (d : (List (List Int))) (hd : os_LLyEE d) : os_LLyEE (l.getD n d) := by
 rw [List.getD_eq_getElem?_getD]; cases h2 : l[n]? with
 | none => simpa using hd
 | some x => exact h x (List.mem_of_getElem? h2)
theorem gok_LLyEE {l : List (List (List Int))} (h : ∀ z ∈ l, ok_LLyEE z) (n : Nat) (d : (List (List Int))) (hd : ok_LLyEE d) : ok_LLyEE (l.getD n d) := by
 rw [List.getD_eq_getElem?_getD]; cases h2 : l[n]? with
 | none => simpa using hd
 | some x => exact h x (List.mem_of_getElem? h2)
def b_s (x : ByteArray) : List B := [(.val (.string x))]
def d_s (x : ByteArray) : List D := [(.val (.string x))]
theorem toBR_s : ∀ (l : List ByteArray), toBR (l.map d_s) = l.map b_s
 | [] => rfl
 | x :: l => by simp [toBR, toBL, toB, d_s, b_s, toBR_s l]
theorem fullR_s : ∀ (l : List ByteArray), fullR (l.map d_s) = true
 | [] => rfl
 | x :: l => by simp [fullR, fullL, full, d_s, fullR_s l]
theorem pureR_s : ∀ (l : List ByteArray), pureR (l.map d_s) = true
 | [] => rfl
 | x :: l => by simp [pureR, pureL, V.pure, d_s, pureR_s l]
theorem ft_s (a b : Nat) (l : List ByteArray) : fullR (take a (drop b (l.map d_s))) = true := by rw [← map_drop, ← map_take]; exact fullR_s _
theorem tbt_s (a b : Nat) (l : List ByteArray) : toBR (take a (drop b (l.map d_s))) = (take a (drop b l)).map b_s := by rw [← map_drop, ← map_take]; exact toBR_s _
theorem tb_s (l : List ByteArray) : toBR (take (l.map d_s).length (drop 0 (l.map d_s))) = l.map b_s := by rw [List.drop_zero, List.take_length]; exact toBR_s l
theorem lenB_s (l : List ByteArray) : ∀ r ∈ l.map b_s, r.length = 1 := by intro r h; obtain ⟨x, _, rfl⟩ := List.mem_map.1 h; rfl
theorem lenD_s (l : List ByteArray) : ∀ r ∈ l.map d_s, r.length = 1 := by intro r h; obtain ⟨x, _, rfl⟩ := List.mem_map.1 h; rfl
def os_s (x : ByteArray) : Prop := (ByteArray.size x ≤ 140737488351232)
theorem gos_s {l : List ByteArray} (h : ∀ z ∈ l, os_s z) (n : Nat) (d : ByteArray) (hd : os_s d) : os_s (l.getD n d) := by
 rw [List.getD_eq_getElem?_getD]; cases h2 : l[n]? with
 | none => simpa using hd
 | some x => exact h x (List.mem_of_getElem? h2)
theorem fromBR_s (n : Nat) (l : List ByteArray) : fromBR n (l.map b_s) = l.map d_s := by simp [fromBR, b_s, d_s, fromB, Function.comp_def]
theorem copy_s (l : List ByteArray) : (l.map d_s).all (fun x => x.all copyable) = true := by simp [d_s, copyable, Function.comp_def]
theorem ct_s (a b : Nat) (l : List ByteArray) : ((take a (drop b (l.map d_s))).all fun x => x.all copyable) = true := by rw [← map_drop, ← map_take]; exact copy_s _
attribute [local simp] strInts_len byteRows_len toBR_y fullR_y pureR_y lenB_y lenD_y fromBR_y copy_y toBR_LyEi fullR_LyEi pureR_LyEi lenB_LyEi lenD_LyEi toBR_isii fullR_isii pureR_isii lenB_isii lenD_isii fromBR_isii copy_isii toBR_b fullR_b pureR_b lenB_b lenD_b fromBR_b copy_b toBR_i fullR_i pureR_i lenB_i lenD_i fromBR_i copy_i toBR_iLyE fullR_iLyE pureR_iLyE lenB_iLyE lenD_iLyE toBR_iLyEi fullR_iLyEi pureR_iLyEi lenB_iLyEi lenD_iLyEi toBR_LyE fullR_LyE pureR_LyE lenB_LyE lenD_LyE toBR_LLyEE fullR_LLyEE pureR_LLyEE lenB_LLyEE lenD_LLyEE toBR_s fullR_s pureR_s lenB_s lenD_s fromBR_s copy_s
def m11 (a0 : K_isii) (a1 : Int) : Int :=
 if (decide ((w64 (a1 - (ByteArray.size a0.f1 : Int))) < 0)) = true then (-1) else
 (w64 (a1 - (ByteArray.size a0.f1 : Int)))
theorem e11 {a0 : K_isii} {a1 : Int} : Ev F X (.call 11 [(.agg [(.val (.int .i64 a0.f0)), (.val (.string a0.f1)), (.val (.int .i64 a0.f2)), (.val (.int .i64 a0.f3))]), (.one (.val (.int .i64 a1)))] [] [] [(.one (.val (.int .i64 (m11 a0 a1))))]) := by
 unfold m11
 by_cases h0 : (decide ((w64 (a1 - (ByteArray.size a0.f1 : Int))) < 0)) = true
 ·try simp only [if_pos h0]
  exact cp (by kernel_rfl) (.f h0 (.y 20 .nil))
 ·try simp only [if_neg h0]
  exact cp (by kernel_rfl) (.g h0 (.z 20 .nil))
def m13 (a0 : K_isii) : K_isii :=
 a0
theorem e13 {a0 : K_isii} : Ev F X (.call 13 [(.agg [(.val (.int .i64 a0.f0)), (.val (.string a0.f1)), (.val (.int .i64 a0.f2)), (.val (.int .i64 a0.f3))])] [] [] [(.agg [(.val (.int .i64 a0.f0)), (.val (.string a0.f1)), (.val (.int .i64 a0.f2)), (.val (.int .i64 a0.f3))])]) := by
 exact cp (by kernel_rfl) .nil
def m67 (a0 : (List Int)) (a1 : Int) : Int :=
 if (decide ((w64 (a1 - ((length (map b_y a0)) : Int))) < 0)) = true then (-1) else
 (w64 (a1 - ((length (map b_y a0)) : Int)))
theorem e67 {l0_0 : Nat} {a0 : (List Int)} {a1 : Int} : Ev F X (.call 67 [(.one (.bor l0_0 (map b_y a0))), (.one (.val (.int .i64 a1)))] [] [] [(.one (.val (.int .i64 (m67 a0 a1))))]) := by
 unfold m67
 by_cases h0 : (decide ((w64 (a1 - ((length (map b_y a0)) : Int))) < 0)) = true
 ·try simp only [if_pos h0]
  exact cp (by kernel_rfl) (.f h0 (.y 16 .nil))
 ·try simp only [if_neg h0]
  exact cp (by kernel_rfl) (.g h0 (.z 16 .nil))
theorem sz67 (a0 : (List Int)) (a1 : Int) (h : ¬ m67 a0 a1 < 0) (ha : a1 ≤ 1048576) (h0 : 0 ≤ a1) (hb0 : length a0 * 1 ≤ 140737488351232) : m67 a0 a1 ≤ a1 ∧ (length a0 : Int) ≤ a1 := by
 have r := wrap64_sub a1 (length a0) h0 ha (by omega)
 unfold m67 at h ⊢
 simp only [length_map] at h ⊢
 split at h <;> split <;> simp only [decide_eq_true_eq] at * <;> omega
def m18 (a0 : K_LyEi) (a1 : Int) : Int :=
 if (decide ((m67 a0.f0 a1) < 0)) = true then (-1) else
 (m67 a0.f0 a1)
theorem e18 {l0_0 : Nat} {a0 : K_LyEi} {a1 : Int} : Ev F X (.call 18 [(.agg [(.bor l0_0 (map b_y a0.f0)), (.val (.int .i64 a0.f1))]), (.one (.val (.int .i64 a1)))] [] [] [(.one (.val (.int .i64 (m18 a0 a1))))]) := by
 unfold m18
 have f0 := e67 (l0_0 := l0_0 + 1) (a0 := a0.f0) (a1 := a1)
 by_cases h0 : (decide ((m67 a0.f0 a1) < 0)) = true
 ·try simp only [if_pos h0]
  exact cp (by kernel_rfl) (.r 11 [] [] f0 (.f h0 (.y 18 .nil)))
 ·try simp only [if_neg h0]
  exact cp (by kernel_rfl) (.r 11 [] [] f0 (.g h0 (.z 18 .nil)))
theorem sz18 (a0 : K_LyEi) (a1 : Int) (h : ¬ m18 a0 a1 < 0) (ha : a1 ≤ 1048576) (h0 : 0 ≤ a1) (hb0 : length a0.f0 * 1 ≤ 140737488351232) : m18 a0 a1 ≤ a1 ∧ (length a0.f0 : Int) ≤ a1 := by
 unfold m18 at h ⊢
 (repeat' split at h) <;> (repeat' split) <;> simp only [decide_eq_true_eq] at * <;> (try omega)
 all_goals (have q0 := sz67 _ _ (by assumption) (by omega) (by omega) (by omega); omega)
def m113 (a0 : Int) (a1 : Int) (a2 : Int) : Bool :=
 if (decide (a0 ≥ a1)) = true then (decide (a0 ≤ a2)) else
 false
theorem e113 {a0 : Int} {a1 : Int} {a2 : Int} : Ev F X (.call 113 [(.one (.val (.int .i64 a0))), (.one (.val (.int .i64 a1))), (.one (.val (.int .i64 a2)))] [] [] [(.one (.val (.bool (m113 a0 a1 a2))))]) := by
 unfold m113
 by_cases h0 : (decide (a0 ≥ a1)) = true
 ·try simp only [if_pos h0]
  exact cp (by kernel_rfl) (.m 4 h0 (.y 10 (.y 12 (.y 14 (.y 17 .nil)))))
 ·try simp only [if_neg h0]
  exact cp (by kernel_rfl) (.n 4 h0 (.z 10 (.z 12 (.z 14 (.z 17 .nil)))))
def m75 (a0 : Int) : Bool :=
 (m113 a0 0 1000000)
theorem e75 {a0 : Int} : Ev F X (.call 75 [(.one (.val (.int .i64 a0)))] [] [] [(.one (.val (.bool (m113 a0 0 1000000))))]) := by
 have f0 := e113 (a0 := a0) (a1 := 0) (a2 := 1000000)
 exact cp (by kernel_rfl) (.r 5 [] [] f0 .nil)
def m112_0 (a0 : Int) : Bool :=
 if (a0 == 1) = true then true else
 (a0 == 5)
def m112_1 (a0 : Int) : Bool :=
 if (a0 == 1) = true then false else
 (!(a0 == 5))
def m112_2 (a0 : Int) : Bool :=
 if (a0 == 1) = true then true else
 if (a0 == 5) = true then true else
  (a0 == 2)
theorem e112 {a0 : Int} : Ev F X (.call 112 [(.one (.val (.int .i64 a0)))] [] [] [(.one (.val (.bool (m112_0 a0)))), (.one (.val (.bool (m112_1 a0)))), (.one (.val (.bool (m112_2 a0))))]) := by
 unfold m112_0 m112_1 m112_2
 by_cases h0 : (a0 == 1) = true
 ·try simp only [if_pos h0]
  exact cp (by kernel_rfl) (.m 3 h0 (.y 12 (.y 14 (.y 17 .nil))))
 ·try simp only [if_neg h0]
  by_cases h1 : (a0 == 5) = true
  ·try simp only [if_pos h1]
   exact cp (by kernel_rfl) (.n 3 h0 (.m 3 h1 (.z 12 (.z 14 (.z 17 (.y 30 (.y 32 (.y 35 .nil))))))))
  ·try simp only [if_neg h1]
   exact cp (by kernel_rfl) (.n 3 h0 (.n 3 h1 (.z 12 (.z 14 (.z 17 (.z 30 (.z 32 (.z 35 .nil))))))))
def m148 (a0 : Int) : Bool :=
 if (decide (a0 ≥ 97)) = true then (if (decide (a0 ≤ 122)) = true then true else
  if (decide (a0 ≥ 65)) = true then (if (decide (a0 ≤ 90)) = true then true else
    if (decide (a0 ≥ 48)) = true then (decide (a0 ≤ 57)) else
     false) else
   if (decide (a0 ≥ 48)) = true then (decide (a0 ≤ 57)) else
    false) else
 if (decide (a0 ≥ 65)) = true then (if (decide (a0 ≤ 90)) = true then true else
   if (decide (a0 ≥ 48)) = true then (decide (a0 ≤ 57)) else
    false) else
  if (decide (a0 ≥ 48)) = true then (decide (a0 ≤ 57)) else
   false
theorem e148 {a0 : Int} : Ev F X (.call 148 [(.one (.val (.int .u8 a0)))] [] [] [(.one (.val (.bool (m148 a0))))]) := by
 unfold m148
 by_cases h0 : (decide (a0 ≥ 97)) = true
 ·try simp only [if_pos h0]
  by_cases h1 : (decide (a0 ≤ 122)) = true
  ·try simp only [if_pos h1]
   exact cp (by kernel_rfl) (.m 3 h0 (.m 5 h1 (.y 8 (.y 10 (.y 13 (.y 16 (.y 18 (.y 20 (.y 26 (.y 29 .nil))))))))))
  ·try simp only [if_neg h1]
   by_cases h2 : (decide (a0 ≥ 65)) = true
   ·try simp only [if_pos h2]
    by_cases h3 : (decide (a0 ≤ 90)) = true
    ·try simp only [if_pos h3]
     exact cp (by kernel_rfl) (.m 3 h0 (.n 3 h1 (.m 2 h2 (.g h1 (.f h2 (.g h1 (.m 5 h3 (.y 8 (.y 10 (.y 13 (.z 16 (.z 18 (.z 20 (.y 22 (.y 24 (.z 26 (.y 27 (.z 29 (.y 32 (.y 34 (.y 36 (.y 42 (.y 45 .nil)))))))))))))))))))))))
    ·try simp only [if_neg h3]
     by_cases h4 : (decide (a0 ≥ 48)) = true
     ·try simp only [if_pos h4]
      exact cp (by kernel_rfl) (.m 3 h0 (.n 3 h1 (.m 2 h2 (.g h1 (.f h2 (.g h1 (.n 3 h3 (.m 2 h4 (.g h3 (.f h4 (.g h3 (.y 8 (.y 10 (.y 13 (.z 16 (.z 18 (.z 20 (.y 22 (.y 24 (.z 26 (.y 27 (.z 29 (.z 32 (.z 34 (.z 36 (.y 38 (.y 40 (.z 42 (.y 43 (.z 45 .nil))))))))))))))))))))))))))))))
     ·try simp only [if_neg h4]
      exact cp (by kernel_rfl) (.m 3 h0 (.n 3 h1 (.m 2 h2 (.g h1 (.f h2 (.g h1 (.n 3 h3 (.n 2 h4 (.g h3 (.g h4 (.g h3 (.y 8 (.y 10 (.y 13 (.z 16 (.z 18 (.z 20 (.y 22 (.y 24 (.z 26 (.y 27 (.z 29 (.z 32 (.z 34 (.z 36 (.z 38 (.z 40 (.z 42 (.z 43 (.z 45 .nil))))))))))))))))))))))))))))))
   ·try simp only [if_neg h2]
    by_cases h3 : (decide (a0 ≥ 48)) = true
    ·try simp only [if_pos h3]
     exact cp (by kernel_rfl) (.m 3 h0 (.n 3 h1 (.n 2 h2 (.g h1 (.g h2 (.g h1 (.m 3 h3 (.y 8 (.y 10 (.y 13 (.z 16 (.z 18 (.z 20 (.z 22 (.z 24 (.z 26 (.z 27 (.z 29 (.y 38 (.y 40 (.y 43 .nil)))))))))))))))))))))
    ·try simp only [if_neg h3]
     exact cp (by kernel_rfl) (.m 3 h0 (.n 3 h1 (.n 2 h2 (.g h1 (.g h2 (.g h1 (.n 3 h3 (.y 8 (.y 10 (.y 13 (.z 16 (.z 18 (.z 20 (.z 22 (.z 24 (.z 26 (.z 27 (.z 29 (.z 38 (.z 40 (.z 43 .nil)))))))))))))))))))))
 ·try simp only [if_neg h0]
  by_cases h1 : (decide (a0 ≥ 65)) = true
  ·try simp only [if_pos h1]
   by_cases h2 : (decide (a0 ≤ 90)) = true
   ·try simp only [if_pos h2]
    exact cp (by kernel_rfl) (.n 3 h0 (.m 3 h1 (.m 5 h2 (.z 8 (.z 10 (.z 13 (.y 22 (.y 24 (.y 27 (.y 32 (.y 34 (.y 36 (.y 42 (.y 45 .nil))))))))))))))
   ·try simp only [if_neg h2]
    by_cases h3 : (decide (a0 ≥ 48)) = true
    ·try simp only [if_pos h3]
     exact cp (by kernel_rfl) (.n 3 h0 (.m 3 h1 (.n 3 h2 (.m 2 h3 (.g h2 (.f h3 (.g h2 (.z 8 (.z 10 (.z 13 (.y 22 (.y 24 (.y 27 (.z 32 (.z 34 (.z 36 (.y 38 (.y 40 (.z 42 (.y 43 (.z 45 .nil)))))))))))))))))))))
    ·try simp only [if_neg h3]
     exact cp (by kernel_rfl) (.n 3 h0 (.m 3 h1 (.n 3 h2 (.n 2 h3 (.g h2 (.g h3 (.g h2 (.z 8 (.z 10 (.z 13 (.y 22 (.y 24 (.y 27 (.z 32 (.z 34 (.z 36 (.z 38 (.z 40 (.z 42 (.z 43 (.z 45 .nil)))))))))))))))))))))
  ·try simp only [if_neg h1]
   by_cases h2 : (decide (a0 ≥ 48)) = true
   ·try simp only [if_pos h2]
    exact cp (by kernel_rfl) (.n 3 h0 (.n 3 h1 (.m 3 h2 (.z 8 (.z 10 (.z 13 (.z 22 (.z 24 (.z 27 (.y 38 (.y 40 (.y 43 .nil))))))))))))
   ·try simp only [if_neg h2]
    exact cp (by kernel_rfl) (.n 3 h0 (.n 3 h1 (.n 3 h2 (.z 8 (.z 10 (.z 13 (.z 22 (.z 24 (.z 27 (.z 38 (.z 40 (.z 43 .nil))))))))))))
inductive O114_0 where
 | k0 (w0 : Int) (w1 : Bool)
 | k1
def r114_0 (a0 : ByteArray) : Nat → Int → O114_0
 | n + 1, i =>
  if (!(m148 (byteAt a0 i))) = true then (O114_0.k1) else
  (r114_0 a0 n (i + 1) )
 | 0, i => (O114_0.k0 i (decide (i < (ByteArray.size a0 : Int))))
def h114_0 (a0 : ByteArray) (i : Int)  : St := ⟨[(0, (.one (.val (.string a0)))), (3, (.one (.val (.int .i64 i))))], []⟩
def ex114_0 : O114_0 → VX.Exit
 | .k0 _ _ => (.exit 0)
 | .k1 => .ret
def fin114_0 (a0 : ByteArray) : O114_0 → St
 | .k0 w0 w1 => ⟨[(0, (.one (.val (.string a0)))), (3, (.one (.val (.int .i64 w0)))), (7, (.one (.val (.bool w1))))], []⟩
 | .k1 => ⟨[(2, (.one (.val (.bool false))))], []⟩
theorem t114_0 {a0 : ByteArray} (hy0 : ByteArray.size a0 ≤ 140737488351232) : ∀ (n : Nat) (i : Int) , 0 ≤ i → n = Int.toNat ((ByteArray.size a0 : Int) - i) → (ByteArray.size a0 : Int) ≤ 9223372036854775807 → Ev F X (.code l114_0 (h114_0 a0 i ) (ex114_0 (r114_0 a0 n i )) (fin114_0 a0 (r114_0 a0 n i )))
 | 0, i, hn0, hn, hi0 => by
  have hc : ¬ (decide (i < (ByteArray.size a0 : Int))) = true := by
   simp only [decide_eq_true_eq]; omega
  have st := ch b114_0 [(8, .b false)] (h114_0 a0 i) (fin114_0 a0 (.k0 i (decide (i < (ByteArray.size a0 : Int))))) (.exit 0) 9 [(decide (i < (ByteArray.size a0 : Int))) = false] (by kernel_rfl) ⟨(nt hc), trivial⟩
  exact .loopX st (show ((.exit 0) : VX.Exit) ≠ .normal from by simp)
 | n + 1, i, hn0, hn, hi0 => by
  have hc : (decide (i < (ByteArray.size a0 : Int))) = true := by
   simp only [decide_eq_true_eq]; omega
  have hw : w64 (i + 1) = i + 1 := wrap64 (by omega)
  have hj0 := hi0; try simp only [length_map, length_set, length_append, length_replicate, length_cons, length_nil, Int.toNat_natCast] at hj0
  simp only [r114_0]
  by_cases h_1 : (!(m148 (byteAt a0 i))) = true
  ·try simp only [if_pos h_1]
   have st := ch b114_0 [(8, .b true), (16, .ret [] [(.one (.val (.bool (m148 (byteAt a0 i)))))] [] []), (19, .b true)] (h114_0 a0 i) (fin114_0 a0 (.k1)) .ret 22 [(decide (i < (ByteArray.size a0 : Int))) = true, 0 ≤ i ∧ i < (ByteArray.size a0 : Int), Ev F X (.call 148 [(.one (.val (.int .u8 (byteAt a0 i))))] [] [] [(.one (.val (.bool (m148 (byteAt a0 i)))))]), (!(m148 (byteAt a0 i))) = true] (by kernel_rfl) ⟨hc, (by omega), (e148 (a0 := (byteAt a0 i))), h_1, trivial⟩
   exact .loopX st (show (.ret : VX.Exit) ≠ .normal from by simp)
  ·try simp only [if_neg h_1]
   have st := ch b114_0 [(8, .b true), (16, .ret [] [(.one (.val (.bool (m148 (byteAt a0 i)))))] [] []), (19, .b false)] (h114_0 a0 i) ⟨[(0, (.one (.val (.string a0)))), (3, (.oi (w64 (i + 1))))], []⟩ .normal 26 [(decide (i < (ByteArray.size a0 : Int))) = true, 0 ≤ i ∧ i < (ByteArray.size a0 : Int), Ev F X (.call 148 [(.one (.val (.int .u8 (byteAt a0 i))))] [] [] [(.one (.val (.bool (m148 (byteAt a0 i)))))]), (!(m148 (byteAt a0 i))) = false, True] (by kernel_rfl) ⟨hc, (by omega), (e148 (a0 := (byteAt a0 i))), (nt h_1), trivial, trivial⟩
   have ih := t114_0 (a0 := a0) hy0 n (i + 1)  (by omega) (by omega) (by omega)
   replace st := to_ (s' := h114_0 a0 (i + 1) ) st (by unfold h114_0; simp only [hw]; done)
   exact .loopN st ih
def m114 (a0 : ByteArray) : Bool :=
 (match r114_0 a0 (Int.toNat (ByteArray.size a0 : Int)) 0 with | .k0 w0_0 w1_0 => (decide ((ByteArray.size a0 : Int) ≤ 12)) | .k1 => false)
theorem e114 {a0 : ByteArray} (hy0 : ByteArray.size a0 ≤ 140737488351232) : Ev F X (.call 114 [(.one (.val (.string a0)))] [] [] [(.one (.val (.bool (m114 a0))))]) := by
 unfold m114
 cases h0 : r114_0 a0 (Int.toNat (ByteArray.size a0 : Int)) 0 with
 | k0 w0_0 w1_0 =>
  try dsimp only
  have f0 : (⟨[(0, (.one (.val (.string a0)))), (3, (.oi 0))], []⟩ : St) = h114_0 a0 0  := (by rfl)
  have f1 : Ev F X (.code l114_0 (h114_0 a0 0 ) (.exit 0) ⟨[(0, (.one (.val (.string a0)))), (3, (.oi w0_0)), (7, (.one (.val (.bool w1_0))))], []⟩) := (by have t : Ev F X (.code l114_0 (h114_0 a0 0 ) (ex114_0 (r114_0 a0 (Int.toNat (ByteArray.size a0 : Int)) 0)) (fin114_0 a0 (r114_0 a0 (Int.toNat (ByteArray.size a0 : Int)) 0))) := t114_0 (a0 := a0) (by assumption) _ 0  (by omega) (by omega) (by omega); rw [h0] at t; exact t)
  exact cp (by kernel_rfl) (.f f0 (.f f1 (.h 4 (.loop (h114_0 a0 0 ) (.exit 0) ⟨[(0, (.one (.val (.string a0)))), (3, (.oi w0_0)), (7, (.one (.val (.bool w1_0))))], []⟩) .nil)))
 | k1 =>
  try dsimp only
  have f0 : (⟨[(0, (.one (.val (.string a0)))), (3, (.oi 0))], []⟩ : St) = h114_0 a0 0  := (by rfl)
  have f1 : Ev F X (.code l114_0 (h114_0 a0 0 ) .ret ⟨[(2, (.one (.val (.bool false))))], []⟩) := (by have t : Ev F X (.code l114_0 (h114_0 a0 0 ) (ex114_0 (r114_0 a0 (Int.toNat (ByteArray.size a0 : Int)) 0)) (fin114_0 a0 (r114_0 a0 (Int.toNat (ByteArray.size a0 : Int)) 0))) := t114_0 (a0 := a0) (by assumption) _ 0  (by omega) (by omega) (by omega); rw [h0] at t; exact t)
  exact cp (by kernel_rfl) (.f f0 (.f f1 (.h 4 (.loop (h114_0 a0 0 ) .ret ⟨[(2, (.one (.val (.bool false))))], []⟩) .nil)))
theorem arg_len114 {a : ByteArray} (h : m114 a = true) : ByteArray.size a ≤ 12 := by
 unfold m114 at h
 split at h
 ·simp only [decide_eq_true_eq] at h; omega
 ·cases h
def m115 (a0 : Int) : Bool :=
 (m113 a0 0 2147483646)
theorem e115 {a0 : Int} : Ev F X (.call 115 [(.one (.val (.int .i64 a0)))] [] [] [(.one (.val (.bool (m113 a0 0 2147483646))))]) := by
 have f0 := e113 (a0 := a0) (a1 := 0) (a2 := 2147483646)
 exact cp (by kernel_rfl) (.r 5 [] [] f0 .nil)
end Go.Proofs.YtdnopbpdiineiaaDoor.AppendEntry
