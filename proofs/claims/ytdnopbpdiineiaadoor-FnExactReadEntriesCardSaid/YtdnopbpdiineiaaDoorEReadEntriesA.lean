/- What the functions compute. -/
import Derived.Test.YtdnopbpdiineiaaDoorTReadEntries
import Derived.Test.YtdnopbpdiineiaaDoorVNum
import Derived.Test.YtdnopbpdiineiaaDoorVClone
import Derived.Test.YtdnopbpdiineiaaDoorVExt
import Derived.Test.YtdnopbpdiineiaaDoorXReadEntries
import Derived.KernelRfl
namespace Go.Proofs.YtdnopbpdiineiaaDoor.ReadEntries
open Go Go.Proofs.YtdnopbpdiineiaaDoor.V
set_option linter.unusedVariables false
set_option linter.unusedSimpArgs false
set_option maxRecDepth 20000
abbrev _root_.Go.Proofs.YtdnopbpdiineiaaDoor.V.B.i (x : Int) : B := .val (.int .i64 x)
abbrev _root_.Go.Proofs.YtdnopbpdiineiaaDoor.V.D.i (x : Int) : D := .val (.int .i64 x)
abbrev _root_.Go.Proofs.YtdnopbpdiineiaaDoor.V.CV.i (x : Int) : CV := .val (.int .i64 x)
abbrev _root_.Go.Proofs.YtdnopbpdiineiaaDoor.V.SV.oi (x : Int) : SV := .one (.val (.int .i64 x))
abbrev _root_.Go.Proofs.YtdnopbpdiineiaaDoor.V.Ret.oi (x : Int) : Ret := .one (.val (.int .i64 x))
open List (length_replicate length_map length_set length_append length_cons length_nil length_take length_drop take_of_length_le map_take map_drop map_set append_assoc getElem?_map map length take drop getD set)
def X : Ext := fun f args objs rs => (f = 156 ∧ objs = [] ∧ TrimX args rs)
def w64 (n : Int) : Int := IntKind.wrap .i64 n
theorem wrap64 {x : Int} (h : -9223372036854775808 ≤ x ∧ x ≤ 9223372036854775807) : w64 x = x := V.wrap64 h
theorem wrap64d {x : Int} (h1 : -9223372036854775808 ≤ x) (h2 : x ≤ 9223372036854775807) : w64 x = x := V.wrap64 ⟨h1, h2⟩
theorem wrap64_range (x : Int) : -9223372036854775808 ≤ w64 x ∧ w64 x ≤ 9223372036854775807 := V.wrap64_range x
theorem wrap64_sub (x : Int) (n : Nat) (h0 : 0 ≤ x) (h1 : x ≤ 1048576) (h2 : n ≤ 140737488351232) : w64 (x - n) < 0 ∨ (w64 (x - n) = x - n ∧ (n : Int) ≤ x) := V.wrap64_sub x n h0 h1 h2
theorem fuel64_tdiv {x : Int} {n : Nat} (h : decide (x > 0) = true) (hn : fuel64 x ≤ n + 1) : fuel64 (w64 (Int.tdiv x 10)) ≤ n := V.fuel64_tdiv h hn
theorem pot64_tdiv {x : Int} (h : decide (x > 0) = true) : pot64 (w64 (Int.tdiv x 10)) + 1 ≤ pot64 x := V.pot64_tdiv h
theorem _root_.Go.Proofs.YtdnopbpdiineiaaDoor.V.PS.z {F X hs q} (t : Nat) (r : PS F X hs q) : PS F X ((t, .b false) :: hs) q := .h t _ r
theorem _root_.Go.Proofs.YtdnopbpdiineiaaDoor.V.PS.y {F X hs q} (t : Nat) (r : PS F X hs q) : PS F X ((t, .b true) :: hs) q := .h t _ r
theorem _root_.Go.Proofs.YtdnopbpdiineiaaDoor.V.PS.g {F X} {b : Bool} {hs q} (h : ¬ b = true) (r : PS F X hs q) : PS F X hs ((b = false) :: q) := .f (nt h) r
theorem _root_.Go.Proofs.YtdnopbpdiineiaaDoor.V.PS.n {F X} {b : Bool} {hs q} : ∀ (k : Nat) (h : ¬ b = true) (r : PS F X hs q), PS F X hs (List.replicate k (b = false) ++ q)
 | 0, _, r => r
 | k + 1, h, r => .f (nt h) (.n k h r)
theorem _root_.Go.Proofs.YtdnopbpdiineiaaDoor.V.PS.m {F X} {p : Prop} {hs q} : ∀ (k : Nat) (h : p) (r : PS F X hs q), PS F X hs (List.replicate k p ++ q)
 | 0, _, r => r
 | k + 1, h, r => .f h (.m k h r)
theorem _root_.Go.Proofs.YtdnopbpdiineiaaDoor.V.PS.e {F X} {α : Type} {hs q} (x : α) (r : PS F X hs q) : PS F X hs ((x = x) :: q) := .f rfl r
theorem cp {f : FuncId} {hs args rs q} (h : callH F X f hs [] args [] = some ([], rs, q)) (p : PS F X hs q) : Ev F X (.call f args [] [] rs) := callP_ok h p
theorem ch (c : VC) (hs : Hints) (σ σ' : St) (e : VX.Exit) (t : Nat) (q : List Prop) (h : codeH F X c 0 hs σ = some (e, σ', t, [], q)) (p : All q) : Ev F X (.code c σ e σ') := codeH_ok h p
theorem to_ {c : VC} {σ s s' : St} {e : VX.Exit} (h : Ev F X (.code c σ e s)) (k : s = s') : Ev F X (.code c σ e s') := k ▸ h
theorem lt1 {α β : Type} {f : α → β} {p y a : List α} {x : α} (h : p ++ x :: y = a) : (decide ((List.length p : Int) < ((List.length (List.map f a)) : Int))) = true := by
 rw [← h]; simp only [List.length_map, List.length_append, List.length_cons, decide_eq_true_eq]; omega
def b_y (x : Int) : List B := [(.val (.int .u8 x))]
def d_y (x : Int) : List D := [(.val (.int .u8 x))]
theorem toBR_y : ∀ (l : List Int), toBR (l.map d_y) = l.map b_y
 | [] => rfl
 | x :: l => by simp [toBR, toBL, toB, d_y, b_y, toBR_y l]
theorem fullR_y : ∀ (l : List Int), fullR (l.map d_y) = true
 | [] => rfl
 | x :: l => by simp [fullR, fullL, full, d_y, fullR_y l]
theorem pureR_y : ∀ (l : List Int), pureR (l.map d_y) = true
 | [] => rfl
 | x :: l => by simp [pureR, pureL, V.pure, d_y, pureR_y l]
theorem ft_y (a b : Nat) (l : List Int) : fullR (take a (drop b (l.map d_y))) = true := by rw [← map_drop, ← map_take]; exact fullR_y _
theorem tbt_y (a b : Nat) (l : List Int) : toBR (take a (drop b (l.map d_y))) = (take a (drop b l)).map b_y := by rw [← map_drop, ← map_take]; exact toBR_y _
theorem tb_y (l : List Int) : toBR (take (l.map d_y).length (drop 0 (l.map d_y))) = l.map b_y := by rw [List.drop_zero, List.take_length]; exact toBR_y l
theorem lenB_y (l : List Int) : ∀ r ∈ l.map b_y, r.length = 1 := by intro r h; obtain ⟨x, _, rfl⟩ := List.mem_map.1 h; rfl
theorem lenD_y (l : List Int) : ∀ r ∈ l.map d_y, r.length = 1 := by intro r h; obtain ⟨x, _, rfl⟩ := List.mem_map.1 h; rfl
theorem fromBR_y (n : Nat) (l : List Int) : fromBR n (l.map b_y) = l.map d_y := by simp [fromBR, b_y, d_y, fromB, Function.comp_def]
theorem copy_y (l : List Int) : (l.map d_y).all (fun x => x.all copyable) = true := by simp [d_y, copyable, Function.comp_def]
theorem ct_y (a b : Nat) (l : List Int) : ((take a (drop b (l.map d_y))).all fun x => x.all copyable) = true := by rw [← map_drop, ← map_take]; exact copy_y _
def strInts (s : ByteArray) : List Int := s.data.toList.map fun b => (b.toNat : Int)
theorem ly_y (a : Int) (l : List Int) : [D.val (.int .u8 a)] :: map d_y l = map d_y (a :: l) := rfl
theorem ly0_y (a : Int) : [[D.val (.int .u8 a)]] = map d_y [a] := rfl
theorem strInts_len (s : ByteArray) : (strInts s).length = s.size := by simp [strInts]
theorem byteRows_len (s : ByteArray) : (byteRows s).length = s.size := by simp [byteRows]
theorem byteRows_eq (s : ByteArray) : byteRows s = (strInts s).map d_y := by simp [byteRows, strInts, d_y, Function.comp_def]
theorem tsi (s : ByteArray) : take (ByteArray.size s) (map d_y (strInts s)) = map d_y (strInts s) := by rw [take_of_length_le (by simp [strInts_len])]
theorem tbr (s : ByteArray) : take (ByteArray.size s) (byteRows s) = map d_y (strInts s) := by rw [byteRows_eq, tsi]
theorem ints_y : ∀ (l : List Int), rowsInts .u8 (l.map d_y) = some l
 | [] => rfl
 | x :: l => by simp only [List.map_cons, d_y, rowsInts, ints_y l]; rfl
def b_LyE (x : (List Int)) : List B := [(.sl (map b_y x))]
def d_LyE (x : (List Int)) : List D := [(.own 1 (map d_y x))]
theorem toBR_LyE : ∀ (l : List (List Int)), toBR (l.map d_LyE) = l.map b_LyE
 | [] => rfl
 | x :: l => by simp [toBR, toBL, toB, d_LyE, b_LyE, toBR_LyE l, toBR_y]
theorem fullR_LyE : ∀ (l : List (List Int)), fullR (l.map d_LyE) = true
 | [] => rfl
 | x :: l => by simp [fullR, fullL, full, d_LyE, fullR_LyE l, fullR_y]
theorem pureR_LyE : ∀ (l : List (List Int)), pureR (l.map d_LyE) = true
 | [] => rfl
 | x :: l => by simp [pureR, pureL, V.pure, d_LyE, pureR_LyE l, pureR_y]
theorem ft_LyE (a b : Nat) (l : List (List Int)) : fullR (take a (drop b (l.map d_LyE))) = true := by rw [← map_drop, ← map_take]; exact fullR_LyE _
theorem tbt_LyE (a b : Nat) (l : List (List Int)) : toBR (take a (drop b (l.map d_LyE))) = (take a (drop b l)).map b_LyE := by rw [← map_drop, ← map_take]; exact toBR_LyE _
theorem tb_LyE (l : List (List Int)) : toBR (take (l.map d_LyE).length (drop 0 (l.map d_LyE))) = l.map b_LyE := by rw [List.drop_zero, List.take_length]; exact toBR_LyE l
theorem lenB_LyE (l : List (List Int)) : ∀ r ∈ l.map b_LyE, r.length = 1 := by intro r h; obtain ⟨x, _, rfl⟩ := List.mem_map.1 h; rfl
theorem lenD_LyE (l : List (List Int)) : ∀ r ∈ l.map d_LyE, r.length = 1 := by intro r h; obtain ⟨x, _, rfl⟩ := List.mem_map.1 h; rfl
def ok_LyE (x : (List Int)) : Prop := (length x * 1 ≤ 140737488351232)
def os_LyE (x : (List Int)) : Prop := (length x * 1 ≤ 140737488351232)
theorem os_ok_LyE (x : (List Int)) (h : os_LyE x) : ok_LyE x := h
theorem gos_LyE {l : List (List Int)} (h : ∀ z ∈ l, os_LyE z) (n : Nat) (d : (List Int)) (hd : os_LyE d) : os_LyE (l.getD n d) := by
 rw [List.getD_eq_getElem?_getD]; cases h2 : l[n]? with
 | none => simpa using hd
 | some x => exact h x (List.mem_of_getElem? h2)
theorem gok_LyE {l : List (List Int)} (h : ∀ z ∈ l, ok_LyE z) (n : Nat) (d : (List Int)) (hd : ok_LyE d) : ok_LyE (l.getD n d) := by
 rw [List.getD_eq_getElem?_getD]; cases h2 : l[n]? with
 | none => simpa using hd
 | some x => exact h x (List.mem_of_getElem? h2)
def b_b (x : Bool) : List B := [(.val (.bool x))]
def d_b (x : Bool) : List D := [(.val (.bool x))]
theorem toBR_b : ∀ (l : List Bool), toBR (l.map d_b) = l.map b_b
 | [] => rfl
 | x :: l => by simp [toBR, toBL, toB, d_b, b_b, toBR_b l]
theorem fullR_b : ∀ (l : List Bool), fullR (l.map d_b) = true
 | [] => rfl
 | x :: l => by simp [fullR, fullL, full, d_b, fullR_b l]
theorem pureR_b : ∀ (l : List Bool), pureR (l.map d_b) = true
 | [] => rfl
 | x :: l => by simp [pureR, pureL, V.pure, d_b, pureR_b l]
theorem ft_b (a b : Nat) (l : List Bool) : fullR (take a (drop b (l.map d_b))) = true := by rw [← map_drop, ← map_take]; exact fullR_b _
theorem tbt_b (a b : Nat) (l : List Bool) : toBR (take a (drop b (l.map d_b))) = (take a (drop b l)).map b_b := by rw [← map_drop, ← map_take]; exact toBR_b _
theorem tb_b (l : List Bool) : toBR (take (l.map d_b).length (drop 0 (l.map d_b))) = l.map b_b := by rw [List.drop_zero, List.take_length]; exact toBR_b l
theorem lenB_b (l : List Bool) : ∀ r ∈ l.map b_b, r.length = 1 := by intro r h; obtain ⟨x, _, rfl⟩ := List.mem_map.1 h; rfl
theorem lenD_b (l : List Bool) : ∀ r ∈ l.map d_b, r.length = 1 := by intro r h; obtain ⟨x, _, rfl⟩ := List.mem_map.1 h; rfl
theorem fromBR_b (n : Nat) (l : List Bool) : fromBR n (l.map b_b) = l.map d_b := by simp [fromBR, b_b, d_b, fromB, Function.comp_def]
theorem copy_b (l : List Bool) : (l.map d_b).all (fun x => x.all copyable) = true := by simp [d_b, copyable, Function.comp_def]
theorem ct_b (a b : Nat) (l : List Bool) : ((take a (drop b (l.map d_b))).all fun x => x.all copyable) = true := by rw [← map_drop, ← map_take]; exact copy_b _
structure K_isii where
 f0 : Int
 f1 : ByteArray
 f2 : Int
 f3 : Int
def b_isii (x : K_isii) : List B := [(.val (.int .i64 x.f0)), (.val (.string x.f1)), (.val (.int .i64 x.f2)), (.val (.int .i64 x.f3))]
def d_isii (x : K_isii) : List D := [(.val (.int .i64 x.f0)), (.val (.string x.f1)), (.val (.int .i64 x.f2)), (.val (.int .i64 x.f3))]
theorem toBR_isii : ∀ (l : List K_isii), toBR (l.map d_isii) = l.map b_isii
 | [] => rfl
 | x :: l => by simp [toBR, toBL, toB, d_isii, b_isii, toBR_isii l]
theorem fullR_isii : ∀ (l : List K_isii), fullR (l.map d_isii) = true
 | [] => rfl
 | x :: l => by simp [fullR, fullL, full, d_isii, fullR_isii l]
theorem pureR_isii : ∀ (l : List K_isii), pureR (l.map d_isii) = true
 | [] => rfl
 | x :: l => by simp [pureR, pureL, V.pure, d_isii, pureR_isii l]
theorem ft_isii (a b : Nat) (l : List K_isii) : fullR (take a (drop b (l.map d_isii))) = true := by rw [← map_drop, ← map_take]; exact fullR_isii _
theorem tbt_isii (a b : Nat) (l : List K_isii) : toBR (take a (drop b (l.map d_isii))) = (take a (drop b l)).map b_isii := by rw [← map_drop, ← map_take]; exact toBR_isii _
theorem tb_isii (l : List K_isii) : toBR (take (l.map d_isii).length (drop 0 (l.map d_isii))) = l.map b_isii := by rw [List.drop_zero, List.take_length]; exact toBR_isii l
theorem lenB_isii (l : List K_isii) : ∀ r ∈ l.map b_isii, r.length = 4 := by intro r h; obtain ⟨x, _, rfl⟩ := List.mem_map.1 h; rfl
theorem lenD_isii (l : List K_isii) : ∀ r ∈ l.map d_isii, r.length = 4 := by intro r h; obtain ⟨x, _, rfl⟩ := List.mem_map.1 h; rfl
def os_isii (x : K_isii) : Prop := (ByteArray.size x.f1 ≤ 140737488351232)
theorem gos_isii {l : List K_isii} (h : ∀ z ∈ l, os_isii z) (n : Nat) (d : K_isii) (hd : os_isii d) : os_isii (l.getD n d) := by
 rw [List.getD_eq_getElem?_getD]; cases h2 : l[n]? with
 | none => simpa using hd
 | some x => exact h x (List.mem_of_getElem? h2)
theorem fromBR_isii (n : Nat) (l : List K_isii) : fromBR n (l.map b_isii) = l.map d_isii := by simp [fromBR, b_isii, d_isii, fromB, Function.comp_def]
theorem copy_isii (l : List K_isii) : (l.map d_isii).all (fun x => x.all copyable) = true := by simp [d_isii, copyable, Function.comp_def]
theorem ct_isii (a b : Nat) (l : List K_isii) : ((take a (drop b (l.map d_isii))).all fun x => x.all copyable) = true := by rw [← map_drop, ← map_take]; exact copy_isii _
structure K_iiLisiiE where
 f0 : Int
 f1 : Int
 f2 : (List K_isii)
def b_iiLisiiE (x : K_iiLisiiE) : List B := [(.val (.int .i64 x.f0)), (.val (.int .i64 x.f1)), (.sl (map b_isii x.f2))]
def d_iiLisiiE (x : K_iiLisiiE) : List D := [(.val (.int .i64 x.f0)), (.val (.int .i64 x.f1)), (.own 4 (map d_isii x.f2))]
theorem toBR_iiLisiiE : ∀ (l : List K_iiLisiiE), toBR (l.map d_iiLisiiE) = l.map b_iiLisiiE
 | [] => rfl
 | x :: l => by simp [toBR, toBL, toB, d_iiLisiiE, b_iiLisiiE, toBR_iiLisiiE l, toBR_isii]
theorem fullR_iiLisiiE : ∀ (l : List K_iiLisiiE), fullR (l.map d_iiLisiiE) = true
 | [] => rfl
 | x :: l => by simp [fullR, fullL, full, d_iiLisiiE, fullR_iiLisiiE l, fullR_isii]
theorem pureR_iiLisiiE : ∀ (l : List K_iiLisiiE), pureR (l.map d_iiLisiiE) = true
 | [] => rfl
 | x :: l => by simp [pureR, pureL, V.pure, d_iiLisiiE, pureR_iiLisiiE l, pureR_isii]
theorem ft_iiLisiiE (a b : Nat) (l : List K_iiLisiiE) : fullR (take a (drop b (l.map d_iiLisiiE))) = true := by rw [← map_drop, ← map_take]; exact fullR_iiLisiiE _
theorem tbt_iiLisiiE (a b : Nat) (l : List K_iiLisiiE) : toBR (take a (drop b (l.map d_iiLisiiE))) = (take a (drop b l)).map b_iiLisiiE := by rw [← map_drop, ← map_take]; exact toBR_iiLisiiE _
theorem tb_iiLisiiE (l : List K_iiLisiiE) : toBR (take (l.map d_iiLisiiE).length (drop 0 (l.map d_iiLisiiE))) = l.map b_iiLisiiE := by rw [List.drop_zero, List.take_length]; exact toBR_iiLisiiE l
theorem lenB_iiLisiiE (l : List K_iiLisiiE) : ∀ r ∈ l.map b_iiLisiiE, r.length = 3 := by intro r h; obtain ⟨x, _, rfl⟩ := List.mem_map.1 h; rfl
theorem lenD_iiLisiiE (l : List K_iiLisiiE) : ∀ r ∈ l.map d_iiLisiiE, r.length = 3 := by intro r h; obtain ⟨x, _, rfl⟩ := List.mem_map.1 h; rfl
def ok_iiLisiiE (x : K_iiLisiiE) : Prop := (length x.f2 * 40 ≤ 140737488351232)
def os_iiLisiiE (x : K_iiLisiiE) : Prop := (length x.f2 * 40 ≤ 140737488351232) ∧ (∀ z ∈ x.f2, os_isii z)
theorem os_ok_iiLisiiE (x : K_iiLisiiE) (h : os_iiLisiiE x) : ok_iiLisiiE x := h.1
theorem gos_iiLisiiE {l : List K_iiLisiiE} (h : ∀ z ∈ l, os_iiLisiiE z) (n : Nat) (d : K_iiLisiiE) (hd : os_iiLisiiE d) : os_iiLisiiE (l.getD n d) := by
 rw [List.getD_eq_getElem?_getD]; cases h2 : l[n]? with
 | none => simpa using hd
 | some x => exact h x (List.mem_of_getElem? h2)
theorem gok_iiLisiiE {l : List K_iiLisiiE} (h : ∀ z ∈ l, ok_iiLisiiE z) (n : Nat) (d : K_iiLisiiE) (hd : ok_iiLisiiE d) : ok_iiLisiiE (l.getD n d) := by
 rw [List.getD_eq_getElem?_getD]; cases h2 : l[n]? with
 | none => simpa using hd
 | some x => exact h x (List.mem_of_getElem? h2)
def b_i (x : Int) : List B := [(.val (.int .i64 x))]
def d_i (x : Int) : List D := [(.val (.int .i64 x))]
theorem toBR_i : ∀ (l : List Int), toBR (l.map d_i) = l.map b_i
 | [] => rfl
 | x :: l => by simp [toBR, toBL, toB, d_i, b_i, toBR_i l]
theorem fullR_i : ∀ (l : List Int), fullR (l.map d_i) = true
 | [] => rfl
 | x :: l => by simp [fullR, fullL, full, d_i, fullR_i l]
theorem pureR_i : ∀ (l : List Int), pureR (l.map d_i) = true
 | [] => rfl
 | x :: l => by simp [pureR, pureL, V.pure, d_i, pureR_i l]
theorem ft_i (a b : Nat) (l : List Int) : fullR (take a (drop b (l.map d_i))) = true := by rw [← map_drop, ← map_take]; exact fullR_i _
theorem tbt_i (a b : Nat) (l : List Int) : toBR (take a (drop b (l.map d_i))) = (take a (drop b l)).map b_i := by rw [← map_drop, ← map_take]; exact toBR_i _
theorem tb_i (l : List Int) : toBR (take (l.map d_i).length (drop 0 (l.map d_i))) = l.map b_i := by rw [List.drop_zero, List.take_length]; exact toBR_i l
theorem lenB_i (l : List Int) : ∀ r ∈ l.map b_i, r.length = 1 := by intro r h; obtain ⟨x, _, rfl⟩ := List.mem_map.1 h; rfl
theorem lenD_i (l : List Int) : ∀ r ∈ l.map d_i, r.length = 1 := by intro r h; obtain ⟨x, _, rfl⟩ := List.mem_map.1 h; rfl
theorem fromBR_i (n : Nat) (l : List Int) : fromBR n (l.map b_i) = l.map d_i := by simp [fromBR, b_i, d_i, fromB, Function.comp_def]
theorem copy_i (l : List Int) : (l.map d_i).all (fun x => x.all copyable) = true := by simp [d_i, copyable, Function.comp_def]
theorem ct_i (a b : Nat) (l : List Int) : ((take a (drop b (l.map d_i))).all fun x => x.all copyable) = true := by rw [← map_drop, ← map_take]; exact copy_i _
def b_LLyEE (x : (List (List Int))) : List B := [(.sl (map b_LyE x))]
def d_LLyEE (x : (List (List Int))) : List D := [(.own 1 (map d_LyE x))]
theorem toBR_LLyEE : ∀ (l : List (List (List Int))), toBR (l.map d_LLyEE) = l.map b_LLyEE
 | [] => rfl
 | x :: l => by simp [toBR, toBL, toB, d_LLyEE, b_LLyEE, toBR_LLyEE l, toBR_LyE]
theorem fullR_LLyEE : ∀ (l : List (List (List Int))), fullR (l.map d_LLyEE) = true
 | [] => rfl
 | x :: l => by simp [fullR, fullL, full, d_LLyEE, fullR_LLyEE l, fullR_LyE]
theorem pureR_LLyEE : ∀ (l : List (List (List Int))), pureR (l.map d_LLyEE) = true
 | [] => rfl
 | x :: l => by simp [pureR, pureL, V.pure, d_LLyEE, pureR_LLyEE l, pureR_LyE]
theorem ft_LLyEE (a b : Nat) (l : List (List (List Int))) : fullR (take a (drop b (l.map d_LLyEE))) = true := by rw [← map_drop, ← map_take]; exact fullR_LLyEE _
theorem tbt_LLyEE (a b : Nat) (l : List (List (List Int))) : toBR (take a (drop b (l.map d_LLyEE))) = (take a (drop b l)).map b_LLyEE := by rw [← map_drop, ← map_take]; exact toBR_LLyEE _
theorem tb_LLyEE (l : List (List (List Int))) : toBR (take (l.map d_LLyEE).length (drop 0 (l.map d_LLyEE))) = l.map b_LLyEE := by rw [List.drop_zero, List.take_length]; exact toBR_LLyEE l
theorem lenB_LLyEE (l : List (List (List Int))) : ∀ r ∈ l.map b_LLyEE, r.length = 1 := by intro r h; obtain ⟨x, _, rfl⟩ := List.mem_map.1 h; rfl
theorem lenD_LLyEE (l : List (List (List Int))) : ∀ r ∈ l.map d_LLyEE, r.length = 1 := by intro r h; obtain ⟨x, _, rfl⟩ := List.mem_map.1 h; rfl
def ok_LLyEE (x : (List (List Int))) : Prop := (length x * 24 ≤ 140737488351232) ∧ (∀ z ∈ x, ok_LyE z)
def os_LLyEE (x : (List (List Int))) : Prop := (length x * 24 ≤ 140737488351232) ∧ (∀ z ∈ x, os_LyE z)
theorem os_ok_LLyEE (x : (List (List Int))) (h : os_LLyEE x) : ok_LLyEE x := ⟨h.1, fun z hz => os_ok_LyE z (h.2 z hz)⟩
theorem gos_LLyEE {l : List (List (List Int))} (h : ∀ z ∈ l, os_LLyEE z) (n : Nat) (d : (List (List Int))) (hd : os_LLyEE d) : os_LLyEE (l.getD n d) := by
 rw [List.getD_eq_getElem?_getD]; cases h2 : l[n]? with
 | none => simpa using hd
 | some x => exact h x (List.mem_of_getElem? h2)
theorem gok_LLyEE {l : List (List (List Int))} (h : ∀ z ∈ l, ok_LLyEE z) (n : Nat) (d : (List (List Int))) (hd : ok_LLyEE d) : ok_LLyEE (l.getD n d) := by
 rw [List.getD_eq_getElem?_getD]; cases h2 : l[n]? with
 | none => simpa using hd
 | some x => exact h x (List.mem_of_getElem? h2)
def b_s (x : ByteArray) : List B := [(.val (.string x))]
def d_s (x : ByteArray) : List D := [(.val (.string x))]
theorem toBR_s : ∀ (l : List ByteArray), toBR (l.map d_s) = l.map b_s
 | [] => rfl
 | x :: l => by simp [toBR, toBL, toB, d_s, b_s, toBR_s l]
theorem fullR_s : ∀ (l : List ByteArray), fullR (l.map d_s) = true
 | [] => rfl
 | x :: l => by simp [fullR, fullL, full, d_s, fullR_s l]
theorem pureR_s : ∀ (l : List ByteArray), pureR (l.map d_s) = true
 | [] => rfl
 | x :: l => by simp [pureR, pureL, V.pure, d_s, pureR_s l]
theorem ft_s (a b : Nat) (l : List ByteArray) : fullR (take a (drop b (l.map d_s))) = true := by rw [← map_drop, ← map_take]; exact fullR_s _
theorem tbt_s (a b : Nat) (l : List ByteArray) : toBR (take a (drop b (l.map d_s))) = (take a (drop b l)).map b_s := by rw [← map_drop, ← map_take]; exact toBR_s _
theorem tb_s (l : List ByteArray) : toBR (take (l.map d_s).length (drop 0 (l.map d_s))) = l.map b_s := by rw [List.drop_zero, List.take_length]; exact toBR_s l
theorem lenB_s (l : List ByteArray) : ∀ r ∈ l.map b_s, r.length = 1 := by intro r h; obtain ⟨x, _, rfl⟩ := List.mem_map.1 h; rfl
theorem lenD_s (l : List ByteArray) : ∀ r ∈ l.map d_s, r.length = 1 := by intro r h; obtain ⟨x, _, rfl⟩ := List.mem_map.1 h; rfl
def os_s (x : ByteArray) : Prop := (ByteArray.size x ≤ 140737488351232)
theorem gos_s {l : List ByteArray} (h : ∀ z ∈ l, os_s z) (n : Nat) (d : ByteArray) (hd : os_s d) : os_s (l.getD n d) := by
 rw [List.getD_eq_getElem?_getD]; cases h2 : l[n]? with
 | none => simpa using hd
 | some x => exact h x (List.mem_of_getElem? h2)
theorem fromBR_s (n : Nat) (l : List ByteArray) : fromBR n (l.map b_s) = l.map d_s := by simp [fromBR, b_s, d_s, fromB, Function.comp_def]
theorem copy_s (l : List ByteArray) : (l.map d_s).all (fun x => x.all copyable) = true := by simp [d_s, copyable, Function.comp_def]
theorem ct_s (a b : Nat) (l : List ByteArray) : ((take a (drop b (l.map d_s))).all fun x => x.all copyable) = true := by rw [← map_drop, ← map_take]; exact copy_s _
def b_LisiiE (x : (List K_isii)) : List B := [(.sl (map b_isii x))]
def d_LisiiE (x : (List K_isii)) : List D := [(.own 4 (map d_isii x))]
theorem toBR_LisiiE : ∀ (l : List (List K_isii)), toBR (l.map d_LisiiE) = l.map b_LisiiE
 | [] => rfl
 | x :: l => by simp [toBR, toBL, toB, d_LisiiE, b_LisiiE, toBR_LisiiE l, toBR_isii]
theorem fullR_LisiiE : ∀ (l : List (List K_isii)), fullR (l.map d_LisiiE) = true
 | [] => rfl
 | x :: l => by simp [fullR, fullL, full, d_LisiiE, fullR_LisiiE l, fullR_isii]
theorem pureR_LisiiE : ∀ (l : List (List K_isii)), pureR (l.map d_LisiiE) = true
 | [] => rfl
 | x :: l => by simp [pureR, pureL, V.pure, d_LisiiE, pureR_LisiiE l, pureR_isii]
theorem ft_LisiiE (a b : Nat) (l : List (List K_isii)) : fullR (take a (drop b (l.map d_LisiiE))) = true := by rw [← map_drop, ← map_take]; exact fullR_LisiiE _
theorem tbt_LisiiE (a b : Nat) (l : List (List K_isii)) : toBR (take a (drop b (l.map d_LisiiE))) = (take a (drop b l)).map b_LisiiE := by rw [← map_drop, ← map_take]; exact toBR_LisiiE _
theorem tb_LisiiE (l : List (List K_isii)) : toBR (take (l.map d_LisiiE).length (drop 0 (l.map d_LisiiE))) = l.map b_LisiiE := by rw [List.drop_zero, List.take_length]; exact toBR_LisiiE l
theorem lenB_LisiiE (l : List (List K_isii)) : ∀ r ∈ l.map b_LisiiE, r.length = 1 := by intro r h; obtain ⟨x, _, rfl⟩ := List.mem_map.1 h; rfl
theorem lenD_LisiiE (l : List (List K_isii)) : ∀ r ∈ l.map d_LisiiE, r.length = 1 := by intro r h; obtain ⟨x, _, rfl⟩ := List.mem_map.1 h; rfl
def ok_LisiiE (x : (List K_isii)) : Prop := (length x * 40 ≤ 140737488351232)
def os_LisiiE (x : (List K_isii)) : Prop := (length x * 40 ≤ 140737488351232) ∧ (∀ z ∈ x, os_isii z)
theorem os_ok_LisiiE (x : (List K_isii)) (h : os_LisiiE x) : ok_LisiiE x := h.1
theorem gos_LisiiE {l : List (List K_isii)} (h : ∀ z ∈ l, os_LisiiE z) (n : Nat) (d : (List K_isii)) (hd : os_LisiiE d) : os_LisiiE (l.getD n d) := by
 rw [List.getD_eq_getElem?_getD]; cases h2 : l[n]? with
 | none => simpa using hd
 | some x => exact h x (List.mem_of_getElem? h2)
theorem gok_LisiiE {l : List (List K_isii)} (h : ∀ z ∈ l, ok_LisiiE z) (n : Nat) (d : (List K_isii)) (hd : ok_LisiiE d) : ok_LisiiE (l.getD n d) := by
 rw [List.getD_eq_getElem?_getD]; cases h2 : l[n]? with
 | none => simpa using hd
 | some x => exact h x (List.mem_of_getElem? h2)
attribute [local simp] strInts_len byteRows_len toBR_y fullR_y pureR_y lenB_y lenD_y fromBR_y copy_y toBR_LyE fullR_LyE pureR_LyE lenB_LyE lenD_LyE toBR_b fullR_b pureR_b lenB_b lenD_b fromBR_b copy_b toBR_isii fullR_isii pureR_isii lenB_isii lenD_isii fromBR_isii copy_isii toBR_iiLisiiE fullR_iiLisiiE pureR_iiLisiiE lenB_iiLisiiE lenD_iiLisiiE toBR_i fullR_i pureR_i lenB_i lenD_i fromBR_i copy_i toBR_LLyEE fullR_LLyEE pureR_LLyEE lenB_LLyEE lenD_LLyEE toBR_s fullR_s pureR_s lenB_s lenD_s fromBR_s copy_s toBR_LisiiE fullR_LisiiE pureR_LisiiE lenB_LisiiE lenD_LisiiE
def m116 (a0 : Int) : (List Int) :=
 [(IntKind.wrap .u8 ((Int.fdiv a0 (2 ^ (min (Int.toNat 24) (IntKind.bits .i64)))))), (IntKind.wrap .u8 ((Int.fdiv a0 (2 ^ (min (Int.toNat 16) (IntKind.bits .i64)))))), (IntKind.wrap .u8 ((Int.fdiv a0 (2 ^ (min (Int.toNat 8) (IntKind.bits .i64)))))), (IntKind.wrap .u8 (a0))]
theorem e116 {a0 : Int} : Ev F X (.call 116 [(.one (.val (.int .i64 a0)))] [] [] [(.one (.own 1 (map d_y (m116 a0))))]) := by
 have f0 : 0 ≤ (24 : Int) := (by omega)
 have f1 : 0 ≤ (16 : Int) := (by omega)
 have f2 : 0 ≤ (8 : Int) := (by omega)
 have f5 : pureR [[(.val (.int .u8 (IntKind.wrap .u8 ((Int.fdiv a0 (2 ^ (min (Int.toNat 24) (IntKind.bits .i64))))))))], [(.val (.int .u8 (IntKind.wrap .u8 ((Int.fdiv a0 (2 ^ (min (Int.toNat 16) (IntKind.bits .i64))))))))], [(.val (.int .u8 (IntKind.wrap .u8 ((Int.fdiv a0 (2 ^ (min (Int.toNat 8) (IntKind.bits .i64))))))))], [(.val (.int .u8 (IntKind.wrap .u8 (a0))))]] = true := (by simp only [List.drop_zero, tbr, tsi, ly_y, ly0_y, ← List.map_append, List.take_length, List.cons_append, List.nil_append, append_assoc, toBR_y, fullR_y, pureR_y, copy_y, ints_y]; done)
 exact cp (by kernel_rfl) (.f f0 (.f f1 (.f f2 (.e 0 (.e 4 (.f f5 .nil))))))
theorem four_len (a : Int) : length (m116 a) = 4 := rfl
theorem gb {l : List Int} (h : ∀ z ∈ l, (0 : Int) ≤ z ∧ z ≤ 255) (i : Nat) : 0 ≤ getD l i 0 ∧ getD l i 0 ≤ 255 := by
 rw [List.getD_eq_getElem?_getD]
 cases e : l[i]? with
 | none => exact ⟨Int.le_refl _, by decide⟩
 | some z => exact h z (List.mem_of_getElem? e)
theorem gtd {l : List Int} (h : ∀ z ∈ l, (0 : Int) ≤ z ∧ z ≤ 255) (m n : Nat) : ∀ z ∈ take m (drop n l), (0 : Int) ≤ z ∧ z ≤ 255 := fun z hz => h z (List.mem_of_mem_drop (List.mem_of_mem_take hz))
theorem gdr {l : List Int} (h : ∀ z ∈ l, (0 : Int) ≤ z ∧ z ≤ 255) (n : Nat) : ∀ z ∈ drop n l, (0 : Int) ≤ z ∧ z ≤ 255 := fun z hz => h z (List.mem_of_mem_drop hz)
theorem bo_size (l : List Int) : ByteArray.size (bytesOf l) = l.length := by simp [bytesOf, ByteArray.size]
theorem nums (a0 : List Int) (hb : ∀ z ∈ a0, (0 : Int) ≤ z ∧ z ≤ 255) : (0 ≤ getD a0 0 0 ∧ getD a0 0 0 ≤ 255) ∧ (0 ≤ getD (take (Int.toNat (w64 (1 + (w64 ((getD a0 0 0))))) - Int.toNat 1) (drop 1 a0)) 1 0 ∧ getD (take (Int.toNat (w64 (1 + (w64 ((getD a0 0 0))))) - Int.toNat 1) (drop 1 a0)) 1 0 ≤ 255) ∧ (w64 ((getD a0 0 0))) = getD a0 0 0 ∧ (w64 (1 + (w64 ((getD a0 0 0))))) = 1 + getD a0 0 0 ∧ (w64 ((w64 (1 + (w64 ((getD a0 0 0))))) + 2)) = 3 + getD a0 0 0 ∧ (w64 ((w64 ((getD a0 0 0))) + 3)) = 3 + getD a0 0 0 ∧ (w64 ((getD (take (Int.toNat (w64 (1 + (w64 ((getD a0 0 0))))) - Int.toNat 1) (drop 1 a0)) 1 0))) = getD (take (Int.toNat (w64 (1 + (w64 ((getD a0 0 0))))) - Int.toNat 1) (drop 1 a0)) 1 0 ∧ (w64 (2 + (w64 ((getD (take (Int.toNat (w64 (1 + (w64 ((getD a0 0 0))))) - Int.toNat 1) (drop 1 a0)) 1 0))))) = 2 + getD (take (Int.toNat (w64 (1 + (w64 ((getD a0 0 0))))) - Int.toNat 1) (drop 1 a0)) 1 0 ∧ (w64 ((w64 (2 + (w64 ((getD (take (Int.toNat (w64 (1 + (w64 ((getD a0 0 0))))) - Int.toNat 1) (drop 1 a0)) 1 0))))) + 8)) = 10 + getD (take (Int.toNat (w64 (1 + (w64 ((getD a0 0 0))))) - Int.toNat 1) (drop 1 a0)) 1 0 ∧ (w64 ((w64 (2 + (w64 ((getD (take (Int.toNat (w64 (1 + (w64 ((getD a0 0 0))))) - Int.toNat 1) (drop 1 a0)) 1 0))))) + 4)) = 6 + getD (take (Int.toNat (w64 (1 + (w64 ((getD a0 0 0))))) - Int.toNat 1) (drop 1 a0)) 1 0 ∧ (w64 (6 + (w64 ((getD (take (Int.toNat (w64 (1 + (w64 ((getD a0 0 0))))) - Int.toNat 1) (drop 1 a0)) 1 0))))) = 6 + getD (take (Int.toNat (w64 (1 + (w64 ((getD a0 0 0))))) - Int.toNat 1) (drop 1 a0)) 1 0 ∧ (w64 (10 + (w64 ((getD (take (Int.toNat (w64 (1 + (w64 ((getD a0 0 0))))) - Int.toNat 1) (drop 1 a0)) 1 0))))) = 10 + getD (take (Int.toNat (w64 (1 + (w64 ((getD a0 0 0))))) - Int.toNat 1) (drop 1 a0)) 1 0 := by
 have g0 := gb hb 0
 have g1 := gb (gtd hb (Int.toNat (w64 (1 + (w64 ((getD a0 0 0))))) - Int.toNat 1) 1) 1
 generalize getD a0 0 0 = d at *
 generalize getD (take (Int.toNat (w64 (1 + (w64 (d)))) - Int.toNat 1) (drop 1 a0)) 1 0 = b at *
 have e0 : w64 d = d := wrap64 (by omega)
 have e4 : w64 b = b := wrap64 (by omega)
 have w1 : w64 (1 + d) = 1 + d := wrap64 (by omega)
 have w5 : w64 (2 + b) = 2 + b := wrap64 (by omega)
 rw [e0, e4, w1, w5]
 refine ⟨g0, g1, rfl, rfl, ?_, ?_, rfl, rfl, ?_, ?_, ?_, ?_⟩ <;> (rw [wrap64 (by omega)]; try omega)
inductive O117_0 where
 | k0 (w0 : Int) (w1 : Int) (w2 : Bool)
def r117_0 (a0 : (List Int)) : List Int → Int → Int → O117_0
 | x0 :: y0, i, v0 =>
  (r117_0 a0 y0 (i + 1) (Int.tmod (w64 ((w64 ((w64 (v0 * 33)) + (w64 (x0)))) + 1)) 2147483647))
 | [], i, v0 => (O117_0.k0 v0 i (decide (i < ((length (map b_y a0)) : Int))))
def h117_0 (l0_0 : Nat) (a0 : (List Int)) (i : Int) (v0 : Int) : St := ⟨[(0, (.one (.bor l0_0 (map b_y a0)))), (3, (.one (.val (.int .i64 v0)))), (4, (.one (.val (.int .i64 i))))], []⟩
def ex117_0 : O117_0 → VX.Exit
 | .k0 _ _ _ => (.exit 0)
def fin117_0 (l0_0 : Nat) (a0 : (List Int)) : O117_0 → St
 | .k0 w0 w1 w2 => ⟨[(0, (.one (.bor l0_0 (map b_y a0)))), (3, (.one (.val (.int .i64 w0)))), (4, (.one (.val (.int .i64 w1)))), (8, (.one (.val (.bool w2))))], []⟩
theorem t117_0 {l0_0 : Nat} {a0 : (List Int)} (hy0 : length a0 * 1 ≤ 140737488351232) : ∀ (y0 : List Int) (p : List Int) (v0 : Int), p ++ y0 = a0 → Ev F X (.code l117_0 (h117_0 l0_0 a0 (length p : Int) v0) (ex117_0 (r117_0 a0 y0 (length p : Int) v0)) (fin117_0 l0_0 a0 (r117_0 a0 y0 (length p : Int) v0)))
 | [], p, v0, hp0 => by
  have hc : ¬ (decide ((length p : Int) < ((length (map b_y a0)) : Int))) = true := by
   rw [← hp0]; simp only [length_map, length_set, length_append, length_replicate, length_cons, length_nil, decide_eq_true_eq]; omega
  have st := ch b117_0 [(8, .b false)] (h117_0 l0_0 a0 (length p : Int) v0) (fin117_0 l0_0 a0 (.k0 v0 (length p : Int) (decide ((length p : Int) < ((length (map b_y a0)) : Int))))) (.exit 0) 9 [(decide ((length p : Int) < ((length (map b_y a0)) : Int))) = false] (by kernel_rfl) ⟨(nt hc), trivial⟩
  exact .loopX st (show ((.exit 0) : VX.Exit) ≠ .normal from by simp)
 | x0 :: y0, p, v0, hp0 => by
  have hc : (decide ((length p : Int) < ((length (map b_y a0)) : Int))) = true := lt1 hp0
  have Hx0 : (a0)[Int.toNat (length p : Int)]? = some x0 := by
   rw [← hp0, Int.toNat_natCast]; simp
  have hlen : length (a0) = length p + length y0 + 1 := by rw [← hp0]; simp; omega
  have hw : w64 ((length p : Int) + 1) = (length p : Int) + 1 := wrap64 (by omega)
  simp only [r117_0]
  have st := ch b117_0 [(8, .b true), (18, .row [(.val (.int .u8 x0))])] (h117_0 l0_0 a0 (length p : Int) v0) ⟨[(0, (.one (.bor l0_0 (map b_y a0)))), (3, (.oi (Int.tmod (w64 ((w64 ((w64 (v0 * 33)) + (w64 (x0)))) + 1)) 2147483647))), (4, (.oi (w64 ((length p : Int) + 1))))], []⟩ .normal 37 [(decide ((length p : Int) < ((length (map b_y a0)) : Int))) = true, 0 ≤ (length p : Int), (map b_y a0)[(Int.toNat (length p : Int))]? = some [(.val (.int .u8 x0))], True, True, (2147483647 : Int) ≠ 0, True] (by kernel_rfl) ⟨hc, (by omega), (by rw [getElem?_map, Hx0]; rfl), trivial, trivial, (by omega), trivial, trivial⟩
  have ih := t117_0 (l0_0 := l0_0) (a0 := a0) hy0 y0 (p ++ [x0]) (Int.tmod (w64 ((w64 ((w64 (v0 * 33)) + (w64 (x0)))) + 1)) 2147483647) (by rw [append_assoc]; exact hp0)
  rw [show ((p ++ [x0]).length : Int) = (p.length : Int) + 1 from by simp] at ih
  replace st := to_ (s' := h117_0 l0_0 a0 ((length p : Int) + 1) (Int.tmod (w64 ((w64 ((w64 (v0 * 33)) + (w64 (x0)))) + 1)) 2147483647)) st (by unfold h117_0; simp only [hw]; done)
  exact .loopN st ih
def m117 (a0 : (List Int)) : Int :=
 (match r117_0 a0 a0 0 5381 with | .k0 w0_0 w1_0 w2_0 => w0_0)
theorem e117 {l0_0 : Nat} {a0 : (List Int)} (hy0 : length a0 * 1 ≤ 140737488351232) : Ev F X (.call 117 [(.one (.bor l0_0 (map b_y a0)))] [] [] [(.one (.val (.int .i64 (m117 a0))))]) := by
 unfold m117
 cases h0 : r117_0 a0 a0 0 5381 with
 | k0 w0_0 w1_0 w2_0 =>
  try dsimp only
  have f0 : (⟨[(0, (.one (.bor l0_0 (map b_y a0)))), (3, (.oi 5381)), (4, (.oi 0))], []⟩ : St) = h117_0 l0_0 a0 0 5381 := (by rfl)
  have f1 : Ev F X (.code l117_0 (h117_0 l0_0 a0 0 5381) (.exit 0) ⟨[(0, (.one (.bor l0_0 (map b_y a0)))), (3, (.oi w0_0)), (4, (.oi w1_0)), (8, (.one (.val (.bool w2_0))))], []⟩) := (by have t : Ev F X (.code l117_0 (h117_0 l0_0 a0 0 5381) (ex117_0 (r117_0 a0 a0 0 5381)) (fin117_0 l0_0 a0 (r117_0 a0 a0 0 5381))) := t117_0 (l0_0 := l0_0) (a0 := a0) (by assumption) a0 [] 5381 rfl; rw [h0] at t; exact t)
  exact cp (by kernel_rfl) (.f f0 (.f f1 (.h 6 (.loop (h117_0 l0_0 a0 0 5381) (.exit 0) ⟨[(0, (.one (.bor l0_0 (map b_y a0)))), (3, (.oi w0_0)), (4, (.oi w1_0)), (8, (.one (.val (.bool w2_0))))], []⟩) .nil)))
def m63 (a0 : K_isii) : (List Int) :=
 ((([(IntKind.wrap .u8 (((length ((take (length ((take (length (([[(.val (.int .u8 (IntKind.wrap .u8 (a0.f0))))], [(.val (.int .u8 (IntKind.wrap .u8 ((ByteArray.size a0.f1 : Int)))))]] : List (List D)) ++ (take (ByteArray.size a0.f1) (drop 0 (byteRows a0.f1))))) (drop 0 (map d_y (([(IntKind.wrap .u8 (a0.f0)), (IntKind.wrap .u8 ((ByteArray.size a0.f1 : Int)))]) ++ (strInts a0.f1))))) ++ (take (length (map d_y (m116 a0.f2))) (drop 0 (map d_y (m116 a0.f2)))))) (drop 0 ((take (length (([[(.val (.int .u8 (IntKind.wrap .u8 (a0.f0))))], [(.val (.int .u8 (IntKind.wrap .u8 ((ByteArray.size a0.f1 : Int)))))]] : List (List D)) ++ (take (ByteArray.size a0.f1) (drop 0 (byteRows a0.f1))))) (drop 0 (map d_y (([(IntKind.wrap .u8 (a0.f0)), (IntKind.wrap .u8 ((ByteArray.size a0.f1 : Int)))]) ++ (strInts a0.f1))))) ++ (take (length (map d_y (m116 a0.f2))) (drop 0 (map d_y (m116 a0.f2))))))) ++ (take (length (map d_y (m116 a0.f3))) (drop 0 (map d_y (m116 a0.f3)))))) : Int)))]) ++ (((([(IntKind.wrap .u8 (a0.f0)), (IntKind.wrap .u8 ((ByteArray.size a0.f1 : Int)))]) ++ (strInts a0.f1)) ++ (m116 a0.f2)) ++ (m116 a0.f3))) ++ ([(IntKind.wrap .u8 ((Int.fdiv (m117 (((([(IntKind.wrap .u8 (a0.f0)), (IntKind.wrap .u8 ((ByteArray.size a0.f1 : Int)))]) ++ (strInts a0.f1)) ++ (m116 a0.f2)) ++ (m116 a0.f3))) (2 ^ (min (Int.toNat 8) (IntKind.bits .i64)))))), (IntKind.wrap .u8 ((m117 (((([(IntKind.wrap .u8 (a0.f0)), (IntKind.wrap .u8 ((ByteArray.size a0.f1 : Int)))]) ++ (strInts a0.f1)) ++ (m116 a0.f2)) ++ (m116 a0.f3)))))]))
theorem e63 {l0 : Nat} {a0 : K_isii} (hy0 : ByteArray.size a0.f1 ≤ 1000) : Ev F X (.call 63 [(.bptr l0 [(.val (.int .i64 a0.f0)), (.val (.string a0.f1)), (.val (.int .i64 a0.f2)), (.val (.int .i64 a0.f3))])] [] [] [(.one (.own 1 (map d_y (m63 a0))))]) := by
 have f0 : ByteArray.size a0.f1 ≤ 140737488355328 := (by omega)
 have f1 : 0 + 2 ≤ 2 := (by omega)
 have f2 : 0 + (ByteArray.size a0.f1) ≤ (length (byteRows a0.f1)) := (by simp [take_of_length_le, four_len]; done)
 have f3 : ((take (ByteArray.size a0.f1) (drop 0 (byteRows a0.f1))).all fun x => x.all copyable) = true := (by simp only [List.drop_zero, tbr, tsi, ly_y, ly0_y, ← List.map_append, List.take_length, List.cons_append, List.nil_append, append_assoc, toBR_y, fullR_y, pureR_y, copy_y, ints_y]; done)
 have f4 : (length (([[(.val (.int .u8 (IntKind.wrap .u8 (a0.f0))))], [(.val (.int .u8 (IntKind.wrap .u8 ((ByteArray.size a0.f1 : Int)))))]] : List (List D)) ++ (take (ByteArray.size a0.f1) (drop 0 (byteRows a0.f1))))) * 1 ≤ 70368744177664 := (by simp only [length_append, length_cons, length_nil, length_take, length_drop]; omega)
 have f5 : ∀ r ∈ ((take (ByteArray.size a0.f1) (drop 0 (byteRows a0.f1))) : List (List D)), r.length = 1 := (by simp only [List.drop_zero, tbr, tsi, ly_y, ly0_y, ← List.map_append, List.take_length, List.cons_append, List.nil_append, append_assoc]; exact lenD_y _)
 have f6 : (([[(.val (.int .u8 (IntKind.wrap .u8 (a0.f0))))], [(.val (.int .u8 (IntKind.wrap .u8 ((ByteArray.size a0.f1 : Int)))))]] : List (List D)) ++ (take (ByteArray.size a0.f1) (drop 0 (byteRows a0.f1)))) = (map d_y (([(IntKind.wrap .u8 (a0.f0)), (IntKind.wrap .u8 ((ByteArray.size a0.f1 : Int)))]) ++ (strInts a0.f1))) := (by simp only [List.drop_zero, tbr, tsi, ly_y, ly0_y, ← List.map_append, List.take_length, List.cons_append, List.nil_append, append_assoc]; done)
 have f7 := e116 (a0 := a0.f2)
 have f8 : 0 + (length (([[(.val (.int .u8 (IntKind.wrap .u8 (a0.f0))))], [(.val (.int .u8 (IntKind.wrap .u8 ((ByteArray.size a0.f1 : Int)))))]] : List (List D)) ++ (take (ByteArray.size a0.f1) (drop 0 (byteRows a0.f1))))) ≤ (length (map d_y (([(IntKind.wrap .u8 (a0.f0)), (IntKind.wrap .u8 ((ByteArray.size a0.f1 : Int)))]) ++ (strInts a0.f1)))) := (by simp only [List.drop_zero, tbr, tsi, ly_y, ly0_y, ← List.map_append, List.take_length, List.cons_append, List.nil_append, append_assoc]; simp only [length_map, length_append, length_cons, length_nil, strInts_len, four_len]; omega)
 have f9 : 0 + (length (map d_y (m116 a0.f2))) ≤ (length (map d_y (m116 a0.f2))) := (by omega)
 have f10 : ((take (length (map d_y (m116 a0.f2))) (drop 0 (map d_y (m116 a0.f2)))).all fun x => x.all copyable) = true := (ct_y _ _ _)
 have f11 : (length ((take (length (([[(.val (.int .u8 (IntKind.wrap .u8 (a0.f0))))], [(.val (.int .u8 (IntKind.wrap .u8 ((ByteArray.size a0.f1 : Int)))))]] : List (List D)) ++ (take (ByteArray.size a0.f1) (drop 0 (byteRows a0.f1))))) (drop 0 (map d_y (([(IntKind.wrap .u8 (a0.f0)), (IntKind.wrap .u8 ((ByteArray.size a0.f1 : Int)))]) ++ (strInts a0.f1))))) ++ (take (length (map d_y (m116 a0.f2))) (drop 0 (map d_y (m116 a0.f2)))))) * 1 ≤ 70368744177664 := (by unfold m116; (repeat' split) <;> simp_all <;> omega)
 have f12 : ∀ r ∈ ((take (length (map d_y (m116 a0.f2))) (drop 0 (map d_y (m116 a0.f2)))) : List (List D)), r.length = 1 := (by simp only [List.drop_zero, tbr, tsi, ly_y, ly0_y, ← List.map_append, List.take_length, List.cons_append, List.nil_append, append_assoc]; exact lenD_y _)
 have f13 := e116 (a0 := a0.f3)
 have f14 : 0 + (length ((take (length (([[(.val (.int .u8 (IntKind.wrap .u8 (a0.f0))))], [(.val (.int .u8 (IntKind.wrap .u8 ((ByteArray.size a0.f1 : Int)))))]] : List (List D)) ++ (take (ByteArray.size a0.f1) (drop 0 (byteRows a0.f1))))) (drop 0 (map d_y (([(IntKind.wrap .u8 (a0.f0)), (IntKind.wrap .u8 ((ByteArray.size a0.f1 : Int)))]) ++ (strInts a0.f1))))) ++ (take (length (map d_y (m116 a0.f2))) (drop 0 (map d_y (m116 a0.f2)))))) ≤ (length ((take (length (([[(.val (.int .u8 (IntKind.wrap .u8 (a0.f0))))], [(.val (.int .u8 (IntKind.wrap .u8 ((ByteArray.size a0.f1 : Int)))))]] : List (List D)) ++ (take (ByteArray.size a0.f1) (drop 0 (byteRows a0.f1))))) (drop 0 (map d_y (([(IntKind.wrap .u8 (a0.f0)), (IntKind.wrap .u8 ((ByteArray.size a0.f1 : Int)))]) ++ (strInts a0.f1))))) ++ (take (length (map d_y (m116 a0.f2))) (drop 0 (map d_y (m116 a0.f2)))))) := (by omega)
 have f15 : 0 + (length (map d_y (m116 a0.f3))) ≤ (length (map d_y (m116 a0.f3))) := (by omega)
 have f16 : ((take (length (map d_y (m116 a0.f3))) (drop 0 (map d_y (m116 a0.f3)))).all fun x => x.all copyable) = true := (ct_y _ _ _)
 have f17 : (length ((take (length ((take (length (([[(.val (.int .u8 (IntKind.wrap .u8 (a0.f0))))], [(.val (.int .u8 (IntKind.wrap .u8 ((ByteArray.size a0.f1 : Int)))))]] : List (List D)) ++ (take (ByteArray.size a0.f1) (drop 0 (byteRows a0.f1))))) (drop 0 (map d_y (([(IntKind.wrap .u8 (a0.f0)), (IntKind.wrap .u8 ((ByteArray.size a0.f1 : Int)))]) ++ (strInts a0.f1))))) ++ (take (length (map d_y (m116 a0.f2))) (drop 0 (map d_y (m116 a0.f2)))))) (drop 0 ((take (length (([[(.val (.int .u8 (IntKind.wrap .u8 (a0.f0))))], [(.val (.int .u8 (IntKind.wrap .u8 ((ByteArray.size a0.f1 : Int)))))]] : List (List D)) ++ (take (ByteArray.size a0.f1) (drop 0 (byteRows a0.f1))))) (drop 0 (map d_y (([(IntKind.wrap .u8 (a0.f0)), (IntKind.wrap .u8 ((ByteArray.size a0.f1 : Int)))]) ++ (strInts a0.f1))))) ++ (take (length (map d_y (m116 a0.f2))) (drop 0 (map d_y (m116 a0.f2))))))) ++ (take (length (map d_y (m116 a0.f3))) (drop 0 (map d_y (m116 a0.f3)))))) * 1 ≤ 70368744177664 := (by unfold m116; (repeat' split) <;> simp_all <;> omega)
 have f18 : ∀ r ∈ ((take (length (map d_y (m116 a0.f3))) (drop 0 (map d_y (m116 a0.f3)))) : List (List D)), r.length = 1 := (by simp only [List.drop_zero, tbr, tsi, ly_y, ly0_y, ← List.map_append, List.take_length, List.cons_append, List.nil_append, append_assoc]; exact lenD_y _)
 have f19 : ((take (length ((take (length (([[(.val (.int .u8 (IntKind.wrap .u8 (a0.f0))))], [(.val (.int .u8 (IntKind.wrap .u8 ((ByteArray.size a0.f1 : Int)))))]] : List (List D)) ++ (take (ByteArray.size a0.f1) (drop 0 (byteRows a0.f1))))) (drop 0 (map d_y (([(IntKind.wrap .u8 (a0.f0)), (IntKind.wrap .u8 ((ByteArray.size a0.f1 : Int)))]) ++ (strInts a0.f1))))) ++ (take (length (map d_y (m116 a0.f2))) (drop 0 (map d_y (m116 a0.f2)))))) (drop 0 ((take (length (([[(.val (.int .u8 (IntKind.wrap .u8 (a0.f0))))], [(.val (.int .u8 (IntKind.wrap .u8 ((ByteArray.size a0.f1 : Int)))))]] : List (List D)) ++ (take (ByteArray.size a0.f1) (drop 0 (byteRows a0.f1))))) (drop 0 (map d_y (([(IntKind.wrap .u8 (a0.f0)), (IntKind.wrap .u8 ((ByteArray.size a0.f1 : Int)))]) ++ (strInts a0.f1))))) ++ (take (length (map d_y (m116 a0.f2))) (drop 0 (map d_y (m116 a0.f2))))))) ++ (take (length (map d_y (m116 a0.f3))) (drop 0 (map d_y (m116 a0.f3))))) = (map d_y (((([(IntKind.wrap .u8 (a0.f0)), (IntKind.wrap .u8 ((ByteArray.size a0.f1 : Int)))]) ++ (strInts a0.f1)) ++ (m116 a0.f2)) ++ (m116 a0.f3))) := (by simp only [List.drop_zero, tbr, tsi, ly_y, ly0_y, ← List.map_append, List.take_length, List.cons_append, List.nil_append, append_assoc]; done)
 have f20 : 0 + (length ((take (length ((take (length (([[(.val (.int .u8 (IntKind.wrap .u8 (a0.f0))))], [(.val (.int .u8 (IntKind.wrap .u8 ((ByteArray.size a0.f1 : Int)))))]] : List (List D)) ++ (take (ByteArray.size a0.f1) (drop 0 (byteRows a0.f1))))) (drop 0 (map d_y (([(IntKind.wrap .u8 (a0.f0)), (IntKind.wrap .u8 ((ByteArray.size a0.f1 : Int)))]) ++ (strInts a0.f1))))) ++ (take (length (map d_y (m116 a0.f2))) (drop 0 (map d_y (m116 a0.f2)))))) (drop 0 ((take (length (([[(.val (.int .u8 (IntKind.wrap .u8 (a0.f0))))], [(.val (.int .u8 (IntKind.wrap .u8 ((ByteArray.size a0.f1 : Int)))))]] : List (List D)) ++ (take (ByteArray.size a0.f1) (drop 0 (byteRows a0.f1))))) (drop 0 (map d_y (([(IntKind.wrap .u8 (a0.f0)), (IntKind.wrap .u8 ((ByteArray.size a0.f1 : Int)))]) ++ (strInts a0.f1))))) ++ (take (length (map d_y (m116 a0.f2))) (drop 0 (map d_y (m116 a0.f2))))))) ++ (take (length (map d_y (m116 a0.f3))) (drop 0 (map d_y (m116 a0.f3)))))) ≤ (length (map d_y (((([(IntKind.wrap .u8 (a0.f0)), (IntKind.wrap .u8 ((ByteArray.size a0.f1 : Int)))]) ++ (strInts a0.f1)) ++ (m116 a0.f2)) ++ (m116 a0.f3)))) := (by simp only [List.drop_zero, tbr, tsi, ly_y, ly0_y, ← List.map_append, List.take_length, List.cons_append, List.nil_append, append_assoc]; simp only [length_map, length_append, length_cons, length_nil, strInts_len, four_len]; omega)
 have f21 : fullR (take (length ((take (length ((take (length (([[(.val (.int .u8 (IntKind.wrap .u8 (a0.f0))))], [(.val (.int .u8 (IntKind.wrap .u8 ((ByteArray.size a0.f1 : Int)))))]] : List (List D)) ++ (take (ByteArray.size a0.f1) (drop 0 (byteRows a0.f1))))) (drop 0 (map d_y (([(IntKind.wrap .u8 (a0.f0)), (IntKind.wrap .u8 ((ByteArray.size a0.f1 : Int)))]) ++ (strInts a0.f1))))) ++ (take (length (map d_y (m116 a0.f2))) (drop 0 (map d_y (m116 a0.f2)))))) (drop 0 ((take (length (([[(.val (.int .u8 (IntKind.wrap .u8 (a0.f0))))], [(.val (.int .u8 (IntKind.wrap .u8 ((ByteArray.size a0.f1 : Int)))))]] : List (List D)) ++ (take (ByteArray.size a0.f1) (drop 0 (byteRows a0.f1))))) (drop 0 (map d_y (([(IntKind.wrap .u8 (a0.f0)), (IntKind.wrap .u8 ((ByteArray.size a0.f1 : Int)))]) ++ (strInts a0.f1))))) ++ (take (length (map d_y (m116 a0.f2))) (drop 0 (map d_y (m116 a0.f2))))))) ++ (take (length (map d_y (m116 a0.f3))) (drop 0 (map d_y (m116 a0.f3)))))) (drop 0 (map d_y (((([(IntKind.wrap .u8 (a0.f0)), (IntKind.wrap .u8 ((ByteArray.size a0.f1 : Int)))]) ++ (strInts a0.f1)) ++ (m116 a0.f2)) ++ (m116 a0.f3))))) = true := (ft_y _ _ _)
 have f22 : toBR (take (length ((take (length ((take (length (([[(.val (.int .u8 (IntKind.wrap .u8 (a0.f0))))], [(.val (.int .u8 (IntKind.wrap .u8 ((ByteArray.size a0.f1 : Int)))))]] : List (List D)) ++ (take (ByteArray.size a0.f1) (drop 0 (byteRows a0.f1))))) (drop 0 (map d_y (([(IntKind.wrap .u8 (a0.f0)), (IntKind.wrap .u8 ((ByteArray.size a0.f1 : Int)))]) ++ (strInts a0.f1))))) ++ (take (length (map d_y (m116 a0.f2))) (drop 0 (map d_y (m116 a0.f2)))))) (drop 0 ((take (length (([[(.val (.int .u8 (IntKind.wrap .u8 (a0.f0))))], [(.val (.int .u8 (IntKind.wrap .u8 ((ByteArray.size a0.f1 : Int)))))]] : List (List D)) ++ (take (ByteArray.size a0.f1) (drop 0 (byteRows a0.f1))))) (drop 0 (map d_y (([(IntKind.wrap .u8 (a0.f0)), (IntKind.wrap .u8 ((ByteArray.size a0.f1 : Int)))]) ++ (strInts a0.f1))))) ++ (take (length (map d_y (m116 a0.f2))) (drop 0 (map d_y (m116 a0.f2))))))) ++ (take (length (map d_y (m116 a0.f3))) (drop 0 (map d_y (m116 a0.f3)))))) (drop 0 (map d_y (((([(IntKind.wrap .u8 (a0.f0)), (IntKind.wrap .u8 ((ByteArray.size a0.f1 : Int)))]) ++ (strInts a0.f1)) ++ (m116 a0.f2)) ++ (m116 a0.f3))))) = (map b_y (((([(IntKind.wrap .u8 (a0.f0)), (IntKind.wrap .u8 ((ByteArray.size a0.f1 : Int)))]) ++ (strInts a0.f1)) ++ (m116 a0.f2)) ++ (m116 a0.f3))) := (by simp only [List.drop_zero, tbr, tsi, ly_y, ly0_y, ← List.map_append, List.take_length, List.cons_append, List.nil_append, append_assoc, toBR_y, fullR_y, pureR_y, copy_y, ints_y]; done)
 have f23 := e117 (l0_0 := 0) (a0 := (((([(IntKind.wrap .u8 (a0.f0)), (IntKind.wrap .u8 ((ByteArray.size a0.f1 : Int)))]) ++ (strInts a0.f1)) ++ (m116 a0.f2)) ++ (m116 a0.f3))) (by unfold m116; (repeat' split) <;> simp_all <;> omega)
 have f24 : 0 + 1 ≤ 1 := (by omega)
 have f25 : 0 + (length ((take (length ((take (length (([[(.val (.int .u8 (IntKind.wrap .u8 (a0.f0))))], [(.val (.int .u8 (IntKind.wrap .u8 ((ByteArray.size a0.f1 : Int)))))]] : List (List D)) ++ (take (ByteArray.size a0.f1) (drop 0 (byteRows a0.f1))))) (drop 0 (map d_y (([(IntKind.wrap .u8 (a0.f0)), (IntKind.wrap .u8 ((ByteArray.size a0.f1 : Int)))]) ++ (strInts a0.f1))))) ++ (take (length (map d_y (m116 a0.f2))) (drop 0 (map d_y (m116 a0.f2)))))) (drop 0 ((take (length (([[(.val (.int .u8 (IntKind.wrap .u8 (a0.f0))))], [(.val (.int .u8 (IntKind.wrap .u8 ((ByteArray.size a0.f1 : Int)))))]] : List (List D)) ++ (take (ByteArray.size a0.f1) (drop 0 (byteRows a0.f1))))) (drop 0 (map d_y (([(IntKind.wrap .u8 (a0.f0)), (IntKind.wrap .u8 ((ByteArray.size a0.f1 : Int)))]) ++ (strInts a0.f1))))) ++ (take (length (map d_y (m116 a0.f2))) (drop 0 (map d_y (m116 a0.f2))))))) ++ (take (length (map d_y (m116 a0.f3))) (drop 0 (map d_y (m116 a0.f3)))))) ≤ (length (map d_y (((([(IntKind.wrap .u8 (a0.f0)), (IntKind.wrap .u8 ((ByteArray.size a0.f1 : Int)))]) ++ (strInts a0.f1)) ++ (m116 a0.f2)) ++ (m116 a0.f3)))) := (by simp only [List.drop_zero, tbr, tsi, ly_y, ly0_y, ← List.map_append, List.take_length, List.cons_append, List.nil_append, append_assoc]; simp only [length_map, length_append, length_cons, length_nil, strInts_len, four_len]; omega)
 have f26 : ((take (length ((take (length ((take (length (([[(.val (.int .u8 (IntKind.wrap .u8 (a0.f0))))], [(.val (.int .u8 (IntKind.wrap .u8 ((ByteArray.size a0.f1 : Int)))))]] : List (List D)) ++ (take (ByteArray.size a0.f1) (drop 0 (byteRows a0.f1))))) (drop 0 (map d_y (([(IntKind.wrap .u8 (a0.f0)), (IntKind.wrap .u8 ((ByteArray.size a0.f1 : Int)))]) ++ (strInts a0.f1))))) ++ (take (length (map d_y (m116 a0.f2))) (drop 0 (map d_y (m116 a0.f2)))))) (drop 0 ((take (length (([[(.val (.int .u8 (IntKind.wrap .u8 (a0.f0))))], [(.val (.int .u8 (IntKind.wrap .u8 ((ByteArray.size a0.f1 : Int)))))]] : List (List D)) ++ (take (ByteArray.size a0.f1) (drop 0 (byteRows a0.f1))))) (drop 0 (map d_y (([(IntKind.wrap .u8 (a0.f0)), (IntKind.wrap .u8 ((ByteArray.size a0.f1 : Int)))]) ++ (strInts a0.f1))))) ++ (take (length (map d_y (m116 a0.f2))) (drop 0 (map d_y (m116 a0.f2))))))) ++ (take (length (map d_y (m116 a0.f3))) (drop 0 (map d_y (m116 a0.f3)))))) (drop 0 (map d_y (((([(IntKind.wrap .u8 (a0.f0)), (IntKind.wrap .u8 ((ByteArray.size a0.f1 : Int)))]) ++ (strInts a0.f1)) ++ (m116 a0.f2)) ++ (m116 a0.f3))))).all fun x => x.all copyable) = true := (ct_y _ _ _)
 have f27 : (length (([[(.val (.int .u8 (IntKind.wrap .u8 (((length ((take (length ((take (length (([[(.val (.int .u8 (IntKind.wrap .u8 (a0.f0))))], [(.val (.int .u8 (IntKind.wrap .u8 ((ByteArray.size a0.f1 : Int)))))]] : List (List D)) ++ (take (ByteArray.size a0.f1) (drop 0 (byteRows a0.f1))))) (drop 0 (map d_y (([(IntKind.wrap .u8 (a0.f0)), (IntKind.wrap .u8 ((ByteArray.size a0.f1 : Int)))]) ++ (strInts a0.f1))))) ++ (take (length (map d_y (m116 a0.f2))) (drop 0 (map d_y (m116 a0.f2)))))) (drop 0 ((take (length (([[(.val (.int .u8 (IntKind.wrap .u8 (a0.f0))))], [(.val (.int .u8 (IntKind.wrap .u8 ((ByteArray.size a0.f1 : Int)))))]] : List (List D)) ++ (take (ByteArray.size a0.f1) (drop 0 (byteRows a0.f1))))) (drop 0 (map d_y (([(IntKind.wrap .u8 (a0.f0)), (IntKind.wrap .u8 ((ByteArray.size a0.f1 : Int)))]) ++ (strInts a0.f1))))) ++ (take (length (map d_y (m116 a0.f2))) (drop 0 (map d_y (m116 a0.f2))))))) ++ (take (length (map d_y (m116 a0.f3))) (drop 0 (map d_y (m116 a0.f3)))))) : Int)))))]] : List (List D)) ++ (take (length ((take (length ((take (length (([[(.val (.int .u8 (IntKind.wrap .u8 (a0.f0))))], [(.val (.int .u8 (IntKind.wrap .u8 ((ByteArray.size a0.f1 : Int)))))]] : List (List D)) ++ (take (ByteArray.size a0.f1) (drop 0 (byteRows a0.f1))))) (drop 0 (map d_y (([(IntKind.wrap .u8 (a0.f0)), (IntKind.wrap .u8 ((ByteArray.size a0.f1 : Int)))]) ++ (strInts a0.f1))))) ++ (take (length (map d_y (m116 a0.f2))) (drop 0 (map d_y (m116 a0.f2)))))) (drop 0 ((take (length (([[(.val (.int .u8 (IntKind.wrap .u8 (a0.f0))))], [(.val (.int .u8 (IntKind.wrap .u8 ((ByteArray.size a0.f1 : Int)))))]] : List (List D)) ++ (take (ByteArray.size a0.f1) (drop 0 (byteRows a0.f1))))) (drop 0 (map d_y (([(IntKind.wrap .u8 (a0.f0)), (IntKind.wrap .u8 ((ByteArray.size a0.f1 : Int)))]) ++ (strInts a0.f1))))) ++ (take (length (map d_y (m116 a0.f2))) (drop 0 (map d_y (m116 a0.f2))))))) ++ (take (length (map d_y (m116 a0.f3))) (drop 0 (map d_y (m116 a0.f3)))))) (drop 0 (map d_y (((([(IntKind.wrap .u8 (a0.f0)), (IntKind.wrap .u8 ((ByteArray.size a0.f1 : Int)))]) ++ (strInts a0.f1)) ++ (m116 a0.f2)) ++ (m116 a0.f3))))))) * 1 ≤ 70368744177664 := (by unfold m116; (repeat' split) <;> simp_all <;> omega)
 have f28 : ∀ r ∈ ((take (length ((take (length ((take (length (([[(.val (.int .u8 (IntKind.wrap .u8 (a0.f0))))], [(.val (.int .u8 (IntKind.wrap .u8 ((ByteArray.size a0.f1 : Int)))))]] : List (List D)) ++ (take (ByteArray.size a0.f1) (drop 0 (byteRows a0.f1))))) (drop 0 (map d_y (([(IntKind.wrap .u8 (a0.f0)), (IntKind.wrap .u8 ((ByteArray.size a0.f1 : Int)))]) ++ (strInts a0.f1))))) ++ (take (length (map d_y (m116 a0.f2))) (drop 0 (map d_y (m116 a0.f2)))))) (drop 0 ((take (length (([[(.val (.int .u8 (IntKind.wrap .u8 (a0.f0))))], [(.val (.int .u8 (IntKind.wrap .u8 ((ByteArray.size a0.f1 : Int)))))]] : List (List D)) ++ (take (ByteArray.size a0.f1) (drop 0 (byteRows a0.f1))))) (drop 0 (map d_y (([(IntKind.wrap .u8 (a0.f0)), (IntKind.wrap .u8 ((ByteArray.size a0.f1 : Int)))]) ++ (strInts a0.f1))))) ++ (take (length (map d_y (m116 a0.f2))) (drop 0 (map d_y (m116 a0.f2))))))) ++ (take (length (map d_y (m116 a0.f3))) (drop 0 (map d_y (m116 a0.f3)))))) (drop 0 (map d_y (((([(IntKind.wrap .u8 (a0.f0)), (IntKind.wrap .u8 ((ByteArray.size a0.f1 : Int)))]) ++ (strInts a0.f1)) ++ (m116 a0.f2)) ++ (m116 a0.f3))))) : List (List D)), r.length = 1 := (by simp only [List.drop_zero, tbr, tsi, ly_y, ly0_y, ← List.map_append, List.take_length, List.cons_append, List.nil_append, append_assoc]; exact lenD_y _)
 have f29 : 0 ≤ (8 : Int) := (by omega)
 have f30 : 0 + (length (([[(.val (.int .u8 (IntKind.wrap .u8 (((length ((take (length ((take (length (([[(.val (.int .u8 (IntKind.wrap .u8 (a0.f0))))], [(.val (.int .u8 (IntKind.wrap .u8 ((ByteArray.size a0.f1 : Int)))))]] : List (List D)) ++ (take (ByteArray.size a0.f1) (drop 0 (byteRows a0.f1))))) (drop 0 (map d_y (([(IntKind.wrap .u8 (a0.f0)), (IntKind.wrap .u8 ((ByteArray.size a0.f1 : Int)))]) ++ (strInts a0.f1))))) ++ (take (length (map d_y (m116 a0.f2))) (drop 0 (map d_y (m116 a0.f2)))))) (drop 0 ((take (length (([[(.val (.int .u8 (IntKind.wrap .u8 (a0.f0))))], [(.val (.int .u8 (IntKind.wrap .u8 ((ByteArray.size a0.f1 : Int)))))]] : List (List D)) ++ (take (ByteArray.size a0.f1) (drop 0 (byteRows a0.f1))))) (drop 0 (map d_y (([(IntKind.wrap .u8 (a0.f0)), (IntKind.wrap .u8 ((ByteArray.size a0.f1 : Int)))]) ++ (strInts a0.f1))))) ++ (take (length (map d_y (m116 a0.f2))) (drop 0 (map d_y (m116 a0.f2))))))) ++ (take (length (map d_y (m116 a0.f3))) (drop 0 (map d_y (m116 a0.f3)))))) : Int)))))]] : List (List D)) ++ (take (length ((take (length ((take (length (([[(.val (.int .u8 (IntKind.wrap .u8 (a0.f0))))], [(.val (.int .u8 (IntKind.wrap .u8 ((ByteArray.size a0.f1 : Int)))))]] : List (List D)) ++ (take (ByteArray.size a0.f1) (drop 0 (byteRows a0.f1))))) (drop 0 (map d_y (([(IntKind.wrap .u8 (a0.f0)), (IntKind.wrap .u8 ((ByteArray.size a0.f1 : Int)))]) ++ (strInts a0.f1))))) ++ (take (length (map d_y (m116 a0.f2))) (drop 0 (map d_y (m116 a0.f2)))))) (drop 0 ((take (length (([[(.val (.int .u8 (IntKind.wrap .u8 (a0.f0))))], [(.val (.int .u8 (IntKind.wrap .u8 ((ByteArray.size a0.f1 : Int)))))]] : List (List D)) ++ (take (ByteArray.size a0.f1) (drop 0 (byteRows a0.f1))))) (drop 0 (map d_y (([(IntKind.wrap .u8 (a0.f0)), (IntKind.wrap .u8 ((ByteArray.size a0.f1 : Int)))]) ++ (strInts a0.f1))))) ++ (take (length (map d_y (m116 a0.f2))) (drop 0 (map d_y (m116 a0.f2))))))) ++ (take (length (map d_y (m116 a0.f3))) (drop 0 (map d_y (m116 a0.f3)))))) (drop 0 (map d_y (((([(IntKind.wrap .u8 (a0.f0)), (IntKind.wrap .u8 ((ByteArray.size a0.f1 : Int)))]) ++ (strInts a0.f1)) ++ (m116 a0.f2)) ++ (m116 a0.f3))))))) ≤ (length (([[(.val (.int .u8 (IntKind.wrap .u8 (((length ((take (length ((take (length (([[(.val (.int .u8 (IntKind.wrap .u8 (a0.f0))))], [(.val (.int .u8 (IntKind.wrap .u8 ((ByteArray.size a0.f1 : Int)))))]] : List (List D)) ++ (take (ByteArray.size a0.f1) (drop 0 (byteRows a0.f1))))) (drop 0 (map d_y (([(IntKind.wrap .u8 (a0.f0)), (IntKind.wrap .u8 ((ByteArray.size a0.f1 : Int)))]) ++ (strInts a0.f1))))) ++ (take (length (map d_y (m116 a0.f2))) (drop 0 (map d_y (m116 a0.f2)))))) (drop 0 ((take (length (([[(.val (.int .u8 (IntKind.wrap .u8 (a0.f0))))], [(.val (.int .u8 (IntKind.wrap .u8 ((ByteArray.size a0.f1 : Int)))))]] : List (List D)) ++ (take (ByteArray.size a0.f1) (drop 0 (byteRows a0.f1))))) (drop 0 (map d_y (([(IntKind.wrap .u8 (a0.f0)), (IntKind.wrap .u8 ((ByteArray.size a0.f1 : Int)))]) ++ (strInts a0.f1))))) ++ (take (length (map d_y (m116 a0.f2))) (drop 0 (map d_y (m116 a0.f2))))))) ++ (take (length (map d_y (m116 a0.f3))) (drop 0 (map d_y (m116 a0.f3)))))) : Int)))))]] : List (List D)) ++ (take (length ((take (length ((take (length (([[(.val (.int .u8 (IntKind.wrap .u8 (a0.f0))))], [(.val (.int .u8 (IntKind.wrap .u8 ((ByteArray.size a0.f1 : Int)))))]] : List (List D)) ++ (take (ByteArray.size a0.f1) (drop 0 (byteRows a0.f1))))) (drop 0 (map d_y (([(IntKind.wrap .u8 (a0.f0)), (IntKind.wrap .u8 ((ByteArray.size a0.f1 : Int)))]) ++ (strInts a0.f1))))) ++ (take (length (map d_y (m116 a0.f2))) (drop 0 (map d_y (m116 a0.f2)))))) (drop 0 ((take (length (([[(.val (.int .u8 (IntKind.wrap .u8 (a0.f0))))], [(.val (.int .u8 (IntKind.wrap .u8 ((ByteArray.size a0.f1 : Int)))))]] : List (List D)) ++ (take (ByteArray.size a0.f1) (drop 0 (byteRows a0.f1))))) (drop 0 (map d_y (([(IntKind.wrap .u8 (a0.f0)), (IntKind.wrap .u8 ((ByteArray.size a0.f1 : Int)))]) ++ (strInts a0.f1))))) ++ (take (length (map d_y (m116 a0.f2))) (drop 0 (map d_y (m116 a0.f2))))))) ++ (take (length (map d_y (m116 a0.f3))) (drop 0 (map d_y (m116 a0.f3)))))) (drop 0 (map d_y (((([(IntKind.wrap .u8 (a0.f0)), (IntKind.wrap .u8 ((ByteArray.size a0.f1 : Int)))]) ++ (strInts a0.f1)) ++ (m116 a0.f2)) ++ (m116 a0.f3))))))) := (by omega)
 have f31 : 2 ≤ 2 := (by omega)
 have f32 : ((take 2 (drop 0 [[(.val (.int .u8 (IntKind.wrap .u8 ((Int.fdiv (m117 (((([(IntKind.wrap .u8 (a0.f0)), (IntKind.wrap .u8 ((ByteArray.size a0.f1 : Int)))]) ++ (strInts a0.f1)) ++ (m116 a0.f2)) ++ (m116 a0.f3))) (2 ^ (min (Int.toNat 8) (IntKind.bits .i64))))))))], [(.val (.int .u8 (IntKind.wrap .u8 ((m117 (((([(IntKind.wrap .u8 (a0.f0)), (IntKind.wrap .u8 ((ByteArray.size a0.f1 : Int)))]) ++ (strInts a0.f1)) ++ (m116 a0.f2)) ++ (m116 a0.f3)))))))]])).all fun x => x.all copyable) = true := (by assumption)
 have f33 : (length ((take (length (([[(.val (.int .u8 (IntKind.wrap .u8 (((length ((take (length ((take (length (([[(.val (.int .u8 (IntKind.wrap .u8 (a0.f0))))], [(.val (.int .u8 (IntKind.wrap .u8 ((ByteArray.size a0.f1 : Int)))))]] : List (List D)) ++ (take (ByteArray.size a0.f1) (drop 0 (byteRows a0.f1))))) (drop 0 (map d_y (([(IntKind.wrap .u8 (a0.f0)), (IntKind.wrap .u8 ((ByteArray.size a0.f1 : Int)))]) ++ (strInts a0.f1))))) ++ (take (length (map d_y (m116 a0.f2))) (drop 0 (map d_y (m116 a0.f2)))))) (drop 0 ((take (length (([[(.val (.int .u8 (IntKind.wrap .u8 (a0.f0))))], [(.val (.int .u8 (IntKind.wrap .u8 ((ByteArray.size a0.f1 : Int)))))]] : List (List D)) ++ (take (ByteArray.size a0.f1) (drop 0 (byteRows a0.f1))))) (drop 0 (map d_y (([(IntKind.wrap .u8 (a0.f0)), (IntKind.wrap .u8 ((ByteArray.size a0.f1 : Int)))]) ++ (strInts a0.f1))))) ++ (take (length (map d_y (m116 a0.f2))) (drop 0 (map d_y (m116 a0.f2))))))) ++ (take (length (map d_y (m116 a0.f3))) (drop 0 (map d_y (m116 a0.f3)))))) : Int)))))]] : List (List D)) ++ (take (length ((take (length ((take (length (([[(.val (.int .u8 (IntKind.wrap .u8 (a0.f0))))], [(.val (.int .u8 (IntKind.wrap .u8 ((ByteArray.size a0.f1 : Int)))))]] : List (List D)) ++ (take (ByteArray.size a0.f1) (drop 0 (byteRows a0.f1))))) (drop 0 (map d_y (([(IntKind.wrap .u8 (a0.f0)), (IntKind.wrap .u8 ((ByteArray.size a0.f1 : Int)))]) ++ (strInts a0.f1))))) ++ (take (length (map d_y (m116 a0.f2))) (drop 0 (map d_y (m116 a0.f2)))))) (drop 0 ((take (length (([[(.val (.int .u8 (IntKind.wrap .u8 (a0.f0))))], [(.val (.int .u8 (IntKind.wrap .u8 ((ByteArray.size a0.f1 : Int)))))]] : List (List D)) ++ (take (ByteArray.size a0.f1) (drop 0 (byteRows a0.f1))))) (drop 0 (map d_y (([(IntKind.wrap .u8 (a0.f0)), (IntKind.wrap .u8 ((ByteArray.size a0.f1 : Int)))]) ++ (strInts a0.f1))))) ++ (take (length (map d_y (m116 a0.f2))) (drop 0 (map d_y (m116 a0.f2))))))) ++ (take (length (map d_y (m116 a0.f3))) (drop 0 (map d_y (m116 a0.f3)))))) (drop 0 (map d_y (((([(IntKind.wrap .u8 (a0.f0)), (IntKind.wrap .u8 ((ByteArray.size a0.f1 : Int)))]) ++ (strInts a0.f1)) ++ (m116 a0.f2)) ++ (m116 a0.f3))))))) (drop 0 (([[(.val (.int .u8 (IntKind.wrap .u8 (((length ((take (length ((take (length (([[(.val (.int .u8 (IntKind.wrap .u8 (a0.f0))))], [(.val (.int .u8 (IntKind.wrap .u8 ((ByteArray.size a0.f1 : Int)))))]] : List (List D)) ++ (take (ByteArray.size a0.f1) (drop 0 (byteRows a0.f1))))) (drop 0 (map d_y (([(IntKind.wrap .u8 (a0.f0)), (IntKind.wrap .u8 ((ByteArray.size a0.f1 : Int)))]) ++ (strInts a0.f1))))) ++ (take (length (map d_y (m116 a0.f2))) (drop 0 (map d_y (m116 a0.f2)))))) (drop 0 ((take (length (([[(.val (.int .u8 (IntKind.wrap .u8 (a0.f0))))], [(.val (.int .u8 (IntKind.wrap .u8 ((ByteArray.size a0.f1 : Int)))))]] : List (List D)) ++ (take (ByteArray.size a0.f1) (drop 0 (byteRows a0.f1))))) (drop 0 (map d_y (([(IntKind.wrap .u8 (a0.f0)), (IntKind.wrap .u8 ((ByteArray.size a0.f1 : Int)))]) ++ (strInts a0.f1))))) ++ (take (length (map d_y (m116 a0.f2))) (drop 0 (map d_y (m116 a0.f2))))))) ++ (take (length (map d_y (m116 a0.f3))) (drop 0 (map d_y (m116 a0.f3)))))) : Int)))))]] : List (List D)) ++ (take (length ((take (length ((take (length (([[(.val (.int .u8 (IntKind.wrap .u8 (a0.f0))))], [(.val (.int .u8 (IntKind.wrap .u8 ((ByteArray.size a0.f1 : Int)))))]] : List (List D)) ++ (take (ByteArray.size a0.f1) (drop 0 (byteRows a0.f1))))) (drop 0 (map d_y (([(IntKind.wrap .u8 (a0.f0)), (IntKind.wrap .u8 ((ByteArray.size a0.f1 : Int)))]) ++ (strInts a0.f1))))) ++ (take (length (map d_y (m116 a0.f2))) (drop 0 (map d_y (m116 a0.f2)))))) (drop 0 ((take (length (([[(.val (.int .u8 (IntKind.wrap .u8 (a0.f0))))], [(.val (.int .u8 (IntKind.wrap .u8 ((ByteArray.size a0.f1 : Int)))))]] : List (List D)) ++ (take (ByteArray.size a0.f1) (drop 0 (byteRows a0.f1))))) (drop 0 (map d_y (([(IntKind.wrap .u8 (a0.f0)), (IntKind.wrap .u8 ((ByteArray.size a0.f1 : Int)))]) ++ (strInts a0.f1))))) ++ (take (length (map d_y (m116 a0.f2))) (drop 0 (map d_y (m116 a0.f2))))))) ++ (take (length (map d_y (m116 a0.f3))) (drop 0 (map d_y (m116 a0.f3)))))) (drop 0 (map d_y (((([(IntKind.wrap .u8 (a0.f0)), (IntKind.wrap .u8 ((ByteArray.size a0.f1 : Int)))]) ++ (strInts a0.f1)) ++ (m116 a0.f2)) ++ (m116 a0.f3)))))))) ++ ([[(.val (.int .u8 (IntKind.wrap .u8 ((Int.fdiv (m117 (((([(IntKind.wrap .u8 (a0.f0)), (IntKind.wrap .u8 ((ByteArray.size a0.f1 : Int)))]) ++ (strInts a0.f1)) ++ (m116 a0.f2)) ++ (m116 a0.f3))) (2 ^ (min (Int.toNat 8) (IntKind.bits .i64))))))))], [(.val (.int .u8 (IntKind.wrap .u8 ((m117 (((([(IntKind.wrap .u8 (a0.f0)), (IntKind.wrap .u8 ((ByteArray.size a0.f1 : Int)))]) ++ (strInts a0.f1)) ++ (m116 a0.f2)) ++ (m116 a0.f3)))))))]] : List (List D)))) * 1 ≤ 70368744177664 := (by unfold m116 m117; (repeat' split) <;> simp_all <;> omega)
 have f34 : ∀ r ∈ ([[(.val (.int .u8 (IntKind.wrap .u8 ((Int.fdiv (m117 (((([(IntKind.wrap .u8 (a0.f0)), (IntKind.wrap .u8 ((ByteArray.size a0.f1 : Int)))]) ++ (strInts a0.f1)) ++ (m116 a0.f2)) ++ (m116 a0.f3))) (2 ^ (min (Int.toNat 8) (IntKind.bits .i64))))))))], [(.val (.int .u8 (IntKind.wrap .u8 ((m117 (((([(IntKind.wrap .u8 (a0.f0)), (IntKind.wrap .u8 ((ByteArray.size a0.f1 : Int)))]) ++ (strInts a0.f1)) ++ (m116 a0.f2)) ++ (m116 a0.f3)))))))]] : List (List D)), r.length = 1 := (by simp only [List.drop_zero, tbr, tsi, ly_y, ly0_y, ← List.map_append, List.take_length, List.cons_append, List.nil_append, append_assoc]; exact lenD_y _)
 have f35 : ((take (length (([[(.val (.int .u8 (IntKind.wrap .u8 (((length ((take (length ((take (length (([[(.val (.int .u8 (IntKind.wrap .u8 (a0.f0))))], [(.val (.int .u8 (IntKind.wrap .u8 ((ByteArray.size a0.f1 : Int)))))]] : List (List D)) ++ (take (ByteArray.size a0.f1) (drop 0 (byteRows a0.f1))))) (drop 0 (map d_y (([(IntKind.wrap .u8 (a0.f0)), (IntKind.wrap .u8 ((ByteArray.size a0.f1 : Int)))]) ++ (strInts a0.f1))))) ++ (take (length (map d_y (m116 a0.f2))) (drop 0 (map d_y (m116 a0.f2)))))) (drop 0 ((take (length (([[(.val (.int .u8 (IntKind.wrap .u8 (a0.f0))))], [(.val (.int .u8 (IntKind.wrap .u8 ((ByteArray.size a0.f1 : Int)))))]] : List (List D)) ++ (take (ByteArray.size a0.f1) (drop 0 (byteRows a0.f1))))) (drop 0 (map d_y (([(IntKind.wrap .u8 (a0.f0)), (IntKind.wrap .u8 ((ByteArray.size a0.f1 : Int)))]) ++ (strInts a0.f1))))) ++ (take (length (map d_y (m116 a0.f2))) (drop 0 (map d_y (m116 a0.f2))))))) ++ (take (length (map d_y (m116 a0.f3))) (drop 0 (map d_y (m116 a0.f3)))))) : Int)))))]] : List (List D)) ++ (take (length ((take (length ((take (length (([[(.val (.int .u8 (IntKind.wrap .u8 (a0.f0))))], [(.val (.int .u8 (IntKind.wrap .u8 ((ByteArray.size a0.f1 : Int)))))]] : List (List D)) ++ (take (ByteArray.size a0.f1) (drop 0 (byteRows a0.f1))))) (drop 0 (map d_y (([(IntKind.wrap .u8 (a0.f0)), (IntKind.wrap .u8 ((ByteArray.size a0.f1 : Int)))]) ++ (strInts a0.f1))))) ++ (take (length (map d_y (m116 a0.f2))) (drop 0 (map d_y (m116 a0.f2)))))) (drop 0 ((take (length (([[(.val (.int .u8 (IntKind.wrap .u8 (a0.f0))))], [(.val (.int .u8 (IntKind.wrap .u8 ((ByteArray.size a0.f1 : Int)))))]] : List (List D)) ++ (take (ByteArray.size a0.f1) (drop 0 (byteRows a0.f1))))) (drop 0 (map d_y (([(IntKind.wrap .u8 (a0.f0)), (IntKind.wrap .u8 ((ByteArray.size a0.f1 : Int)))]) ++ (strInts a0.f1))))) ++ (take (length (map d_y (m116 a0.f2))) (drop 0 (map d_y (m116 a0.f2))))))) ++ (take (length (map d_y (m116 a0.f3))) (drop 0 (map d_y (m116 a0.f3)))))) (drop 0 (map d_y (((([(IntKind.wrap .u8 (a0.f0)), (IntKind.wrap .u8 ((ByteArray.size a0.f1 : Int)))]) ++ (strInts a0.f1)) ++ (m116 a0.f2)) ++ (m116 a0.f3))))))) (drop 0 (([[(.val (.int .u8 (IntKind.wrap .u8 (((length ((take (length ((take (length (([[(.val (.int .u8 (IntKind.wrap .u8 (a0.f0))))], [(.val (.int .u8 (IntKind.wrap .u8 ((ByteArray.size a0.f1 : Int)))))]] : List (List D)) ++ (take (ByteArray.size a0.f1) (drop 0 (byteRows a0.f1))))) (drop 0 (map d_y (([(IntKind.wrap .u8 (a0.f0)), (IntKind.wrap .u8 ((ByteArray.size a0.f1 : Int)))]) ++ (strInts a0.f1))))) ++ (take (length (map d_y (m116 a0.f2))) (drop 0 (map d_y (m116 a0.f2)))))) (drop 0 ((take (length (([[(.val (.int .u8 (IntKind.wrap .u8 (a0.f0))))], [(.val (.int .u8 (IntKind.wrap .u8 ((ByteArray.size a0.f1 : Int)))))]] : List (List D)) ++ (take (ByteArray.size a0.f1) (drop 0 (byteRows a0.f1))))) (drop 0 (map d_y (([(IntKind.wrap .u8 (a0.f0)), (IntKind.wrap .u8 ((ByteArray.size a0.f1 : Int)))]) ++ (strInts a0.f1))))) ++ (take (length (map d_y (m116 a0.f2))) (drop 0 (map d_y (m116 a0.f2))))))) ++ (take (length (map d_y (m116 a0.f3))) (drop 0 (map d_y (m116 a0.f3)))))) : Int)))))]] : List (List D)) ++ (take (length ((take (length ((take (length (([[(.val (.int .u8 (IntKind.wrap .u8 (a0.f0))))], [(.val (.int .u8 (IntKind.wrap .u8 ((ByteArray.size a0.f1 : Int)))))]] : List (List D)) ++ (take (ByteArray.size a0.f1) (drop 0 (byteRows a0.f1))))) (drop 0 (map d_y (([(IntKind.wrap .u8 (a0.f0)), (IntKind.wrap .u8 ((ByteArray.size a0.f1 : Int)))]) ++ (strInts a0.f1))))) ++ (take (length (map d_y (m116 a0.f2))) (drop 0 (map d_y (m116 a0.f2)))))) (drop 0 ((take (length (([[(.val (.int .u8 (IntKind.wrap .u8 (a0.f0))))], [(.val (.int .u8 (IntKind.wrap .u8 ((ByteArray.size a0.f1 : Int)))))]] : List (List D)) ++ (take (ByteArray.size a0.f1) (drop 0 (byteRows a0.f1))))) (drop 0 (map d_y (([(IntKind.wrap .u8 (a0.f0)), (IntKind.wrap .u8 ((ByteArray.size a0.f1 : Int)))]) ++ (strInts a0.f1))))) ++ (take (length (map d_y (m116 a0.f2))) (drop 0 (map d_y (m116 a0.f2))))))) ++ (take (length (map d_y (m116 a0.f3))) (drop 0 (map d_y (m116 a0.f3)))))) (drop 0 (map d_y (((([(IntKind.wrap .u8 (a0.f0)), (IntKind.wrap .u8 ((ByteArray.size a0.f1 : Int)))]) ++ (strInts a0.f1)) ++ (m116 a0.f2)) ++ (m116 a0.f3)))))))) ++ ([[(.val (.int .u8 (IntKind.wrap .u8 ((Int.fdiv (m117 (((([(IntKind.wrap .u8 (a0.f0)), (IntKind.wrap .u8 ((ByteArray.size a0.f1 : Int)))]) ++ (strInts a0.f1)) ++ (m116 a0.f2)) ++ (m116 a0.f3))) (2 ^ (min (Int.toNat 8) (IntKind.bits .i64))))))))], [(.val (.int .u8 (IntKind.wrap .u8 ((m117 (((([(IntKind.wrap .u8 (a0.f0)), (IntKind.wrap .u8 ((ByteArray.size a0.f1 : Int)))]) ++ (strInts a0.f1)) ++ (m116 a0.f2)) ++ (m116 a0.f3)))))))]] : List (List D))) = (map d_y ((([(IntKind.wrap .u8 (((length ((take (length ((take (length (([[(.val (.int .u8 (IntKind.wrap .u8 (a0.f0))))], [(.val (.int .u8 (IntKind.wrap .u8 ((ByteArray.size a0.f1 : Int)))))]] : List (List D)) ++ (take (ByteArray.size a0.f1) (drop 0 (byteRows a0.f1))))) (drop 0 (map d_y (([(IntKind.wrap .u8 (a0.f0)), (IntKind.wrap .u8 ((ByteArray.size a0.f1 : Int)))]) ++ (strInts a0.f1))))) ++ (take (length (map d_y (m116 a0.f2))) (drop 0 (map d_y (m116 a0.f2)))))) (drop 0 ((take (length (([[(.val (.int .u8 (IntKind.wrap .u8 (a0.f0))))], [(.val (.int .u8 (IntKind.wrap .u8 ((ByteArray.size a0.f1 : Int)))))]] : List (List D)) ++ (take (ByteArray.size a0.f1) (drop 0 (byteRows a0.f1))))) (drop 0 (map d_y (([(IntKind.wrap .u8 (a0.f0)), (IntKind.wrap .u8 ((ByteArray.size a0.f1 : Int)))]) ++ (strInts a0.f1))))) ++ (take (length (map d_y (m116 a0.f2))) (drop 0 (map d_y (m116 a0.f2))))))) ++ (take (length (map d_y (m116 a0.f3))) (drop 0 (map d_y (m116 a0.f3)))))) : Int)))]) ++ (((([(IntKind.wrap .u8 (a0.f0)), (IntKind.wrap .u8 ((ByteArray.size a0.f1 : Int)))]) ++ (strInts a0.f1)) ++ (m116 a0.f2)) ++ (m116 a0.f3))) ++ ([(IntKind.wrap .u8 ((Int.fdiv (m117 (((([(IntKind.wrap .u8 (a0.f0)), (IntKind.wrap .u8 ((ByteArray.size a0.f1 : Int)))]) ++ (strInts a0.f1)) ++ (m116 a0.f2)) ++ (m116 a0.f3))) (2 ^ (min (Int.toNat 8) (IntKind.bits .i64)))))), (IntKind.wrap .u8 ((m117 (((([(IntKind.wrap .u8 (a0.f0)), (IntKind.wrap .u8 ((ByteArray.size a0.f1 : Int)))]) ++ (strInts a0.f1)) ++ (m116 a0.f2)) ++ (m116 a0.f3)))))]))) := (by simp only [List.drop_zero, tbr, tsi, ly_y, ly0_y, ← List.map_append, List.take_length, List.cons_append, List.nil_append, append_assoc]; done)
 have f37 : (length ((take (length (([[(.val (.int .u8 (IntKind.wrap .u8 (((length ((take (length ((take (length (([[(.val (.int .u8 (IntKind.wrap .u8 (a0.f0))))], [(.val (.int .u8 (IntKind.wrap .u8 ((ByteArray.size a0.f1 : Int)))))]] : List (List D)) ++ (take (ByteArray.size a0.f1) (drop 0 (byteRows a0.f1))))) (drop 0 (map d_y (([(IntKind.wrap .u8 (a0.f0)), (IntKind.wrap .u8 ((ByteArray.size a0.f1 : Int)))]) ++ (strInts a0.f1))))) ++ (take (length (map d_y (m116 a0.f2))) (drop 0 (map d_y (m116 a0.f2)))))) (drop 0 ((take (length (([[(.val (.int .u8 (IntKind.wrap .u8 (a0.f0))))], [(.val (.int .u8 (IntKind.wrap .u8 ((ByteArray.size a0.f1 : Int)))))]] : List (List D)) ++ (take (ByteArray.size a0.f1) (drop 0 (byteRows a0.f1))))) (drop 0 (map d_y (([(IntKind.wrap .u8 (a0.f0)), (IntKind.wrap .u8 ((ByteArray.size a0.f1 : Int)))]) ++ (strInts a0.f1))))) ++ (take (length (map d_y (m116 a0.f2))) (drop 0 (map d_y (m116 a0.f2))))))) ++ (take (length (map d_y (m116 a0.f3))) (drop 0 (map d_y (m116 a0.f3)))))) : Int)))))]] : List (List D)) ++ (take (length ((take (length ((take (length (([[(.val (.int .u8 (IntKind.wrap .u8 (a0.f0))))], [(.val (.int .u8 (IntKind.wrap .u8 ((ByteArray.size a0.f1 : Int)))))]] : List (List D)) ++ (take (ByteArray.size a0.f1) (drop 0 (byteRows a0.f1))))) (drop 0 (map d_y (([(IntKind.wrap .u8 (a0.f0)), (IntKind.wrap .u8 ((ByteArray.size a0.f1 : Int)))]) ++ (strInts a0.f1))))) ++ (take (length (map d_y (m116 a0.f2))) (drop 0 (map d_y (m116 a0.f2)))))) (drop 0 ((take (length (([[(.val (.int .u8 (IntKind.wrap .u8 (a0.f0))))], [(.val (.int .u8 (IntKind.wrap .u8 ((ByteArray.size a0.f1 : Int)))))]] : List (List D)) ++ (take (ByteArray.size a0.f1) (drop 0 (byteRows a0.f1))))) (drop 0 (map d_y (([(IntKind.wrap .u8 (a0.f0)), (IntKind.wrap .u8 ((ByteArray.size a0.f1 : Int)))]) ++ (strInts a0.f1))))) ++ (take (length (map d_y (m116 a0.f2))) (drop 0 (map d_y (m116 a0.f2))))))) ++ (take (length (map d_y (m116 a0.f3))) (drop 0 (map d_y (m116 a0.f3)))))) (drop 0 (map d_y (((([(IntKind.wrap .u8 (a0.f0)), (IntKind.wrap .u8 ((ByteArray.size a0.f1 : Int)))]) ++ (strInts a0.f1)) ++ (m116 a0.f2)) ++ (m116 a0.f3))))))) (drop 0 (([[(.val (.int .u8 (IntKind.wrap .u8 (((length ((take (length ((take (length (([[(.val (.int .u8 (IntKind.wrap .u8 (a0.f0))))], [(.val (.int .u8 (IntKind.wrap .u8 ((ByteArray.size a0.f1 : Int)))))]] : List (List D)) ++ (take (ByteArray.size a0.f1) (drop 0 (byteRows a0.f1))))) (drop 0 (map d_y (([(IntKind.wrap .u8 (a0.f0)), (IntKind.wrap .u8 ((ByteArray.size a0.f1 : Int)))]) ++ (strInts a0.f1))))) ++ (take (length (map d_y (m116 a0.f2))) (drop 0 (map d_y (m116 a0.f2)))))) (drop 0 ((take (length (([[(.val (.int .u8 (IntKind.wrap .u8 (a0.f0))))], [(.val (.int .u8 (IntKind.wrap .u8 ((ByteArray.size a0.f1 : Int)))))]] : List (List D)) ++ (take (ByteArray.size a0.f1) (drop 0 (byteRows a0.f1))))) (drop 0 (map d_y (([(IntKind.wrap .u8 (a0.f0)), (IntKind.wrap .u8 ((ByteArray.size a0.f1 : Int)))]) ++ (strInts a0.f1))))) ++ (take (length (map d_y (m116 a0.f2))) (drop 0 (map d_y (m116 a0.f2))))))) ++ (take (length (map d_y (m116 a0.f3))) (drop 0 (map d_y (m116 a0.f3)))))) : Int)))))]] : List (List D)) ++ (take (length ((take (length ((take (length (([[(.val (.int .u8 (IntKind.wrap .u8 (a0.f0))))], [(.val (.int .u8 (IntKind.wrap .u8 ((ByteArray.size a0.f1 : Int)))))]] : List (List D)) ++ (take (ByteArray.size a0.f1) (drop 0 (byteRows a0.f1))))) (drop 0 (map d_y (([(IntKind.wrap .u8 (a0.f0)), (IntKind.wrap .u8 ((ByteArray.size a0.f1 : Int)))]) ++ (strInts a0.f1))))) ++ (take (length (map d_y (m116 a0.f2))) (drop 0 (map d_y (m116 a0.f2)))))) (drop 0 ((take (length (([[(.val (.int .u8 (IntKind.wrap .u8 (a0.f0))))], [(.val (.int .u8 (IntKind.wrap .u8 ((ByteArray.size a0.f1 : Int)))))]] : List (List D)) ++ (take (ByteArray.size a0.f1) (drop 0 (byteRows a0.f1))))) (drop 0 (map d_y (([(IntKind.wrap .u8 (a0.f0)), (IntKind.wrap .u8 ((ByteArray.size a0.f1 : Int)))]) ++ (strInts a0.f1))))) ++ (take (length (map d_y (m116 a0.f2))) (drop 0 (map d_y (m116 a0.f2))))))) ++ (take (length (map d_y (m116 a0.f3))) (drop 0 (map d_y (m116 a0.f3)))))) (drop 0 (map d_y (((([(IntKind.wrap .u8 (a0.f0)), (IntKind.wrap .u8 ((ByteArray.size a0.f1 : Int)))]) ++ (strInts a0.f1)) ++ (m116 a0.f2)) ++ (m116 a0.f3)))))))) ++ ([[(.val (.int .u8 (IntKind.wrap .u8 ((Int.fdiv (m117 (((([(IntKind.wrap .u8 (a0.f0)), (IntKind.wrap .u8 ((ByteArray.size a0.f1 : Int)))]) ++ (strInts a0.f1)) ++ (m116 a0.f2)) ++ (m116 a0.f3))) (2 ^ (min (Int.toNat 8) (IntKind.bits .i64))))))))], [(.val (.int .u8 (IntKind.wrap .u8 ((m117 (((([(IntKind.wrap .u8 (a0.f0)), (IntKind.wrap .u8 ((ByteArray.size a0.f1 : Int)))]) ++ (strInts a0.f1)) ++ (m116 a0.f2)) ++ (m116 a0.f3)))))))]] : List (List D)))) = (length (map d_y ((([(IntKind.wrap .u8 (((length ((take (length ((take (length (([[(.val (.int .u8 (IntKind.wrap .u8 (a0.f0))))], [(.val (.int .u8 (IntKind.wrap .u8 ((ByteArray.size a0.f1 : Int)))))]] : List (List D)) ++ (take (ByteArray.size a0.f1) (drop 0 (byteRows a0.f1))))) (drop 0 (map d_y (([(IntKind.wrap .u8 (a0.f0)), (IntKind.wrap .u8 ((ByteArray.size a0.f1 : Int)))]) ++ (strInts a0.f1))))) ++ (take (length (map d_y (m116 a0.f2))) (drop 0 (map d_y (m116 a0.f2)))))) (drop 0 ((take (length (([[(.val (.int .u8 (IntKind.wrap .u8 (a0.f0))))], [(.val (.int .u8 (IntKind.wrap .u8 ((ByteArray.size a0.f1 : Int)))))]] : List (List D)) ++ (take (ByteArray.size a0.f1) (drop 0 (byteRows a0.f1))))) (drop 0 (map d_y (([(IntKind.wrap .u8 (a0.f0)), (IntKind.wrap .u8 ((ByteArray.size a0.f1 : Int)))]) ++ (strInts a0.f1))))) ++ (take (length (map d_y (m116 a0.f2))) (drop 0 (map d_y (m116 a0.f2))))))) ++ (take (length (map d_y (m116 a0.f3))) (drop 0 (map d_y (m116 a0.f3)))))) : Int)))]) ++ (((([(IntKind.wrap .u8 (a0.f0)), (IntKind.wrap .u8 ((ByteArray.size a0.f1 : Int)))]) ++ (strInts a0.f1)) ++ (m116 a0.f2)) ++ (m116 a0.f3))) ++ ([(IntKind.wrap .u8 ((Int.fdiv (m117 (((([(IntKind.wrap .u8 (a0.f0)), (IntKind.wrap .u8 ((ByteArray.size a0.f1 : Int)))]) ++ (strInts a0.f1)) ++ (m116 a0.f2)) ++ (m116 a0.f3))) (2 ^ (min (Int.toNat 8) (IntKind.bits .i64)))))), (IntKind.wrap .u8 ((m117 (((([(IntKind.wrap .u8 (a0.f0)), (IntKind.wrap .u8 ((ByteArray.size a0.f1 : Int)))]) ++ (strInts a0.f1)) ++ (m116 a0.f2)) ++ (m116 a0.f3)))))])))) := (by simp only [List.drop_zero, tbr, tsi, ly_y, ly0_y, ← List.map_append, List.take_length, List.cons_append, List.nil_append, append_assoc, toBR_y, fullR_y, pureR_y, copy_y, ints_y]; done)
 exact cp (by kernel_rfl) (.f f0 (.f f1 (.f f2 (.f f3 (.f f4 (.f f5 (.f f6 (.y 37 (.h 40 (.norm (3, 0, 0) (map d_y (([(IntKind.wrap .u8 (a0.f0)), (IntKind.wrap .u8 ((ByteArray.size a0.f1 : Int)))]) ++ (strInts a0.f1)))) (.r 52 [] [] f7 (.f f8 (.f f9 (.f f10 (.f f11 (.f f12 (.y 54 (.r 64 [] [] f13 (.f f14 (.f f15 (.f f16 (.f f17 (.f f18 (.f f19 (.f f20 (.f f21 (.f f22 (.y 66 (.h 69 (.norm (3, 0, 0) (map d_y (((([(IntKind.wrap .u8 (a0.f0)), (IntKind.wrap .u8 ((ByteArray.size a0.f1 : Int)))]) ++ (strInts a0.f1)) ++ (m116 a0.f2)) ++ (m116 a0.f3)))) (.r 73 [] [(map b_y (((([(IntKind.wrap .u8 (a0.f0)), (IntKind.wrap .u8 ((ByteArray.size a0.f1 : Int)))]) ++ (strInts a0.f1)) ++ (m116 a0.f2)) ++ (m116 a0.f3)))] f23 (.f f24 (.f f25 (.f f26 (.f f27 (.f f28 (.f f29 (.f f30 (.f f31 (.f f32 (.f f33 (.f f34 (.f f35 (.e 0 (.f f37 (.f (pureR_y ((([(IntKind.wrap .u8 (((length ((take (length ((take (length (([[(.val (.int .u8 (IntKind.wrap .u8 (a0.f0))))], [(.val (.int .u8 (IntKind.wrap .u8 ((ByteArray.size a0.f1 : Int)))))]] : List (List D)) ++ (take (ByteArray.size a0.f1) (drop 0 (byteRows a0.f1))))) (drop 0 (map d_y (([(IntKind.wrap .u8 (a0.f0)), (IntKind.wrap .u8 ((ByteArray.size a0.f1 : Int)))]) ++ (strInts a0.f1))))) ++ (take (length (map d_y (m116 a0.f2))) (drop 0 (map d_y (m116 a0.f2)))))) (drop 0 ((take (length (([[(.val (.int .u8 (IntKind.wrap .u8 (a0.f0))))], [(.val (.int .u8 (IntKind.wrap .u8 ((ByteArray.size a0.f1 : Int)))))]] : List (List D)) ++ (take (ByteArray.size a0.f1) (drop 0 (byteRows a0.f1))))) (drop 0 (map d_y (([(IntKind.wrap .u8 (a0.f0)), (IntKind.wrap .u8 ((ByteArray.size a0.f1 : Int)))]) ++ (strInts a0.f1))))) ++ (take (length (map d_y (m116 a0.f2))) (drop 0 (map d_y (m116 a0.f2))))))) ++ (take (length (map d_y (m116 a0.f3))) (drop 0 (map d_y (m116 a0.f3)))))) : Int)))]) ++ (((([(IntKind.wrap .u8 (a0.f0)), (IntKind.wrap .u8 ((ByteArray.size a0.f1 : Int)))]) ++ (strInts a0.f1)) ++ (m116 a0.f2)) ++ (m116 a0.f3))) ++ ([(IntKind.wrap .u8 ((Int.fdiv (m117 (((([(IntKind.wrap .u8 (a0.f0)), (IntKind.wrap .u8 ((ByteArray.size a0.f1 : Int)))]) ++ (strInts a0.f1)) ++ (m116 a0.f2)) ++ (m116 a0.f3))) (2 ^ (min (Int.toNat 8) (IntKind.bits .i64)))))), (IntKind.wrap .u8 ((m117 (((([(IntKind.wrap .u8 (a0.f0)), (IntKind.wrap .u8 ((ByteArray.size a0.f1 : Int)))]) ++ (strInts a0.f1)) ++ (m116 a0.f2)) ++ (m116 a0.f3)))))]))) (.y 87 (.y 101 (.h 104 (.norm (2, 0, 0) (map d_y ((([(IntKind.wrap .u8 (((length ((take (length ((take (length (([[(.val (.int .u8 (IntKind.wrap .u8 (a0.f0))))], [(.val (.int .u8 (IntKind.wrap .u8 ((ByteArray.size a0.f1 : Int)))))]] : List (List D)) ++ (take (ByteArray.size a0.f1) (drop 0 (byteRows a0.f1))))) (drop 0 (map d_y (([(IntKind.wrap .u8 (a0.f0)), (IntKind.wrap .u8 ((ByteArray.size a0.f1 : Int)))]) ++ (strInts a0.f1))))) ++ (take (length (map d_y (m116 a0.f2))) (drop 0 (map d_y (m116 a0.f2)))))) (drop 0 ((take (length (([[(.val (.int .u8 (IntKind.wrap .u8 (a0.f0))))], [(.val (.int .u8 (IntKind.wrap .u8 ((ByteArray.size a0.f1 : Int)))))]] : List (List D)) ++ (take (ByteArray.size a0.f1) (drop 0 (byteRows a0.f1))))) (drop 0 (map d_y (([(IntKind.wrap .u8 (a0.f0)), (IntKind.wrap .u8 ((ByteArray.size a0.f1 : Int)))]) ++ (strInts a0.f1))))) ++ (take (length (map d_y (m116 a0.f2))) (drop 0 (map d_y (m116 a0.f2))))))) ++ (take (length (map d_y (m116 a0.f3))) (drop 0 (map d_y (m116 a0.f3)))))) : Int)))]) ++ (((([(IntKind.wrap .u8 (a0.f0)), (IntKind.wrap .u8 ((ByteArray.size a0.f1 : Int)))]) ++ (strInts a0.f1)) ++ (m116 a0.f2)) ++ (m116 a0.f3))) ++ ([(IntKind.wrap .u8 ((Int.fdiv (m117 (((([(IntKind.wrap .u8 (a0.f0)), (IntKind.wrap .u8 ((ByteArray.size a0.f1 : Int)))]) ++ (strInts a0.f1)) ++ (m116 a0.f2)) ++ (m116 a0.f3))) (2 ^ (min (Int.toNat 8) (IntKind.bits .i64)))))), (IntKind.wrap .u8 ((m117 (((([(IntKind.wrap .u8 (a0.f0)), (IntKind.wrap .u8 ((ByteArray.size a0.f1 : Int)))]) ++ (strInts a0.f1)) ++ (m116 a0.f2)) ++ (m116 a0.f3)))))])))) .nil)))))))))))))))))))))))))))))))))))))))))))))))
theorem pack_len63 (a : K_isii) (h : ByteArray.size a.f1 ≤ 1000) : length (m63 a) ≤ 2000 := by
 unfold m63
 simp only [length_append, length_cons, length_nil, strInts_len, four_len]; omega
theorem pack_exact (a : K_isii) : length (m63 a) = ByteArray.size a.f1 + 13 := by
 unfold m63
 simp only [length_append, length_cons, length_nil, strInts_len, four_len]; omega
def m113 (a0 : Int) (a1 : Int) (a2 : Int) : Bool :=
 if (decide (a0 ≥ a1)) = true then (decide (a0 ≤ a2)) else
 false
theorem e113 {a0 : Int} {a1 : Int} {a2 : Int} : Ev F X (.call 113 [(.one (.val (.int .i64 a0))), (.one (.val (.int .i64 a1))), (.one (.val (.int .i64 a2)))] [] [] [(.one (.val (.bool (m113 a0 a1 a2))))]) := by
 unfold m113
 by_cases h0 : (decide (a0 ≥ a1)) = true
 ·try simp only [if_pos h0]
  exact cp (by kernel_rfl) (.m 4 h0 (.y 10 (.y 12 (.y 14 (.y 17 .nil)))))
 ·try simp only [if_neg h0]
  exact cp (by kernel_rfl) (.n 4 h0 (.z 10 (.z 12 (.z 14 (.z 17 .nil)))))
def m75 (a0 : Int) : Bool :=
 (m113 a0 0 1000000)
theorem e75 {a0 : Int} : Ev F X (.call 75 [(.one (.val (.int .i64 a0)))] [] [] [(.one (.val (.bool (m113 a0 0 1000000))))]) := by
 have f0 := e113 (a0 := a0) (a1 := 0) (a2 := 1000000)
 exact cp (by kernel_rfl) (.r 5 [] [] f0 .nil)
def m112_0 (a0 : Int) : Bool :=
 if (a0 == 1) = true then true else
 (a0 == 5)
def m112_1 (a0 : Int) : Bool :=
 if (a0 == 1) = true then false else
 (!(a0 == 5))
def m112_2 (a0 : Int) : Bool :=
 if (a0 == 1) = true then true else
 if (a0 == 5) = true then true else
  (a0 == 2)
theorem e112 {a0 : Int} : Ev F X (.call 112 [(.one (.val (.int .i64 a0)))] [] [] [(.one (.val (.bool (m112_0 a0)))), (.one (.val (.bool (m112_1 a0)))), (.one (.val (.bool (m112_2 a0))))]) := by
 unfold m112_0 m112_1 m112_2
 by_cases h0 : (a0 == 1) = true
 ·try simp only [if_pos h0]
  exact cp (by kernel_rfl) (.m 3 h0 (.y 12 (.y 14 (.y 17 .nil))))
 ·try simp only [if_neg h0]
  by_cases h1 : (a0 == 5) = true
  ·try simp only [if_pos h1]
   exact cp (by kernel_rfl) (.n 3 h0 (.m 3 h1 (.z 12 (.z 14 (.z 17 (.y 30 (.y 32 (.y 35 .nil))))))))
  ·try simp only [if_neg h1]
   exact cp (by kernel_rfl) (.n 3 h0 (.n 3 h1 (.z 12 (.z 14 (.z 17 (.z 30 (.z 32 (.z 35 .nil))))))))
def m148 (a0 : Int) : Bool :=
 if (decide (a0 ≥ 97)) = true then (if (decide (a0 ≤ 122)) = true then true else
  if (decide (a0 ≥ 65)) = true then (if (decide (a0 ≤ 90)) = true then true else
    if (decide (a0 ≥ 48)) = true then (decide (a0 ≤ 57)) else
     false) else
   if (decide (a0 ≥ 48)) = true then (decide (a0 ≤ 57)) else
    false) else
 if (decide (a0 ≥ 65)) = true then (if (decide (a0 ≤ 90)) = true then true else
   if (decide (a0 ≥ 48)) = true then (decide (a0 ≤ 57)) else
    false) else
  if (decide (a0 ≥ 48)) = true then (decide (a0 ≤ 57)) else
   false
theorem e148 {a0 : Int} : Ev F X (.call 148 [(.one (.val (.int .u8 a0)))] [] [] [(.one (.val (.bool (m148 a0))))]) := by
 unfold m148
 by_cases h0 : (decide (a0 ≥ 97)) = true
 ·try simp only [if_pos h0]
  by_cases h1 : (decide (a0 ≤ 122)) = true
  ·try simp only [if_pos h1]
   exact cp (by kernel_rfl) (.m 3 h0 (.m 5 h1 (.y 8 (.y 10 (.y 13 (.y 16 (.y 18 (.y 20 (.y 26 (.y 29 .nil))))))))))
  ·try simp only [if_neg h1]
   by_cases h2 : (decide (a0 ≥ 65)) = true
   ·try simp only [if_pos h2]
    by_cases h3 : (decide (a0 ≤ 90)) = true
    ·try simp only [if_pos h3]
     exact cp (by kernel_rfl) (.m 3 h0 (.n 3 h1 (.m 2 h2 (.g h1 (.f h2 (.g h1 (.m 5 h3 (.y 8 (.y 10 (.y 13 (.z 16 (.z 18 (.z 20 (.y 22 (.y 24 (.z 26 (.y 27 (.z 29 (.y 32 (.y 34 (.y 36 (.y 42 (.y 45 .nil)))))))))))))))))))))))
    ·try simp only [if_neg h3]
     by_cases h4 : (decide (a0 ≥ 48)) = true
     ·try simp only [if_pos h4]
      exact cp (by kernel_rfl) (.m 3 h0 (.n 3 h1 (.m 2 h2 (.g h1 (.f h2 (.g h1 (.n 3 h3 (.m 2 h4 (.g h3 (.f h4 (.g h3 (.y 8 (.y 10 (.y 13 (.z 16 (.z 18 (.z 20 (.y 22 (.y 24 (.z 26 (.y 27 (.z 29 (.z 32 (.z 34 (.z 36 (.y 38 (.y 40 (.z 42 (.y 43 (.z 45 .nil))))))))))))))))))))))))))))))
     ·try simp only [if_neg h4]
      exact cp (by kernel_rfl) (.m 3 h0 (.n 3 h1 (.m 2 h2 (.g h1 (.f h2 (.g h1 (.n 3 h3 (.n 2 h4 (.g h3 (.g h4 (.g h3 (.y 8 (.y 10 (.y 13 (.z 16 (.z 18 (.z 20 (.y 22 (.y 24 (.z 26 (.y 27 (.z 29 (.z 32 (.z 34 (.z 36 (.z 38 (.z 40 (.z 42 (.z 43 (.z 45 .nil))))))))))))))))))))))))))))))
   ·try simp only [if_neg h2]
    by_cases h3 : (decide (a0 ≥ 48)) = true
    ·try simp only [if_pos h3]
     exact cp (by kernel_rfl) (.m 3 h0 (.n 3 h1 (.n 2 h2 (.g h1 (.g h2 (.g h1 (.m 3 h3 (.y 8 (.y 10 (.y 13 (.z 16 (.z 18 (.z 20 (.z 22 (.z 24 (.z 26 (.z 27 (.z 29 (.y 38 (.y 40 (.y 43 .nil)))))))))))))))))))))
    ·try simp only [if_neg h3]
     exact cp (by kernel_rfl) (.m 3 h0 (.n 3 h1 (.n 2 h2 (.g h1 (.g h2 (.g h1 (.n 3 h3 (.y 8 (.y 10 (.y 13 (.z 16 (.z 18 (.z 20 (.z 22 (.z 24 (.z 26 (.z 27 (.z 29 (.z 38 (.z 40 (.z 43 .nil)))))))))))))))))))))
 ·try simp only [if_neg h0]
  by_cases h1 : (decide (a0 ≥ 65)) = true
  ·try simp only [if_pos h1]
   by_cases h2 : (decide (a0 ≤ 90)) = true
   ·try simp only [if_pos h2]
    exact cp (by kernel_rfl) (.n 3 h0 (.m 3 h1 (.m 5 h2 (.z 8 (.z 10 (.z 13 (.y 22 (.y 24 (.y 27 (.y 32 (.y 34 (.y 36 (.y 42 (.y 45 .nil))))))))))))))
   ·try simp only [if_neg h2]
    by_cases h3 : (decide (a0 ≥ 48)) = true
    ·try simp only [if_pos h3]
     exact cp (by kernel_rfl) (.n 3 h0 (.m 3 h1 (.n 3 h2 (.m 2 h3 (.g h2 (.f h3 (.g h2 (.z 8 (.z 10 (.z 13 (.y 22 (.y 24 (.y 27 (.z 32 (.z 34 (.z 36 (.y 38 (.y 40 (.z 42 (.y 43 (.z 45 .nil)))))))))))))))))))))
    ·try simp only [if_neg h3]
     exact cp (by kernel_rfl) (.n 3 h0 (.m 3 h1 (.n 3 h2 (.n 2 h3 (.g h2 (.g h3 (.g h2 (.z 8 (.z 10 (.z 13 (.y 22 (.y 24 (.y 27 (.z 32 (.z 34 (.z 36 (.z 38 (.z 40 (.z 42 (.z 43 (.z 45 .nil)))))))))))))))))))))
  ·try simp only [if_neg h1]
   by_cases h2 : (decide (a0 ≥ 48)) = true
   ·try simp only [if_pos h2]
    exact cp (by kernel_rfl) (.n 3 h0 (.n 3 h1 (.m 3 h2 (.z 8 (.z 10 (.z 13 (.z 22 (.z 24 (.z 27 (.y 38 (.y 40 (.y 43 .nil))))))))))))
   ·try simp only [if_neg h2]
    exact cp (by kernel_rfl) (.n 3 h0 (.n 3 h1 (.n 3 h2 (.z 8 (.z 10 (.z 13 (.z 22 (.z 24 (.z 27 (.z 38 (.z 40 (.z 43 .nil))))))))))))
inductive O114_0 where
 | k0 (w0 : Int) (w1 : Bool)
 | k1
def r114_0 (a0 : ByteArray) : Nat → Int → O114_0
 | n + 1, i =>
  if (!(m148 (byteAt a0 i))) = true then (O114_0.k1) else
  (r114_0 a0 n (i + 1) )
 | 0, i => (O114_0.k0 i (decide (i < (ByteArray.size a0 : Int))))
def h114_0 (a0 : ByteArray) (i : Int)  : St := ⟨[(0, (.one (.val (.string a0)))), (3, (.one (.val (.int .i64 i))))], []⟩
def ex114_0 : O114_0 → VX.Exit
 | .k0 _ _ => (.exit 0)
 | .k1 => .ret
def fin114_0 (a0 : ByteArray) : O114_0 → St
 | .k0 w0 w1 => ⟨[(0, (.one (.val (.string a0)))), (3, (.one (.val (.int .i64 w0)))), (7, (.one (.val (.bool w1))))], []⟩
 | .k1 => ⟨[(2, (.one (.val (.bool false))))], []⟩
theorem t114_0 {a0 : ByteArray} (hy0 : ByteArray.size a0 ≤ 140737488351232) : ∀ (n : Nat) (i : Int) , 0 ≤ i → n = Int.toNat ((ByteArray.size a0 : Int) - i) → (ByteArray.size a0 : Int) ≤ 9223372036854775807 → Ev F X (.code l114_0 (h114_0 a0 i ) (ex114_0 (r114_0 a0 n i )) (fin114_0 a0 (r114_0 a0 n i )))
 | 0, i, hn0, hn, hi0 => by
  have hc : ¬ (decide (i < (ByteArray.size a0 : Int))) = true := by
   simp only [decide_eq_true_eq]; omega
  have st := ch b114_0 [(8, .b false)] (h114_0 a0 i) (fin114_0 a0 (.k0 i (decide (i < (ByteArray.size a0 : Int))))) (.exit 0) 9 [(decide (i < (ByteArray.size a0 : Int))) = false] (by kernel_rfl) ⟨(nt hc), trivial⟩
  exact .loopX st (show ((.exit 0) : VX.Exit) ≠ .normal from by simp)
 | n + 1, i, hn0, hn, hi0 => by
  have hc : (decide (i < (ByteArray.size a0 : Int))) = true := by
   simp only [decide_eq_true_eq]; omega
  have hw : w64 (i + 1) = i + 1 := wrap64 (by omega)
  have hj0 := hi0; try simp only [length_map, length_set, length_append, length_replicate, length_cons, length_nil, Int.toNat_natCast] at hj0
  simp only [r114_0]
  by_cases h_1 : (!(m148 (byteAt a0 i))) = true
  ·try simp only [if_pos h_1]
   have st := ch b114_0 [(8, .b true), (16, .ret [] [(.one (.val (.bool (m148 (byteAt a0 i)))))] [] []), (19, .b true)] (h114_0 a0 i) (fin114_0 a0 (.k1)) .ret 22 [(decide (i < (ByteArray.size a0 : Int))) = true, 0 ≤ i ∧ i < (ByteArray.size a0 : Int), Ev F X (.call 148 [(.one (.val (.int .u8 (byteAt a0 i))))] [] [] [(.one (.val (.bool (m148 (byteAt a0 i)))))]), (!(m148 (byteAt a0 i))) = true] (by kernel_rfl) ⟨hc, (by omega), (e148 (a0 := (byteAt a0 i))), h_1, trivial⟩
   exact .loopX st (show (.ret : VX.Exit) ≠ .normal from by simp)
  ·try simp only [if_neg h_1]
   have st := ch b114_0 [(8, .b true), (16, .ret [] [(.one (.val (.bool (m148 (byteAt a0 i)))))] [] []), (19, .b false)] (h114_0 a0 i) ⟨[(0, (.one (.val (.string a0)))), (3, (.oi (w64 (i + 1))))], []⟩ .normal 26 [(decide (i < (ByteArray.size a0 : Int))) = true, 0 ≤ i ∧ i < (ByteArray.size a0 : Int), Ev F X (.call 148 [(.one (.val (.int .u8 (byteAt a0 i))))] [] [] [(.one (.val (.bool (m148 (byteAt a0 i)))))]), (!(m148 (byteAt a0 i))) = false, True] (by kernel_rfl) ⟨hc, (by omega), (e148 (a0 := (byteAt a0 i))), (nt h_1), trivial, trivial⟩
   have ih := t114_0 (a0 := a0) hy0 n (i + 1)  (by omega) (by omega) (by omega)
   replace st := to_ (s' := h114_0 a0 (i + 1) ) st (by unfold h114_0; simp only [hw]; done)
   exact .loopN st ih
def m114 (a0 : ByteArray) : Bool :=
 (match r114_0 a0 (Int.toNat (ByteArray.size a0 : Int)) 0 with | .k0 w0_0 w1_0 => (decide ((ByteArray.size a0 : Int) ≤ 12)) | .k1 => false)
theorem e114 {a0 : ByteArray} (hy0 : ByteArray.size a0 ≤ 140737488351232) : Ev F X (.call 114 [(.one (.val (.string a0)))] [] [] [(.one (.val (.bool (m114 a0))))]) := by
 unfold m114
 cases h0 : r114_0 a0 (Int.toNat (ByteArray.size a0 : Int)) 0 with
 | k0 w0_0 w1_0 =>
  try dsimp only
  have f0 : (⟨[(0, (.one (.val (.string a0)))), (3, (.oi 0))], []⟩ : St) = h114_0 a0 0  := (by rfl)
  have f1 : Ev F X (.code l114_0 (h114_0 a0 0 ) (.exit 0) ⟨[(0, (.one (.val (.string a0)))), (3, (.oi w0_0)), (7, (.one (.val (.bool w1_0))))], []⟩) := (by have t : Ev F X (.code l114_0 (h114_0 a0 0 ) (ex114_0 (r114_0 a0 (Int.toNat (ByteArray.size a0 : Int)) 0)) (fin114_0 a0 (r114_0 a0 (Int.toNat (ByteArray.size a0 : Int)) 0))) := t114_0 (a0 := a0) (by assumption) _ 0  (by omega) (by omega) (by omega); rw [h0] at t; exact t)
  exact cp (by kernel_rfl) (.f f0 (.f f1 (.h 4 (.loop (h114_0 a0 0 ) (.exit 0) ⟨[(0, (.one (.val (.string a0)))), (3, (.oi w0_0)), (7, (.one (.val (.bool w1_0))))], []⟩) .nil)))
 | k1 =>
  try dsimp only
  have f0 : (⟨[(0, (.one (.val (.string a0)))), (3, (.oi 0))], []⟩ : St) = h114_0 a0 0  := (by rfl)
  have f1 : Ev F X (.code l114_0 (h114_0 a0 0 ) .ret ⟨[(2, (.one (.val (.bool false))))], []⟩) := (by have t : Ev F X (.code l114_0 (h114_0 a0 0 ) (ex114_0 (r114_0 a0 (Int.toNat (ByteArray.size a0 : Int)) 0)) (fin114_0 a0 (r114_0 a0 (Int.toNat (ByteArray.size a0 : Int)) 0))) := t114_0 (a0 := a0) (by assumption) _ 0  (by omega) (by omega) (by omega); rw [h0] at t; exact t)
  exact cp (by kernel_rfl) (.f f0 (.f f1 (.h 4 (.loop (h114_0 a0 0 ) .ret ⟨[(2, (.one (.val (.bool false))))], []⟩) .nil)))
theorem arg_len114 {a : ByteArray} (h : m114 a = true) : ByteArray.size a ≤ 12 := by
 unfold m114 at h
 split at h
 ·simp only [decide_eq_true_eq] at h; omega
 ·cases h
def m115 (a0 : Int) : Bool :=
 (m113 a0 0 2147483646)
theorem e115 {a0 : Int} : Ev F X (.call 115 [(.one (.val (.int .i64 a0)))] [] [] [(.one (.val (.bool (m113 a0 0 2147483646))))]) := by
 have f0 := e113 (a0 := a0) (a1 := 0) (a2 := 2147483646)
 exact cp (by kernel_rfl) (.r 5 [] [] f0 .nil)
end Go.Proofs.YtdnopbpdiineiaaDoor.ReadEntries
