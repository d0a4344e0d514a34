/- What the functions compute. -/
import Derived.Test.YtcbnpfnebinbkaaDoorTEntryFault
import Derived.Test.YtcbnpfnebinbkaaDoorVNum
import Derived.Test.YtcbnpfnebinbkaaDoorVClone
import Derived.Test.YtcbnpfnebinbkaaDoorVExt
import Derived.Test.YtcbnpfnebinbkaaDoorXEntryFault
import Derived.KernelRfl
namespace Go.Proofs.YtcbnpfnebinbkaaDoor.EntryFault
open Go Go.Proofs.YtcbnpfnebinbkaaDoor.V
set_option linter.unusedVariables false
set_option linter.unusedSimpArgs false
set_option maxRecDepth 20000
def X : Ext := fun f args rs => (f = 112 ∧ TrimX args rs)
structure K_isii where
  f0 : Int
  f1 : ByteArray
  f2 : Int
  f3 : Int
def b_isii (x : K_isii) : List B := [(.val (.int .i64 x.f0)), (.val (.string x.f1)), (.val (.int .i64 x.f2)), (.val (.int .i64 x.f3))]
def d_isii (x : K_isii) : List D := [(.val (.int .i64 x.f0)), (.val (.string x.f1)), (.val (.int .i64 x.f2)), (.val (.int .i64 x.f3))]
theorem toBR_isii : ∀ (l : List K_isii), toBR (l.map d_isii) = l.map b_isii
  | [] => rfl
  | x :: l => by simp [toBR, toBL, toB, d_isii, b_isii, toBR_isii l]
theorem fullR_isii : ∀ (l : List K_isii), fullR (l.map d_isii) = true
  | [] => rfl
  | x :: l => by simp [fullR, fullL, full, d_isii, fullR_isii l]
theorem pureR_isii : ∀ (l : List K_isii), pureR (l.map d_isii) = true
  | [] => rfl
  | x :: l => by simp [pureR, pureL, V.pure, d_isii, pureR_isii l]
theorem ft_isii (a b : Nat) (l : List K_isii) : fullR (List.take a (List.drop b (l.map d_isii))) = true := by rw [← List.map_drop, ← List.map_take]; exact fullR_isii _
theorem tb_isii (l : List K_isii) : toBR (List.take (l.map d_isii).length (List.drop 0 (l.map d_isii))) = l.map b_isii := by rw [List.drop_zero, List.take_length]; exact toBR_isii l
theorem lenB_isii (l : List K_isii) : ∀ r ∈ l.map b_isii, r.length = 4 := by intro r h; obtain ⟨x, _, rfl⟩ := List.mem_map.1 h; rfl
theorem lenD_isii (l : List K_isii) : ∀ r ∈ l.map d_isii, r.length = 4 := by intro r h; obtain ⟨x, _, rfl⟩ := List.mem_map.1 h; rfl
def os_isii (x : K_isii) : Prop := (ByteArray.size x.f1 ≤ 140737488351232)
theorem fromBR_isii (n : Nat) (l : List K_isii) : fromBR n (l.map b_isii) = l.map d_isii := by simp [fromBR, b_isii, d_isii, fromB, Function.comp_def]
theorem copy_isii (l : List K_isii) : (l.map d_isii).all (fun x => x.all copyable) = true := by simp [d_isii, copyable, Function.comp_def]
theorem ct_isii (a b : Nat) (l : List K_isii) : ((List.take a (List.drop b (l.map d_isii))).all fun x => x.all copyable) = true := by rw [← List.map_drop, ← List.map_take]; exact copy_isii _
def b_b (x : Bool) : List B := [(.val (.bool x))]
def d_b (x : Bool) : List D := [(.val (.bool x))]
theorem toBR_b : ∀ (l : List Bool), toBR (l.map d_b) = l.map b_b
  | [] => rfl
  | x :: l => by simp [toBR, toBL, toB, d_b, b_b, toBR_b l]
theorem fullR_b : ∀ (l : List Bool), fullR (l.map d_b) = true
  | [] => rfl
  | x :: l => by simp [fullR, fullL, full, d_b, fullR_b l]
theorem pureR_b : ∀ (l : List Bool), pureR (l.map d_b) = true
  | [] => rfl
  | x :: l => by simp [pureR, pureL, V.pure, d_b, pureR_b l]
theorem ft_b (a b : Nat) (l : List Bool) : fullR (List.take a (List.drop b (l.map d_b))) = true := by rw [← List.map_drop, ← List.map_take]; exact fullR_b _
theorem tb_b (l : List Bool) : toBR (List.take (l.map d_b).length (List.drop 0 (l.map d_b))) = l.map b_b := by rw [List.drop_zero, List.take_length]; exact toBR_b l
theorem lenB_b (l : List Bool) : ∀ r ∈ l.map b_b, r.length = 1 := by intro r h; obtain ⟨x, _, rfl⟩ := List.mem_map.1 h; rfl
theorem lenD_b (l : List Bool) : ∀ r ∈ l.map d_b, r.length = 1 := by intro r h; obtain ⟨x, _, rfl⟩ := List.mem_map.1 h; rfl
theorem fromBR_b (n : Nat) (l : List Bool) : fromBR n (l.map b_b) = l.map d_b := by simp [fromBR, b_b, d_b, fromB, Function.comp_def]
theorem copy_b (l : List Bool) : (l.map d_b).all (fun x => x.all copyable) = true := by simp [d_b, copyable, Function.comp_def]
theorem ct_b (a b : Nat) (l : List Bool) : ((List.take a (List.drop b (l.map d_b))).all fun x => x.all copyable) = true := by rw [← List.map_drop, ← List.map_take]; exact copy_b _
def b_i (x : Int) : List B := [(.val (.int .i64 x))]
def d_i (x : Int) : List D := [(.val (.int .i64 x))]
theorem toBR_i : ∀ (l : List Int), toBR (l.map d_i) = l.map b_i
  | [] => rfl
  | x :: l => by simp [toBR, toBL, toB, d_i, b_i, toBR_i l]
theorem fullR_i : ∀ (l : List Int), fullR (l.map d_i) = true
  | [] => rfl
  | x :: l => by simp [fullR, fullL, full, d_i, fullR_i l]
theorem pureR_i : ∀ (l : List Int), pureR (l.map d_i) = true
  | [] => rfl
  | x :: l => by simp [pureR, pureL, V.pure, d_i, pureR_i l]
theorem ft_i (a b : Nat) (l : List Int) : fullR (List.take a (List.drop b (l.map d_i))) = true := by rw [← List.map_drop, ← List.map_take]; exact fullR_i _
theorem tb_i (l : List Int) : toBR (List.take (l.map d_i).length (List.drop 0 (l.map d_i))) = l.map b_i := by rw [List.drop_zero, List.take_length]; exact toBR_i l
theorem lenB_i (l : List Int) : ∀ r ∈ l.map b_i, r.length = 1 := by intro r h; obtain ⟨x, _, rfl⟩ := List.mem_map.1 h; rfl
theorem lenD_i (l : List Int) : ∀ r ∈ l.map d_i, r.length = 1 := by intro r h; obtain ⟨x, _, rfl⟩ := List.mem_map.1 h; rfl
theorem fromBR_i (n : Nat) (l : List Int) : fromBR n (l.map b_i) = l.map d_i := by simp [fromBR, b_i, d_i, fromB, Function.comp_def]
theorem copy_i (l : List Int) : (l.map d_i).all (fun x => x.all copyable) = true := by simp [d_i, copyable, Function.comp_def]
theorem ct_i (a b : Nat) (l : List Int) : ((List.take a (List.drop b (l.map d_i))).all fun x => x.all copyable) = true := by rw [← List.map_drop, ← List.map_take]; exact copy_i _
def b_s (x : ByteArray) : List B := [(.val (.string x))]
def d_s (x : ByteArray) : List D := [(.val (.string x))]
theorem toBR_s : ∀ (l : List ByteArray), toBR (l.map d_s) = l.map b_s
  | [] => rfl
  | x :: l => by simp [toBR, toBL, toB, d_s, b_s, toBR_s l]
theorem fullR_s : ∀ (l : List ByteArray), fullR (l.map d_s) = true
  | [] => rfl
  | x :: l => by simp [fullR, fullL, full, d_s, fullR_s l]
theorem pureR_s : ∀ (l : List ByteArray), pureR (l.map d_s) = true
  | [] => rfl
  | x :: l => by simp [pureR, pureL, V.pure, d_s, pureR_s l]
theorem ft_s (a b : Nat) (l : List ByteArray) : fullR (List.take a (List.drop b (l.map d_s))) = true := by rw [← List.map_drop, ← List.map_take]; exact fullR_s _
theorem tb_s (l : List ByteArray) : toBR (List.take (l.map d_s).length (List.drop 0 (l.map d_s))) = l.map b_s := by rw [List.drop_zero, List.take_length]; exact toBR_s l
theorem lenB_s (l : List ByteArray) : ∀ r ∈ l.map b_s, r.length = 1 := by intro r h; obtain ⟨x, _, rfl⟩ := List.mem_map.1 h; rfl
theorem lenD_s (l : List ByteArray) : ∀ r ∈ l.map d_s, r.length = 1 := by intro r h; obtain ⟨x, _, rfl⟩ := List.mem_map.1 h; rfl
def os_s (x : ByteArray) : Prop := (ByteArray.size x ≤ 140737488351232)
theorem fromBR_s (n : Nat) (l : List ByteArray) : fromBR n (l.map b_s) = l.map d_s := by simp [fromBR, b_s, d_s, fromB, Function.comp_def]
theorem copy_s (l : List ByteArray) : (l.map d_s).all (fun x => x.all copyable) = true := by simp [d_s, copyable, Function.comp_def]
theorem ct_s (a b : Nat) (l : List ByteArray) : ((List.take a (List.drop b (l.map d_s))).all fun x => x.all copyable) = true := by rw [← List.map_drop, ← List.map_take]; exact copy_s _
def b_y (x : Int) : List B := [(.val (.int .u8 x))]
def d_y (x : Int) : List D := [(.val (.int .u8 x))]
theorem toBR_y : ∀ (l : List Int), toBR (l.map d_y) = l.map b_y
  | [] => rfl
  | x :: l => by simp [toBR, toBL, toB, d_y, b_y, toBR_y l]
theorem fullR_y : ∀ (l : List Int), fullR (l.map d_y) = true
  | [] => rfl
  | x :: l => by simp [fullR, fullL, full, d_y, fullR_y l]
theorem pureR_y : ∀ (l : List Int), pureR (l.map d_y) = true
  | [] => rfl
  | x :: l => by simp [pureR, pureL, V.pure, d_y, pureR_y l]
theorem ft_y (a b : Nat) (l : List Int) : fullR (List.take a (List.drop b (l.map d_y))) = true := by rw [← List.map_drop, ← List.map_take]; exact fullR_y _
theorem tb_y (l : List Int) : toBR (List.take (l.map d_y).length (List.drop 0 (l.map d_y))) = l.map b_y := by rw [List.drop_zero, List.take_length]; exact toBR_y l
theorem lenB_y (l : List Int) : ∀ r ∈ l.map b_y, r.length = 1 := by intro r h; obtain ⟨x, _, rfl⟩ := List.mem_map.1 h; rfl
theorem lenD_y (l : List Int) : ∀ r ∈ l.map d_y, r.length = 1 := by intro r h; obtain ⟨x, _, rfl⟩ := List.mem_map.1 h; rfl
theorem fromBR_y (n : Nat) (l : List Int) : fromBR n (l.map b_y) = l.map d_y := by simp [fromBR, b_y, d_y, fromB, Function.comp_def]
theorem copy_y (l : List Int) : (l.map d_y).all (fun x => x.all copyable) = true := by simp [d_y, copyable, Function.comp_def]
theorem ct_y (a b : Nat) (l : List Int) : ((List.take a (List.drop b (l.map d_y))).all fun x => x.all copyable) = true := by rw [← List.map_drop, ← List.map_take]; exact copy_y _
def strInts (s : ByteArray) : List Int := s.data.toList.map fun b => (b.toNat : Int)
theorem byteRows_eq (s : ByteArray) : byteRows s = (strInts s).map d_y := by simp [byteRows, strInts, d_y, Function.comp_def]
theorem ints_y : ∀ (l : List Int), rowsInts .u8 (l.map d_y) = some l
  | [] => rfl
  | x :: l => by simp only [List.map_cons, d_y, rowsInts, ints_y l]; rfl
attribute [local simp] toBR_isii fullR_isii pureR_isii lenB_isii lenD_isii fromBR_isii copy_isii toBR_b fullR_b pureR_b lenB_b lenD_b fromBR_b copy_b toBR_i fullR_i pureR_i lenB_i lenD_i fromBR_i copy_i toBR_s fullR_s pureR_s lenB_s lenD_s fromBR_s copy_s toBR_y fullR_y pureR_y lenB_y lenD_y fromBR_y copy_y

/-! loop.example/g00539/laws.szEntry -/
def m12 (a0 : K_isii) (a1 : Int) : Int :=
  if (decide ((IntKind.wrap .i64 (a1 - (ByteArray.size a0.f1 : Int))) < 0)) = true then (-1) else
  (IntKind.wrap .i64 (a1 - (ByteArray.size a0.f1 : Int)))
theorem e12 {a0 : K_isii} {a1 : Int} : Ev F X (.call 12 [(.agg [(.val (.int .i64 a0.f0)), (.val (.string a0.f1)), (.val (.int .i64 a0.f2)), (.val (.int .i64 a0.f3))]), (.one (.val (.int .i64 a1)))] [] [] [(.one (.val (.int .i64 (m12 a0 a1))))]) := by
  unfold m12
  by_cases h0 : (decide ((IntKind.wrap .i64 (a1 - (ByteArray.size a0.f1 : Int))) < 0)) = true
  · try simp only [if_pos h0]
    exact callP_ok (ps := []) (os := []) (rs := [(.one (.val (.int .i64 (-1))))]) (by kernel_rfl) (.f h0 (.h 20 (.b true) .nil))
  · try simp only [if_neg h0]
    exact callP_ok (ps := []) (os := []) (rs := [(.one (.val (.int .i64 (IntKind.wrap .i64 (a1 - (ByteArray.size a0.f1 : Int))))))]) (by kernel_rfl) (.f (nt h0) (.h 20 (.b false) .nil))
/-! loop.example/g00539/spec.l1In -/
def m72 (a0 : Int) (a1 : Int) (a2 : Int) : Bool :=
  if (decide (a0 ≥ a1)) = true then (decide (a0 ≤ a2)) else
  false
theorem e72 {a0 : Int} {a1 : Int} {a2 : Int} : Ev F X (.call 72 [(.one (.val (.int .i64 a0))), (.one (.val (.int .i64 a1))), (.one (.val (.int .i64 a2)))] [] [] [(.one (.val (.bool (m72 a0 a1 a2))))]) := by
  unfold m72
  by_cases h0 : (decide (a0 ≥ a1)) = true
  · try simp only [if_pos h0]
    exact callP_ok (ps := []) (os := []) (rs := [(.one (.val (.bool (decide (a0 ≤ a2)))))]) (by kernel_rfl) (.f h0 (.f h0 (.f h0 (.f h0 (.h 10 (.b true) (.h 12 (.b true) (.h 14 (.b true) (.h 17 (.b true) .nil))))))))
  · try simp only [if_neg h0]
    exact callP_ok (ps := []) (os := []) (rs := [(.one (.val (.bool false)))]) (by kernel_rfl) (.f (nt h0) (.f (nt h0) (.f (nt h0) (.f (nt h0) (.h 10 (.b false) (.h 12 (.b false) (.h 14 (.b false) (.h 17 (.b false) .nil))))))))
/-! loop.example/g00539/spec.l1Amount -/
def m84 (a0 : Int) : Bool :=
  (m72 a0 0 1000000)
theorem e84 {a0 : Int} : Ev F X (.call 84 [(.one (.val (.int .i64 a0)))] [] [] [(.one (.val (.bool (m72 a0 0 1000000))))]) := by
  have f0 : Ev F X (.call 72 [(.one (.val (.int .i64 a0))), (.one (.val (.int .i64 0))), (.one (.val (.int .i64 1000000)))] [] [] [(.one (.val (.bool (m72 a0 0 1000000))))]) := (e72 (a0 := a0) (a1 := 0) (a2 := 1000000))
  exact callP_ok (ps := []) (os := []) (rs := [(.one (.val (.bool (m72 a0 0 1000000))))]) (by kernel_rfl) (.r 5 [] [] f0 .nil)
/-! loop.example/g00539/spec.l15Has -/
def m92_0 (a0 : Int) : Bool :=
  if (a0 == 1) = true then true else
  (a0 == 5)
def m92_1 (a0 : Int) : Bool :=
  if (a0 == 1) = true then false else
  (!(a0 == 5))
def m92_2 (a0 : Int) : Bool :=
  if (a0 == 1) = true then true else
  if (a0 == 5) = true then true else
    (a0 == 2)
theorem e92 {a0 : Int} : Ev F X (.call 92 [(.one (.val (.int .i64 a0)))] [] [] [(.one (.val (.bool (m92_0 a0)))), (.one (.val (.bool (m92_1 a0)))), (.one (.val (.bool (m92_2 a0))))]) := by
  unfold m92_0 m92_1 m92_2
  by_cases h0 : (a0 == 1) = true
  · try simp only [if_pos h0]
    exact callP_ok (ps := []) (os := []) (rs := [(.one (.val (.bool true))), (.one (.val (.bool false))), (.one (.val (.bool true)))]) (by kernel_rfl) (.f h0 (.f h0 (.f h0 (.h 12 (.b true) (.h 14 (.b true) (.h 17 (.b true) .nil))))))
  · try simp only [if_neg h0]
    by_cases h1 : (a0 == 5) = true
    · try simp only [if_pos h1]
      exact callP_ok (ps := []) (os := []) (rs := [(.one (.val (.bool (a0 == 5)))), (.one (.val (.bool (!(a0 == 5))))), (.one (.val (.bool true)))]) (by kernel_rfl) (.f (nt h0) (.f (nt h0) (.f (nt h0) (.f h1 (.f h1 (.f h1 (.h 12 (.b false) (.h 14 (.b false) (.h 17 (.b false) (.h 30 (.b true) (.h 32 (.b true) (.h 35 (.b true) .nil))))))))))))
    · try simp only [if_neg h1]
      exact callP_ok (ps := []) (os := []) (rs := [(.one (.val (.bool (a0 == 5)))), (.one (.val (.bool (!(a0 == 5))))), (.one (.val (.bool (a0 == 2))))]) (by kernel_rfl) (.f (nt h0) (.f (nt h0) (.f (nt h0) (.f (nt h1) (.f (nt h1) (.f (nt h1) (.h 12 (.b false) (.h 14 (.b false) (.h 17 (.b false) (.h 30 (.b false) (.h 32 (.b false) (.h 35 (.b false) .nil))))))))))))
/-! loop.example/g00539/spec.l9Letter -/
def m111 (a0 : Int) : Bool :=
  if (decide (a0 ≥ 97)) = true then (if (decide (a0 ≤ 122)) = true then true else
    if (decide (a0 ≥ 65)) = true then (if (decide (a0 ≤ 90)) = true then true else
        if (decide (a0 ≥ 48)) = true then (decide (a0 ≤ 57)) else
          false) else
      if (decide (a0 ≥ 48)) = true then (decide (a0 ≤ 57)) else
        false) else
  if (decide (a0 ≥ 65)) = true then (if (decide (a0 ≤ 90)) = true then true else
      if (decide (a0 ≥ 48)) = true then (decide (a0 ≤ 57)) else
        false) else
    if (decide (a0 ≥ 48)) = true then (decide (a0 ≤ 57)) else
      false
theorem e111 {a0 : Int} : Ev F X (.call 111 [(.one (.val (.int .u8 a0)))] [] [] [(.one (.val (.bool (m111 a0))))]) := by
  unfold m111
  by_cases h0 : (decide (a0 ≥ 97)) = true
  · try simp only [if_pos h0]
    by_cases h1 : (decide (a0 ≤ 122)) = true
    · try simp only [if_pos h1]
      exact callP_ok (ps := []) (os := []) (rs := [(.one (.val (.bool true)))]) (by kernel_rfl) (.f h0 (.f h0 (.f h0 (.f h1 (.f h1 (.f h1 (.f h1 (.f h1 (.h 8 (.b true) (.h 10 (.b true) (.h 13 (.b true) (.h 16 (.b true) (.h 18 (.b true) (.h 20 (.b true) (.h 26 (.b true) (.h 29 (.b true) .nil))))))))))))))))
    · try simp only [if_neg h1]
      by_cases h2 : (decide (a0 ≥ 65)) = true
      · try simp only [if_pos h2]
        by_cases h3 : (decide (a0 ≤ 90)) = true
        · try simp only [if_pos h3]
          exact callP_ok (ps := []) (os := []) (rs := [(.one (.val (.bool true)))]) (by kernel_rfl) (.f h0 (.f h0 (.f h0 (.f (nt h1) (.f (nt h1) (.f (nt h1) (.f h2 (.f h2 (.f (nt h1) (.f h2 (.f (nt h1) (.f h3 (.f h3 (.f h3 (.f h3 (.f h3 (.h 8 (.b true) (.h 10 (.b true) (.h 13 (.b true) (.h 16 (.b false) (.h 18 (.b false) (.h 20 (.b false) (.h 22 (.b true) (.h 24 (.b true) (.h 26 (.b false) (.h 27 (.b true) (.h 29 (.b false) (.h 32 (.b true) (.h 34 (.b true) (.h 36 (.b true) (.h 42 (.b true) (.h 45 (.b true) .nil))))))))))))))))))))))))))))))))
        · try simp only [if_neg h3]
          by_cases h4 : (decide (a0 ≥ 48)) = true
          · try simp only [if_pos h4]
            exact callP_ok (ps := []) (os := []) (rs := [(.one (.val (.bool (decide (a0 ≤ 57)))))]) (by kernel_rfl) (.f h0 (.f h0 (.f h0 (.f (nt h1) (.f (nt h1) (.f (nt h1) (.f h2 (.f h2 (.f (nt h1) (.f h2 (.f (nt h1) (.f (nt h3) (.f (nt h3) (.f (nt h3) (.f h4 (.f h4 (.f (nt h3) (.f h4 (.f (nt h3) (.h 8 (.b true) (.h 10 (.b true) (.h 13 (.b true) (.h 16 (.b false) (.h 18 (.b false) (.h 20 (.b false) (.h 22 (.b true) (.h 24 (.b true) (.h 26 (.b false) (.h 27 (.b true) (.h 29 (.b false) (.h 32 (.b false) (.h 34 (.b false) (.h 36 (.b false) (.h 38 (.b true) (.h 40 (.b true) (.h 42 (.b false) (.h 43 (.b true) (.h 45 (.b false) .nil))))))))))))))))))))))))))))))))))))))
          · try simp only [if_neg h4]
            exact callP_ok (ps := []) (os := []) (rs := [(.one (.val (.bool false)))]) (by kernel_rfl) (.f h0 (.f h0 (.f h0 (.f (nt h1) (.f (nt h1) (.f (nt h1) (.f h2 (.f h2 (.f (nt h1) (.f h2 (.f (nt h1) (.f (nt h3) (.f (nt h3) (.f (nt h3) (.f (nt h4) (.f (nt h4) (.f (nt h3) (.f (nt h4) (.f (nt h3) (.h 8 (.b true) (.h 10 (.b true) (.h 13 (.b true) (.h 16 (.b false) (.h 18 (.b false) (.h 20 (.b false) (.h 22 (.b true) (.h 24 (.b true) (.h 26 (.b false) (.h 27 (.b true) (.h 29 (.b false) (.h 32 (.b false) (.h 34 (.b false) (.h 36 (.b false) (.h 38 (.b false) (.h 40 (.b false) (.h 42 (.b false) (.h 43 (.b false) (.h 45 (.b false) .nil))))))))))))))))))))))))))))))))))))))
      · try simp only [if_neg h2]
        by_cases h3 : (decide (a0 ≥ 48)) = true
        · try simp only [if_pos h3]
          exact callP_ok (ps := []) (os := []) (rs := [(.one (.val (.bool (decide (a0 ≤ 57)))))]) (by kernel_rfl) (.f h0 (.f h0 (.f h0 (.f (nt h1) (.f (nt h1) (.f (nt h1) (.f (nt h2) (.f (nt h2) (.f (nt h1) (.f (nt h2) (.f (nt h1) (.f h3 (.f h3 (.f h3 (.h 8 (.b true) (.h 10 (.b true) (.h 13 (.b true) (.h 16 (.b false) (.h 18 (.b false) (.h 20 (.b false) (.h 22 (.b false) (.h 24 (.b false) (.h 26 (.b false) (.h 27 (.b false) (.h 29 (.b false) (.h 38 (.b true) (.h 40 (.b true) (.h 43 (.b true) .nil))))))))))))))))))))))))))))
        · try simp only [if_neg h3]
          exact callP_ok (ps := []) (os := []) (rs := [(.one (.val (.bool false)))]) (by kernel_rfl) (.f h0 (.f h0 (.f h0 (.f (nt h1) (.f (nt h1) (.f (nt h1) (.f (nt h2) (.f (nt h2) (.f (nt h1) (.f (nt h2) (.f (nt h1) (.f (nt h3) (.f (nt h3) (.f (nt h3) (.h 8 (.b true) (.h 10 (.b true) (.h 13 (.b true) (.h 16 (.b false) (.h 18 (.b false) (.h 20 (.b false) (.h 22 (.b false) (.h 24 (.b false) (.h 26 (.b false) (.h 27 (.b false) (.h 29 (.b false) (.h 38 (.b false) (.h 40 (.b false) (.h 43 (.b false) .nil))))))))))))))))))))))))))))
  · try simp only [if_neg h0]
    by_cases h1 : (decide (a0 ≥ 65)) = true
    · try simp only [if_pos h1]
      by_cases h2 : (decide (a0 ≤ 90)) = true
      · try simp only [if_pos h2]
        exact callP_ok (ps := []) (os := []) (rs := [(.one (.val (.bool true)))]) (by kernel_rfl) (.f (nt h0) (.f (nt h0) (.f (nt h0) (.f h1 (.f h1 (.f h1 (.f h2 (.f h2 (.f h2 (.f h2 (.f h2 (.h 8 (.b false) (.h 10 (.b false) (.h 13 (.b false) (.h 22 (.b true) (.h 24 (.b true) (.h 27 (.b true) (.h 32 (.b true) (.h 34 (.b true) (.h 36 (.b true) (.h 42 (.b true) (.h 45 (.b true) .nil))))))))))))))))))))))
      · try simp only [if_neg h2]
        by_cases h3 : (decide (a0 ≥ 48)) = true
        · try simp only [if_pos h3]
          exact callP_ok (ps := []) (os := []) (rs := [(.one (.val (.bool (decide (a0 ≤ 57)))))]) (by kernel_rfl) (.f (nt h0) (.f (nt h0) (.f (nt h0) (.f h1 (.f h1 (.f h1 (.f (nt h2) (.f (nt h2) (.f (nt h2) (.f h3 (.f h3 (.f (nt h2) (.f h3 (.f (nt h2) (.h 8 (.b false) (.h 10 (.b false) (.h 13 (.b false) (.h 22 (.b true) (.h 24 (.b true) (.h 27 (.b true) (.h 32 (.b false) (.h 34 (.b false) (.h 36 (.b false) (.h 38 (.b true) (.h 40 (.b true) (.h 42 (.b false) (.h 43 (.b true) (.h 45 (.b false) .nil))))))))))))))))))))))))))))
        · try simp only [if_neg h3]
          exact callP_ok (ps := []) (os := []) (rs := [(.one (.val (.bool false)))]) (by kernel_rfl) (.f (nt h0) (.f (nt h0) (.f (nt h0) (.f h1 (.f h1 (.f h1 (.f (nt h2) (.f (nt h2) (.f (nt h2) (.f (nt h3) (.f (nt h3) (.f (nt h2) (.f (nt h3) (.f (nt h2) (.h 8 (.b false) (.h 10 (.b false) (.h 13 (.b false) (.h 22 (.b true) (.h 24 (.b true) (.h 27 (.b true) (.h 32 (.b false) (.h 34 (.b false) (.h 36 (.b false) (.h 38 (.b false) (.h 40 (.b false) (.h 42 (.b false) (.h 43 (.b false) (.h 45 (.b false) .nil))))))))))))))))))))))))))))
    · try simp only [if_neg h1]
      by_cases h2 : (decide (a0 ≥ 48)) = true
      · try simp only [if_pos h2]
        exact callP_ok (ps := []) (os := []) (rs := [(.one (.val (.bool (decide (a0 ≤ 57)))))]) (by kernel_rfl) (.f (nt h0) (.f (nt h0) (.f (nt h0) (.f (nt h1) (.f (nt h1) (.f (nt h1) (.f h2 (.f h2 (.f h2 (.h 8 (.b false) (.h 10 (.b false) (.h 13 (.b false) (.h 22 (.b false) (.h 24 (.b false) (.h 27 (.b false) (.h 38 (.b true) (.h 40 (.b true) (.h 43 (.b true) .nil))))))))))))))))))
      · try simp only [if_neg h2]
        exact callP_ok (ps := []) (os := []) (rs := [(.one (.val (.bool false)))]) (by kernel_rfl) (.f (nt h0) (.f (nt h0) (.f (nt h0) (.f (nt h1) (.f (nt h1) (.f (nt h1) (.f (nt h2) (.f (nt h2) (.f (nt h2) (.h 8 (.b false) (.h 10 (.b false) (.h 13 (.b false) (.h 22 (.b false) (.h 24 (.b false) (.h 27 (.b false) (.h 38 (.b false) (.h 40 (.b false) (.h 43 (.b false) .nil))))))))))))))))))
/-! loop 93_0 -/
inductive O93_0 where
  | k0 (w0 : Int) (w1 : Bool)
  | k1
def r93_0 (a0 : ByteArray) : Nat → Int → O93_0
  | n_93_0 + 1, i_93_0 =>
    if (!(m111 (byteAt a0 i_93_0))) = true then (O93_0.k1) else
    (r93_0 a0 n_93_0 (i_93_0 + 1) )
  | 0, i_93_0 => (O93_0.k0 i_93_0 (decide (i_93_0 < (ByteArray.size a0 : Int))))
def h93_0 (a0 : ByteArray) (i_93_0 : Int)  : St := ⟨[(0, (.one (.val (.string a0)))), (3, (.one (.val (.int .i64 i_93_0))))], []⟩
def ex93_0 : O93_0 → VX.Exit
  | .k0 _ _ => (.exit 0)
  | .k1 => .ret
def fin93_0 (a0 : ByteArray) : O93_0 → St
  | .k0 w0 w1 => ⟨[(0, (.one (.val (.string a0)))), (3, (.one (.val (.int .i64 w0)))), (7, (.one (.val (.bool w1))))], []⟩
  | .k1 => ⟨[(2, (.one (.val (.bool false))))], []⟩
theorem t93_0 {a0 : ByteArray} (hy0 : ByteArray.size a0 ≤ 140737488351232) : ∀ (n_93_0 : Nat) (i_93_0 : Int) , 0 ≤ i_93_0 → n_93_0 = Int.toNat ((ByteArray.size a0 : Int) - i_93_0) → (ByteArray.size a0 : Int) ≤ 9223372036854775807 → Ev F X (.code l93_0 (h93_0 a0 i_93_0 ) (ex93_0 (r93_0 a0 n_93_0 i_93_0 )) (fin93_0 a0 (r93_0 a0 n_93_0 i_93_0 )))
  | 0, i_93_0, hn0, hn, hi0 => by
    have hc : ¬ (decide (i_93_0 < (ByteArray.size a0 : Int))) = true := by
      simp only [decide_eq_true_eq]; omega
    have st := codeH_ok (F := F) (X := X) (c := b93_0) (t := 0) (hs := [(8, .b false)]) (σ := h93_0 a0 i_93_0 ) (σ' := ⟨[(0, (.one (.val (.string a0)))), (3, (.one (.val (.int .i64 i_93_0)))), (7, (.one (.val (.bool (decide (i_93_0 < (ByteArray.size a0 : Int)))))))], []⟩) (e := (.exit 0)) (t' := 9) (hs' := []) (q := [(decide (i_93_0 < (ByteArray.size a0 : Int))) = false]) (by kernel_rfl) ⟨(nt hc), trivial⟩
    rw [show (⟨[(0, (.one (.val (.string a0)))), (3, (.one (.val (.int .i64 i_93_0)))), (7, (.one (.val (.bool (decide (i_93_0 < (ByteArray.size a0 : Int)))))))], []⟩ : St) = fin93_0 a0 (.k0 i_93_0 (decide (i_93_0 < (ByteArray.size a0 : Int)))) from by first | rfl | (unfold fin93_0; simp [byteRows_eq, ints_y, List.take_of_length_le, d_isii, d_b, d_i, d_s, d_y, fromBR_isii, fromBR_b, fromBR_i, fromBR_s, fromBR_y]; done)] at st
    exact .loopX st (show ((.exit 0) : VX.Exit) ≠ .normal from by simp)
  | n_93_0 + 1, i_93_0, hn0, hn, hi0 => by
    have hc : (decide (i_93_0 < (ByteArray.size a0 : Int))) = true := by
      simp only [decide_eq_true_eq]; omega
    have hw : IntKind.wrap .i64 (i_93_0 + 1) = i_93_0 + 1 := wrap64 (by omega)
    have hj0 := hi0; try simp only [List.length_map, List.length_set, List.length_append, List.length_replicate, List.length_cons, List.length_nil, Int.toNat_natCast] at hj0
    simp only [r93_0]
    by_cases h_93_0_1 : (!(m111 (byteAt a0 i_93_0))) = true
    · try simp only [if_pos h_93_0_1]
      have st := codeH_ok (F := F) (X := X) (c := b93_0) (t := 0) (hs := [(8, .b true), (16, .ret [] [(.one (.val (.bool (m111 (byteAt a0 i_93_0)))))] [] []), (19, .b true)]) (σ := h93_0 a0 i_93_0 ) (σ' := ⟨[(2, (.one (.val (.bool false))))], []⟩) (e := .ret) (t' := 22) (hs' := []) (q := [(decide (i_93_0 < (ByteArray.size a0 : Int))) = true, 0 ≤ i_93_0 ∧ i_93_0 < (ByteArray.size a0 : Int), Ev F X (.call 111 [(.one (.val (.int .u8 (byteAt a0 i_93_0))))] [] [] [(.one (.val (.bool (m111 (byteAt a0 i_93_0)))))]), (!(m111 (byteAt a0 i_93_0))) = true]) (by kernel_rfl) ⟨hc, (by first | exact True.intro | with_reducible rfl | with_reducible assumption | omega | (simp only [decide_eq_true_eq] at *; omega) | (simp only [List.length_map, List.length_set, List.length_append, List.length_replicate, List.length_cons, List.length_nil]; omega) | (simp; omega) | (simp [List.take_of_length_le]; done) | assumption | trivial | (simp [*, byteRows_eq, ints_y]; done)), (e111 (a0 := (byteAt a0 i_93_0))), h_93_0_1, trivial⟩
      rw [show (⟨[(2, (.one (.val (.bool false))))], []⟩ : St) = fin93_0 a0 (.k1) from by first | rfl | (unfold fin93_0; simp [byteRows_eq, ints_y, List.take_of_length_le, d_isii, d_b, d_i, d_s, d_y, fromBR_isii, fromBR_b, fromBR_i, fromBR_s, fromBR_y]; done)] at st
      exact .loopX st (show (.ret : VX.Exit) ≠ .normal from by simp)
    · try simp only [if_neg h_93_0_1]
      have st := codeH_ok (F := F) (X := X) (c := b93_0) (t := 0) (hs := [(8, .b true), (16, .ret [] [(.one (.val (.bool (m111 (byteAt a0 i_93_0)))))] [] []), (19, .b false)]) (σ := h93_0 a0 i_93_0 ) (σ' := ⟨[(0, (.one (.val (.string a0)))), (3, (.one (.val (.int .i64 (IntKind.wrap .i64 (i_93_0 + 1))))))], []⟩) (e := .normal) (t' := 26) (hs' := []) (q := [(decide (i_93_0 < (ByteArray.size a0 : Int))) = true, 0 ≤ i_93_0 ∧ i_93_0 < (ByteArray.size a0 : Int), Ev F X (.call 111 [(.one (.val (.int .u8 (byteAt a0 i_93_0))))] [] [] [(.one (.val (.bool (m111 (byteAt a0 i_93_0)))))]), (!(m111 (byteAt a0 i_93_0))) = false, True]) (by kernel_rfl) ⟨hc, (by first | exact True.intro | with_reducible rfl | with_reducible assumption | omega | (simp only [decide_eq_true_eq] at *; omega) | (simp only [List.length_map, List.length_set, List.length_append, List.length_replicate, List.length_cons, List.length_nil]; omega) | (simp; omega) | (simp [List.take_of_length_le]; done) | assumption | trivial | (simp [*, byteRows_eq, ints_y]; done)), (e111 (a0 := (byteAt a0 i_93_0))), (nt h_93_0_1), trivial, trivial⟩
      have ih := t93_0 (a0 := a0) hy0 n_93_0 (i_93_0 + 1)  (by omega) (by omega) (by first | omega | (simp only [List.length_map, List.length_set, List.length_append, List.length_replicate, List.length_cons, List.length_nil]; omega) | (simp only [List.length_map, List.length_set, List.length_append, List.length_replicate, List.length_cons, List.length_nil]; assumption) | assumption | (simp only [List.length_map, List.length_set, List.length_append, List.length_replicate, List.length_cons, List.length_nil] at *; omega))
      rw [show (⟨[(0, (.one (.val (.string a0)))), (3, (.one (.val (.int .i64 (IntKind.wrap .i64 (i_93_0 + 1))))))], []⟩ : St) = h93_0 a0 (i_93_0 + 1)  from by first | (unfold h93_0; simp only [hw]; done) | (unfold h93_0; simp only [hw, List.length_map, List.length_set, List.length_append, List.length_replicate, List.length_cons, List.length_nil]; done) | (unfold h93_0; simp [hw, byteRows_eq, ints_y, List.take_of_length_le, d_isii, d_b, d_i, d_s, d_y, fromBR_isii, fromBR_b, fromBR_i, fromBR_s, fromBR_y]; done)] at st
      exact .loopN st ih
/-! loop.example/g00539/spec.l9Arg -/
def m93 (a0 : ByteArray) : Bool :=
  (match r93_0 a0 (Int.toNat (ByteArray.size a0 : Int)) 0 with | .k0 w0_93_0_0 w1_93_0_0 => (decide ((ByteArray.size a0 : Int) ≤ 12)) | .k1 => false)
theorem e93 {a0 : ByteArray} (hy0 : ByteArray.size a0 ≤ 140737488351232) : Ev F X (.call 93 [(.one (.val (.string a0)))] [] [] [(.one (.val (.bool (m93 a0))))]) := by
  unfold m93
  cases h0 : r93_0 a0 (Int.toNat (ByteArray.size a0 : Int)) 0 with
  | k0 w0_93_0_0 w1_93_0_0 =>
    try dsimp only
    have f0 : (⟨[(0, (.one (.val (.string a0)))), (3, (.one (.val (.int .i64 0))))], []⟩ : St) = h93_0 a0 0  := (by first | rfl | (unfold h93_0; simp [byteRows_eq, ints_y, List.take_of_length_le, d_isii, d_b, d_i, d_s, d_y, fromBR_isii, fromBR_b, fromBR_i, fromBR_s, fromBR_y]; done))
    have f1 : Ev F X (.code l93_0 (h93_0 a0 0 ) (.exit 0) ⟨[(0, (.one (.val (.string a0)))), (3, (.one (.val (.int .i64 w0_93_0_0)))), (7, (.one (.val (.bool w1_93_0_0))))], []⟩) := (by have t : Ev F X (.code l93_0 (h93_0 a0 0 ) (ex93_0 (r93_0 a0 (Int.toNat (ByteArray.size a0 : Int)) 0)) (fin93_0 a0 (r93_0 a0 (Int.toNat (ByteArray.size a0 : Int)) 0))) := t93_0 (a0 := a0) (by first | assumption | omega) _ 0  (by omega) (by omega) (by first | rfl | omega | (simp only [List.length_map, List.length_set, List.length_append, List.length_replicate, List.length_cons, List.length_nil]; done) | (simp only [List.length_map, List.length_set, List.length_append, List.length_replicate, List.length_cons, List.length_nil]; omega) | (simp; done)); rw [h0] at t; exact t)
    exact callP_ok (ps := []) (os := []) (rs := [(.one (.val (.bool (decide ((ByteArray.size a0 : Int) ≤ 12)))))]) (by kernel_rfl) (.f f0 (.f f1 (.h 4 (.loop (h93_0 a0 0 ) (.exit 0) ⟨[(0, (.one (.val (.string a0)))), (3, (.one (.val (.int .i64 w0_93_0_0)))), (7, (.one (.val (.bool w1_93_0_0))))], []⟩) .nil)))
  | k1 =>
    try dsimp only
    have f0 : (⟨[(0, (.one (.val (.string a0)))), (3, (.one (.val (.int .i64 0))))], []⟩ : St) = h93_0 a0 0  := (by first | rfl | (unfold h93_0; simp [byteRows_eq, ints_y, List.take_of_length_le, d_isii, d_b, d_i, d_s, d_y, fromBR_isii, fromBR_b, fromBR_i, fromBR_s, fromBR_y]; done))
    have f1 : Ev F X (.code l93_0 (h93_0 a0 0 ) .ret ⟨[(2, (.one (.val (.bool false))))], []⟩) := (by have t : Ev F X (.code l93_0 (h93_0 a0 0 ) (ex93_0 (r93_0 a0 (Int.toNat (ByteArray.size a0 : Int)) 0)) (fin93_0 a0 (r93_0 a0 (Int.toNat (ByteArray.size a0 : Int)) 0))) := t93_0 (a0 := a0) (by first | assumption | omega) _ 0  (by omega) (by omega) (by first | rfl | omega | (simp only [List.length_map, List.length_set, List.length_append, List.length_replicate, List.length_cons, List.length_nil]; done) | (simp only [List.length_map, List.length_set, List.length_append, List.length_replicate, List.length_cons, List.length_nil]; omega) | (simp; done)); rw [h0] at t; exact t)
    exact callP_ok (ps := []) (os := []) (rs := [(.one (.val (.bool false)))]) (by kernel_rfl) (.f f0 (.f f1 (.h 4 (.loop (h93_0 a0 0 ) .ret ⟨[(2, (.one (.val (.bool false))))], []⟩) .nil)))
/-! loop.example/g00539/spec.l4Sum -/
def m94 (a0 : Int) : Bool :=
  (m72 a0 0 2147483646)
theorem e94 {a0 : Int} : Ev F X (.call 94 [(.one (.val (.int .i64 a0)))] [] [] [(.one (.val (.bool (m72 a0 0 2147483646))))]) := by
  have f0 : Ev F X (.call 72 [(.one (.val (.int .i64 a0))), (.one (.val (.int .i64 0))), (.one (.val (.int .i64 2147483646)))] [] [] [(.one (.val (.bool (m72 a0 0 2147483646))))]) := (e72 (a0 := a0) (a1 := 0) (a2 := 2147483646))
  exact callP_ok (ps := []) (os := []) (rs := [(.one (.val (.bool (m72 a0 0 2147483646))))]) (by kernel_rfl) (.r 5 [] [] f0 .nil)
end Go.Proofs.YtcbnpfnebinbkaaDoor.EntryFault
