/- What the functions compute. -/
import Derived.Test.YtcbnpfnebinbkaaDoorTPushWeight
import Derived.Test.YtcbnpfnebinbkaaDoorVNum
import Derived.Test.YtcbnpfnebinbkaaDoorVClone
import Derived.Test.YtcbnpfnebinbkaaDoorVExt
import Derived.Test.YtcbnpfnebinbkaaDoorXPushWeight
import Derived.KernelRfl
namespace Go.Proofs.YtcbnpfnebinbkaaDoor.PushWeight
open Go Go.Proofs.YtcbnpfnebinbkaaDoor.V
set_option linter.unusedVariables false
set_option linter.unusedSimpArgs false
set_option maxRecDepth 20000
def X : Ext := fun f args rs => (f = 74 ∧ CloneX 2 24 args rs) ∨ (f = 112 ∧ TrimX args rs)
structure K_si where
  f0 : ByteArray
  f1 : Int
def b_si (x : K_si) : List B := [(.val (.string x.f0)), (.val (.int .i64 x.f1))]
def d_si (x : K_si) : List D := [(.val (.string x.f0)), (.val (.int .i64 x.f1))]
theorem toBR_si : ∀ (l : List K_si), toBR (l.map d_si) = l.map b_si
  | [] => rfl
  | x :: l => by simp [toBR, toBL, toB, d_si, b_si, toBR_si l]
theorem fullR_si : ∀ (l : List K_si), fullR (l.map d_si) = true
  | [] => rfl
  | x :: l => by simp [fullR, fullL, full, d_si, fullR_si l]
theorem pureR_si : ∀ (l : List K_si), pureR (l.map d_si) = true
  | [] => rfl
  | x :: l => by simp [pureR, pureL, V.pure, d_si, pureR_si l]
theorem ft_si (a b : Nat) (l : List K_si) : fullR (List.take a (List.drop b (l.map d_si))) = true := by rw [← List.map_drop, ← List.map_take]; exact fullR_si _
theorem tbt_si (a b : Nat) (l : List K_si) : toBR (List.take a (List.drop b (l.map d_si))) = (List.take a (List.drop b l)).map b_si := by rw [← List.map_drop, ← List.map_take]; exact toBR_si _
theorem tb_si (l : List K_si) : toBR (List.take (l.map d_si).length (List.drop 0 (l.map d_si))) = l.map b_si := by rw [List.drop_zero, List.take_length]; exact toBR_si l
theorem lenB_si (l : List K_si) : ∀ r ∈ l.map b_si, r.length = 2 := by intro r h; obtain ⟨x, _, rfl⟩ := List.mem_map.1 h; rfl
theorem lenD_si (l : List K_si) : ∀ r ∈ l.map d_si, r.length = 2 := by intro r h; obtain ⟨x, _, rfl⟩ := List.mem_map.1 h; rfl
def os_si (x : K_si) : Prop := (ByteArray.size x.f0 ≤ 140737488351232)
theorem fromBR_si (n : Nat) (l : List K_si) : fromBR n (l.map b_si) = l.map d_si := by simp [fromBR, b_si, d_si, fromB, Function.comp_def]
theorem copy_si (l : List K_si) : (l.map d_si).all (fun x => x.all copyable) = true := by simp [d_si, copyable, Function.comp_def]
theorem ct_si (a b : Nat) (l : List K_si) : ((List.take a (List.drop b (l.map d_si))).all fun x => x.all copyable) = true := by rw [← List.map_drop, ← List.map_take]; exact copy_si _
def b_LsiE (x : (List K_si)) : List B := [(.sl (List.map b_si x))]
def d_LsiE (x : (List K_si)) : List D := [(.own 2 (List.map d_si x))]
theorem toBR_LsiE : ∀ (l : List (List K_si)), toBR (l.map d_LsiE) = l.map b_LsiE
  | [] => rfl
  | x :: l => by simp [toBR, toBL, toB, d_LsiE, b_LsiE, toBR_LsiE l, toBR_si]
theorem fullR_LsiE : ∀ (l : List (List K_si)), fullR (l.map d_LsiE) = true
  | [] => rfl
  | x :: l => by simp [fullR, fullL, full, d_LsiE, fullR_LsiE l, fullR_si]
theorem pureR_LsiE : ∀ (l : List (List K_si)), pureR (l.map d_LsiE) = true
  | [] => rfl
  | x :: l => by simp [pureR, pureL, V.pure, d_LsiE, pureR_LsiE l, pureR_si]
theorem ft_LsiE (a b : Nat) (l : List (List K_si)) : fullR (List.take a (List.drop b (l.map d_LsiE))) = true := by rw [← List.map_drop, ← List.map_take]; exact fullR_LsiE _
theorem tbt_LsiE (a b : Nat) (l : List (List K_si)) : toBR (List.take a (List.drop b (l.map d_LsiE))) = (List.take a (List.drop b l)).map b_LsiE := by rw [← List.map_drop, ← List.map_take]; exact toBR_LsiE _
theorem tb_LsiE (l : List (List K_si)) : toBR (List.take (l.map d_LsiE).length (List.drop 0 (l.map d_LsiE))) = l.map b_LsiE := by rw [List.drop_zero, List.take_length]; exact toBR_LsiE l
theorem lenB_LsiE (l : List (List K_si)) : ∀ r ∈ l.map b_LsiE, r.length = 1 := by intro r h; obtain ⟨x, _, rfl⟩ := List.mem_map.1 h; rfl
theorem lenD_LsiE (l : List (List K_si)) : ∀ r ∈ l.map d_LsiE, r.length = 1 := by intro r h; obtain ⟨x, _, rfl⟩ := List.mem_map.1 h; rfl
def ok_LsiE (x : (List K_si)) : Prop := (List.length x * 24 ≤ 140737488351232)
def os_LsiE (x : (List K_si)) : Prop := (List.length x * 24 ≤ 140737488351232) ∧ (∀ z ∈ x, os_si z)
theorem os_ok_LsiE (x : (List K_si)) (h : os_LsiE x) : ok_LsiE x := h.1
def b_i (x : Int) : List B := [(.val (.int .i64 x))]
def d_i (x : Int) : List D := [(.val (.int .i64 x))]
theorem toBR_i : ∀ (l : List Int), toBR (l.map d_i) = l.map b_i
  | [] => rfl
  | x :: l => by simp [toBR, toBL, toB, d_i, b_i, toBR_i l]
theorem fullR_i : ∀ (l : List Int), fullR (l.map d_i) = true
  | [] => rfl
  | x :: l => by simp [fullR, fullL, full, d_i, fullR_i l]
theorem pureR_i : ∀ (l : List Int), pureR (l.map d_i) = true
  | [] => rfl
  | x :: l => by simp [pureR, pureL, V.pure, d_i, pureR_i l]
theorem ft_i (a b : Nat) (l : List Int) : fullR (List.take a (List.drop b (l.map d_i))) = true := by rw [← List.map_drop, ← List.map_take]; exact fullR_i _
theorem tbt_i (a b : Nat) (l : List Int) : toBR (List.take a (List.drop b (l.map d_i))) = (List.take a (List.drop b l)).map b_i := by rw [← List.map_drop, ← List.map_take]; exact toBR_i _
theorem tb_i (l : List Int) : toBR (List.take (l.map d_i).length (List.drop 0 (l.map d_i))) = l.map b_i := by rw [List.drop_zero, List.take_length]; exact toBR_i l
theorem lenB_i (l : List Int) : ∀ r ∈ l.map b_i, r.length = 1 := by intro r h; obtain ⟨x, _, rfl⟩ := List.mem_map.1 h; rfl
theorem lenD_i (l : List Int) : ∀ r ∈ l.map d_i, r.length = 1 := by intro r h; obtain ⟨x, _, rfl⟩ := List.mem_map.1 h; rfl
theorem fromBR_i (n : Nat) (l : List Int) : fromBR n (l.map b_i) = l.map d_i := by simp [fromBR, b_i, d_i, fromB, Function.comp_def]
theorem copy_i (l : List Int) : (l.map d_i).all (fun x => x.all copyable) = true := by simp [d_i, copyable, Function.comp_def]
theorem ct_i (a b : Nat) (l : List Int) : ((List.take a (List.drop b (l.map d_i))).all fun x => x.all copyable) = true := by rw [← List.map_drop, ← List.map_take]; exact copy_i _
def b_b (x : Bool) : List B := [(.val (.bool x))]
def d_b (x : Bool) : List D := [(.val (.bool x))]
theorem toBR_b : ∀ (l : List Bool), toBR (l.map d_b) = l.map b_b
  | [] => rfl
  | x :: l => by simp [toBR, toBL, toB, d_b, b_b, toBR_b l]
theorem fullR_b : ∀ (l : List Bool), fullR (l.map d_b) = true
  | [] => rfl
  | x :: l => by simp [fullR, fullL, full, d_b, fullR_b l]
theorem pureR_b : ∀ (l : List Bool), pureR (l.map d_b) = true
  | [] => rfl
  | x :: l => by simp [pureR, pureL, V.pure, d_b, pureR_b l]
theorem ft_b (a b : Nat) (l : List Bool) : fullR (List.take a (List.drop b (l.map d_b))) = true := by rw [← List.map_drop, ← List.map_take]; exact fullR_b _
theorem tbt_b (a b : Nat) (l : List Bool) : toBR (List.take a (List.drop b (l.map d_b))) = (List.take a (List.drop b l)).map b_b := by rw [← List.map_drop, ← List.map_take]; exact toBR_b _
theorem tb_b (l : List Bool) : toBR (List.take (l.map d_b).length (List.drop 0 (l.map d_b))) = l.map b_b := by rw [List.drop_zero, List.take_length]; exact toBR_b l
theorem lenB_b (l : List Bool) : ∀ r ∈ l.map b_b, r.length = 1 := by intro r h; obtain ⟨x, _, rfl⟩ := List.mem_map.1 h; rfl
theorem lenD_b (l : List Bool) : ∀ r ∈ l.map d_b, r.length = 1 := by intro r h; obtain ⟨x, _, rfl⟩ := List.mem_map.1 h; rfl
theorem fromBR_b (n : Nat) (l : List Bool) : fromBR n (l.map b_b) = l.map d_b := by simp [fromBR, b_b, d_b, fromB, Function.comp_def]
theorem copy_b (l : List Bool) : (l.map d_b).all (fun x => x.all copyable) = true := by simp [d_b, copyable, Function.comp_def]
theorem ct_b (a b : Nat) (l : List Bool) : ((List.take a (List.drop b (l.map d_b))).all fun x => x.all copyable) = true := by rw [← List.map_drop, ← List.map_take]; exact copy_b _
structure K_iLsiE where
  f0 : Int
  f1 : (List K_si)
def b_iLsiE (x : K_iLsiE) : List B := [(.val (.int .i64 x.f0)), (.sl (List.map b_si x.f1))]
def d_iLsiE (x : K_iLsiE) : List D := [(.val (.int .i64 x.f0)), (.own 2 (List.map d_si x.f1))]
theorem toBR_iLsiE : ∀ (l : List K_iLsiE), toBR (l.map d_iLsiE) = l.map b_iLsiE
  | [] => rfl
  | x :: l => by simp [toBR, toBL, toB, d_iLsiE, b_iLsiE, toBR_iLsiE l, toBR_si]
theorem fullR_iLsiE : ∀ (l : List K_iLsiE), fullR (l.map d_iLsiE) = true
  | [] => rfl
  | x :: l => by simp [fullR, fullL, full, d_iLsiE, fullR_iLsiE l, fullR_si]
theorem pureR_iLsiE : ∀ (l : List K_iLsiE), pureR (l.map d_iLsiE) = true
  | [] => rfl
  | x :: l => by simp [pureR, pureL, V.pure, d_iLsiE, pureR_iLsiE l, pureR_si]
theorem ft_iLsiE (a b : Nat) (l : List K_iLsiE) : fullR (List.take a (List.drop b (l.map d_iLsiE))) = true := by rw [← List.map_drop, ← List.map_take]; exact fullR_iLsiE _
theorem tbt_iLsiE (a b : Nat) (l : List K_iLsiE) : toBR (List.take a (List.drop b (l.map d_iLsiE))) = (List.take a (List.drop b l)).map b_iLsiE := by rw [← List.map_drop, ← List.map_take]; exact toBR_iLsiE _
theorem tb_iLsiE (l : List K_iLsiE) : toBR (List.take (l.map d_iLsiE).length (List.drop 0 (l.map d_iLsiE))) = l.map b_iLsiE := by rw [List.drop_zero, List.take_length]; exact toBR_iLsiE l
theorem lenB_iLsiE (l : List K_iLsiE) : ∀ r ∈ l.map b_iLsiE, r.length = 2 := by intro r h; obtain ⟨x, _, rfl⟩ := List.mem_map.1 h; rfl
theorem lenD_iLsiE (l : List K_iLsiE) : ∀ r ∈ l.map d_iLsiE, r.length = 2 := by intro r h; obtain ⟨x, _, rfl⟩ := List.mem_map.1 h; rfl
def ok_iLsiE (x : K_iLsiE) : Prop := (List.length x.f1 * 24 ≤ 140737488351232)
def os_iLsiE (x : K_iLsiE) : Prop := (List.length x.f1 * 24 ≤ 140737488351232) ∧ (∀ z ∈ x.f1, os_si z)
theorem os_ok_iLsiE (x : K_iLsiE) (h : os_iLsiE x) : ok_iLsiE x := h.1
def b_s (x : ByteArray) : List B := [(.val (.string x))]
def d_s (x : ByteArray) : List D := [(.val (.string x))]
theorem toBR_s : ∀ (l : List ByteArray), toBR (l.map d_s) = l.map b_s
  | [] => rfl
  | x :: l => by simp [toBR, toBL, toB, d_s, b_s, toBR_s l]
theorem fullR_s : ∀ (l : List ByteArray), fullR (l.map d_s) = true
  | [] => rfl
  | x :: l => by simp [fullR, fullL, full, d_s, fullR_s l]
theorem pureR_s : ∀ (l : List ByteArray), pureR (l.map d_s) = true
  | [] => rfl
  | x :: l => by simp [pureR, pureL, V.pure, d_s, pureR_s l]
theorem ft_s (a b : Nat) (l : List ByteArray) : fullR (List.take a (List.drop b (l.map d_s))) = true := by rw [← List.map_drop, ← List.map_take]; exact fullR_s _
theorem tbt_s (a b : Nat) (l : List ByteArray) : toBR (List.take a (List.drop b (l.map d_s))) = (List.take a (List.drop b l)).map b_s := by rw [← List.map_drop, ← List.map_take]; exact toBR_s _
theorem tb_s (l : List ByteArray) : toBR (List.take (l.map d_s).length (List.drop 0 (l.map d_s))) = l.map b_s := by rw [List.drop_zero, List.take_length]; exact toBR_s l
theorem lenB_s (l : List ByteArray) : ∀ r ∈ l.map b_s, r.length = 1 := by intro r h; obtain ⟨x, _, rfl⟩ := List.mem_map.1 h; rfl
theorem lenD_s (l : List ByteArray) : ∀ r ∈ l.map d_s, r.length = 1 := by intro r h; obtain ⟨x, _, rfl⟩ := List.mem_map.1 h; rfl
def os_s (x : ByteArray) : Prop := (ByteArray.size x ≤ 140737488351232)
theorem fromBR_s (n : Nat) (l : List ByteArray) : fromBR n (l.map b_s) = l.map d_s := by simp [fromBR, b_s, d_s, fromB, Function.comp_def]
theorem copy_s (l : List ByteArray) : (l.map d_s).all (fun x => x.all copyable) = true := by simp [d_s, copyable, Function.comp_def]
theorem ct_s (a b : Nat) (l : List ByteArray) : ((List.take a (List.drop b (l.map d_s))).all fun x => x.all copyable) = true := by rw [← List.map_drop, ← List.map_take]; exact copy_s _
def b_y (x : Int) : List B := [(.val (.int .u8 x))]
def d_y (x : Int) : List D := [(.val (.int .u8 x))]
theorem toBR_y : ∀ (l : List Int), toBR (l.map d_y) = l.map b_y
  | [] => rfl
  | x :: l => by simp [toBR, toBL, toB, d_y, b_y, toBR_y l]
theorem fullR_y : ∀ (l : List Int), fullR (l.map d_y) = true
  | [] => rfl
  | x :: l => by simp [fullR, fullL, full, d_y, fullR_y l]
theorem pureR_y : ∀ (l : List Int), pureR (l.map d_y) = true
  | [] => rfl
  | x :: l => by simp [pureR, pureL, V.pure, d_y, pureR_y l]
theorem ft_y (a b : Nat) (l : List Int) : fullR (List.take a (List.drop b (l.map d_y))) = true := by rw [← List.map_drop, ← List.map_take]; exact fullR_y _
theorem tbt_y (a b : Nat) (l : List Int) : toBR (List.take a (List.drop b (l.map d_y))) = (List.take a (List.drop b l)).map b_y := by rw [← List.map_drop, ← List.map_take]; exact toBR_y _
theorem tb_y (l : List Int) : toBR (List.take (l.map d_y).length (List.drop 0 (l.map d_y))) = l.map b_y := by rw [List.drop_zero, List.take_length]; exact toBR_y l
theorem lenB_y (l : List Int) : ∀ r ∈ l.map b_y, r.length = 1 := by intro r h; obtain ⟨x, _, rfl⟩ := List.mem_map.1 h; rfl
theorem lenD_y (l : List Int) : ∀ r ∈ l.map d_y, r.length = 1 := by intro r h; obtain ⟨x, _, rfl⟩ := List.mem_map.1 h; rfl
theorem fromBR_y (n : Nat) (l : List Int) : fromBR n (l.map b_y) = l.map d_y := by simp [fromBR, b_y, d_y, fromB, Function.comp_def]
theorem copy_y (l : List Int) : (l.map d_y).all (fun x => x.all copyable) = true := by simp [d_y, copyable, Function.comp_def]
theorem ct_y (a b : Nat) (l : List Int) : ((List.take a (List.drop b (l.map d_y))).all fun x => x.all copyable) = true := by rw [← List.map_drop, ← List.map_take]; exact copy_y _
def strInts (s : ByteArray) : List Int := s.data.toList.map fun b => (b.toNat : Int)
theorem byteRows_eq (s : ByteArray) : byteRows s = (strInts s).map d_y := by simp [byteRows, strInts, d_y, Function.comp_def]
theorem ints_y : ∀ (l : List Int), rowsInts .u8 (l.map d_y) = some l
  | [] => rfl
  | x :: l => by simp only [List.map_cons, d_y, rowsInts, ints_y l]; rfl
attribute [local simp] toBR_si fullR_si pureR_si lenB_si lenD_si fromBR_si copy_si toBR_LsiE fullR_LsiE pureR_LsiE lenB_LsiE lenD_LsiE toBR_i fullR_i pureR_i lenB_i lenD_i fromBR_i copy_i toBR_b fullR_b pureR_b lenB_b lenD_b fromBR_b copy_b toBR_iLsiE fullR_iLsiE pureR_iLsiE lenB_iLsiE lenD_iLsiE toBR_s fullR_s pureR_s lenB_s lenD_s fromBR_s copy_s toBR_y fullR_y pureR_y lenB_y lenD_y fromBR_y copy_y

/-! loop.example/g00539/laws.szWeight -/
def m29 (a0 : K_si) (a1 : Int) : Int :=
  if (decide ((IntKind.wrap .i64 (a1 - (ByteArray.size a0.f0 : Int))) < 0)) = true then (-1) else
  (IntKind.wrap .i64 (a1 - (ByteArray.size a0.f0 : Int)))
theorem e29 {a0 : K_si} {a1 : Int} : Ev F X (.call 29 [(.agg [(.val (.string a0.f0)), (.val (.int .i64 a0.f1))]), (.one (.val (.int .i64 a1)))] [] [] [(.one (.val (.int .i64 (m29 a0 a1))))]) := by
  unfold m29
  by_cases h0 : (decide ((IntKind.wrap .i64 (a1 - (ByteArray.size a0.f0 : Int))) < 0)) = true
  · try simp only [if_pos h0]
    exact callP_ok (ps := []) (os := []) (rs := [(.one (.val (.int .i64 (-1))))]) (by kernel_rfl) (.f h0 (.h 20 (.b true) .nil))
  · try simp only [if_neg h0]
    exact callP_ok (ps := []) (os := []) (rs := [(.one (.val (.int .i64 (IntKind.wrap .i64 (a1 - (ByteArray.size a0.f0 : Int))))))]) (by kernel_rfl) (.f (nt h0) (.h 20 (.b false) .nil))
/-! loop 16_0 -/
inductive O16_0 where
  | k0 (w0 : Int) (w1 : Int) (w2 : Bool)
  | k1
def r16_0 (a0 : (List K_si)) : List K_si → Int → Int → O16_0
  | x0_16_0 :: l0_16_0, i_16_0, v0_16_0 =>
    if (decide ((m29 x0_16_0 v0_16_0) < 0)) = true then (O16_0.k1) else
    (r16_0 a0 l0_16_0 (i_16_0 + 1) (m29 x0_16_0 v0_16_0))
  | [], i_16_0, v0_16_0 => (O16_0.k0 v0_16_0 i_16_0 (decide (i_16_0 < ((List.length (List.map b_si a0)) : Int))))
def h16_0 (l0_0 : Nat) (a0 : (List K_si)) (a1 : Int) (i_16_0 : Int) (v0_16_0 : Int) : St := ⟨[(0, (.one (.bor l0_0 (List.map b_si a0)))), (1, (.one (.val (.int .i64 v0_16_0)))), (5, (.one (.val (.int .i64 i_16_0))))], []⟩
def ex16_0 : O16_0 → VX.Exit
  | .k0 _ _ _ => (.exit 0)
  | .k1 => .ret
def fin16_0 (l0_0 : Nat) (a0 : (List K_si)) (a1 : Int) : O16_0 → St
  | .k0 w0 w1 w2 => ⟨[(0, (.one (.bor l0_0 (List.map b_si a0)))), (1, (.one (.val (.int .i64 w0)))), (5, (.one (.val (.int .i64 w1)))), (15, (.one (.val (.bool w2))))], []⟩
  | .k1 => ⟨[(4, (.one (.val (.int .i64 (-1)))))], []⟩
theorem t16_0 {l0_0 : Nat} {a0 : (List K_si)} {a1 : Int} (hy0 : List.length a0 * 24 ≤ 140737488351232) : ∀ (l0_16_0 : List K_si) (p_16_0 : List K_si) (v0_16_0 : Int), p_16_0 ++ l0_16_0 = a0 → Ev F X (.code l16_0 (h16_0 l0_0 a0 a1 (List.length p_16_0 : Int) v0_16_0) (ex16_0 (r16_0 a0 l0_16_0 (List.length p_16_0 : Int) v0_16_0)) (fin16_0 l0_0 a0 a1 (r16_0 a0 l0_16_0 (List.length p_16_0 : Int) v0_16_0)))
  | [], p_16_0, v0_16_0, hp0 => by
    have hc : ¬ (decide ((List.length p_16_0 : Int) < ((List.length (List.map b_si a0)) : Int))) = true := by
      rw [← hp0]; simp only [List.length_map, List.length_set, List.length_append, List.length_replicate, List.length_cons, List.length_nil, decide_eq_true_eq]; omega
    have st := codeH_ok (F := F) (X := X) (c := b16_0) (t := 0) (hs := [(8, .b false)]) (σ := h16_0 l0_0 a0 a1 (List.length p_16_0 : Int) v0_16_0) (σ' := ⟨[(0, (.one (.bor l0_0 (List.map b_si a0)))), (1, (.one (.val (.int .i64 v0_16_0)))), (5, (.one (.val (.int .i64 (List.length p_16_0 : Int))))), (15, (.one (.val (.bool (decide ((List.length p_16_0 : Int) < ((List.length (List.map b_si a0)) : Int)))))))], []⟩) (e := (.exit 0)) (t' := 9) (hs' := []) (q := [(decide ((List.length p_16_0 : Int) < ((List.length (List.map b_si a0)) : Int))) = false]) (by kernel_rfl) ⟨(nt hc), trivial⟩
    rw [show (⟨[(0, (.one (.bor l0_0 (List.map b_si a0)))), (1, (.one (.val (.int .i64 v0_16_0)))), (5, (.one (.val (.int .i64 (List.length p_16_0 : Int))))), (15, (.one (.val (.bool (decide ((List.length p_16_0 : Int) < ((List.length (List.map b_si a0)) : Int)))))))], []⟩ : St) = fin16_0 l0_0 a0 a1 (.k0 v0_16_0 (List.length p_16_0 : Int) (decide ((List.length p_16_0 : Int) < ((List.length (List.map b_si a0)) : Int)))) from by first | rfl | (unfold fin16_0; simp [byteRows_eq, ints_y, List.take_of_length_le, d_si, d_LsiE, d_i, d_b, d_iLsiE, d_s, d_y, fromBR_si, fromBR_i, fromBR_b, fromBR_s, fromBR_y]; done)] at st
    exact .loopX st (show ((.exit 0) : VX.Exit) ≠ .normal from by simp)
  | x0_16_0 :: l0_16_0, p_16_0, v0_16_0, hp0 => by
    have hc : (decide ((List.length p_16_0 : Int) < ((List.length (List.map b_si a0)) : Int))) = true := by
      rw [← hp0]; simp only [List.length_map, List.length_set, List.length_append, List.length_replicate, List.length_cons, List.length_nil, decide_eq_true_eq]; omega
    have Hx0_16_0 : (a0)[Int.toNat (List.length p_16_0 : Int)]? = some x0_16_0 := by
      rw [← hp0, Int.toNat_natCast]; simp
    have hlen : List.length (a0) = List.length p_16_0 + List.length l0_16_0 + 1 := by rw [← hp0]; simp; omega
    have hw : IntKind.wrap .i64 ((List.length p_16_0 : Int) + 1) = (List.length p_16_0 : Int) + 1 := wrap64 (by omega)
    simp only [r16_0]
    by_cases h_16_0_1 : (decide ((m29 x0_16_0 v0_16_0) < 0)) = true
    · try simp only [if_pos h_16_0_1]
      have st := codeH_ok (F := F) (X := X) (c := b16_0) (t := 0) (hs := [(8, .b true), (14, .row [(.val (.string x0_16_0.f0)), (.val (.int .i64 x0_16_0.f1))]), (20, .ret [] [(.one (.val (.int .i64 (m29 x0_16_0 v0_16_0))))] [] []), (27, .b true)]) (σ := h16_0 l0_0 a0 a1 (List.length p_16_0 : Int) v0_16_0) (σ' := ⟨[(4, (.one (.val (.int .i64 (-1)))))], []⟩) (e := .ret) (t' := 30) (hs' := []) (q := [(decide ((List.length p_16_0 : Int) < ((List.length (List.map b_si a0)) : Int))) = true, 0 ≤ (List.length p_16_0 : Int), (List.map b_si a0)[(Int.toNat (List.length p_16_0 : Int))]? = some [(.val (.string x0_16_0.f0)), (.val (.int .i64 x0_16_0.f1))], Ev F X (.call 29 [(.agg [(.val (.string x0_16_0.f0)), (.val (.int .i64 x0_16_0.f1))]), (.one (.val (.int .i64 v0_16_0)))] [] [] [(.one (.val (.int .i64 (m29 x0_16_0 v0_16_0))))]), (decide ((m29 x0_16_0 v0_16_0) < 0)) = true]) (by kernel_rfl) ⟨hc, (by first | exact True.intro | with_reducible rfl | with_reducible assumption | omega | (simp only [decide_eq_true_eq] at *; omega) | (simp only [List.length_map, List.length_set, List.length_append, List.length_replicate, List.length_cons, List.length_nil]; omega) | (simp; omega) | (simp [List.take_of_length_le]; done) | assumption | trivial | (simp [*, byteRows_eq, ints_y]; done)), (by first | (rw [List.getElem?_map, Hx0_16_0]; rfl) | (rw [Nat.zero_add, List.getElem?_map, Hx0_16_0]; rfl) | exact True.intro | with_reducible rfl | with_reducible assumption | omega | (simp only [List.length_map, List.length_set, List.length_append, List.length_replicate, List.length_cons, List.length_nil]; omega) | (simp; done) | (simp; omega) | (simp [List.take_of_length_le]; done) | (simp [← List.map_take, ← List.map_drop]; done) | assumption | trivial | (simp [*, b_si, d_si, byteRows_eq, ints_y]; done)), (e29 (a0 := x0_16_0) (a1 := v0_16_0)), h_16_0_1, trivial⟩
      rw [show (⟨[(4, (.one (.val (.int .i64 (-1)))))], []⟩ : St) = fin16_0 l0_0 a0 a1 (.k1) from by first | rfl | (unfold fin16_0; simp [byteRows_eq, ints_y, List.take_of_length_le, d_si, d_LsiE, d_i, d_b, d_iLsiE, d_s, d_y, fromBR_si, fromBR_i, fromBR_b, fromBR_s, fromBR_y]; done)] at st
      exact .loopX st (show (.ret : VX.Exit) ≠ .normal from by simp)
    · try simp only [if_neg h_16_0_1]
      have st := codeH_ok (F := F) (X := X) (c := b16_0) (t := 0) (hs := [(8, .b true), (14, .row [(.val (.string x0_16_0.f0)), (.val (.int .i64 x0_16_0.f1))]), (20, .ret [] [(.one (.val (.int .i64 (m29 x0_16_0 v0_16_0))))] [] []), (27, .b false)]) (σ := h16_0 l0_0 a0 a1 (List.length p_16_0 : Int) v0_16_0) (σ' := ⟨[(0, (.one (.bor l0_0 (List.map b_si a0)))), (1, (.one (.val (.int .i64 (m29 x0_16_0 v0_16_0))))), (5, (.one (.val (.int .i64 (IntKind.wrap .i64 ((List.length p_16_0 : Int) + 1))))))], []⟩) (e := .normal) (t' := 34) (hs' := []) (q := [(decide ((List.length p_16_0 : Int) < ((List.length (List.map b_si a0)) : Int))) = true, 0 ≤ (List.length p_16_0 : Int), (List.map b_si a0)[(Int.toNat (List.length p_16_0 : Int))]? = some [(.val (.string x0_16_0.f0)), (.val (.int .i64 x0_16_0.f1))], Ev F X (.call 29 [(.agg [(.val (.string x0_16_0.f0)), (.val (.int .i64 x0_16_0.f1))]), (.one (.val (.int .i64 v0_16_0)))] [] [] [(.one (.val (.int .i64 (m29 x0_16_0 v0_16_0))))]), (decide ((m29 x0_16_0 v0_16_0) < 0)) = false, True]) (by kernel_rfl) ⟨hc, (by first | exact True.intro | with_reducible rfl | with_reducible assumption | omega | (simp only [decide_eq_true_eq] at *; omega) | (simp only [List.length_map, List.length_set, List.length_append, List.length_replicate, List.length_cons, List.length_nil]; omega) | (simp; omega) | (simp [List.take_of_length_le]; done) | assumption | trivial | (simp [*, byteRows_eq, ints_y]; done)), (by first | (rw [List.getElem?_map, Hx0_16_0]; rfl) | (rw [Nat.zero_add, List.getElem?_map, Hx0_16_0]; rfl) | exact True.intro | with_reducible rfl | with_reducible assumption | omega | (simp only [List.length_map, List.length_set, List.length_append, List.length_replicate, List.length_cons, List.length_nil]; omega) | (simp; done) | (simp; omega) | (simp [List.take_of_length_le]; done) | (simp [← List.map_take, ← List.map_drop]; done) | assumption | trivial | (simp [*, b_si, d_si, byteRows_eq, ints_y]; done)), (e29 (a0 := x0_16_0) (a1 := v0_16_0)), (nt h_16_0_1), trivial, trivial⟩
      have ih := t16_0 (l0_0 := l0_0) (a0 := a0) (a1 := a1) hy0 l0_16_0 (p_16_0 ++ [x0_16_0]) (m29 x0_16_0 v0_16_0) (by rw [List.append_assoc]; exact hp0)
      rw [show ((p_16_0 ++ [x0_16_0]).length : Int) = (p_16_0.length : Int) + 1 from by simp] at ih
      rw [show (⟨[(0, (.one (.bor l0_0 (List.map b_si a0)))), (1, (.one (.val (.int .i64 (m29 x0_16_0 v0_16_0))))), (5, (.one (.val (.int .i64 (IntKind.wrap .i64 ((List.length p_16_0 : Int) + 1))))))], []⟩ : St) = h16_0 l0_0 a0 a1 ((List.length p_16_0 : Int) + 1) (m29 x0_16_0 v0_16_0) from by first | (unfold h16_0; simp only [hw]; done) | (unfold h16_0; simp only [hw, List.length_map, List.length_set, List.length_append, List.length_replicate, List.length_cons, List.length_nil]; done) | (unfold h16_0; simp [hw, byteRows_eq, ints_y, List.take_of_length_le, d_si, d_LsiE, d_i, d_b, d_iLsiE, d_s, d_y, fromBR_si, fromBR_i, fromBR_b, fromBR_s, fromBR_y]; done)] at st
      exact .loopN st ih
/-! loop.example/g00539/laws.szWeightS -/
def m16 (a0 : (List K_si)) (a1 : Int) : Int :=
  if (decide ((IntKind.wrap .i64 (a1 - ((List.length (List.map b_si a0)) : Int))) < 0)) = true then (-1) else
  (match r16_0 a0 a0 0 (IntKind.wrap .i64 (a1 - ((List.length (List.map b_si a0)) : Int))) with | .k0 w0_16_0_1 w1_16_0_1 w2_16_0_1 => w0_16_0_1 | .k1 => (-1))
theorem e16 {l0_0 : Nat} {a0 : (List K_si)} {a1 : Int} (hy0 : List.length a0 * 24 ≤ 140737488351232) : Ev F X (.call 16 [(.one (.bor l0_0 (List.map b_si a0))), (.one (.val (.int .i64 a1)))] [] [] [(.one (.val (.int .i64 (m16 a0 a1))))]) := by
  unfold m16
  by_cases h0 : (decide ((IntKind.wrap .i64 (a1 - ((List.length (List.map b_si a0)) : Int))) < 0)) = true
  · try simp only [if_pos h0]
    exact callP_ok (ps := []) (os := []) (rs := [(.one (.val (.int .i64 (-1))))]) (by kernel_rfl) (.f h0 (.h 16 (.b true) .nil))
  · try simp only [if_neg h0]
    cases h1 : r16_0 a0 a0 0 (IntKind.wrap .i64 (a1 - ((List.length (List.map b_si a0)) : Int))) with
    | k0 w0_16_0_1 w1_16_0_1 w2_16_0_1 =>
      try dsimp only
      have f1 : (⟨[(0, (.one (.bor l0_0 (List.map b_si a0)))), (1, (.one (.val (.int .i64 (IntKind.wrap .i64 (a1 - ((List.length (List.map b_si a0)) : Int))))))), (5, (.one (.val (.int .i64 0))))], []⟩ : St) = h16_0 l0_0 a0 a1 0 (IntKind.wrap .i64 (a1 - ((List.length (List.map b_si a0)) : Int))) := (by first | rfl | (unfold h16_0; simp [byteRows_eq, ints_y, List.take_of_length_le, d_si, d_LsiE, d_i, d_b, d_iLsiE, d_s, d_y, fromBR_si, fromBR_i, fromBR_b, fromBR_s, fromBR_y]; done))
      have f2 : Ev F X (.code l16_0 (h16_0 l0_0 a0 a1 0 (IntKind.wrap .i64 (a1 - ((List.length (List.map b_si a0)) : Int)))) (.exit 0) ⟨[(0, (.one (.bor l0_0 (List.map b_si a0)))), (1, (.one (.val (.int .i64 w0_16_0_1)))), (5, (.one (.val (.int .i64 w1_16_0_1)))), (15, (.one (.val (.bool w2_16_0_1))))], []⟩) := (by have t : Ev F X (.code l16_0 (h16_0 l0_0 a0 a1 0 (IntKind.wrap .i64 (a1 - ((List.length (List.map b_si a0)) : Int)))) (ex16_0 (r16_0 a0 a0 0 (IntKind.wrap .i64 (a1 - ((List.length (List.map b_si a0)) : Int))))) (fin16_0 l0_0 a0 a1 (r16_0 a0 a0 0 (IntKind.wrap .i64 (a1 - ((List.length (List.map b_si a0)) : Int)))))) := t16_0 (l0_0 := l0_0) (a0 := a0) (a1 := a1) (by first | assumption | omega) a0 [] (IntKind.wrap .i64 (a1 - ((List.length (List.map b_si a0)) : Int))) rfl; rw [h1] at t; exact t)
      exact callP_ok (ps := []) (os := []) (rs := [(.one (.val (.int .i64 w0_16_0_1)))]) (by kernel_rfl) (.f (nt h0) (.f f1 (.f f2 (.h 16 (.b false) (.h 19 (.loop (h16_0 l0_0 a0 a1 0 (IntKind.wrap .i64 (a1 - ((List.length (List.map b_si a0)) : Int)))) (.exit 0) ⟨[(0, (.one (.bor l0_0 (List.map b_si a0)))), (1, (.one (.val (.int .i64 w0_16_0_1)))), (5, (.one (.val (.int .i64 w1_16_0_1)))), (15, (.one (.val (.bool w2_16_0_1))))], []⟩) .nil)))))
    | k1 =>
      try dsimp only
      have f1 : (⟨[(0, (.one (.bor l0_0 (List.map b_si a0)))), (1, (.one (.val (.int .i64 (IntKind.wrap .i64 (a1 - ((List.length (List.map b_si a0)) : Int))))))), (5, (.one (.val (.int .i64 0))))], []⟩ : St) = h16_0 l0_0 a0 a1 0 (IntKind.wrap .i64 (a1 - ((List.length (List.map b_si a0)) : Int))) := (by first | rfl | (unfold h16_0; simp [byteRows_eq, ints_y, List.take_of_length_le, d_si, d_LsiE, d_i, d_b, d_iLsiE, d_s, d_y, fromBR_si, fromBR_i, fromBR_b, fromBR_s, fromBR_y]; done))
      have f2 : Ev F X (.code l16_0 (h16_0 l0_0 a0 a1 0 (IntKind.wrap .i64 (a1 - ((List.length (List.map b_si a0)) : Int)))) .ret ⟨[(4, (.one (.val (.int .i64 (-1)))))], []⟩) := (by have t : Ev F X (.code l16_0 (h16_0 l0_0 a0 a1 0 (IntKind.wrap .i64 (a1 - ((List.length (List.map b_si a0)) : Int)))) (ex16_0 (r16_0 a0 a0 0 (IntKind.wrap .i64 (a1 - ((List.length (List.map b_si a0)) : Int))))) (fin16_0 l0_0 a0 a1 (r16_0 a0 a0 0 (IntKind.wrap .i64 (a1 - ((List.length (List.map b_si a0)) : Int)))))) := t16_0 (l0_0 := l0_0) (a0 := a0) (a1 := a1) (by first | assumption | omega) a0 [] (IntKind.wrap .i64 (a1 - ((List.length (List.map b_si a0)) : Int))) rfl; rw [h1] at t; exact t)
      exact callP_ok (ps := []) (os := []) (rs := [(.one (.val (.int .i64 (-1))))]) (by kernel_rfl) (.f (nt h0) (.f f1 (.f f2 (.h 16 (.b false) (.h 19 (.loop (h16_0 l0_0 a0 a1 0 (IntKind.wrap .i64 (a1 - ((List.length (List.map b_si a0)) : Int)))) .ret ⟨[(4, (.one (.val (.int .i64 (-1)))))], []⟩) .nil)))))
/-! loop.example/g00539/laws.toWeight -/
def m31 (a0 : K_si) : K_si :=
  a0
theorem e31 {a0 : K_si} : Ev F X (.call 31 [(.agg [(.val (.string a0.f0)), (.val (.int .i64 a0.f1))])] [] [] [(.agg [(.val (.string a0.f0)), (.val (.int .i64 a0.f1))])]) := by
  exact callP_ok (ps := []) (os := []) (rs := [(.agg [(.val (.string a0.f0)), (.val (.int .i64 a0.f1))])]) (by kernel_rfl) .nil
/-! loop 18_0 -/
inductive O18_0 where
  | k0 (w0 : List K_si) (w1 : Int) (w2 : Bool)
def r18_0 (a0 : (List K_si)) : List K_si → Int → List K_si → O18_0
  | x0_18_0 :: l0_18_0, i_18_0, v0_18_0 =>
    (r18_0 a0 l0_18_0 (i_18_0 + 1) (List.set v0_18_0 (Int.toNat i_18_0) x0_18_0))
  | [], i_18_0, v0_18_0 => (O18_0.k0 v0_18_0 i_18_0 (decide (i_18_0 < ((List.length (List.map b_si a0)) : Int))))
def h18_0 (l0_0 : Nat) (a0 : (List K_si)) (i_18_0 : Int) (v0_18_0 : List K_si) : St := ⟨[(0, (.one (.bor l0_0 (List.map b_si a0)))), (3, (.one (.ref ⟨(3, 0, 0), [], 0, (Int.toNat ((List.length (List.map b_si a0)) : Int))⟩))), (4, (.one (.val (.int .i64 i_18_0))))], [((3, 0, 0), .live ⟨2, (List.map d_si v0_18_0), []⟩)]⟩
def ex18_0 : O18_0 → VX.Exit
  | .k0 _ _ _ => (.exit 0)
def fin18_0 (l0_0 : Nat) (a0 : (List K_si)) : O18_0 → St
  | .k0 w0 w1 w2 => ⟨[(0, (.one (.bor l0_0 (List.map b_si a0)))), (3, (.one (.ref ⟨(3, 0, 0), [], 0, (Int.toNat ((List.length (List.map b_si a0)) : Int))⟩))), (4, (.one (.val (.int .i64 w1)))), (11, (.one (.val (.bool w2))))], [((3, 0, 0), .live ⟨2, (List.map d_si w0), []⟩)]⟩
theorem t18_0 {l0_0 : Nat} {a0 : (List K_si)} (hy0 : List.length a0 * 24 ≤ 140737488351232) : ∀ (l0_18_0 : List K_si) (p_18_0 : List K_si) (v0_18_0 : List K_si), p_18_0 ++ l0_18_0 = a0 → List.length v0_18_0 = (Int.toNat ((List.length (List.map b_si a0)) : Int)) → Ev F X (.code l18_0 (h18_0 l0_0 a0 (List.length p_18_0 : Int) v0_18_0) (ex18_0 (r18_0 a0 l0_18_0 (List.length p_18_0 : Int) v0_18_0)) (fin18_0 l0_0 a0 (r18_0 a0 l0_18_0 (List.length p_18_0 : Int) v0_18_0)))
  | [], p_18_0, v0_18_0, hp0, hi0 => by
    have hc : ¬ (decide ((List.length p_18_0 : Int) < ((List.length (List.map b_si a0)) : Int))) = true := by
      rw [← hp0]; simp only [List.length_map, List.length_set, List.length_append, List.length_replicate, List.length_cons, List.length_nil, decide_eq_true_eq]; omega
    have hj0 := hi0; try simp only [List.length_map, List.length_set, List.length_append, List.length_replicate, List.length_cons, List.length_nil, Int.toNat_natCast] at hj0
    have st := codeH_ok (F := F) (X := X) (c := b18_0) (t := 0) (hs := [(8, .b false)]) (σ := h18_0 l0_0 a0 (List.length p_18_0 : Int) v0_18_0) (σ' := ⟨[(0, (.one (.bor l0_0 (List.map b_si a0)))), (3, (.one (.ref ⟨(3, 0, 0), [], 0, (Int.toNat ((List.length (List.map b_si a0)) : Int))⟩))), (4, (.one (.val (.int .i64 (List.length p_18_0 : Int))))), (11, (.one (.val (.bool (decide ((List.length p_18_0 : Int) < ((List.length (List.map b_si a0)) : Int)))))))], [((3, 0, 0), .live ⟨2, (List.map d_si v0_18_0), []⟩)]⟩) (e := (.exit 0)) (t' := 9) (hs' := []) (q := [(decide ((List.length p_18_0 : Int) < ((List.length (List.map b_si a0)) : Int))) = false]) (by kernel_rfl) ⟨(nt hc), trivial⟩
    rw [show (⟨[(0, (.one (.bor l0_0 (List.map b_si a0)))), (3, (.one (.ref ⟨(3, 0, 0), [], 0, (Int.toNat ((List.length (List.map b_si a0)) : Int))⟩))), (4, (.one (.val (.int .i64 (List.length p_18_0 : Int))))), (11, (.one (.val (.bool (decide ((List.length p_18_0 : Int) < ((List.length (List.map b_si a0)) : Int)))))))], [((3, 0, 0), .live ⟨2, (List.map d_si v0_18_0), []⟩)]⟩ : St) = fin18_0 l0_0 a0 (.k0 v0_18_0 (List.length p_18_0 : Int) (decide ((List.length p_18_0 : Int) < ((List.length (List.map b_si a0)) : Int)))) from by first | rfl | (unfold fin18_0; simp [byteRows_eq, ints_y, List.take_of_length_le, d_si, d_LsiE, d_i, d_b, d_iLsiE, d_s, d_y, fromBR_si, fromBR_i, fromBR_b, fromBR_s, fromBR_y]; done)] at st
    exact .loopX st (show ((.exit 0) : VX.Exit) ≠ .normal from by simp)
  | x0_18_0 :: l0_18_0, p_18_0, v0_18_0, hp0, hi0 => by
    have hc : (decide ((List.length p_18_0 : Int) < ((List.length (List.map b_si a0)) : Int))) = true := by
      rw [← hp0]; simp only [List.length_map, List.length_set, List.length_append, List.length_replicate, List.length_cons, List.length_nil, decide_eq_true_eq]; omega
    have Hx0_18_0 : (a0)[Int.toNat (List.length p_18_0 : Int)]? = some x0_18_0 := by
      rw [← hp0, Int.toNat_natCast]; simp
    have hlen : List.length (a0) = List.length p_18_0 + List.length l0_18_0 + 1 := by rw [← hp0]; simp; omega
    have hw : IntKind.wrap .i64 ((List.length p_18_0 : Int) + 1) = (List.length p_18_0 : Int) + 1 := wrap64 (by omega)
    have hj0 := hi0; try simp only [List.length_map, List.length_set, List.length_append, List.length_replicate, List.length_cons, List.length_nil, Int.toNat_natCast] at hj0
    obtain ⟨x1_18_0, Hx1_18_0⟩ : ∃ y, v0_18_0[Int.toNat (List.length p_18_0 : Int)]? = some y := ⟨_, List.getElem?_eq_getElem (by omega)⟩
    simp only [r18_0]
    have st := codeH_ok (F := F) (X := X) (c := b18_0) (t := 0) (hs := [(8, .b true), (18, .row [(.val (.string x0_18_0.f0)), (.val (.int .i64 x0_18_0.f1))]), (22, .ret [] [(.agg [(.val (.string x0_18_0.f0)), (.val (.int .i64 x0_18_0.f1))])] [] []), (26, .rowD [(.val (.string x1_18_0.f0)), (.val (.int .i64 x1_18_0.f1))]), (27, .norm (3, 0, 0) (List.map d_si (List.set v0_18_0 (Int.toNat (List.length p_18_0 : Int)) x0_18_0)))]) (σ := h18_0 l0_0 a0 (List.length p_18_0 : Int) v0_18_0) (σ' := ⟨[(0, (.one (.bor l0_0 (List.map b_si a0)))), (3, (.one (.ref ⟨(3, 0, 0), [], 0, (Int.toNat ((List.length (List.map b_si a0)) : Int))⟩))), (4, (.one (.val (.int .i64 (IntKind.wrap .i64 ((List.length p_18_0 : Int) + 1))))))], [((3, 0, 0), .live ⟨2, (List.map d_si (List.set v0_18_0 (Int.toNat (List.length p_18_0 : Int)) x0_18_0)), []⟩)]⟩) (e := .normal) (t' := 34) (hs' := []) (q := [(decide ((List.length p_18_0 : Int) < ((List.length (List.map b_si a0)) : Int))) = true, 0 ≤ (List.length p_18_0 : Int), (List.map b_si a0)[(Int.toNat (List.length p_18_0 : Int))]? = some [(.val (.string x0_18_0.f0)), (.val (.int .i64 x0_18_0.f1))], Ev F X (.call 31 [(.agg [(.val (.string x0_18_0.f0)), (.val (.int .i64 x0_18_0.f1))])] [] [] [(.agg [(.val (.string x0_18_0.f0)), (.val (.int .i64 x0_18_0.f1))])]), 0 + (Int.toNat ((List.length (List.map b_si a0)) : Int)) ≤ (List.length (List.map d_si v0_18_0)), 0 ≤ (List.length p_18_0 : Int) ∧ (List.length p_18_0 : Int) < ((Int.toNat ((List.length (List.map b_si a0)) : Int)) : Int), (List.map d_si v0_18_0)[(0 + (Int.toNat (List.length p_18_0 : Int)))]? = some [(.val (.string x1_18_0.f0)), (.val (.int .i64 x1_18_0.f1))], (List.set (List.map d_si v0_18_0) (0 + (Int.toNat (List.length p_18_0 : Int))) [(.val (.string x0_18_0.f0)), (.val (.int .i64 x0_18_0.f1))]) = (List.map d_si (List.set v0_18_0 (Int.toNat (List.length p_18_0 : Int)) x0_18_0)), True]) (by kernel_rfl) ⟨hc, (by first | exact True.intro | with_reducible rfl | with_reducible assumption | omega | (simp only [decide_eq_true_eq] at *; omega) | (simp only [List.length_map, List.length_set, List.length_append, List.length_replicate, List.length_cons, List.length_nil]; omega) | (simp; omega) | (simp [List.take_of_length_le]; done) | assumption | trivial | (simp [*, byteRows_eq, ints_y]; done)), (by first | (rw [List.getElem?_map, Hx0_18_0]; rfl) | (rw [Nat.zero_add, List.getElem?_map, Hx0_18_0]; rfl) | exact True.intro | with_reducible rfl | with_reducible assumption | omega | (simp only [List.length_map, List.length_set, List.length_append, List.length_replicate, List.length_cons, List.length_nil]; omega) | (simp; done) | (simp; omega) | (simp [List.take_of_length_le]; done) | (simp [← List.map_take, ← List.map_drop]; done) | assumption | trivial | (simp [*, b_si, d_si, byteRows_eq, ints_y]; done)), (e31 (a0 := x0_18_0)), (by first | exact True.intro | with_reducible rfl | with_reducible assumption | omega | (simp only [decide_eq_true_eq] at *; omega) | (simp only [List.length_map]; omega) | (simp; omega) | (simp [List.take_of_length_le]; done) | assumption | trivial | (simp [*, b_si, d_si, byteRows_eq, ints_y]; done)), (by first | exact True.intro | with_reducible rfl | with_reducible assumption | omega | (simp only [decide_eq_true_eq] at *; omega) | (simp only [List.length_map]; omega) | (simp; omega) | (simp [List.take_of_length_le]; done) | assumption | trivial | (simp [*, b_si, d_si, byteRows_eq, ints_y]; done)), (by first | (rw [List.getElem?_map, Hx1_18_0]; rfl) | (rw [Nat.zero_add, List.getElem?_map, Hx1_18_0]; rfl) | exact True.intro | with_reducible rfl | with_reducible assumption | omega | (simp only [List.length_map, List.length_set, List.length_append, List.length_replicate, List.length_cons, List.length_nil]; omega) | (simp; done) | (simp; omega) | (simp [List.take_of_length_le]; done) | (simp [← List.map_take, ← List.map_drop]; done) | assumption | trivial | (simp [*, b_si, d_si, byteRows_eq, ints_y]; done)), (by first | rfl | (simp [byteRows_eq, ints_y, List.take_of_length_le, d_si, d_LsiE, d_i, d_b, d_iLsiE, d_s, d_y, fromBR_si, fromBR_i, fromBR_b, fromBR_s, fromBR_y]; done) | (simp [List.map_set, List.map_take, List.map_drop, byteRows_eq, ints_y, List.take_of_length_le, d_si, d_LsiE, d_i, d_b, d_iLsiE, d_s, d_y, fromBR_si, fromBR_i, fromBR_b, fromBR_s, fromBR_y]; done)), trivial, trivial⟩
    have ih := t18_0 (l0_0 := l0_0) (a0 := a0) hy0 l0_18_0 (p_18_0 ++ [x0_18_0]) (List.set v0_18_0 (Int.toNat (List.length p_18_0 : Int)) x0_18_0) (by rw [List.append_assoc]; exact hp0) (by first | omega | (simp only [List.length_map, List.length_set, List.length_append, List.length_replicate, List.length_cons, List.length_nil]; omega) | (simp only [List.length_map, List.length_set, List.length_append, List.length_replicate, List.length_cons, List.length_nil]; assumption) | assumption | (simp only [List.length_map, List.length_set, List.length_append, List.length_replicate, List.length_cons, List.length_nil] at *; omega))
    rw [show ((p_18_0 ++ [x0_18_0]).length : Int) = (p_18_0.length : Int) + 1 from by simp] at ih
    rw [show (⟨[(0, (.one (.bor l0_0 (List.map b_si a0)))), (3, (.one (.ref ⟨(3, 0, 0), [], 0, (Int.toNat ((List.length (List.map b_si a0)) : Int))⟩))), (4, (.one (.val (.int .i64 (IntKind.wrap .i64 ((List.length p_18_0 : Int) + 1))))))], [((3, 0, 0), .live ⟨2, (List.map d_si (List.set v0_18_0 (Int.toNat (List.length p_18_0 : Int)) x0_18_0)), []⟩)]⟩ : St) = h18_0 l0_0 a0 ((List.length p_18_0 : Int) + 1) (List.set v0_18_0 (Int.toNat (List.length p_18_0 : Int)) x0_18_0) from by first | (unfold h18_0; simp only [hw]; done) | (unfold h18_0; simp only [hw, List.length_map, List.length_set, List.length_append, List.length_replicate, List.length_cons, List.length_nil]; done) | (unfold h18_0; simp [hw, byteRows_eq, ints_y, List.take_of_length_le, d_si, d_LsiE, d_i, d_b, d_iLsiE, d_s, d_y, fromBR_si, fromBR_i, fromBR_b, fromBR_s, fromBR_y]; done)] at st
    exact .loopN st ih
def post18_0 (n0 : Nat) : O18_0 → Prop
  | .k0 w0 _ _ => List.length w0 = n0
theorem z18_0 {a0 : (List K_si)} : ∀ (l0_18_0 : List K_si) (i_18_0 : Int) (v0_18_0 : List K_si), post18_0 (List.length v0_18_0) (r18_0 a0 l0_18_0 i_18_0 v0_18_0)
  | [], i_18_0, v0_18_0 => by
    first | trivial | (simp only [post18_0, List.length_nil, Nat.add_zero]; done) | (simp [post18_0]; done)
  | x0_18_0 :: l0_18_0, i_18_0, v0_18_0 => by
    simp only [r18_0]
    have z := z18_0 (a0 := a0) l0_18_0 (i_18_0 + 1) (List.set v0_18_0 (Int.toNat i_18_0) x0_18_0)
    rw [show (List.length v0_18_0) = (List.length (List.set v0_18_0 (Int.toNat i_18_0) x0_18_0)) from by first | omega | (simp only [List.length_map, List.length_set, List.length_append, List.length_replicate, List.length_cons, List.length_nil]; done) | (simp only [List.length_map, List.length_set, List.length_append, List.length_replicate, List.length_cons, List.length_nil]; omega)]
    exact z
/-! loop.example/g00539/laws.toWeightS -/
def m18 (a0 : (List K_si)) : (List K_si) :=
  (match r18_0 a0 a0 0 (List.replicate (Int.toNat ((List.length (List.map b_si a0)) : Int)) (K_si.mk (⟨#[]⟩ : ByteArray) 0)) with | .k0 w0_18_0_1 w1_18_0_1 w2_18_0_1 => w0_18_0_1)
theorem e18 {l0_0 : Nat} {a0 : (List K_si)} (hy0 : List.length a0 * 24 ≤ 140737488351232) : Ev F X (.call 18 [(.one (.bor l0_0 (List.map b_si a0)))] [] [] [(.one (.own 2 (List.map d_si (m18 a0))))]) := by
  unfold m18
  have f0 : 0 ≤ ((List.length (List.map b_si a0)) : Int) ∧ ((List.length (List.map b_si a0)) : Int) ≤ ((List.length (List.map b_si a0)) : Int) ∧ ((List.length (List.map b_si a0)) : Int) ≤ 140737488355328 ∧ ((List.length (List.map b_si a0)) : Int) * 24 ≤ 140737488355328 := (by first | exact True.intro | with_reducible rfl | with_reducible assumption | omega | (simp only [decide_eq_true_eq] at *; omega) | (simp only [List.length_map]; omega) | (simp; omega) | (simp [List.take_of_length_le]; done) | assumption | trivial | (simp [*, b_si, d_si, byteRows_eq, ints_y]; done))
  have f1 : (List.replicate (Int.toNat ((List.length (List.map b_si a0)) : Int)) [(.val (.string (⟨#[]⟩ : ByteArray))), (.val (.int .i64 0))]) = (List.map d_si (List.replicate (Int.toNat ((List.length (List.map b_si a0)) : Int)) (K_si.mk (⟨#[]⟩ : ByteArray) 0))) := (by first | rfl | (simp [byteRows_eq, ints_y, List.take_of_length_le, d_si, d_LsiE, d_i, d_b, d_iLsiE, d_s, d_y, fromBR_si, fromBR_i, fromBR_b, fromBR_s, fromBR_y]; done) | (simp [List.map_set, List.map_take, List.map_drop, byteRows_eq, ints_y, List.take_of_length_le, d_si, d_LsiE, d_i, d_b, d_iLsiE, d_s, d_y, fromBR_si, fromBR_i, fromBR_b, fromBR_s, fromBR_y]; done))
  cases h0 : r18_0 a0 a0 0 (List.replicate (Int.toNat ((List.length (List.map b_si a0)) : Int)) (K_si.mk (⟨#[]⟩ : ByteArray) 0)) with
  | k0 w0_18_0_1 w1_18_0_1 w2_18_0_1 =>
    try dsimp only
    have zh0 := z18_0 (a0 := a0) a0 0 (List.replicate (Int.toNat ((List.length (List.map b_si a0)) : Int)) (K_si.mk (⟨#[]⟩ : ByteArray) 0)); rw [h0] at zh0; simp only [post18_0, List.length_map, List.length_set, List.length_append, List.length_replicate, List.length_cons, List.length_nil, Int.toNat_natCast] at zh0
    have f2 : (⟨[(0, (.one (.bor l0_0 (List.map b_si a0)))), (3, (.one (.ref ⟨(3, 0, 0), [], 0, (Int.toNat ((List.length (List.map b_si a0)) : Int))⟩))), (4, (.one (.val (.int .i64 0))))], [((3, 0, 0), .live ⟨2, (List.map d_si (List.replicate (Int.toNat ((List.length (List.map b_si a0)) : Int)) (K_si.mk (⟨#[]⟩ : ByteArray) 0))), []⟩)]⟩ : St) = h18_0 l0_0 a0 0 (List.replicate (Int.toNat ((List.length (List.map b_si a0)) : Int)) (K_si.mk (⟨#[]⟩ : ByteArray) 0)) := (by first | rfl | (unfold h18_0; simp [byteRows_eq, ints_y, List.take_of_length_le, d_si, d_LsiE, d_i, d_b, d_iLsiE, d_s, d_y, fromBR_si, fromBR_i, fromBR_b, fromBR_s, fromBR_y]; done))
    have f3 : Ev F X (.code l18_0 (h18_0 l0_0 a0 0 (List.replicate (Int.toNat ((List.length (List.map b_si a0)) : Int)) (K_si.mk (⟨#[]⟩ : ByteArray) 0))) (.exit 0) ⟨[(0, (.one (.bor l0_0 (List.map b_si a0)))), (3, (.one (.ref ⟨(3, 0, 0), [], 0, (Int.toNat ((List.length (List.map b_si a0)) : Int))⟩))), (4, (.one (.val (.int .i64 w1_18_0_1)))), (11, (.one (.val (.bool w2_18_0_1))))], [((3, 0, 0), .live ⟨2, (List.map d_si w0_18_0_1), []⟩)]⟩) := (by have t : Ev F X (.code l18_0 (h18_0 l0_0 a0 0 (List.replicate (Int.toNat ((List.length (List.map b_si a0)) : Int)) (K_si.mk (⟨#[]⟩ : ByteArray) 0))) (ex18_0 (r18_0 a0 a0 0 (List.replicate (Int.toNat ((List.length (List.map b_si a0)) : Int)) (K_si.mk (⟨#[]⟩ : ByteArray) 0)))) (fin18_0 l0_0 a0 (r18_0 a0 a0 0 (List.replicate (Int.toNat ((List.length (List.map b_si a0)) : Int)) (K_si.mk (⟨#[]⟩ : ByteArray) 0))))) := t18_0 (l0_0 := l0_0) (a0 := a0) (by first | assumption | omega) a0 [] (List.replicate (Int.toNat ((List.length (List.map b_si a0)) : Int)) (K_si.mk (⟨#[]⟩ : ByteArray) 0)) rfl (by first | rfl | omega | (simp only [List.length_map, List.length_set, List.length_append, List.length_replicate, List.length_cons, List.length_nil]; done) | (simp only [List.length_map, List.length_set, List.length_append, List.length_replicate, List.length_cons, List.length_nil]; omega) | (simp; done)); rw [h0] at t; exact t)
    have f4 : 0 = 0 := rfl
    have f5 : (Int.toNat ((List.length (List.map b_si a0)) : Int)) = (List.length (List.map d_si w0_18_0_1)) := (by first | exact True.intro | with_reducible rfl | with_reducible assumption | omega | (simp only [List.length_map]; omega) | (simp; done) | (simp; omega) | (simp [List.take_of_length_le]; done) | (simp [← List.map_take, ← List.map_drop]; done) | assumption | trivial | (simp [*, b_si, d_si, byteRows_eq, ints_y]; done))
    have f6 : pureR (List.map d_si w0_18_0_1) = true := (pureR_si _)
    exact callP_ok (ps := []) (os := []) (rs := [(.one (.own 2 (List.map d_si w0_18_0_1)))]) (by kernel_rfl) (.f f0 (.f f1 (.f f2 (.f f3 (.f f4 (.f f5 (.f f6 (.h 10 (.norm (3, 0, 0) (List.map d_si (List.replicate (Int.toNat ((List.length (List.map b_si a0)) : Int)) (K_si.mk (⟨#[]⟩ : ByteArray) 0)))) (.h 13 (.loop (h18_0 l0_0 a0 0 (List.replicate (Int.toNat ((List.length (List.map b_si a0)) : Int)) (K_si.mk (⟨#[]⟩ : ByteArray) 0))) (.exit 0) ⟨[(0, (.one (.bor l0_0 (List.map b_si a0)))), (3, (.one (.ref ⟨(3, 0, 0), [], 0, (Int.toNat ((List.length (List.map b_si a0)) : Int))⟩))), (4, (.one (.val (.int .i64 w1_18_0_1)))), (11, (.one (.val (.bool w2_18_0_1))))], [((3, 0, 0), .live ⟨2, (List.map d_si w0_18_0_1), []⟩)]⟩) .nil)))))))))
theorem c18_0 (a0 : List K_si) : ∀ (l p q : List K_si), q.length = l.length → ∃ w1 w2, r18_0 a0 l (p.length : Int) (p ++ q) = .k0 (p ++ l) w1 w2
  | [], p, [], _ => ⟨_, _, rfl⟩
  | [], _, _ :: _, h => by simp at h
  | _ :: _, _, [], h => by simp at h
  | x :: l, p, y :: q, h => by
    have ih := c18_0 a0 l (p ++ [x]) q (by simpa using h)
    have e : List.set (p ++ y :: q) (Int.toNat (p.length : Int)) x = (p ++ [x]) ++ q := by simp
    have e2 : ((p ++ [x]).length : Int) = (p.length : Int) + 1 := by simp
    rw [e2] at ih
    simp only [r18_0]
    rw [show p ++ x :: l = (p ++ [x]) ++ l by simp]
    first | (rw [e]; exact ih) | (simp only [e]; exact ih)
theorem q18 (a0 : (List K_si)) (hy0 : List.length a0 * 24 ≤ 140737488351232) : (m18 a0) = a0 := by
  have h := c18_0 a0 a0 [] (List.replicate (Int.toNat ((List.length (List.map b_si a0)) : Int)) (K_si.mk (⟨#[]⟩ : ByteArray) 0)) (by simp)
  unfold m18
  simp only [List.nil_append, List.length_nil] at h
  obtain ⟨_, _, h⟩ := h
  rw [show ((0 : Nat) : Int) = 0 from rfl] at h
  rw [h]
theorem g18 {l0_0 : Nat} {a0 : (List K_si)} (hy0 : List.length a0 * 24 ≤ 140737488351232) : Ev F X (.call 18 [(.one (.bor l0_0 (List.map b_si a0)))] [] [] [(.one (.own 2 (List.map d_si a0)))]) := by
  have t := e18 (l0_0 := l0_0) (a0 := a0) hy0
  rw [q18 a0 hy0] at t
  exact t
/-! loop.example/g00539/laws.eqWeight -/
def m64 (a0 : K_si) (a1 : K_si) : Bool :=
  if (!(a0.f0.toList == a1.f0.toList)) = true then false else
  if (a0.f1 != a1.f1) = true then false else
    true
theorem e64 {a0 : K_si} {a1 : K_si} : Ev F X (.call 64 [(.agg [(.val (.string a0.f0)), (.val (.int .i64 a0.f1))]), (.agg [(.val (.string a1.f0)), (.val (.int .i64 a1.f1))])] [] [] [(.one (.val (.bool (m64 a0 a1))))]) := by
  unfold m64
  by_cases h0 : (!(a0.f0.toList == a1.f0.toList)) = true
  · try simp only [if_pos h0]
    exact callP_ok (ps := []) (os := []) (rs := [(.one (.val (.bool false)))]) (by kernel_rfl) (.f h0 (.h 16 (.b true) .nil))
  · try simp only [if_neg h0]
    by_cases h1 : (a0.f1 != a1.f1) = true
    · try simp only [if_pos h1]
      exact callP_ok (ps := []) (os := []) (rs := [(.one (.val (.bool false)))]) (by kernel_rfl) (.f (nt h0) (.f h1 (.h 16 (.b false) (.h 27 (.b true) .nil))))
    · try simp only [if_neg h1]
      exact callP_ok (ps := []) (os := []) (rs := [(.one (.val (.bool true)))]) (by kernel_rfl) (.f (nt h0) (.f (nt h1) (.h 16 (.b false) (.h 27 (.b false) .nil))))
open Classical in
theorem eqd64 (a b : K_si) : m64 a b = decide (a = b) := by
  rw [Bool.eq_iff_iff, decide_eq_true_eq]
  constructor
  · intro h
    unfold m64 at h
    cases a; cases b
    (repeat' split at h) <;> simp_all [ba_eq]
  · rintro rfl
    simp [m64, ba_eq]
/-! loop 20_0 -/
inductive O20_0 where
  | k0 (w0 : Int) (w1 : Bool)
  | k1
def r20_0 (a0 : (List K_si)) : List K_si → List K_si → Int → O20_0
  | x0_20_0 :: l0_20_0, x1_20_0 :: l1_20_0, i_20_0 =>
    if (!(m64 x0_20_0 x1_20_0)) = true then (O20_0.k1) else
    (r20_0 a0 l0_20_0 l1_20_0 (i_20_0 + 1) )
  | _, _, i_20_0 => (O20_0.k0 i_20_0 (decide (i_20_0 < ((List.length (List.map b_si a0)) : Int))))
def h20_0 (l0_0 : Nat) (l1_0 : Nat) (a0 : (List K_si)) (a1 : (List K_si)) (i_20_0 : Int)  : St := ⟨[(0, (.one (.bor l0_0 (List.map b_si a0)))), (1, (.one (.bor l1_0 (List.map b_si a1)))), (5, (.one (.val (.int .i64 i_20_0))))], []⟩
def ex20_0 : O20_0 → VX.Exit
  | .k0 _ _ => (.exit 0)
  | .k1 => .ret
def fin20_0 (l0_0 : Nat) (l1_0 : Nat) (a0 : (List K_si)) (a1 : (List K_si)) : O20_0 → St
  | .k0 w0 w1 => ⟨[(0, (.one (.bor l0_0 (List.map b_si a0)))), (1, (.one (.bor l1_0 (List.map b_si a1)))), (5, (.one (.val (.int .i64 w0)))), (14, (.one (.val (.bool w1))))], []⟩
  | .k1 => ⟨[(4, (.one (.val (.bool false))))], []⟩
theorem t20_0 {l0_0 : Nat} {l1_0 : Nat} {a0 : (List K_si)} {a1 : (List K_si)} (hy0 : List.length a0 * 24 ≤ 140737488351232) (hy1 : List.length a1 * 24 ≤ 140737488351232) : ∀ (l0_20_0 : List K_si) (l1_20_0 : List K_si) (p_20_0 : List K_si) (p_20_0_1 : List K_si) , p_20_0 ++ l0_20_0 = a0 → p_20_0_1 ++ l1_20_0 = a1 → List.length p_20_0 = List.length p_20_0_1 → List.length l0_20_0 = List.length l1_20_0 → Ev F X (.code l20_0 (h20_0 l0_0 l1_0 a0 a1 (List.length p_20_0 : Int) ) (ex20_0 (r20_0 a0 l0_20_0 l1_20_0 (List.length p_20_0 : Int) )) (fin20_0 l0_0 l1_0 a0 a1 (r20_0 a0 l0_20_0 l1_20_0 (List.length p_20_0 : Int) )))
  | [], [], p_20_0, p_20_0_1, hp0, hp1, hq1, hl1 => by
    have hc : ¬ (decide ((List.length p_20_0 : Int) < ((List.length (List.map b_si a0)) : Int))) = true := by
      rw [← hp0]; simp only [List.length_map, List.length_set, List.length_append, List.length_replicate, List.length_cons, List.length_nil, decide_eq_true_eq]; omega
    have st := codeH_ok (F := F) (X := X) (c := b20_0) (t := 0) (hs := [(8, .b false)]) (σ := h20_0 l0_0 l1_0 a0 a1 (List.length p_20_0 : Int) ) (σ' := ⟨[(0, (.one (.bor l0_0 (List.map b_si a0)))), (1, (.one (.bor l1_0 (List.map b_si a1)))), (5, (.one (.val (.int .i64 (List.length p_20_0 : Int))))), (14, (.one (.val (.bool (decide ((List.length p_20_0 : Int) < ((List.length (List.map b_si a0)) : Int)))))))], []⟩) (e := (.exit 0)) (t' := 9) (hs' := []) (q := [(decide ((List.length p_20_0 : Int) < ((List.length (List.map b_si a0)) : Int))) = false]) (by kernel_rfl) ⟨(nt hc), trivial⟩
    rw [show (⟨[(0, (.one (.bor l0_0 (List.map b_si a0)))), (1, (.one (.bor l1_0 (List.map b_si a1)))), (5, (.one (.val (.int .i64 (List.length p_20_0 : Int))))), (14, (.one (.val (.bool (decide ((List.length p_20_0 : Int) < ((List.length (List.map b_si a0)) : Int)))))))], []⟩ : St) = fin20_0 l0_0 l1_0 a0 a1 (.k0 (List.length p_20_0 : Int) (decide ((List.length p_20_0 : Int) < ((List.length (List.map b_si a0)) : Int)))) from by first | rfl | (unfold fin20_0; simp [byteRows_eq, ints_y, List.take_of_length_le, d_si, d_LsiE, d_i, d_b, d_iLsiE, d_s, d_y, fromBR_si, fromBR_i, fromBR_b, fromBR_s, fromBR_y]; done)] at st
    exact .loopX st (show ((.exit 0) : VX.Exit) ≠ .normal from by simp)
  | x0_20_0 :: l0_20_0, x1_20_0 :: l1_20_0, p_20_0, p_20_0_1, hp0, hp1, hq1, hl1 => by
    have hc : (decide ((List.length p_20_0 : Int) < ((List.length (List.map b_si a0)) : Int))) = true := by
      rw [← hp0]; simp only [List.length_map, List.length_set, List.length_append, List.length_replicate, List.length_cons, List.length_nil, decide_eq_true_eq]; omega
    have Hx0_20_0 : (a0)[Int.toNat (List.length p_20_0 : Int)]? = some x0_20_0 := by
      rw [← hp0, Int.toNat_natCast]; simp
    have Hx1_20_0 : (a1)[Int.toNat (List.length p_20_0 : Int)]? = some x1_20_0 := by
      rw [← hp1, hq1, Int.toNat_natCast]; simp
    have hlen : List.length (a0) = List.length p_20_0 + List.length l0_20_0 + 1 := by rw [← hp0]; simp; omega
    have hw : IntKind.wrap .i64 ((List.length p_20_0 : Int) + 1) = (List.length p_20_0 : Int) + 1 := wrap64 (by omega)
    simp only [r20_0]
    by_cases h_20_0_1 : (!(m64 x0_20_0 x1_20_0)) = true
    · try simp only [if_pos h_20_0_1]
      have st := codeH_ok (F := F) (X := X) (c := b20_0) (t := 0) (hs := [(8, .b true), (14, .row [(.val (.string x0_20_0.f0)), (.val (.int .i64 x0_20_0.f1))]), (22, .row [(.val (.string x1_20_0.f0)), (.val (.int .i64 x1_20_0.f1))]), (26, .ret [] [(.one (.val (.bool (m64 x0_20_0 x1_20_0))))] [] []), (29, .b true)]) (σ := h20_0 l0_0 l1_0 a0 a1 (List.length p_20_0 : Int) ) (σ' := ⟨[(4, (.one (.val (.bool false))))], []⟩) (e := .ret) (t' := 32) (hs' := []) (q := [(decide ((List.length p_20_0 : Int) < ((List.length (List.map b_si a0)) : Int))) = true, 0 ≤ (List.length p_20_0 : Int), (List.map b_si a0)[(Int.toNat (List.length p_20_0 : Int))]? = some [(.val (.string x0_20_0.f0)), (.val (.int .i64 x0_20_0.f1))], 0 ≤ (List.length p_20_0 : Int), (List.map b_si a1)[(Int.toNat (List.length p_20_0 : Int))]? = some [(.val (.string x1_20_0.f0)), (.val (.int .i64 x1_20_0.f1))], Ev F X (.call 64 [(.agg [(.val (.string x0_20_0.f0)), (.val (.int .i64 x0_20_0.f1))]), (.agg [(.val (.string x1_20_0.f0)), (.val (.int .i64 x1_20_0.f1))])] [] [] [(.one (.val (.bool (m64 x0_20_0 x1_20_0))))]), (!(m64 x0_20_0 x1_20_0)) = true]) (by kernel_rfl) ⟨hc, (by first | exact True.intro | with_reducible rfl | with_reducible assumption | omega | (simp only [decide_eq_true_eq] at *; omega) | (simp only [List.length_map, List.length_set, List.length_append, List.length_replicate, List.length_cons, List.length_nil]; omega) | (simp; omega) | (simp [List.take_of_length_le]; done) | assumption | trivial | (simp [*, byteRows_eq, ints_y]; done)), (by first | (rw [List.getElem?_map, Hx0_20_0]; rfl) | (rw [Nat.zero_add, List.getElem?_map, Hx0_20_0]; rfl) | exact True.intro | with_reducible rfl | with_reducible assumption | omega | (simp only [List.length_map, List.length_set, List.length_append, List.length_replicate, List.length_cons, List.length_nil]; omega) | (simp; done) | (simp; omega) | (simp [List.take_of_length_le]; done) | (simp [← List.map_take, ← List.map_drop]; done) | assumption | trivial | (simp [*, b_si, d_si, byteRows_eq, ints_y]; done)), (by first | exact True.intro | with_reducible rfl | with_reducible assumption | omega | (simp only [decide_eq_true_eq] at *; omega) | (simp only [List.length_map, List.length_set, List.length_append, List.length_replicate, List.length_cons, List.length_nil]; omega) | (simp; omega) | (simp [List.take_of_length_le]; done) | assumption | trivial | (simp [*, byteRows_eq, ints_y]; done)), (by first | (rw [List.getElem?_map, Hx1_20_0]; rfl) | (rw [Nat.zero_add, List.getElem?_map, Hx1_20_0]; rfl) | exact True.intro | with_reducible rfl | with_reducible assumption | omega | (simp only [List.length_map, List.length_set, List.length_append, List.length_replicate, List.length_cons, List.length_nil]; omega) | (simp; done) | (simp; omega) | (simp [List.take_of_length_le]; done) | (simp [← List.map_take, ← List.map_drop]; done) | assumption | trivial | (simp [*, b_si, d_si, byteRows_eq, ints_y]; done)), (e64 (a0 := x0_20_0) (a1 := x1_20_0)), h_20_0_1, trivial⟩
      rw [show (⟨[(4, (.one (.val (.bool false))))], []⟩ : St) = fin20_0 l0_0 l1_0 a0 a1 (.k1) from by first | rfl | (unfold fin20_0; simp [byteRows_eq, ints_y, List.take_of_length_le, d_si, d_LsiE, d_i, d_b, d_iLsiE, d_s, d_y, fromBR_si, fromBR_i, fromBR_b, fromBR_s, fromBR_y]; done)] at st
      exact .loopX st (show (.ret : VX.Exit) ≠ .normal from by simp)
    · try simp only [if_neg h_20_0_1]
      have st := codeH_ok (F := F) (X := X) (c := b20_0) (t := 0) (hs := [(8, .b true), (14, .row [(.val (.string x0_20_0.f0)), (.val (.int .i64 x0_20_0.f1))]), (22, .row [(.val (.string x1_20_0.f0)), (.val (.int .i64 x1_20_0.f1))]), (26, .ret [] [(.one (.val (.bool (m64 x0_20_0 x1_20_0))))] [] []), (29, .b false)]) (σ := h20_0 l0_0 l1_0 a0 a1 (List.length p_20_0 : Int) ) (σ' := ⟨[(0, (.one (.bor l0_0 (List.map b_si a0)))), (1, (.one (.bor l1_0 (List.map b_si a1)))), (5, (.one (.val (.int .i64 (IntKind.wrap .i64 ((List.length p_20_0 : Int) + 1))))))], []⟩) (e := .normal) (t' := 36) (hs' := []) (q := [(decide ((List.length p_20_0 : Int) < ((List.length (List.map b_si a0)) : Int))) = true, 0 ≤ (List.length p_20_0 : Int), (List.map b_si a0)[(Int.toNat (List.length p_20_0 : Int))]? = some [(.val (.string x0_20_0.f0)), (.val (.int .i64 x0_20_0.f1))], 0 ≤ (List.length p_20_0 : Int), (List.map b_si a1)[(Int.toNat (List.length p_20_0 : Int))]? = some [(.val (.string x1_20_0.f0)), (.val (.int .i64 x1_20_0.f1))], Ev F X (.call 64 [(.agg [(.val (.string x0_20_0.f0)), (.val (.int .i64 x0_20_0.f1))]), (.agg [(.val (.string x1_20_0.f0)), (.val (.int .i64 x1_20_0.f1))])] [] [] [(.one (.val (.bool (m64 x0_20_0 x1_20_0))))]), (!(m64 x0_20_0 x1_20_0)) = false, True]) (by kernel_rfl) ⟨hc, (by first | exact True.intro | with_reducible rfl | with_reducible assumption | omega | (simp only [decide_eq_true_eq] at *; omega) | (simp only [List.length_map, List.length_set, List.length_append, List.length_replicate, List.length_cons, List.length_nil]; omega) | (simp; omega) | (simp [List.take_of_length_le]; done) | assumption | trivial | (simp [*, byteRows_eq, ints_y]; done)), (by first | (rw [List.getElem?_map, Hx0_20_0]; rfl) | (rw [Nat.zero_add, List.getElem?_map, Hx0_20_0]; rfl) | exact True.intro | with_reducible rfl | with_reducible assumption | omega | (simp only [List.length_map, List.length_set, List.length_append, List.length_replicate, List.length_cons, List.length_nil]; omega) | (simp; done) | (simp; omega) | (simp [List.take_of_length_le]; done) | (simp [← List.map_take, ← List.map_drop]; done) | assumption | trivial | (simp [*, b_si, d_si, byteRows_eq, ints_y]; done)), (by first | exact True.intro | with_reducible rfl | with_reducible assumption | omega | (simp only [decide_eq_true_eq] at *; omega) | (simp only [List.length_map, List.length_set, List.length_append, List.length_replicate, List.length_cons, List.length_nil]; omega) | (simp; omega) | (simp [List.take_of_length_le]; done) | assumption | trivial | (simp [*, byteRows_eq, ints_y]; done)), (by first | (rw [List.getElem?_map, Hx1_20_0]; rfl) | (rw [Nat.zero_add, List.getElem?_map, Hx1_20_0]; rfl) | exact True.intro | with_reducible rfl | with_reducible assumption | omega | (simp only [List.length_map, List.length_set, List.length_append, List.length_replicate, List.length_cons, List.length_nil]; omega) | (simp; done) | (simp; omega) | (simp [List.take_of_length_le]; done) | (simp [← List.map_take, ← List.map_drop]; done) | assumption | trivial | (simp [*, b_si, d_si, byteRows_eq, ints_y]; done)), (e64 (a0 := x0_20_0) (a1 := x1_20_0)), (nt h_20_0_1), trivial, trivial⟩
      have ih := t20_0 (l0_0 := l0_0) (l1_0 := l1_0) (a0 := a0) (a1 := a1) hy0 hy1 l0_20_0 l1_20_0 (p_20_0 ++ [x0_20_0]) (p_20_0_1 ++ [x1_20_0])  (by rw [List.append_assoc]; exact hp0) (by rw [List.append_assoc]; exact hp1) (by simp only [List.length_map, List.length_set, List.length_append, List.length_replicate, List.length_cons, List.length_nil]; omega) (by simp only [List.length_map, List.length_set, List.length_append, List.length_replicate, List.length_cons, List.length_nil] at hl1; omega)
      rw [show ((p_20_0 ++ [x0_20_0]).length : Int) = (p_20_0.length : Int) + 1 from by simp] at ih
      rw [show (⟨[(0, (.one (.bor l0_0 (List.map b_si a0)))), (1, (.one (.bor l1_0 (List.map b_si a1)))), (5, (.one (.val (.int .i64 (IntKind.wrap .i64 ((List.length p_20_0 : Int) + 1))))))], []⟩ : St) = h20_0 l0_0 l1_0 a0 a1 ((List.length p_20_0 : Int) + 1)  from by first | (unfold h20_0; simp only [hw]; done) | (unfold h20_0; simp only [hw, List.length_map, List.length_set, List.length_append, List.length_replicate, List.length_cons, List.length_nil]; done) | (unfold h20_0; simp [hw, byteRows_eq, ints_y, List.take_of_length_le, d_si, d_LsiE, d_i, d_b, d_iLsiE, d_s, d_y, fromBR_si, fromBR_i, fromBR_b, fromBR_s, fromBR_y]; done)] at st
      exact .loopN st ih
/-! loop.example/g00539/laws.eqWeightS -/
def m20 (a0 : (List K_si)) (a1 : (List K_si)) : Bool :=
  if (((List.length (List.map b_si a0)) : Int) != ((List.length (List.map b_si a1)) : Int)) = true then false else
  (match r20_0 a0 a0 a1 0 with | .k0 w0_20_0_1 w1_20_0_1 => true | .k1 => false)
theorem e20 {l0_0 : Nat} {a0 : (List K_si)} {l1_0 : Nat} {a1 : (List K_si)} (hy0 : List.length a0 * 24 ≤ 140737488351232) (hy1 : List.length a1 * 24 ≤ 140737488351232) : Ev F X (.call 20 [(.one (.bor l0_0 (List.map b_si a0))), (.one (.bor l1_0 (List.map b_si a1)))] [] [] [(.one (.val (.bool (m20 a0 a1))))]) := by
  unfold m20
  by_cases h0 : (((List.length (List.map b_si a0)) : Int) != ((List.length (List.map b_si a1)) : Int)) = true
  · try simp only [if_pos h0]
    exact callP_ok (ps := []) (os := []) (rs := [(.one (.val (.bool false)))]) (by kernel_rfl) (.f h0 (.h 12 (.b true) .nil))
  · try simp only [if_neg h0]
    cases h1 : r20_0 a0 a0 a1 0 with
    | k0 w0_20_0_1 w1_20_0_1 =>
      try dsimp only
      have f1 : (⟨[(0, (.one (.bor l0_0 (List.map b_si a0)))), (1, (.one (.bor l1_0 (List.map b_si a1)))), (5, (.one (.val (.int .i64 0))))], []⟩ : St) = h20_0 l0_0 l1_0 a0 a1 0  := (by first | rfl | (unfold h20_0; simp [byteRows_eq, ints_y, List.take_of_length_le, d_si, d_LsiE, d_i, d_b, d_iLsiE, d_s, d_y, fromBR_si, fromBR_i, fromBR_b, fromBR_s, fromBR_y]; done))
      have f2 : Ev F X (.code l20_0 (h20_0 l0_0 l1_0 a0 a1 0 ) (.exit 0) ⟨[(0, (.one (.bor l0_0 (List.map b_si a0)))), (1, (.one (.bor l1_0 (List.map b_si a1)))), (5, (.one (.val (.int .i64 w0_20_0_1)))), (14, (.one (.val (.bool w1_20_0_1))))], []⟩) := (by have t : Ev F X (.code l20_0 (h20_0 l0_0 l1_0 a0 a1 0 ) (ex20_0 (r20_0 a0 a0 a1 0)) (fin20_0 l0_0 l1_0 a0 a1 (r20_0 a0 a0 a1 0))) := t20_0 (l0_0 := l0_0) (l1_0 := l1_0) (a0 := a0) (a1 := a1) (by first | assumption | omega) (by first | assumption | omega) a0 a1 [] []  rfl rfl rfl (by first | omega | (simp at *; omega)); rw [h1] at t; exact t)
      exact callP_ok (ps := []) (os := []) (rs := [(.one (.val (.bool true)))]) (by kernel_rfl) (.f (nt h0) (.f f1 (.f f2 (.h 12 (.b false) (.h 15 (.loop (h20_0 l0_0 l1_0 a0 a1 0 ) (.exit 0) ⟨[(0, (.one (.bor l0_0 (List.map b_si a0)))), (1, (.one (.bor l1_0 (List.map b_si a1)))), (5, (.one (.val (.int .i64 w0_20_0_1)))), (14, (.one (.val (.bool w1_20_0_1))))], []⟩) .nil)))))
    | k1 =>
      try dsimp only
      have f1 : (⟨[(0, (.one (.bor l0_0 (List.map b_si a0)))), (1, (.one (.bor l1_0 (List.map b_si a1)))), (5, (.one (.val (.int .i64 0))))], []⟩ : St) = h20_0 l0_0 l1_0 a0 a1 0  := (by first | rfl | (unfold h20_0; simp [byteRows_eq, ints_y, List.take_of_length_le, d_si, d_LsiE, d_i, d_b, d_iLsiE, d_s, d_y, fromBR_si, fromBR_i, fromBR_b, fromBR_s, fromBR_y]; done))
      have f2 : Ev F X (.code l20_0 (h20_0 l0_0 l1_0 a0 a1 0 ) .ret ⟨[(4, (.one (.val (.bool false))))], []⟩) := (by have t : Ev F X (.code l20_0 (h20_0 l0_0 l1_0 a0 a1 0 ) (ex20_0 (r20_0 a0 a0 a1 0)) (fin20_0 l0_0 l1_0 a0 a1 (r20_0 a0 a0 a1 0))) := t20_0 (l0_0 := l0_0) (l1_0 := l1_0) (a0 := a0) (a1 := a1) (by first | assumption | omega) (by first | assumption | omega) a0 a1 [] []  rfl rfl rfl (by first | omega | (simp at *; omega)); rw [h1] at t; exact t)
      exact callP_ok (ps := []) (os := []) (rs := [(.one (.val (.bool false)))]) (by kernel_rfl) (.f (nt h0) (.f f1 (.f f2 (.h 12 (.b false) (.h 15 (.loop (h20_0 l0_0 l1_0 a0 a1 0 ) .ret ⟨[(4, (.one (.val (.bool false))))], []⟩) .nil)))))
theorem eqr20_0 (a0 : (List K_si)) : ∀ (l m : List K_si) (i : Int), l.length = m.length → (r20_0 a0 l m i = .k1 ∧ l ≠ m) ∨ (∃ w0 w1, r20_0 a0 l m i = .k0 w0 w1 ∧ l = m)
  | [], [], i, _ => .inr ⟨_, _, rfl, rfl⟩
  | [], _ :: _, i, h => by simp at h
  | _ :: _, [], i, h => by simp at h
  | x :: l, y :: m, i, h => by
    have ih := eqr20_0 a0 l m (i + 1) (by simpa using h)
    by_cases hxy : x = y
    · subst hxy
      have e : r20_0 a0 (x :: l) (x :: m) i = r20_0 a0 l m (i + 1) := by simp [r20_0, ba_eq, eqd64]
      rw [e]
      rcases ih with ⟨h1, h2⟩ | ⟨w0, w1, h1, h2⟩
      · exact .inl ⟨h1, by simp [h2]⟩
      · exact .inr ⟨_, _, h1, by rw [h2]⟩
    · have e : r20_0 a0 (x :: l) (y :: m) i = .k1 := by
        simp only [r20_0]
        first
          | ((repeat' split) <;> simp_all [ba_eq, eqd64]; done)
          | (cases x; cases y; (repeat' split) <;> simp_all [ba_eq, eqd64])
      exact .inl ⟨e, by simp [hxy]⟩
open Classical in
theorem eqd20 (a b : (List K_si)) : m20 a b = decide (a = b) := by
  rw [Bool.eq_iff_iff, decide_eq_true_eq]
  unfold m20
  by_cases hl : List.length a = List.length b
  · rcases eqr20_0 a a b 0 hl with ⟨h1, h2⟩ | ⟨w0, w1, h1, h2⟩
    · simp only [h1, List.length_map, hl]
      first
        | (simp [h2, ba_eq, eqd64]; done)
        | (cases a; cases b; simp_all [ba_eq, eqd64]; done)
        | (cases a; cases b; (repeat' split) <;> simp_all [ba_eq, eqd64])
    · simp only [h1, List.length_map, hl]
      first
        | (simp [h2, ba_eq, eqd64]; done)
        | (cases a; cases b; simp_all [ba_eq, eqd64]; done)
        | (cases a; cases b; (repeat' split) <;> simp_all [ba_eq, eqd64])
  · have hn : a ≠ b := by rintro rfl; exact hl rfl
    simp only [List.length_map]
    first
      | (simp [hn, hl, ba_eq, eqd64]; done)
      | ((repeat' split) <;> simp_all [ba_eq, eqd64]; done)
      | (simp [hn]; omega)
/-! loop.example/g00539/spec.l1In -/
def m72 (a0 : Int) (a1 : Int) (a2 : Int) : Bool :=
  if (decide (a0 ≥ a1)) = true then (decide (a0 ≤ a2)) else
  false
theorem e72 {a0 : Int} {a1 : Int} {a2 : Int} : Ev F X (.call 72 [(.one (.val (.int .i64 a0))), (.one (.val (.int .i64 a1))), (.one (.val (.int .i64 a2)))] [] [] [(.one (.val (.bool (m72 a0 a1 a2))))]) := by
  unfold m72
  by_cases h0 : (decide (a0 ≥ a1)) = true
  · try simp only [if_pos h0]
    exact callP_ok (ps := []) (os := []) (rs := [(.one (.val (.bool (decide (a0 ≤ a2)))))]) (by kernel_rfl) (.f h0 (.f h0 (.f h0 (.f h0 (.h 10 (.b true) (.h 12 (.b true) (.h 14 (.b true) (.h 17 (.b true) .nil))))))))
  · try simp only [if_neg h0]
    exact callP_ok (ps := []) (os := []) (rs := [(.one (.val (.bool false)))]) (by kernel_rfl) (.f (nt h0) (.f (nt h0) (.f (nt h0) (.f (nt h0) (.h 10 (.b false) (.h 12 (.b false) (.h 14 (.b false) (.h 17 (.b false) .nil))))))))
theorem jn72 {a b c : Int} (h : ¬ (!(m72 a b c)) = true) : b ≤ a ∧ a ≤ c := by
  simp only [Bool.not_eq_true', Bool.not_eq_false] at h
  unfold m72 at h; split at h <;> simp_all <;> omega
/-! loop.example/g00539/spec.l9Letter -/
def m111 (a0 : Int) : Bool :=
  if (decide (a0 ≥ 97)) = true then (if (decide (a0 ≤ 122)) = true then true else
    if (decide (a0 ≥ 65)) = true then (if (decide (a0 ≤ 90)) = true then true else
        if (decide (a0 ≥ 48)) = true then (decide (a0 ≤ 57)) else
          false) else
      if (decide (a0 ≥ 48)) = true then (decide (a0 ≤ 57)) else
        false) else
  if (decide (a0 ≥ 65)) = true then (if (decide (a0 ≤ 90)) = true then true else
      if (decide (a0 ≥ 48)) = true then (decide (a0 ≤ 57)) else
        false) else
    if (decide (a0 ≥ 48)) = true then (decide (a0 ≤ 57)) else
      false
theorem e111 {a0 : Int} : Ev F X (.call 111 [(.one (.val (.int .u8 a0)))] [] [] [(.one (.val (.bool (m111 a0))))]) := by
  unfold m111
  by_cases h0 : (decide (a0 ≥ 97)) = true
  · try simp only [if_pos h0]
    by_cases h1 : (decide (a0 ≤ 122)) = true
    · try simp only [if_pos h1]
      exact callP_ok (ps := []) (os := []) (rs := [(.one (.val (.bool true)))]) (by kernel_rfl) (.f h0 (.f h0 (.f h0 (.f h1 (.f h1 (.f h1 (.f h1 (.f h1 (.h 8 (.b true) (.h 10 (.b true) (.h 13 (.b true) (.h 16 (.b true) (.h 18 (.b true) (.h 20 (.b true) (.h 26 (.b true) (.h 29 (.b true) .nil))))))))))))))))
    · try simp only [if_neg h1]
      by_cases h2 : (decide (a0 ≥ 65)) = true
      · try simp only [if_pos h2]
        by_cases h3 : (decide (a0 ≤ 90)) = true
        · try simp only [if_pos h3]
          exact callP_ok (ps := []) (os := []) (rs := [(.one (.val (.bool true)))]) (by kernel_rfl) (.f h0 (.f h0 (.f h0 (.f (nt h1) (.f (nt h1) (.f (nt h1) (.f h2 (.f h2 (.f (nt h1) (.f h2 (.f (nt h1) (.f h3 (.f h3 (.f h3 (.f h3 (.f h3 (.h 8 (.b true) (.h 10 (.b true) (.h 13 (.b true) (.h 16 (.b false) (.h 18 (.b false) (.h 20 (.b false) (.h 22 (.b true) (.h 24 (.b true) (.h 26 (.b false) (.h 27 (.b true) (.h 29 (.b false) (.h 32 (.b true) (.h 34 (.b true) (.h 36 (.b true) (.h 42 (.b true) (.h 45 (.b true) .nil))))))))))))))))))))))))))))))))
        · try simp only [if_neg h3]
          by_cases h4 : (decide (a0 ≥ 48)) = true
          · try simp only [if_pos h4]
            exact callP_ok (ps := []) (os := []) (rs := [(.one (.val (.bool (decide (a0 ≤ 57)))))]) (by kernel_rfl) (.f h0 (.f h0 (.f h0 (.f (nt h1) (.f (nt h1) (.f (nt h1) (.f h2 (.f h2 (.f (nt h1) (.f h2 (.f (nt h1) (.f (nt h3) (.f (nt h3) (.f (nt h3) (.f h4 (.f h4 (.f (nt h3) (.f h4 (.f (nt h3) (.h 8 (.b true) (.h 10 (.b true) (.h 13 (.b true) (.h 16 (.b false) (.h 18 (.b false) (.h 20 (.b false) (.h 22 (.b true) (.h 24 (.b true) (.h 26 (.b false) (.h 27 (.b true) (.h 29 (.b false) (.h 32 (.b false) (.h 34 (.b false) (.h 36 (.b false) (.h 38 (.b true) (.h 40 (.b true) (.h 42 (.b false) (.h 43 (.b true) (.h 45 (.b false) .nil))))))))))))))))))))))))))))))))))))))
          · try simp only [if_neg h4]
            exact callP_ok (ps := []) (os := []) (rs := [(.one (.val (.bool false)))]) (by kernel_rfl) (.f h0 (.f h0 (.f h0 (.f (nt h1) (.f (nt h1) (.f (nt h1) (.f h2 (.f h2 (.f (nt h1) (.f h2 (.f (nt h1) (.f (nt h3) (.f (nt h3) (.f (nt h3) (.f (nt h4) (.f (nt h4) (.f (nt h3) (.f (nt h4) (.f (nt h3) (.h 8 (.b true) (.h 10 (.b true) (.h 13 (.b true) (.h 16 (.b false) (.h 18 (.b false) (.h 20 (.b false) (.h 22 (.b true) (.h 24 (.b true) (.h 26 (.b false) (.h 27 (.b true) (.h 29 (.b false) (.h 32 (.b false) (.h 34 (.b false) (.h 36 (.b false) (.h 38 (.b false) (.h 40 (.b false) (.h 42 (.b false) (.h 43 (.b false) (.h 45 (.b false) .nil))))))))))))))))))))))))))))))))))))))
      · try simp only [if_neg h2]
        by_cases h3 : (decide (a0 ≥ 48)) = true
        · try simp only [if_pos h3]
          exact callP_ok (ps := []) (os := []) (rs := [(.one (.val (.bool (decide (a0 ≤ 57)))))]) (by kernel_rfl) (.f h0 (.f h0 (.f h0 (.f (nt h1) (.f (nt h1) (.f (nt h1) (.f (nt h2) (.f (nt h2) (.f (nt h1) (.f (nt h2) (.f (nt h1) (.f h3 (.f h3 (.f h3 (.h 8 (.b true) (.h 10 (.b true) (.h 13 (.b true) (.h 16 (.b false) (.h 18 (.b false) (.h 20 (.b false) (.h 22 (.b false) (.h 24 (.b false) (.h 26 (.b false) (.h 27 (.b false) (.h 29 (.b false) (.h 38 (.b true) (.h 40 (.b true) (.h 43 (.b true) .nil))))))))))))))))))))))))))))
        · try simp only [if_neg h3]
          exact callP_ok (ps := []) (os := []) (rs := [(.one (.val (.bool false)))]) (by kernel_rfl) (.f h0 (.f h0 (.f h0 (.f (nt h1) (.f (nt h1) (.f (nt h1) (.f (nt h2) (.f (nt h2) (.f (nt h1) (.f (nt h2) (.f (nt h1) (.f (nt h3) (.f (nt h3) (.f (nt h3) (.h 8 (.b true) (.h 10 (.b true) (.h 13 (.b true) (.h 16 (.b false) (.h 18 (.b false) (.h 20 (.b false) (.h 22 (.b false) (.h 24 (.b false) (.h 26 (.b false) (.h 27 (.b false) (.h 29 (.b false) (.h 38 (.b false) (.h 40 (.b false) (.h 43 (.b false) .nil))))))))))))))))))))))))))))
  · try simp only [if_neg h0]
    by_cases h1 : (decide (a0 ≥ 65)) = true
    · try simp only [if_pos h1]
      by_cases h2 : (decide (a0 ≤ 90)) = true
      · try simp only [if_pos h2]
        exact callP_ok (ps := []) (os := []) (rs := [(.one (.val (.bool true)))]) (by kernel_rfl) (.f (nt h0) (.f (nt h0) (.f (nt h0) (.f h1 (.f h1 (.f h1 (.f h2 (.f h2 (.f h2 (.f h2 (.f h2 (.h 8 (.b false) (.h 10 (.b false) (.h 13 (.b false) (.h 22 (.b true) (.h 24 (.b true) (.h 27 (.b true) (.h 32 (.b true) (.h 34 (.b true) (.h 36 (.b true) (.h 42 (.b true) (.h 45 (.b true) .nil))))))))))))))))))))))
      · try simp only [if_neg h2]
        by_cases h3 : (decide (a0 ≥ 48)) = true
        · try simp only [if_pos h3]
          exact callP_ok (ps := []) (os := []) (rs := [(.one (.val (.bool (decide (a0 ≤ 57)))))]) (by kernel_rfl) (.f (nt h0) (.f (nt h0) (.f (nt h0) (.f h1 (.f h1 (.f h1 (.f (nt h2) (.f (nt h2) (.f (nt h2) (.f h3 (.f h3 (.f (nt h2) (.f h3 (.f (nt h2) (.h 8 (.b false) (.h 10 (.b false) (.h 13 (.b false) (.h 22 (.b true) (.h 24 (.b true) (.h 27 (.b true) (.h 32 (.b false) (.h 34 (.b false) (.h 36 (.b false) (.h 38 (.b true) (.h 40 (.b true) (.h 42 (.b false) (.h 43 (.b true) (.h 45 (.b false) .nil))))))))))))))))))))))))))))
        · try simp only [if_neg h3]
          exact callP_ok (ps := []) (os := []) (rs := [(.one (.val (.bool false)))]) (by kernel_rfl) (.f (nt h0) (.f (nt h0) (.f (nt h0) (.f h1 (.f h1 (.f h1 (.f (nt h2) (.f (nt h2) (.f (nt h2) (.f (nt h3) (.f (nt h3) (.f (nt h2) (.f (nt h3) (.f (nt h2) (.h 8 (.b false) (.h 10 (.b false) (.h 13 (.b false) (.h 22 (.b true) (.h 24 (.b true) (.h 27 (.b true) (.h 32 (.b false) (.h 34 (.b false) (.h 36 (.b false) (.h 38 (.b false) (.h 40 (.b false) (.h 42 (.b false) (.h 43 (.b false) (.h 45 (.b false) .nil))))))))))))))))))))))))))))
    · try simp only [if_neg h1]
      by_cases h2 : (decide (a0 ≥ 48)) = true
      · try simp only [if_pos h2]
        exact callP_ok (ps := []) (os := []) (rs := [(.one (.val (.bool (decide (a0 ≤ 57)))))]) (by kernel_rfl) (.f (nt h0) (.f (nt h0) (.f (nt h0) (.f (nt h1) (.f (nt h1) (.f (nt h1) (.f h2 (.f h2 (.f h2 (.h 8 (.b false) (.h 10 (.b false) (.h 13 (.b false) (.h 22 (.b false) (.h 24 (.b false) (.h 27 (.b false) (.h 38 (.b true) (.h 40 (.b true) (.h 43 (.b true) .nil))))))))))))))))))
      · try simp only [if_neg h2]
        exact callP_ok (ps := []) (os := []) (rs := [(.one (.val (.bool false)))]) (by kernel_rfl) (.f (nt h0) (.f (nt h0) (.f (nt h0) (.f (nt h1) (.f (nt h1) (.f (nt h1) (.f (nt h2) (.f (nt h2) (.f (nt h2) (.h 8 (.b false) (.h 10 (.b false) (.h 13 (.b false) (.h 22 (.b false) (.h 24 (.b false) (.h 27 (.b false) (.h 38 (.b false) (.h 40 (.b false) (.h 43 (.b false) .nil))))))))))))))))))
/-! loop 93_0 -/
inductive O93_0 where
  | k0 (w0 : Int) (w1 : Bool)
  | k1
def r93_0 (a0 : ByteArray) : Nat → Int → O93_0
  | n_93_0 + 1, i_93_0 =>
    if (!(m111 (byteAt a0 i_93_0))) = true then (O93_0.k1) else
    (r93_0 a0 n_93_0 (i_93_0 + 1) )
  | 0, i_93_0 => (O93_0.k0 i_93_0 (decide (i_93_0 < (ByteArray.size a0 : Int))))
def h93_0 (a0 : ByteArray) (i_93_0 : Int)  : St := ⟨[(0, (.one (.val (.string a0)))), (3, (.one (.val (.int .i64 i_93_0))))], []⟩
def ex93_0 : O93_0 → VX.Exit
  | .k0 _ _ => (.exit 0)
  | .k1 => .ret
def fin93_0 (a0 : ByteArray) : O93_0 → St
  | .k0 w0 w1 => ⟨[(0, (.one (.val (.string a0)))), (3, (.one (.val (.int .i64 w0)))), (7, (.one (.val (.bool w1))))], []⟩
  | .k1 => ⟨[(2, (.one (.val (.bool false))))], []⟩
theorem t93_0 {a0 : ByteArray} (hy0 : ByteArray.size a0 ≤ 140737488351232) : ∀ (n_93_0 : Nat) (i_93_0 : Int) , 0 ≤ i_93_0 → n_93_0 = Int.toNat ((ByteArray.size a0 : Int) - i_93_0) → (ByteArray.size a0 : Int) ≤ 9223372036854775807 → Ev F X (.code l93_0 (h93_0 a0 i_93_0 ) (ex93_0 (r93_0 a0 n_93_0 i_93_0 )) (fin93_0 a0 (r93_0 a0 n_93_0 i_93_0 )))
  | 0, i_93_0, hn0, hn, hi0 => by
    have hc : ¬ (decide (i_93_0 < (ByteArray.size a0 : Int))) = true := by
      simp only [decide_eq_true_eq]; omega
    have st := codeH_ok (F := F) (X := X) (c := b93_0) (t := 0) (hs := [(8, .b false)]) (σ := h93_0 a0 i_93_0 ) (σ' := ⟨[(0, (.one (.val (.string a0)))), (3, (.one (.val (.int .i64 i_93_0)))), (7, (.one (.val (.bool (decide (i_93_0 < (ByteArray.size a0 : Int)))))))], []⟩) (e := (.exit 0)) (t' := 9) (hs' := []) (q := [(decide (i_93_0 < (ByteArray.size a0 : Int))) = false]) (by kernel_rfl) ⟨(nt hc), trivial⟩
    rw [show (⟨[(0, (.one (.val (.string a0)))), (3, (.one (.val (.int .i64 i_93_0)))), (7, (.one (.val (.bool (decide (i_93_0 < (ByteArray.size a0 : Int)))))))], []⟩ : St) = fin93_0 a0 (.k0 i_93_0 (decide (i_93_0 < (ByteArray.size a0 : Int)))) from by first | rfl | (unfold fin93_0; simp [byteRows_eq, ints_y, List.take_of_length_le, d_si, d_LsiE, d_i, d_b, d_iLsiE, d_s, d_y, fromBR_si, fromBR_i, fromBR_b, fromBR_s, fromBR_y]; done)] at st
    exact .loopX st (show ((.exit 0) : VX.Exit) ≠ .normal from by simp)
  | n_93_0 + 1, i_93_0, hn0, hn, hi0 => by
    have hc : (decide (i_93_0 < (ByteArray.size a0 : Int))) = true := by
      simp only [decide_eq_true_eq]; omega
    have hw : IntKind.wrap .i64 (i_93_0 + 1) = i_93_0 + 1 := wrap64 (by omega)
    have hj0 := hi0; try simp only [List.length_map, List.length_set, List.length_append, List.length_replicate, List.length_cons, List.length_nil, Int.toNat_natCast] at hj0
    simp only [r93_0]
    by_cases h_93_0_1 : (!(m111 (byteAt a0 i_93_0))) = true
    · try simp only [if_pos h_93_0_1]
      have st := codeH_ok (F := F) (X := X) (c := b93_0) (t := 0) (hs := [(8, .b true), (16, .ret [] [(.one (.val (.bool (m111 (byteAt a0 i_93_0)))))] [] []), (19, .b true)]) (σ := h93_0 a0 i_93_0 ) (σ' := ⟨[(2, (.one (.val (.bool false))))], []⟩) (e := .ret) (t' := 22) (hs' := []) (q := [(decide (i_93_0 < (ByteArray.size a0 : Int))) = true, 0 ≤ i_93_0 ∧ i_93_0 < (ByteArray.size a0 : Int), Ev F X (.call 111 [(.one (.val (.int .u8 (byteAt a0 i_93_0))))] [] [] [(.one (.val (.bool (m111 (byteAt a0 i_93_0)))))]), (!(m111 (byteAt a0 i_93_0))) = true]) (by kernel_rfl) ⟨hc, (by first | exact True.intro | with_reducible rfl | with_reducible assumption | omega | (simp only [decide_eq_true_eq] at *; omega) | (simp only [List.length_map, List.length_set, List.length_append, List.length_replicate, List.length_cons, List.length_nil]; omega) | (simp; omega) | (simp [List.take_of_length_le]; done) | assumption | trivial | (simp [*, byteRows_eq, ints_y]; done)), (e111 (a0 := (byteAt a0 i_93_0))), h_93_0_1, trivial⟩
      rw [show (⟨[(2, (.one (.val (.bool false))))], []⟩ : St) = fin93_0 a0 (.k1) from by first | rfl | (unfold fin93_0; simp [byteRows_eq, ints_y, List.take_of_length_le, d_si, d_LsiE, d_i, d_b, d_iLsiE, d_s, d_y, fromBR_si, fromBR_i, fromBR_b, fromBR_s, fromBR_y]; done)] at st
      exact .loopX st (show (.ret : VX.Exit) ≠ .normal from by simp)
    · try simp only [if_neg h_93_0_1]
      have st := codeH_ok (F := F) (X := X) (c := b93_0) (t := 0) (hs := [(8, .b true), (16, .ret [] [(.one (.val (.bool (m111 (byteAt a0 i_93_0)))))] [] []), (19, .b false)]) (σ := h93_0 a0 i_93_0 ) (σ' := ⟨[(0, (.one (.val (.string a0)))), (3, (.one (.val (.int .i64 (IntKind.wrap .i64 (i_93_0 + 1))))))], []⟩) (e := .normal) (t' := 26) (hs' := []) (q := [(decide (i_93_0 < (ByteArray.size a0 : Int))) = true, 0 ≤ i_93_0 ∧ i_93_0 < (ByteArray.size a0 : Int), Ev F X (.call 111 [(.one (.val (.int .u8 (byteAt a0 i_93_0))))] [] [] [(.one (.val (.bool (m111 (byteAt a0 i_93_0)))))]), (!(m111 (byteAt a0 i_93_0))) = false, True]) (by kernel_rfl) ⟨hc, (by first | exact True.intro | with_reducible rfl | with_reducible assumption | omega | (simp only [decide_eq_true_eq] at *; omega) | (simp only [List.length_map, List.length_set, List.length_append, List.length_replicate, List.length_cons, List.length_nil]; omega) | (simp; omega) | (simp [List.take_of_length_le]; done) | assumption | trivial | (simp [*, byteRows_eq, ints_y]; done)), (e111 (a0 := (byteAt a0 i_93_0))), (nt h_93_0_1), trivial, trivial⟩
      have ih := t93_0 (a0 := a0) hy0 n_93_0 (i_93_0 + 1)  (by omega) (by omega) (by first | omega | (simp only [List.length_map, List.length_set, List.length_append, List.length_replicate, List.length_cons, List.length_nil]; omega) | (simp only [List.length_map, List.length_set, List.length_append, List.length_replicate, List.length_cons, List.length_nil]; assumption) | assumption | (simp only [List.length_map, List.length_set, List.length_append, List.length_replicate, List.length_cons, List.length_nil] at *; omega))
      rw [show (⟨[(0, (.one (.val (.string a0)))), (3, (.one (.val (.int .i64 (IntKind.wrap .i64 (i_93_0 + 1))))))], []⟩ : St) = h93_0 a0 (i_93_0 + 1)  from by first | (unfold h93_0; simp only [hw]; done) | (unfold h93_0; simp only [hw, List.length_map, List.length_set, List.length_append, List.length_replicate, List.length_cons, List.length_nil]; done) | (unfold h93_0; simp [hw, byteRows_eq, ints_y, List.take_of_length_le, d_si, d_LsiE, d_i, d_b, d_iLsiE, d_s, d_y, fromBR_si, fromBR_i, fromBR_b, fromBR_s, fromBR_y]; done)] at st
      exact .loopN st ih
/-! loop.example/g00539/spec.l9Arg -/
def m93 (a0 : ByteArray) : Bool :=
  (match r93_0 a0 (Int.toNat (ByteArray.size a0 : Int)) 0 with | .k0 w0_93_0_0 w1_93_0_0 => (decide ((ByteArray.size a0 : Int) ≤ 12)) | .k1 => false)
theorem e93 {a0 : ByteArray} (hy0 : ByteArray.size a0 ≤ 140737488351232) : Ev F X (.call 93 [(.one (.val (.string a0)))] [] [] [(.one (.val (.bool (m93 a0))))]) := by
  unfold m93
  cases h0 : r93_0 a0 (Int.toNat (ByteArray.size a0 : Int)) 0 with
  | k0 w0_93_0_0 w1_93_0_0 =>
    try dsimp only
    have f0 : (⟨[(0, (.one (.val (.string a0)))), (3, (.one (.val (.int .i64 0))))], []⟩ : St) = h93_0 a0 0  := (by first | rfl | (unfold h93_0; simp [byteRows_eq, ints_y, List.take_of_length_le, d_si, d_LsiE, d_i, d_b, d_iLsiE, d_s, d_y, fromBR_si, fromBR_i, fromBR_b, fromBR_s, fromBR_y]; done))
    have f1 : Ev F X (.code l93_0 (h93_0 a0 0 ) (.exit 0) ⟨[(0, (.one (.val (.string a0)))), (3, (.one (.val (.int .i64 w0_93_0_0)))), (7, (.one (.val (.bool w1_93_0_0))))], []⟩) := (by have t : Ev F X (.code l93_0 (h93_0 a0 0 ) (ex93_0 (r93_0 a0 (Int.toNat (ByteArray.size a0 : Int)) 0)) (fin93_0 a0 (r93_0 a0 (Int.toNat (ByteArray.size a0 : Int)) 0))) := t93_0 (a0 := a0) (by first | assumption | omega) _ 0  (by omega) (by omega) (by first | rfl | omega | (simp only [List.length_map, List.length_set, List.length_append, List.length_replicate, List.length_cons, List.length_nil]; done) | (simp only [List.length_map, List.length_set, List.length_append, List.length_replicate, List.length_cons, List.length_nil]; omega) | (simp; done)); rw [h0] at t; exact t)
    exact callP_ok (ps := []) (os := []) (rs := [(.one (.val (.bool (decide ((ByteArray.size a0 : Int) ≤ 12)))))]) (by kernel_rfl) (.f f0 (.f f1 (.h 4 (.loop (h93_0 a0 0 ) (.exit 0) ⟨[(0, (.one (.val (.string a0)))), (3, (.one (.val (.int .i64 w0_93_0_0)))), (7, (.one (.val (.bool w1_93_0_0))))], []⟩) .nil)))
  | k1 =>
    try dsimp only
    have f0 : (⟨[(0, (.one (.val (.string a0)))), (3, (.one (.val (.int .i64 0))))], []⟩ : St) = h93_0 a0 0  := (by first | rfl | (unfold h93_0; simp [byteRows_eq, ints_y, List.take_of_length_le, d_si, d_LsiE, d_i, d_b, d_iLsiE, d_s, d_y, fromBR_si, fromBR_i, fromBR_b, fromBR_s, fromBR_y]; done))
    have f1 : Ev F X (.code l93_0 (h93_0 a0 0 ) .ret ⟨[(2, (.one (.val (.bool false))))], []⟩) := (by have t : Ev F X (.code l93_0 (h93_0 a0 0 ) (ex93_0 (r93_0 a0 (Int.toNat (ByteArray.size a0 : Int)) 0)) (fin93_0 a0 (r93_0 a0 (Int.toNat (ByteArray.size a0 : Int)) 0))) := t93_0 (a0 := a0) (by first | assumption | omega) _ 0  (by omega) (by omega) (by first | rfl | omega | (simp only [List.length_map, List.length_set, List.length_append, List.length_replicate, List.length_cons, List.length_nil]; done) | (simp only [List.length_map, List.length_set, List.length_append, List.length_replicate, List.length_cons, List.length_nil]; omega) | (simp; done)); rw [h0] at t; exact t)
    exact callP_ok (ps := []) (os := []) (rs := [(.one (.val (.bool false)))]) (by kernel_rfl) (.f f0 (.f f1 (.h 4 (.loop (h93_0 a0 0 ) .ret ⟨[(2, (.one (.val (.bool false))))], []⟩) .nil)))
/-! loop.example/g00539/spec.l13One -/
def m71 (a0 : K_si) : Int :=
  if (a0.f0.toList == (⟨#[]⟩ : ByteArray).toList) = true then 5 else
  if (!(m93 a0.f0)) = true then 5 else
    if (!(m72 a0.f1 1 9999)) = true then 3 else
      0
theorem e71 {l0 : Nat} {a0 : K_si} (hy0 : ByteArray.size a0.f0 ≤ 140737488351232) : Ev F X (.call 71 [(.bptr l0 [(.val (.string a0.f0)), (.val (.int .i64 a0.f1))])] [] [] [(.one (.val (.int .i64 (m71 a0))))]) := by
  unfold m71
  by_cases h0 : (a0.f0.toList == (⟨#[]⟩ : ByteArray).toList) = true
  · try simp only [if_pos h0]
    exact callP_ok (ps := []) (os := []) (rs := [(.one (.val (.int .i64 5)))]) (by kernel_rfl) (.f h0 (.f h0 (.f h0 (.f h0 (.f h0 (.f h0 (.f h0 (.h 14 (.b true) (.h 16 (.b true) (.h 18 (.b true) (.h 20 (.b true) (.h 22 (.b true) (.h 24 (.b true) (.h 27 (.b true) .nil))))))))))))))
  · try simp only [if_neg h0]
    have f5 : Ev F X (.call 93 [(.one (.val (.string a0.f0)))] [] [] [(.one (.val (.bool (m93 a0.f0))))]) := (e93 (a0 := a0.f0) (by first | with_reducible assumption | omega | assumption | (simp only [List.length_map]; omega) | (simp; omega)))
    by_cases h1 : (!(m93 a0.f0)) = true
    · try simp only [if_pos h1]
      exact callP_ok (ps := []) (os := []) (rs := [(.one (.val (.int .i64 5)))]) (by kernel_rfl) (.f (nt h0) (.f (nt h0) (.f (nt h0) (.f (nt h0) (.f (nt h0) (.h 14 (.b false) (.h 16 (.b false) (.h 18 (.b false) (.h 20 (.b false) (.h 22 (.b false) (.r 23 [] [] f5 (.f (nt h0) (.f (nt h0) (.f h1 (.h 24 (.b false) (.h 27 (.b false) (.h 28 (.b true) .nil)))))))))))))))))
    · try simp only [if_neg h1]
      have f9 : Ev F X (.call 72 [(.one (.val (.int .i64 a0.f1))), (.one (.val (.int .i64 1))), (.one (.val (.int .i64 9999)))] [] [] [(.one (.val (.bool (m72 a0.f1 1 9999))))]) := (e72 (a0 := a0.f1) (a1 := 1) (a2 := 9999))
      by_cases h2 : (!(m72 a0.f1 1 9999)) = true
      · try simp only [if_pos h2]
        exact callP_ok (ps := []) (os := []) (rs := [(.one (.val (.int .i64 3)))]) (by kernel_rfl) (.f (nt h0) (.f (nt h0) (.f (nt h0) (.f (nt h0) (.f (nt h0) (.h 14 (.b false) (.h 16 (.b false) (.h 18 (.b false) (.h 20 (.b false) (.h 22 (.b false) (.r 23 [] [] f5 (.f (nt h0) (.f (nt h0) (.f (nt h1) (.h 24 (.b false) (.h 27 (.b false) (.h 28 (.b false) (.r 38 [] [] f9 (.f h2 (.h 41 (.b true) .nil))))))))))))))))))))
      · try simp only [if_neg h2]
        exact callP_ok (ps := []) (os := []) (rs := [(.one (.val (.int .i64 0)))]) (by kernel_rfl) (.f (nt h0) (.f (nt h0) (.f (nt h0) (.f (nt h0) (.f (nt h0) (.h 14 (.b false) (.h 16 (.b false) (.h 18 (.b false) (.h 20 (.b false) (.h 22 (.b false) (.r 23 [] [] f5 (.f (nt h0) (.f (nt h0) (.f (nt h1) (.h 24 (.b false) (.h 27 (.b false) (.h 28 (.b false) (.r 38 [] [] f9 (.f (nt h2) (.h 41 (.b false) .nil))))))))))))))))))))
/-! loop 63_0 -/
inductive O63_0 where
  | k0 (w0 : Int) (w1 : Bool)
  | k1 (w0 : Int)
def r63_0 (a0 : (List K_si)) : List K_si → Int → O63_0
  | x0_63_0 :: l0_63_0, i_63_0 =>
    if ((m71 x0_63_0) != 0) = true then (O63_0.k1 (m71 x0_63_0)) else
    (r63_0 a0 l0_63_0 (i_63_0 + 1) )
  | [], i_63_0 => (O63_0.k0 i_63_0 (decide (i_63_0 < ((List.length (List.map b_si a0)) : Int))))
def h63_0 (l0_0 : Nat) (a0 : (List K_si)) (i_63_0 : Int)  : St := ⟨[(0, (.one (.bor l0_0 (List.map b_si a0)))), (3, (.one (.val (.int .i64 i_63_0))))], []⟩
def ex63_0 : O63_0 → VX.Exit
  | .k0 _ _ => (.exit 0)
  | .k1 _ => .ret
def fin63_0 (l0_0 : Nat) (a0 : (List K_si)) : O63_0 → St
  | .k0 w0 w1 => ⟨[(0, (.one (.bor l0_0 (List.map b_si a0)))), (3, (.one (.val (.int .i64 w0)))), (11, (.one (.val (.bool w1))))], []⟩
  | .k1 w0 => ⟨[(2, (.one (.val (.int .i64 w0))))], []⟩
theorem t63_0 {l0_0 : Nat} {a0 : (List K_si)} (hy0 : List.length a0 * 24 ≤ 140737488351232) (hy1 : ∀ z ∈ a0, os_si z) : ∀ (l0_63_0 : List K_si) (p_63_0 : List K_si) , p_63_0 ++ l0_63_0 = a0 → Ev F X (.code l63_0 (h63_0 l0_0 a0 (List.length p_63_0 : Int) ) (ex63_0 (r63_0 a0 l0_63_0 (List.length p_63_0 : Int) )) (fin63_0 l0_0 a0 (r63_0 a0 l0_63_0 (List.length p_63_0 : Int) )))
  | [], p_63_0, hp0 => by
    have hc : ¬ (decide ((List.length p_63_0 : Int) < ((List.length (List.map b_si a0)) : Int))) = true := by
      rw [← hp0]; simp only [List.length_map, List.length_set, List.length_append, List.length_replicate, List.length_cons, List.length_nil, decide_eq_true_eq]; omega
    have st := codeH_ok (F := F) (X := X) (c := b63_0) (t := 0) (hs := [(8, .b false)]) (σ := h63_0 l0_0 a0 (List.length p_63_0 : Int) ) (σ' := ⟨[(0, (.one (.bor l0_0 (List.map b_si a0)))), (3, (.one (.val (.int .i64 (List.length p_63_0 : Int))))), (11, (.one (.val (.bool (decide ((List.length p_63_0 : Int) < ((List.length (List.map b_si a0)) : Int)))))))], []⟩) (e := (.exit 0)) (t' := 9) (hs' := []) (q := [(decide ((List.length p_63_0 : Int) < ((List.length (List.map b_si a0)) : Int))) = false]) (by kernel_rfl) ⟨(nt hc), trivial⟩
    rw [show (⟨[(0, (.one (.bor l0_0 (List.map b_si a0)))), (3, (.one (.val (.int .i64 (List.length p_63_0 : Int))))), (11, (.one (.val (.bool (decide ((List.length p_63_0 : Int) < ((List.length (List.map b_si a0)) : Int)))))))], []⟩ : St) = fin63_0 l0_0 a0 (.k0 (List.length p_63_0 : Int) (decide ((List.length p_63_0 : Int) < ((List.length (List.map b_si a0)) : Int)))) from by first | rfl | (unfold fin63_0; simp [byteRows_eq, ints_y, List.take_of_length_le, d_si, d_LsiE, d_i, d_b, d_iLsiE, d_s, d_y, fromBR_si, fromBR_i, fromBR_b, fromBR_s, fromBR_y]; done)] at st
    exact .loopX st (show ((.exit 0) : VX.Exit) ≠ .normal from by simp)
  | x0_63_0 :: l0_63_0, p_63_0, hp0 => by
    have hc : (decide ((List.length p_63_0 : Int) < ((List.length (List.map b_si a0)) : Int))) = true := by
      rw [← hp0]; simp only [List.length_map, List.length_set, List.length_append, List.length_replicate, List.length_cons, List.length_nil, decide_eq_true_eq]; omega
    have Hx0_63_0 : (a0)[Int.toNat (List.length p_63_0 : Int)]? = some x0_63_0 := by
      rw [← hp0, Int.toNat_natCast]; simp
    have Mx0_63_0_0 := hy1 x0_63_0 (List.mem_of_getElem? Hx0_63_0)
    have hlen : List.length (a0) = List.length p_63_0 + List.length l0_63_0 + 1 := by rw [← hp0]; simp; omega
    have hw : IntKind.wrap .i64 ((List.length p_63_0 : Int) + 1) = (List.length p_63_0 : Int) + 1 := wrap64 (by omega)
    simp only [r63_0]
    by_cases h_63_0_1 : ((m71 x0_63_0) != 0) = true
    · try simp only [if_pos h_63_0_1]
      have st := codeH_ok (F := F) (X := X) (c := b63_0) (t := 0) (hs := [(8, .b true), (14, .row [(.val (.string x0_63_0.f0)), (.val (.int .i64 x0_63_0.f1))]), (16, .ret [] [(.one (.val (.int .i64 (m71 x0_63_0))))] [] []), (23, .b true)]) (σ := h63_0 l0_0 a0 (List.length p_63_0 : Int) ) (σ' := ⟨[(2, (.one (.val (.int .i64 (m71 x0_63_0)))))], []⟩) (e := .ret) (t' := 28) (hs' := []) (q := [(decide ((List.length p_63_0 : Int) < ((List.length (List.map b_si a0)) : Int))) = true, 0 ≤ (List.length p_63_0 : Int), (List.map b_si a0)[(Int.toNat (List.length p_63_0 : Int))]? = some [(.val (.string x0_63_0.f0)), (.val (.int .i64 x0_63_0.f1))], Ev F X (.call 71 [(.bptr (l0_0 + 1) [(.val (.string x0_63_0.f0)), (.val (.int .i64 x0_63_0.f1))])] [] [] [(.one (.val (.int .i64 (m71 x0_63_0))))]), ((m71 x0_63_0) != 0) = true]) (by kernel_rfl) ⟨hc, (by first | exact True.intro | with_reducible rfl | with_reducible assumption | omega | (simp only [decide_eq_true_eq] at *; omega) | (simp only [List.length_map, List.length_set, List.length_append, List.length_replicate, List.length_cons, List.length_nil]; omega) | (simp; omega) | (simp [List.take_of_length_le]; done) | assumption | trivial | (simp [*, byteRows_eq, ints_y]; done)), (by first | (rw [List.getElem?_map, Hx0_63_0]; rfl) | (rw [Nat.zero_add, List.getElem?_map, Hx0_63_0]; rfl) | exact True.intro | with_reducible rfl | with_reducible assumption | omega | (simp only [List.length_map, List.length_set, List.length_append, List.length_replicate, List.length_cons, List.length_nil]; omega) | (simp; done) | (simp; omega) | (simp [List.take_of_length_le]; done) | (simp [← List.map_take, ← List.map_drop]; done) | assumption | trivial | (simp [*, b_si, d_si, byteRows_eq, ints_y]; done)), (e71 (a0 := x0_63_0) (by first | with_reducible assumption | omega | assumption | (simp only [List.length_map]; omega) | (simp; omega))), h_63_0_1, trivial⟩
      rw [show (⟨[(2, (.one (.val (.int .i64 (m71 x0_63_0)))))], []⟩ : St) = fin63_0 l0_0 a0 (.k1 (m71 x0_63_0)) from by first | rfl | (unfold fin63_0; simp [byteRows_eq, ints_y, List.take_of_length_le, d_si, d_LsiE, d_i, d_b, d_iLsiE, d_s, d_y, fromBR_si, fromBR_i, fromBR_b, fromBR_s, fromBR_y]; done)] at st
      exact .loopX st (show (.ret : VX.Exit) ≠ .normal from by simp)
    · try simp only [if_neg h_63_0_1]
      have st := codeH_ok (F := F) (X := X) (c := b63_0) (t := 0) (hs := [(8, .b true), (14, .row [(.val (.string x0_63_0.f0)), (.val (.int .i64 x0_63_0.f1))]), (16, .ret [] [(.one (.val (.int .i64 (m71 x0_63_0))))] [] []), (23, .b false)]) (σ := h63_0 l0_0 a0 (List.length p_63_0 : Int) ) (σ' := ⟨[(0, (.one (.bor l0_0 (List.map b_si a0)))), (3, (.one (.val (.int .i64 (IntKind.wrap .i64 ((List.length p_63_0 : Int) + 1))))))], []⟩) (e := .normal) (t' := 30) (hs' := []) (q := [(decide ((List.length p_63_0 : Int) < ((List.length (List.map b_si a0)) : Int))) = true, 0 ≤ (List.length p_63_0 : Int), (List.map b_si a0)[(Int.toNat (List.length p_63_0 : Int))]? = some [(.val (.string x0_63_0.f0)), (.val (.int .i64 x0_63_0.f1))], Ev F X (.call 71 [(.bptr (l0_0 + 1) [(.val (.string x0_63_0.f0)), (.val (.int .i64 x0_63_0.f1))])] [] [] [(.one (.val (.int .i64 (m71 x0_63_0))))]), ((m71 x0_63_0) != 0) = false, True]) (by kernel_rfl) ⟨hc, (by first | exact True.intro | with_reducible rfl | with_reducible assumption | omega | (simp only [decide_eq_true_eq] at *; omega) | (simp only [List.length_map, List.length_set, List.length_append, List.length_replicate, List.length_cons, List.length_nil]; omega) | (simp; omega) | (simp [List.take_of_length_le]; done) | assumption | trivial | (simp [*, byteRows_eq, ints_y]; done)), (by first | (rw [List.getElem?_map, Hx0_63_0]; rfl) | (rw [Nat.zero_add, List.getElem?_map, Hx0_63_0]; rfl) | exact True.intro | with_reducible rfl | with_reducible assumption | omega | (simp only [List.length_map, List.length_set, List.length_append, List.length_replicate, List.length_cons, List.length_nil]; omega) | (simp; done) | (simp; omega) | (simp [List.take_of_length_le]; done) | (simp [← List.map_take, ← List.map_drop]; done) | assumption | trivial | (simp [*, b_si, d_si, byteRows_eq, ints_y]; done)), (e71 (a0 := x0_63_0) (by first | with_reducible assumption | omega | assumption | (simp only [List.length_map]; omega) | (simp; omega))), (nt h_63_0_1), trivial, trivial⟩
      have ih := t63_0 (l0_0 := l0_0) (a0 := a0) hy0 hy1 l0_63_0 (p_63_0 ++ [x0_63_0])  (by rw [List.append_assoc]; exact hp0)
      rw [show ((p_63_0 ++ [x0_63_0]).length : Int) = (p_63_0.length : Int) + 1 from by simp] at ih
      rw [show (⟨[(0, (.one (.bor l0_0 (List.map b_si a0)))), (3, (.one (.val (.int .i64 (IntKind.wrap .i64 ((List.length p_63_0 : Int) + 1))))))], []⟩ : St) = h63_0 l0_0 a0 ((List.length p_63_0 : Int) + 1)  from by first | (unfold h63_0; simp only [hw]; done) | (unfold h63_0; simp only [hw, List.length_map, List.length_set, List.length_append, List.length_replicate, List.length_cons, List.length_nil]; done) | (unfold h63_0; simp [hw, byteRows_eq, ints_y, List.take_of_length_le, d_si, d_LsiE, d_i, d_b, d_iLsiE, d_s, d_y, fromBR_si, fromBR_i, fromBR_b, fromBR_s, fromBR_y]; done)] at st
      exact .loopN st ih
/-! loop.example/g00539/spec.l13Fault -/
def m63 (a0 : (List K_si)) : Int :=
  if (decide (((List.length (List.map b_si a0)) : Int) > 12)) = true then 2 else
  (match r63_0 a0 a0 0 with | .k0 w0_63_0_1 w1_63_0_1 => 0 | .k1 w0_63_0_1 => w0_63_0_1)
theorem e63 {l0_0 : Nat} {a0 : (List K_si)} (hy0 : List.length a0 * 24 ≤ 140737488351232) (hy1 : ∀ z ∈ a0, os_si z) : Ev F X (.call 63 [(.one (.bor l0_0 (List.map b_si a0)))] [] [] [(.one (.val (.int .i64 (m63 a0))))]) := by
  unfold m63
  by_cases h0 : (decide (((List.length (List.map b_si a0)) : Int) > 12)) = true
  · try simp only [if_pos h0]
    exact callP_ok (ps := []) (os := []) (rs := [(.one (.val (.int .i64 2)))]) (by kernel_rfl) (.f h0 (.h 8 (.b true) .nil))
  · try simp only [if_neg h0]
    cases h1 : r63_0 a0 a0 0 with
    | k0 w0_63_0_1 w1_63_0_1 =>
      try dsimp only
      have f1 : (⟨[(0, (.one (.bor l0_0 (List.map b_si a0)))), (3, (.one (.val (.int .i64 0))))], []⟩ : St) = h63_0 l0_0 a0 0  := (by first | rfl | (unfold h63_0; simp [byteRows_eq, ints_y, List.take_of_length_le, d_si, d_LsiE, d_i, d_b, d_iLsiE, d_s, d_y, fromBR_si, fromBR_i, fromBR_b, fromBR_s, fromBR_y]; done))
      have f2 : Ev F X (.code l63_0 (h63_0 l0_0 a0 0 ) (.exit 0) ⟨[(0, (.one (.bor l0_0 (List.map b_si a0)))), (3, (.one (.val (.int .i64 w0_63_0_1)))), (11, (.one (.val (.bool w1_63_0_1))))], []⟩) := (by have t : Ev F X (.code l63_0 (h63_0 l0_0 a0 0 ) (ex63_0 (r63_0 a0 a0 0)) (fin63_0 l0_0 a0 (r63_0 a0 a0 0))) := t63_0 (l0_0 := l0_0) (a0 := a0) (by first | assumption | omega) (by first | assumption | omega) a0 []  rfl; rw [h1] at t; exact t)
      exact callP_ok (ps := []) (os := []) (rs := [(.one (.val (.int .i64 0)))]) (by kernel_rfl) (.f (nt h0) (.f f1 (.f f2 (.h 8 (.b false) (.h 11 (.loop (h63_0 l0_0 a0 0 ) (.exit 0) ⟨[(0, (.one (.bor l0_0 (List.map b_si a0)))), (3, (.one (.val (.int .i64 w0_63_0_1)))), (11, (.one (.val (.bool w1_63_0_1))))], []⟩) .nil)))))
    | k1 w0_63_0_1 =>
      try dsimp only
      have f1 : (⟨[(0, (.one (.bor l0_0 (List.map b_si a0)))), (3, (.one (.val (.int .i64 0))))], []⟩ : St) = h63_0 l0_0 a0 0  := (by first | rfl | (unfold h63_0; simp [byteRows_eq, ints_y, List.take_of_length_le, d_si, d_LsiE, d_i, d_b, d_iLsiE, d_s, d_y, fromBR_si, fromBR_i, fromBR_b, fromBR_s, fromBR_y]; done))
      have f2 : Ev F X (.code l63_0 (h63_0 l0_0 a0 0 ) .ret ⟨[(2, (.one (.val (.int .i64 w0_63_0_1))))], []⟩) := (by have t : Ev F X (.code l63_0 (h63_0 l0_0 a0 0 ) (ex63_0 (r63_0 a0 a0 0)) (fin63_0 l0_0 a0 (r63_0 a0 a0 0))) := t63_0 (l0_0 := l0_0) (a0 := a0) (by first | assumption | omega) (by first | assumption | omega) a0 []  rfl; rw [h1] at t; exact t)
      exact callP_ok (ps := []) (os := []) (rs := [(.one (.val (.int .i64 w0_63_0_1)))]) (by kernel_rfl) (.f (nt h0) (.f f1 (.f f2 (.h 8 (.b false) (.h 11 (.loop (h63_0 l0_0 a0 0 ) .ret ⟨[(2, (.one (.val (.int .i64 w0_63_0_1))))], []⟩) .nil)))))
theorem len12_63 (a : List K_si) (h : ¬ ((m63 a) != 0) = true) : List.length a ≤ 12 := by
  unfold m63 at h
  split at h
  · simp at h
  · rename_i h2
    simp only [decide_eq_true_eq, List.length_map] at h2
    omega
/-! loop 73_0 -/
inductive O73_0 where
  | k0 (w0 : Nat) (w1 : Nat) (w2 : Bool)
def r73_0 (a2 : Int) : Nat → Nat → Nat → O73_0
  | n_73_0 + 1, v0_73_0, v1_73_0 =>
    if (decide ((v0_73_0 : Int) > a2)) = true then (r73_0 a2 n_73_0 (Int.toNat (v0_73_0 : Int) - Int.toNat 1) (v1_73_0 + 1)) else
    (O73_0.k0 v1_73_0 v0_73_0 (decide ((v0_73_0 : Int) > a2)))
  | 0, v0_73_0, v1_73_0 => (O73_0.k0 v1_73_0 v0_73_0 (decide ((v0_73_0 : Int) > a2)))
def h73_0 (l0_0 : Nat) (a0 : (List K_si)) (a1 : K_si) (a2 : Int) (v0_73_0 : Nat) (v1_73_0 : Nat) : St := ⟨[(2, (.one (.val (.int .i64 a2)))), (7, (.one (.ref ⟨(7, 0, 0), [], v1_73_0, v0_73_0⟩)))], [((7, 0, 0), .live ⟨2, (List.map d_si ((([]) ++ a0) ++ ([a1]))), []⟩)]⟩
def ex73_0 : O73_0 → VX.Exit
  | .k0 _ _ _ => (.exit 0)
def fin73_0 (l0_0 : Nat) (a0 : (List K_si)) (a1 : K_si) (a2 : Int) : O73_0 → St
  | .k0 w0 w1 w2 => ⟨[(2, (.one (.val (.int .i64 a2)))), (7, (.one (.ref ⟨(7, 0, 0), [], w0, w1⟩))), (17, (.one (.val (.bool w2))))], [((7, 0, 0), .live ⟨2, (List.map d_si ((([]) ++ a0) ++ ([a1]))), []⟩)]⟩
theorem t73_0 {l0_0 : Nat} {a0 : (List K_si)} {a1 : K_si} {a2 : Int} (hy0 : List.length a0 ≤ 1000) (hy1 : 0 ≤ a2) : ∀ (n_73_0 : Nat) (v0_73_0 : Nat) (v1_73_0 : Nat), v1_73_0 + v0_73_0 ≤ (List.length (List.map d_si ((([]) ++ a0) ++ ([a1])))) → v0_73_0 ≤ n_73_0 → Ev F X (.code l73_0 (h73_0 l0_0 a0 a1 a2 v0_73_0 v1_73_0) (ex73_0 (r73_0 a2 n_73_0 v0_73_0 v1_73_0)) (fin73_0 l0_0 a0 a1 a2 (r73_0 a2 n_73_0 v0_73_0 v1_73_0)))
  | 0, v0_73_0, v1_73_0, hi0, hn => by
    have hc : ¬ (decide ((v0_73_0 : Int) > a2)) = true := by first | (exact fuel64_zero hn) | (simp only [decide_eq_true_eq] at *; omega) | (simp at *; omega)
    have st := codeP_ok (F := F) (X := X) (c := b73_0) (t := 0) (σ := h73_0 l0_0 a0 a1 a2 v0_73_0 v1_73_0) (σ' := ⟨[(2, (.one (.val (.int .i64 a2)))), (7, (.one (.ref ⟨(7, 0, 0), [], v1_73_0, v0_73_0⟩))), (17, (.one (.val (.bool (decide ((v0_73_0 : Int) > a2))))))], [((7, 0, 0), .live ⟨2, (List.map d_si ((([]) ++ a0) ++ ([a1]))), []⟩)]⟩) (e := (.exit 0)) (t' := 9) (by kernel_rfl) (.f (nt hc) (.h 8 (.b false) .nil))
    rw [show (⟨[(2, (.one (.val (.int .i64 a2)))), (7, (.one (.ref ⟨(7, 0, 0), [], v1_73_0, v0_73_0⟩))), (17, (.one (.val (.bool (decide ((v0_73_0 : Int) > a2))))))], [((7, 0, 0), .live ⟨2, (List.map d_si ((([]) ++ a0) ++ ([a1]))), []⟩)]⟩ : St) = fin73_0 l0_0 a0 a1 a2 (.k0 v1_73_0 v0_73_0 (decide ((v0_73_0 : Int) > a2))) from by first | rfl | (unfold fin73_0; simp [byteRows_eq, ints_y, List.take_of_length_le, d_si, d_LsiE, d_i, d_b, d_iLsiE, d_s, d_y, fromBR_si, fromBR_i, fromBR_b, fromBR_s, fromBR_y]; done)] at st
    exact .loopX st (show ((.exit 0) : VX.Exit) ≠ .normal from by simp)
  | n_73_0 + 1, v0_73_0, v1_73_0, hi0, hn => by
    simp only [r73_0]
    by_cases h_73_0_0 : (decide ((v0_73_0 : Int) > a2)) = true
    · try simp only [if_pos h_73_0_0]
      have f1 : v1_73_0 + v0_73_0 ≤ (List.length (List.map d_si ((([]) ++ a0) ++ ([a1])))) := (by first | exact True.intro | with_reducible rfl | with_reducible assumption | omega | (simp only [decide_eq_true_eq] at *; omega) | (simp only [List.length_map, List.length_append, List.length_cons, List.length_nil]; omega) | (simp; omega) | (simp [List.take_of_length_le]; done) | assumption | trivial | (simp [*, b_si, d_si, byteRows_eq, ints_y]; done))
      have f2 : 0 ≤ (1 : Int) ∧ (1 : Int) ≤ (v0_73_0 : Int) ∧ (v0_73_0 : Int) ≤ (v0_73_0 : Int) := (by first | exact True.intro | with_reducible rfl | with_reducible assumption | omega | (simp only [decide_eq_true_eq] at *; omega) | (simp only [List.length_map, List.length_set, List.length_append, List.length_replicate, List.length_cons, List.length_nil]; omega) | (simp; omega) | (simp [List.take_of_length_le]; done) | assumption | trivial | (simp [*, byteRows_eq, ints_y]; done))
      have st := codeP_ok (F := F) (X := X) (c := b73_0) (t := 0) (σ := h73_0 l0_0 a0 a1 a2 v0_73_0 v1_73_0) (σ' := ⟨[(2, (.one (.val (.int .i64 a2)))), (7, (.one (.ref ⟨(7, 0, 0), [], (v1_73_0 + 1), (Int.toNat (v0_73_0 : Int) - Int.toNat 1)⟩)))], [((7, 0, 0), .live ⟨2, (List.map d_si ((([]) ++ a0) ++ ([a1]))), []⟩)]⟩) (e := .normal) (t' := 15) (by kernel_rfl) (.f h_73_0_0 (.f f1 (.f f2 (.h 8 (.b true) .nil))))
      have ih := t73_0 (l0_0 := l0_0) (a0 := a0) (a1 := a1) (a2 := a2) hy0 hy1 n_73_0 (Int.toNat (v0_73_0 : Int) - Int.toNat 1) (v1_73_0 + 1) (by first | assumption | omega | (simp only [List.length_map, List.length_set, List.length_append, List.length_replicate, List.length_cons, List.length_nil]; omega) | (simp only [decide_eq_true_eq] at *; omega)) (by first | (exact fuel64_tdiv (by assumption) hn) | omega | (simp only [decide_eq_true_eq] at *; omega) | (simp at *; omega))
      rw [show (⟨[(2, (.one (.val (.int .i64 a2)))), (7, (.one (.ref ⟨(7, 0, 0), [], (v1_73_0 + 1), (Int.toNat (v0_73_0 : Int) - Int.toNat 1)⟩)))], [((7, 0, 0), .live ⟨2, (List.map d_si ((([]) ++ a0) ++ ([a1]))), []⟩)]⟩ : St) = h73_0 l0_0 a0 a1 a2 (Int.toNat (v0_73_0 : Int) - Int.toNat 1) (v1_73_0 + 1) from by first | rfl | (unfold h73_0; simp only [List.length_map, List.length_set, List.length_append, List.length_replicate, List.length_cons, List.length_nil]; done) | (unfold h73_0; simp [byteRows_eq, ints_y, List.take_of_length_le, d_si, d_LsiE, d_i, d_b, d_iLsiE, d_s, d_y, fromBR_si, fromBR_i, fromBR_b, fromBR_s, fromBR_y]; done)] at st
      exact .loopN st ih
    · try simp only [if_neg h_73_0_0]
      have st := codeP_ok (F := F) (X := X) (c := b73_0) (t := 0) (σ := h73_0 l0_0 a0 a1 a2 v0_73_0 v1_73_0) (σ' := ⟨[(2, (.one (.val (.int .i64 a2)))), (7, (.one (.ref ⟨(7, 0, 0), [], v1_73_0, v0_73_0⟩))), (17, (.one (.val (.bool (decide ((v0_73_0 : Int) > a2))))))], [((7, 0, 0), .live ⟨2, (List.map d_si ((([]) ++ a0) ++ ([a1]))), []⟩)]⟩) (e := (.exit 0)) (t' := 9) (by kernel_rfl) (.f (nt h_73_0_0) (.h 8 (.b false) .nil))
      rw [show (⟨[(2, (.one (.val (.int .i64 a2)))), (7, (.one (.ref ⟨(7, 0, 0), [], v1_73_0, v0_73_0⟩))), (17, (.one (.val (.bool (decide ((v0_73_0 : Int) > a2))))))], [((7, 0, 0), .live ⟨2, (List.map d_si ((([]) ++ a0) ++ ([a1]))), []⟩)]⟩ : St) = fin73_0 l0_0 a0 a1 a2 (.k0 v1_73_0 v0_73_0 (decide ((v0_73_0 : Int) > a2))) from by first | rfl | (unfold fin73_0; simp [byteRows_eq, ints_y, List.take_of_length_le, d_si, d_LsiE, d_i, d_b, d_iLsiE, d_s, d_y, fromBR_si, fromBR_i, fromBR_b, fromBR_s, fromBR_y]; done)] at st
      exact .loopX st (show ((.exit 0) : VX.Exit) ≠ .normal from by simp)
/-! loop 73_0, behind -/
def post73_0 (a0 : (List K_si)) (a1 : K_si) (a2 : Int) : O73_0 → Prop
  | .k0 w0 w1 _ => w0 + w1 ≤ (List.length (List.map d_si ((([]) ++ a0) ++ ([a1]))))
theorem z73_0 {a0 : (List K_si)} {a1 : K_si} {a2 : Int} (hy0 : List.length a0 ≤ 1000) (hy1 : 0 ≤ a2) : ∀ (n_73_0 : Nat) (v0_73_0 : Nat) (v1_73_0 : Nat), v1_73_0 + v0_73_0 ≤ (List.length (List.map d_si ((([]) ++ a0) ++ ([a1])))) → post73_0 a0 a1 a2 (r73_0 a2 n_73_0 v0_73_0 v1_73_0)
  | 0, v0_73_0, v1_73_0, hi0 => by
    simp only [r73_0]
    first | trivial | (show _ ; simp only [post73_0]; omega) | (simp only [post73_0] at *; omega) | (simp only [decide_eq_true_eq] at *; omega)
  | n_73_0 + 1, v0_73_0, v1_73_0, hi0 => by
    simp only [r73_0]
    by_cases h_73_0_0 : (decide ((v0_73_0 : Int) > a2)) = true
    · try simp only [if_pos h_73_0_0]
      exact z73_0 (a0 := a0) (a1 := a1) (a2 := a2) hy0 hy1 n_73_0 (Int.toNat (v0_73_0 : Int) - Int.toNat 1) (v1_73_0 + 1) (by first | assumption | omega | (simp only [List.length_map, List.length_set, List.length_append, List.length_replicate, List.length_cons, List.length_nil]; omega) | (simp only [decide_eq_true_eq] at *; omega))
    · try simp only [if_neg h_73_0_0]
      first | trivial | (show _ ; simp only [post73_0]; omega) | (simp only [post73_0] at *; omega) | (simp only [decide_eq_true_eq] at *; omega)
/-! loop.example/g00539/spec.l13Push -/
def m73 (a0 : (List K_si)) (a1 : K_si) (a2 : Int) : (List K_si) :=
  (match r73_0 a2 ((List.length (List.map d_si ((([]) ++ a0) ++ ([a1]))))) (List.length (List.map d_si ((([]) ++ a0) ++ ([a1])))) 0 with | .k0 w0_73_0_2 w1_73_0_2 w2_73_0_2 => (([]) ++ (List.take w1_73_0_2 (List.drop w0_73_0_2 ((([]) ++ a0) ++ ([a1]))))))
theorem e73 {l0_0 : Nat} {a0 : (List K_si)} {a1 : K_si} {a2 : Int} (hy0 : List.length a0 ≤ 1000) (hy1 : 0 ≤ a2) : Ev F X (.call 73 [(.one (.bor l0_0 (List.map b_si a0))), (.agg [(.val (.string a1.f0)), (.val (.int .i64 a1.f1))]), (.one (.val (.int .i64 a2)))] [] [] [(.one (.own 2 (List.map d_si (m73 a0 a1 a2))))]) := by
  unfold m73
  have f0 : 0 + 0 ≤ 0 := (by omega)
  have f1 : (List.length ([] ++ (fromBR l0_0 (List.map b_si a0)))) * 24 ≤ 70368744177664 := (by first | with_reducible assumption | omega | assumption | (simp only [List.length_map, List.length_append, List.length_cons, List.length_nil]; omega) | (simp; omega))
  have f2 : ∀ r ∈ ((fromBR l0_0 (List.map b_si a0)) : List (List D)), r.length = 2 := (by first | exact True.intro | with_reducible rfl | with_reducible assumption | omega | exact lenD_si _ | (intro r hr; exact lenD_si _ r (List.mem_of_mem_drop (List.mem_of_mem_take hr))) | (refine ⟨?_, lenD_si _⟩; simp only [List.length_map, List.length_set, List.length_append, List.length_replicate, List.length_cons, List.length_nil]; omega) | (refine ⟨by simp; omega, lenD_si _⟩) | (simp only [List.length_map, List.length_set, List.length_append, List.length_replicate, List.length_cons, List.length_nil]; omega) | (simp; done) | (simp; omega) | (simp [List.take_of_length_le]; done) | (simp [← List.map_take, ← List.map_drop]; done) | assumption | trivial | (simp [*, b_si, d_si, byteRows_eq, ints_y]; done))
  have f3 : 0 + (List.length ([] ++ (fromBR l0_0 (List.map b_si a0)))) ≤ (List.length ([] ++ (fromBR l0_0 (List.map b_si a0)))) := (by omega)
  have f4 : 1 ≤ 1 := (by omega)
  have f5 : ((List.take 1 (List.drop 0 [[(.val (.string a1.f0)), (.val (.int .i64 a1.f1))]])).all fun x => x.all copyable) = true := (by first | with_reducible assumption | (simp; done) | (simp [List.take_of_length_le]; done) | (simp [← List.map_take, ← List.map_drop]; done) | assumption | trivial | (simp [*, byteRows_eq, ints_y]; done))
  have f6 : (List.length ((List.take (List.length ([] ++ (fromBR l0_0 (List.map b_si a0)))) (List.drop 0 ([] ++ (fromBR l0_0 (List.map b_si a0))))) ++ [[(.val (.string a1.f0)), (.val (.int .i64 a1.f1))]])) * 24 ≤ 70368744177664 := (by first | with_reducible assumption | omega | assumption | (simp only [List.length_map, List.length_append, List.length_cons, List.length_nil, List.length_take, List.length_drop]; omega) | (simp; omega))
  have f7 : ∀ r ∈ ([[(.val (.string a1.f0)), (.val (.int .i64 a1.f1))]] : List (List D)), r.length = 2 := (by first | exact True.intro | with_reducible rfl | with_reducible assumption | omega | (simp only [List.length_map, List.length_set, List.length_append, List.length_replicate, List.length_cons, List.length_nil]; omega) | (simp; done) | (simp; omega) | (simp [List.take_of_length_le]; done) | (simp [← List.map_take, ← List.map_drop]; done) | assumption | trivial | (simp [*, byteRows_eq, ints_y]; done))
  have f8 : ((List.take (List.length ([] ++ (fromBR l0_0 (List.map b_si a0)))) (List.drop 0 ([] ++ (fromBR l0_0 (List.map b_si a0))))) ++ [[(.val (.string a1.f0)), (.val (.int .i64 a1.f1))]]) = (List.map d_si ((([]) ++ a0) ++ ([a1]))) := (by first | rfl | (simp [byteRows_eq, ints_y, List.take_of_length_le, d_si, d_LsiE, d_i, d_b, d_iLsiE, d_s, d_y, fromBR_si, fromBR_i, fromBR_b, fromBR_s, fromBR_y]; done) | (simp [List.map_set, List.map_take, List.map_drop, byteRows_eq, ints_y, List.take_of_length_le, d_si, d_LsiE, d_i, d_b, d_iLsiE, d_s, d_y, fromBR_si, fromBR_i, fromBR_b, fromBR_s, fromBR_y]; done))
  cases h0 : r73_0 a2 ((List.length (List.map d_si ((([]) ++ a0) ++ ([a1]))))) (List.length (List.map d_si ((([]) ++ a0) ++ ([a1])))) 0 with
  | k0 w0_73_0_2 w1_73_0_2 w2_73_0_2 =>
    try dsimp only
    have zh0 := z73_0 (a0 := a0) (a1 := a1) (a2 := a2) (by first | assumption | omega) (by first | assumption | omega) ((List.length (List.map d_si ((([]) ++ a0) ++ ([a1]))))) (List.length (List.map d_si ((([]) ++ a0) ++ ([a1])))) 0 (by first | rfl | omega | (simp only [List.length_map, List.length_set, List.length_append, List.length_replicate, List.length_cons, List.length_nil]; done) | (simp only [List.length_map, List.length_set, List.length_append, List.length_replicate, List.length_cons, List.length_nil]; omega) | (simp; done)); rw [h0] at zh0; simp only [post73_0] at zh0
    have f9 : (⟨[(2, (.one (.val (.int .i64 a2)))), (7, (.one (.ref ⟨(7, 0, 0), [], 0, (List.length ((List.take (List.length ([] ++ (fromBR l0_0 (List.map b_si a0)))) (List.drop 0 ([] ++ (fromBR l0_0 (List.map b_si a0))))) ++ [[(.val (.string a1.f0)), (.val (.int .i64 a1.f1))]]))⟩)))], [((7, 0, 0), .live ⟨2, (List.map d_si ((([]) ++ a0) ++ ([a1]))), []⟩)]⟩ : St) = h73_0 l0_0 a0 a1 a2 (List.length (List.map d_si ((([]) ++ a0) ++ ([a1])))) 0 := (by first | rfl | (unfold h73_0; simp [byteRows_eq, ints_y, List.take_of_length_le, d_si, d_LsiE, d_i, d_b, d_iLsiE, d_s, d_y, fromBR_si, fromBR_i, fromBR_b, fromBR_s, fromBR_y]; done))
    have f10 : Ev F X (.code l73_0 (h73_0 l0_0 a0 a1 a2 (List.length (List.map d_si ((([]) ++ a0) ++ ([a1])))) 0) (.exit 0) ⟨[(2, (.one (.val (.int .i64 a2)))), (7, (.one (.ref ⟨(7, 0, 0), [], w0_73_0_2, w1_73_0_2⟩))), (17, (.one (.val (.bool w2_73_0_2))))], [((7, 0, 0), .live ⟨2, (List.map d_si ((([]) ++ a0) ++ ([a1]))), []⟩)]⟩) := (by have t : Ev F X (.code l73_0 (h73_0 l0_0 a0 a1 a2 (List.length (List.map d_si ((([]) ++ a0) ++ ([a1])))) 0) (ex73_0 (r73_0 a2 ((List.length (List.map d_si ((([]) ++ a0) ++ ([a1]))))) (List.length (List.map d_si ((([]) ++ a0) ++ ([a1])))) 0)) (fin73_0 l0_0 a0 a1 a2 (r73_0 a2 ((List.length (List.map d_si ((([]) ++ a0) ++ ([a1]))))) (List.length (List.map d_si ((([]) ++ a0) ++ ([a1])))) 0))) := t73_0 (l0_0 := l0_0) (a0 := a0) (a1 := a1) (a2 := a2) (by first | assumption | omega) (by first | assumption | omega) ((List.length (List.map d_si ((([]) ++ a0) ++ ([a1]))))) (List.length (List.map d_si ((([]) ++ a0) ++ ([a1])))) 0  (by first | rfl | omega | (simp only [List.length_map, List.length_set, List.length_append, List.length_replicate, List.length_cons, List.length_nil]; done) | (simp only [List.length_map, List.length_set, List.length_append, List.length_replicate, List.length_cons, List.length_nil]; omega) | (simp; done)) (Nat.le_refl _); rw [h0] at t; exact t)
    have f11 : 0 + 0 ≤ 0 := (by omega)
    have f12 : w0_73_0_2 + w1_73_0_2 ≤ (List.length (List.map d_si ((([]) ++ a0) ++ ([a1])))) := (by first | exact True.intro | with_reducible rfl | with_reducible assumption | omega | (simp only [decide_eq_true_eq] at *; omega) | (simp only [List.length_map, List.length_append, List.length_cons, List.length_nil]; omega) | (simp; omega) | (simp [List.take_of_length_le]; done) | assumption | trivial | (simp [*, b_si, d_si, byteRows_eq, ints_y]; done))
    have f13 : ((List.take w1_73_0_2 (List.drop w0_73_0_2 (List.map d_si ((([]) ++ a0) ++ ([a1]))))).all fun x => x.all copyable) = true := (ct_si _ _ _)
    have f14 : (List.length ([] ++ (List.take w1_73_0_2 (List.drop w0_73_0_2 (List.map d_si ((([]) ++ a0) ++ ([a1]))))))) * 24 ≤ 70368744177664 := (by first | with_reducible assumption | omega | assumption | (simp only [List.length_map, List.length_append, List.length_cons, List.length_nil, List.length_take, List.length_drop]; omega) | (simp; omega))
    have f15 : ∀ r ∈ ((List.take w1_73_0_2 (List.drop w0_73_0_2 (List.map d_si ((([]) ++ a0) ++ ([a1]))))) : List (List D)), r.length = 2 := (by first | exact True.intro | with_reducible rfl | with_reducible assumption | omega | exact lenD_si _ | (intro r hr; exact lenD_si _ r (List.mem_of_mem_drop (List.mem_of_mem_take hr))) | (refine ⟨?_, lenD_si _⟩; simp only [List.length_map, List.length_set, List.length_append, List.length_replicate, List.length_cons, List.length_nil]; omega) | (refine ⟨by simp; omega, lenD_si _⟩) | (simp only [List.length_map, List.length_set, List.length_append, List.length_replicate, List.length_cons, List.length_nil]; omega) | (simp; done) | (simp; omega) | (simp [List.take_of_length_le]; done) | (simp [← List.map_take, ← List.map_drop]; done) | assumption | trivial | (simp [*, b_si, d_si, byteRows_eq, ints_y]; done))
    have f16 : ([] ++ (List.take w1_73_0_2 (List.drop w0_73_0_2 (List.map d_si ((([]) ++ a0) ++ ([a1])))))) = (List.map d_si (([]) ++ (List.take w1_73_0_2 (List.drop w0_73_0_2 ((([]) ++ a0) ++ ([a1])))))) := (by first | rfl | (simp [byteRows_eq, ints_y, List.take_of_length_le, d_si, d_LsiE, d_i, d_b, d_iLsiE, d_s, d_y, fromBR_si, fromBR_i, fromBR_b, fromBR_s, fromBR_y]; done) | (simp [List.map_set, List.map_take, List.map_drop, byteRows_eq, ints_y, List.take_of_length_le, d_si, d_LsiE, d_i, d_b, d_iLsiE, d_s, d_y, fromBR_si, fromBR_i, fromBR_b, fromBR_s, fromBR_y]; done))
    have f17 : 0 = 0 := rfl
    have f18 : (List.length ([] ++ (List.take w1_73_0_2 (List.drop w0_73_0_2 (List.map d_si ((([]) ++ a0) ++ ([a1]))))))) = (List.length (List.map d_si (([]) ++ (List.take w1_73_0_2 (List.drop w0_73_0_2 ((([]) ++ a0) ++ ([a1]))))))) := (by first | exact True.intro | with_reducible rfl | with_reducible assumption | omega | (simp only [List.length_map, List.length_append, List.length_cons, List.length_nil, List.length_take, List.length_drop]; omega) | (simp; done) | (simp; omega) | (simp [List.take_of_length_le]; done) | (simp [← List.map_take, ← List.map_drop]; done) | assumption | trivial | (simp [*, b_si, d_si, byteRows_eq, ints_y]; done))
    have f19 : pureR (List.map d_si (([]) ++ (List.take w1_73_0_2 (List.drop w0_73_0_2 ((([]) ++ a0) ++ ([a1])))))) = true := (by first | with_reducible assumption | (simp; done) | (simp [List.take_of_length_le]; done) | (simp [← List.map_take, ← List.map_drop]; done) | assumption | trivial | (simp [*, b_si, d_si, byteRows_eq, ints_y]; done))
    exact callP_ok (ps := []) (os := []) (rs := [(.one (.own 2 (List.map d_si (([]) ++ (List.take w1_73_0_2 (List.drop w0_73_0_2 ((([]) ++ a0) ++ ([a1]))))))))]) (by kernel_rfl) (.f f0 (.f f1 (.f f2 (.f f3 (.f f4 (.f f5 (.f f6 (.f f7 (.f f8 (.f f9 (.f f10 (.f f11 (.f f12 (.f f13 (.f f14 (.f f15 (.f f16 (.f f17 (.f f18 (.f f19 (.h 15 (.b true) (.h 18 (.norm (7, 0, 0) (List.map d_si ((([]) ++ a0) ++ ([a1])))) (.h 19 (.loop (h73_0 l0_0 a0 a1 a2 (List.length (List.map d_si ((([]) ++ a0) ++ ([a1])))) 0) (.exit 0) ⟨[(2, (.one (.val (.int .i64 a2)))), (7, (.one (.ref ⟨(7, 0, 0), [], w0_73_0_2, w1_73_0_2⟩))), (17, (.one (.val (.bool w2_73_0_2))))], [((7, 0, 0), .live ⟨2, (List.map d_si ((([]) ++ a0) ++ ([a1]))), []⟩)]⟩) (.h 25 (.b true) (.h 28 (.norm (6, 0, 0) (List.map d_si (([]) ++ (List.take w1_73_0_2 (List.drop w0_73_0_2 ((([]) ++ a0) ++ ([a1]))))))) .nil)))))))))))))))))))))))))
theorem prun_73 (c : Int) (hc : 0 ≤ c) : ∀ (f n lo : Nat), n ≤ f → r73_0 c f n lo = .k0 (lo + (n - c.toNat)) (min n c.toNat) false
  | 0, n, lo, h => by
    have : n = 0 := by omega
    subst this
    have h0 : ¬ (0 : Int) > c := by omega
    simp [r73_0, h0]
  | f + 1, n, lo, h => by
    simp only [r73_0, decide_eq_true_eq]
    split
    · rename_i h1
      rw [prun_73 c hc f _ _ (by omega)]
      congr 1 <;> omega
    · rename_i h1
      have h2 : (decide ((n : Int) > c)) = false := by simp only [decide_eq_false_iff_not]; exact h1
      rw [h2]
      congr 1 <;> omega
theorem push_73 (a : List K_si) (b : K_si) (c : Int) (hc : 0 ≤ c) : m73 a b c = List.drop (a.length + 1 - c.toNat) (a ++ [b]) := by
  unfold m73
  rw [prun_73 c hc _ _ _ (by simp)]
  simp only [List.nil_append, List.length_map, List.length_append, List.length_cons, List.length_nil, Nat.zero_add]
  rw [List.take_of_length_le (by simp only [List.length_drop, List.length_append, List.length_cons, List.length_nil]; omega)]
/-! loop.example/g00539/spec.PushWeight -/
def m30 (a0 : (List K_si)) (a1 : K_si) (a2 : Int) : K_iLsiE :=
  if ((m63 a0) != 0) = true then (K_iLsiE.mk (m63 a0) []) else
  if ((m71 a1) != 0) = true then (K_iLsiE.mk (m71 a1) []) else
    if (!(m72 a2 1 12)) = true then (K_iLsiE.mk 3 []) else
      (K_iLsiE.mk 0 (m73 a0 a1 a2))
theorem e30 {l0_0 : Nat} {a0 : (List K_si)} {a1 : K_si} {a2 : Int} (hy0 : List.length a0 * 24 ≤ 140737488351232) (hy1 : ∀ z ∈ a0, os_si z) (hy2 : ByteArray.size a1.f0 ≤ 140737488351232) : Ev F X (.call 30 [(.one (.bor l0_0 (List.map b_si a0))), (.agg [(.val (.string a1.f0)), (.val (.int .i64 a1.f1))]), (.one (.val (.int .i64 a2)))] [] [] [(.agg [(.val (.int .i64 ((m30 a0 a1 a2).f0))), (.own 2 (List.map d_si ((m30 a0 a1 a2).f1)))])]) := by
  unfold m30
  have f0 : Ev F X (.call 63 [(.one (.bor (l0_0 + 1) (List.map b_si a0)))] [] [] [(.one (.val (.int .i64 (m63 a0))))]) := (e63 (a0 := a0) (by first | with_reducible assumption | omega | (have q := len12_63 a0 (by assumption); omega) | (have q := len12_63 _ (by assumption); omega) | (have q := jn72 (a := a2) (b := 1) (c := 12) (by with_reducible assumption); omega) | assumption | (simp only [List.length_map]; omega) | (simp; omega)) (by first | exact True.intro | with_reducible rfl | with_reducible assumption | omega | (have q := len12_63 a0 (by assumption); omega) | (have q := len12_63 _ (by assumption); omega) | (have q := jn72 (a := a2) (b := 1) (c := 12) (by with_reducible assumption); omega) | (simp only [List.length_map, List.length_set, List.length_append, List.length_replicate, List.length_cons, List.length_nil]; omega) | (simp; done) | (simp; omega) | (simp [List.take_of_length_le]; done) | (simp [← List.map_take, ← List.map_drop]; done) | assumption | trivial | (simp [*, byteRows_eq, ints_y]; done)))
  by_cases h0 : ((m63 a0) != 0) = true
  · try simp only [if_pos h0]
    have f2 : pureR [] = true := (by first | with_reducible assumption | (simp; done) | (simp [List.take_of_length_le]; done) | (simp [← List.map_take, ← List.map_drop]; done) | (have q := len12_63 a0 (by assumption); omega) | (have q := len12_63 _ (by assumption); omega) | (have q := jn72 (a := a2) (b := 1) (c := 12) (by with_reducible assumption); omega) | assumption | trivial | (simp [*, byteRows_eq, ints_y]; done))
    exact callP_ok (ps := []) (os := []) (rs := [(.agg [(.val (.int .i64 (m63 a0))), (.own 2 [])])]) (by kernel_rfl) (.r 7 [] [] f0 (.f h0 (.f f2 (.h 14 (.b true) .nil))))
  · try simp only [if_neg h0]
    have f2 : fullL [(.val (.string a1.f0)), (.val (.int .i64 a1.f1))] = true := (by first | exact True.intro | with_reducible rfl | with_reducible assumption | omega | (have q := len12_63 a0 (by assumption); omega) | (have q := len12_63 _ (by assumption); omega) | (have q := jn72 (a := a2) (b := 1) (c := 12) (by with_reducible assumption); omega) | (simp only [List.length_map, List.length_set, List.length_append, List.length_replicate, List.length_cons, List.length_nil]; omega) | (simp; done) | (simp; omega) | (simp [List.take_of_length_le]; done) | (simp [← List.map_take, ← List.map_drop]; done) | assumption | trivial | (simp [*, byteRows_eq, ints_y]; done))
    have f3 : Ev F X (.call 71 [(.bptr 0 [(.val (.string a1.f0)), (.val (.int .i64 a1.f1))])] [] [] [(.one (.val (.int .i64 (m71 a1))))]) := (e71 (a0 := a1) (by first | with_reducible assumption | omega | (have q := len12_63 a0 (by assumption); omega) | (have q := len12_63 _ (by assumption); omega) | (have q := jn72 (a := a2) (b := 1) (c := 12) (by with_reducible assumption); omega) | assumption | (simp only [List.length_map]; omega) | (simp; omega)))
    by_cases h1 : ((m71 a1) != 0) = true
    · try simp only [if_pos h1]
      have f5 : pureR [] = true := (by first | with_reducible assumption | (simp; done) | (simp [List.take_of_length_le]; done) | (simp [← List.map_take, ← List.map_drop]; done) | (have q := len12_63 a0 (by assumption); omega) | (have q := len12_63 _ (by assumption); omega) | (have q := jn72 (a := a2) (b := 1) (c := 12) (by with_reducible assumption); omega) | assumption | trivial | (simp [*, byteRows_eq, ints_y]; done))
      exact callP_ok (ps := []) (os := []) (rs := [(.agg [(.val (.int .i64 (m71 a1))), (.own 2 [])])]) (by kernel_rfl) (.r 7 [] [] f0 (.f (nt h0) (.f f2 (.h 14 (.b false) (.r 16 [] [] f3 (.f h1 (.f f5 (.h 23 (.b true) .nil))))))))
    · try simp only [if_neg h1]
      have f5 : Ev F X (.call 72 [(.one (.val (.int .i64 a2))), (.one (.val (.int .i64 1))), (.one (.val (.int .i64 12)))] [] [] [(.one (.val (.bool (m72 a2 1 12))))]) := (e72 (a0 := a2) (a1 := 1) (a2 := 12))
      by_cases h2 : (!(m72 a2 1 12)) = true
      · try simp only [if_pos h2]
        have f7 : pureR [] = true := (by first | with_reducible assumption | (simp; done) | (simp [List.take_of_length_le]; done) | (simp [← List.map_take, ← List.map_drop]; done) | (have q := len12_63 a0 (by assumption); omega) | (have q := len12_63 _ (by assumption); omega) | (have q := jn72 (a := a2) (b := 1) (c := 12) (by with_reducible assumption); omega) | assumption | trivial | (simp [*, byteRows_eq, ints_y]; done))
        exact callP_ok (ps := []) (os := []) (rs := [(.agg [(.val (.int .i64 3)), (.own 2 [])])]) (by kernel_rfl) (.r 7 [] [] f0 (.f (nt h0) (.f f2 (.h 14 (.b false) (.r 16 [] [] f3 (.f (nt h1) (.h 23 (.b false) (.r 27 [] [] f5 (.f h2 (.f f7 (.h 30 (.b true) .nil)))))))))))
      · try simp only [if_neg h2]
        have f7 : Ev F X (.call 73 [(.one (.bor (l0_0 + 1) (List.map b_si a0))), (.agg [(.val (.string a1.f0)), (.val (.int .i64 a1.f1))]), (.one (.val (.int .i64 a2)))] [] [] [(.one (.own 2 (List.map d_si (m73 a0 a1 a2))))]) := (e73 (a0 := a0) (a1 := a1) (a2 := a2) (by first | exact True.intro | with_reducible rfl | with_reducible assumption | omega | (have q := len12_63 a0 (by assumption); omega) | (have q := len12_63 _ (by assumption); omega) | (have q := jn72 (a := a2) (b := 1) (c := 12) (by with_reducible assumption); omega) | (simp only [decide_eq_true_eq] at *; omega) | (simp only [List.length_map]; omega) | (simp; omega) | (simp [List.take_of_length_le]; done) | assumption | trivial | (simp [*, byteRows_eq, ints_y]; done)) (by first | exact True.intro | with_reducible rfl | with_reducible assumption | omega | (have q := len12_63 a0 (by assumption); omega) | (have q := len12_63 _ (by assumption); omega) | (have q := jn72 (a := a2) (b := 1) (c := 12) (by with_reducible assumption); omega) | (simp only [decide_eq_true_eq] at *; omega) | (simp only [List.length_map, List.length_set, List.length_append, List.length_replicate, List.length_cons, List.length_nil]; omega) | (simp; omega) | (simp [List.take_of_length_le]; done) | assumption | trivial | (simp [*, byteRows_eq, ints_y]; done)))
        have f8 : 0 = 0 := rfl
        have f9 : (List.length (List.map d_si (m73 a0 a1 a2))) = (List.length (List.map d_si (m73 a0 a1 a2))) := rfl
        have f10 : pureR (List.map d_si (m73 a0 a1 a2)) = true := (pureR_si _)
        exact callP_ok (ps := []) (os := []) (rs := [(.agg [(.val (.int .i64 0)), (.own 2 (List.map d_si (m73 a0 a1 a2)))])]) (by kernel_rfl) (.r 7 [] [] f0 (.f (nt h0) (.f f2 (.h 14 (.b false) (.r 16 [] [] f3 (.f (nt h1) (.h 23 (.b false) (.r 27 [] [] f5 (.f (nt h2) (.h 30 (.b false) (.r 38 [] [] f7 (.f f8 (.f f9 (.f f10 .nil))))))))))))))
theorem okm30 (a0 : (List K_si)) (a1 : K_si) (a2 : Int) : ok_iLsiE (m30 a0 a1 a2) := by
  unfold m30
  split
  · simp [ok_LsiE, ok_iLsiE]
  · split
    · simp [ok_LsiE, ok_iLsiE]
    · split
      · simp [ok_LsiE, ok_iLsiE]
      · have q1 := len12_63 a0 (by assumption)
        have q2 := jn72 (a := a2) (b := 1) (c := 12) (by assumption)
        simp only [ok_LsiE, ok_iLsiE, push_73 _ _ _ (show 0 ≤ a2 by omega), List.length_take, List.length_drop, List.length_append, List.length_cons, List.length_nil]; omega
/-! loop.example/g00539/impl.in -/
def m59 (a0 : Int) (a1 : Int) (a2 : Int) : Bool :=
  if (decide (a0 ≥ a1)) = true then (decide (a0 ≤ a2)) else
  false
theorem e59 {a0 : Int} {a1 : Int} {a2 : Int} : Ev F X (.call 59 [(.one (.val (.int .i64 a0))), (.one (.val (.int .i64 a1))), (.one (.val (.int .i64 a2)))] [] [] [(.one (.val (.bool (m59 a0 a1 a2))))]) := by
  unfold m59
  by_cases h0 : (decide (a0 ≥ a1)) = true
  · try simp only [if_pos h0]
    exact callP_ok (ps := []) (os := []) (rs := [(.one (.val (.bool (decide (a0 ≤ a2)))))]) (by kernel_rfl) (.f h0 (.f h0 (.f h0 (.f h0 (.h 10 (.b true) (.h 12 (.b true) (.h 14 (.b true) (.h 17 (.b true) .nil))))))))
  · try simp only [if_neg h0]
    exact callP_ok (ps := []) (os := []) (rs := [(.one (.val (.bool false)))]) (by kernel_rfl) (.f (nt h0) (.f (nt h0) (.f (nt h0) (.f (nt h0) (.h 10 (.b false) (.h 12 (.b false) (.h 14 (.b false) (.h 17 (.b false) .nil))))))))
theorem jn59 {a b c : Int} (h : ¬ (!(m59 a b c)) = true) : b ≤ a ∧ a ≤ c := by
  simp only [Bool.not_eq_true', Bool.not_eq_false] at h
  unfold m59 at h; split at h <;> simp_all <;> omega
/-! strings.Trim -/
theorem e112 {a0 a1 : ByteArray} (hy0 : ByteArray.size a0 ≤ 9223372036854775807) (hy1 : ByteArray.size a1 < 4294967281) (hy2 : asciiB a1 = true) : Ev F X (.call 112 [(.one (.val (.string a0))), (.one (.val (.string a1)))] [] [] [(.one (.val (.string (trimB a0 a1))))]) :=
  .ext (.inr (⟨rfl, (⟨a0, a1, hy0, hy1, hy2, rfl, rfl⟩)⟩))
/-! loop.example/g00539/impl.argOk -/
def m95 (a0 : ByteArray) : Bool :=
  if (decide ((ByteArray.size a0 : Int) ≤ 12)) = true then ((trimB a0 (⟨#[97, 98, 99, 100, 101, 102, 103, 104, 105, 106, 107, 108, 109, 110, 111, 112, 113, 114, 115, 116, 117, 118, 119, 120, 121, 122, 65, 66, 67, 68, 69, 70, 71, 72, 73, 74, 75, 76, 77, 78, 79, 80, 81, 82, 83, 84, 85, 86, 87, 88, 89, 90, 48, 49, 50, 51, 52, 53, 54, 55, 56, 57]⟩ : ByteArray)).toList == (⟨#[]⟩ : ByteArray).toList) else
  false
theorem e95 {a0 : ByteArray} : Ev F X (.call 95 [(.one (.val (.string a0)))] [] [] [(.one (.val (.bool (m95 a0))))]) := by
  unfold m95
  by_cases h0 : (decide ((ByteArray.size a0 : Int) ≤ 12)) = true
  · try simp only [if_pos h0]
    have f2 : Ev F X (.call 112 [(.one (.val (.string a0))), (.one (.val (.string (⟨#[97, 98, 99, 100, 101, 102, 103, 104, 105, 106, 107, 108, 109, 110, 111, 112, 113, 114, 115, 116, 117, 118, 119, 120, 121, 122, 65, 66, 67, 68, 69, 70, 71, 72, 73, 74, 75, 76, 77, 78, 79, 80, 81, 82, 83, 84, 85, 86, 87, 88, 89, 90, 48, 49, 50, 51, 52, 53, 54, 55, 56, 57]⟩ : ByteArray))))] [] [] [(.one (.val (.string (trimB a0 (⟨#[97, 98, 99, 100, 101, 102, 103, 104, 105, 106, 107, 108, 109, 110, 111, 112, 113, 114, 115, 116, 117, 118, 119, 120, 121, 122, 65, 66, 67, 68, 69, 70, 71, 72, 73, 74, 75, 76, 77, 78, 79, 80, 81, 82, 83, 84, 85, 86, 87, 88, 89, 90, 48, 49, 50, 51, 52, 53, 54, 55, 56, 57]⟩ : ByteArray)))))]) := (e112 (a0 := a0) (a1 := (⟨#[97, 98, 99, 100, 101, 102, 103, 104, 105, 106, 107, 108, 109, 110, 111, 112, 113, 114, 115, 116, 117, 118, 119, 120, 121, 122, 65, 66, 67, 68, 69, 70, 71, 72, 73, 74, 75, 76, 77, 78, 79, 80, 81, 82, 83, 84, 85, 86, 87, 88, 89, 90, 48, 49, 50, 51, 52, 53, 54, 55, 56, 57]⟩ : ByteArray)) (by first | exact True.intro | with_reducible rfl | with_reducible assumption | omega | (simp only [decide_eq_true_eq] at *; omega) | (simp only [List.length_map, List.length_set, List.length_append, List.length_replicate, List.length_cons, List.length_nil]; omega) | (simp; omega) | (simp [List.take_of_length_le]; done) | assumption | trivial | (simp [*, byteRows_eq, ints_y]; done)) (by decide) (by decide))
    exact callP_ok (ps := []) (os := []) (rs := [(.one (.val (.bool ((trimB a0 (⟨#[97, 98, 99, 100, 101, 102, 103, 104, 105, 106, 107, 108, 109, 110, 111, 112, 113, 114, 115, 116, 117, 118, 119, 120, 121, 122, 65, 66, 67, 68, 69, 70, 71, 72, 73, 74, 75, 76, 77, 78, 79, 80, 81, 82, 83, 84, 85, 86, 87, 88, 89, 90, 48, 49, 50, 51, 52, 53, 54, 55, 56, 57]⟩ : ByteArray)).toList == (⟨#[]⟩ : ByteArray).toList))))]) (by kernel_rfl) (.f h0 (.f h0 (.h 10 (.b true) (.h 12 (.b true) (.r 13 [] [] f2 (.f h0 (.f h0 (.h 14 (.b true) (.h 17 (.b true) .nil)))))))))
  · try simp only [if_neg h0]
    exact callP_ok (ps := []) (os := []) (rs := [(.one (.val (.bool false)))]) (by kernel_rfl) (.f (nt h0) (.f (nt h0) (.f (nt h0) (.f (nt h0) (.h 10 (.b false) (.h 12 (.b false) (.h 14 (.b false) (.h 17 (.b false) .nil))))))))
/-! loop.example/g00539/impl.workerOk -/
def m60 (a0 : ByteArray) : Bool :=
  if (!(a0.toList == (⟨#[]⟩ : ByteArray).toList)) = true then (m95 a0) else
  false
theorem e60 {a0 : ByteArray} : Ev F X (.call 60 [(.one (.val (.string a0)))] [] [] [(.one (.val (.bool (m60 a0))))]) := by
  unfold m60
  by_cases h0 : (!(a0.toList == (⟨#[]⟩ : ByteArray).toList)) = true
  · try simp only [if_pos h0]
    have f2 : Ev F X (.call 95 [(.one (.val (.string a0)))] [] [] [(.one (.val (.bool (m95 a0))))]) := (e95 (a0 := a0))
    exact callP_ok (ps := []) (os := []) (rs := [(.one (.val (.bool (m95 a0))))]) (by kernel_rfl) (.f h0 (.f h0 (.h 8 (.b true) (.h 10 (.b true) (.r 11 [] [] f2 (.f h0 (.h 13 (.b true) .nil)))))))
  · try simp only [if_neg h0]
    exact callP_ok (ps := []) (os := []) (rs := [(.one (.val (.bool false)))]) (by kernel_rfl) (.f (nt h0) (.f (nt h0) (.f (nt h0) (.h 8 (.b false) (.h 10 (.b false) (.h 13 (.b false) .nil))))))
/-! loop 19_0 -/
inductive O19_0 where
  | k0 (w0 : Int) (w1 : Bool)
  | k1
  | k2
def r19_0 (a0 : (List K_si)) : List K_si → Int → O19_0
  | x0_19_0 :: l0_19_0, i_19_0 =>
    if (!(m60 x0_19_0.f0)) = true then (O19_0.k1) else
    if (!(m59 x0_19_0.f1 1 9999)) = true then (O19_0.k2) else
      (r19_0 a0 l0_19_0 (i_19_0 + 1) )
  | [], i_19_0 => (O19_0.k0 i_19_0 (decide (i_19_0 < ((List.length (List.map b_si a0)) : Int))))
def h19_0 (l0_0 : Nat) (a0 : (List K_si)) (i_19_0 : Int)  : St := ⟨[(8, (.one (.bor l0_0 (List.map b_si a0)))), (9, (.one (.val (.int .i64 ((List.length (List.map b_si a0)) : Int))))), (10, (.one (.val (.int .i64 i_19_0))))], []⟩
def ex19_0 : O19_0 → VX.Exit
  | .k0 _ _ => (.exit 0)
  | .k1 => .ret
  | .k2 => .ret
def fin19_0 (l0_0 : Nat) (a0 : (List K_si)) : O19_0 → St
  | .k0 w0 w1 => ⟨[(8, (.one (.bor l0_0 (List.map b_si a0)))), (9, (.one (.val (.int .i64 ((List.length (List.map b_si a0)) : Int))))), (10, (.one (.val (.int .i64 w0)))), (11, (.one (.val (.bool w1))))], []⟩
  | .k1 => ⟨[(2, (.one (.val (.int .i64 5))))], []⟩
  | .k2 => ⟨[(2, (.one (.val (.int .i64 3))))], []⟩
theorem t19_0 {l0_0 : Nat} {a0 : (List K_si)} (hy0 : List.length a0 * 24 ≤ 140737488351232) : ∀ (l0_19_0 : List K_si) (p_19_0 : List K_si) , p_19_0 ++ l0_19_0 = a0 → Ev F X (.code l19_0 (h19_0 l0_0 a0 (List.length p_19_0 : Int) ) (ex19_0 (r19_0 a0 l0_19_0 (List.length p_19_0 : Int) )) (fin19_0 l0_0 a0 (r19_0 a0 l0_19_0 (List.length p_19_0 : Int) )))
  | [], p_19_0, hp0 => by
    have hc : ¬ (decide ((List.length p_19_0 : Int) < ((List.length (List.map b_si a0)) : Int))) = true := by
      rw [← hp0]; simp only [List.length_map, List.length_set, List.length_append, List.length_replicate, List.length_cons, List.length_nil, decide_eq_true_eq]; omega
    have st := codeH_ok (F := F) (X := X) (c := b19_0) (t := 0) (hs := [(2, .b false)]) (σ := h19_0 l0_0 a0 (List.length p_19_0 : Int) ) (σ' := ⟨[(8, (.one (.bor l0_0 (List.map b_si a0)))), (9, (.one (.val (.int .i64 ((List.length (List.map b_si a0)) : Int))))), (10, (.one (.val (.int .i64 (List.length p_19_0 : Int))))), (11, (.one (.val (.bool (decide ((List.length p_19_0 : Int) < ((List.length (List.map b_si a0)) : Int)))))))], []⟩) (e := (.exit 0)) (t' := 3) (hs' := []) (q := [(decide ((List.length p_19_0 : Int) < ((List.length (List.map b_si a0)) : Int))) = false]) (by kernel_rfl) ⟨(nt hc), trivial⟩
    rw [show (⟨[(8, (.one (.bor l0_0 (List.map b_si a0)))), (9, (.one (.val (.int .i64 ((List.length (List.map b_si a0)) : Int))))), (10, (.one (.val (.int .i64 (List.length p_19_0 : Int))))), (11, (.one (.val (.bool (decide ((List.length p_19_0 : Int) < ((List.length (List.map b_si a0)) : Int)))))))], []⟩ : St) = fin19_0 l0_0 a0 (.k0 (List.length p_19_0 : Int) (decide ((List.length p_19_0 : Int) < ((List.length (List.map b_si a0)) : Int)))) from by first | rfl | (unfold fin19_0; simp [byteRows_eq, ints_y, List.take_of_length_le, d_si, d_LsiE, d_i, d_b, d_iLsiE, d_s, d_y, fromBR_si, fromBR_i, fromBR_b, fromBR_s, fromBR_y]; done)] at st
    exact .loopX st (show ((.exit 0) : VX.Exit) ≠ .normal from by simp)
  | x0_19_0 :: l0_19_0, p_19_0, hp0 => by
    have hc : (decide ((List.length p_19_0 : Int) < ((List.length (List.map b_si a0)) : Int))) = true := by
      rw [← hp0]; simp only [List.length_map, List.length_set, List.length_append, List.length_replicate, List.length_cons, List.length_nil, decide_eq_true_eq]; omega
    have Hx0_19_0 : (a0)[Int.toNat (List.length p_19_0 : Int)]? = some x0_19_0 := by
      rw [← hp0, Int.toNat_natCast]; simp
    have hlen : List.length (a0) = List.length p_19_0 + List.length l0_19_0 + 1 := by rw [← hp0]; simp; omega
    have hw : IntKind.wrap .i64 ((List.length p_19_0 : Int) + 1) = (List.length p_19_0 : Int) + 1 := wrap64 (by omega)
    simp only [r19_0]
    by_cases h_19_0_1 : (!(m60 x0_19_0.f0)) = true
    · try simp only [if_pos h_19_0_1]
      have st := codeH_ok (F := F) (X := X) (c := b19_0) (t := 0) (hs := [(2, .b true), (4, .row [(.val (.string x0_19_0.f0)), (.val (.int .i64 x0_19_0.f1))]), (16, .ret [] [(.one (.val (.bool (m60 x0_19_0.f0))))] [] []), (21, .b true)]) (σ := h19_0 l0_0 a0 (List.length p_19_0 : Int) ) (σ' := ⟨[(2, (.one (.val (.int .i64 5))))], []⟩) (e := .ret) (t' := 24) (hs' := []) (q := [(decide ((List.length p_19_0 : Int) < ((List.length (List.map b_si a0)) : Int))) = true, 0 ≤ (List.length p_19_0 : Int), (List.map b_si a0)[(Int.toNat (List.length p_19_0 : Int))]? = some [(.val (.string x0_19_0.f0)), (.val (.int .i64 x0_19_0.f1))], Ev F X (.call 60 [(.one (.val (.string x0_19_0.f0)))] [] [] [(.one (.val (.bool (m60 x0_19_0.f0))))]), (!(m60 x0_19_0.f0)) = true]) (by kernel_rfl) ⟨hc, (by first | exact True.intro | with_reducible rfl | with_reducible assumption | omega | (simp only [decide_eq_true_eq] at *; omega) | (simp only [List.length_map, List.length_set, List.length_append, List.length_replicate, List.length_cons, List.length_nil]; omega) | (simp; omega) | (simp [List.take_of_length_le]; done) | assumption | trivial | (simp [*, byteRows_eq, ints_y]; done)), (by first | (rw [List.getElem?_map, Hx0_19_0]; rfl) | (rw [Nat.zero_add, List.getElem?_map, Hx0_19_0]; rfl) | exact True.intro | with_reducible rfl | with_reducible assumption | omega | (simp only [List.length_map, List.length_set, List.length_append, List.length_replicate, List.length_cons, List.length_nil]; omega) | (simp; done) | (simp; omega) | (simp [List.take_of_length_le]; done) | (simp [← List.map_take, ← List.map_drop]; done) | assumption | trivial | (simp [*, b_si, d_si, byteRows_eq, ints_y]; done)), (e60 (a0 := x0_19_0.f0)), h_19_0_1, trivial⟩
      rw [show (⟨[(2, (.one (.val (.int .i64 5))))], []⟩ : St) = fin19_0 l0_0 a0 (.k1) from by first | rfl | (unfold fin19_0; simp [byteRows_eq, ints_y, List.take_of_length_le, d_si, d_LsiE, d_i, d_b, d_iLsiE, d_s, d_y, fromBR_si, fromBR_i, fromBR_b, fromBR_s, fromBR_y]; done)] at st
      exact .loopX st (show (.ret : VX.Exit) ≠ .normal from by simp)
    · try simp only [if_neg h_19_0_1]
      by_cases h_19_0_2 : (!(m59 x0_19_0.f1 1 9999)) = true
      · try simp only [if_pos h_19_0_2]
        have st := codeH_ok (F := F) (X := X) (c := b19_0) (t := 0) (hs := [(2, .b true), (4, .row [(.val (.string x0_19_0.f0)), (.val (.int .i64 x0_19_0.f1))]), (16, .ret [] [(.one (.val (.bool (m60 x0_19_0.f0))))] [] []), (21, .b false), (27, .ret [] [(.one (.val (.bool (m59 x0_19_0.f1 1 9999))))] [] []), (32, .b true)]) (σ := h19_0 l0_0 a0 (List.length p_19_0 : Int) ) (σ' := ⟨[(2, (.one (.val (.int .i64 3))))], []⟩) (e := .ret) (t' := 35) (hs' := []) (q := [(decide ((List.length p_19_0 : Int) < ((List.length (List.map b_si a0)) : Int))) = true, 0 ≤ (List.length p_19_0 : Int), (List.map b_si a0)[(Int.toNat (List.length p_19_0 : Int))]? = some [(.val (.string x0_19_0.f0)), (.val (.int .i64 x0_19_0.f1))], Ev F X (.call 60 [(.one (.val (.string x0_19_0.f0)))] [] [] [(.one (.val (.bool (m60 x0_19_0.f0))))]), (!(m60 x0_19_0.f0)) = false, Ev F X (.call 59 [(.one (.val (.int .i64 x0_19_0.f1))), (.one (.val (.int .i64 1))), (.one (.val (.int .i64 9999)))] [] [] [(.one (.val (.bool (m59 x0_19_0.f1 1 9999))))]), (!(m59 x0_19_0.f1 1 9999)) = true]) (by kernel_rfl) ⟨hc, (by first | exact True.intro | with_reducible rfl | with_reducible assumption | omega | (simp only [decide_eq_true_eq] at *; omega) | (simp only [List.length_map, List.length_set, List.length_append, List.length_replicate, List.length_cons, List.length_nil]; omega) | (simp; omega) | (simp [List.take_of_length_le]; done) | assumption | trivial | (simp [*, byteRows_eq, ints_y]; done)), (by first | (rw [List.getElem?_map, Hx0_19_0]; rfl) | (rw [Nat.zero_add, List.getElem?_map, Hx0_19_0]; rfl) | exact True.intro | with_reducible rfl | with_reducible assumption | omega | (simp only [List.length_map, List.length_set, List.length_append, List.length_replicate, List.length_cons, List.length_nil]; omega) | (simp; done) | (simp; omega) | (simp [List.take_of_length_le]; done) | (simp [← List.map_take, ← List.map_drop]; done) | assumption | trivial | (simp [*, b_si, d_si, byteRows_eq, ints_y]; done)), (e60 (a0 := x0_19_0.f0)), (nt h_19_0_1), (e59 (a0 := x0_19_0.f1) (a1 := 1) (a2 := 9999)), h_19_0_2, trivial⟩
        rw [show (⟨[(2, (.one (.val (.int .i64 3))))], []⟩ : St) = fin19_0 l0_0 a0 (.k2) from by first | rfl | (unfold fin19_0; simp [byteRows_eq, ints_y, List.take_of_length_le, d_si, d_LsiE, d_i, d_b, d_iLsiE, d_s, d_y, fromBR_si, fromBR_i, fromBR_b, fromBR_s, fromBR_y]; done)] at st
        exact .loopX st (show (.ret : VX.Exit) ≠ .normal from by simp)
      · try simp only [if_neg h_19_0_2]
        have st := codeH_ok (F := F) (X := X) (c := b19_0) (t := 0) (hs := [(2, .b true), (4, .row [(.val (.string x0_19_0.f0)), (.val (.int .i64 x0_19_0.f1))]), (16, .ret [] [(.one (.val (.bool (m60 x0_19_0.f0))))] [] []), (21, .b false), (27, .ret [] [(.one (.val (.bool (m59 x0_19_0.f1 1 9999))))] [] []), (32, .b false)]) (σ := h19_0 l0_0 a0 (List.length p_19_0 : Int) ) (σ' := ⟨[(8, (.one (.bor l0_0 (List.map b_si a0)))), (9, (.one (.val (.int .i64 ((List.length (List.map b_si a0)) : Int))))), (10, (.one (.val (.int .i64 (IntKind.wrap .i64 ((List.length p_19_0 : Int) + 1))))))], []⟩) (e := .normal) (t' := 37) (hs' := []) (q := [(decide ((List.length p_19_0 : Int) < ((List.length (List.map b_si a0)) : Int))) = true, 0 ≤ (List.length p_19_0 : Int), (List.map b_si a0)[(Int.toNat (List.length p_19_0 : Int))]? = some [(.val (.string x0_19_0.f0)), (.val (.int .i64 x0_19_0.f1))], Ev F X (.call 60 [(.one (.val (.string x0_19_0.f0)))] [] [] [(.one (.val (.bool (m60 x0_19_0.f0))))]), (!(m60 x0_19_0.f0)) = false, Ev F X (.call 59 [(.one (.val (.int .i64 x0_19_0.f1))), (.one (.val (.int .i64 1))), (.one (.val (.int .i64 9999)))] [] [] [(.one (.val (.bool (m59 x0_19_0.f1 1 9999))))]), (!(m59 x0_19_0.f1 1 9999)) = false, True]) (by kernel_rfl) ⟨hc, (by first | exact True.intro | with_reducible rfl | with_reducible assumption | omega | (simp only [decide_eq_true_eq] at *; omega) | (simp only [List.length_map, List.length_set, List.length_append, List.length_replicate, List.length_cons, List.length_nil]; omega) | (simp; omega) | (simp [List.take_of_length_le]; done) | assumption | trivial | (simp [*, byteRows_eq, ints_y]; done)), (by first | (rw [List.getElem?_map, Hx0_19_0]; rfl) | (rw [Nat.zero_add, List.getElem?_map, Hx0_19_0]; rfl) | exact True.intro | with_reducible rfl | with_reducible assumption | omega | (simp only [List.length_map, List.length_set, List.length_append, List.length_replicate, List.length_cons, List.length_nil]; omega) | (simp; done) | (simp; omega) | (simp [List.take_of_length_le]; done) | (simp [← List.map_take, ← List.map_drop]; done) | assumption | trivial | (simp [*, b_si, d_si, byteRows_eq, ints_y]; done)), (e60 (a0 := x0_19_0.f0)), (nt h_19_0_1), (e59 (a0 := x0_19_0.f1) (a1 := 1) (a2 := 9999)), (nt h_19_0_2), trivial, trivial⟩
        have ih := t19_0 (l0_0 := l0_0) (a0 := a0) hy0 l0_19_0 (p_19_0 ++ [x0_19_0])  (by rw [List.append_assoc]; exact hp0)
        rw [show ((p_19_0 ++ [x0_19_0]).length : Int) = (p_19_0.length : Int) + 1 from by simp] at ih
        rw [show (⟨[(8, (.one (.bor l0_0 (List.map b_si a0)))), (9, (.one (.val (.int .i64 ((List.length (List.map b_si a0)) : Int))))), (10, (.one (.val (.int .i64 (IntKind.wrap .i64 ((List.length p_19_0 : Int) + 1))))))], []⟩ : St) = h19_0 l0_0 a0 ((List.length p_19_0 : Int) + 1)  from by first | (unfold h19_0; simp only [hw]; done) | (unfold h19_0; simp only [hw, List.length_map, List.length_set, List.length_append, List.length_replicate, List.length_cons, List.length_nil]; done) | (unfold h19_0; simp [hw, byteRows_eq, ints_y, List.take_of_length_le, d_si, d_LsiE, d_i, d_b, d_iLsiE, d_s, d_y, fromBR_si, fromBR_i, fromBR_b, fromBR_s, fromBR_y]; done)] at st
        exact .loopN st ih
/-! loop.example/g00539/impl.WindowFault -/
def m19 (a0 : (List K_si)) : Int :=
  if (decide (((List.length (List.map b_si a0)) : Int) > 12)) = true then 2 else
  (match r19_0 a0 a0 0 with | .k0 w0_19_0_1 w1_19_0_1 => 0 | .k1 => 5 | .k2 => 3)
theorem e19 {l0_0 : Nat} {a0 : (List K_si)} (hy0 : List.length a0 * 24 ≤ 140737488351232) : Ev F X (.call 19 [(.one (.bor l0_0 (List.map b_si a0)))] [] [] [(.one (.val (.int .i64 (m19 a0))))]) := by
  unfold m19
  by_cases h0 : (decide (((List.length (List.map b_si a0)) : Int) > 12)) = true
  · try simp only [if_pos h0]
    exact callP_ok (ps := []) (os := []) (rs := [(.one (.val (.int .i64 2)))]) (by kernel_rfl) (.f h0 (.h 8 (.b true) .nil))
  · try simp only [if_neg h0]
    cases h1 : r19_0 a0 a0 0 with
    | k0 w0_19_0_1 w1_19_0_1 =>
      try dsimp only
      have f1 : (⟨[(8, (.one (.bor l0_0 (List.map b_si a0)))), (9, (.one (.val (.int .i64 ((List.length (List.map b_si a0)) : Int))))), (10, (.one (.val (.int .i64 0))))], []⟩ : St) = h19_0 l0_0 a0 0  := (by first | rfl | (unfold h19_0; simp [byteRows_eq, ints_y, List.take_of_length_le, d_si, d_LsiE, d_i, d_b, d_iLsiE, d_s, d_y, fromBR_si, fromBR_i, fromBR_b, fromBR_s, fromBR_y]; done))
      have f2 : Ev F X (.code l19_0 (h19_0 l0_0 a0 0 ) (.exit 0) ⟨[(8, (.one (.bor l0_0 (List.map b_si a0)))), (9, (.one (.val (.int .i64 ((List.length (List.map b_si a0)) : Int))))), (10, (.one (.val (.int .i64 w0_19_0_1)))), (11, (.one (.val (.bool w1_19_0_1))))], []⟩) := (by have t : Ev F X (.code l19_0 (h19_0 l0_0 a0 0 ) (ex19_0 (r19_0 a0 a0 0)) (fin19_0 l0_0 a0 (r19_0 a0 a0 0))) := t19_0 (l0_0 := l0_0) (a0 := a0) (by first | assumption | omega) a0 []  rfl; rw [h1] at t; exact t)
      exact callP_ok (ps := []) (os := []) (rs := [(.one (.val (.int .i64 0)))]) (by kernel_rfl) (.f (nt h0) (.f f1 (.f f2 (.h 8 (.b false) (.h 15 (.loop (h19_0 l0_0 a0 0 ) (.exit 0) ⟨[(8, (.one (.bor l0_0 (List.map b_si a0)))), (9, (.one (.val (.int .i64 ((List.length (List.map b_si a0)) : Int))))), (10, (.one (.val (.int .i64 w0_19_0_1)))), (11, (.one (.val (.bool w1_19_0_1))))], []⟩) .nil)))))
    | k1 =>
      try dsimp only
      have f1 : (⟨[(8, (.one (.bor l0_0 (List.map b_si a0)))), (9, (.one (.val (.int .i64 ((List.length (List.map b_si a0)) : Int))))), (10, (.one (.val (.int .i64 0))))], []⟩ : St) = h19_0 l0_0 a0 0  := (by first | rfl | (unfold h19_0; simp [byteRows_eq, ints_y, List.take_of_length_le, d_si, d_LsiE, d_i, d_b, d_iLsiE, d_s, d_y, fromBR_si, fromBR_i, fromBR_b, fromBR_s, fromBR_y]; done))
      have f2 : Ev F X (.code l19_0 (h19_0 l0_0 a0 0 ) .ret ⟨[(2, (.one (.val (.int .i64 5))))], []⟩) := (by have t : Ev F X (.code l19_0 (h19_0 l0_0 a0 0 ) (ex19_0 (r19_0 a0 a0 0)) (fin19_0 l0_0 a0 (r19_0 a0 a0 0))) := t19_0 (l0_0 := l0_0) (a0 := a0) (by first | assumption | omega) a0 []  rfl; rw [h1] at t; exact t)
      exact callP_ok (ps := []) (os := []) (rs := [(.one (.val (.int .i64 5)))]) (by kernel_rfl) (.f (nt h0) (.f f1 (.f f2 (.h 8 (.b false) (.h 15 (.loop (h19_0 l0_0 a0 0 ) .ret ⟨[(2, (.one (.val (.int .i64 5))))], []⟩) .nil)))))
    | k2 =>
      try dsimp only
      have f1 : (⟨[(8, (.one (.bor l0_0 (List.map b_si a0)))), (9, (.one (.val (.int .i64 ((List.length (List.map b_si a0)) : Int))))), (10, (.one (.val (.int .i64 0))))], []⟩ : St) = h19_0 l0_0 a0 0  := (by first | rfl | (unfold h19_0; simp [byteRows_eq, ints_y, List.take_of_length_le, d_si, d_LsiE, d_i, d_b, d_iLsiE, d_s, d_y, fromBR_si, fromBR_i, fromBR_b, fromBR_s, fromBR_y]; done))
      have f2 : Ev F X (.code l19_0 (h19_0 l0_0 a0 0 ) .ret ⟨[(2, (.one (.val (.int .i64 3))))], []⟩) := (by have t : Ev F X (.code l19_0 (h19_0 l0_0 a0 0 ) (ex19_0 (r19_0 a0 a0 0)) (fin19_0 l0_0 a0 (r19_0 a0 a0 0))) := t19_0 (l0_0 := l0_0) (a0 := a0) (by first | assumption | omega) a0 []  rfl; rw [h1] at t; exact t)
      exact callP_ok (ps := []) (os := []) (rs := [(.one (.val (.int .i64 3)))]) (by kernel_rfl) (.f (nt h0) (.f f1 (.f f2 (.h 8 (.b false) (.h 15 (.loop (h19_0 l0_0 a0 0 ) .ret ⟨[(2, (.one (.val (.int .i64 3))))], []⟩) .nil)))))
theorem len12_19 (a : List K_si) (h : ¬ ((m19 a) != 0) = true) : List.length a ≤ 12 := by
  unfold m19 at h
  split at h
  · simp at h
  · rename_i h2
    simp only [decide_eq_true_eq, List.length_map] at h2
    omega
/-! slices.Clone[[]loop.example/g00539/impl.Weight,loop.example/g00539/impl.Weight] -/
theorem e74 {a0 : List K_si} {l0 : Nat} (hy0 : List.length a0 * 24 ≤ 70368744177664) : Ev F X (.call 74 [(.one (.bor l0 (List.map b_si a0)))] [] [] [(.one (.own 2 (List.map d_si a0)))]) := by
  refine .ext (.inl ⟨rfl, ?_⟩)
  have e : fromBR l0 (List.map b_si a0) = List.map d_si a0 := by first | exact fromBR_si .. | simp [fromBR_si]
  refine ⟨l0, _, rfl, by rw [e], by rw [e]; simpa using hy0, by rw [e]; exact lenD_si _, by rw [e]; first | exact pureR_si _ | simp [pureR_si]⟩
/-! loop.example/g00539/impl.PushWeight -/
def m32 (a0 : (List K_si)) (a1 : K_si) (a2 : Int) : K_iLsiE :=
  if ((m19 a0) != 0) = true then (K_iLsiE.mk (m19 a0) []) else
  if ((m19 [a1]) != 0) = true then (K_iLsiE.mk (m19 [a1]) []) else
    if (!(m59 a2 1 12)) = true then (K_iLsiE.mk 3 []) else
      (K_iLsiE.mk 0 (List.take (Int.toNat ((List.length ((List.take (List.length (List.map d_si a0)) (List.drop 0 (List.map d_si a0))) ++ [[(.val (.string a1.f0)), (.val (.int .i64 a1.f1))]])) : Int) - Int.toNat (vmax (IntKind.wrap .i64 (((List.length ((List.take (List.length (List.map d_si a0)) (List.drop 0 (List.map d_si a0))) ++ [[(.val (.string a1.f0)), (.val (.int .i64 a1.f1))]])) : Int) - a2)) 0)) (List.drop (0 + (Int.toNat (vmax (IntKind.wrap .i64 (((List.length ((List.take (List.length (List.map d_si a0)) (List.drop 0 (List.map d_si a0))) ++ [[(.val (.string a1.f0)), (.val (.int .i64 a1.f1))]])) : Int) - a2)) 0))) (a0 ++ ([a1])))))
theorem e32 {l0_0 : Nat} {a0 : (List K_si)} {a1 : K_si} {a2 : Int} (hy0 : List.length a0 * 24 ≤ 140737488351232) : Ev F X (.call 32 [(.one (.bor l0_0 (List.map b_si a0))), (.agg [(.val (.string a1.f0)), (.val (.int .i64 a1.f1))]), (.one (.val (.int .i64 a2)))] [] [] [(.agg [(.val (.int .i64 ((m32 a0 a1 a2).f0))), (.own 2 (List.map d_si ((m32 a0 a1 a2).f1)))])]) := by
  unfold m32
  have f0 : Ev F X (.call 19 [(.one (.bor (l0_0 + 1) (List.map b_si a0)))] [] [] [(.one (.val (.int .i64 (m19 a0))))]) := (e19 (a0 := a0) (by first | ((first | rw [List.length_take (i := Int.toNat _), List.length_drop (i := 0 + Int.toNat _)] | rw [List.length_take (i := Int.toNat _), List.length_drop (i := Int.toNat _)]); have q1 := len12_19 a0 (by with_reducible assumption); simp only [List.length_append, List.length_cons, List.length_nil]; refine Nat.le_trans (Nat.mul_le_mul_right _ (Nat.le_trans (Nat.min_le_right _ _) (Nat.sub_le _ _))) ?_; omega) | with_reducible assumption | omega | (have q := len12_19 a0 (by assumption); omega) | (have q := len12_19 _ (by assumption); omega) | (have q1 := len12_19 a0 (by with_reducible assumption); simp only [List.length_map, List.length_append, List.length_cons, List.length_nil, List.length_take, List.length_drop, Nat.sub_zero, Nat.min_self]; omega) | (have q1 := len12_19 a0 (by with_reducible assumption); have q2 := jn59 (a := a2) (b := 1) (c := 12) (by with_reducible assumption); omega) | (have q1 := len12_19 a0 (by with_reducible assumption); have q2 := jn59 (a := a2) (b := 1) (c := 12) (by with_reducible assumption); simp only [List.length_map, List.length_append, List.length_cons, List.length_nil, List.length_take, List.length_drop, Nat.sub_zero, Nat.min_self]; rw [wrap64 (by omega)]; unfold vmax; split <;> omega) | (have q1 := len12_19 a0 (by with_reducible assumption); have q2 := jn59 (a := a2) (b := 1) (c := 12) (by with_reducible assumption); simp; rw [wrap64 (by omega)]; unfold vmax; split <;> omega) | (have q1 := len12_19 a0 (by with_reducible assumption); have q2 := jn59 (a := a2) (b := 1) (c := 12) (by with_reducible assumption); simp only [List.length_map, List.length_append, List.length_cons, List.length_nil, List.length_take, List.length_drop, Nat.sub_zero, Nat.min_self]; rw [wrap64 (by omega)]; unfold vmax; split <;> simp <;> omega) | (rw [List.length_take, List.length_drop]; have q1 := len12_19 a0 (by with_reducible assumption); have q2 := jn59 (a := a2) (b := 1) (c := 12) (by with_reducible assumption); simp only [List.length_map, List.length_append, List.length_cons, List.length_nil, List.length_take, List.length_drop, Nat.sub_zero, Nat.min_self]; omega) | assumption | (simp only [List.length_map]; omega) | (simp; omega)))
  by_cases h0 : ((m19 a0) != 0) = true
  · try simp only [if_pos h0]
    have f2 : pureR [] = true := (by first | with_reducible assumption | (simp; done) | (simp [List.take_of_length_le]; done) | (simp [← List.map_take, ← List.map_drop]; done) | omega | (have q := len12_19 a0 (by assumption); omega) | (have q := len12_19 _ (by assumption); omega) | (have q1 := len12_19 a0 (by with_reducible assumption); simp only [List.length_map, List.length_append, List.length_cons, List.length_nil, List.length_take, List.length_drop, Nat.sub_zero, Nat.min_self]; omega) | (have q1 := len12_19 a0 (by with_reducible assumption); have q2 := jn59 (a := a2) (b := 1) (c := 12) (by with_reducible assumption); omega) | (have q1 := len12_19 a0 (by with_reducible assumption); have q2 := jn59 (a := a2) (b := 1) (c := 12) (by with_reducible assumption); simp only [List.length_map, List.length_append, List.length_cons, List.length_nil, List.length_take, List.length_drop, Nat.sub_zero, Nat.min_self]; rw [wrap64 (by omega)]; unfold vmax; split <;> omega) | (have q1 := len12_19 a0 (by with_reducible assumption); have q2 := jn59 (a := a2) (b := 1) (c := 12) (by with_reducible assumption); simp; rw [wrap64 (by omega)]; unfold vmax; split <;> omega) | (have q1 := len12_19 a0 (by with_reducible assumption); have q2 := jn59 (a := a2) (b := 1) (c := 12) (by with_reducible assumption); simp only [List.length_map, List.length_append, List.length_cons, List.length_nil, List.length_take, List.length_drop, Nat.sub_zero, Nat.min_self]; rw [wrap64 (by omega)]; unfold vmax; split <;> simp <;> omega) | (rw [List.length_take, List.length_drop]; have q1 := len12_19 a0 (by with_reducible assumption); have q2 := jn59 (a := a2) (b := 1) (c := 12) (by with_reducible assumption); simp only [List.length_map, List.length_append, List.length_cons, List.length_nil, List.length_take, List.length_drop, Nat.sub_zero, Nat.min_self]; omega) | assumption | trivial | (simp [*, byteRows_eq, ints_y]; done))
    exact callP_ok (ps := []) (os := []) (rs := [(.agg [(.val (.int .i64 (m19 a0))), (.own 2 [])])]) (by kernel_rfl) (.r 7 [] [] f0 (.f h0 (.f f2 (.h 14 (.b true) .nil))))
  · try simp only [if_neg h0]
    have f2 : 1 ≤ 1 := (by omega)
    have f3 : fullR (List.take 1 (List.drop 0 [[(.val (.string a1.f0)), (.val (.int .i64 a1.f1))]])) = true := (by first | with_reducible assumption | (simp; done) | (simp [List.take_of_length_le]; done) | (simp [← List.map_take, ← List.map_drop]; done) | omega | (have q := len12_19 a0 (by assumption); omega) | (have q := len12_19 _ (by assumption); omega) | (have q1 := len12_19 a0 (by with_reducible assumption); simp only [List.length_map, List.length_append, List.length_cons, List.length_nil, List.length_take, List.length_drop, Nat.sub_zero, Nat.min_self]; omega) | (have q1 := len12_19 a0 (by with_reducible assumption); have q2 := jn59 (a := a2) (b := 1) (c := 12) (by with_reducible assumption); omega) | (have q1 := len12_19 a0 (by with_reducible assumption); have q2 := jn59 (a := a2) (b := 1) (c := 12) (by with_reducible assumption); simp only [List.length_map, List.length_append, List.length_cons, List.length_nil, List.length_take, List.length_drop, Nat.sub_zero, Nat.min_self]; rw [wrap64 (by omega)]; unfold vmax; split <;> omega) | (have q1 := len12_19 a0 (by with_reducible assumption); have q2 := jn59 (a := a2) (b := 1) (c := 12) (by with_reducible assumption); simp; rw [wrap64 (by omega)]; unfold vmax; split <;> omega) | (have q1 := len12_19 a0 (by with_reducible assumption); have q2 := jn59 (a := a2) (b := 1) (c := 12) (by with_reducible assumption); simp only [List.length_map, List.length_append, List.length_cons, List.length_nil, List.length_take, List.length_drop, Nat.sub_zero, Nat.min_self]; rw [wrap64 (by omega)]; unfold vmax; split <;> simp <;> omega) | (rw [List.length_take, List.length_drop]; have q1 := len12_19 a0 (by with_reducible assumption); have q2 := jn59 (a := a2) (b := 1) (c := 12) (by with_reducible assumption); simp only [List.length_map, List.length_append, List.length_cons, List.length_nil, List.length_take, List.length_drop, Nat.sub_zero, Nat.min_self]; omega) | assumption | trivial | (simp [*, byteRows_eq, ints_y]; done))
    have f4 : toBR (List.take 1 (List.drop 0 [[(.val (.string a1.f0)), (.val (.int .i64 a1.f1))]])) = [[(.val (.string a1.f0)), (.val (.int .i64 a1.f1))]] := (by first | with_reducible assumption | (simp; done) | (simp [List.take_of_length_le]; done) | (simp [← List.map_take, ← List.map_drop]; done) | omega | (have q := len12_19 a0 (by assumption); omega) | (have q := len12_19 _ (by assumption); omega) | (have q1 := len12_19 a0 (by with_reducible assumption); simp only [List.length_map, List.length_append, List.length_cons, List.length_nil, List.length_take, List.length_drop, Nat.sub_zero, Nat.min_self]; omega) | (have q1 := len12_19 a0 (by with_reducible assumption); have q2 := jn59 (a := a2) (b := 1) (c := 12) (by with_reducible assumption); omega) | (have q1 := len12_19 a0 (by with_reducible assumption); have q2 := jn59 (a := a2) (b := 1) (c := 12) (by with_reducible assumption); simp only [List.length_map, List.length_append, List.length_cons, List.length_nil, List.length_take, List.length_drop, Nat.sub_zero, Nat.min_self]; rw [wrap64 (by omega)]; unfold vmax; split <;> omega) | (have q1 := len12_19 a0 (by with_reducible assumption); have q2 := jn59 (a := a2) (b := 1) (c := 12) (by with_reducible assumption); simp; rw [wrap64 (by omega)]; unfold vmax; split <;> omega) | (have q1 := len12_19 a0 (by with_reducible assumption); have q2 := jn59 (a := a2) (b := 1) (c := 12) (by with_reducible assumption); simp only [List.length_map, List.length_append, List.length_cons, List.length_nil, List.length_take, List.length_drop, Nat.sub_zero, Nat.min_self]; rw [wrap64 (by omega)]; unfold vmax; split <;> simp <;> omega) | (rw [List.length_take, List.length_drop]; have q1 := len12_19 a0 (by with_reducible assumption); have q2 := jn59 (a := a2) (b := 1) (c := 12) (by with_reducible assumption); simp only [List.length_map, List.length_append, List.length_cons, List.length_nil, List.length_take, List.length_drop, Nat.sub_zero, Nat.min_self]; omega) | assumption | trivial | (simp [*, byteRows_eq, ints_y]; done))
    have f5 : Ev F X (.call 19 [(.one (.bor 0 [[(.val (.string a1.f0)), (.val (.int .i64 a1.f1))]]))] [] [] [(.one (.val (.int .i64 (m19 [a1]))))]) := (e19 (a0 := [a1]) (by first | ((first | rw [List.length_take (i := Int.toNat _), List.length_drop (i := 0 + Int.toNat _)] | rw [List.length_take (i := Int.toNat _), List.length_drop (i := Int.toNat _)]); have q1 := len12_19 a0 (by with_reducible assumption); simp only [List.length_append, List.length_cons, List.length_nil]; refine Nat.le_trans (Nat.mul_le_mul_right _ (Nat.le_trans (Nat.min_le_right _ _) (Nat.sub_le _ _))) ?_; omega) | with_reducible assumption | omega | (have q := len12_19 a0 (by assumption); omega) | (have q := len12_19 _ (by assumption); omega) | (have q1 := len12_19 a0 (by with_reducible assumption); simp only [List.length_map, List.length_append, List.length_cons, List.length_nil, List.length_take, List.length_drop, Nat.sub_zero, Nat.min_self]; omega) | (have q1 := len12_19 a0 (by with_reducible assumption); have q2 := jn59 (a := a2) (b := 1) (c := 12) (by with_reducible assumption); omega) | (have q1 := len12_19 a0 (by with_reducible assumption); have q2 := jn59 (a := a2) (b := 1) (c := 12) (by with_reducible assumption); simp only [List.length_map, List.length_append, List.length_cons, List.length_nil, List.length_take, List.length_drop, Nat.sub_zero, Nat.min_self]; rw [wrap64 (by omega)]; unfold vmax; split <;> omega) | (have q1 := len12_19 a0 (by with_reducible assumption); have q2 := jn59 (a := a2) (b := 1) (c := 12) (by with_reducible assumption); simp; rw [wrap64 (by omega)]; unfold vmax; split <;> omega) | (have q1 := len12_19 a0 (by with_reducible assumption); have q2 := jn59 (a := a2) (b := 1) (c := 12) (by with_reducible assumption); simp only [List.length_map, List.length_append, List.length_cons, List.length_nil, List.length_take, List.length_drop, Nat.sub_zero, Nat.min_self]; rw [wrap64 (by omega)]; unfold vmax; split <;> simp <;> omega) | (rw [List.length_take, List.length_drop]; have q1 := len12_19 a0 (by with_reducible assumption); have q2 := jn59 (a := a2) (b := 1) (c := 12) (by with_reducible assumption); simp only [List.length_map, List.length_append, List.length_cons, List.length_nil, List.length_take, List.length_drop, Nat.sub_zero, Nat.min_self]; omega) | assumption | (simp only [List.length_cons, List.length_nil]; omega) | (simp; omega)))
    by_cases h1 : ((m19 [a1]) != 0) = true
    · try simp only [if_pos h1]
      have f7 : pureR [] = true := (by first | with_reducible assumption | (simp; done) | (simp [List.take_of_length_le]; done) | (simp [← List.map_take, ← List.map_drop]; done) | omega | (have q := len12_19 a0 (by assumption); omega) | (have q := len12_19 _ (by assumption); omega) | (have q1 := len12_19 a0 (by with_reducible assumption); simp only [List.length_map, List.length_append, List.length_cons, List.length_nil, List.length_take, List.length_drop, Nat.sub_zero, Nat.min_self]; omega) | (have q1 := len12_19 a0 (by with_reducible assumption); have q2 := jn59 (a := a2) (b := 1) (c := 12) (by with_reducible assumption); omega) | (have q1 := len12_19 a0 (by with_reducible assumption); have q2 := jn59 (a := a2) (b := 1) (c := 12) (by with_reducible assumption); simp only [List.length_map, List.length_append, List.length_cons, List.length_nil, List.length_take, List.length_drop, Nat.sub_zero, Nat.min_self]; rw [wrap64 (by omega)]; unfold vmax; split <;> omega) | (have q1 := len12_19 a0 (by with_reducible assumption); have q2 := jn59 (a := a2) (b := 1) (c := 12) (by with_reducible assumption); simp; rw [wrap64 (by omega)]; unfold vmax; split <;> omega) | (have q1 := len12_19 a0 (by with_reducible assumption); have q2 := jn59 (a := a2) (b := 1) (c := 12) (by with_reducible assumption); simp only [List.length_map, List.length_append, List.length_cons, List.length_nil, List.length_take, List.length_drop, Nat.sub_zero, Nat.min_self]; rw [wrap64 (by omega)]; unfold vmax; split <;> simp <;> omega) | (rw [List.length_take, List.length_drop]; have q1 := len12_19 a0 (by with_reducible assumption); have q2 := jn59 (a := a2) (b := 1) (c := 12) (by with_reducible assumption); simp only [List.length_map, List.length_append, List.length_cons, List.length_nil, List.length_take, List.length_drop, Nat.sub_zero, Nat.min_self]; omega) | assumption | trivial | (simp [*, byteRows_eq, ints_y]; done))
      exact callP_ok (ps := []) (os := []) (rs := [(.agg [(.val (.int .i64 (m19 [a1]))), (.own 2 [])])]) (by kernel_rfl) (.r 7 [] [] f0 (.f (nt h0) (.f f2 (.f f3 (.f f4 (.h 14 (.b false) (.r 20 [] [[[(.val (.string a1.f0)), (.val (.int .i64 a1.f1))]]] f5 (.f h1 (.f f7 (.h 27 (.b true) .nil))))))))))
    · try simp only [if_neg h1]
      have f7 : Ev F X (.call 59 [(.one (.val (.int .i64 a2))), (.one (.val (.int .i64 1))), (.one (.val (.int .i64 12)))] [] [] [(.one (.val (.bool (m59 a2 1 12))))]) := (e59 (a0 := a2) (a1 := 1) (a2 := 12))
      by_cases h2 : (!(m59 a2 1 12)) = true
      · try simp only [if_pos h2]
        have f9 : pureR [] = true := (by first | with_reducible assumption | (simp; done) | (simp [List.take_of_length_le]; done) | (simp [← List.map_take, ← List.map_drop]; done) | omega | (have q := len12_19 a0 (by assumption); omega) | (have q := len12_19 _ (by assumption); omega) | (have q1 := len12_19 a0 (by with_reducible assumption); simp only [List.length_map, List.length_append, List.length_cons, List.length_nil, List.length_take, List.length_drop, Nat.sub_zero, Nat.min_self]; omega) | (have q1 := len12_19 a0 (by with_reducible assumption); have q2 := jn59 (a := a2) (b := 1) (c := 12) (by with_reducible assumption); omega) | (have q1 := len12_19 a0 (by with_reducible assumption); have q2 := jn59 (a := a2) (b := 1) (c := 12) (by with_reducible assumption); simp only [List.length_map, List.length_append, List.length_cons, List.length_nil, List.length_take, List.length_drop, Nat.sub_zero, Nat.min_self]; rw [wrap64 (by omega)]; unfold vmax; split <;> omega) | (have q1 := len12_19 a0 (by with_reducible assumption); have q2 := jn59 (a := a2) (b := 1) (c := 12) (by with_reducible assumption); simp; rw [wrap64 (by omega)]; unfold vmax; split <;> omega) | (have q1 := len12_19 a0 (by with_reducible assumption); have q2 := jn59 (a := a2) (b := 1) (c := 12) (by with_reducible assumption); simp only [List.length_map, List.length_append, List.length_cons, List.length_nil, List.length_take, List.length_drop, Nat.sub_zero, Nat.min_self]; rw [wrap64 (by omega)]; unfold vmax; split <;> simp <;> omega) | (rw [List.length_take, List.length_drop]; have q1 := len12_19 a0 (by with_reducible assumption); have q2 := jn59 (a := a2) (b := 1) (c := 12) (by with_reducible assumption); simp only [List.length_map, List.length_append, List.length_cons, List.length_nil, List.length_take, List.length_drop, Nat.sub_zero, Nat.min_self]; omega) | assumption | trivial | (simp [*, byteRows_eq, ints_y]; done))
        exact callP_ok (ps := []) (os := []) (rs := [(.agg [(.val (.int .i64 3)), (.own 2 [])])]) (by kernel_rfl) (.r 7 [] [] f0 (.f (nt h0) (.f f2 (.f f3 (.f f4 (.h 14 (.b false) (.r 20 [] [[[(.val (.string a1.f0)), (.val (.int .i64 a1.f1))]]] f5 (.f (nt h1) (.h 27 (.b false) (.r 31 [] [] f7 (.f h2 (.f f9 (.h 34 (.b true) .nil)))))))))))))
      · try simp only [if_neg h2]
        have f9 : Ev F X (.call 74 [(.one (.bor (l0_0 + 1) (List.map b_si a0)))] [] [] [(.one (.own 2 (List.map d_si a0)))]) := (e74 (a0 := a0) (by first | ((first | rw [List.length_take (i := Int.toNat _), List.length_drop (i := 0 + Int.toNat _)] | rw [List.length_take (i := Int.toNat _), List.length_drop (i := Int.toNat _)]); have q1 := len12_19 a0 (by with_reducible assumption); simp only [List.length_append, List.length_cons, List.length_nil]; refine Nat.le_trans (Nat.mul_le_mul_right _ (Nat.le_trans (Nat.min_le_right _ _) (Nat.sub_le _ _))) ?_; omega) | with_reducible assumption | omega | (have q := len12_19 a0 (by assumption); omega) | (have q := len12_19 _ (by assumption); omega) | (have q1 := len12_19 a0 (by with_reducible assumption); simp only [List.length_map, List.length_append, List.length_cons, List.length_nil, List.length_take, List.length_drop, Nat.sub_zero, Nat.min_self]; omega) | (have q1 := len12_19 a0 (by with_reducible assumption); have q2 := jn59 (a := a2) (b := 1) (c := 12) (by with_reducible assumption); omega) | (have q1 := len12_19 a0 (by with_reducible assumption); have q2 := jn59 (a := a2) (b := 1) (c := 12) (by with_reducible assumption); simp only [List.length_map, List.length_append, List.length_cons, List.length_nil, List.length_take, List.length_drop, Nat.sub_zero, Nat.min_self]; rw [wrap64 (by omega)]; unfold vmax; split <;> omega) | (have q1 := len12_19 a0 (by with_reducible assumption); have q2 := jn59 (a := a2) (b := 1) (c := 12) (by with_reducible assumption); simp; rw [wrap64 (by omega)]; unfold vmax; split <;> omega) | (have q1 := len12_19 a0 (by with_reducible assumption); have q2 := jn59 (a := a2) (b := 1) (c := 12) (by with_reducible assumption); simp only [List.length_map, List.length_append, List.length_cons, List.length_nil, List.length_take, List.length_drop, Nat.sub_zero, Nat.min_self]; rw [wrap64 (by omega)]; unfold vmax; split <;> simp <;> omega) | (rw [List.length_take, List.length_drop]; have q1 := len12_19 a0 (by with_reducible assumption); have q2 := jn59 (a := a2) (b := 1) (c := 12) (by with_reducible assumption); simp only [List.length_map, List.length_append, List.length_cons, List.length_nil, List.length_take, List.length_drop, Nat.sub_zero, Nat.min_self]; omega) | assumption | (simp only [List.length_map]; omega) | (simp; omega)))
        have f10 : 0 + (List.length (List.map d_si a0)) ≤ (List.length (List.map d_si a0)) := (by omega)
        have f11 : 1 ≤ 1 := (by omega)
        have f12 : ((List.take 1 (List.drop 0 [[(.val (.string a1.f0)), (.val (.int .i64 a1.f1))]])).all fun x => x.all copyable) = true := (by first | with_reducible assumption | (simp; done) | (simp [List.take_of_length_le]; done) | (simp [← List.map_take, ← List.map_drop]; done) | omega | (have q := len12_19 a0 (by assumption); omega) | (have q := len12_19 _ (by assumption); omega) | (have q1 := len12_19 a0 (by with_reducible assumption); simp only [List.length_map, List.length_append, List.length_cons, List.length_nil, List.length_take, List.length_drop, Nat.sub_zero, Nat.min_self]; omega) | (have q1 := len12_19 a0 (by with_reducible assumption); have q2 := jn59 (a := a2) (b := 1) (c := 12) (by with_reducible assumption); omega) | (have q1 := len12_19 a0 (by with_reducible assumption); have q2 := jn59 (a := a2) (b := 1) (c := 12) (by with_reducible assumption); simp only [List.length_map, List.length_append, List.length_cons, List.length_nil, List.length_take, List.length_drop, Nat.sub_zero, Nat.min_self]; rw [wrap64 (by omega)]; unfold vmax; split <;> omega) | (have q1 := len12_19 a0 (by with_reducible assumption); have q2 := jn59 (a := a2) (b := 1) (c := 12) (by with_reducible assumption); simp; rw [wrap64 (by omega)]; unfold vmax; split <;> omega) | (have q1 := len12_19 a0 (by with_reducible assumption); have q2 := jn59 (a := a2) (b := 1) (c := 12) (by with_reducible assumption); simp only [List.length_map, List.length_append, List.length_cons, List.length_nil, List.length_take, List.length_drop, Nat.sub_zero, Nat.min_self]; rw [wrap64 (by omega)]; unfold vmax; split <;> simp <;> omega) | (rw [List.length_take, List.length_drop]; have q1 := len12_19 a0 (by with_reducible assumption); have q2 := jn59 (a := a2) (b := 1) (c := 12) (by with_reducible assumption); simp only [List.length_map, List.length_append, List.length_cons, List.length_nil, List.length_take, List.length_drop, Nat.sub_zero, Nat.min_self]; omega) | assumption | trivial | (simp [*, byteRows_eq, ints_y]; done))
        have f13 : (List.length ((List.take (List.length (List.map d_si a0)) (List.drop 0 (List.map d_si a0))) ++ [[(.val (.string a1.f0)), (.val (.int .i64 a1.f1))]])) * 24 ≤ 70368744177664 := (by first | ((first | rw [List.length_take (i := Int.toNat _), List.length_drop (i := 0 + Int.toNat _)] | rw [List.length_take (i := Int.toNat _), List.length_drop (i := Int.toNat _)]); have q1 := len12_19 a0 (by with_reducible assumption); simp only [List.length_append, List.length_cons, List.length_nil]; refine Nat.le_trans (Nat.mul_le_mul_right _ (Nat.le_trans (Nat.min_le_right _ _) (Nat.sub_le _ _))) ?_; omega) | with_reducible assumption | omega | (have q := len12_19 a0 (by assumption); omega) | (have q := len12_19 _ (by assumption); omega) | (have q1 := len12_19 a0 (by with_reducible assumption); simp only [List.length_map, List.length_append, List.length_cons, List.length_nil, List.length_take, List.length_drop, Nat.sub_zero, Nat.min_self]; omega) | (have q1 := len12_19 a0 (by with_reducible assumption); have q2 := jn59 (a := a2) (b := 1) (c := 12) (by with_reducible assumption); omega) | (have q1 := len12_19 a0 (by with_reducible assumption); have q2 := jn59 (a := a2) (b := 1) (c := 12) (by with_reducible assumption); simp only [List.length_map, List.length_append, List.length_cons, List.length_nil, List.length_take, List.length_drop, Nat.sub_zero, Nat.min_self]; rw [wrap64 (by omega)]; unfold vmax; split <;> omega) | (have q1 := len12_19 a0 (by with_reducible assumption); have q2 := jn59 (a := a2) (b := 1) (c := 12) (by with_reducible assumption); simp; rw [wrap64 (by omega)]; unfold vmax; split <;> omega) | (have q1 := len12_19 a0 (by with_reducible assumption); have q2 := jn59 (a := a2) (b := 1) (c := 12) (by with_reducible assumption); simp only [List.length_map, List.length_append, List.length_cons, List.length_nil, List.length_take, List.length_drop, Nat.sub_zero, Nat.min_self]; rw [wrap64 (by omega)]; unfold vmax; split <;> simp <;> omega) | (rw [List.length_take, List.length_drop]; have q1 := len12_19 a0 (by with_reducible assumption); have q2 := jn59 (a := a2) (b := 1) (c := 12) (by with_reducible assumption); simp only [List.length_map, List.length_append, List.length_cons, List.length_nil, List.length_take, List.length_drop, Nat.sub_zero, Nat.min_self]; omega) | assumption | (simp only [List.length_map, List.length_append, List.length_cons, List.length_nil, List.length_take, List.length_drop]; omega) | (simp; omega))
        have f14 : ∀ r ∈ ([[(.val (.string a1.f0)), (.val (.int .i64 a1.f1))]] : List (List D)), r.length = 2 := (by first | exact True.intro | with_reducible rfl | ((first | rw [List.length_take (i := Int.toNat _), List.length_drop (i := 0 + Int.toNat _)] | rw [List.length_take (i := Int.toNat _), List.length_drop (i := Int.toNat _)]); have q1 := len12_19 a0 (by with_reducible assumption); simp only [List.length_append, List.length_cons, List.length_nil]; refine Nat.le_trans (Nat.mul_le_mul_right _ (Nat.le_trans (Nat.min_le_right _ _) (Nat.sub_le _ _))) ?_; omega) | with_reducible assumption | omega | (have q := len12_19 a0 (by assumption); omega) | (have q := len12_19 _ (by assumption); omega) | (have q1 := len12_19 a0 (by with_reducible assumption); simp only [List.length_map, List.length_append, List.length_cons, List.length_nil, List.length_take, List.length_drop, Nat.sub_zero, Nat.min_self]; omega) | (have q1 := len12_19 a0 (by with_reducible assumption); have q2 := jn59 (a := a2) (b := 1) (c := 12) (by with_reducible assumption); omega) | (have q1 := len12_19 a0 (by with_reducible assumption); have q2 := jn59 (a := a2) (b := 1) (c := 12) (by with_reducible assumption); simp only [List.length_map, List.length_append, List.length_cons, List.length_nil, List.length_take, List.length_drop, Nat.sub_zero, Nat.min_self]; rw [wrap64 (by omega)]; unfold vmax; split <;> omega) | (have q1 := len12_19 a0 (by with_reducible assumption); have q2 := jn59 (a := a2) (b := 1) (c := 12) (by with_reducible assumption); simp; rw [wrap64 (by omega)]; unfold vmax; split <;> omega) | (have q1 := len12_19 a0 (by with_reducible assumption); have q2 := jn59 (a := a2) (b := 1) (c := 12) (by with_reducible assumption); simp only [List.length_map, List.length_append, List.length_cons, List.length_nil, List.length_take, List.length_drop, Nat.sub_zero, Nat.min_self]; rw [wrap64 (by omega)]; unfold vmax; split <;> simp <;> omega) | (rw [List.length_take, List.length_drop]; have q1 := len12_19 a0 (by with_reducible assumption); have q2 := jn59 (a := a2) (b := 1) (c := 12) (by with_reducible assumption); simp only [List.length_map, List.length_append, List.length_cons, List.length_nil, List.length_take, List.length_drop, Nat.sub_zero, Nat.min_self]; omega) | (simp only [List.length_map, List.length_set, List.length_append, List.length_replicate, List.length_cons, List.length_nil]; omega) | (simp; done) | (simp; omega) | (simp [List.take_of_length_le]; done) | (simp [← List.map_take, ← List.map_drop]; done) | assumption | trivial | (simp [*, byteRows_eq, ints_y]; done))
        have f15 : ((List.take (List.length (List.map d_si a0)) (List.drop 0 (List.map d_si a0))) ++ [[(.val (.string a1.f0)), (.val (.int .i64 a1.f1))]]) = (List.map d_si (a0 ++ ([a1]))) := (by first | rfl | (simp [byteRows_eq, ints_y, List.take_of_length_le, d_si, d_LsiE, d_i, d_b, d_iLsiE, d_s, d_y, fromBR_si, fromBR_i, fromBR_b, fromBR_s, fromBR_y]; done) | (simp [List.map_set, List.map_take, List.map_drop, byteRows_eq, ints_y, List.take_of_length_le, d_si, d_LsiE, d_i, d_b, d_iLsiE, d_s, d_y, fromBR_si, fromBR_i, fromBR_b, fromBR_s, fromBR_y]; done))
        have f16 : 0 + (List.length ((List.take (List.length (List.map d_si a0)) (List.drop 0 (List.map d_si a0))) ++ [[(.val (.string a1.f0)), (.val (.int .i64 a1.f1))]])) ≤ (List.length (List.map d_si (a0 ++ ([a1])))) := (by first | exact True.intro | with_reducible rfl | ((first | rw [List.length_take (i := Int.toNat _), List.length_drop (i := 0 + Int.toNat _)] | rw [List.length_take (i := Int.toNat _), List.length_drop (i := Int.toNat _)]); have q1 := len12_19 a0 (by with_reducible assumption); simp only [List.length_append, List.length_cons, List.length_nil]; refine Nat.le_trans (Nat.mul_le_mul_right _ (Nat.le_trans (Nat.min_le_right _ _) (Nat.sub_le _ _))) ?_; omega) | with_reducible assumption | omega | (have q := len12_19 a0 (by assumption); omega) | (have q := len12_19 _ (by assumption); omega) | (have q1 := len12_19 a0 (by with_reducible assumption); simp only [List.length_map, List.length_append, List.length_cons, List.length_nil, List.length_take, List.length_drop, Nat.sub_zero, Nat.min_self]; omega) | (have q1 := len12_19 a0 (by with_reducible assumption); have q2 := jn59 (a := a2) (b := 1) (c := 12) (by with_reducible assumption); omega) | (have q1 := len12_19 a0 (by with_reducible assumption); have q2 := jn59 (a := a2) (b := 1) (c := 12) (by with_reducible assumption); simp only [List.length_map, List.length_append, List.length_cons, List.length_nil, List.length_take, List.length_drop, Nat.sub_zero, Nat.min_self]; rw [wrap64 (by omega)]; unfold vmax; split <;> omega) | (have q1 := len12_19 a0 (by with_reducible assumption); have q2 := jn59 (a := a2) (b := 1) (c := 12) (by with_reducible assumption); simp; rw [wrap64 (by omega)]; unfold vmax; split <;> omega) | (have q1 := len12_19 a0 (by with_reducible assumption); have q2 := jn59 (a := a2) (b := 1) (c := 12) (by with_reducible assumption); simp only [List.length_map, List.length_append, List.length_cons, List.length_nil, List.length_take, List.length_drop, Nat.sub_zero, Nat.min_self]; rw [wrap64 (by omega)]; unfold vmax; split <;> simp <;> omega) | (rw [List.length_take, List.length_drop]; have q1 := len12_19 a0 (by with_reducible assumption); have q2 := jn59 (a := a2) (b := 1) (c := 12) (by with_reducible assumption); simp only [List.length_map, List.length_append, List.length_cons, List.length_nil, List.length_take, List.length_drop, Nat.sub_zero, Nat.min_self]; omega) | (simp only [decide_eq_true_eq] at *; omega) | (simp only [List.length_map, List.length_append, List.length_cons, List.length_nil, List.length_take, List.length_drop]; omega) | (simp; omega) | (simp [List.take_of_length_le]; done) | assumption | trivial | (simp [*, b_si, d_si, byteRows_eq, ints_y]; done))
        have f17 : 0 ≤ (vmax (IntKind.wrap .i64 (((List.length ((List.take (List.length (List.map d_si a0)) (List.drop 0 (List.map d_si a0))) ++ [[(.val (.string a1.f0)), (.val (.int .i64 a1.f1))]])) : Int) - a2)) 0) ∧ (vmax (IntKind.wrap .i64 (((List.length ((List.take (List.length (List.map d_si a0)) (List.drop 0 (List.map d_si a0))) ++ [[(.val (.string a1.f0)), (.val (.int .i64 a1.f1))]])) : Int) - a2)) 0) ≤ ((List.length ((List.take (List.length (List.map d_si a0)) (List.drop 0 (List.map d_si a0))) ++ [[(.val (.string a1.f0)), (.val (.int .i64 a1.f1))]])) : Int) ∧ ((List.length ((List.take (List.length (List.map d_si a0)) (List.drop 0 (List.map d_si a0))) ++ [[(.val (.string a1.f0)), (.val (.int .i64 a1.f1))]])) : Int) ≤ ((List.length ((List.take (List.length (List.map d_si a0)) (List.drop 0 (List.map d_si a0))) ++ [[(.val (.string a1.f0)), (.val (.int .i64 a1.f1))]])) : Int) := (by first | exact True.intro | with_reducible rfl | ((first | rw [List.length_take (i := Int.toNat _), List.length_drop (i := 0 + Int.toNat _)] | rw [List.length_take (i := Int.toNat _), List.length_drop (i := Int.toNat _)]); have q1 := len12_19 a0 (by with_reducible assumption); simp only [List.length_append, List.length_cons, List.length_nil]; refine Nat.le_trans (Nat.mul_le_mul_right _ (Nat.le_trans (Nat.min_le_right _ _) (Nat.sub_le _ _))) ?_; omega) | with_reducible assumption | omega | (have q := len12_19 a0 (by assumption); omega) | (have q := len12_19 _ (by assumption); omega) | (have q1 := len12_19 a0 (by with_reducible assumption); simp only [List.length_map, List.length_append, List.length_cons, List.length_nil, List.length_take, List.length_drop, Nat.sub_zero, Nat.min_self]; omega) | (have q1 := len12_19 a0 (by with_reducible assumption); have q2 := jn59 (a := a2) (b := 1) (c := 12) (by with_reducible assumption); omega) | (have q1 := len12_19 a0 (by with_reducible assumption); have q2 := jn59 (a := a2) (b := 1) (c := 12) (by with_reducible assumption); simp only [List.length_map, List.length_append, List.length_cons, List.length_nil, List.length_take, List.length_drop, Nat.sub_zero, Nat.min_self]; rw [wrap64 (by omega)]; unfold vmax; split <;> omega) | (have q1 := len12_19 a0 (by with_reducible assumption); have q2 := jn59 (a := a2) (b := 1) (c := 12) (by with_reducible assumption); simp; rw [wrap64 (by omega)]; unfold vmax; split <;> omega) | (have q1 := len12_19 a0 (by with_reducible assumption); have q2 := jn59 (a := a2) (b := 1) (c := 12) (by with_reducible assumption); simp only [List.length_map, List.length_append, List.length_cons, List.length_nil, List.length_take, List.length_drop, Nat.sub_zero, Nat.min_self]; rw [wrap64 (by omega)]; unfold vmax; split <;> simp <;> omega) | (rw [List.length_take, List.length_drop]; have q1 := len12_19 a0 (by with_reducible assumption); have q2 := jn59 (a := a2) (b := 1) (c := 12) (by with_reducible assumption); simp only [List.length_map, List.length_append, List.length_cons, List.length_nil, List.length_take, List.length_drop, Nat.sub_zero, Nat.min_self]; omega) | (unfold vmax; split <;> omega) | (simp only [decide_eq_true_eq] at *; omega) | (simp only [List.length_map, List.length_append, List.length_cons, List.length_nil, List.length_take, List.length_drop]; omega) | (simp; omega) | (simp [List.take_of_length_le]; done) | assumption | trivial | (simp [*, b_si, d_si, byteRows_eq, ints_y]; done))
        have f18 : (0 + (Int.toNat (vmax (IntKind.wrap .i64 (((List.length ((List.take (List.length (List.map d_si a0)) (List.drop 0 (List.map d_si a0))) ++ [[(.val (.string a1.f0)), (.val (.int .i64 a1.f1))]])) : Int) - a2)) 0))) + (Int.toNat ((List.length ((List.take (List.length (List.map d_si a0)) (List.drop 0 (List.map d_si a0))) ++ [[(.val (.string a1.f0)), (.val (.int .i64 a1.f1))]])) : Int) - Int.toNat (vmax (IntKind.wrap .i64 (((List.length ((List.take (List.length (List.map d_si a0)) (List.drop 0 (List.map d_si a0))) ++ [[(.val (.string a1.f0)), (.val (.int .i64 a1.f1))]])) : Int) - a2)) 0)) ≤ (List.length (List.map d_si (a0 ++ ([a1])))) := (by first | exact True.intro | with_reducible rfl | ((first | rw [List.length_take (i := Int.toNat _), List.length_drop (i := 0 + Int.toNat _)] | rw [List.length_take (i := Int.toNat _), List.length_drop (i := Int.toNat _)]); have q1 := len12_19 a0 (by with_reducible assumption); simp only [List.length_append, List.length_cons, List.length_nil]; refine Nat.le_trans (Nat.mul_le_mul_right _ (Nat.le_trans (Nat.min_le_right _ _) (Nat.sub_le _ _))) ?_; omega) | with_reducible assumption | omega | (have q := len12_19 a0 (by assumption); omega) | (have q := len12_19 _ (by assumption); omega) | (have q1 := len12_19 a0 (by with_reducible assumption); simp only [List.length_map, List.length_append, List.length_cons, List.length_nil, List.length_take, List.length_drop, Nat.sub_zero, Nat.min_self]; omega) | (have q1 := len12_19 a0 (by with_reducible assumption); have q2 := jn59 (a := a2) (b := 1) (c := 12) (by with_reducible assumption); omega) | (have q1 := len12_19 a0 (by with_reducible assumption); have q2 := jn59 (a := a2) (b := 1) (c := 12) (by with_reducible assumption); simp only [List.length_map, List.length_append, List.length_cons, List.length_nil, List.length_take, List.length_drop, Nat.sub_zero, Nat.min_self]; rw [wrap64 (by omega)]; unfold vmax; split <;> omega) | (have q1 := len12_19 a0 (by with_reducible assumption); have q2 := jn59 (a := a2) (b := 1) (c := 12) (by with_reducible assumption); simp; rw [wrap64 (by omega)]; unfold vmax; split <;> omega) | (have q1 := len12_19 a0 (by with_reducible assumption); have q2 := jn59 (a := a2) (b := 1) (c := 12) (by with_reducible assumption); simp only [List.length_map, List.length_append, List.length_cons, List.length_nil, List.length_take, List.length_drop, Nat.sub_zero, Nat.min_self]; rw [wrap64 (by omega)]; unfold vmax; split <;> simp <;> omega) | (rw [List.length_take, List.length_drop]; have q1 := len12_19 a0 (by with_reducible assumption); have q2 := jn59 (a := a2) (b := 1) (c := 12) (by with_reducible assumption); simp only [List.length_map, List.length_append, List.length_cons, List.length_nil, List.length_take, List.length_drop, Nat.sub_zero, Nat.min_self]; omega) | (unfold vmax; split <;> omega) | (simp only [decide_eq_true_eq] at *; omega) | (simp only [List.length_map, List.length_append, List.length_cons, List.length_nil, List.length_take, List.length_drop]; omega) | (simp; omega) | (simp [List.take_of_length_le]; done) | assumption | trivial | (simp [*, b_si, d_si, byteRows_eq, ints_y]; done))
        have f19 : fullR (List.take (Int.toNat ((List.length ((List.take (List.length (List.map d_si a0)) (List.drop 0 (List.map d_si a0))) ++ [[(.val (.string a1.f0)), (.val (.int .i64 a1.f1))]])) : Int) - Int.toNat (vmax (IntKind.wrap .i64 (((List.length ((List.take (List.length (List.map d_si a0)) (List.drop 0 (List.map d_si a0))) ++ [[(.val (.string a1.f0)), (.val (.int .i64 a1.f1))]])) : Int) - a2)) 0)) (List.drop (0 + (Int.toNat (vmax (IntKind.wrap .i64 (((List.length ((List.take (List.length (List.map d_si a0)) (List.drop 0 (List.map d_si a0))) ++ [[(.val (.string a1.f0)), (.val (.int .i64 a1.f1))]])) : Int) - a2)) 0))) (List.map d_si (a0 ++ ([a1]))))) = true := (ft_si _ _ _)
        have f20 : toBR (List.take (Int.toNat ((List.length ((List.take (List.length (List.map d_si a0)) (List.drop 0 (List.map d_si a0))) ++ [[(.val (.string a1.f0)), (.val (.int .i64 a1.f1))]])) : Int) - Int.toNat (vmax (IntKind.wrap .i64 (((List.length ((List.take (List.length (List.map d_si a0)) (List.drop 0 (List.map d_si a0))) ++ [[(.val (.string a1.f0)), (.val (.int .i64 a1.f1))]])) : Int) - a2)) 0)) (List.drop (0 + (Int.toNat (vmax (IntKind.wrap .i64 (((List.length ((List.take (List.length (List.map d_si a0)) (List.drop 0 (List.map d_si a0))) ++ [[(.val (.string a1.f0)), (.val (.int .i64 a1.f1))]])) : Int) - a2)) 0))) (List.map d_si (a0 ++ ([a1]))))) = (List.map b_si (List.take (Int.toNat ((List.length ((List.take (List.length (List.map d_si a0)) (List.drop 0 (List.map d_si a0))) ++ [[(.val (.string a1.f0)), (.val (.int .i64 a1.f1))]])) : Int) - Int.toNat (vmax (IntKind.wrap .i64 (((List.length ((List.take (List.length (List.map d_si a0)) (List.drop 0 (List.map d_si a0))) ++ [[(.val (.string a1.f0)), (.val (.int .i64 a1.f1))]])) : Int) - a2)) 0)) (List.drop (0 + (Int.toNat (vmax (IntKind.wrap .i64 (((List.length ((List.take (List.length (List.map d_si a0)) (List.drop 0 (List.map d_si a0))) ++ [[(.val (.string a1.f0)), (.val (.int .i64 a1.f1))]])) : Int) - a2)) 0))) (a0 ++ ([a1]))))) := (by first | exact tbt_si _ _ _ | (simp [← List.map_take, ← List.map_drop]; done))
        have f21 : Ev F X (.call 74 [(.one (.bor 0 (List.map b_si (List.take (Int.toNat ((List.length ((List.take (List.length (List.map d_si a0)) (List.drop 0 (List.map d_si a0))) ++ [[(.val (.string a1.f0)), (.val (.int .i64 a1.f1))]])) : Int) - Int.toNat (vmax (IntKind.wrap .i64 (((List.length ((List.take (List.length (List.map d_si a0)) (List.drop 0 (List.map d_si a0))) ++ [[(.val (.string a1.f0)), (.val (.int .i64 a1.f1))]])) : Int) - a2)) 0)) (List.drop (0 + (Int.toNat (vmax (IntKind.wrap .i64 (((List.length ((List.take (List.length (List.map d_si a0)) (List.drop 0 (List.map d_si a0))) ++ [[(.val (.string a1.f0)), (.val (.int .i64 a1.f1))]])) : Int) - a2)) 0))) (a0 ++ ([a1])))))))] [] [] [(.one (.own 2 (List.map d_si (List.take (Int.toNat ((List.length ((List.take (List.length (List.map d_si a0)) (List.drop 0 (List.map d_si a0))) ++ [[(.val (.string a1.f0)), (.val (.int .i64 a1.f1))]])) : Int) - Int.toNat (vmax (IntKind.wrap .i64 (((List.length ((List.take (List.length (List.map d_si a0)) (List.drop 0 (List.map d_si a0))) ++ [[(.val (.string a1.f0)), (.val (.int .i64 a1.f1))]])) : Int) - a2)) 0)) (List.drop (0 + (Int.toNat (vmax (IntKind.wrap .i64 (((List.length ((List.take (List.length (List.map d_si a0)) (List.drop 0 (List.map d_si a0))) ++ [[(.val (.string a1.f0)), (.val (.int .i64 a1.f1))]])) : Int) - a2)) 0))) (a0 ++ ([a1])))))))]) := (e74 (a0 := _) (by first | ((first | rw [List.length_take (i := Int.toNat _), List.length_drop (i := 0 + Int.toNat _)] | rw [List.length_take (i := Int.toNat _), List.length_drop (i := Int.toNat _)]); have q1 := len12_19 a0 (by with_reducible assumption); simp only [List.length_append, List.length_cons, List.length_nil]; refine Nat.le_trans (Nat.mul_le_mul_right _ (Nat.le_trans (Nat.min_le_right _ _) (Nat.sub_le _ _))) ?_; omega) | with_reducible assumption | omega | (have q := len12_19 a0 (by assumption); omega) | (have q := len12_19 _ (by assumption); omega) | (have q1 := len12_19 a0 (by with_reducible assumption); simp only [List.length_map, List.length_append, List.length_cons, List.length_nil, List.length_take, List.length_drop, Nat.sub_zero, Nat.min_self]; omega) | (have q1 := len12_19 a0 (by with_reducible assumption); have q2 := jn59 (a := a2) (b := 1) (c := 12) (by with_reducible assumption); omega) | (have q1 := len12_19 a0 (by with_reducible assumption); have q2 := jn59 (a := a2) (b := 1) (c := 12) (by with_reducible assumption); simp only [List.length_map, List.length_append, List.length_cons, List.length_nil, List.length_take, List.length_drop, Nat.sub_zero, Nat.min_self]; rw [wrap64 (by omega)]; unfold vmax; split <;> omega) | (have q1 := len12_19 a0 (by with_reducible assumption); have q2 := jn59 (a := a2) (b := 1) (c := 12) (by with_reducible assumption); simp; rw [wrap64 (by omega)]; unfold vmax; split <;> omega) | (have q1 := len12_19 a0 (by with_reducible assumption); have q2 := jn59 (a := a2) (b := 1) (c := 12) (by with_reducible assumption); simp only [List.length_map, List.length_append, List.length_cons, List.length_nil, List.length_take, List.length_drop, Nat.sub_zero, Nat.min_self]; rw [wrap64 (by omega)]; unfold vmax; split <;> simp <;> omega) | (rw [List.length_take, List.length_drop]; have q1 := len12_19 a0 (by with_reducible assumption); have q2 := jn59 (a := a2) (b := 1) (c := 12) (by with_reducible assumption); simp only [List.length_map, List.length_append, List.length_cons, List.length_nil, List.length_take, List.length_drop, Nat.sub_zero, Nat.min_self]; omega) | (unfold vmax; split <;> omega) | assumption | (simp only [List.length_map, List.length_append, List.length_cons, List.length_nil, List.length_take, List.length_drop]; omega) | (simp; omega)))
        have f22 : 0 = 0 := rfl
        have f23 : (List.length (List.map d_si (List.take (Int.toNat ((List.length ((List.take (List.length (List.map d_si a0)) (List.drop 0 (List.map d_si a0))) ++ [[(.val (.string a1.f0)), (.val (.int .i64 a1.f1))]])) : Int) - Int.toNat (vmax (IntKind.wrap .i64 (((List.length ((List.take (List.length (List.map d_si a0)) (List.drop 0 (List.map d_si a0))) ++ [[(.val (.string a1.f0)), (.val (.int .i64 a1.f1))]])) : Int) - a2)) 0)) (List.drop (0 + (Int.toNat (vmax (IntKind.wrap .i64 (((List.length ((List.take (List.length (List.map d_si a0)) (List.drop 0 (List.map d_si a0))) ++ [[(.val (.string a1.f0)), (.val (.int .i64 a1.f1))]])) : Int) - a2)) 0))) (a0 ++ ([a1])))))) = (List.length (List.map d_si (List.take (Int.toNat ((List.length ((List.take (List.length (List.map d_si a0)) (List.drop 0 (List.map d_si a0))) ++ [[(.val (.string a1.f0)), (.val (.int .i64 a1.f1))]])) : Int) - Int.toNat (vmax (IntKind.wrap .i64 (((List.length ((List.take (List.length (List.map d_si a0)) (List.drop 0 (List.map d_si a0))) ++ [[(.val (.string a1.f0)), (.val (.int .i64 a1.f1))]])) : Int) - a2)) 0)) (List.drop (0 + (Int.toNat (vmax (IntKind.wrap .i64 (((List.length ((List.take (List.length (List.map d_si a0)) (List.drop 0 (List.map d_si a0))) ++ [[(.val (.string a1.f0)), (.val (.int .i64 a1.f1))]])) : Int) - a2)) 0))) (a0 ++ ([a1])))))) := rfl
        have f24 : pureR (List.map d_si (List.take (Int.toNat ((List.length ((List.take (List.length (List.map d_si a0)) (List.drop 0 (List.map d_si a0))) ++ [[(.val (.string a1.f0)), (.val (.int .i64 a1.f1))]])) : Int) - Int.toNat (vmax (IntKind.wrap .i64 (((List.length ((List.take (List.length (List.map d_si a0)) (List.drop 0 (List.map d_si a0))) ++ [[(.val (.string a1.f0)), (.val (.int .i64 a1.f1))]])) : Int) - a2)) 0)) (List.drop (0 + (Int.toNat (vmax (IntKind.wrap .i64 (((List.length ((List.take (List.length (List.map d_si a0)) (List.drop 0 (List.map d_si a0))) ++ [[(.val (.string a1.f0)), (.val (.int .i64 a1.f1))]])) : Int) - a2)) 0))) (a0 ++ ([a1]))))) = true := (pureR_si _)
        exact callP_ok (ps := []) (os := []) (rs := [(.agg [(.val (.int .i64 0)), (.own 2 (List.map d_si (List.take (Int.toNat ((List.length ((List.take (List.length (List.map d_si a0)) (List.drop 0 (List.map d_si a0))) ++ [[(.val (.string a1.f0)), (.val (.int .i64 a1.f1))]])) : Int) - Int.toNat (vmax (IntKind.wrap .i64 (((List.length ((List.take (List.length (List.map d_si a0)) (List.drop 0 (List.map d_si a0))) ++ [[(.val (.string a1.f0)), (.val (.int .i64 a1.f1))]])) : Int) - a2)) 0)) (List.drop (0 + (Int.toNat (vmax (IntKind.wrap .i64 (((List.length ((List.take (List.length (List.map d_si a0)) (List.drop 0 (List.map d_si a0))) ++ [[(.val (.string a1.f0)), (.val (.int .i64 a1.f1))]])) : Int) - a2)) 0))) (a0 ++ ([a1]))))))])]) (by kernel_rfl) (.r 7 [] [] f0 (.f (nt h0) (.f f2 (.f f3 (.f f4 (.h 14 (.b false) (.r 20 [] [[[(.val (.string a1.f0)), (.val (.int .i64 a1.f1))]]] f5 (.f (nt h1) (.h 27 (.b false) (.r 31 [] [] f7 (.f (nt h2) (.h 34 (.b false) (.r 38 [] [] f9 (.f f10 (.f f11 (.f f12 (.f f13 (.f f14 (.f f15 (.f f16 (.f f17 (.f f18 (.f f19 (.f f20 (.h 44 (.b true) (.h 47 (.norm (9, 0, 0) (List.map d_si (a0 ++ ([a1])))) (.r 63 [] [(List.map b_si (List.take (Int.toNat ((List.length ((List.take (List.length (List.map d_si a0)) (List.drop 0 (List.map d_si a0))) ++ [[(.val (.string a1.f0)), (.val (.int .i64 a1.f1))]])) : Int) - Int.toNat (vmax (IntKind.wrap .i64 (((List.length ((List.take (List.length (List.map d_si a0)) (List.drop 0 (List.map d_si a0))) ++ [[(.val (.string a1.f0)), (.val (.int .i64 a1.f1))]])) : Int) - a2)) 0)) (List.drop (0 + (Int.toNat (vmax (IntKind.wrap .i64 (((List.length ((List.take (List.length (List.map d_si a0)) (List.drop 0 (List.map d_si a0))) ++ [[(.val (.string a1.f0)), (.val (.int .i64 a1.f1))]])) : Int) - a2)) 0))) (a0 ++ ([a1])))))] f21 (.f f22 (.f f23 (.f f24 .nil))))))))))))))))))))))))))))))
theorem okm32 (a0 : (List K_si)) (a1 : K_si) (a2 : Int) : ok_iLsiE (m32 a0 a1 a2) := by
  unfold m32
  split
  · simp [ok_LsiE, ok_iLsiE]
  · split
    · simp [ok_LsiE, ok_iLsiE]
    · split
      · simp [ok_LsiE, ok_iLsiE]
      · have q1 := len12_19 a0 (by assumption)
        simp only [ok_LsiE, ok_iLsiE, List.length_take, List.length_drop, List.length_append, List.length_cons, List.length_nil]; omega
/-! loop.example/g00539/laws.eqWeightsResult -/
def m33 (a0 : K_iLsiE) (a1 : K_iLsiE) : Bool :=
  if (a0.f0 != a1.f0) = true then false else
  if (!(m20 a0.f1 a1.f1)) = true then false else
    true
theorem e33 {l0_1 : Nat} {a0 : K_iLsiE} {l1_1 : Nat} {a1 : K_iLsiE} (hy0 : List.length a0.f1 * 24 ≤ 140737488351232) (hy1 : List.length a1.f1 * 24 ≤ 140737488351232) : Ev F X (.call 33 [(.agg [(.val (.int .i64 a0.f0)), (.bor l0_1 (List.map b_si a0.f1))]), (.agg [(.val (.int .i64 a1.f0)), (.bor l1_1 (List.map b_si a1.f1))])] [] [] [(.one (.val (.bool (m33 a0 a1))))]) := by
  unfold m33
  by_cases h0 : (a0.f0 != a1.f0) = true
  · try simp only [if_pos h0]
    exact callP_ok (ps := []) (os := []) (rs := [(.one (.val (.bool false)))]) (by kernel_rfl) (.f h0 (.h 16 (.b true) .nil))
  · try simp only [if_neg h0]
    have f1 : Ev F X (.call 20 [(.one (.bor (l0_1 + 1) (List.map b_si a0.f1))), (.one (.bor (l1_1 + 1) (List.map b_si a1.f1)))] [] [] [(.one (.val (.bool (m20 a0.f1 a1.f1))))]) := (e20 (a0 := a0.f1) (a1 := a1.f1) (by first | with_reducible assumption | omega | assumption | (simp only [List.length_map]; omega) | (simp; omega)) (by first | with_reducible assumption | omega | assumption | (simp only [List.length_map]; omega) | (simp; omega)))
    by_cases h1 : (!(m20 a0.f1 a1.f1)) = true
    · try simp only [if_pos h1]
      exact callP_ok (ps := []) (os := []) (rs := [(.one (.val (.bool false)))]) (by kernel_rfl) (.f (nt h0) (.h 16 (.b false) (.r 26 [] [] f1 (.f h1 (.h 29 (.b true) .nil)))))
    · try simp only [if_neg h1]
      exact callP_ok (ps := []) (os := []) (rs := [(.one (.val (.bool true)))]) (by kernel_rfl) (.f (nt h0) (.h 16 (.b false) (.r 26 [] [] f1 (.f (nt h1) (.h 29 (.b false) .nil)))))
open Classical in
theorem eqd33 (a b : K_iLsiE) : m33 a b = decide (a = b) := by
  rw [Bool.eq_iff_iff, decide_eq_true_eq]
  constructor
  · intro h
    unfold m33 at h
    cases a; cases b
    (repeat' split at h) <;> simp_all [ba_eq, eqd20]
  · rintro rfl
    simp [m33, ba_eq, eqd20]
/-! loop 75_0 -/
inductive O75_0 where
  | k0 (w0 : Int) (w1 : ByteArray) (w2 : Bool)
def r75_0  : Nat → Int → ByteArray → O75_0
  | n_75_0 + 1, v0_75_0, v1_75_0 =>
    if (decide (v0_75_0 > 0)) = true then (r75_0 n_75_0 (IntKind.wrap .i64 (Int.tdiv v0_75_0 10)) ((bytesOf [(IntKind.wrap .u8 ((IntKind.wrap .i64 (48 + (Int.tmod v0_75_0 10)))))]) ++ v1_75_0)) else
    (O75_0.k0 v0_75_0 v1_75_0 (decide (v0_75_0 > 0)))
  | 0, v0_75_0, v1_75_0 => (O75_0.k0 v0_75_0 v1_75_0 (decide (v0_75_0 > 0)))
def h75_0 (a0 : Int) (v0_75_0 : Int) (v1_75_0 : ByteArray) : St := ⟨[(0, (.one (.val (.int .i64 v0_75_0)))), (3, (.one (.val (.string v1_75_0))))], []⟩
def ex75_0 : O75_0 → VX.Exit
  | .k0 _ _ _ => (.exit 0)
def fin75_0 (a0 : Int) : O75_0 → St
  | .k0 w0 w1 w2 => ⟨[(0, (.one (.val (.int .i64 w0)))), (3, (.one (.val (.string w1)))), (7, (.one (.val (.bool w2))))], []⟩
theorem t75_0 {a0 : Int}  : ∀ (n_75_0 : Nat) (v0_75_0 : Int) (v1_75_0 : ByteArray), ByteArray.size v1_75_0 + pot64 v0_75_0 ≤ 100 → fuel64 v0_75_0 ≤ n_75_0 → Ev F X (.code l75_0 (h75_0 a0 v0_75_0 v1_75_0) (ex75_0 (r75_0 n_75_0 v0_75_0 v1_75_0)) (fin75_0 a0 (r75_0 n_75_0 v0_75_0 v1_75_0)))
  | 0, v0_75_0, v1_75_0, hi0, hn => by
    have hc : ¬ (decide (v0_75_0 > 0)) = true := by first | (exact fuel64_zero hn) | (simp only [decide_eq_true_eq] at *; omega) | (simp at *; omega)
    have st := codeP_ok (F := F) (X := X) (c := b75_0) (t := 0) (σ := h75_0 a0 v0_75_0 v1_75_0) (σ' := ⟨[(0, (.one (.val (.int .i64 v0_75_0)))), (3, (.one (.val (.string v1_75_0)))), (7, (.one (.val (.bool (decide (v0_75_0 > 0))))))], []⟩) (e := (.exit 0)) (t' := 5) (by kernel_rfl) (.f (nt hc) (.h 4 (.b false) .nil))
    rw [show (⟨[(0, (.one (.val (.int .i64 v0_75_0)))), (3, (.one (.val (.string v1_75_0)))), (7, (.one (.val (.bool (decide (v0_75_0 > 0))))))], []⟩ : St) = fin75_0 a0 (.k0 v0_75_0 v1_75_0 (decide (v0_75_0 > 0))) from by first | rfl | (unfold fin75_0; simp [byteRows_eq, ints_y, List.take_of_length_le, d_si, d_LsiE, d_i, d_b, d_iLsiE, d_s, d_y, fromBR_si, fromBR_i, fromBR_b, fromBR_s, fromBR_y]; done)] at st
    exact .loopX st (show ((.exit 0) : VX.Exit) ≠ .normal from by simp)
  | n_75_0 + 1, v0_75_0, v1_75_0, hi0, hn => by
    simp only [r75_0]
    by_cases h_75_0_0 : (decide (v0_75_0 > 0)) = true
    · try simp only [if_pos h_75_0_0]
      have f1 : (10 : Int) ≠ 0 := (by first | exact True.intro | with_reducible rfl | with_reducible assumption | omega | (simp only [bytesOf_size, List.length_cons, List.length_nil]; omega) | (show 1 + _ ≤ _; omega) | (simp only [List.length_map, List.length_set, List.length_append, List.length_replicate, List.length_cons, List.length_nil]; omega) | (simp; done) | (simp; omega) | (simp [List.take_of_length_le]; done) | (simp [← List.map_take, ← List.map_drop]; done) | assumption | trivial | (simp [*, byteRows_eq, ints_y]; done))
      have f3 : 1 ≤ 1 := (by omega)
      have f4 : rowsInts .u8 [[(.val (.int .u8 (IntKind.wrap .u8 ((IntKind.wrap .i64 (48 + (Int.tmod v0_75_0 10)))))))]] = some [(IntKind.wrap .u8 ((IntKind.wrap .i64 (48 + (Int.tmod v0_75_0 10)))))] := (by first | exact True.intro | with_reducible rfl | with_reducible assumption | omega | (simp only [bytesOf_size, List.length_cons, List.length_nil]; omega) | (show 1 + _ ≤ _; omega) | (simp only [List.length_map, List.length_set, List.length_append, List.length_replicate, List.length_cons, List.length_nil]; omega) | (simp; done) | (simp; omega) | (simp [List.take_of_length_le]; done) | (simp [← List.map_take, ← List.map_drop]; done) | assumption | trivial | (simp [*, byteRows_eq, ints_y]; done))
      have f5 : ByteArray.size (bytesOf [(IntKind.wrap .u8 ((IntKind.wrap .i64 (48 + (Int.tmod v0_75_0 10)))))]) + ByteArray.size v1_75_0 ≤ 9223372036854775807 := (by first | exact True.intro | with_reducible rfl | with_reducible assumption | omega | (simp only [bytesOf_size, List.length_cons, List.length_nil]; omega) | (show 1 + _ ≤ _; omega) | (simp only [decide_eq_true_eq] at *; omega) | (simp only [List.length_map, List.length_set, List.length_append, List.length_replicate, List.length_cons, List.length_nil]; omega) | (simp; omega) | (simp [List.take_of_length_le]; done) | assumption | trivial | (simp [*, byteRows_eq, ints_y]; done))
      have f6 : (10 : Int) ≠ 0 := (by first | exact True.intro | with_reducible rfl | with_reducible assumption | omega | (simp only [bytesOf_size, List.length_cons, List.length_nil]; omega) | (show 1 + _ ≤ _; omega) | (simp only [List.length_map, List.length_set, List.length_append, List.length_replicate, List.length_cons, List.length_nil]; omega) | (simp; done) | (simp; omega) | (simp [List.take_of_length_le]; done) | (simp [← List.map_take, ← List.map_drop]; done) | assumption | trivial | (simp [*, byteRows_eq, ints_y]; done))
      have st := codeP_ok (F := F) (X := X) (c := b75_0) (t := 0) (σ := h75_0 a0 v0_75_0 v1_75_0) (σ' := ⟨[(0, (.one (.val (.int .i64 (IntKind.wrap .i64 (Int.tdiv v0_75_0 10)))))), (3, (.one (.val (.string ((bytesOf [(IntKind.wrap .u8 ((IntKind.wrap .i64 (48 + (Int.tmod v0_75_0 10)))))]) ++ v1_75_0)))))], []⟩) (e := .normal) (t' := 29) (by kernel_rfl) (.f h_75_0_0 (.f f1 (.f trivial (.f f3 (.f f4 (.f f5 (.f f6 (.h 4 (.b true) (.h 16 (.ints [(IntKind.wrap .u8 ((IntKind.wrap .i64 (48 + (Int.tmod v0_75_0 10)))))]) .nil)))))))))
      have ih := t75_0 (a0 := a0)  n_75_0 (IntKind.wrap .i64 (Int.tdiv v0_75_0 10)) ((bytesOf [(IntKind.wrap .u8 ((IntKind.wrap .i64 (48 + (Int.tmod v0_75_0 10)))))]) ++ v1_75_0) (by first | assumption | omega | (simp only [List.length_map, List.length_set, List.length_append, List.length_replicate, List.length_cons, List.length_nil]; omega) | (have q := pot64_tdiv (x := v0_75_0) (by assumption); simp only [ByteArray.size_append, bytesOf_size, List.length_cons, List.length_nil]; omega) | (simp only [decide_eq_true_eq] at *; omega)) (by first | (exact fuel64_tdiv (by assumption) hn) | omega | (simp only [decide_eq_true_eq] at *; omega) | (simp at *; omega))
      rw [show (⟨[(0, (.one (.val (.int .i64 (IntKind.wrap .i64 (Int.tdiv v0_75_0 10)))))), (3, (.one (.val (.string ((bytesOf [(IntKind.wrap .u8 ((IntKind.wrap .i64 (48 + (Int.tmod v0_75_0 10)))))]) ++ v1_75_0)))))], []⟩ : St) = h75_0 a0 (IntKind.wrap .i64 (Int.tdiv v0_75_0 10)) ((bytesOf [(IntKind.wrap .u8 ((IntKind.wrap .i64 (48 + (Int.tmod v0_75_0 10)))))]) ++ v1_75_0) from by first | rfl | (unfold h75_0; simp only [List.length_map, List.length_set, List.length_append, List.length_replicate, List.length_cons, List.length_nil]; done) | (unfold h75_0; simp [byteRows_eq, ints_y, List.take_of_length_le, d_si, d_LsiE, d_i, d_b, d_iLsiE, d_s, d_y, fromBR_si, fromBR_i, fromBR_b, fromBR_s, fromBR_y]; done)] at st
      exact .loopN st ih
    · try simp only [if_neg h_75_0_0]
      have st := codeP_ok (F := F) (X := X) (c := b75_0) (t := 0) (σ := h75_0 a0 v0_75_0 v1_75_0) (σ' := ⟨[(0, (.one (.val (.int .i64 v0_75_0)))), (3, (.one (.val (.string v1_75_0)))), (7, (.one (.val (.bool (decide (v0_75_0 > 0))))))], []⟩) (e := (.exit 0)) (t' := 5) (by kernel_rfl) (.f (nt h_75_0_0) (.h 4 (.b false) .nil))
      rw [show (⟨[(0, (.one (.val (.int .i64 v0_75_0)))), (3, (.one (.val (.string v1_75_0)))), (7, (.one (.val (.bool (decide (v0_75_0 > 0))))))], []⟩ : St) = fin75_0 a0 (.k0 v0_75_0 v1_75_0 (decide (v0_75_0 > 0))) from by first | rfl | (unfold fin75_0; simp [byteRows_eq, ints_y, List.take_of_length_le, d_si, d_LsiE, d_i, d_b, d_iLsiE, d_s, d_y, fromBR_si, fromBR_i, fromBR_b, fromBR_s, fromBR_y]; done)] at st
      exact .loopX st (show ((.exit 0) : VX.Exit) ≠ .normal from by simp)
/-! loop 75_0, behind -/
def post75_0 (a0 : Int) : O75_0 → Prop
  | .k0 _ w1 _ => ByteArray.size w1 ≤ 100
theorem z75_0 {a0 : Int}  : ∀ (n_75_0 : Nat) (v0_75_0 : Int) (v1_75_0 : ByteArray), ByteArray.size v1_75_0 + pot64 v0_75_0 ≤ 100 → post75_0 a0 (r75_0 n_75_0 v0_75_0 v1_75_0)
  | 0, v0_75_0, v1_75_0, hi0 => by
    simp only [r75_0]
    first | trivial | (show _ ; simp only [post75_0]; omega) | (simp only [post75_0] at *; omega) | (have q := pot64_tdiv (x := v0_75_0) (by assumption); simp only [ByteArray.size_append, bytesOf_size, List.length_cons, List.length_nil]; omega) | (simp only [decide_eq_true_eq] at *; omega)
  | n_75_0 + 1, v0_75_0, v1_75_0, hi0 => by
    simp only [r75_0]
    by_cases h_75_0_0 : (decide (v0_75_0 > 0)) = true
    · try simp only [if_pos h_75_0_0]
      exact z75_0 (a0 := a0) n_75_0 (IntKind.wrap .i64 (Int.tdiv v0_75_0 10)) ((bytesOf [(IntKind.wrap .u8 ((IntKind.wrap .i64 (48 + (Int.tmod v0_75_0 10)))))]) ++ v1_75_0) (by first | assumption | omega | (simp only [List.length_map, List.length_set, List.length_append, List.length_replicate, List.length_cons, List.length_nil]; omega) | (have q := pot64_tdiv (x := v0_75_0) (by assumption); simp only [ByteArray.size_append, bytesOf_size, List.length_cons, List.length_nil]; omega) | (simp only [decide_eq_true_eq] at *; omega))
    · try simp only [if_neg h_75_0_0]
      first | trivial | (show _ ; simp only [post75_0]; omega) | (simp only [post75_0] at *; omega) | (have q := pot64_tdiv (x := v0_75_0) (by assumption); simp only [ByteArray.size_append, bytesOf_size, List.length_cons, List.length_nil]; omega) | (simp only [decide_eq_true_eq] at *; omega)
/-! loop.example/g00539/laws.markText -/
def m75 (a0 : Int) : ByteArray :=
  if (decide (a0 ≤ 0)) = true then (⟨#[109, 48]⟩ : ByteArray) else
  (match r75_0 (fuel64 a0) a0 (⟨#[]⟩ : ByteArray) with | .k0 w0_75_0_1 w1_75_0_1 w2_75_0_1 => ((⟨#[109]⟩ : ByteArray) ++ w1_75_0_1))
theorem e75 {a0 : Int} : Ev F X (.call 75 [(.one (.val (.int .i64 a0)))] [] [] [(.one (.val (.string (m75 a0))))]) := by
  unfold m75
  by_cases h0 : (decide (a0 ≤ 0)) = true
  · try simp only [if_pos h0]
    exact callP_ok (ps := []) (os := []) (rs := [(.one (.val (.string (⟨#[109, 48]⟩ : ByteArray))))]) (by kernel_rfl) (.f h0 (.h 6 (.b true) .nil))
  · try simp only [if_neg h0]
    cases h1 : r75_0 (fuel64 a0) a0 (⟨#[]⟩ : ByteArray) with
    | k0 w0_75_0_1 w1_75_0_1 w2_75_0_1 =>
      try dsimp only
      have zh1 := z75_0 (a0 := a0) (fuel64 a0) a0 (⟨#[]⟩ : ByteArray) (by first | rfl | omega | (have q := pot64_le a0; show 0 + pot64 a0 ≤ 100; omega) | (simp only [List.length_map, List.length_set, List.length_append, List.length_replicate, List.length_cons, List.length_nil]; done) | (simp only [List.length_map, List.length_set, List.length_append, List.length_replicate, List.length_cons, List.length_nil]; omega) | (simp; done)); rw [h1] at zh1; simp only [post75_0] at zh1
      have f1 : (⟨[(0, (.one (.val (.int .i64 a0)))), (3, (.one (.val (.string (⟨#[]⟩ : ByteArray)))))], []⟩ : St) = h75_0 a0 a0 (⟨#[]⟩ : ByteArray) := (by first | rfl | (unfold h75_0; simp [byteRows_eq, ints_y, List.take_of_length_le, d_si, d_LsiE, d_i, d_b, d_iLsiE, d_s, d_y, fromBR_si, fromBR_i, fromBR_b, fromBR_s, fromBR_y]; done))
      have f2 : Ev F X (.code l75_0 (h75_0 a0 a0 (⟨#[]⟩ : ByteArray)) (.exit 0) ⟨[(0, (.one (.val (.int .i64 w0_75_0_1)))), (3, (.one (.val (.string w1_75_0_1)))), (7, (.one (.val (.bool w2_75_0_1))))], []⟩) := (by have t : Ev F X (.code l75_0 (h75_0 a0 a0 (⟨#[]⟩ : ByteArray)) (ex75_0 (r75_0 (fuel64 a0) a0 (⟨#[]⟩ : ByteArray))) (fin75_0 a0 (r75_0 (fuel64 a0) a0 (⟨#[]⟩ : ByteArray)))) := t75_0 (a0 := a0)  (fuel64 a0) a0 (⟨#[]⟩ : ByteArray)  (by first | rfl | omega | (have q := pot64_le a0; show 0 + pot64 a0 ≤ 100; omega) | (simp only [List.length_map, List.length_set, List.length_append, List.length_replicate, List.length_cons, List.length_nil]; done) | (simp only [List.length_map, List.length_set, List.length_append, List.length_replicate, List.length_cons, List.length_nil]; omega) | (simp; done)) (Nat.le_refl _); rw [h1] at t; exact t)
      have f3 : ByteArray.size (⟨#[109]⟩ : ByteArray) + ByteArray.size w1_75_0_1 ≤ 9223372036854775807 := (by first | exact True.intro | with_reducible rfl | with_reducible assumption | omega | (simp only [bytesOf_size, List.length_cons, List.length_nil]; omega) | (show 1 + _ ≤ _; omega) | (simp only [decide_eq_true_eq] at *; omega) | (simp only [List.length_map, List.length_set, List.length_append, List.length_replicate, List.length_cons, List.length_nil]; omega) | (simp; omega) | (simp [List.take_of_length_le]; done) | assumption | trivial | (simp [*, byteRows_eq, ints_y]; done))
      exact callP_ok (ps := []) (os := []) (rs := [(.one (.val (.string ((⟨#[109]⟩ : ByteArray) ++ w1_75_0_1))))]) (by kernel_rfl) (.f (nt h0) (.f f1 (.f f2 (.f f3 (.h 6 (.b false) (.h 9 (.loop (h75_0 a0 a0 (⟨#[]⟩ : ByteArray)) (.exit 0) ⟨[(0, (.one (.val (.int .i64 w0_75_0_1)))), (3, (.one (.val (.string w1_75_0_1)))), (7, (.one (.val (.bool w2_75_0_1))))], []⟩) .nil))))))
/-! loop 34_0 -/
inductive O34_0 where
  | k0 (w0 : List K_si) (w1 : Int) (w2 : Int) (w3 : Bool)
def r34_0 (a0 : (List K_si)) : List K_si → Int → List K_si → Int → O34_0
  | x0_34_0 :: l0_34_0, i_34_0, v0_34_0, v1_34_0 =>
    (r34_0 a0 l0_34_0 (i_34_0 + 1) (List.set v0_34_0 (Int.toNat i_34_0) (K_si.mk (m75 v1_34_0) (IntKind.wrap .i64 (v1_34_0 + 1)))) (IntKind.wrap .i64 ((IntKind.wrap .i64 (v1_34_0 + 1)) + 1)))
  | [], i_34_0, v0_34_0, v1_34_0 => (O34_0.k0 v0_34_0 v1_34_0 i_34_0 (decide (i_34_0 < ((List.length (List.map d_si a0)) : Int))))
def h34_0 (a0 : (List K_si)) (a1 : Int) (i_34_0 : Int) (v0_34_0 : List K_si) (v1_34_0 : Int) : St := ⟨[(0, (.one (.ref ⟨(0, 0, 0), [], 0, (List.length (List.map d_si a0))⟩))), (1, (.one (.val (.int .i64 v1_34_0)))), (5, (.one (.val (.int .i64 i_34_0))))], [((0, 0, 0), .live ⟨2, (List.map d_si v0_34_0), []⟩)]⟩
def ex34_0 : O34_0 → VX.Exit
  | .k0 _ _ _ _ => (.exit 0)
def fin34_0 (a0 : (List K_si)) (a1 : Int) : O34_0 → St
  | .k0 w0 w1 w2 w3 => ⟨[(0, (.one (.ref ⟨(0, 0, 0), [], 0, (List.length (List.map d_si a0))⟩))), (1, (.one (.val (.int .i64 w1)))), (5, (.one (.val (.int .i64 w2)))), (9, (.one (.val (.bool w3))))], [((0, 0, 0), .live ⟨2, (List.map d_si w0), []⟩)]⟩
theorem t34_0 {a0 : (List K_si)} {a1 : Int} (hy0 : List.length a0 * 24 ≤ 140737488351232) : ∀ (l0_34_0 : List K_si) (p_34_0 : List K_si) (v0_34_0 : List K_si) (v1_34_0 : Int), p_34_0 ++ l0_34_0 = a0 → List.length v0_34_0 = (List.length (List.map d_si a0)) → List.drop (List.length p_34_0) v0_34_0 = l0_34_0 → Ev F X (.code l34_0 (h34_0 a0 a1 (List.length p_34_0 : Int) v0_34_0 v1_34_0) (ex34_0 (r34_0 a0 l0_34_0 (List.length p_34_0 : Int) v0_34_0 v1_34_0)) (fin34_0 a0 a1 (r34_0 a0 l0_34_0 (List.length p_34_0 : Int) v0_34_0 v1_34_0)))
  | [], p_34_0, v0_34_0, v1_34_0, hp0, hi0, hi1 => by
    have hc : ¬ (decide ((List.length p_34_0 : Int) < ((List.length (List.map d_si a0)) : Int))) = true := by
      rw [← hp0]; simp only [List.length_map, List.length_set, List.length_append, List.length_replicate, List.length_cons, List.length_nil, decide_eq_true_eq]; omega
    have hj0 := hi0; try simp only [List.length_map, List.length_set, List.length_append, List.length_replicate, List.length_cons, List.length_nil, Int.toNat_natCast] at hj0
    have hj1 := hi1; try simp only [List.length_map, List.length_set, List.length_append, List.length_replicate, List.length_cons, List.length_nil, Int.toNat_natCast] at hj1
    have st := codeH_ok (F := F) (X := X) (c := b34_0) (t := 0) (hs := [(8, .b false)]) (σ := h34_0 a0 a1 (List.length p_34_0 : Int) v0_34_0 v1_34_0) (σ' := ⟨[(0, (.one (.ref ⟨(0, 0, 0), [], 0, (List.length (List.map d_si a0))⟩))), (1, (.one (.val (.int .i64 v1_34_0)))), (5, (.one (.val (.int .i64 (List.length p_34_0 : Int))))), (9, (.one (.val (.bool (decide ((List.length p_34_0 : Int) < ((List.length (List.map d_si a0)) : Int)))))))], [((0, 0, 0), .live ⟨2, (List.map d_si v0_34_0), []⟩)]⟩) (e := (.exit 0)) (t' := 9) (hs' := []) (q := [(decide ((List.length p_34_0 : Int) < ((List.length (List.map d_si a0)) : Int))) = false]) (by kernel_rfl) ⟨(nt hc), trivial⟩
    rw [show (⟨[(0, (.one (.ref ⟨(0, 0, 0), [], 0, (List.length (List.map d_si a0))⟩))), (1, (.one (.val (.int .i64 v1_34_0)))), (5, (.one (.val (.int .i64 (List.length p_34_0 : Int))))), (9, (.one (.val (.bool (decide ((List.length p_34_0 : Int) < ((List.length (List.map d_si a0)) : Int)))))))], [((0, 0, 0), .live ⟨2, (List.map d_si v0_34_0), []⟩)]⟩ : St) = fin34_0 a0 a1 (.k0 v0_34_0 v1_34_0 (List.length p_34_0 : Int) (decide ((List.length p_34_0 : Int) < ((List.length (List.map d_si a0)) : Int)))) from by first | rfl | (unfold fin34_0; simp [byteRows_eq, ints_y, List.take_of_length_le, d_si, d_LsiE, d_i, d_b, d_iLsiE, d_s, d_y, fromBR_si, fromBR_i, fromBR_b, fromBR_s, fromBR_y]; done)] at st
    exact .loopX st (show ((.exit 0) : VX.Exit) ≠ .normal from by simp)
  | x0_34_0 :: l0_34_0, p_34_0, v0_34_0, v1_34_0, hp0, hi0, hi1 => by
    have hc : (decide ((List.length p_34_0 : Int) < ((List.length (List.map d_si a0)) : Int))) = true := by
      rw [← hp0]; simp only [List.length_map, List.length_set, List.length_append, List.length_replicate, List.length_cons, List.length_nil, decide_eq_true_eq]; omega
    have Hx0_34_0 : (a0)[Int.toNat (List.length p_34_0 : Int)]? = some x0_34_0 := by
      rw [← hp0, Int.toNat_natCast]; simp
    have hlen : List.length (a0) = List.length p_34_0 + List.length l0_34_0 + 1 := by rw [← hp0]; simp; omega
    have hw : IntKind.wrap .i64 ((List.length p_34_0 : Int) + 1) = (List.length p_34_0 : Int) + 1 := wrap64 (by omega)
    have hj0 := hi0; try simp only [List.length_map, List.length_set, List.length_append, List.length_replicate, List.length_cons, List.length_nil, Int.toNat_natCast] at hj0
    have hj1 := hi1; try simp only [List.length_map, List.length_set, List.length_append, List.length_replicate, List.length_cons, List.length_nil, Int.toNat_natCast] at hj1
    have Hv0_34_0 : v0_34_0[Int.toNat (List.length p_34_0 : Int)]? = some x0_34_0 := by rw [Int.toNat_natCast]; exact drop_at hi1
    simp only [r34_0]
    have st := codeH_ok (F := F) (X := X) (c := b34_0) (t := 0) (hs := [(8, .b true), (16, .ret [] [(.one (.val (.string (m75 v1_34_0))))] [] []), (22, .rowD [(.val (.string x0_34_0.f0)), (.val (.int .i64 x0_34_0.f1))]), (23, .norm (0, 0, 0) (List.map d_si (List.set v0_34_0 (Int.toNat (List.length p_34_0 : Int)) (K_si.mk (m75 v1_34_0) x0_34_0.f1)))), (41, .rowD [(.val (.string (m75 v1_34_0))), (.val (.int .i64 x0_34_0.f1))]), (42, .norm (0, 0, 0) (List.map d_si (List.set v0_34_0 (Int.toNat (List.length p_34_0 : Int)) (K_si.mk (m75 v1_34_0) (IntKind.wrap .i64 (v1_34_0 + 1))))))]) (σ := h34_0 a0 a1 (List.length p_34_0 : Int) v0_34_0 v1_34_0) (σ' := ⟨[(0, (.one (.ref ⟨(0, 0, 0), [], 0, (List.length (List.map d_si a0))⟩))), (1, (.one (.val (.int .i64 (IntKind.wrap .i64 ((IntKind.wrap .i64 (v1_34_0 + 1)) + 1)))))), (5, (.one (.val (.int .i64 (IntKind.wrap .i64 ((List.length p_34_0 : Int) + 1))))))], [((0, 0, 0), .live ⟨2, (List.map d_si (List.set v0_34_0 (Int.toNat (List.length p_34_0 : Int)) (K_si.mk (m75 v1_34_0) (IntKind.wrap .i64 (v1_34_0 + 1))))), []⟩)]⟩) (e := .normal) (t' := 55) (hs' := []) (q := [(decide ((List.length p_34_0 : Int) < ((List.length (List.map d_si a0)) : Int))) = true, Ev F X (.call 75 [(.one (.val (.int .i64 v1_34_0)))] [] [] [(.one (.val (.string (m75 v1_34_0))))]), 0 + (List.length (List.map d_si a0)) ≤ (List.length (List.map d_si v0_34_0)), 0 ≤ (List.length p_34_0 : Int) ∧ (List.length p_34_0 : Int) < ((List.length (List.map d_si a0)) : Int), (List.map d_si v0_34_0)[(0 + (Int.toNat (List.length p_34_0 : Int)))]? = some [(.val (.string x0_34_0.f0)), (.val (.int .i64 x0_34_0.f1))], (List.set (List.map d_si v0_34_0) (0 + (Int.toNat (List.length p_34_0 : Int))) [(.val (.string (m75 v1_34_0))), (.val (.int .i64 x0_34_0.f1))]) = (List.map d_si (List.set v0_34_0 (Int.toNat (List.length p_34_0 : Int)) (K_si.mk (m75 v1_34_0) x0_34_0.f1))), True, 0 + (List.length (List.map d_si a0)) ≤ (List.length (List.map d_si (List.set v0_34_0 (Int.toNat (List.length p_34_0 : Int)) (K_si.mk (m75 v1_34_0) x0_34_0.f1)))), 0 ≤ (List.length p_34_0 : Int) ∧ (List.length p_34_0 : Int) < ((List.length (List.map d_si a0)) : Int), (List.map d_si (List.set v0_34_0 (Int.toNat (List.length p_34_0 : Int)) (K_si.mk (m75 v1_34_0) x0_34_0.f1)))[(0 + (Int.toNat (List.length p_34_0 : Int)))]? = some [(.val (.string (m75 v1_34_0))), (.val (.int .i64 x0_34_0.f1))], (List.set (List.map d_si (List.set v0_34_0 (Int.toNat (List.length p_34_0 : Int)) (K_si.mk (m75 v1_34_0) x0_34_0.f1))) (0 + (Int.toNat (List.length p_34_0 : Int))) [(.val (.string (m75 v1_34_0))), (.val (.int .i64 (IntKind.wrap .i64 (v1_34_0 + 1))))]) = (List.map d_si (List.set v0_34_0 (Int.toNat (List.length p_34_0 : Int)) (K_si.mk (m75 v1_34_0) (IntKind.wrap .i64 (v1_34_0 + 1))))), True, True]) (by kernel_rfl) ⟨hc, (e75 (a0 := v1_34_0)), (by first | exact True.intro | with_reducible rfl | with_reducible assumption | omega | (simp only [decide_eq_true_eq] at *; omega) | (simp only [List.length_map]; omega) | (simp; omega) | (simp [List.take_of_length_le]; done) | assumption | trivial | (simp [*, b_si, d_si, byteRows_eq, ints_y]; done)), (by first | exact True.intro | with_reducible rfl | with_reducible assumption | omega | (simp only [decide_eq_true_eq] at *; omega) | (simp only [List.length_map]; omega) | (simp; omega) | (simp [List.take_of_length_le]; done) | assumption | trivial | (simp [*, b_si, d_si, byteRows_eq, ints_y]; done)), (by first | (rw [List.getElem?_map, Hv0_34_0]; rfl) | (rw [Nat.zero_add, List.getElem?_map, Hv0_34_0]; rfl) | exact True.intro | with_reducible rfl | with_reducible assumption | omega | (simp only [List.length_map, List.length_set, List.length_append, List.length_replicate, List.length_cons, List.length_nil]; omega) | (simp; done) | (simp; omega) | (simp [List.take_of_length_le]; done) | (simp [← List.map_take, ← List.map_drop]; done) | assumption | trivial | (simp [*, b_si, d_si, byteRows_eq, ints_y]; done)), (by first | rfl | (simp [byteRows_eq, ints_y, List.take_of_length_le, d_si, d_LsiE, d_i, d_b, d_iLsiE, d_s, d_y, fromBR_si, fromBR_i, fromBR_b, fromBR_s, fromBR_y]; done) | (simp [List.map_set, List.map_take, List.map_drop, byteRows_eq, ints_y, List.take_of_length_le, d_si, d_LsiE, d_i, d_b, d_iLsiE, d_s, d_y, fromBR_si, fromBR_i, fromBR_b, fromBR_s, fromBR_y]; done)), trivial, (by first | exact True.intro | with_reducible rfl | with_reducible assumption | omega | (unfold m75; (repeat' split) <;> simp_all <;> omega) | (simp only [decide_eq_true_eq] at *; omega) | (simp only [List.length_map, List.length_set]; omega) | (simp; omega) | (simp [List.take_of_length_le]; done) | assumption | trivial | (simp [*, b_si, d_si, byteRows_eq, ints_y]; done)), (by first | exact True.intro | with_reducible rfl | with_reducible assumption | omega | (simp only [decide_eq_true_eq] at *; omega) | (simp only [List.length_map]; omega) | (simp; omega) | (simp [List.take_of_length_le]; done) | assumption | trivial | (simp [*, b_si, d_si, byteRows_eq, ints_y]; done)), (by first | (rw [List.map_set, List.getElem?_set_self (by simp only [List.length_map]; omega)]; rfl) | (rw [Nat.zero_add, List.map_set, List.getElem?_set_self (by simp only [List.length_map]; omega)]; rfl) | (rw [List.getElem?_set_self (by simp only [List.length_map]; omega)]; rfl) | (rw [Nat.zero_add, List.getElem?_set_self (by simp only [List.length_map]; omega)]; rfl)), (by first | rfl | (simp [byteRows_eq, ints_y, List.take_of_length_le, d_si, d_LsiE, d_i, d_b, d_iLsiE, d_s, d_y, fromBR_si, fromBR_i, fromBR_b, fromBR_s, fromBR_y]; done) | (simp [List.map_set, List.map_take, List.map_drop, byteRows_eq, ints_y, List.take_of_length_le, d_si, d_LsiE, d_i, d_b, d_iLsiE, d_s, d_y, fromBR_si, fromBR_i, fromBR_b, fromBR_s, fromBR_y]; done)), trivial, trivial, trivial⟩
    have ih := t34_0 (a0 := a0) (a1 := a1) hy0 l0_34_0 (p_34_0 ++ [x0_34_0]) (List.set v0_34_0 (Int.toNat (List.length p_34_0 : Int)) (K_si.mk (m75 v1_34_0) (IntKind.wrap .i64 (v1_34_0 + 1)))) (IntKind.wrap .i64 ((IntKind.wrap .i64 (v1_34_0 + 1)) + 1)) (by rw [List.append_assoc]; exact hp0) (by first | omega | (simp only [List.length_map, List.length_set, List.length_append, List.length_replicate, List.length_cons, List.length_nil]; omega) | (simp only [List.length_map, List.length_set, List.length_append, List.length_replicate, List.length_cons, List.length_nil]; assumption) | assumption | (simp only [List.length_map, List.length_set, List.length_append, List.length_replicate, List.length_cons, List.length_nil] at *; omega)) (by simp only [List.length_map, List.length_set, List.length_append, List.length_replicate, List.length_cons, List.length_nil, Int.toNat_natCast]; first | exact drop_set_next hi1 _ | exact drop_next hi1)
    rw [show ((p_34_0 ++ [x0_34_0]).length : Int) = (p_34_0.length : Int) + 1 from by simp] at ih
    rw [show (⟨[(0, (.one (.ref ⟨(0, 0, 0), [], 0, (List.length (List.map d_si a0))⟩))), (1, (.one (.val (.int .i64 (IntKind.wrap .i64 ((IntKind.wrap .i64 (v1_34_0 + 1)) + 1)))))), (5, (.one (.val (.int .i64 (IntKind.wrap .i64 ((List.length p_34_0 : Int) + 1))))))], [((0, 0, 0), .live ⟨2, (List.map d_si (List.set v0_34_0 (Int.toNat (List.length p_34_0 : Int)) (K_si.mk (m75 v1_34_0) (IntKind.wrap .i64 (v1_34_0 + 1))))), []⟩)]⟩ : St) = h34_0 a0 a1 ((List.length p_34_0 : Int) + 1) (List.set v0_34_0 (Int.toNat (List.length p_34_0 : Int)) (K_si.mk (m75 v1_34_0) (IntKind.wrap .i64 (v1_34_0 + 1)))) (IntKind.wrap .i64 ((IntKind.wrap .i64 (v1_34_0 + 1)) + 1)) from by first | (unfold h34_0; simp only [hw]; done) | (unfold h34_0; simp only [hw, List.length_map, List.length_set, List.length_append, List.length_replicate, List.length_cons, List.length_nil]; done) | (unfold h34_0; simp [hw, byteRows_eq, ints_y, List.take_of_length_le, d_si, d_LsiE, d_i, d_b, d_iLsiE, d_s, d_y, fromBR_si, fromBR_i, fromBR_b, fromBR_s, fromBR_y]; done)] at st
    exact .loopN st ih
def post34_0 (n0 : Nat) : O34_0 → Prop
  | .k0 w0 _ _ _ => List.length w0 = n0
theorem z34_0 {a0 : (List K_si)} : ∀ (l0_34_0 : List K_si) (i_34_0 : Int) (v0_34_0 : List K_si) (v1_34_0 : Int), post34_0 (List.length v0_34_0) (r34_0 a0 l0_34_0 i_34_0 v0_34_0 v1_34_0)
  | [], i_34_0, v0_34_0, v1_34_0 => by
    first | trivial | (simp only [post34_0, List.length_nil, Nat.add_zero]; done) | (simp [post34_0]; done)
  | x0_34_0 :: l0_34_0, i_34_0, v0_34_0, v1_34_0 => by
    simp only [r34_0]
    have z := z34_0 (a0 := a0) l0_34_0 (i_34_0 + 1) (List.set v0_34_0 (Int.toNat i_34_0) (K_si.mk (m75 v1_34_0) (IntKind.wrap .i64 (v1_34_0 + 1)))) (IntKind.wrap .i64 ((IntKind.wrap .i64 (v1_34_0 + 1)) + 1))
    rw [show (List.length v0_34_0) = (List.length (List.set v0_34_0 (Int.toNat i_34_0) (K_si.mk (m75 v1_34_0) (IntKind.wrap .i64 (v1_34_0 + 1))))) from by first | omega | (simp only [List.length_map, List.length_set, List.length_append, List.length_replicate, List.length_cons, List.length_nil]; done) | (simp only [List.length_map, List.length_set, List.length_append, List.length_replicate, List.length_cons, List.length_nil]; omega)]
    exact z
/-! loop.example/g00539/laws.markWeightS -/
def o34_0 (a0 : (List K_si)) (a1 : Int) : List K_si :=
  (match r34_0 a0 a0 0 a0 a1 with | .k0 w0_34_0_0 w1_34_0_0 w2_34_0_0 w3_34_0_0 => w0_34_0_0)
def m34 (a0 : (List K_si)) (a1 : Int) : Int :=
  (match r34_0 a0 a0 0 a0 a1 with | .k0 w0_34_0_0 w1_34_0_0 w2_34_0_0 w3_34_0_0 => w1_34_0_0)
theorem e34 {a0 : (List K_si)} {a1 : Int} (hy0 : List.length a0 * 24 ≤ 140737488351232) : Ev F X (.call 34 [(.one (.ref ⟨(0, 0, 0), [], 0, (List.length (List.map d_si a0))⟩)), (.one (.val (.int .i64 a1)))] [((0, 0, 0), ⟨2, (List.map d_si a0), []⟩)] [(List.map d_si (o34_0 a0 a1))] [(.one (.val (.int .i64 (m34 a0 a1))))]) := by
  unfold m34 o34_0
  cases h0 : r34_0 a0 a0 0 a0 a1 with
  | k0 w0_34_0_0 w1_34_0_0 w2_34_0_0 w3_34_0_0 =>
    try dsimp only
    have zh0 := z34_0 (a0 := a0) a0 0 a0 a1; rw [h0] at zh0; simp only [post34_0, List.length_map, List.length_set, List.length_append, List.length_replicate, List.length_cons, List.length_nil, Int.toNat_natCast] at zh0
    have f0 : (⟨[(0, (.one (.ref ⟨(0, 0, 0), [], 0, (List.length (List.map d_si a0))⟩))), (1, (.one (.val (.int .i64 a1)))), (5, (.one (.val (.int .i64 0))))], [((0, 0, 0), .live ⟨2, (List.map d_si a0), []⟩)]⟩ : St) = h34_0 a0 a1 0 a0 a1 := (by first | rfl | (unfold h34_0; simp [byteRows_eq, ints_y, List.take_of_length_le, d_si, d_LsiE, d_i, d_b, d_iLsiE, d_s, d_y, fromBR_si, fromBR_i, fromBR_b, fromBR_s, fromBR_y]; done))
    have f1 : Ev F X (.code l34_0 (h34_0 a0 a1 0 a0 a1) (.exit 0) ⟨[(0, (.one (.ref ⟨(0, 0, 0), [], 0, (List.length (List.map d_si a0))⟩))), (1, (.one (.val (.int .i64 w1_34_0_0)))), (5, (.one (.val (.int .i64 w2_34_0_0)))), (9, (.one (.val (.bool w3_34_0_0))))], [((0, 0, 0), .live ⟨2, (List.map d_si w0_34_0_0), []⟩)]⟩) := (by have t : Ev F X (.code l34_0 (h34_0 a0 a1 0 a0 a1) (ex34_0 (r34_0 a0 a0 0 a0 a1)) (fin34_0 a0 a1 (r34_0 a0 a0 0 a0 a1))) := t34_0 (a0 := a0) (a1 := a1) (by first | assumption | omega) a0 [] a0 a1 rfl (by first | rfl | omega | (simp only [List.length_map, List.length_set, List.length_append, List.length_replicate, List.length_cons, List.length_nil]; done) | (simp only [List.length_map, List.length_set, List.length_append, List.length_replicate, List.length_cons, List.length_nil]; omega) | (simp; done)) (by first | rfl | omega | (simp only [List.length_map, List.length_set, List.length_append, List.length_replicate, List.length_cons, List.length_nil]; done) | (simp only [List.length_map, List.length_set, List.length_append, List.length_replicate, List.length_cons, List.length_nil]; omega) | (simp; done)); rw [h0] at t; exact t)
    have f2 : pureR (List.map d_si w0_34_0_0) = true := (pureR_si _)
    exact callP_ok (ps := [true]) (os := [(List.map d_si w0_34_0_0)]) (rs := [(.one (.val (.int .i64 w1_34_0_0)))]) (by kernel_rfl) (.f f0 (.f f1 (.f f2 (.h 4 (.loop (h34_0 a0 a1 0 a0 a1) (.exit 0) ⟨[(0, (.one (.ref ⟨(0, 0, 0), [], 0, (List.length (List.map d_si a0))⟩))), (1, (.one (.val (.int .i64 w1_34_0_0)))), (5, (.one (.val (.int .i64 w2_34_0_0)))), (9, (.one (.val (.bool w3_34_0_0))))], [((0, 0, 0), .live ⟨2, (List.map d_si w0_34_0_0), []⟩)]⟩) .nil))))
theorem ow34_0 (a0 : List K_si) : ∀ (l p : List K_si) (v1_34_0 : Int), ∃ (q : List K_si) (w1 : _) (w2 : _) (w3 : _), r34_0 a0 l (p.length : Int) (p ++ l) v1_34_0 = .k0 (p ++ q) w1 w2 w3 ∧ q.length = l.length
  | [], p, v1_34_0 => ⟨[], v1_34_0, (p.length : Int), (decide ((p.length : Int) < ((List.length (List.map d_si a0)) : Int))), rfl, rfl⟩
  | x0_34_0 :: l, p, v1_34_0 => by
    obtain ⟨q, w1, w2, w3, e1, e2⟩ := ow34_0 a0 l (p ++ [(K_si.mk (m75 v1_34_0) (IntKind.wrap .i64 (v1_34_0 + 1)))]) (IntKind.wrap .i64 ((IntKind.wrap .i64 (v1_34_0 + 1)) + 1))
    refine ⟨(K_si.mk (m75 v1_34_0) (IntKind.wrap .i64 (v1_34_0 + 1))) :: q, w1, w2, w3, ?_, by simp [e2]⟩
    · have e : List.set (p ++ x0_34_0 :: l) (Int.toNat (p.length : Int)) (K_si.mk (m75 v1_34_0) (IntKind.wrap .i64 (v1_34_0 + 1))) = (p ++ [(K_si.mk (m75 v1_34_0) (IntKind.wrap .i64 (v1_34_0 + 1)))]) ++ l := by simp
      have e0 : ((p ++ [(K_si.mk (m75 v1_34_0) (IntKind.wrap .i64 (v1_34_0 + 1)))]).length : Int) = (p.length : Int) + 1 := by simp
      rw [e0] at e1
      simp only [r34_0]
      first | (rw [e, e1]; simp; done) | (simp only [e, e1]; simp; done)

theorem ol34 (a : List K_si) (k : Int) : (o34_0 a k).length = a.length := by
  obtain ⟨q, w1, w2, w3, e1, e2⟩ := ow34_0 a a [] k
  simp only [List.nil_append, List.length_nil] at e1
  rw [show ((0 : Nat) : Int) = 0 from rfl] at e1
  unfold o34_0
  rw [e1]; exact e2
/-! loop.example/g00539/laws.markWeightsResult -/
def o35_0 (a0 : K_iLsiE) (a1 : Int) : List K_si :=
  (o34_0 a0.f1 a1)
def m35 (a0 : K_iLsiE) (a1 : Int) : Int :=
  (m34 a0.f1 a1)
theorem e35 {a0 : K_iLsiE} {a1 : Int} (hy0 : List.length a0.f1 * 24 ≤ 140737488351232) : Ev F X (.call 35 [(.agg [(.val (.int .i64 a0.f0)), (.ref ⟨(0, 0, 0), [], 0, (List.length (List.map d_si a0.f1))⟩)]), (.one (.val (.int .i64 a1)))] [((0, 0, 0), ⟨2, (List.map d_si a0.f1), []⟩)] [(List.map d_si (o35_0 a0 a1))] [(.one (.val (.int .i64 (m35 a0 a1))))]) := by
  have f0 : 0 = 0 := rfl
  have f1 : (List.length (List.map d_si a0.f1)) = (List.length (List.map d_si a0.f1)) := rfl
  have f2 : pureR (List.map d_si a0.f1) = true := (pureR_si _)
  have f3 : Ev F X (.call 34 [(.one (.ref ⟨(0, 0, 0), [], 0, (List.length (List.map d_si a0.f1))⟩)), (.one (.val (.int .i64 a1)))] [((0, 0, 0), ⟨2, (List.map d_si a0.f1), []⟩)] [(List.map d_si (o34_0 a0.f1 a1))] [(.one (.val (.int .i64 (m34 a0.f1 a1))))]) := (e34 (a0 := a0.f1) (a1 := a1) (by first | with_reducible assumption | omega | assumption | (simp only [List.length_map]; omega) | (simp [ol34]; omega)))
  have f4 : pureR (List.map d_si (o34_0 a0.f1 a1)) = true := (pureR_si _)
  exact callP_ok (ps := [true]) (os := [(List.map d_si (o34_0 a0.f1 a1))]) (rs := [(.one (.val (.int .i64 (m34 a0.f1 a1))))]) (by kernel_rfl) (.f f0 (.f f1 (.f f2 (.r 11 [true] [] f3 (.f f4 .nil)))))
theorem ol35_0 (a : K_iLsiE) (k : Int) : (o35_0 a k).length = List.length a.f1 := by
  unfold o35_0
  simp [ol34]
/-! loop 76_0 -/
inductive O76_0 where
  | k0 (w0 : Int) (w1 : Int) (w2 : Bool)
  | k1
def r76_0 (a0 : (List K_si)) : List K_si → Int → Int → O76_0
  | x0_76_0 :: l0_76_0, i_76_0, v0_76_0 =>
    if (!(x0_76_0.f0.toList == (m75 v0_76_0).toList)) = true then (O76_0.k1) else
    if (x0_76_0.f1 != (IntKind.wrap .i64 (v0_76_0 + 1))) = true then (O76_0.k1) else
      (r76_0 a0 l0_76_0 (i_76_0 + 1) (IntKind.wrap .i64 ((IntKind.wrap .i64 (v0_76_0 + 1)) + 1)))
  | [], i_76_0, v0_76_0 => (O76_0.k0 v0_76_0 i_76_0 (decide (i_76_0 < ((List.length (List.map b_si a0)) : Int))))
def h76_0 (l0_0 : Nat) (a0 : (List K_si)) (a1 : Int) (i_76_0 : Int) (v0_76_0 : Int) : St := ⟨[(0, (.one (.bor l0_0 (List.map b_si a0)))), (1, (.one (.val (.int .i64 v0_76_0)))), (5, (.one (.val (.int .i64 i_76_0))))], []⟩
def ex76_0 : O76_0 → VX.Exit
  | .k0 _ _ _ => (.exit 0)
  | .k1 => .ret
def fin76_0 (l0_0 : Nat) (a0 : (List K_si)) (a1 : Int) : O76_0 → St
  | .k0 w0 w1 w2 => ⟨[(0, (.one (.bor l0_0 (List.map b_si a0)))), (1, (.one (.val (.int .i64 w0)))), (5, (.one (.val (.int .i64 w1)))), (9, (.one (.val (.bool w2))))], []⟩
  | .k1 => ⟨[(4, (.one (.val (.int .i64 (-1)))))], []⟩
theorem t76_0 {l0_0 : Nat} {a0 : (List K_si)} {a1 : Int} (hy0 : List.length a0 * 24 ≤ 140737488351232) : ∀ (l0_76_0 : List K_si) (p_76_0 : List K_si) (v0_76_0 : Int), p_76_0 ++ l0_76_0 = a0 → Ev F X (.code l76_0 (h76_0 l0_0 a0 a1 (List.length p_76_0 : Int) v0_76_0) (ex76_0 (r76_0 a0 l0_76_0 (List.length p_76_0 : Int) v0_76_0)) (fin76_0 l0_0 a0 a1 (r76_0 a0 l0_76_0 (List.length p_76_0 : Int) v0_76_0)))
  | [], p_76_0, v0_76_0, hp0 => by
    have hc : ¬ (decide ((List.length p_76_0 : Int) < ((List.length (List.map b_si a0)) : Int))) = true := by
      rw [← hp0]; simp only [List.length_map, List.length_set, List.length_append, List.length_replicate, List.length_cons, List.length_nil, decide_eq_true_eq]; omega
    have st := codeH_ok (F := F) (X := X) (c := b76_0) (t := 0) (hs := [(8, .b false)]) (σ := h76_0 l0_0 a0 a1 (List.length p_76_0 : Int) v0_76_0) (σ' := ⟨[(0, (.one (.bor l0_0 (List.map b_si a0)))), (1, (.one (.val (.int .i64 v0_76_0)))), (5, (.one (.val (.int .i64 (List.length p_76_0 : Int))))), (9, (.one (.val (.bool (decide ((List.length p_76_0 : Int) < ((List.length (List.map b_si a0)) : Int)))))))], []⟩) (e := (.exit 0)) (t' := 9) (hs' := []) (q := [(decide ((List.length p_76_0 : Int) < ((List.length (List.map b_si a0)) : Int))) = false]) (by kernel_rfl) ⟨(nt hc), trivial⟩
    rw [show (⟨[(0, (.one (.bor l0_0 (List.map b_si a0)))), (1, (.one (.val (.int .i64 v0_76_0)))), (5, (.one (.val (.int .i64 (List.length p_76_0 : Int))))), (9, (.one (.val (.bool (decide ((List.length p_76_0 : Int) < ((List.length (List.map b_si a0)) : Int)))))))], []⟩ : St) = fin76_0 l0_0 a0 a1 (.k0 v0_76_0 (List.length p_76_0 : Int) (decide ((List.length p_76_0 : Int) < ((List.length (List.map b_si a0)) : Int)))) from by first | rfl | (unfold fin76_0; simp [byteRows_eq, ints_y, List.take_of_length_le, d_si, d_LsiE, d_i, d_b, d_iLsiE, d_s, d_y, fromBR_si, fromBR_i, fromBR_b, fromBR_s, fromBR_y, ol34, ol35_0]; done)] at st
    exact .loopX st (show ((.exit 0) : VX.Exit) ≠ .normal from by simp)
  | x0_76_0 :: l0_76_0, p_76_0, v0_76_0, hp0 => by
    have hc : (decide ((List.length p_76_0 : Int) < ((List.length (List.map b_si a0)) : Int))) = true := by
      rw [← hp0]; simp only [List.length_map, List.length_set, List.length_append, List.length_replicate, List.length_cons, List.length_nil, decide_eq_true_eq]; omega
    have Hx0_76_0 : (a0)[Int.toNat (List.length p_76_0 : Int)]? = some x0_76_0 := by
      rw [← hp0, Int.toNat_natCast]; simp
    have hlen : List.length (a0) = List.length p_76_0 + List.length l0_76_0 + 1 := by rw [← hp0]; simp; omega
    have hw : IntKind.wrap .i64 ((List.length p_76_0 : Int) + 1) = (List.length p_76_0 : Int) + 1 := wrap64 (by omega)
    simp only [r76_0]
    by_cases h_76_0_1 : (!(x0_76_0.f0.toList == (m75 v0_76_0).toList)) = true
    · try simp only [if_pos h_76_0_1]
      have st := codeH_ok (F := F) (X := X) (c := b76_0) (t := 0) (hs := [(8, .b true), (14, .row [(.val (.string x0_76_0.f0)), (.val (.int .i64 x0_76_0.f1))]), (22, .ret [] [(.one (.val (.string (m75 v0_76_0))))] [] []), (25, .b true)]) (σ := h76_0 l0_0 a0 a1 (List.length p_76_0 : Int) v0_76_0) (σ' := ⟨[(4, (.one (.val (.int .i64 (-1)))))], []⟩) (e := .ret) (t' := 28) (hs' := []) (q := [(decide ((List.length p_76_0 : Int) < ((List.length (List.map b_si a0)) : Int))) = true, 0 ≤ (List.length p_76_0 : Int), (List.map b_si a0)[(Int.toNat (List.length p_76_0 : Int))]? = some [(.val (.string x0_76_0.f0)), (.val (.int .i64 x0_76_0.f1))], Ev F X (.call 75 [(.one (.val (.int .i64 v0_76_0)))] [] [] [(.one (.val (.string (m75 v0_76_0))))]), (!(x0_76_0.f0.toList == (m75 v0_76_0).toList)) = true]) (by kernel_rfl) ⟨hc, (by first | exact True.intro | with_reducible rfl | with_reducible assumption | omega | (simp only [decide_eq_true_eq] at *; omega) | (simp only [List.length_map, List.length_set, List.length_append, List.length_replicate, List.length_cons, List.length_nil]; omega) | (simp [ol34, ol35_0]; omega) | (simp [List.take_of_length_le, ol34, ol35_0]; done) | assumption | trivial | (simp [*, ol34, ol35_0, byteRows_eq, ints_y]; done)), (by first | (rw [List.getElem?_map, Hx0_76_0]; rfl) | (rw [Nat.zero_add, List.getElem?_map, Hx0_76_0]; rfl) | exact True.intro | with_reducible rfl | with_reducible assumption | omega | (simp only [List.length_map, List.length_set, List.length_append, List.length_replicate, List.length_cons, List.length_nil]; omega) | (simp [ol34, ol35_0]; done) | (simp [ol34, ol35_0]; omega) | (simp [List.take_of_length_le, ol34, ol35_0]; done) | (simp [← List.map_take, ← List.map_drop, ol34, ol35_0]; done) | assumption | trivial | (simp [*, ol34, ol35_0, b_si, d_si, byteRows_eq, ints_y]; done)), (e75 (a0 := v0_76_0)), h_76_0_1, trivial⟩
      rw [show (⟨[(4, (.one (.val (.int .i64 (-1)))))], []⟩ : St) = fin76_0 l0_0 a0 a1 (.k1) from by first | rfl | (unfold fin76_0; simp [byteRows_eq, ints_y, List.take_of_length_le, d_si, d_LsiE, d_i, d_b, d_iLsiE, d_s, d_y, fromBR_si, fromBR_i, fromBR_b, fromBR_s, fromBR_y, ol34, ol35_0]; done)] at st
      exact .loopX st (show (.ret : VX.Exit) ≠ .normal from by simp)
    · try simp only [if_neg h_76_0_1]
      by_cases h_76_0_2 : (x0_76_0.f1 != (IntKind.wrap .i64 (v0_76_0 + 1))) = true
      · try simp only [if_pos h_76_0_2]
        have st := codeH_ok (F := F) (X := X) (c := b76_0) (t := 0) (hs := [(8, .b true), (14, .row [(.val (.string x0_76_0.f0)), (.val (.int .i64 x0_76_0.f1))]), (22, .ret [] [(.one (.val (.string (m75 v0_76_0))))] [] []), (25, .b false), (37, .row [(.val (.string x0_76_0.f0)), (.val (.int .i64 x0_76_0.f1))]), (46, .b true)]) (σ := h76_0 l0_0 a0 a1 (List.length p_76_0 : Int) v0_76_0) (σ' := ⟨[(4, (.one (.val (.int .i64 (-1)))))], []⟩) (e := .ret) (t' := 49) (hs' := []) (q := [(decide ((List.length p_76_0 : Int) < ((List.length (List.map b_si a0)) : Int))) = true, 0 ≤ (List.length p_76_0 : Int), (List.map b_si a0)[(Int.toNat (List.length p_76_0 : Int))]? = some [(.val (.string x0_76_0.f0)), (.val (.int .i64 x0_76_0.f1))], Ev F X (.call 75 [(.one (.val (.int .i64 v0_76_0)))] [] [] [(.one (.val (.string (m75 v0_76_0))))]), (!(x0_76_0.f0.toList == (m75 v0_76_0).toList)) = false, True, 0 ≤ (List.length p_76_0 : Int), (List.map b_si a0)[(Int.toNat (List.length p_76_0 : Int))]? = some [(.val (.string x0_76_0.f0)), (.val (.int .i64 x0_76_0.f1))], (x0_76_0.f1 != (IntKind.wrap .i64 (v0_76_0 + 1))) = true]) (by kernel_rfl) ⟨hc, (by first | exact True.intro | with_reducible rfl | with_reducible assumption | omega | (simp only [decide_eq_true_eq] at *; omega) | (simp only [List.length_map, List.length_set, List.length_append, List.length_replicate, List.length_cons, List.length_nil]; omega) | (simp [ol34, ol35_0]; omega) | (simp [List.take_of_length_le, ol34, ol35_0]; done) | assumption | trivial | (simp [*, ol34, ol35_0, byteRows_eq, ints_y]; done)), (by first | (rw [List.getElem?_map, Hx0_76_0]; rfl) | (rw [Nat.zero_add, List.getElem?_map, Hx0_76_0]; rfl) | exact True.intro | with_reducible rfl | with_reducible assumption | omega | (simp only [List.length_map, List.length_set, List.length_append, List.length_replicate, List.length_cons, List.length_nil]; omega) | (simp [ol34, ol35_0]; done) | (simp [ol34, ol35_0]; omega) | (simp [List.take_of_length_le, ol34, ol35_0]; done) | (simp [← List.map_take, ← List.map_drop, ol34, ol35_0]; done) | assumption | trivial | (simp [*, ol34, ol35_0, b_si, d_si, byteRows_eq, ints_y]; done)), (e75 (a0 := v0_76_0)), (nt h_76_0_1), trivial, (by first | exact True.intro | with_reducible rfl | with_reducible assumption | omega | (simp only [decide_eq_true_eq] at *; omega) | (simp only [List.length_map, List.length_set, List.length_append, List.length_replicate, List.length_cons, List.length_nil]; omega) | (simp [ol34, ol35_0]; omega) | (simp [List.take_of_length_le, ol34, ol35_0]; done) | assumption | trivial | (simp [*, ol34, ol35_0, byteRows_eq, ints_y]; done)), (by first | (rw [List.getElem?_map, Hx0_76_0]; rfl) | (rw [Nat.zero_add, List.getElem?_map, Hx0_76_0]; rfl) | exact True.intro | with_reducible rfl | with_reducible assumption | omega | (simp only [List.length_map, List.length_set, List.length_append, List.length_replicate, List.length_cons, List.length_nil]; omega) | (simp [ol34, ol35_0]; done) | (simp [ol34, ol35_0]; omega) | (simp [List.take_of_length_le, ol34, ol35_0]; done) | (simp [← List.map_take, ← List.map_drop, ol34, ol35_0]; done) | assumption | trivial | (simp [*, ol34, ol35_0, b_si, d_si, byteRows_eq, ints_y]; done)), h_76_0_2, trivial⟩
        rw [show (⟨[(4, (.one (.val (.int .i64 (-1)))))], []⟩ : St) = fin76_0 l0_0 a0 a1 (.k1) from by first | rfl | (unfold fin76_0; simp [byteRows_eq, ints_y, List.take_of_length_le, d_si, d_LsiE, d_i, d_b, d_iLsiE, d_s, d_y, fromBR_si, fromBR_i, fromBR_b, fromBR_s, fromBR_y, ol34, ol35_0]; done)] at st
        exact .loopX st (show (.ret : VX.Exit) ≠ .normal from by simp)
      · try simp only [if_neg h_76_0_2]
        have st := codeH_ok (F := F) (X := X) (c := b76_0) (t := 0) (hs := [(8, .b true), (14, .row [(.val (.string x0_76_0.f0)), (.val (.int .i64 x0_76_0.f1))]), (22, .ret [] [(.one (.val (.string (m75 v0_76_0))))] [] []), (25, .b false), (37, .row [(.val (.string x0_76_0.f0)), (.val (.int .i64 x0_76_0.f1))]), (46, .b false)]) (σ := h76_0 l0_0 a0 a1 (List.length p_76_0 : Int) v0_76_0) (σ' := ⟨[(0, (.one (.bor l0_0 (List.map b_si a0)))), (1, (.one (.val (.int .i64 (IntKind.wrap .i64 ((IntKind.wrap .i64 (v0_76_0 + 1)) + 1)))))), (5, (.one (.val (.int .i64 (IntKind.wrap .i64 ((List.length p_76_0 : Int) + 1))))))], []⟩) (e := .normal) (t' := 59) (hs' := []) (q := [(decide ((List.length p_76_0 : Int) < ((List.length (List.map b_si a0)) : Int))) = true, 0 ≤ (List.length p_76_0 : Int), (List.map b_si a0)[(Int.toNat (List.length p_76_0 : Int))]? = some [(.val (.string x0_76_0.f0)), (.val (.int .i64 x0_76_0.f1))], Ev F X (.call 75 [(.one (.val (.int .i64 v0_76_0)))] [] [] [(.one (.val (.string (m75 v0_76_0))))]), (!(x0_76_0.f0.toList == (m75 v0_76_0).toList)) = false, True, 0 ≤ (List.length p_76_0 : Int), (List.map b_si a0)[(Int.toNat (List.length p_76_0 : Int))]? = some [(.val (.string x0_76_0.f0)), (.val (.int .i64 x0_76_0.f1))], (x0_76_0.f1 != (IntKind.wrap .i64 (v0_76_0 + 1))) = false, True, True]) (by kernel_rfl) ⟨hc, (by first | exact True.intro | with_reducible rfl | with_reducible assumption | omega | (simp only [decide_eq_true_eq] at *; omega) | (simp only [List.length_map, List.length_set, List.length_append, List.length_replicate, List.length_cons, List.length_nil]; omega) | (simp [ol34, ol35_0]; omega) | (simp [List.take_of_length_le, ol34, ol35_0]; done) | assumption | trivial | (simp [*, ol34, ol35_0, byteRows_eq, ints_y]; done)), (by first | (rw [List.getElem?_map, Hx0_76_0]; rfl) | (rw [Nat.zero_add, List.getElem?_map, Hx0_76_0]; rfl) | exact True.intro | with_reducible rfl | with_reducible assumption | omega | (simp only [List.length_map, List.length_set, List.length_append, List.length_replicate, List.length_cons, List.length_nil]; omega) | (simp [ol34, ol35_0]; done) | (simp [ol34, ol35_0]; omega) | (simp [List.take_of_length_le, ol34, ol35_0]; done) | (simp [← List.map_take, ← List.map_drop, ol34, ol35_0]; done) | assumption | trivial | (simp [*, ol34, ol35_0, b_si, d_si, byteRows_eq, ints_y]; done)), (e75 (a0 := v0_76_0)), (nt h_76_0_1), trivial, (by first | exact True.intro | with_reducible rfl | with_reducible assumption | omega | (simp only [decide_eq_true_eq] at *; omega) | (simp only [List.length_map, List.length_set, List.length_append, List.length_replicate, List.length_cons, List.length_nil]; omega) | (simp [ol34, ol35_0]; omega) | (simp [List.take_of_length_le, ol34, ol35_0]; done) | assumption | trivial | (simp [*, ol34, ol35_0, byteRows_eq, ints_y]; done)), (by first | (rw [List.getElem?_map, Hx0_76_0]; rfl) | (rw [Nat.zero_add, List.getElem?_map, Hx0_76_0]; rfl) | exact True.intro | with_reducible rfl | with_reducible assumption | omega | (simp only [List.length_map, List.length_set, List.length_append, List.length_replicate, List.length_cons, List.length_nil]; omega) | (simp [ol34, ol35_0]; done) | (simp [ol34, ol35_0]; omega) | (simp [List.take_of_length_le, ol34, ol35_0]; done) | (simp [← List.map_take, ← List.map_drop, ol34, ol35_0]; done) | assumption | trivial | (simp [*, ol34, ol35_0, b_si, d_si, byteRows_eq, ints_y]; done)), (nt h_76_0_2), trivial, trivial, trivial⟩
        have ih := t76_0 (l0_0 := l0_0) (a0 := a0) (a1 := a1) hy0 l0_76_0 (p_76_0 ++ [x0_76_0]) (IntKind.wrap .i64 ((IntKind.wrap .i64 (v0_76_0 + 1)) + 1)) (by rw [List.append_assoc]; exact hp0)
        rw [show ((p_76_0 ++ [x0_76_0]).length : Int) = (p_76_0.length : Int) + 1 from by simp] at ih
        rw [show (⟨[(0, (.one (.bor l0_0 (List.map b_si a0)))), (1, (.one (.val (.int .i64 (IntKind.wrap .i64 ((IntKind.wrap .i64 (v0_76_0 + 1)) + 1)))))), (5, (.one (.val (.int .i64 (IntKind.wrap .i64 ((List.length p_76_0 : Int) + 1))))))], []⟩ : St) = h76_0 l0_0 a0 a1 ((List.length p_76_0 : Int) + 1) (IntKind.wrap .i64 ((IntKind.wrap .i64 (v0_76_0 + 1)) + 1)) from by first | (unfold h76_0; simp only [hw]; done) | (unfold h76_0; simp only [hw, List.length_map, List.length_set, List.length_append, List.length_replicate, List.length_cons, List.length_nil]; done) | (unfold h76_0; simp [hw, byteRows_eq, ints_y, List.take_of_length_le, d_si, d_LsiE, d_i, d_b, d_iLsiE, d_s, d_y, fromBR_si, fromBR_i, fromBR_b, fromBR_s, fromBR_y, ol34, ol35_0]; done)] at st
        exact .loopN st ih
/-! loop.example/g00539/laws.heldWeightS -/
def m76 (a0 : (List K_si)) (a1 : Int) : Int :=
  (match r76_0 a0 a0 0 a1 with | .k0 w0_76_0_0 w1_76_0_0 w2_76_0_0 => w0_76_0_0 | .k1 => (-1))
theorem e76 {l0_0 : Nat} {a0 : (List K_si)} {a1 : Int} (hy0 : List.length a0 * 24 ≤ 140737488351232) : Ev F X (.call 76 [(.one (.bor l0_0 (List.map b_si a0))), (.one (.val (.int .i64 a1)))] [] [] [(.one (.val (.int .i64 (m76 a0 a1))))]) := by
  unfold m76
  cases h0 : r76_0 a0 a0 0 a1 with
  | k0 w0_76_0_0 w1_76_0_0 w2_76_0_0 =>
    try dsimp only
    have f0 : (⟨[(0, (.one (.bor l0_0 (List.map b_si a0)))), (1, (.one (.val (.int .i64 a1)))), (5, (.one (.val (.int .i64 0))))], []⟩ : St) = h76_0 l0_0 a0 a1 0 a1 := (by first | rfl | (unfold h76_0; simp [byteRows_eq, ints_y, List.take_of_length_le, d_si, d_LsiE, d_i, d_b, d_iLsiE, d_s, d_y, fromBR_si, fromBR_i, fromBR_b, fromBR_s, fromBR_y, ol34, ol35_0]; done))
    have f1 : Ev F X (.code l76_0 (h76_0 l0_0 a0 a1 0 a1) (.exit 0) ⟨[(0, (.one (.bor l0_0 (List.map b_si a0)))), (1, (.one (.val (.int .i64 w0_76_0_0)))), (5, (.one (.val (.int .i64 w1_76_0_0)))), (9, (.one (.val (.bool w2_76_0_0))))], []⟩) := (by have t : Ev F X (.code l76_0 (h76_0 l0_0 a0 a1 0 a1) (ex76_0 (r76_0 a0 a0 0 a1)) (fin76_0 l0_0 a0 a1 (r76_0 a0 a0 0 a1))) := t76_0 (l0_0 := l0_0) (a0 := a0) (a1 := a1) (by first | assumption | omega) a0 [] a1 rfl; rw [h0] at t; exact t)
    exact callP_ok (ps := []) (os := []) (rs := [(.one (.val (.int .i64 w0_76_0_0)))]) (by kernel_rfl) (.f f0 (.f f1 (.h 4 (.loop (h76_0 l0_0 a0 a1 0 a1) (.exit 0) ⟨[(0, (.one (.bor l0_0 (List.map b_si a0)))), (1, (.one (.val (.int .i64 w0_76_0_0)))), (5, (.one (.val (.int .i64 w1_76_0_0)))), (9, (.one (.val (.bool w2_76_0_0))))], []⟩) .nil)))
  | k1 =>
    try dsimp only
    have f0 : (⟨[(0, (.one (.bor l0_0 (List.map b_si a0)))), (1, (.one (.val (.int .i64 a1)))), (5, (.one (.val (.int .i64 0))))], []⟩ : St) = h76_0 l0_0 a0 a1 0 a1 := (by first | rfl | (unfold h76_0; simp [byteRows_eq, ints_y, List.take_of_length_le, d_si, d_LsiE, d_i, d_b, d_iLsiE, d_s, d_y, fromBR_si, fromBR_i, fromBR_b, fromBR_s, fromBR_y, ol34, ol35_0]; done))
    have f1 : Ev F X (.code l76_0 (h76_0 l0_0 a0 a1 0 a1) .ret ⟨[(4, (.one (.val (.int .i64 (-1)))))], []⟩) := (by have t : Ev F X (.code l76_0 (h76_0 l0_0 a0 a1 0 a1) (ex76_0 (r76_0 a0 a0 0 a1)) (fin76_0 l0_0 a0 a1 (r76_0 a0 a0 0 a1))) := t76_0 (l0_0 := l0_0) (a0 := a0) (a1 := a1) (by first | assumption | omega) a0 [] a1 rfl; rw [h0] at t; exact t)
    exact callP_ok (ps := []) (os := []) (rs := [(.one (.val (.int .i64 (-1))))]) (by kernel_rfl) (.f f0 (.f f1 (.h 4 (.loop (h76_0 l0_0 a0 a1 0 a1) .ret ⟨[(4, (.one (.val (.int .i64 (-1)))))], []⟩) .nil)))
/-! loop.example/g00539/laws.heldWeightsResult -/
def m36 (a0 : K_iLsiE) (a1 : Int) : Int :=
  if (decide ((m76 a0.f1 a1) < 0)) = true then (-1) else
  (m76 a0.f1 a1)
theorem e36 {l0_1 : Nat} {a0 : K_iLsiE} {a1 : Int} (hy0 : List.length a0.f1 * 24 ≤ 140737488351232) : Ev F X (.call 36 [(.agg [(.val (.int .i64 a0.f0)), (.bor l0_1 (List.map b_si a0.f1))]), (.one (.val (.int .i64 a1)))] [] [] [(.one (.val (.int .i64 (m36 a0 a1))))]) := by
  unfold m36
  have f0 : Ev F X (.call 76 [(.one (.bor (l0_1 + 1) (List.map b_si a0.f1))), (.one (.val (.int .i64 a1)))] [] [] [(.one (.val (.int .i64 (m76 a0.f1 a1))))]) := (e76 (a0 := a0.f1) (a1 := a1) (by first | with_reducible assumption | omega | assumption | (simp only [List.length_map]; omega) | (simp [ol34, ol35_0]; omega)))
  by_cases h0 : (decide ((m76 a0.f1 a1) < 0)) = true
  · try simp only [if_pos h0]
    exact callP_ok (ps := []) (os := []) (rs := [(.one (.val (.int .i64 (-1))))]) (by kernel_rfl) (.r 11 [] [] f0 (.f h0 (.h 18 (.b true) .nil)))
  · try simp only [if_neg h0]
    exact callP_ok (ps := []) (os := []) (rs := [(.one (.val (.int .i64 (m76 a0.f1 a1))))]) (by kernel_rfl) (.r 11 [] [] f0 (.f (nt h0) (.h 18 (.b false) .nil)))
end Go.Proofs.YtcbnpfnebinbkaaDoor.PushWeight
