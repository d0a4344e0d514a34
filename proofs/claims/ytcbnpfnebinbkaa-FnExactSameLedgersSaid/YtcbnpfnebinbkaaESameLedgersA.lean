/- What the functions compute. -/
import Derived.Test.YtcbnpfnebinbkaaTSameLedgers
import Derived.Test.YtcbnpfnebinbkaaVNum
import Derived.Test.YtcbnpfnebinbkaaVClone
import Derived.KernelRfl
namespace Go.Proofs.Ytcbnpfnebinbkaa.SameLedgers
open Go Go.Proofs.Ytcbnpfnebinbkaa.V
set_option linter.unusedVariables false
set_option linter.unusedSimpArgs false
def X : Ext := fun f args rs => False
structure K_si where
  f0 : ByteArray
  f1 : Int
def b_si (x : K_si) : List B := [(.val (.string x.f0)), (.val (.int .i64 x.f1))]
def d_si (x : K_si) : List D := [(.val (.string x.f0)), (.val (.int .i64 x.f1))]
theorem toBR_si : ∀ (l : List K_si), toBR (l.map d_si) = l.map b_si
  | [] => rfl
  | x :: l => by simp [toBR, toBL, toB, d_si, b_si, toBR_si l]
theorem fullR_si : ∀ (l : List K_si), fullR (l.map d_si) = true
  | [] => rfl
  | x :: l => by simp [fullR, fullL, full, d_si, fullR_si l]
theorem pureR_si : ∀ (l : List K_si), pureR (l.map d_si) = true
  | [] => rfl
  | x :: l => by simp [pureR, pureL, V.pure, d_si, pureR_si l]
theorem ft_si (a b : Nat) (l : List K_si) : fullR (List.take a (List.drop b (l.map d_si))) = true := by rw [← List.map_drop, ← List.map_take]; exact fullR_si _
theorem tb_si (l : List K_si) : toBR (List.take (l.map d_si).length (List.drop 0 (l.map d_si))) = l.map b_si := by rw [List.drop_zero, List.take_length]; exact toBR_si l
theorem lenB_si (l : List K_si) : ∀ r ∈ l.map b_si, r.length = 2 := by intro r h; obtain ⟨x, _, rfl⟩ := List.mem_map.1 h; rfl
theorem lenD_si (l : List K_si) : ∀ r ∈ l.map d_si, r.length = 2 := by intro r h; obtain ⟨x, _, rfl⟩ := List.mem_map.1 h; rfl
theorem fromBR_si (n : Nat) (l : List K_si) : fromBR n (l.map b_si) = l.map d_si := by simp [fromBR, b_si, d_si, fromB, Function.comp_def]
theorem copy_si (l : List K_si) : (l.map d_si).all (fun x => x.all copyable) = true := by simp [d_si, copyable, Function.comp_def]
theorem ct_si (a b : Nat) (l : List K_si) : ((List.take a (List.drop b (l.map d_si))).all fun x => x.all copyable) = true := by rw [← List.map_drop, ← List.map_take]; exact copy_si _
structure K_iiiLsiEi where
  f0 : Int
  f1 : Int
  f2 : Int
  f3 : (List K_si)
  f4 : Int
def b_iiiLsiEi (x : K_iiiLsiEi) : List B := [(.val (.int .i64 x.f0)), (.val (.int .i64 x.f1)), (.val (.int .i64 x.f2)), (.sl (List.map b_si x.f3)), (.val (.int .i64 x.f4))]
def d_iiiLsiEi (x : K_iiiLsiEi) : List D := [(.val (.int .i64 x.f0)), (.val (.int .i64 x.f1)), (.val (.int .i64 x.f2)), (.own 2 (List.map d_si x.f3)), (.val (.int .i64 x.f4))]
theorem toBR_iiiLsiEi : ∀ (l : List K_iiiLsiEi), toBR (l.map d_iiiLsiEi) = l.map b_iiiLsiEi
  | [] => rfl
  | x :: l => by simp [toBR, toBL, toB, d_iiiLsiEi, b_iiiLsiEi, toBR_iiiLsiEi l, toBR_si]
theorem fullR_iiiLsiEi : ∀ (l : List K_iiiLsiEi), fullR (l.map d_iiiLsiEi) = true
  | [] => rfl
  | x :: l => by simp [fullR, fullL, full, d_iiiLsiEi, fullR_iiiLsiEi l, fullR_si]
theorem pureR_iiiLsiEi : ∀ (l : List K_iiiLsiEi), pureR (l.map d_iiiLsiEi) = true
  | [] => rfl
  | x :: l => by simp [pureR, pureL, V.pure, d_iiiLsiEi, pureR_iiiLsiEi l, pureR_si]
theorem ft_iiiLsiEi (a b : Nat) (l : List K_iiiLsiEi) : fullR (List.take a (List.drop b (l.map d_iiiLsiEi))) = true := by rw [← List.map_drop, ← List.map_take]; exact fullR_iiiLsiEi _
theorem tb_iiiLsiEi (l : List K_iiiLsiEi) : toBR (List.take (l.map d_iiiLsiEi).length (List.drop 0 (l.map d_iiiLsiEi))) = l.map b_iiiLsiEi := by rw [List.drop_zero, List.take_length]; exact toBR_iiiLsiEi l
theorem lenB_iiiLsiEi (l : List K_iiiLsiEi) : ∀ r ∈ l.map b_iiiLsiEi, r.length = 5 := by intro r h; obtain ⟨x, _, rfl⟩ := List.mem_map.1 h; rfl
theorem lenD_iiiLsiEi (l : List K_iiiLsiEi) : ∀ r ∈ l.map d_iiiLsiEi, r.length = 5 := by intro r h; obtain ⟨x, _, rfl⟩ := List.mem_map.1 h; rfl
def ok_iiiLsiEi (x : K_iiiLsiEi) : Prop := (List.length x.f3 * 24 ≤ 140737488351232)
structure K_iiLsiELiiiLsiEiELsiEiii where
  f0 : Int
  f1 : Int
  f2 : (List K_si)
  f3 : (List K_iiiLsiEi)
  f4 : (List K_si)
  f5 : Int
  f6 : Int
  f7 : Int
def b_iiLsiELiiiLsiEiELsiEiii (x : K_iiLsiELiiiLsiEiELsiEiii) : List B := [(.val (.int .i64 x.f0)), (.val (.int .i64 x.f1)), (.sl (List.map b_si x.f2)), (.sl (List.map b_iiiLsiEi x.f3)), (.sl (List.map b_si x.f4)), (.val (.int .i64 x.f5)), (.val (.int .i64 x.f6)), (.val (.int .i64 x.f7))]
def d_iiLsiELiiiLsiEiELsiEiii (x : K_iiLsiELiiiLsiEiELsiEiii) : List D := [(.val (.int .i64 x.f0)), (.val (.int .i64 x.f1)), (.own 2 (List.map d_si x.f2)), (.own 5 (List.map d_iiiLsiEi x.f3)), (.own 2 (List.map d_si x.f4)), (.val (.int .i64 x.f5)), (.val (.int .i64 x.f6)), (.val (.int .i64 x.f7))]
theorem toBR_iiLsiELiiiLsiEiELsiEiii : ∀ (l : List K_iiLsiELiiiLsiEiELsiEiii), toBR (l.map d_iiLsiELiiiLsiEiELsiEiii) = l.map b_iiLsiELiiiLsiEiELsiEiii
  | [] => rfl
  | x :: l => by simp [toBR, toBL, toB, d_iiLsiELiiiLsiEiELsiEiii, b_iiLsiELiiiLsiEiELsiEiii, toBR_iiLsiELiiiLsiEiELsiEiii l, toBR_si, toBR_iiiLsiEi]
theorem fullR_iiLsiELiiiLsiEiELsiEiii : ∀ (l : List K_iiLsiELiiiLsiEiELsiEiii), fullR (l.map d_iiLsiELiiiLsiEiELsiEiii) = true
  | [] => rfl
  | x :: l => by simp [fullR, fullL, full, d_iiLsiELiiiLsiEiELsiEiii, fullR_iiLsiELiiiLsiEiELsiEiii l, fullR_si, fullR_iiiLsiEi]
theorem pureR_iiLsiELiiiLsiEiELsiEiii : ∀ (l : List K_iiLsiELiiiLsiEiELsiEiii), pureR (l.map d_iiLsiELiiiLsiEiELsiEiii) = true
  | [] => rfl
  | x :: l => by simp [pureR, pureL, V.pure, d_iiLsiELiiiLsiEiELsiEiii, pureR_iiLsiELiiiLsiEiELsiEiii l, pureR_si, pureR_iiiLsiEi]
theorem ft_iiLsiELiiiLsiEiELsiEiii (a b : Nat) (l : List K_iiLsiELiiiLsiEiELsiEiii) : fullR (List.take a (List.drop b (l.map d_iiLsiELiiiLsiEiELsiEiii))) = true := by rw [← List.map_drop, ← List.map_take]; exact fullR_iiLsiELiiiLsiEiELsiEiii _
theorem tb_iiLsiELiiiLsiEiELsiEiii (l : List K_iiLsiELiiiLsiEiELsiEiii) : toBR (List.take (l.map d_iiLsiELiiiLsiEiELsiEiii).length (List.drop 0 (l.map d_iiLsiELiiiLsiEiELsiEiii))) = l.map b_iiLsiELiiiLsiEiELsiEiii := by rw [List.drop_zero, List.take_length]; exact toBR_iiLsiELiiiLsiEiELsiEiii l
theorem lenB_iiLsiELiiiLsiEiELsiEiii (l : List K_iiLsiELiiiLsiEiELsiEiii) : ∀ r ∈ l.map b_iiLsiELiiiLsiEiELsiEiii, r.length = 8 := by intro r h; obtain ⟨x, _, rfl⟩ := List.mem_map.1 h; rfl
theorem lenD_iiLsiELiiiLsiEiELsiEiii (l : List K_iiLsiELiiiLsiEiELsiEiii) : ∀ r ∈ l.map d_iiLsiELiiiLsiEiELsiEiii, r.length = 8 := by intro r h; obtain ⟨x, _, rfl⟩ := List.mem_map.1 h; rfl
def ok_iiLsiELiiiLsiEiELsiEiii (x : K_iiLsiELiiiLsiEiELsiEiii) : Prop := (List.length x.f2 * 24 ≤ 140737488351232) ∧ (List.length x.f3 * 56 ≤ 140737488351232) ∧ (∀ z ∈ x.f3, ok_iiiLsiEi z) ∧ (List.length x.f4 * 24 ≤ 140737488351232)
def b_b (x : Bool) : List B := [(.val (.bool x))]
def d_b (x : Bool) : List D := [(.val (.bool x))]
theorem toBR_b : ∀ (l : List Bool), toBR (l.map d_b) = l.map b_b
  | [] => rfl
  | x :: l => by simp [toBR, toBL, toB, d_b, b_b, toBR_b l]
theorem fullR_b : ∀ (l : List Bool), fullR (l.map d_b) = true
  | [] => rfl
  | x :: l => by simp [fullR, fullL, full, d_b, fullR_b l]
theorem pureR_b : ∀ (l : List Bool), pureR (l.map d_b) = true
  | [] => rfl
  | x :: l => by simp [pureR, pureL, V.pure, d_b, pureR_b l]
theorem ft_b (a b : Nat) (l : List Bool) : fullR (List.take a (List.drop b (l.map d_b))) = true := by rw [← List.map_drop, ← List.map_take]; exact fullR_b _
theorem tb_b (l : List Bool) : toBR (List.take (l.map d_b).length (List.drop 0 (l.map d_b))) = l.map b_b := by rw [List.drop_zero, List.take_length]; exact toBR_b l
theorem lenB_b (l : List Bool) : ∀ r ∈ l.map b_b, r.length = 1 := by intro r h; obtain ⟨x, _, rfl⟩ := List.mem_map.1 h; rfl
theorem lenD_b (l : List Bool) : ∀ r ∈ l.map d_b, r.length = 1 := by intro r h; obtain ⟨x, _, rfl⟩ := List.mem_map.1 h; rfl
theorem fromBR_b (n : Nat) (l : List Bool) : fromBR n (l.map b_b) = l.map d_b := by simp [fromBR, b_b, d_b, fromB, Function.comp_def]
theorem copy_b (l : List Bool) : (l.map d_b).all (fun x => x.all copyable) = true := by simp [d_b, copyable, Function.comp_def]
theorem ct_b (a b : Nat) (l : List Bool) : ((List.take a (List.drop b (l.map d_b))).all fun x => x.all copyable) = true := by rw [← List.map_drop, ← List.map_take]; exact copy_b _
def b_i (x : Int) : List B := [(.val (.int .i64 x))]
def d_i (x : Int) : List D := [(.val (.int .i64 x))]
theorem toBR_i : ∀ (l : List Int), toBR (l.map d_i) = l.map b_i
  | [] => rfl
  | x :: l => by simp [toBR, toBL, toB, d_i, b_i, toBR_i l]
theorem fullR_i : ∀ (l : List Int), fullR (l.map d_i) = true
  | [] => rfl
  | x :: l => by simp [fullR, fullL, full, d_i, fullR_i l]
theorem pureR_i : ∀ (l : List Int), pureR (l.map d_i) = true
  | [] => rfl
  | x :: l => by simp [pureR, pureL, V.pure, d_i, pureR_i l]
theorem ft_i (a b : Nat) (l : List Int) : fullR (List.take a (List.drop b (l.map d_i))) = true := by rw [← List.map_drop, ← List.map_take]; exact fullR_i _
theorem tb_i (l : List Int) : toBR (List.take (l.map d_i).length (List.drop 0 (l.map d_i))) = l.map b_i := by rw [List.drop_zero, List.take_length]; exact toBR_i l
theorem lenB_i (l : List Int) : ∀ r ∈ l.map b_i, r.length = 1 := by intro r h; obtain ⟨x, _, rfl⟩ := List.mem_map.1 h; rfl
theorem lenD_i (l : List Int) : ∀ r ∈ l.map d_i, r.length = 1 := by intro r h; obtain ⟨x, _, rfl⟩ := List.mem_map.1 h; rfl
theorem fromBR_i (n : Nat) (l : List Int) : fromBR n (l.map b_i) = l.map d_i := by simp [fromBR, b_i, d_i, fromB, Function.comp_def]
theorem copy_i (l : List Int) : (l.map d_i).all (fun x => x.all copyable) = true := by simp [d_i, copyable, Function.comp_def]
theorem ct_i (a b : Nat) (l : List Int) : ((List.take a (List.drop b (l.map d_i))).all fun x => x.all copyable) = true := by rw [← List.map_drop, ← List.map_take]; exact copy_i _
def b_LsiE (x : (List K_si)) : List B := [(.sl (List.map b_si x))]
def d_LsiE (x : (List K_si)) : List D := [(.own 2 (List.map d_si x))]
theorem toBR_LsiE : ∀ (l : List (List K_si)), toBR (l.map d_LsiE) = l.map b_LsiE
  | [] => rfl
  | x :: l => by simp [toBR, toBL, toB, d_LsiE, b_LsiE, toBR_LsiE l, toBR_si]
theorem fullR_LsiE : ∀ (l : List (List K_si)), fullR (l.map d_LsiE) = true
  | [] => rfl
  | x :: l => by simp [fullR, fullL, full, d_LsiE, fullR_LsiE l, fullR_si]
theorem pureR_LsiE : ∀ (l : List (List K_si)), pureR (l.map d_LsiE) = true
  | [] => rfl
  | x :: l => by simp [pureR, pureL, V.pure, d_LsiE, pureR_LsiE l, pureR_si]
theorem ft_LsiE (a b : Nat) (l : List (List K_si)) : fullR (List.take a (List.drop b (l.map d_LsiE))) = true := by rw [← List.map_drop, ← List.map_take]; exact fullR_LsiE _
theorem tb_LsiE (l : List (List K_si)) : toBR (List.take (l.map d_LsiE).length (List.drop 0 (l.map d_LsiE))) = l.map b_LsiE := by rw [List.drop_zero, List.take_length]; exact toBR_LsiE l
theorem lenB_LsiE (l : List (List K_si)) : ∀ r ∈ l.map b_LsiE, r.length = 1 := by intro r h; obtain ⟨x, _, rfl⟩ := List.mem_map.1 h; rfl
theorem lenD_LsiE (l : List (List K_si)) : ∀ r ∈ l.map d_LsiE, r.length = 1 := by intro r h; obtain ⟨x, _, rfl⟩ := List.mem_map.1 h; rfl
def ok_LsiE (x : (List K_si)) : Prop := (List.length x * 24 ≤ 140737488351232)
def b_LiiiLsiEiE (x : (List K_iiiLsiEi)) : List B := [(.sl (List.map b_iiiLsiEi x))]
def d_LiiiLsiEiE (x : (List K_iiiLsiEi)) : List D := [(.own 5 (List.map d_iiiLsiEi x))]
theorem toBR_LiiiLsiEiE : ∀ (l : List (List K_iiiLsiEi)), toBR (l.map d_LiiiLsiEiE) = l.map b_LiiiLsiEiE
  | [] => rfl
  | x :: l => by simp [toBR, toBL, toB, d_LiiiLsiEiE, b_LiiiLsiEiE, toBR_LiiiLsiEiE l, toBR_iiiLsiEi]
theorem fullR_LiiiLsiEiE : ∀ (l : List (List K_iiiLsiEi)), fullR (l.map d_LiiiLsiEiE) = true
  | [] => rfl
  | x :: l => by simp [fullR, fullL, full, d_LiiiLsiEiE, fullR_LiiiLsiEiE l, fullR_iiiLsiEi]
theorem pureR_LiiiLsiEiE : ∀ (l : List (List K_iiiLsiEi)), pureR (l.map d_LiiiLsiEiE) = true
  | [] => rfl
  | x :: l => by simp [pureR, pureL, V.pure, d_LiiiLsiEiE, pureR_LiiiLsiEiE l, pureR_iiiLsiEi]
theorem ft_LiiiLsiEiE (a b : Nat) (l : List (List K_iiiLsiEi)) : fullR (List.take a (List.drop b (l.map d_LiiiLsiEiE))) = true := by rw [← List.map_drop, ← List.map_take]; exact fullR_LiiiLsiEiE _
theorem tb_LiiiLsiEiE (l : List (List K_iiiLsiEi)) : toBR (List.take (l.map d_LiiiLsiEiE).length (List.drop 0 (l.map d_LiiiLsiEiE))) = l.map b_LiiiLsiEiE := by rw [List.drop_zero, List.take_length]; exact toBR_LiiiLsiEiE l
theorem lenB_LiiiLsiEiE (l : List (List K_iiiLsiEi)) : ∀ r ∈ l.map b_LiiiLsiEiE, r.length = 1 := by intro r h; obtain ⟨x, _, rfl⟩ := List.mem_map.1 h; rfl
theorem lenD_LiiiLsiEiE (l : List (List K_iiiLsiEi)) : ∀ r ∈ l.map d_LiiiLsiEiE, r.length = 1 := by intro r h; obtain ⟨x, _, rfl⟩ := List.mem_map.1 h; rfl
def ok_LiiiLsiEiE (x : (List K_iiiLsiEi)) : Prop := (List.length x * 56 ≤ 140737488351232) ∧ (∀ z ∈ x, ok_iiiLsiEi z)
attribute [local simp] toBR_si fullR_si pureR_si lenB_si lenD_si fromBR_si copy_si toBR_iiiLsiEi fullR_iiiLsiEi pureR_iiiLsiEi lenB_iiiLsiEi lenD_iiiLsiEi toBR_iiLsiELiiiLsiEiELsiEiii fullR_iiLsiELiiiLsiEiELsiEiii pureR_iiLsiELiiiLsiEiELsiEiii lenB_iiLsiELiiiLsiEiELsiEiii lenD_iiLsiELiiiLsiEiELsiEiii toBR_b fullR_b pureR_b lenB_b lenD_b fromBR_b copy_b toBR_i fullR_i pureR_i lenB_i lenD_i fromBR_i copy_i toBR_LsiE fullR_LsiE pureR_LsiE lenB_LsiE lenD_LsiE toBR_LiiiLsiEiE fullR_LiiiLsiEiE pureR_LiiiLsiEiE lenB_LiiiLsiEiE lenD_LiiiLsiEiE

/-! loop.example/g00539/laws.szWeight -/
def m49 (a0 : K_si) (a1 : Int) : Int :=
  if (decide ((IntKind.wrap .i64 (a1 - (ByteArray.size a0.f0 : Int))) < 0)) = true then (-1) else
  (IntKind.wrap .i64 (a1 - (ByteArray.size a0.f0 : Int)))
theorem e49 {a0 : K_si} {a1 : Int} : Ev F X (.call 49 [(.agg [(.val (.string a0.f0)), (.val (.int .i64 a0.f1))]), (.one (.val (.int .i64 a1)))] [] [] [(.one (.val (.int .i64 (m49 a0 a1))))]) := by
  unfold m49
  by_cases h0 : (decide ((IntKind.wrap .i64 (a1 - (ByteArray.size a0.f0 : Int))) < 0)) = true
  · try simp only [if_pos h0]
    exact callP_ok (ps := []) (os := []) (rs := [(.one (.val (.int .i64 (-1))))]) (by kernel_rfl) (.f h0 (.h 20 (.b true) .nil))
  · try simp only [if_neg h0]
    exact callP_ok (ps := []) (os := []) (rs := [(.one (.val (.int .i64 (IntKind.wrap .i64 (a1 - (ByteArray.size a0.f0 : Int))))))]) (by kernel_rfl) (.f (nt h0) (.h 20 (.b false) .nil))
/-! loop 29_0 -/
inductive O29_0 where
  | k0 (w0 : Int) (w1 : Int) (w2 : Bool)
  | k1
def r29_0 (a0 : (List K_si)) : List K_si → Int → Int → O29_0
  | x0_29_0 :: l0_29_0, i_29_0, v0_29_0 =>
    if (decide ((m49 x0_29_0 v0_29_0) < 0)) = true then (O29_0.k1) else
    (r29_0 a0 l0_29_0 (i_29_0 + 1) (m49 x0_29_0 v0_29_0))
  | [], i_29_0, v0_29_0 => (O29_0.k0 v0_29_0 i_29_0 (decide (i_29_0 < ((List.length (List.map b_si a0)) : Int))))
def h29_0 (l0_0 : Nat) (a0 : (List K_si)) (a1 : Int) (i_29_0 : Int) (v0_29_0 : Int) : St := ⟨[(0, (.one (.bor l0_0 (List.map b_si a0)))), (1, (.one (.val (.int .i64 v0_29_0)))), (5, (.one (.val (.int .i64 i_29_0))))], []⟩
def ex29_0 : O29_0 → VX.Exit
  | .k0 _ _ _ => (.exit 0)
  | .k1 => .ret
def fin29_0 (l0_0 : Nat) (a0 : (List K_si)) (a1 : Int) : O29_0 → St
  | .k0 w0 w1 w2 => ⟨[(0, (.one (.bor l0_0 (List.map b_si a0)))), (1, (.one (.val (.int .i64 w0)))), (5, (.one (.val (.int .i64 w1)))), (15, (.one (.val (.bool w2))))], []⟩
  | .k1 => ⟨[(4, (.one (.val (.int .i64 (-1)))))], []⟩
theorem t29_0 {l0_0 : Nat} {a0 : (List K_si)} {a1 : Int} (hy0 : List.length a0 * 24 ≤ 140737488351232) : ∀ (l0_29_0 : List K_si) (p_29_0 : List K_si) (v0_29_0 : Int), p_29_0 ++ l0_29_0 = a0 → Ev F X (.code l29_0 (h29_0 l0_0 a0 a1 (List.length p_29_0 : Int) v0_29_0) (ex29_0 (r29_0 a0 l0_29_0 (List.length p_29_0 : Int) v0_29_0)) (fin29_0 l0_0 a0 a1 (r29_0 a0 l0_29_0 (List.length p_29_0 : Int) v0_29_0)))
  | [], p_29_0, v0_29_0, hp0 => by
    have hc : ¬ (decide ((List.length p_29_0 : Int) < ((List.length (List.map b_si a0)) : Int))) = true := by
      rw [← hp0]; simp only [List.length_map, List.length_set, List.length_append, List.length_replicate, List.length_cons, List.length_nil, decide_eq_true_eq]; omega
    have st := codeH_ok (F := F) (X := X) (c := b29_0) (t := 0) (hs := [(8, .b false)]) (σ := h29_0 l0_0 a0 a1 (List.length p_29_0 : Int) v0_29_0) (σ' := ⟨[(0, (.one (.bor l0_0 (List.map b_si a0)))), (1, (.one (.val (.int .i64 v0_29_0)))), (5, (.one (.val (.int .i64 (List.length p_29_0 : Int))))), (15, (.one (.val (.bool (decide ((List.length p_29_0 : Int) < ((List.length (List.map b_si a0)) : Int)))))))], []⟩) (e := (.exit 0)) (t' := 9) (hs' := []) (q := [(decide ((List.length p_29_0 : Int) < ((List.length (List.map b_si a0)) : Int))) = false]) (by kernel_rfl) ⟨(nt hc), trivial⟩
    rw [show (⟨[(0, (.one (.bor l0_0 (List.map b_si a0)))), (1, (.one (.val (.int .i64 v0_29_0)))), (5, (.one (.val (.int .i64 (List.length p_29_0 : Int))))), (15, (.one (.val (.bool (decide ((List.length p_29_0 : Int) < ((List.length (List.map b_si a0)) : Int)))))))], []⟩ : St) = fin29_0 l0_0 a0 a1 (.k0 v0_29_0 (List.length p_29_0 : Int) (decide ((List.length p_29_0 : Int) < ((List.length (List.map b_si a0)) : Int)))) from by first | rfl | (unfold fin29_0; simp [List.take_of_length_le, d_si, d_iiiLsiEi, d_iiLsiELiiiLsiEiELsiEiii, d_b, d_i, d_LsiE, d_LiiiLsiEiE, fromBR_si, fromBR_b, fromBR_i]; done)] at st
    exact .loopX st (show ((.exit 0) : VX.Exit) ≠ .normal from by simp)
  | x0_29_0 :: l0_29_0, p_29_0, v0_29_0, hp0 => by
    have hc : (decide ((List.length p_29_0 : Int) < ((List.length (List.map b_si a0)) : Int))) = true := by
      rw [← hp0]; simp only [List.length_map, List.length_set, List.length_append, List.length_replicate, List.length_cons, List.length_nil, decide_eq_true_eq]; omega
    have Hx0_29_0 : (a0)[Int.toNat (List.length p_29_0 : Int)]? = some x0_29_0 := by
      rw [← hp0, Int.toNat_natCast]; simp
    have hlen : List.length (a0) = List.length p_29_0 + List.length l0_29_0 + 1 := by rw [← hp0]; simp; omega
    have hw : IntKind.wrap .i64 ((List.length p_29_0 : Int) + 1) = (List.length p_29_0 : Int) + 1 := wrap64 (by omega)
    simp only [r29_0]
    by_cases h_29_0_1 : (decide ((m49 x0_29_0 v0_29_0) < 0)) = true
    · try simp only [if_pos h_29_0_1]
      have st := codeH_ok (F := F) (X := X) (c := b29_0) (t := 0) (hs := [(8, .b true), (14, .row [(.val (.string x0_29_0.f0)), (.val (.int .i64 x0_29_0.f1))]), (20, .ret [] [(.one (.val (.int .i64 (m49 x0_29_0 v0_29_0))))] [] []), (27, .b true)]) (σ := h29_0 l0_0 a0 a1 (List.length p_29_0 : Int) v0_29_0) (σ' := ⟨[(4, (.one (.val (.int .i64 (-1)))))], []⟩) (e := .ret) (t' := 30) (hs' := []) (q := [(decide ((List.length p_29_0 : Int) < ((List.length (List.map b_si a0)) : Int))) = true, 0 ≤ (List.length p_29_0 : Int), (List.map b_si a0)[(Int.toNat (List.length p_29_0 : Int))]? = some [(.val (.string x0_29_0.f0)), (.val (.int .i64 x0_29_0.f1))], Ev F X (.call 49 [(.agg [(.val (.string x0_29_0.f0)), (.val (.int .i64 x0_29_0.f1))]), (.one (.val (.int .i64 v0_29_0)))] [] [] [(.one (.val (.int .i64 (m49 x0_29_0 v0_29_0))))]), (decide ((m49 x0_29_0 v0_29_0) < 0)) = true]) (by kernel_rfl) ⟨hc, (by first | exact True.intro | with_reducible rfl | with_reducible assumption | omega | (simp only [List.length_map, List.length_set, List.length_append, List.length_replicate, List.length_cons, List.length_nil]; omega) | (simp; omega) | (simp [List.take_of_length_le]; done) | assumption | trivial | (simp [*]; done)), (by first | (rw [List.getElem?_map, Hx0_29_0]; rfl) | (rw [Nat.zero_add, List.getElem?_map, Hx0_29_0]; rfl) | exact True.intro | with_reducible rfl | with_reducible assumption | omega | (simp only [List.length_map, List.length_set, List.length_append, List.length_replicate, List.length_cons, List.length_nil]; omega) | (simp; done) | (simp; omega) | (simp [List.take_of_length_le]; done) | (simp [← List.map_take, ← List.map_drop]; done) | assumption | trivial | (simp [*, b_si, d_si]; done)), (e49 (a0 := x0_29_0) (a1 := v0_29_0)), h_29_0_1, trivial⟩
      rw [show (⟨[(4, (.one (.val (.int .i64 (-1)))))], []⟩ : St) = fin29_0 l0_0 a0 a1 (.k1) from by first | rfl | (unfold fin29_0; simp [List.take_of_length_le, d_si, d_iiiLsiEi, d_iiLsiELiiiLsiEiELsiEiii, d_b, d_i, d_LsiE, d_LiiiLsiEiE, fromBR_si, fromBR_b, fromBR_i]; done)] at st
      exact .loopX st (show (.ret : VX.Exit) ≠ .normal from by simp)
    · try simp only [if_neg h_29_0_1]
      have st := codeH_ok (F := F) (X := X) (c := b29_0) (t := 0) (hs := [(8, .b true), (14, .row [(.val (.string x0_29_0.f0)), (.val (.int .i64 x0_29_0.f1))]), (20, .ret [] [(.one (.val (.int .i64 (m49 x0_29_0 v0_29_0))))] [] []), (27, .b false)]) (σ := h29_0 l0_0 a0 a1 (List.length p_29_0 : Int) v0_29_0) (σ' := ⟨[(0, (.one (.bor l0_0 (List.map b_si a0)))), (1, (.one (.val (.int .i64 (m49 x0_29_0 v0_29_0))))), (5, (.one (.val (.int .i64 (IntKind.wrap .i64 ((List.length p_29_0 : Int) + 1))))))], []⟩) (e := .normal) (t' := 34) (hs' := []) (q := [(decide ((List.length p_29_0 : Int) < ((List.length (List.map b_si a0)) : Int))) = true, 0 ≤ (List.length p_29_0 : Int), (List.map b_si a0)[(Int.toNat (List.length p_29_0 : Int))]? = some [(.val (.string x0_29_0.f0)), (.val (.int .i64 x0_29_0.f1))], Ev F X (.call 49 [(.agg [(.val (.string x0_29_0.f0)), (.val (.int .i64 x0_29_0.f1))]), (.one (.val (.int .i64 v0_29_0)))] [] [] [(.one (.val (.int .i64 (m49 x0_29_0 v0_29_0))))]), (decide ((m49 x0_29_0 v0_29_0) < 0)) = false, True]) (by kernel_rfl) ⟨hc, (by first | exact True.intro | with_reducible rfl | with_reducible assumption | omega | (simp only [List.length_map, List.length_set, List.length_append, List.length_replicate, List.length_cons, List.length_nil]; omega) | (simp; omega) | (simp [List.take_of_length_le]; done) | assumption | trivial | (simp [*]; done)), (by first | (rw [List.getElem?_map, Hx0_29_0]; rfl) | (rw [Nat.zero_add, List.getElem?_map, Hx0_29_0]; rfl) | exact True.intro | with_reducible rfl | with_reducible assumption | omega | (simp only [List.length_map, List.length_set, List.length_append, List.length_replicate, List.length_cons, List.length_nil]; omega) | (simp; done) | (simp; omega) | (simp [List.take_of_length_le]; done) | (simp [← List.map_take, ← List.map_drop]; done) | assumption | trivial | (simp [*, b_si, d_si]; done)), (e49 (a0 := x0_29_0) (a1 := v0_29_0)), (nt h_29_0_1), trivial, trivial⟩
      have ih := t29_0 (l0_0 := l0_0) (a0 := a0) (a1 := a1) hy0 l0_29_0 (p_29_0 ++ [x0_29_0]) (m49 x0_29_0 v0_29_0) (by rw [List.append_assoc]; exact hp0)
      rw [show ((p_29_0 ++ [x0_29_0]).length : Int) = (p_29_0.length : Int) + 1 from by simp] at ih
      rw [show (⟨[(0, (.one (.bor l0_0 (List.map b_si a0)))), (1, (.one (.val (.int .i64 (m49 x0_29_0 v0_29_0))))), (5, (.one (.val (.int .i64 (IntKind.wrap .i64 ((List.length p_29_0 : Int) + 1))))))], []⟩ : St) = h29_0 l0_0 a0 a1 ((List.length p_29_0 : Int) + 1) (m49 x0_29_0 v0_29_0) from by first | (unfold h29_0; simp only [hw]; done) | (unfold h29_0; simp only [hw, List.length_map, List.length_set, List.length_append, List.length_replicate, List.length_cons, List.length_nil]; done) | (unfold h29_0; simp [hw, List.take_of_length_le, d_si, d_iiiLsiEi, d_iiLsiELiiiLsiEiELsiEiii, d_b, d_i, d_LsiE, d_LiiiLsiEiE, fromBR_si, fromBR_b, fromBR_i]; done)] at st
      exact .loopN st ih
/-! loop.example/g00539/laws.szWeightS -/
def m29 (a0 : (List K_si)) (a1 : Int) : Int :=
  if (decide ((IntKind.wrap .i64 (a1 - ((List.length (List.map b_si a0)) : Int))) < 0)) = true then (-1) else
  (match r29_0 a0 a0 0 (IntKind.wrap .i64 (a1 - ((List.length (List.map b_si a0)) : Int))) with | .k0 w0_29_0_1 w1_29_0_1 w2_29_0_1 => w0_29_0_1 | .k1 => (-1))
theorem e29 {l0_0 : Nat} {a0 : (List K_si)} {a1 : Int} (hy0 : List.length a0 * 24 ≤ 140737488351232) : Ev F X (.call 29 [(.one (.bor l0_0 (List.map b_si a0))), (.one (.val (.int .i64 a1)))] [] [] [(.one (.val (.int .i64 (m29 a0 a1))))]) := by
  unfold m29
  by_cases h0 : (decide ((IntKind.wrap .i64 (a1 - ((List.length (List.map b_si a0)) : Int))) < 0)) = true
  · try simp only [if_pos h0]
    exact callP_ok (ps := []) (os := []) (rs := [(.one (.val (.int .i64 (-1))))]) (by kernel_rfl) (.f h0 (.h 16 (.b true) .nil))
  · try simp only [if_neg h0]
    cases h1 : r29_0 a0 a0 0 (IntKind.wrap .i64 (a1 - ((List.length (List.map b_si a0)) : Int))) with
    | k0 w0_29_0_1 w1_29_0_1 w2_29_0_1 =>
      try dsimp only
      have f1 : (⟨[(0, (.one (.bor l0_0 (List.map b_si a0)))), (1, (.one (.val (.int .i64 (IntKind.wrap .i64 (a1 - ((List.length (List.map b_si a0)) : Int))))))), (5, (.one (.val (.int .i64 0))))], []⟩ : St) = h29_0 l0_0 a0 a1 0 (IntKind.wrap .i64 (a1 - ((List.length (List.map b_si a0)) : Int))) := (by first | rfl | (unfold h29_0; simp [List.take_of_length_le, d_si, d_iiiLsiEi, d_iiLsiELiiiLsiEiELsiEiii, d_b, d_i, d_LsiE, d_LiiiLsiEiE, fromBR_si, fromBR_b, fromBR_i]; done))
      have f2 : Ev F X (.code l29_0 (h29_0 l0_0 a0 a1 0 (IntKind.wrap .i64 (a1 - ((List.length (List.map b_si a0)) : Int)))) (.exit 0) ⟨[(0, (.one (.bor l0_0 (List.map b_si a0)))), (1, (.one (.val (.int .i64 w0_29_0_1)))), (5, (.one (.val (.int .i64 w1_29_0_1)))), (15, (.one (.val (.bool w2_29_0_1))))], []⟩) := (by have t : Ev F X (.code l29_0 (h29_0 l0_0 a0 a1 0 (IntKind.wrap .i64 (a1 - ((List.length (List.map b_si a0)) : Int)))) (ex29_0 (r29_0 a0 a0 0 (IntKind.wrap .i64 (a1 - ((List.length (List.map b_si a0)) : Int))))) (fin29_0 l0_0 a0 a1 (r29_0 a0 a0 0 (IntKind.wrap .i64 (a1 - ((List.length (List.map b_si a0)) : Int)))))) := t29_0 (l0_0 := l0_0) (a0 := a0) (a1 := a1) (by first | assumption | omega) a0 [] (IntKind.wrap .i64 (a1 - ((List.length (List.map b_si a0)) : Int))) rfl; rw [h1] at t; exact t)
      exact callP_ok (ps := []) (os := []) (rs := [(.one (.val (.int .i64 w0_29_0_1)))]) (by kernel_rfl) (.f (nt h0) (.f f1 (.f f2 (.h 16 (.b false) (.h 19 (.loop (h29_0 l0_0 a0 a1 0 (IntKind.wrap .i64 (a1 - ((List.length (List.map b_si a0)) : Int)))) (.exit 0) ⟨[(0, (.one (.bor l0_0 (List.map b_si a0)))), (1, (.one (.val (.int .i64 w0_29_0_1)))), (5, (.one (.val (.int .i64 w1_29_0_1)))), (15, (.one (.val (.bool w2_29_0_1))))], []⟩) .nil)))))
    | k1 =>
      try dsimp only
      have f1 : (⟨[(0, (.one (.bor l0_0 (List.map b_si a0)))), (1, (.one (.val (.int .i64 (IntKind.wrap .i64 (a1 - ((List.length (List.map b_si a0)) : Int))))))), (5, (.one (.val (.int .i64 0))))], []⟩ : St) = h29_0 l0_0 a0 a1 0 (IntKind.wrap .i64 (a1 - ((List.length (List.map b_si a0)) : Int))) := (by first | rfl | (unfold h29_0; simp [List.take_of_length_le, d_si, d_iiiLsiEi, d_iiLsiELiiiLsiEiELsiEiii, d_b, d_i, d_LsiE, d_LiiiLsiEiE, fromBR_si, fromBR_b, fromBR_i]; done))
      have f2 : Ev F X (.code l29_0 (h29_0 l0_0 a0 a1 0 (IntKind.wrap .i64 (a1 - ((List.length (List.map b_si a0)) : Int)))) .ret ⟨[(4, (.one (.val (.int .i64 (-1)))))], []⟩) := (by have t : Ev F X (.code l29_0 (h29_0 l0_0 a0 a1 0 (IntKind.wrap .i64 (a1 - ((List.length (List.map b_si a0)) : Int)))) (ex29_0 (r29_0 a0 a0 0 (IntKind.wrap .i64 (a1 - ((List.length (List.map b_si a0)) : Int))))) (fin29_0 l0_0 a0 a1 (r29_0 a0 a0 0 (IntKind.wrap .i64 (a1 - ((List.length (List.map b_si a0)) : Int)))))) := t29_0 (l0_0 := l0_0) (a0 := a0) (a1 := a1) (by first | assumption | omega) a0 [] (IntKind.wrap .i64 (a1 - ((List.length (List.map b_si a0)) : Int))) rfl; rw [h1] at t; exact t)
      exact callP_ok (ps := []) (os := []) (rs := [(.one (.val (.int .i64 (-1))))]) (by kernel_rfl) (.f (nt h0) (.f f1 (.f f2 (.h 16 (.b false) (.h 19 (.loop (h29_0 l0_0 a0 a1 0 (IntKind.wrap .i64 (a1 - ((List.length (List.map b_si a0)) : Int)))) .ret ⟨[(4, (.one (.val (.int .i64 (-1)))))], []⟩) .nil)))))
/-! loop.example/g00539/laws.szReward -/
def m50 (a0 : K_iiiLsiEi) (a1 : Int) : Int :=
  if (decide ((m29 a0.f3 a1) < 0)) = true then (-1) else
  (m29 a0.f3 a1)
theorem e50 {l0_3 : Nat} {a0 : K_iiiLsiEi} {a1 : Int} (hy0 : List.length a0.f3 * 24 ≤ 140737488351232) : Ev F X (.call 50 [(.agg [(.val (.int .i64 a0.f0)), (.val (.int .i64 a0.f1)), (.val (.int .i64 a0.f2)), (.bor l0_3 (List.map b_si a0.f3)), (.val (.int .i64 a0.f4))]), (.one (.val (.int .i64 a1)))] [] [] [(.one (.val (.int .i64 (m50 a0 a1))))]) := by
  unfold m50
  have f0 : Ev F X (.call 29 [(.one (.bor (l0_3 + 1) (List.map b_si a0.f3))), (.one (.val (.int .i64 a1)))] [] [] [(.one (.val (.int .i64 (m29 a0.f3 a1))))]) := (e29 (a0 := a0.f3) (a1 := a1) (by first | with_reducible assumption | omega | assumption | (simp only [List.length_map]; omega) | (simp; omega)))
  by_cases h0 : (decide ((m29 a0.f3 a1) < 0)) = true
  · try simp only [if_pos h0]
    exact callP_ok (ps := []) (os := []) (rs := [(.one (.val (.int .i64 (-1))))]) (by kernel_rfl) (.r 11 [] [] f0 (.f h0 (.h 18 (.b true) .nil)))
  · try simp only [if_neg h0]
    exact callP_ok (ps := []) (os := []) (rs := [(.one (.val (.int .i64 (m29 a0.f3 a1))))]) (by kernel_rfl) (.r 11 [] [] f0 (.f (nt h0) (.h 18 (.b false) .nil)))
/-! loop 30_0 -/
inductive O30_0 where
  | k0 (w0 : Int) (w1 : Int) (w2 : Bool)
  | k1
def r30_0 (a0 : (List K_iiiLsiEi)) : List K_iiiLsiEi → Int → Int → O30_0
  | x0_30_0 :: l0_30_0, i_30_0, v0_30_0 =>
    if (decide ((m50 x0_30_0 v0_30_0) < 0)) = true then (O30_0.k1) else
    (r30_0 a0 l0_30_0 (i_30_0 + 1) (m50 x0_30_0 v0_30_0))
  | [], i_30_0, v0_30_0 => (O30_0.k0 v0_30_0 i_30_0 (decide (i_30_0 < ((List.length (List.map b_iiiLsiEi a0)) : Int))))
def h30_0 (l0_0 : Nat) (a0 : (List K_iiiLsiEi)) (a1 : Int) (i_30_0 : Int) (v0_30_0 : Int) : St := ⟨[(0, (.one (.bor l0_0 (List.map b_iiiLsiEi a0)))), (1, (.one (.val (.int .i64 v0_30_0)))), (5, (.one (.val (.int .i64 i_30_0))))], []⟩
def ex30_0 : O30_0 → VX.Exit
  | .k0 _ _ _ => (.exit 0)
  | .k1 => .ret
def fin30_0 (l0_0 : Nat) (a0 : (List K_iiiLsiEi)) (a1 : Int) : O30_0 → St
  | .k0 w0 w1 w2 => ⟨[(0, (.one (.bor l0_0 (List.map b_iiiLsiEi a0)))), (1, (.one (.val (.int .i64 w0)))), (5, (.one (.val (.int .i64 w1)))), (15, (.one (.val (.bool w2))))], []⟩
  | .k1 => ⟨[(4, (.one (.val (.int .i64 (-1)))))], []⟩
theorem t30_0 {l0_0 : Nat} {a0 : (List K_iiiLsiEi)} {a1 : Int} (hy0 : List.length a0 * 56 ≤ 140737488351232) (hy1 : ∀ z ∈ a0, ok_iiiLsiEi z) : ∀ (l0_30_0 : List K_iiiLsiEi) (p_30_0 : List K_iiiLsiEi) (v0_30_0 : Int), p_30_0 ++ l0_30_0 = a0 → Ev F X (.code l30_0 (h30_0 l0_0 a0 a1 (List.length p_30_0 : Int) v0_30_0) (ex30_0 (r30_0 a0 l0_30_0 (List.length p_30_0 : Int) v0_30_0)) (fin30_0 l0_0 a0 a1 (r30_0 a0 l0_30_0 (List.length p_30_0 : Int) v0_30_0)))
  | [], p_30_0, v0_30_0, hp0 => by
    have hc : ¬ (decide ((List.length p_30_0 : Int) < ((List.length (List.map b_iiiLsiEi a0)) : Int))) = true := by
      rw [← hp0]; simp only [List.length_map, List.length_set, List.length_append, List.length_replicate, List.length_cons, List.length_nil, decide_eq_true_eq]; omega
    have st := codeH_ok (F := F) (X := X) (c := b30_0) (t := 0) (hs := [(8, .b false)]) (σ := h30_0 l0_0 a0 a1 (List.length p_30_0 : Int) v0_30_0) (σ' := ⟨[(0, (.one (.bor l0_0 (List.map b_iiiLsiEi a0)))), (1, (.one (.val (.int .i64 v0_30_0)))), (5, (.one (.val (.int .i64 (List.length p_30_0 : Int))))), (15, (.one (.val (.bool (decide ((List.length p_30_0 : Int) < ((List.length (List.map b_iiiLsiEi a0)) : Int)))))))], []⟩) (e := (.exit 0)) (t' := 9) (hs' := []) (q := [(decide ((List.length p_30_0 : Int) < ((List.length (List.map b_iiiLsiEi a0)) : Int))) = false]) (by kernel_rfl) ⟨(nt hc), trivial⟩
    rw [show (⟨[(0, (.one (.bor l0_0 (List.map b_iiiLsiEi a0)))), (1, (.one (.val (.int .i64 v0_30_0)))), (5, (.one (.val (.int .i64 (List.length p_30_0 : Int))))), (15, (.one (.val (.bool (decide ((List.length p_30_0 : Int) < ((List.length (List.map b_iiiLsiEi a0)) : Int)))))))], []⟩ : St) = fin30_0 l0_0 a0 a1 (.k0 v0_30_0 (List.length p_30_0 : Int) (decide ((List.length p_30_0 : Int) < ((List.length (List.map b_iiiLsiEi a0)) : Int)))) from by first | rfl | (unfold fin30_0; simp [List.take_of_length_le, d_si, d_iiiLsiEi, d_iiLsiELiiiLsiEiELsiEiii, d_b, d_i, d_LsiE, d_LiiiLsiEiE, fromBR_si, fromBR_b, fromBR_i]; done)] at st
    exact .loopX st (show ((.exit 0) : VX.Exit) ≠ .normal from by simp)
  | x0_30_0 :: l0_30_0, p_30_0, v0_30_0, hp0 => by
    have hc : (decide ((List.length p_30_0 : Int) < ((List.length (List.map b_iiiLsiEi a0)) : Int))) = true := by
      rw [← hp0]; simp only [List.length_map, List.length_set, List.length_append, List.length_replicate, List.length_cons, List.length_nil, decide_eq_true_eq]; omega
    have Hx0_30_0 : (a0)[Int.toNat (List.length p_30_0 : Int)]? = some x0_30_0 := by
      rw [← hp0, Int.toNat_natCast]; simp
    have Mx0_30_0_0 := hy1 x0_30_0 (List.mem_of_getElem? Hx0_30_0)
    have hlen : List.length (a0) = List.length p_30_0 + List.length l0_30_0 + 1 := by rw [← hp0]; simp; omega
    have hw : IntKind.wrap .i64 ((List.length p_30_0 : Int) + 1) = (List.length p_30_0 : Int) + 1 := wrap64 (by omega)
    simp only [r30_0]
    by_cases h_30_0_1 : (decide ((m50 x0_30_0 v0_30_0) < 0)) = true
    · try simp only [if_pos h_30_0_1]
      have st := codeH_ok (F := F) (X := X) (c := b30_0) (t := 0) (hs := [(8, .b true), (14, .row [(.val (.int .i64 x0_30_0.f0)), (.val (.int .i64 x0_30_0.f1)), (.val (.int .i64 x0_30_0.f2)), (.sl (List.map b_si x0_30_0.f3)), (.val (.int .i64 x0_30_0.f4))]), (20, .ret [] [(.one (.val (.int .i64 (m50 x0_30_0 v0_30_0))))] [] []), (27, .b true)]) (σ := h30_0 l0_0 a0 a1 (List.length p_30_0 : Int) v0_30_0) (σ' := ⟨[(4, (.one (.val (.int .i64 (-1)))))], []⟩) (e := .ret) (t' := 30) (hs' := []) (q := [(decide ((List.length p_30_0 : Int) < ((List.length (List.map b_iiiLsiEi a0)) : Int))) = true, 0 ≤ (List.length p_30_0 : Int), (List.map b_iiiLsiEi a0)[(Int.toNat (List.length p_30_0 : Int))]? = some [(.val (.int .i64 x0_30_0.f0)), (.val (.int .i64 x0_30_0.f1)), (.val (.int .i64 x0_30_0.f2)), (.sl (List.map b_si x0_30_0.f3)), (.val (.int .i64 x0_30_0.f4))], Ev F X (.call 50 [(.agg [(.val (.int .i64 x0_30_0.f0)), (.val (.int .i64 x0_30_0.f1)), (.val (.int .i64 x0_30_0.f2)), (.bor (l0_0 + 1) (List.map b_si x0_30_0.f3)), (.val (.int .i64 x0_30_0.f4))]), (.one (.val (.int .i64 v0_30_0)))] [] [] [(.one (.val (.int .i64 (m50 x0_30_0 v0_30_0))))]), (decide ((m50 x0_30_0 v0_30_0) < 0)) = true]) (by kernel_rfl) ⟨hc, (by first | exact True.intro | with_reducible rfl | with_reducible assumption | omega | (simp only [List.length_map, List.length_set, List.length_append, List.length_replicate, List.length_cons, List.length_nil]; omega) | (simp; omega) | (simp [List.take_of_length_le]; done) | assumption | trivial | (simp [*]; done)), (by first | (rw [List.getElem?_map, Hx0_30_0]; rfl) | (rw [Nat.zero_add, List.getElem?_map, Hx0_30_0]; rfl) | exact True.intro | with_reducible rfl | with_reducible assumption | omega | (simp only [List.length_map, List.length_set, List.length_append, List.length_replicate, List.length_cons, List.length_nil]; omega) | (simp; done) | (simp; omega) | (simp [List.take_of_length_le]; done) | (simp [← List.map_take, ← List.map_drop]; done) | assumption | trivial | (simp [*, b_si, b_iiiLsiEi, d_si, d_iiiLsiEi]; done)), (e50 (a0 := x0_30_0) (a1 := v0_30_0) (by first | with_reducible assumption | omega | assumption | (simp only [List.length_map]; omega) | (simp; omega))), h_30_0_1, trivial⟩
      rw [show (⟨[(4, (.one (.val (.int .i64 (-1)))))], []⟩ : St) = fin30_0 l0_0 a0 a1 (.k1) from by first | rfl | (unfold fin30_0; simp [List.take_of_length_le, d_si, d_iiiLsiEi, d_iiLsiELiiiLsiEiELsiEiii, d_b, d_i, d_LsiE, d_LiiiLsiEiE, fromBR_si, fromBR_b, fromBR_i]; done)] at st
      exact .loopX st (show (.ret : VX.Exit) ≠ .normal from by simp)
    · try simp only [if_neg h_30_0_1]
      have st := codeH_ok (F := F) (X := X) (c := b30_0) (t := 0) (hs := [(8, .b true), (14, .row [(.val (.int .i64 x0_30_0.f0)), (.val (.int .i64 x0_30_0.f1)), (.val (.int .i64 x0_30_0.f2)), (.sl (List.map b_si x0_30_0.f3)), (.val (.int .i64 x0_30_0.f4))]), (20, .ret [] [(.one (.val (.int .i64 (m50 x0_30_0 v0_30_0))))] [] []), (27, .b false)]) (σ := h30_0 l0_0 a0 a1 (List.length p_30_0 : Int) v0_30_0) (σ' := ⟨[(0, (.one (.bor l0_0 (List.map b_iiiLsiEi a0)))), (1, (.one (.val (.int .i64 (m50 x0_30_0 v0_30_0))))), (5, (.one (.val (.int .i64 (IntKind.wrap .i64 ((List.length p_30_0 : Int) + 1))))))], []⟩) (e := .normal) (t' := 34) (hs' := []) (q := [(decide ((List.length p_30_0 : Int) < ((List.length (List.map b_iiiLsiEi a0)) : Int))) = true, 0 ≤ (List.length p_30_0 : Int), (List.map b_iiiLsiEi a0)[(Int.toNat (List.length p_30_0 : Int))]? = some [(.val (.int .i64 x0_30_0.f0)), (.val (.int .i64 x0_30_0.f1)), (.val (.int .i64 x0_30_0.f2)), (.sl (List.map b_si x0_30_0.f3)), (.val (.int .i64 x0_30_0.f4))], Ev F X (.call 50 [(.agg [(.val (.int .i64 x0_30_0.f0)), (.val (.int .i64 x0_30_0.f1)), (.val (.int .i64 x0_30_0.f2)), (.bor (l0_0 + 1) (List.map b_si x0_30_0.f3)), (.val (.int .i64 x0_30_0.f4))]), (.one (.val (.int .i64 v0_30_0)))] [] [] [(.one (.val (.int .i64 (m50 x0_30_0 v0_30_0))))]), (decide ((m50 x0_30_0 v0_30_0) < 0)) = false, True]) (by kernel_rfl) ⟨hc, (by first | exact True.intro | with_reducible rfl | with_reducible assumption | omega | (simp only [List.length_map, List.length_set, List.length_append, List.length_replicate, List.length_cons, List.length_nil]; omega) | (simp; omega) | (simp [List.take_of_length_le]; done) | assumption | trivial | (simp [*]; done)), (by first | (rw [List.getElem?_map, Hx0_30_0]; rfl) | (rw [Nat.zero_add, List.getElem?_map, Hx0_30_0]; rfl) | exact True.intro | with_reducible rfl | with_reducible assumption | omega | (simp only [List.length_map, List.length_set, List.length_append, List.length_replicate, List.length_cons, List.length_nil]; omega) | (simp; done) | (simp; omega) | (simp [List.take_of_length_le]; done) | (simp [← List.map_take, ← List.map_drop]; done) | assumption | trivial | (simp [*, b_si, b_iiiLsiEi, d_si, d_iiiLsiEi]; done)), (e50 (a0 := x0_30_0) (a1 := v0_30_0) (by first | with_reducible assumption | omega | assumption | (simp only [List.length_map]; omega) | (simp; omega))), (nt h_30_0_1), trivial, trivial⟩
      have ih := t30_0 (l0_0 := l0_0) (a0 := a0) (a1 := a1) hy0 hy1 l0_30_0 (p_30_0 ++ [x0_30_0]) (m50 x0_30_0 v0_30_0) (by rw [List.append_assoc]; exact hp0)
      rw [show ((p_30_0 ++ [x0_30_0]).length : Int) = (p_30_0.length : Int) + 1 from by simp] at ih
      rw [show (⟨[(0, (.one (.bor l0_0 (List.map b_iiiLsiEi a0)))), (1, (.one (.val (.int .i64 (m50 x0_30_0 v0_30_0))))), (5, (.one (.val (.int .i64 (IntKind.wrap .i64 ((List.length p_30_0 : Int) + 1))))))], []⟩ : St) = h30_0 l0_0 a0 a1 ((List.length p_30_0 : Int) + 1) (m50 x0_30_0 v0_30_0) from by first | (unfold h30_0; simp only [hw]; done) | (unfold h30_0; simp only [hw, List.length_map, List.length_set, List.length_append, List.length_replicate, List.length_cons, List.length_nil]; done) | (unfold h30_0; simp [hw, List.take_of_length_le, d_si, d_iiiLsiEi, d_iiLsiELiiiLsiEiELsiEiii, d_b, d_i, d_LsiE, d_LiiiLsiEiE, fromBR_si, fromBR_b, fromBR_i]; done)] at st
      exact .loopN st ih
/-! loop.example/g00539/laws.szRewardS -/
def m30 (a0 : (List K_iiiLsiEi)) (a1 : Int) : Int :=
  if (decide ((IntKind.wrap .i64 (a1 - ((List.length (List.map b_iiiLsiEi a0)) : Int))) < 0)) = true then (-1) else
  (match r30_0 a0 a0 0 (IntKind.wrap .i64 (a1 - ((List.length (List.map b_iiiLsiEi a0)) : Int))) with | .k0 w0_30_0_1 w1_30_0_1 w2_30_0_1 => w0_30_0_1 | .k1 => (-1))
theorem e30 {l0_0 : Nat} {a0 : (List K_iiiLsiEi)} {a1 : Int} (hy0 : List.length a0 * 56 ≤ 140737488351232) (hy1 : ∀ z ∈ a0, ok_iiiLsiEi z) : Ev F X (.call 30 [(.one (.bor l0_0 (List.map b_iiiLsiEi a0))), (.one (.val (.int .i64 a1)))] [] [] [(.one (.val (.int .i64 (m30 a0 a1))))]) := by
  unfold m30
  by_cases h0 : (decide ((IntKind.wrap .i64 (a1 - ((List.length (List.map b_iiiLsiEi a0)) : Int))) < 0)) = true
  · try simp only [if_pos h0]
    exact callP_ok (ps := []) (os := []) (rs := [(.one (.val (.int .i64 (-1))))]) (by kernel_rfl) (.f h0 (.h 16 (.b true) .nil))
  · try simp only [if_neg h0]
    cases h1 : r30_0 a0 a0 0 (IntKind.wrap .i64 (a1 - ((List.length (List.map b_iiiLsiEi a0)) : Int))) with
    | k0 w0_30_0_1 w1_30_0_1 w2_30_0_1 =>
      try dsimp only
      have f1 : (⟨[(0, (.one (.bor l0_0 (List.map b_iiiLsiEi a0)))), (1, (.one (.val (.int .i64 (IntKind.wrap .i64 (a1 - ((List.length (List.map b_iiiLsiEi a0)) : Int))))))), (5, (.one (.val (.int .i64 0))))], []⟩ : St) = h30_0 l0_0 a0 a1 0 (IntKind.wrap .i64 (a1 - ((List.length (List.map b_iiiLsiEi a0)) : Int))) := (by first | rfl | (unfold h30_0; simp [List.take_of_length_le, d_si, d_iiiLsiEi, d_iiLsiELiiiLsiEiELsiEiii, d_b, d_i, d_LsiE, d_LiiiLsiEiE, fromBR_si, fromBR_b, fromBR_i]; done))
      have f2 : Ev F X (.code l30_0 (h30_0 l0_0 a0 a1 0 (IntKind.wrap .i64 (a1 - ((List.length (List.map b_iiiLsiEi a0)) : Int)))) (.exit 0) ⟨[(0, (.one (.bor l0_0 (List.map b_iiiLsiEi a0)))), (1, (.one (.val (.int .i64 w0_30_0_1)))), (5, (.one (.val (.int .i64 w1_30_0_1)))), (15, (.one (.val (.bool w2_30_0_1))))], []⟩) := (by have t : Ev F X (.code l30_0 (h30_0 l0_0 a0 a1 0 (IntKind.wrap .i64 (a1 - ((List.length (List.map b_iiiLsiEi a0)) : Int)))) (ex30_0 (r30_0 a0 a0 0 (IntKind.wrap .i64 (a1 - ((List.length (List.map b_iiiLsiEi a0)) : Int))))) (fin30_0 l0_0 a0 a1 (r30_0 a0 a0 0 (IntKind.wrap .i64 (a1 - ((List.length (List.map b_iiiLsiEi a0)) : Int)))))) := t30_0 (l0_0 := l0_0) (a0 := a0) (a1 := a1) (by first | assumption | omega) (by first | assumption | omega) a0 [] (IntKind.wrap .i64 (a1 - ((List.length (List.map b_iiiLsiEi a0)) : Int))) rfl; rw [h1] at t; exact t)
      exact callP_ok (ps := []) (os := []) (rs := [(.one (.val (.int .i64 w0_30_0_1)))]) (by kernel_rfl) (.f (nt h0) (.f f1 (.f f2 (.h 16 (.b false) (.h 19 (.loop (h30_0 l0_0 a0 a1 0 (IntKind.wrap .i64 (a1 - ((List.length (List.map b_iiiLsiEi a0)) : Int)))) (.exit 0) ⟨[(0, (.one (.bor l0_0 (List.map b_iiiLsiEi a0)))), (1, (.one (.val (.int .i64 w0_30_0_1)))), (5, (.one (.val (.int .i64 w1_30_0_1)))), (15, (.one (.val (.bool w2_30_0_1))))], []⟩) .nil)))))
    | k1 =>
      try dsimp only
      have f1 : (⟨[(0, (.one (.bor l0_0 (List.map b_iiiLsiEi a0)))), (1, (.one (.val (.int .i64 (IntKind.wrap .i64 (a1 - ((List.length (List.map b_iiiLsiEi a0)) : Int))))))), (5, (.one (.val (.int .i64 0))))], []⟩ : St) = h30_0 l0_0 a0 a1 0 (IntKind.wrap .i64 (a1 - ((List.length (List.map b_iiiLsiEi a0)) : Int))) := (by first | rfl | (unfold h30_0; simp [List.take_of_length_le, d_si, d_iiiLsiEi, d_iiLsiELiiiLsiEiELsiEiii, d_b, d_i, d_LsiE, d_LiiiLsiEiE, fromBR_si, fromBR_b, fromBR_i]; done))
      have f2 : Ev F X (.code l30_0 (h30_0 l0_0 a0 a1 0 (IntKind.wrap .i64 (a1 - ((List.length (List.map b_iiiLsiEi a0)) : Int)))) .ret ⟨[(4, (.one (.val (.int .i64 (-1)))))], []⟩) := (by have t : Ev F X (.code l30_0 (h30_0 l0_0 a0 a1 0 (IntKind.wrap .i64 (a1 - ((List.length (List.map b_iiiLsiEi a0)) : Int)))) (ex30_0 (r30_0 a0 a0 0 (IntKind.wrap .i64 (a1 - ((List.length (List.map b_iiiLsiEi a0)) : Int))))) (fin30_0 l0_0 a0 a1 (r30_0 a0 a0 0 (IntKind.wrap .i64 (a1 - ((List.length (List.map b_iiiLsiEi a0)) : Int)))))) := t30_0 (l0_0 := l0_0) (a0 := a0) (a1 := a1) (by first | assumption | omega) (by first | assumption | omega) a0 [] (IntKind.wrap .i64 (a1 - ((List.length (List.map b_iiiLsiEi a0)) : Int))) rfl; rw [h1] at t; exact t)
      exact callP_ok (ps := []) (os := []) (rs := [(.one (.val (.int .i64 (-1))))]) (by kernel_rfl) (.f (nt h0) (.f f1 (.f f2 (.h 16 (.b false) (.h 19 (.loop (h30_0 l0_0 a0 a1 0 (IntKind.wrap .i64 (a1 - ((List.length (List.map b_iiiLsiEi a0)) : Int)))) .ret ⟨[(4, (.one (.val (.int .i64 (-1)))))], []⟩) .nil)))))
/-! loop.example/g00539/laws.szLedger -/
def m16 (a0 : K_iiLsiELiiiLsiEiELsiEiii) (a1 : Int) : Int :=
  if (decide ((m29 a0.f2 a1) < 0)) = true then (-1) else
  if (decide ((m30 a0.f3 (m29 a0.f2 a1)) < 0)) = true then (-1) else
    if (decide ((m29 a0.f4 (m30 a0.f3 (m29 a0.f2 a1))) < 0)) = true then (-1) else
      (m29 a0.f4 (m30 a0.f3 (m29 a0.f2 a1)))
theorem e16 {l0_2 : Nat} {l0_3 : Nat} {l0_4 : Nat} {a0 : K_iiLsiELiiiLsiEiELsiEiii} {a1 : Int} (hy0 : List.length a0.f2 * 24 ≤ 140737488351232) (hy1 : List.length a0.f3 * 56 ≤ 140737488351232) (hy2 : ∀ z ∈ a0.f3, ok_iiiLsiEi z) (hy3 : List.length a0.f4 * 24 ≤ 140737488351232) : Ev F X (.call 16 [(.agg [(.val (.int .i64 a0.f0)), (.val (.int .i64 a0.f1)), (.bor l0_2 (List.map b_si a0.f2)), (.bor l0_3 (List.map b_iiiLsiEi a0.f3)), (.bor l0_4 (List.map b_si a0.f4)), (.val (.int .i64 a0.f5)), (.val (.int .i64 a0.f6)), (.val (.int .i64 a0.f7))]), (.one (.val (.int .i64 a1)))] [] [] [(.one (.val (.int .i64 (m16 a0 a1))))]) := by
  unfold m16
  have f0 : Ev F X (.call 29 [(.one (.bor (l0_2 + 1) (List.map b_si a0.f2))), (.one (.val (.int .i64 a1)))] [] [] [(.one (.val (.int .i64 (m29 a0.f2 a1))))]) := (e29 (a0 := a0.f2) (a1 := a1) (by first | with_reducible assumption | omega | assumption | (simp only [List.length_map]; omega) | (simp; omega)))
  by_cases h0 : (decide ((m29 a0.f2 a1) < 0)) = true
  · try simp only [if_pos h0]
    exact callP_ok (ps := []) (os := []) (rs := [(.one (.val (.int .i64 (-1))))]) (by kernel_rfl) (.r 11 [] [] f0 (.f h0 (.h 18 (.b true) .nil)))
  · try simp only [if_neg h0]
    have f2 : Ev F X (.call 30 [(.one (.bor (l0_3 + 1) (List.map b_iiiLsiEi a0.f3))), (.one (.val (.int .i64 (m29 a0.f2 a1))))] [] [] [(.one (.val (.int .i64 (m30 a0.f3 (m29 a0.f2 a1)))))]) := (e30 (a0 := a0.f3) (a1 := (m29 a0.f2 a1)) (by first | with_reducible assumption | omega | assumption | (simp only [List.length_map]; omega) | (simp; omega)) (by first | exact True.intro | with_reducible rfl | with_reducible assumption | omega | (simp only [List.length_map, List.length_set, List.length_append, List.length_replicate, List.length_cons, List.length_nil]; omega) | (simp; done) | (simp; omega) | (simp [List.take_of_length_le]; done) | (simp [← List.map_take, ← List.map_drop]; done) | assumption | trivial | (simp [*]; done)))
    by_cases h1 : (decide ((m30 a0.f3 (m29 a0.f2 a1)) < 0)) = true
    · try simp only [if_pos h1]
      exact callP_ok (ps := []) (os := []) (rs := [(.one (.val (.int .i64 (-1))))]) (by kernel_rfl) (.r 11 [] [] f0 (.f (nt h0) (.h 18 (.b false) (.r 26 [] [] f2 (.f h1 (.h 33 (.b true) .nil))))))
    · try simp only [if_neg h1]
      have f4 : Ev F X (.call 29 [(.one (.bor (l0_4 + 1) (List.map b_si a0.f4))), (.one (.val (.int .i64 (m30 a0.f3 (m29 a0.f2 a1)))))] [] [] [(.one (.val (.int .i64 (m29 a0.f4 (m30 a0.f3 (m29 a0.f2 a1))))))]) := (e29 (a0 := a0.f4) (a1 := (m30 a0.f3 (m29 a0.f2 a1))) (by first | with_reducible assumption | omega | assumption | (simp only [List.length_map]; omega) | (simp; omega)))
      by_cases h2 : (decide ((m29 a0.f4 (m30 a0.f3 (m29 a0.f2 a1))) < 0)) = true
      · try simp only [if_pos h2]
        exact callP_ok (ps := []) (os := []) (rs := [(.one (.val (.int .i64 (-1))))]) (by kernel_rfl) (.r 11 [] [] f0 (.f (nt h0) (.h 18 (.b false) (.r 26 [] [] f2 (.f (nt h1) (.h 33 (.b false) (.r 41 [] [] f4 (.f h2 (.h 48 (.b true) .nil)))))))))
      · try simp only [if_neg h2]
        exact callP_ok (ps := []) (os := []) (rs := [(.one (.val (.int .i64 (m29 a0.f4 (m30 a0.f3 (m29 a0.f2 a1))))))]) (by kernel_rfl) (.r 11 [] [] f0 (.f (nt h0) (.h 18 (.b false) (.r 26 [] [] f2 (.f (nt h1) (.h 33 (.b false) (.r 41 [] [] f4 (.f (nt h2) (.h 48 (.b false) .nil)))))))))
/-! loop 31_0 -/
inductive O31_0 where
  | k0 (w0 : Int) (w1 : Bool)
  | k1
def r31_0 (a0 : (List K_si)) : List K_si → List K_si → Int → O31_0
  | x0_31_0 :: l0_31_0, x1_31_0 :: l1_31_0, i_31_0 =>
    if (!((x0_31_0.f0.toList == x1_31_0.f0.toList) && ((x0_31_0.f1 == x1_31_0.f1) && true))) = true then (O31_0.k1) else
    (r31_0 a0 l0_31_0 l1_31_0 (i_31_0 + 1) )
  | _, _, i_31_0 => (O31_0.k0 i_31_0 (decide (i_31_0 < ((List.length (List.map b_si a0)) : Int))))
def h31_0 (l0_0 : Nat) (l1_0 : Nat) (a0 : (List K_si)) (a1 : (List K_si)) (i_31_0 : Int)  : St := ⟨[(0, (.one (.bor l0_0 (List.map b_si a0)))), (1, (.one (.bor l1_0 (List.map b_si a1)))), (5, (.one (.val (.int .i64 i_31_0))))], []⟩
def ex31_0 : O31_0 → VX.Exit
  | .k0 _ _ => (.exit 0)
  | .k1 => .ret
def fin31_0 (l0_0 : Nat) (l1_0 : Nat) (a0 : (List K_si)) (a1 : (List K_si)) : O31_0 → St
  | .k0 w0 w1 => ⟨[(0, (.one (.bor l0_0 (List.map b_si a0)))), (1, (.one (.bor l1_0 (List.map b_si a1)))), (5, (.one (.val (.int .i64 w0)))), (14, (.one (.val (.bool w1))))], []⟩
  | .k1 => ⟨[(4, (.one (.val (.bool false))))], []⟩
theorem t31_0 {l0_0 : Nat} {l1_0 : Nat} {a0 : (List K_si)} {a1 : (List K_si)} (hy0 : List.length a0 * 24 ≤ 140737488351232) (hy1 : List.length a1 * 24 ≤ 140737488351232) : ∀ (l0_31_0 : List K_si) (l1_31_0 : List K_si) (p_31_0 : List K_si) (p_31_0_1 : List K_si) , p_31_0 ++ l0_31_0 = a0 → p_31_0_1 ++ l1_31_0 = a1 → List.length p_31_0 = List.length p_31_0_1 → List.length l0_31_0 = List.length l1_31_0 → Ev F X (.code l31_0 (h31_0 l0_0 l1_0 a0 a1 (List.length p_31_0 : Int) ) (ex31_0 (r31_0 a0 l0_31_0 l1_31_0 (List.length p_31_0 : Int) )) (fin31_0 l0_0 l1_0 a0 a1 (r31_0 a0 l0_31_0 l1_31_0 (List.length p_31_0 : Int) )))
  | [], [], p_31_0, p_31_0_1, hp0, hp1, hq1, hl1 => by
    have hc : ¬ (decide ((List.length p_31_0 : Int) < ((List.length (List.map b_si a0)) : Int))) = true := by
      rw [← hp0]; simp only [List.length_map, List.length_set, List.length_append, List.length_replicate, List.length_cons, List.length_nil, decide_eq_true_eq]; omega
    have st := codeH_ok (F := F) (X := X) (c := b31_0) (t := 0) (hs := [(8, .b false)]) (σ := h31_0 l0_0 l1_0 a0 a1 (List.length p_31_0 : Int) ) (σ' := ⟨[(0, (.one (.bor l0_0 (List.map b_si a0)))), (1, (.one (.bor l1_0 (List.map b_si a1)))), (5, (.one (.val (.int .i64 (List.length p_31_0 : Int))))), (14, (.one (.val (.bool (decide ((List.length p_31_0 : Int) < ((List.length (List.map b_si a0)) : Int)))))))], []⟩) (e := (.exit 0)) (t' := 9) (hs' := []) (q := [(decide ((List.length p_31_0 : Int) < ((List.length (List.map b_si a0)) : Int))) = false]) (by kernel_rfl) ⟨(nt hc), trivial⟩
    rw [show (⟨[(0, (.one (.bor l0_0 (List.map b_si a0)))), (1, (.one (.bor l1_0 (List.map b_si a1)))), (5, (.one (.val (.int .i64 (List.length p_31_0 : Int))))), (14, (.one (.val (.bool (decide ((List.length p_31_0 : Int) < ((List.length (List.map b_si a0)) : Int)))))))], []⟩ : St) = fin31_0 l0_0 l1_0 a0 a1 (.k0 (List.length p_31_0 : Int) (decide ((List.length p_31_0 : Int) < ((List.length (List.map b_si a0)) : Int)))) from by first | rfl | (unfold fin31_0; simp [List.take_of_length_le, d_si, d_iiiLsiEi, d_iiLsiELiiiLsiEiELsiEiii, d_b, d_i, d_LsiE, d_LiiiLsiEiE, fromBR_si, fromBR_b, fromBR_i]; done)] at st
    exact .loopX st (show ((.exit 0) : VX.Exit) ≠ .normal from by simp)
  | x0_31_0 :: l0_31_0, x1_31_0 :: l1_31_0, p_31_0, p_31_0_1, hp0, hp1, hq1, hl1 => by
    have hc : (decide ((List.length p_31_0 : Int) < ((List.length (List.map b_si a0)) : Int))) = true := by
      rw [← hp0]; simp only [List.length_map, List.length_set, List.length_append, List.length_replicate, List.length_cons, List.length_nil, decide_eq_true_eq]; omega
    have Hx0_31_0 : (a0)[Int.toNat (List.length p_31_0 : Int)]? = some x0_31_0 := by
      rw [← hp0, Int.toNat_natCast]; simp
    have Hx1_31_0 : (a1)[Int.toNat (List.length p_31_0 : Int)]? = some x1_31_0 := by
      rw [← hp1, hq1, Int.toNat_natCast]; simp
    have hlen : List.length (a0) = List.length p_31_0 + List.length l0_31_0 + 1 := by rw [← hp0]; simp; omega
    have hw : IntKind.wrap .i64 ((List.length p_31_0 : Int) + 1) = (List.length p_31_0 : Int) + 1 := wrap64 (by omega)
    simp only [r31_0]
    by_cases h_31_0_1 : (!((x0_31_0.f0.toList == x1_31_0.f0.toList) && ((x0_31_0.f1 == x1_31_0.f1) && true))) = true
    · try simp only [if_pos h_31_0_1]
      have st := codeH_ok (F := F) (X := X) (c := b31_0) (t := 0) (hs := [(8, .b true), (14, .row [(.val (.string x0_31_0.f0)), (.val (.int .i64 x0_31_0.f1))]), (22, .row [(.val (.string x1_31_0.f0)), (.val (.int .i64 x1_31_0.f1))]), (27, .b true)]) (σ := h31_0 l0_0 l1_0 a0 a1 (List.length p_31_0 : Int) ) (σ' := ⟨[(4, (.one (.val (.bool false))))], []⟩) (e := .ret) (t' := 30) (hs' := []) (q := [(decide ((List.length p_31_0 : Int) < ((List.length (List.map b_si a0)) : Int))) = true, 0 ≤ (List.length p_31_0 : Int), (List.map b_si a0)[(Int.toNat (List.length p_31_0 : Int))]? = some [(.val (.string x0_31_0.f0)), (.val (.int .i64 x0_31_0.f1))], 0 ≤ (List.length p_31_0 : Int), (List.map b_si a1)[(Int.toNat (List.length p_31_0 : Int))]? = some [(.val (.string x1_31_0.f0)), (.val (.int .i64 x1_31_0.f1))], (!((x0_31_0.f0.toList == x1_31_0.f0.toList) && ((x0_31_0.f1 == x1_31_0.f1) && true))) = true]) (by kernel_rfl) ⟨hc, (by first | exact True.intro | with_reducible rfl | with_reducible assumption | omega | (simp only [List.length_map, List.length_set, List.length_append, List.length_replicate, List.length_cons, List.length_nil]; omega) | (simp; omega) | (simp [List.take_of_length_le]; done) | assumption | trivial | (simp [*]; done)), (by first | (rw [List.getElem?_map, Hx0_31_0]; rfl) | (rw [Nat.zero_add, List.getElem?_map, Hx0_31_0]; rfl) | exact True.intro | with_reducible rfl | with_reducible assumption | omega | (simp only [List.length_map, List.length_set, List.length_append, List.length_replicate, List.length_cons, List.length_nil]; omega) | (simp; done) | (simp; omega) | (simp [List.take_of_length_le]; done) | (simp [← List.map_take, ← List.map_drop]; done) | assumption | trivial | (simp [*, b_si, d_si]; done)), (by first | exact True.intro | with_reducible rfl | with_reducible assumption | omega | (simp only [List.length_map, List.length_set, List.length_append, List.length_replicate, List.length_cons, List.length_nil]; omega) | (simp; omega) | (simp [List.take_of_length_le]; done) | assumption | trivial | (simp [*]; done)), (by first | (rw [List.getElem?_map, Hx1_31_0]; rfl) | (rw [Nat.zero_add, List.getElem?_map, Hx1_31_0]; rfl) | exact True.intro | with_reducible rfl | with_reducible assumption | omega | (simp only [List.length_map, List.length_set, List.length_append, List.length_replicate, List.length_cons, List.length_nil]; omega) | (simp; done) | (simp; omega) | (simp [List.take_of_length_le]; done) | (simp [← List.map_take, ← List.map_drop]; done) | assumption | trivial | (simp [*, b_si, d_si]; done)), h_31_0_1, trivial⟩
      rw [show (⟨[(4, (.one (.val (.bool false))))], []⟩ : St) = fin31_0 l0_0 l1_0 a0 a1 (.k1) from by first | rfl | (unfold fin31_0; simp [List.take_of_length_le, d_si, d_iiiLsiEi, d_iiLsiELiiiLsiEiELsiEiii, d_b, d_i, d_LsiE, d_LiiiLsiEiE, fromBR_si, fromBR_b, fromBR_i]; done)] at st
      exact .loopX st (show (.ret : VX.Exit) ≠ .normal from by simp)
    · try simp only [if_neg h_31_0_1]
      have st := codeH_ok (F := F) (X := X) (c := b31_0) (t := 0) (hs := [(8, .b true), (14, .row [(.val (.string x0_31_0.f0)), (.val (.int .i64 x0_31_0.f1))]), (22, .row [(.val (.string x1_31_0.f0)), (.val (.int .i64 x1_31_0.f1))]), (27, .b false)]) (σ := h31_0 l0_0 l1_0 a0 a1 (List.length p_31_0 : Int) ) (σ' := ⟨[(0, (.one (.bor l0_0 (List.map b_si a0)))), (1, (.one (.bor l1_0 (List.map b_si a1)))), (5, (.one (.val (.int .i64 (IntKind.wrap .i64 ((List.length p_31_0 : Int) + 1))))))], []⟩) (e := .normal) (t' := 34) (hs' := []) (q := [(decide ((List.length p_31_0 : Int) < ((List.length (List.map b_si a0)) : Int))) = true, 0 ≤ (List.length p_31_0 : Int), (List.map b_si a0)[(Int.toNat (List.length p_31_0 : Int))]? = some [(.val (.string x0_31_0.f0)), (.val (.int .i64 x0_31_0.f1))], 0 ≤ (List.length p_31_0 : Int), (List.map b_si a1)[(Int.toNat (List.length p_31_0 : Int))]? = some [(.val (.string x1_31_0.f0)), (.val (.int .i64 x1_31_0.f1))], (!((x0_31_0.f0.toList == x1_31_0.f0.toList) && ((x0_31_0.f1 == x1_31_0.f1) && true))) = false, True]) (by kernel_rfl) ⟨hc, (by first | exact True.intro | with_reducible rfl | with_reducible assumption | omega | (simp only [List.length_map, List.length_set, List.length_append, List.length_replicate, List.length_cons, List.length_nil]; omega) | (simp; omega) | (simp [List.take_of_length_le]; done) | assumption | trivial | (simp [*]; done)), (by first | (rw [List.getElem?_map, Hx0_31_0]; rfl) | (rw [Nat.zero_add, List.getElem?_map, Hx0_31_0]; rfl) | exact True.intro | with_reducible rfl | with_reducible assumption | omega | (simp only [List.length_map, List.length_set, List.length_append, List.length_replicate, List.length_cons, List.length_nil]; omega) | (simp; done) | (simp; omega) | (simp [List.take_of_length_le]; done) | (simp [← List.map_take, ← List.map_drop]; done) | assumption | trivial | (simp [*, b_si, d_si]; done)), (by first | exact True.intro | with_reducible rfl | with_reducible assumption | omega | (simp only [List.length_map, List.length_set, List.length_append, List.length_replicate, List.length_cons, List.length_nil]; omega) | (simp; omega) | (simp [List.take_of_length_le]; done) | assumption | trivial | (simp [*]; done)), (by first | (rw [List.getElem?_map, Hx1_31_0]; rfl) | (rw [Nat.zero_add, List.getElem?_map, Hx1_31_0]; rfl) | exact True.intro | with_reducible rfl | with_reducible assumption | omega | (simp only [List.length_map, List.length_set, List.length_append, List.length_replicate, List.length_cons, List.length_nil]; omega) | (simp; done) | (simp; omega) | (simp [List.take_of_length_le]; done) | (simp [← List.map_take, ← List.map_drop]; done) | assumption | trivial | (simp [*, b_si, d_si]; done)), (nt h_31_0_1), trivial, trivial⟩
      have ih := t31_0 (l0_0 := l0_0) (l1_0 := l1_0) (a0 := a0) (a1 := a1) hy0 hy1 l0_31_0 l1_31_0 (p_31_0 ++ [x0_31_0]) (p_31_0_1 ++ [x1_31_0])  (by rw [List.append_assoc]; exact hp0) (by rw [List.append_assoc]; exact hp1) (by simp only [List.length_map, List.length_set, List.length_append, List.length_replicate, List.length_cons, List.length_nil]; omega) (by simp only [List.length_map, List.length_set, List.length_append, List.length_replicate, List.length_cons, List.length_nil] at hl1; omega)
      rw [show ((p_31_0 ++ [x0_31_0]).length : Int) = (p_31_0.length : Int) + 1 from by simp] at ih
      rw [show (⟨[(0, (.one (.bor l0_0 (List.map b_si a0)))), (1, (.one (.bor l1_0 (List.map b_si a1)))), (5, (.one (.val (.int .i64 (IntKind.wrap .i64 ((List.length p_31_0 : Int) + 1))))))], []⟩ : St) = h31_0 l0_0 l1_0 a0 a1 ((List.length p_31_0 : Int) + 1)  from by first | (unfold h31_0; simp only [hw]; done) | (unfold h31_0; simp only [hw, List.length_map, List.length_set, List.length_append, List.length_replicate, List.length_cons, List.length_nil]; done) | (unfold h31_0; simp [hw, List.take_of_length_le, d_si, d_iiiLsiEi, d_iiLsiELiiiLsiEiELsiEiii, d_b, d_i, d_LsiE, d_LiiiLsiEiE, fromBR_si, fromBR_b, fromBR_i]; done)] at st
      exact .loopN st ih
/-! loop.example/g00539/spec.l14SameWeights -/
def m31 (a0 : (List K_si)) (a1 : (List K_si)) : Bool :=
  if (((List.length (List.map b_si a0)) : Int) != ((List.length (List.map b_si a1)) : Int)) = true then false else
  (match r31_0 a0 a0 a1 0 with | .k0 w0_31_0_1 w1_31_0_1 => true | .k1 => false)
theorem e31 {l0_0 : Nat} {a0 : (List K_si)} {l1_0 : Nat} {a1 : (List K_si)} (hy0 : List.length a0 * 24 ≤ 140737488351232) (hy1 : List.length a1 * 24 ≤ 140737488351232) : Ev F X (.call 31 [(.one (.bor l0_0 (List.map b_si a0))), (.one (.bor l1_0 (List.map b_si a1)))] [] [] [(.one (.val (.bool (m31 a0 a1))))]) := by
  unfold m31
  by_cases h0 : (((List.length (List.map b_si a0)) : Int) != ((List.length (List.map b_si a1)) : Int)) = true
  · try simp only [if_pos h0]
    exact callP_ok (ps := []) (os := []) (rs := [(.one (.val (.bool false)))]) (by kernel_rfl) (.f h0 (.h 12 (.b true) .nil))
  · try simp only [if_neg h0]
    cases h1 : r31_0 a0 a0 a1 0 with
    | k0 w0_31_0_1 w1_31_0_1 =>
      try dsimp only
      have f1 : (⟨[(0, (.one (.bor l0_0 (List.map b_si a0)))), (1, (.one (.bor l1_0 (List.map b_si a1)))), (5, (.one (.val (.int .i64 0))))], []⟩ : St) = h31_0 l0_0 l1_0 a0 a1 0  := (by first | rfl | (unfold h31_0; simp [List.take_of_length_le, d_si, d_iiiLsiEi, d_iiLsiELiiiLsiEiELsiEiii, d_b, d_i, d_LsiE, d_LiiiLsiEiE, fromBR_si, fromBR_b, fromBR_i]; done))
      have f2 : Ev F X (.code l31_0 (h31_0 l0_0 l1_0 a0 a1 0 ) (.exit 0) ⟨[(0, (.one (.bor l0_0 (List.map b_si a0)))), (1, (.one (.bor l1_0 (List.map b_si a1)))), (5, (.one (.val (.int .i64 w0_31_0_1)))), (14, (.one (.val (.bool w1_31_0_1))))], []⟩) := (by have t : Ev F X (.code l31_0 (h31_0 l0_0 l1_0 a0 a1 0 ) (ex31_0 (r31_0 a0 a0 a1 0)) (fin31_0 l0_0 l1_0 a0 a1 (r31_0 a0 a0 a1 0))) := t31_0 (l0_0 := l0_0) (l1_0 := l1_0) (a0 := a0) (a1 := a1) (by first | assumption | omega) (by first | assumption | omega) a0 a1 [] []  rfl rfl rfl (by first | omega | (simp at *; omega)); rw [h1] at t; exact t)
      exact callP_ok (ps := []) (os := []) (rs := [(.one (.val (.bool true)))]) (by kernel_rfl) (.f (nt h0) (.f f1 (.f f2 (.h 12 (.b false) (.h 15 (.loop (h31_0 l0_0 l1_0 a0 a1 0 ) (.exit 0) ⟨[(0, (.one (.bor l0_0 (List.map b_si a0)))), (1, (.one (.bor l1_0 (List.map b_si a1)))), (5, (.one (.val (.int .i64 w0_31_0_1)))), (14, (.one (.val (.bool w1_31_0_1))))], []⟩) .nil)))))
    | k1 =>
      try dsimp only
      have f1 : (⟨[(0, (.one (.bor l0_0 (List.map b_si a0)))), (1, (.one (.bor l1_0 (List.map b_si a1)))), (5, (.one (.val (.int .i64 0))))], []⟩ : St) = h31_0 l0_0 l1_0 a0 a1 0  := (by first | rfl | (unfold h31_0; simp [List.take_of_length_le, d_si, d_iiiLsiEi, d_iiLsiELiiiLsiEiELsiEiii, d_b, d_i, d_LsiE, d_LiiiLsiEiE, fromBR_si, fromBR_b, fromBR_i]; done))
      have f2 : Ev F X (.code l31_0 (h31_0 l0_0 l1_0 a0 a1 0 ) .ret ⟨[(4, (.one (.val (.bool false))))], []⟩) := (by have t : Ev F X (.code l31_0 (h31_0 l0_0 l1_0 a0 a1 0 ) (ex31_0 (r31_0 a0 a0 a1 0)) (fin31_0 l0_0 l1_0 a0 a1 (r31_0 a0 a0 a1 0))) := t31_0 (l0_0 := l0_0) (l1_0 := l1_0) (a0 := a0) (a1 := a1) (by first | assumption | omega) (by first | assumption | omega) a0 a1 [] []  rfl rfl rfl (by first | omega | (simp at *; omega)); rw [h1] at t; exact t)
      exact callP_ok (ps := []) (os := []) (rs := [(.one (.val (.bool false)))]) (by kernel_rfl) (.f (nt h0) (.f f1 (.f f2 (.h 12 (.b false) (.h 15 (.loop (h31_0 l0_0 l1_0 a0 a1 0 ) .ret ⟨[(4, (.one (.val (.bool false))))], []⟩) .nil)))))
theorem eqr31_0 (a0 : (List K_si)) : ∀ (l m : List K_si) (i : Int), l.length = m.length → (r31_0 a0 l m i = .k1 ∧ l ≠ m) ∨ (∃ w0 w1, r31_0 a0 l m i = .k0 w0 w1 ∧ l = m)
  | [], [], i, _ => .inr ⟨_, _, rfl, rfl⟩
  | [], _ :: _, i, h => by simp at h
  | _ :: _, [], i, h => by simp at h
  | x :: l, y :: m, i, h => by
    have ih := eqr31_0 a0 l m (i + 1) (by simpa using h)
    by_cases hxy : x = y
    · subst hxy
      have e : r31_0 a0 (x :: l) (x :: m) i = r31_0 a0 l m (i + 1) := by simp [r31_0, ba_eq]
      rw [e]
      rcases ih with ⟨h1, h2⟩ | ⟨w0, w1, h1, h2⟩
      · exact .inl ⟨h1, by simp [h2]⟩
      · exact .inr ⟨_, _, h1, by rw [h2]⟩
    · have e : r31_0 a0 (x :: l) (y :: m) i = .k1 := by
        simp only [r31_0]
        first
          | ((repeat' split) <;> simp_all [ba_eq]; done)
          | (cases x; cases y; (repeat' split) <;> simp_all [ba_eq])
      exact .inl ⟨e, by simp [hxy]⟩
open Classical in
theorem eqd31 (a b : (List K_si)) : m31 a b = decide (a = b) := by
  rw [Bool.eq_iff_iff, decide_eq_true_eq]
  unfold m31
  by_cases hl : List.length a = List.length b
  · rcases eqr31_0 a a b 0 hl with ⟨h1, h2⟩ | ⟨w0, w1, h1, h2⟩
    · simp only [h1, List.length_map, hl]
      first
        | (simp [h2, ba_eq]; done)
        | (cases a; cases b; simp_all [ba_eq]; done)
        | (cases a; cases b; (repeat' split) <;> simp_all [ba_eq])
    · simp only [h1, List.length_map, hl]
      first
        | (simp [h2, ba_eq]; done)
        | (cases a; cases b; simp_all [ba_eq]; done)
        | (cases a; cases b; (repeat' split) <;> simp_all [ba_eq])
  · have hn : a ≠ b := by rintro rfl; exact hl rfl
    simp only [List.length_map]
    first
      | (simp [hn, hl, ba_eq]; done)
      | ((repeat' split) <;> simp_all [ba_eq]; done)
      | (simp [hn]; omega)
/-! loop 17_0 -/
inductive O17_0 where
  | k0 (w0 : Int) (w1 : Bool)
  | k1
def r17_0 (a0 : K_iiLsiELiiiLsiEiELsiEiii) : List K_iiiLsiEi → List K_iiiLsiEi → Int → O17_0
  | x0_17_0 :: l0_17_0, x1_17_0 :: l1_17_0, i_17_0 =>
    if (x0_17_0.f0 != x1_17_0.f0) = true then (O17_0.k1) else
    if (x0_17_0.f1 != x1_17_0.f1) = true then (O17_0.k1) else
      if (x0_17_0.f2 != x1_17_0.f2) = true then (O17_0.k1) else
        if (x0_17_0.f4 != x1_17_0.f4) = true then (O17_0.k1) else
          if (!(m31 x0_17_0.f3 x1_17_0.f3)) = true then (O17_0.k1) else
            (r17_0 a0 l0_17_0 l1_17_0 (i_17_0 + 1) )
  | _, _, i_17_0 => (O17_0.k0 i_17_0 (decide (i_17_0 < ((List.length (List.map b_iiiLsiEi a0.f3)) : Int))))
def h17_0 (l0_2 : Nat) (l0_3 : Nat) (l0_4 : Nat) (l1_2 : Nat) (l1_3 : Nat) (l1_4 : Nat) (a0 : K_iiLsiELiiiLsiEiELsiEiii) (a1 : K_iiLsiELiiiLsiEiELsiEiii) (i_17_0 : Int)  : St := ⟨[(2, (.ptr ⟨(2, 0, 0), [], 0, 0, 8⟩)), (3, (.ptr ⟨(3, 0, 0), [], 0, 0, 8⟩)), (5, (.one (.val (.int .i64 i_17_0))))], [((2, 0, 0), .live ⟨8, [[(.val (.int .i64 a0.f0)), (.val (.int .i64 a0.f1)), (.bor l0_2 (List.map b_si a0.f2)), (.bor l0_3 (List.map b_iiiLsiEi a0.f3)), (.bor l0_4 (List.map b_si a0.f4)), (.val (.int .i64 a0.f5)), (.val (.int .i64 a0.f6)), (.val (.int .i64 a0.f7))]], []⟩), ((3, 0, 0), .live ⟨8, [[(.val (.int .i64 a1.f0)), (.val (.int .i64 a1.f1)), (.bor l1_2 (List.map b_si a1.f2)), (.bor l1_3 (List.map b_iiiLsiEi a1.f3)), (.bor l1_4 (List.map b_si a1.f4)), (.val (.int .i64 a1.f5)), (.val (.int .i64 a1.f6)), (.val (.int .i64 a1.f7))]], []⟩)]⟩
def ex17_0 : O17_0 → VX.Exit
  | .k0 _ _ => (.exit 0)
  | .k1 => .ret
def fin17_0 (l0_2 : Nat) (l0_3 : Nat) (l0_4 : Nat) (l1_2 : Nat) (l1_3 : Nat) (l1_4 : Nat) (a0 : K_iiLsiELiiiLsiEiELsiEiii) (a1 : K_iiLsiELiiiLsiEiELsiEiii) : O17_0 → St
  | .k0 w0 w1 => ⟨[(2, (.ptr ⟨(2, 0, 0), [], 0, 0, 8⟩)), (3, (.ptr ⟨(3, 0, 0), [], 0, 0, 8⟩)), (5, (.one (.val (.int .i64 w0)))), (54, (.one (.val (.bool w1))))], [((2, 0, 0), .live ⟨8, [[(.val (.int .i64 a0.f0)), (.val (.int .i64 a0.f1)), (.bor l0_2 (List.map b_si a0.f2)), (.bor l0_3 (List.map b_iiiLsiEi a0.f3)), (.bor l0_4 (List.map b_si a0.f4)), (.val (.int .i64 a0.f5)), (.val (.int .i64 a0.f6)), (.val (.int .i64 a0.f7))]], []⟩), ((3, 0, 0), .live ⟨8, [[(.val (.int .i64 a1.f0)), (.val (.int .i64 a1.f1)), (.bor l1_2 (List.map b_si a1.f2)), (.bor l1_3 (List.map b_iiiLsiEi a1.f3)), (.bor l1_4 (List.map b_si a1.f4)), (.val (.int .i64 a1.f5)), (.val (.int .i64 a1.f6)), (.val (.int .i64 a1.f7))]], []⟩)]⟩
  | .k1 => ⟨[(4, (.one (.val (.bool false))))], []⟩
theorem t17_0 {l0_2 : Nat} {l0_3 : Nat} {l0_4 : Nat} {l1_2 : Nat} {l1_3 : Nat} {l1_4 : Nat} {a0 : K_iiLsiELiiiLsiEiELsiEiii} {a1 : K_iiLsiELiiiLsiEiELsiEiii} (hy0 : List.length a0.f2 * 24 ≤ 140737488351232) (hy1 : List.length a0.f3 * 56 ≤ 140737488351232) (hy2 : ∀ z ∈ a0.f3, ok_iiiLsiEi z) (hy3 : List.length a0.f4 * 24 ≤ 140737488351232) (hy4 : List.length a1.f2 * 24 ≤ 140737488351232) (hy5 : List.length a1.f3 * 56 ≤ 140737488351232) (hy6 : ∀ z ∈ a1.f3, ok_iiiLsiEi z) (hy7 : List.length a1.f4 * 24 ≤ 140737488351232) : ∀ (l0_17_0 : List K_iiiLsiEi) (l1_17_0 : List K_iiiLsiEi) (p_17_0 : List K_iiiLsiEi) (p_17_0_1 : List K_iiiLsiEi) , p_17_0 ++ l0_17_0 = a0.f3 → p_17_0_1 ++ l1_17_0 = a1.f3 → List.length p_17_0 = List.length p_17_0_1 → List.length l0_17_0 = List.length l1_17_0 → Ev F X (.code l17_0 (h17_0 l0_2 l0_3 l0_4 l1_2 l1_3 l1_4 a0 a1 (List.length p_17_0 : Int) ) (ex17_0 (r17_0 a0 l0_17_0 l1_17_0 (List.length p_17_0 : Int) )) (fin17_0 l0_2 l0_3 l0_4 l1_2 l1_3 l1_4 a0 a1 (r17_0 a0 l0_17_0 l1_17_0 (List.length p_17_0 : Int) )))
  | [], [], p_17_0, p_17_0_1, hp0, hp1, hq1, hl1 => by
    have hc : ¬ (decide ((List.length p_17_0 : Int) < ((List.length (List.map b_iiiLsiEi a0.f3)) : Int))) = true := by
      rw [← hp0]; simp only [List.length_map, List.length_set, List.length_append, List.length_replicate, List.length_cons, List.length_nil, decide_eq_true_eq]; omega
    have st := codeH_ok (F := F) (X := X) (c := b17_0) (t := 0) (hs := [(10, .b false)]) (σ := h17_0 l0_2 l0_3 l0_4 l1_2 l1_3 l1_4 a0 a1 (List.length p_17_0 : Int) ) (σ' := ⟨[(2, (.ptr ⟨(2, 0, 0), [], 0, 0, 8⟩)), (3, (.ptr ⟨(3, 0, 0), [], 0, 0, 8⟩)), (5, (.one (.val (.int .i64 (List.length p_17_0 : Int))))), (54, (.one (.val (.bool (decide ((List.length p_17_0 : Int) < ((List.length (List.map b_iiiLsiEi a0.f3)) : Int)))))))], [((2, 0, 0), .live ⟨8, [[(.val (.int .i64 a0.f0)), (.val (.int .i64 a0.f1)), (.bor l0_2 (List.map b_si a0.f2)), (.bor l0_3 (List.map b_iiiLsiEi a0.f3)), (.bor l0_4 (List.map b_si a0.f4)), (.val (.int .i64 a0.f5)), (.val (.int .i64 a0.f6)), (.val (.int .i64 a0.f7))]], []⟩), ((3, 0, 0), .live ⟨8, [[(.val (.int .i64 a1.f0)), (.val (.int .i64 a1.f1)), (.bor l1_2 (List.map b_si a1.f2)), (.bor l1_3 (List.map b_iiiLsiEi a1.f3)), (.bor l1_4 (List.map b_si a1.f4)), (.val (.int .i64 a1.f5)), (.val (.int .i64 a1.f6)), (.val (.int .i64 a1.f7))]], []⟩)]⟩) (e := (.exit 0)) (t' := 11) (hs' := []) (q := [(decide ((List.length p_17_0 : Int) < ((List.length (List.map b_iiiLsiEi a0.f3)) : Int))) = false]) (by kernel_rfl) ⟨(nt hc), trivial⟩
    rw [show (⟨[(2, (.ptr ⟨(2, 0, 0), [], 0, 0, 8⟩)), (3, (.ptr ⟨(3, 0, 0), [], 0, 0, 8⟩)), (5, (.one (.val (.int .i64 (List.length p_17_0 : Int))))), (54, (.one (.val (.bool (decide ((List.length p_17_0 : Int) < ((List.length (List.map b_iiiLsiEi a0.f3)) : Int)))))))], [((2, 0, 0), .live ⟨8, [[(.val (.int .i64 a0.f0)), (.val (.int .i64 a0.f1)), (.bor l0_2 (List.map b_si a0.f2)), (.bor l0_3 (List.map b_iiiLsiEi a0.f3)), (.bor l0_4 (List.map b_si a0.f4)), (.val (.int .i64 a0.f5)), (.val (.int .i64 a0.f6)), (.val (.int .i64 a0.f7))]], []⟩), ((3, 0, 0), .live ⟨8, [[(.val (.int .i64 a1.f0)), (.val (.int .i64 a1.f1)), (.bor l1_2 (List.map b_si a1.f2)), (.bor l1_3 (List.map b_iiiLsiEi a1.f3)), (.bor l1_4 (List.map b_si a1.f4)), (.val (.int .i64 a1.f5)), (.val (.int .i64 a1.f6)), (.val (.int .i64 a1.f7))]], []⟩)]⟩ : St) = fin17_0 l0_2 l0_3 l0_4 l1_2 l1_3 l1_4 a0 a1 (.k0 (List.length p_17_0 : Int) (decide ((List.length p_17_0 : Int) < ((List.length (List.map b_iiiLsiEi a0.f3)) : Int)))) from by first | rfl | (unfold fin17_0; simp [List.take_of_length_le, d_si, d_iiiLsiEi, d_iiLsiELiiiLsiEiELsiEiii, d_b, d_i, d_LsiE, d_LiiiLsiEiE, fromBR_si, fromBR_b, fromBR_i]; done)] at st
    exact .loopX st (show ((.exit 0) : VX.Exit) ≠ .normal from by simp)
  | x0_17_0 :: l0_17_0, x1_17_0 :: l1_17_0, p_17_0, p_17_0_1, hp0, hp1, hq1, hl1 => by
    have hc : (decide ((List.length p_17_0 : Int) < ((List.length (List.map b_iiiLsiEi a0.f3)) : Int))) = true := by
      rw [← hp0]; simp only [List.length_map, List.length_set, List.length_append, List.length_replicate, List.length_cons, List.length_nil, decide_eq_true_eq]; omega
    have Hx0_17_0 : (a0.f3)[Int.toNat (List.length p_17_0 : Int)]? = some x0_17_0 := by
      rw [← hp0, Int.toNat_natCast]; simp
    have Hx1_17_0 : (a1.f3)[Int.toNat (List.length p_17_0 : Int)]? = some x1_17_0 := by
      rw [← hp1, hq1, Int.toNat_natCast]; simp
    have Mx0_17_0_0 := hy2 x0_17_0 (List.mem_of_getElem? Hx0_17_0)
    have Mx1_17_0_0 := hy6 x1_17_0 (List.mem_of_getElem? Hx1_17_0)
    have hlen : List.length (a0.f3) = List.length p_17_0 + List.length l0_17_0 + 1 := by rw [← hp0]; simp; omega
    have hw : IntKind.wrap .i64 ((List.length p_17_0 : Int) + 1) = (List.length p_17_0 : Int) + 1 := wrap64 (by omega)
    simp only [r17_0]
    by_cases h_17_0_1 : (x0_17_0.f0 != x1_17_0.f0) = true
    · try simp only [if_pos h_17_0_1]
      have st := codeH_ok (F := F) (X := X) (c := b17_0) (t := 0) (hs := [(10, .b true), (18, .row [(.val (.int .i64 x0_17_0.f0)), (.val (.int .i64 x0_17_0.f1)), (.val (.int .i64 x0_17_0.f2)), (.sl (List.map b_si x0_17_0.f3)), (.val (.int .i64 x0_17_0.f4))]), (28, .row [(.val (.int .i64 x1_17_0.f0)), (.val (.int .i64 x1_17_0.f1)), (.val (.int .i64 x1_17_0.f2)), (.sl (List.map b_si x1_17_0.f3)), (.val (.int .i64 x1_17_0.f4))]), (51, .b true), (53, .b true), (55, .b true), (57, .b true), (59, .b true), (61, .b true), (63, .b true), (65, .b true), (67, .b true), (70, .b true)]) (σ := h17_0 l0_2 l0_3 l0_4 l1_2 l1_3 l1_4 a0 a1 (List.length p_17_0 : Int) ) (σ' := ⟨[(4, (.one (.val (.bool false))))], []⟩) (e := .ret) (t' := 142) (hs' := []) (q := [(decide ((List.length p_17_0 : Int) < ((List.length (List.map b_iiiLsiEi a0.f3)) : Int))) = true, 0 ≤ (List.length p_17_0 : Int), (List.map b_iiiLsiEi a0.f3)[(Int.toNat (List.length p_17_0 : Int))]? = some [(.val (.int .i64 x0_17_0.f0)), (.val (.int .i64 x0_17_0.f1)), (.val (.int .i64 x0_17_0.f2)), (.sl (List.map b_si x0_17_0.f3)), (.val (.int .i64 x0_17_0.f4))], 0 ≤ (List.length p_17_0 : Int), (List.map b_iiiLsiEi a1.f3)[(Int.toNat (List.length p_17_0 : Int))]? = some [(.val (.int .i64 x1_17_0.f0)), (.val (.int .i64 x1_17_0.f1)), (.val (.int .i64 x1_17_0.f2)), (.sl (List.map b_si x1_17_0.f3)), (.val (.int .i64 x1_17_0.f4))], (x0_17_0.f0 != x1_17_0.f0) = true, (x0_17_0.f0 != x1_17_0.f0) = true, (x0_17_0.f0 != x1_17_0.f0) = true, (x0_17_0.f0 != x1_17_0.f0) = true, (x0_17_0.f0 != x1_17_0.f0) = true, (x0_17_0.f0 != x1_17_0.f0) = true, (x0_17_0.f0 != x1_17_0.f0) = true, (x0_17_0.f0 != x1_17_0.f0) = true, (x0_17_0.f0 != x1_17_0.f0) = true, (x0_17_0.f0 != x1_17_0.f0) = true]) (by kernel_rfl) ⟨hc, (by first | exact True.intro | with_reducible rfl | with_reducible assumption | omega | (simp only [List.length_map, List.length_set, List.length_append, List.length_replicate, List.length_cons, List.length_nil]; omega) | (simp; omega) | (simp [List.take_of_length_le]; done) | assumption | trivial | (simp [*]; done)), (by first | (rw [List.getElem?_map, Hx0_17_0]; rfl) | (rw [Nat.zero_add, List.getElem?_map, Hx0_17_0]; rfl) | exact True.intro | with_reducible rfl | with_reducible assumption | omega | (simp only [List.length_map, List.length_set, List.length_append, List.length_replicate, List.length_cons, List.length_nil]; omega) | (simp; done) | (simp; omega) | (simp [List.take_of_length_le]; done) | (simp [← List.map_take, ← List.map_drop]; done) | assumption | trivial | (simp [*, b_si, b_iiiLsiEi, d_si, d_iiiLsiEi]; done)), (by first | exact True.intro | with_reducible rfl | with_reducible assumption | omega | (simp only [List.length_map, List.length_set, List.length_append, List.length_replicate, List.length_cons, List.length_nil]; omega) | (simp; omega) | (simp [List.take_of_length_le]; done) | assumption | trivial | (simp [*]; done)), (by first | (rw [List.getElem?_map, Hx1_17_0]; rfl) | (rw [Nat.zero_add, List.getElem?_map, Hx1_17_0]; rfl) | exact True.intro | with_reducible rfl | with_reducible assumption | omega | (simp only [List.length_map, List.length_set, List.length_append, List.length_replicate, List.length_cons, List.length_nil]; omega) | (simp; done) | (simp; omega) | (simp [List.take_of_length_le]; done) | (simp [← List.map_take, ← List.map_drop]; done) | assumption | trivial | (simp [*, b_si, b_iiiLsiEi, d_si, d_iiiLsiEi]; done)), h_17_0_1, h_17_0_1, h_17_0_1, h_17_0_1, h_17_0_1, h_17_0_1, h_17_0_1, h_17_0_1, h_17_0_1, h_17_0_1, trivial⟩
      rw [show (⟨[(4, (.one (.val (.bool false))))], []⟩ : St) = fin17_0 l0_2 l0_3 l0_4 l1_2 l1_3 l1_4 a0 a1 (.k1) from by first | rfl | (unfold fin17_0; simp [List.take_of_length_le, d_si, d_iiiLsiEi, d_iiLsiELiiiLsiEiELsiEiii, d_b, d_i, d_LsiE, d_LiiiLsiEiE, fromBR_si, fromBR_b, fromBR_i]; done)] at st
      exact .loopX st (show (.ret : VX.Exit) ≠ .normal from by simp)
    · try simp only [if_neg h_17_0_1]
      by_cases h_17_0_2 : (x0_17_0.f1 != x1_17_0.f1) = true
      · try simp only [if_pos h_17_0_2]
        have st := codeH_ok (F := F) (X := X) (c := b17_0) (t := 0) (hs := [(10, .b true), (18, .row [(.val (.int .i64 x0_17_0.f0)), (.val (.int .i64 x0_17_0.f1)), (.val (.int .i64 x0_17_0.f2)), (.sl (List.map b_si x0_17_0.f3)), (.val (.int .i64 x0_17_0.f4))]), (28, .row [(.val (.int .i64 x1_17_0.f0)), (.val (.int .i64 x1_17_0.f1)), (.val (.int .i64 x1_17_0.f2)), (.sl (List.map b_si x1_17_0.f3)), (.val (.int .i64 x1_17_0.f4))]), (51, .b false), (53, .b false), (55, .b false), (57, .b false), (59, .b false), (61, .b false), (63, .b false), (65, .b false), (67, .b false), (70, .b false), (73, .b true), (75, .b true), (77, .b true), (79, .b true), (81, .b true), (83, .b true), (85, .b true), (87, .b true), (89, .b true), (92, .b true)]) (σ := h17_0 l0_2 l0_3 l0_4 l1_2 l1_3 l1_4 a0 a1 (List.length p_17_0 : Int) ) (σ' := ⟨[(4, (.one (.val (.bool false))))], []⟩) (e := .ret) (t' := 142) (hs' := []) (q := [(decide ((List.length p_17_0 : Int) < ((List.length (List.map b_iiiLsiEi a0.f3)) : Int))) = true, 0 ≤ (List.length p_17_0 : Int), (List.map b_iiiLsiEi a0.f3)[(Int.toNat (List.length p_17_0 : Int))]? = some [(.val (.int .i64 x0_17_0.f0)), (.val (.int .i64 x0_17_0.f1)), (.val (.int .i64 x0_17_0.f2)), (.sl (List.map b_si x0_17_0.f3)), (.val (.int .i64 x0_17_0.f4))], 0 ≤ (List.length p_17_0 : Int), (List.map b_iiiLsiEi a1.f3)[(Int.toNat (List.length p_17_0 : Int))]? = some [(.val (.int .i64 x1_17_0.f0)), (.val (.int .i64 x1_17_0.f1)), (.val (.int .i64 x1_17_0.f2)), (.sl (List.map b_si x1_17_0.f3)), (.val (.int .i64 x1_17_0.f4))], (x0_17_0.f0 != x1_17_0.f0) = false, (x0_17_0.f0 != x1_17_0.f0) = false, (x0_17_0.f0 != x1_17_0.f0) = false, (x0_17_0.f0 != x1_17_0.f0) = false, (x0_17_0.f0 != x1_17_0.f0) = false, (x0_17_0.f0 != x1_17_0.f0) = false, (x0_17_0.f0 != x1_17_0.f0) = false, (x0_17_0.f0 != x1_17_0.f0) = false, (x0_17_0.f0 != x1_17_0.f0) = false, (x0_17_0.f0 != x1_17_0.f0) = false, (x0_17_0.f1 != x1_17_0.f1) = true, (x0_17_0.f1 != x1_17_0.f1) = true, (x0_17_0.f1 != x1_17_0.f1) = true, (x0_17_0.f1 != x1_17_0.f1) = true, (x0_17_0.f1 != x1_17_0.f1) = true, (x0_17_0.f1 != x1_17_0.f1) = true, (x0_17_0.f1 != x1_17_0.f1) = true, (x0_17_0.f1 != x1_17_0.f1) = true, (x0_17_0.f1 != x1_17_0.f1) = true, (x0_17_0.f1 != x1_17_0.f1) = true]) (by kernel_rfl) ⟨hc, (by first | exact True.intro | with_reducible rfl | with_reducible assumption | omega | (simp only [List.length_map, List.length_set, List.length_append, List.length_replicate, List.length_cons, List.length_nil]; omega) | (simp; omega) | (simp [List.take_of_length_le]; done) | assumption | trivial | (simp [*]; done)), (by first | (rw [List.getElem?_map, Hx0_17_0]; rfl) | (rw [Nat.zero_add, List.getElem?_map, Hx0_17_0]; rfl) | exact True.intro | with_reducible rfl | with_reducible assumption | omega | (simp only [List.length_map, List.length_set, List.length_append, List.length_replicate, List.length_cons, List.length_nil]; omega) | (simp; done) | (simp; omega) | (simp [List.take_of_length_le]; done) | (simp [← List.map_take, ← List.map_drop]; done) | assumption | trivial | (simp [*, b_si, b_iiiLsiEi, d_si, d_iiiLsiEi]; done)), (by first | exact True.intro | with_reducible rfl | with_reducible assumption | omega | (simp only [List.length_map, List.length_set, List.length_append, List.length_replicate, List.length_cons, List.length_nil]; omega) | (simp; omega) | (simp [List.take_of_length_le]; done) | assumption | trivial | (simp [*]; done)), (by first | (rw [List.getElem?_map, Hx1_17_0]; rfl) | (rw [Nat.zero_add, List.getElem?_map, Hx1_17_0]; rfl) | exact True.intro | with_reducible rfl | with_reducible assumption | omega | (simp only [List.length_map, List.length_set, List.length_append, List.length_replicate, List.length_cons, List.length_nil]; omega) | (simp; done) | (simp; omega) | (simp [List.take_of_length_le]; done) | (simp [← List.map_take, ← List.map_drop]; done) | assumption | trivial | (simp [*, b_si, b_iiiLsiEi, d_si, d_iiiLsiEi]; done)), (nt h_17_0_1), (nt h_17_0_1), (nt h_17_0_1), (nt h_17_0_1), (nt h_17_0_1), (nt h_17_0_1), (nt h_17_0_1), (nt h_17_0_1), (nt h_17_0_1), (nt h_17_0_1), h_17_0_2, h_17_0_2, h_17_0_2, h_17_0_2, h_17_0_2, h_17_0_2, h_17_0_2, h_17_0_2, h_17_0_2, h_17_0_2, trivial⟩
        rw [show (⟨[(4, (.one (.val (.bool false))))], []⟩ : St) = fin17_0 l0_2 l0_3 l0_4 l1_2 l1_3 l1_4 a0 a1 (.k1) from by first | rfl | (unfold fin17_0; simp [List.take_of_length_le, d_si, d_iiiLsiEi, d_iiLsiELiiiLsiEiELsiEiii, d_b, d_i, d_LsiE, d_LiiiLsiEiE, fromBR_si, fromBR_b, fromBR_i]; done)] at st
        exact .loopX st (show (.ret : VX.Exit) ≠ .normal from by simp)
      · try simp only [if_neg h_17_0_2]
        by_cases h_17_0_3 : (x0_17_0.f2 != x1_17_0.f2) = true
        · try simp only [if_pos h_17_0_3]
          have st := codeH_ok (F := F) (X := X) (c := b17_0) (t := 0) (hs := [(10, .b true), (18, .row [(.val (.int .i64 x0_17_0.f0)), (.val (.int .i64 x0_17_0.f1)), (.val (.int .i64 x0_17_0.f2)), (.sl (List.map b_si x0_17_0.f3)), (.val (.int .i64 x0_17_0.f4))]), (28, .row [(.val (.int .i64 x1_17_0.f0)), (.val (.int .i64 x1_17_0.f1)), (.val (.int .i64 x1_17_0.f2)), (.sl (List.map b_si x1_17_0.f3)), (.val (.int .i64 x1_17_0.f4))]), (51, .b false), (53, .b false), (55, .b false), (57, .b false), (59, .b false), (61, .b false), (63, .b false), (65, .b false), (67, .b false), (70, .b false), (73, .b false), (75, .b false), (77, .b false), (79, .b false), (81, .b false), (83, .b false), (85, .b false), (87, .b false), (89, .b false), (92, .b false), (95, .b true), (97, .b true), (99, .b true), (101, .b true), (103, .b true), (105, .b true), (107, .b true), (109, .b true), (111, .b true), (114, .b true)]) (σ := h17_0 l0_2 l0_3 l0_4 l1_2 l1_3 l1_4 a0 a1 (List.length p_17_0 : Int) ) (σ' := ⟨[(4, (.one (.val (.bool false))))], []⟩) (e := .ret) (t' := 142) (hs' := []) (q := [(decide ((List.length p_17_0 : Int) < ((List.length (List.map b_iiiLsiEi a0.f3)) : Int))) = true, 0 ≤ (List.length p_17_0 : Int), (List.map b_iiiLsiEi a0.f3)[(Int.toNat (List.length p_17_0 : Int))]? = some [(.val (.int .i64 x0_17_0.f0)), (.val (.int .i64 x0_17_0.f1)), (.val (.int .i64 x0_17_0.f2)), (.sl (List.map b_si x0_17_0.f3)), (.val (.int .i64 x0_17_0.f4))], 0 ≤ (List.length p_17_0 : Int), (List.map b_iiiLsiEi a1.f3)[(Int.toNat (List.length p_17_0 : Int))]? = some [(.val (.int .i64 x1_17_0.f0)), (.val (.int .i64 x1_17_0.f1)), (.val (.int .i64 x1_17_0.f2)), (.sl (List.map b_si x1_17_0.f3)), (.val (.int .i64 x1_17_0.f4))], (x0_17_0.f0 != x1_17_0.f0) = false, (x0_17_0.f0 != x1_17_0.f0) = false, (x0_17_0.f0 != x1_17_0.f0) = false, (x0_17_0.f0 != x1_17_0.f0) = false, (x0_17_0.f0 != x1_17_0.f0) = false, (x0_17_0.f0 != x1_17_0.f0) = false, (x0_17_0.f0 != x1_17_0.f0) = false, (x0_17_0.f0 != x1_17_0.f0) = false, (x0_17_0.f0 != x1_17_0.f0) = false, (x0_17_0.f0 != x1_17_0.f0) = false, (x0_17_0.f1 != x1_17_0.f1) = false, (x0_17_0.f1 != x1_17_0.f1) = false, (x0_17_0.f1 != x1_17_0.f1) = false, (x0_17_0.f1 != x1_17_0.f1) = false, (x0_17_0.f1 != x1_17_0.f1) = false, (x0_17_0.f1 != x1_17_0.f1) = false, (x0_17_0.f1 != x1_17_0.f1) = false, (x0_17_0.f1 != x1_17_0.f1) = false, (x0_17_0.f1 != x1_17_0.f1) = false, (x0_17_0.f1 != x1_17_0.f1) = false, (x0_17_0.f2 != x1_17_0.f2) = true, (x0_17_0.f2 != x1_17_0.f2) = true, (x0_17_0.f2 != x1_17_0.f2) = true, (x0_17_0.f2 != x1_17_0.f2) = true, (x0_17_0.f2 != x1_17_0.f2) = true, (x0_17_0.f2 != x1_17_0.f2) = true, (x0_17_0.f2 != x1_17_0.f2) = true, (x0_17_0.f2 != x1_17_0.f2) = true, (x0_17_0.f2 != x1_17_0.f2) = true, (x0_17_0.f2 != x1_17_0.f2) = true]) (by kernel_rfl) ⟨hc, (by first | exact True.intro | with_reducible rfl | with_reducible assumption | omega | (simp only [List.length_map, List.length_set, List.length_append, List.length_replicate, List.length_cons, List.length_nil]; omega) | (simp; omega) | (simp [List.take_of_length_le]; done) | assumption | trivial | (simp [*]; done)), (by first | (rw [List.getElem?_map, Hx0_17_0]; rfl) | (rw [Nat.zero_add, List.getElem?_map, Hx0_17_0]; rfl) | exact True.intro | with_reducible rfl | with_reducible assumption | omega | (simp only [List.length_map, List.length_set, List.length_append, List.length_replicate, List.length_cons, List.length_nil]; omega) | (simp; done) | (simp; omega) | (simp [List.take_of_length_le]; done) | (simp [← List.map_take, ← List.map_drop]; done) | assumption | trivial | (simp [*, b_si, b_iiiLsiEi, d_si, d_iiiLsiEi]; done)), (by first | exact True.intro | with_reducible rfl | with_reducible assumption | omega | (simp only [List.length_map, List.length_set, List.length_append, List.length_replicate, List.length_cons, List.length_nil]; omega) | (simp; omega) | (simp [List.take_of_length_le]; done) | assumption | trivial | (simp [*]; done)), (by first | (rw [List.getElem?_map, Hx1_17_0]; rfl) | (rw [Nat.zero_add, List.getElem?_map, Hx1_17_0]; rfl) | exact True.intro | with_reducible rfl | with_reducible assumption | omega | (simp only [List.length_map, List.length_set, List.length_append, List.length_replicate, List.length_cons, List.length_nil]; omega) | (simp; done) | (simp; omega) | (simp [List.take_of_length_le]; done) | (simp [← List.map_take, ← List.map_drop]; done) | assumption | trivial | (simp [*, b_si, b_iiiLsiEi, d_si, d_iiiLsiEi]; done)), (nt h_17_0_1), (nt h_17_0_1), (nt h_17_0_1), (nt h_17_0_1), (nt h_17_0_1), (nt h_17_0_1), (nt h_17_0_1), (nt h_17_0_1), (nt h_17_0_1), (nt h_17_0_1), (nt h_17_0_2), (nt h_17_0_2), (nt h_17_0_2), (nt h_17_0_2), (nt h_17_0_2), (nt h_17_0_2), (nt h_17_0_2), (nt h_17_0_2), (nt h_17_0_2), (nt h_17_0_2), h_17_0_3, h_17_0_3, h_17_0_3, h_17_0_3, h_17_0_3, h_17_0_3, h_17_0_3, h_17_0_3, h_17_0_3, h_17_0_3, trivial⟩
          rw [show (⟨[(4, (.one (.val (.bool false))))], []⟩ : St) = fin17_0 l0_2 l0_3 l0_4 l1_2 l1_3 l1_4 a0 a1 (.k1) from by first | rfl | (unfold fin17_0; simp [List.take_of_length_le, d_si, d_iiiLsiEi, d_iiLsiELiiiLsiEiELsiEiii, d_b, d_i, d_LsiE, d_LiiiLsiEiE, fromBR_si, fromBR_b, fromBR_i]; done)] at st
          exact .loopX st (show (.ret : VX.Exit) ≠ .normal from by simp)
        · try simp only [if_neg h_17_0_3]
          by_cases h_17_0_4 : (x0_17_0.f4 != x1_17_0.f4) = true
          · try simp only [if_pos h_17_0_4]
            have st := codeH_ok (F := F) (X := X) (c := b17_0) (t := 0) (hs := [(10, .b true), (18, .row [(.val (.int .i64 x0_17_0.f0)), (.val (.int .i64 x0_17_0.f1)), (.val (.int .i64 x0_17_0.f2)), (.sl (List.map b_si x0_17_0.f3)), (.val (.int .i64 x0_17_0.f4))]), (28, .row [(.val (.int .i64 x1_17_0.f0)), (.val (.int .i64 x1_17_0.f1)), (.val (.int .i64 x1_17_0.f2)), (.sl (List.map b_si x1_17_0.f3)), (.val (.int .i64 x1_17_0.f4))]), (51, .b false), (53, .b false), (55, .b false), (57, .b false), (59, .b false), (61, .b false), (63, .b false), (65, .b false), (67, .b false), (70, .b false), (73, .b false), (75, .b false), (77, .b false), (79, .b false), (81, .b false), (83, .b false), (85, .b false), (87, .b false), (89, .b false), (92, .b false), (95, .b false), (97, .b false), (99, .b false), (101, .b false), (103, .b false), (105, .b false), (107, .b false), (109, .b false), (111, .b false), (114, .b false), (117, .b true), (119, .b true), (121, .b true), (123, .b true), (125, .b true), (127, .b true), (129, .b true), (131, .b true), (133, .b true), (135, .b true), (138, .b true)]) (σ := h17_0 l0_2 l0_3 l0_4 l1_2 l1_3 l1_4 a0 a1 (List.length p_17_0 : Int) ) (σ' := ⟨[(4, (.one (.val (.bool false))))], []⟩) (e := .ret) (t' := 142) (hs' := []) (q := [(decide ((List.length p_17_0 : Int) < ((List.length (List.map b_iiiLsiEi a0.f3)) : Int))) = true, 0 ≤ (List.length p_17_0 : Int), (List.map b_iiiLsiEi a0.f3)[(Int.toNat (List.length p_17_0 : Int))]? = some [(.val (.int .i64 x0_17_0.f0)), (.val (.int .i64 x0_17_0.f1)), (.val (.int .i64 x0_17_0.f2)), (.sl (List.map b_si x0_17_0.f3)), (.val (.int .i64 x0_17_0.f4))], 0 ≤ (List.length p_17_0 : Int), (List.map b_iiiLsiEi a1.f3)[(Int.toNat (List.length p_17_0 : Int))]? = some [(.val (.int .i64 x1_17_0.f0)), (.val (.int .i64 x1_17_0.f1)), (.val (.int .i64 x1_17_0.f2)), (.sl (List.map b_si x1_17_0.f3)), (.val (.int .i64 x1_17_0.f4))], (x0_17_0.f0 != x1_17_0.f0) = false, (x0_17_0.f0 != x1_17_0.f0) = false, (x0_17_0.f0 != x1_17_0.f0) = false, (x0_17_0.f0 != x1_17_0.f0) = false, (x0_17_0.f0 != x1_17_0.f0) = false, (x0_17_0.f0 != x1_17_0.f0) = false, (x0_17_0.f0 != x1_17_0.f0) = false, (x0_17_0.f0 != x1_17_0.f0) = false, (x0_17_0.f0 != x1_17_0.f0) = false, (x0_17_0.f0 != x1_17_0.f0) = false, (x0_17_0.f1 != x1_17_0.f1) = false, (x0_17_0.f1 != x1_17_0.f1) = false, (x0_17_0.f1 != x1_17_0.f1) = false, (x0_17_0.f1 != x1_17_0.f1) = false, (x0_17_0.f1 != x1_17_0.f1) = false, (x0_17_0.f1 != x1_17_0.f1) = false, (x0_17_0.f1 != x1_17_0.f1) = false, (x0_17_0.f1 != x1_17_0.f1) = false, (x0_17_0.f1 != x1_17_0.f1) = false, (x0_17_0.f1 != x1_17_0.f1) = false, (x0_17_0.f2 != x1_17_0.f2) = false, (x0_17_0.f2 != x1_17_0.f2) = false, (x0_17_0.f2 != x1_17_0.f2) = false, (x0_17_0.f2 != x1_17_0.f2) = false, (x0_17_0.f2 != x1_17_0.f2) = false, (x0_17_0.f2 != x1_17_0.f2) = false, (x0_17_0.f2 != x1_17_0.f2) = false, (x0_17_0.f2 != x1_17_0.f2) = false, (x0_17_0.f2 != x1_17_0.f2) = false, (x0_17_0.f2 != x1_17_0.f2) = false, (x0_17_0.f4 != x1_17_0.f4) = true, (x0_17_0.f4 != x1_17_0.f4) = true, (x0_17_0.f4 != x1_17_0.f4) = true, (x0_17_0.f4 != x1_17_0.f4) = true, (x0_17_0.f4 != x1_17_0.f4) = true, (x0_17_0.f4 != x1_17_0.f4) = true, (x0_17_0.f4 != x1_17_0.f4) = true, (x0_17_0.f4 != x1_17_0.f4) = true, (x0_17_0.f4 != x1_17_0.f4) = true, (x0_17_0.f4 != x1_17_0.f4) = true, (x0_17_0.f4 != x1_17_0.f4) = true]) (by kernel_rfl) ⟨hc, (by first | exact True.intro | with_reducible rfl | with_reducible assumption | omega | (simp only [List.length_map, List.length_set, List.length_append, List.length_replicate, List.length_cons, List.length_nil]; omega) | (simp; omega) | (simp [List.take_of_length_le]; done) | assumption | trivial | (simp [*]; done)), (by first | (rw [List.getElem?_map, Hx0_17_0]; rfl) | (rw [Nat.zero_add, List.getElem?_map, Hx0_17_0]; rfl) | exact True.intro | with_reducible rfl | with_reducible assumption | omega | (simp only [List.length_map, List.length_set, List.length_append, List.length_replicate, List.length_cons, List.length_nil]; omega) | (simp; done) | (simp; omega) | (simp [List.take_of_length_le]; done) | (simp [← List.map_take, ← List.map_drop]; done) | assumption | trivial | (simp [*, b_si, b_iiiLsiEi, d_si, d_iiiLsiEi]; done)), (by first | exact True.intro | with_reducible rfl | with_reducible assumption | omega | (simp only [List.length_map, List.length_set, List.length_append, List.length_replicate, List.length_cons, List.length_nil]; omega) | (simp; omega) | (simp [List.take_of_length_le]; done) | assumption | trivial | (simp [*]; done)), (by first | (rw [List.getElem?_map, Hx1_17_0]; rfl) | (rw [Nat.zero_add, List.getElem?_map, Hx1_17_0]; rfl) | exact True.intro | with_reducible rfl | with_reducible assumption | omega | (simp only [List.length_map, List.length_set, List.length_append, List.length_replicate, List.length_cons, List.length_nil]; omega) | (simp; done) | (simp; omega) | (simp [List.take_of_length_le]; done) | (simp [← List.map_take, ← List.map_drop]; done) | assumption | trivial | (simp [*, b_si, b_iiiLsiEi, d_si, d_iiiLsiEi]; done)), (nt h_17_0_1), (nt h_17_0_1), (nt h_17_0_1), (nt h_17_0_1), (nt h_17_0_1), (nt h_17_0_1), (nt h_17_0_1), (nt h_17_0_1), (nt h_17_0_1), (nt h_17_0_1), (nt h_17_0_2), (nt h_17_0_2), (nt h_17_0_2), (nt h_17_0_2), (nt h_17_0_2), (nt h_17_0_2), (nt h_17_0_2), (nt h_17_0_2), (nt h_17_0_2), (nt h_17_0_2), (nt h_17_0_3), (nt h_17_0_3), (nt h_17_0_3), (nt h_17_0_3), (nt h_17_0_3), (nt h_17_0_3), (nt h_17_0_3), (nt h_17_0_3), (nt h_17_0_3), (nt h_17_0_3), h_17_0_4, h_17_0_4, h_17_0_4, h_17_0_4, h_17_0_4, h_17_0_4, h_17_0_4, h_17_0_4, h_17_0_4, h_17_0_4, h_17_0_4, trivial⟩
            rw [show (⟨[(4, (.one (.val (.bool false))))], []⟩ : St) = fin17_0 l0_2 l0_3 l0_4 l1_2 l1_3 l1_4 a0 a1 (.k1) from by first | rfl | (unfold fin17_0; simp [List.take_of_length_le, d_si, d_iiiLsiEi, d_iiLsiELiiiLsiEiELsiEiii, d_b, d_i, d_LsiE, d_LiiiLsiEiE, fromBR_si, fromBR_b, fromBR_i]; done)] at st
            exact .loopX st (show (.ret : VX.Exit) ≠ .normal from by simp)
          · try simp only [if_neg h_17_0_4]
            by_cases h_17_0_5 : (!(m31 x0_17_0.f3 x1_17_0.f3)) = true
            · try simp only [if_pos h_17_0_5]
              have st := codeH_ok (F := F) (X := X) (c := b17_0) (t := 0) (hs := [(10, .b true), (18, .row [(.val (.int .i64 x0_17_0.f0)), (.val (.int .i64 x0_17_0.f1)), (.val (.int .i64 x0_17_0.f2)), (.sl (List.map b_si x0_17_0.f3)), (.val (.int .i64 x0_17_0.f4))]), (28, .row [(.val (.int .i64 x1_17_0.f0)), (.val (.int .i64 x1_17_0.f1)), (.val (.int .i64 x1_17_0.f2)), (.sl (List.map b_si x1_17_0.f3)), (.val (.int .i64 x1_17_0.f4))]), (51, .b false), (53, .b false), (55, .b false), (57, .b false), (59, .b false), (61, .b false), (63, .b false), (65, .b false), (67, .b false), (70, .b false), (73, .b false), (75, .b false), (77, .b false), (79, .b false), (81, .b false), (83, .b false), (85, .b false), (87, .b false), (89, .b false), (92, .b false), (95, .b false), (97, .b false), (99, .b false), (101, .b false), (103, .b false), (105, .b false), (107, .b false), (109, .b false), (111, .b false), (114, .b false), (117, .b false), (119, .b false), (121, .b false), (123, .b false), (125, .b false), (127, .b false), (129, .b false), (131, .b false), (133, .b false), (134, .ret [] [(.one (.val (.bool (m31 x0_17_0.f3 x1_17_0.f3))))] [] []), (135, .b false), (138, .b false), (139, .b true)]) (σ := h17_0 l0_2 l0_3 l0_4 l1_2 l1_3 l1_4 a0 a1 (List.length p_17_0 : Int) ) (σ' := ⟨[(4, (.one (.val (.bool false))))], []⟩) (e := .ret) (t' := 142) (hs' := []) (q := [(decide ((List.length p_17_0 : Int) < ((List.length (List.map b_iiiLsiEi a0.f3)) : Int))) = true, 0 ≤ (List.length p_17_0 : Int), (List.map b_iiiLsiEi a0.f3)[(Int.toNat (List.length p_17_0 : Int))]? = some [(.val (.int .i64 x0_17_0.f0)), (.val (.int .i64 x0_17_0.f1)), (.val (.int .i64 x0_17_0.f2)), (.sl (List.map b_si x0_17_0.f3)), (.val (.int .i64 x0_17_0.f4))], 0 ≤ (List.length p_17_0 : Int), (List.map b_iiiLsiEi a1.f3)[(Int.toNat (List.length p_17_0 : Int))]? = some [(.val (.int .i64 x1_17_0.f0)), (.val (.int .i64 x1_17_0.f1)), (.val (.int .i64 x1_17_0.f2)), (.sl (List.map b_si x1_17_0.f3)), (.val (.int .i64 x1_17_0.f4))], (x0_17_0.f0 != x1_17_0.f0) = false, (x0_17_0.f0 != x1_17_0.f0) = false, (x0_17_0.f0 != x1_17_0.f0) = false, (x0_17_0.f0 != x1_17_0.f0) = false, (x0_17_0.f0 != x1_17_0.f0) = false, (x0_17_0.f0 != x1_17_0.f0) = false, (x0_17_0.f0 != x1_17_0.f0) = false, (x0_17_0.f0 != x1_17_0.f0) = false, (x0_17_0.f0 != x1_17_0.f0) = false, (x0_17_0.f0 != x1_17_0.f0) = false, (x0_17_0.f1 != x1_17_0.f1) = false, (x0_17_0.f1 != x1_17_0.f1) = false, (x0_17_0.f1 != x1_17_0.f1) = false, (x0_17_0.f1 != x1_17_0.f1) = false, (x0_17_0.f1 != x1_17_0.f1) = false, (x0_17_0.f1 != x1_17_0.f1) = false, (x0_17_0.f1 != x1_17_0.f1) = false, (x0_17_0.f1 != x1_17_0.f1) = false, (x0_17_0.f1 != x1_17_0.f1) = false, (x0_17_0.f1 != x1_17_0.f1) = false, (x0_17_0.f2 != x1_17_0.f2) = false, (x0_17_0.f2 != x1_17_0.f2) = false, (x0_17_0.f2 != x1_17_0.f2) = false, (x0_17_0.f2 != x1_17_0.f2) = false, (x0_17_0.f2 != x1_17_0.f2) = false, (x0_17_0.f2 != x1_17_0.f2) = false, (x0_17_0.f2 != x1_17_0.f2) = false, (x0_17_0.f2 != x1_17_0.f2) = false, (x0_17_0.f2 != x1_17_0.f2) = false, (x0_17_0.f2 != x1_17_0.f2) = false, (x0_17_0.f4 != x1_17_0.f4) = false, (x0_17_0.f4 != x1_17_0.f4) = false, (x0_17_0.f4 != x1_17_0.f4) = false, (x0_17_0.f4 != x1_17_0.f4) = false, (x0_17_0.f4 != x1_17_0.f4) = false, (x0_17_0.f4 != x1_17_0.f4) = false, (x0_17_0.f4 != x1_17_0.f4) = false, (x0_17_0.f4 != x1_17_0.f4) = false, (x0_17_0.f4 != x1_17_0.f4) = false, Ev F X (.call 31 [(.one (.bor (l0_3 + 1) (List.map b_si x0_17_0.f3))), (.one (.bor (l1_3 + 1) (List.map b_si x1_17_0.f3)))] [] [] [(.one (.val (.bool (m31 x0_17_0.f3 x1_17_0.f3))))]), (x0_17_0.f4 != x1_17_0.f4) = false, (x0_17_0.f4 != x1_17_0.f4) = false, (!(m31 x0_17_0.f3 x1_17_0.f3)) = true]) (by kernel_rfl) ⟨hc, (by first | exact True.intro | with_reducible rfl | with_reducible assumption | omega | (simp only [List.length_map, List.length_set, List.length_append, List.length_replicate, List.length_cons, List.length_nil]; omega) | (simp; omega) | (simp [List.take_of_length_le]; done) | assumption | trivial | (simp [*]; done)), (by first | (rw [List.getElem?_map, Hx0_17_0]; rfl) | (rw [Nat.zero_add, List.getElem?_map, Hx0_17_0]; rfl) | exact True.intro | with_reducible rfl | with_reducible assumption | omega | (simp only [List.length_map, List.length_set, List.length_append, List.length_replicate, List.length_cons, List.length_nil]; omega) | (simp; done) | (simp; omega) | (simp [List.take_of_length_le]; done) | (simp [← List.map_take, ← List.map_drop]; done) | assumption | trivial | (simp [*, b_si, b_iiiLsiEi, d_si, d_iiiLsiEi]; done)), (by first | exact True.intro | with_reducible rfl | with_reducible assumption | omega | (simp only [List.length_map, List.length_set, List.length_append, List.length_replicate, List.length_cons, List.length_nil]; omega) | (simp; omega) | (simp [List.take_of_length_le]; done) | assumption | trivial | (simp [*]; done)), (by first | (rw [List.getElem?_map, Hx1_17_0]; rfl) | (rw [Nat.zero_add, List.getElem?_map, Hx1_17_0]; rfl) | exact True.intro | with_reducible rfl | with_reducible assumption | omega | (simp only [List.length_map, List.length_set, List.length_append, List.length_replicate, List.length_cons, List.length_nil]; omega) | (simp; done) | (simp; omega) | (simp [List.take_of_length_le]; done) | (simp [← List.map_take, ← List.map_drop]; done) | assumption | trivial | (simp [*, b_si, b_iiiLsiEi, d_si, d_iiiLsiEi]; done)), (nt h_17_0_1), (nt h_17_0_1), (nt h_17_0_1), (nt h_17_0_1), (nt h_17_0_1), (nt h_17_0_1), (nt h_17_0_1), (nt h_17_0_1), (nt h_17_0_1), (nt h_17_0_1), (nt h_17_0_2), (nt h_17_0_2), (nt h_17_0_2), (nt h_17_0_2), (nt h_17_0_2), (nt h_17_0_2), (nt h_17_0_2), (nt h_17_0_2), (nt h_17_0_2), (nt h_17_0_2), (nt h_17_0_3), (nt h_17_0_3), (nt h_17_0_3), (nt h_17_0_3), (nt h_17_0_3), (nt h_17_0_3), (nt h_17_0_3), (nt h_17_0_3), (nt h_17_0_3), (nt h_17_0_3), (nt h_17_0_4), (nt h_17_0_4), (nt h_17_0_4), (nt h_17_0_4), (nt h_17_0_4), (nt h_17_0_4), (nt h_17_0_4), (nt h_17_0_4), (nt h_17_0_4), (e31 (a0 := x0_17_0.f3) (a1 := x1_17_0.f3) (by first | with_reducible assumption | omega | assumption | (simp only [List.length_map]; omega) | (simp; omega)) (by first | with_reducible assumption | omega | assumption | (simp only [List.length_map]; omega) | (simp; omega))), (nt h_17_0_4), (nt h_17_0_4), h_17_0_5, trivial⟩
              rw [show (⟨[(4, (.one (.val (.bool false))))], []⟩ : St) = fin17_0 l0_2 l0_3 l0_4 l1_2 l1_3 l1_4 a0 a1 (.k1) from by first | rfl | (unfold fin17_0; simp [List.take_of_length_le, d_si, d_iiiLsiEi, d_iiLsiELiiiLsiEiELsiEiii, d_b, d_i, d_LsiE, d_LiiiLsiEiE, fromBR_si, fromBR_b, fromBR_i]; done)] at st
              exact .loopX st (show (.ret : VX.Exit) ≠ .normal from by simp)
            · try simp only [if_neg h_17_0_5]
              have st := codeH_ok (F := F) (X := X) (c := b17_0) (t := 0) (hs := [(10, .b true), (18, .row [(.val (.int .i64 x0_17_0.f0)), (.val (.int .i64 x0_17_0.f1)), (.val (.int .i64 x0_17_0.f2)), (.sl (List.map b_si x0_17_0.f3)), (.val (.int .i64 x0_17_0.f4))]), (28, .row [(.val (.int .i64 x1_17_0.f0)), (.val (.int .i64 x1_17_0.f1)), (.val (.int .i64 x1_17_0.f2)), (.sl (List.map b_si x1_17_0.f3)), (.val (.int .i64 x1_17_0.f4))]), (51, .b false), (53, .b false), (55, .b false), (57, .b false), (59, .b false), (61, .b false), (63, .b false), (65, .b false), (67, .b false), (70, .b false), (73, .b false), (75, .b false), (77, .b false), (79, .b false), (81, .b false), (83, .b false), (85, .b false), (87, .b false), (89, .b false), (92, .b false), (95, .b false), (97, .b false), (99, .b false), (101, .b false), (103, .b false), (105, .b false), (107, .b false), (109, .b false), (111, .b false), (114, .b false), (117, .b false), (119, .b false), (121, .b false), (123, .b false), (125, .b false), (127, .b false), (129, .b false), (131, .b false), (133, .b false), (134, .ret [] [(.one (.val (.bool (m31 x0_17_0.f3 x1_17_0.f3))))] [] []), (135, .b false), (138, .b false), (139, .b false)]) (σ := h17_0 l0_2 l0_3 l0_4 l1_2 l1_3 l1_4 a0 a1 (List.length p_17_0 : Int) ) (σ' := ⟨[(2, (.ptr ⟨(2, 0, 0), [], 0, 0, 8⟩)), (3, (.ptr ⟨(3, 0, 0), [], 0, 0, 8⟩)), (5, (.one (.val (.int .i64 (IntKind.wrap .i64 ((List.length p_17_0 : Int) + 1))))))], [((2, 0, 0), .live ⟨8, [[(.val (.int .i64 a0.f0)), (.val (.int .i64 a0.f1)), (.bor l0_2 (List.map b_si a0.f2)), (.bor l0_3 (List.map b_iiiLsiEi a0.f3)), (.bor l0_4 (List.map b_si a0.f4)), (.val (.int .i64 a0.f5)), (.val (.int .i64 a0.f6)), (.val (.int .i64 a0.f7))]], []⟩), ((3, 0, 0), .live ⟨8, [[(.val (.int .i64 a1.f0)), (.val (.int .i64 a1.f1)), (.bor l1_2 (List.map b_si a1.f2)), (.bor l1_3 (List.map b_iiiLsiEi a1.f3)), (.bor l1_4 (List.map b_si a1.f4)), (.val (.int .i64 a1.f5)), (.val (.int .i64 a1.f6)), (.val (.int .i64 a1.f7))]], []⟩)]⟩) (e := .normal) (t' := 146) (hs' := []) (q := [(decide ((List.length p_17_0 : Int) < ((List.length (List.map b_iiiLsiEi a0.f3)) : Int))) = true, 0 ≤ (List.length p_17_0 : Int), (List.map b_iiiLsiEi a0.f3)[(Int.toNat (List.length p_17_0 : Int))]? = some [(.val (.int .i64 x0_17_0.f0)), (.val (.int .i64 x0_17_0.f1)), (.val (.int .i64 x0_17_0.f2)), (.sl (List.map b_si x0_17_0.f3)), (.val (.int .i64 x0_17_0.f4))], 0 ≤ (List.length p_17_0 : Int), (List.map b_iiiLsiEi a1.f3)[(Int.toNat (List.length p_17_0 : Int))]? = some [(.val (.int .i64 x1_17_0.f0)), (.val (.int .i64 x1_17_0.f1)), (.val (.int .i64 x1_17_0.f2)), (.sl (List.map b_si x1_17_0.f3)), (.val (.int .i64 x1_17_0.f4))], (x0_17_0.f0 != x1_17_0.f0) = false, (x0_17_0.f0 != x1_17_0.f0) = false, (x0_17_0.f0 != x1_17_0.f0) = false, (x0_17_0.f0 != x1_17_0.f0) = false, (x0_17_0.f0 != x1_17_0.f0) = false, (x0_17_0.f0 != x1_17_0.f0) = false, (x0_17_0.f0 != x1_17_0.f0) = false, (x0_17_0.f0 != x1_17_0.f0) = false, (x0_17_0.f0 != x1_17_0.f0) = false, (x0_17_0.f0 != x1_17_0.f0) = false, (x0_17_0.f1 != x1_17_0.f1) = false, (x0_17_0.f1 != x1_17_0.f1) = false, (x0_17_0.f1 != x1_17_0.f1) = false, (x0_17_0.f1 != x1_17_0.f1) = false, (x0_17_0.f1 != x1_17_0.f1) = false, (x0_17_0.f1 != x1_17_0.f1) = false, (x0_17_0.f1 != x1_17_0.f1) = false, (x0_17_0.f1 != x1_17_0.f1) = false, (x0_17_0.f1 != x1_17_0.f1) = false, (x0_17_0.f1 != x1_17_0.f1) = false, (x0_17_0.f2 != x1_17_0.f2) = false, (x0_17_0.f2 != x1_17_0.f2) = false, (x0_17_0.f2 != x1_17_0.f2) = false, (x0_17_0.f2 != x1_17_0.f2) = false, (x0_17_0.f2 != x1_17_0.f2) = false, (x0_17_0.f2 != x1_17_0.f2) = false, (x0_17_0.f2 != x1_17_0.f2) = false, (x0_17_0.f2 != x1_17_0.f2) = false, (x0_17_0.f2 != x1_17_0.f2) = false, (x0_17_0.f2 != x1_17_0.f2) = false, (x0_17_0.f4 != x1_17_0.f4) = false, (x0_17_0.f4 != x1_17_0.f4) = false, (x0_17_0.f4 != x1_17_0.f4) = false, (x0_17_0.f4 != x1_17_0.f4) = false, (x0_17_0.f4 != x1_17_0.f4) = false, (x0_17_0.f4 != x1_17_0.f4) = false, (x0_17_0.f4 != x1_17_0.f4) = false, (x0_17_0.f4 != x1_17_0.f4) = false, (x0_17_0.f4 != x1_17_0.f4) = false, Ev F X (.call 31 [(.one (.bor (l0_3 + 1) (List.map b_si x0_17_0.f3))), (.one (.bor (l1_3 + 1) (List.map b_si x1_17_0.f3)))] [] [] [(.one (.val (.bool (m31 x0_17_0.f3 x1_17_0.f3))))]), (x0_17_0.f4 != x1_17_0.f4) = false, (x0_17_0.f4 != x1_17_0.f4) = false, (!(m31 x0_17_0.f3 x1_17_0.f3)) = false, True]) (by kernel_rfl) ⟨hc, (by first | exact True.intro | with_reducible rfl | with_reducible assumption | omega | (simp only [List.length_map, List.length_set, List.length_append, List.length_replicate, List.length_cons, List.length_nil]; omega) | (simp; omega) | (simp [List.take_of_length_le]; done) | assumption | trivial | (simp [*]; done)), (by first | (rw [List.getElem?_map, Hx0_17_0]; rfl) | (rw [Nat.zero_add, List.getElem?_map, Hx0_17_0]; rfl) | exact True.intro | with_reducible rfl | with_reducible assumption | omega | (simp only [List.length_map, List.length_set, List.length_append, List.length_replicate, List.length_cons, List.length_nil]; omega) | (simp; done) | (simp; omega) | (simp [List.take_of_length_le]; done) | (simp [← List.map_take, ← List.map_drop]; done) | assumption | trivial | (simp [*, b_si, b_iiiLsiEi, d_si, d_iiiLsiEi]; done)), (by first | exact True.intro | with_reducible rfl | with_reducible assumption | omega | (simp only [List.length_map, List.length_set, List.length_append, List.length_replicate, List.length_cons, List.length_nil]; omega) | (simp; omega) | (simp [List.take_of_length_le]; done) | assumption | trivial | (simp [*]; done)), (by first | (rw [List.getElem?_map, Hx1_17_0]; rfl) | (rw [Nat.zero_add, List.getElem?_map, Hx1_17_0]; rfl) | exact True.intro | with_reducible rfl | with_reducible assumption | omega | (simp only [List.length_map, List.length_set, List.length_append, List.length_replicate, List.length_cons, List.length_nil]; omega) | (simp; done) | (simp; omega) | (simp [List.take_of_length_le]; done) | (simp [← List.map_take, ← List.map_drop]; done) | assumption | trivial | (simp [*, b_si, b_iiiLsiEi, d_si, d_iiiLsiEi]; done)), (nt h_17_0_1), (nt h_17_0_1), (nt h_17_0_1), (nt h_17_0_1), (nt h_17_0_1), (nt h_17_0_1), (nt h_17_0_1), (nt h_17_0_1), (nt h_17_0_1), (nt h_17_0_1), (nt h_17_0_2), (nt h_17_0_2), (nt h_17_0_2), (nt h_17_0_2), (nt h_17_0_2), (nt h_17_0_2), (nt h_17_0_2), (nt h_17_0_2), (nt h_17_0_2), (nt h_17_0_2), (nt h_17_0_3), (nt h_17_0_3), (nt h_17_0_3), (nt h_17_0_3), (nt h_17_0_3), (nt h_17_0_3), (nt h_17_0_3), (nt h_17_0_3), (nt h_17_0_3), (nt h_17_0_3), (nt h_17_0_4), (nt h_17_0_4), (nt h_17_0_4), (nt h_17_0_4), (nt h_17_0_4), (nt h_17_0_4), (nt h_17_0_4), (nt h_17_0_4), (nt h_17_0_4), (e31 (a0 := x0_17_0.f3) (a1 := x1_17_0.f3) (by first | with_reducible assumption | omega | assumption | (simp only [List.length_map]; omega) | (simp; omega)) (by first | with_reducible assumption | omega | assumption | (simp only [List.length_map]; omega) | (simp; omega))), (nt h_17_0_4), (nt h_17_0_4), (nt h_17_0_5), trivial, trivial⟩
              have ih := t17_0 (l0_2 := l0_2) (l0_3 := l0_3) (l0_4 := l0_4) (l1_2 := l1_2) (l1_3 := l1_3) (l1_4 := l1_4) (a0 := a0) (a1 := a1) hy0 hy1 hy2 hy3 hy4 hy5 hy6 hy7 l0_17_0 l1_17_0 (p_17_0 ++ [x0_17_0]) (p_17_0_1 ++ [x1_17_0])  (by rw [List.append_assoc]; exact hp0) (by rw [List.append_assoc]; exact hp1) (by simp only [List.length_map, List.length_set, List.length_append, List.length_replicate, List.length_cons, List.length_nil]; omega) (by simp only [List.length_map, List.length_set, List.length_append, List.length_replicate, List.length_cons, List.length_nil] at hl1; omega)
              rw [show ((p_17_0 ++ [x0_17_0]).length : Int) = (p_17_0.length : Int) + 1 from by simp] at ih
              rw [show (⟨[(2, (.ptr ⟨(2, 0, 0), [], 0, 0, 8⟩)), (3, (.ptr ⟨(3, 0, 0), [], 0, 0, 8⟩)), (5, (.one (.val (.int .i64 (IntKind.wrap .i64 ((List.length p_17_0 : Int) + 1))))))], [((2, 0, 0), .live ⟨8, [[(.val (.int .i64 a0.f0)), (.val (.int .i64 a0.f1)), (.bor l0_2 (List.map b_si a0.f2)), (.bor l0_3 (List.map b_iiiLsiEi a0.f3)), (.bor l0_4 (List.map b_si a0.f4)), (.val (.int .i64 a0.f5)), (.val (.int .i64 a0.f6)), (.val (.int .i64 a0.f7))]], []⟩), ((3, 0, 0), .live ⟨8, [[(.val (.int .i64 a1.f0)), (.val (.int .i64 a1.f1)), (.bor l1_2 (List.map b_si a1.f2)), (.bor l1_3 (List.map b_iiiLsiEi a1.f3)), (.bor l1_4 (List.map b_si a1.f4)), (.val (.int .i64 a1.f5)), (.val (.int .i64 a1.f6)), (.val (.int .i64 a1.f7))]], []⟩)]⟩ : St) = h17_0 l0_2 l0_3 l0_4 l1_2 l1_3 l1_4 a0 a1 ((List.length p_17_0 : Int) + 1)  from by first | (unfold h17_0; simp only [hw]; done) | (unfold h17_0; simp only [hw, List.length_map, List.length_set, List.length_append, List.length_replicate, List.length_cons, List.length_nil]; done) | (unfold h17_0; simp [hw, List.take_of_length_le, d_si, d_iiiLsiEi, d_iiLsiELiiiLsiEiELsiEiii, d_b, d_i, d_LsiE, d_LiiiLsiEiE, fromBR_si, fromBR_b, fromBR_i]; done)] at st
              exact .loopN st ih
/-! loop.example/g00539/spec.SameLedgers -/
def m17 (a0 : K_iiLsiELiiiLsiEiELsiEiii) (a1 : K_iiLsiELiiiLsiEiELsiEiii) : Bool :=
  if (a0.f0 != a1.f0) = true then false else
  if (a0.f1 != a1.f1) = true then false else
    if (a0.f5 != a1.f5) = true then false else
      if (a0.f6 != a1.f6) = true then false else
        if (a0.f7 != a1.f7) = true then false else
          if (((List.length (List.map b_iiiLsiEi a0.f3)) : Int) != ((List.length (List.map b_iiiLsiEi a1.f3)) : Int)) = true then false else
            (match r17_0 a0 a0.f3 a1.f3 0 with | .k0 w0_17_0_33 w1_17_0_33 => (if (m31 a0.f2 a1.f2) = true then (m31 a0.f4 a1.f4) else false) | .k1 => false)
theorem e17 {l0_2 : Nat} {l0_3 : Nat} {l0_4 : Nat} {a0 : K_iiLsiELiiiLsiEiELsiEiii} {l1_2 : Nat} {l1_3 : Nat} {l1_4 : Nat} {a1 : K_iiLsiELiiiLsiEiELsiEiii} (hy0 : List.length a0.f2 * 24 ≤ 140737488351232) (hy1 : List.length a0.f3 * 56 ≤ 140737488351232) (hy2 : ∀ z ∈ a0.f3, ok_iiiLsiEi z) (hy3 : List.length a0.f4 * 24 ≤ 140737488351232) (hy4 : List.length a1.f2 * 24 ≤ 140737488351232) (hy5 : List.length a1.f3 * 56 ≤ 140737488351232) (hy6 : ∀ z ∈ a1.f3, ok_iiiLsiEi z) (hy7 : List.length a1.f4 * 24 ≤ 140737488351232) : Ev F X (.call 17 [(.agg [(.val (.int .i64 a0.f0)), (.val (.int .i64 a0.f1)), (.bor l0_2 (List.map b_si a0.f2)), (.bor l0_3 (List.map b_iiiLsiEi a0.f3)), (.bor l0_4 (List.map b_si a0.f4)), (.val (.int .i64 a0.f5)), (.val (.int .i64 a0.f6)), (.val (.int .i64 a0.f7))]), (.agg [(.val (.int .i64 a1.f0)), (.val (.int .i64 a1.f1)), (.bor l1_2 (List.map b_si a1.f2)), (.bor l1_3 (List.map b_iiiLsiEi a1.f3)), (.bor l1_4 (List.map b_si a1.f4)), (.val (.int .i64 a1.f5)), (.val (.int .i64 a1.f6)), (.val (.int .i64 a1.f7))])] [] [] [(.one (.val (.bool (m17 a0 a1))))]) := by
  unfold m17
  by_cases h0 : (a0.f0 != a1.f0) = true
  · try simp only [if_pos h0]
    exact callP_ok (ps := []) (os := []) (rs := [(.one (.val (.bool false)))]) (by kernel_rfl) (.f h0 (.f h0 (.f h0 (.f h0 (.f h0 (.f h0 (.h 18 (.b true) (.h 20 (.b true) (.h 22 (.b true) (.h 24 (.b true) (.h 26 (.b true) (.h 29 (.b true) .nil))))))))))))
  · try simp only [if_neg h0]
    by_cases h1 : (a0.f1 != a1.f1) = true
    · try simp only [if_pos h1]
      exact callP_ok (ps := []) (os := []) (rs := [(.one (.val (.bool false)))]) (by kernel_rfl) (.f (nt h0) (.f (nt h0) (.f (nt h0) (.f (nt h0) (.f (nt h0) (.f (nt h0) (.f h1 (.f h1 (.f h1 (.f h1 (.f h1 (.f h1 (.h 18 (.b false) (.h 20 (.b false) (.h 22 (.b false) (.h 24 (.b false) (.h 26 (.b false) (.h 29 (.b false) (.h 32 (.b true) (.h 34 (.b true) (.h 36 (.b true) (.h 38 (.b true) (.h 40 (.b true) (.h 43 (.b true) .nil))))))))))))))))))))))))
    · try simp only [if_neg h1]
      by_cases h2 : (a0.f5 != a1.f5) = true
      · try simp only [if_pos h2]
        exact callP_ok (ps := []) (os := []) (rs := [(.one (.val (.bool false)))]) (by kernel_rfl) (.f (nt h0) (.f (nt h0) (.f (nt h0) (.f (nt h0) (.f (nt h0) (.f (nt h0) (.f (nt h1) (.f (nt h1) (.f (nt h1) (.f (nt h1) (.f (nt h1) (.f (nt h1) (.f h2 (.f h2 (.f h2 (.f h2 (.f h2 (.f h2 (.h 18 (.b false) (.h 20 (.b false) (.h 22 (.b false) (.h 24 (.b false) (.h 26 (.b false) (.h 29 (.b false) (.h 32 (.b false) (.h 34 (.b false) (.h 36 (.b false) (.h 38 (.b false) (.h 40 (.b false) (.h 43 (.b false) (.h 46 (.b true) (.h 48 (.b true) (.h 50 (.b true) (.h 52 (.b true) (.h 54 (.b true) (.h 57 (.b true) .nil))))))))))))))))))))))))))))))))))))
      · try simp only [if_neg h2]
        by_cases h3 : (a0.f6 != a1.f6) = true
        · try simp only [if_pos h3]
          exact callP_ok (ps := []) (os := []) (rs := [(.one (.val (.bool false)))]) (by kernel_rfl) (.f (nt h0) (.f (nt h0) (.f (nt h0) (.f (nt h0) (.f (nt h0) (.f (nt h0) (.f (nt h1) (.f (nt h1) (.f (nt h1) (.f (nt h1) (.f (nt h1) (.f (nt h1) (.f (nt h2) (.f (nt h2) (.f (nt h2) (.f (nt h2) (.f (nt h2) (.f (nt h2) (.f h3 (.f h3 (.f h3 (.f h3 (.f h3 (.f h3 (.h 18 (.b false) (.h 20 (.b false) (.h 22 (.b false) (.h 24 (.b false) (.h 26 (.b false) (.h 29 (.b false) (.h 32 (.b false) (.h 34 (.b false) (.h 36 (.b false) (.h 38 (.b false) (.h 40 (.b false) (.h 43 (.b false) (.h 46 (.b false) (.h 48 (.b false) (.h 50 (.b false) (.h 52 (.b false) (.h 54 (.b false) (.h 57 (.b false) (.h 60 (.b true) (.h 62 (.b true) (.h 64 (.b true) (.h 66 (.b true) (.h 68 (.b true) (.h 71 (.b true) .nil))))))))))))))))))))))))))))))))))))))))))))))))
        · try simp only [if_neg h3]
          by_cases h4 : (a0.f7 != a1.f7) = true
          · try simp only [if_pos h4]
            exact callP_ok (ps := []) (os := []) (rs := [(.one (.val (.bool false)))]) (by kernel_rfl) (.f (nt h0) (.f (nt h0) (.f (nt h0) (.f (nt h0) (.f (nt h0) (.f (nt h0) (.f (nt h1) (.f (nt h1) (.f (nt h1) (.f (nt h1) (.f (nt h1) (.f (nt h1) (.f (nt h2) (.f (nt h2) (.f (nt h2) (.f (nt h2) (.f (nt h2) (.f (nt h2) (.f (nt h3) (.f (nt h3) (.f (nt h3) (.f (nt h3) (.f (nt h3) (.f (nt h3) (.f h4 (.f h4 (.f h4 (.f h4 (.f h4 (.f h4 (.f h4 (.f h4 (.h 18 (.b false) (.h 20 (.b false) (.h 22 (.b false) (.h 24 (.b false) (.h 26 (.b false) (.h 29 (.b false) (.h 32 (.b false) (.h 34 (.b false) (.h 36 (.b false) (.h 38 (.b false) (.h 40 (.b false) (.h 43 (.b false) (.h 46 (.b false) (.h 48 (.b false) (.h 50 (.b false) (.h 52 (.b false) (.h 54 (.b false) (.h 57 (.b false) (.h 60 (.b false) (.h 62 (.b false) (.h 64 (.b false) (.h 66 (.b false) (.h 68 (.b false) (.h 71 (.b false) (.h 74 (.b true) (.h 76 (.b true) (.h 78 (.b true) (.h 80 (.b true) (.h 82 (.b true) (.h 84 (.b true) (.h 86 (.b true) (.h 89 (.b true) .nil))))))))))))))))))))))))))))))))))))))))))))))))))))))))))))))))
          · try simp only [if_neg h4]
            by_cases h5 : (((List.length (List.map b_iiiLsiEi a0.f3)) : Int) != ((List.length (List.map b_iiiLsiEi a1.f3)) : Int)) = true
            · try simp only [if_pos h5]
              exact callP_ok (ps := []) (os := []) (rs := [(.one (.val (.bool false)))]) (by kernel_rfl) (.f (nt h0) (.f (nt h0) (.f (nt h0) (.f (nt h0) (.f (nt h0) (.f (nt h0) (.f (nt h1) (.f (nt h1) (.f (nt h1) (.f (nt h1) (.f (nt h1) (.f (nt h1) (.f (nt h2) (.f (nt h2) (.f (nt h2) (.f (nt h2) (.f (nt h2) (.f (nt h2) (.f (nt h3) (.f (nt h3) (.f (nt h3) (.f (nt h3) (.f (nt h3) (.f (nt h3) (.f (nt h4) (.f (nt h4) (.f (nt h4) (.f (nt h4) (.f (nt h4) (.f (nt h4) (.f (nt h4) (.f (nt h4) (.f h5 (.h 18 (.b false) (.h 20 (.b false) (.h 22 (.b false) (.h 24 (.b false) (.h 26 (.b false) (.h 29 (.b false) (.h 32 (.b false) (.h 34 (.b false) (.h 36 (.b false) (.h 38 (.b false) (.h 40 (.b false) (.h 43 (.b false) (.h 46 (.b false) (.h 48 (.b false) (.h 50 (.b false) (.h 52 (.b false) (.h 54 (.b false) (.h 57 (.b false) (.h 60 (.b false) (.h 62 (.b false) (.h 64 (.b false) (.h 66 (.b false) (.h 68 (.b false) (.h 71 (.b false) (.h 74 (.b false) (.h 76 (.b false) (.h 78 (.b false) (.h 80 (.b false) (.h 82 (.b false) (.h 84 (.b false) (.h 86 (.b false) (.h 89 (.b false) (.h 90 (.b true) .nil))))))))))))))))))))))))))))))))))))))))))))))))))))))))))))))))))
            · try simp only [if_neg h5]
              cases h6 : r17_0 a0 a0.f3 a1.f3 0 with
              | k0 w0_17_0_33 w1_17_0_33 =>
                try dsimp only
                have f33 : (⟨[(2, (.ptr ⟨(2, 0, 0), [], 0, 0, 8⟩)), (3, (.ptr ⟨(3, 0, 0), [], 0, 0, 8⟩)), (5, (.one (.val (.int .i64 0))))], [((2, 0, 0), .live ⟨8, [[(.val (.int .i64 a0.f0)), (.val (.int .i64 a0.f1)), (.bor l0_2 (List.map b_si a0.f2)), (.bor l0_3 (List.map b_iiiLsiEi a0.f3)), (.bor l0_4 (List.map b_si a0.f4)), (.val (.int .i64 a0.f5)), (.val (.int .i64 a0.f6)), (.val (.int .i64 a0.f7))]], []⟩), ((3, 0, 0), .live ⟨8, [[(.val (.int .i64 a1.f0)), (.val (.int .i64 a1.f1)), (.bor l1_2 (List.map b_si a1.f2)), (.bor l1_3 (List.map b_iiiLsiEi a1.f3)), (.bor l1_4 (List.map b_si a1.f4)), (.val (.int .i64 a1.f5)), (.val (.int .i64 a1.f6)), (.val (.int .i64 a1.f7))]], []⟩)]⟩ : St) = h17_0 l0_2 l0_3 l0_4 l1_2 l1_3 l1_4 a0 a1 0  := (by first | rfl | (unfold h17_0; simp [List.take_of_length_le, d_si, d_iiiLsiEi, d_iiLsiELiiiLsiEiELsiEiii, d_b, d_i, d_LsiE, d_LiiiLsiEiE, fromBR_si, fromBR_b, fromBR_i]; done))
                have f34 : Ev F X (.code l17_0 (h17_0 l0_2 l0_3 l0_4 l1_2 l1_3 l1_4 a0 a1 0 ) (.exit 0) ⟨[(2, (.ptr ⟨(2, 0, 0), [], 0, 0, 8⟩)), (3, (.ptr ⟨(3, 0, 0), [], 0, 0, 8⟩)), (5, (.one (.val (.int .i64 w0_17_0_33)))), (54, (.one (.val (.bool w1_17_0_33))))], [((2, 0, 0), .live ⟨8, [[(.val (.int .i64 a0.f0)), (.val (.int .i64 a0.f1)), (.bor l0_2 (List.map b_si a0.f2)), (.bor l0_3 (List.map b_iiiLsiEi a0.f3)), (.bor l0_4 (List.map b_si a0.f4)), (.val (.int .i64 a0.f5)), (.val (.int .i64 a0.f6)), (.val (.int .i64 a0.f7))]], []⟩), ((3, 0, 0), .live ⟨8, [[(.val (.int .i64 a1.f0)), (.val (.int .i64 a1.f1)), (.bor l1_2 (List.map b_si a1.f2)), (.bor l1_3 (List.map b_iiiLsiEi a1.f3)), (.bor l1_4 (List.map b_si a1.f4)), (.val (.int .i64 a1.f5)), (.val (.int .i64 a1.f6)), (.val (.int .i64 a1.f7))]], []⟩)]⟩) := (by have t : Ev F X (.code l17_0 (h17_0 l0_2 l0_3 l0_4 l1_2 l1_3 l1_4 a0 a1 0 ) (ex17_0 (r17_0 a0 a0.f3 a1.f3 0)) (fin17_0 l0_2 l0_3 l0_4 l1_2 l1_3 l1_4 a0 a1 (r17_0 a0 a0.f3 a1.f3 0))) := t17_0 (l0_2 := l0_2) (l0_3 := l0_3) (l0_4 := l0_4) (l1_2 := l1_2) (l1_3 := l1_3) (l1_4 := l1_4) (a0 := a0) (a1 := a1) (by first | assumption | omega) (by first | assumption | omega) (by first | assumption | omega) (by first | assumption | omega) (by first | assumption | omega) (by first | assumption | omega) (by first | assumption | omega) (by first | assumption | omega) a0.f3 a1.f3 [] []  rfl rfl rfl (by first | omega | (simp at *; omega)); rw [h6] at t; exact t)
                have f35 : Ev F X (.call 31 [(.one (.bor (l0_2 + 1) (List.map b_si a0.f2))), (.one (.bor (l1_2 + 1) (List.map b_si a1.f2)))] [] [] [(.one (.val (.bool (m31 a0.f2 a1.f2))))]) := (e31 (a0 := a0.f2) (a1 := a1.f2) (by first | with_reducible assumption | omega | assumption | (simp only [List.length_map]; omega) | (simp; omega)) (by first | with_reducible assumption | omega | assumption | (simp only [List.length_map]; omega) | (simp; omega)))
                by_cases h7 : (m31 a0.f2 a1.f2) = true
                · try simp only [if_pos h7]
                  have f41 : Ev F X (.call 31 [(.one (.bor (l0_4 + 1) (List.map b_si a0.f4))), (.one (.bor (l1_4 + 1) (List.map b_si a1.f4)))] [] [] [(.one (.val (.bool (m31 a0.f4 a1.f4))))]) := (e31 (a0 := a0.f4) (a1 := a1.f4) (by first | with_reducible assumption | omega | assumption | (simp only [List.length_map]; omega) | (simp; omega)) (by first | with_reducible assumption | omega | assumption | (simp only [List.length_map]; omega) | (simp; omega)))
                  exact callP_ok (ps := []) (os := []) (rs := [(.one (.val (.bool (m31 a0.f4 a1.f4))))]) (by kernel_rfl) (.f (nt h0) (.f (nt h0) (.f (nt h0) (.f (nt h0) (.f (nt h0) (.f (nt h0) (.f (nt h1) (.f (nt h1) (.f (nt h1) (.f (nt h1) (.f (nt h1) (.f (nt h1) (.f (nt h2) (.f (nt h2) (.f (nt h2) (.f (nt h2) (.f (nt h2) (.f (nt h2) (.f (nt h3) (.f (nt h3) (.f (nt h3) (.f (nt h3) (.f (nt h3) (.f (nt h3) (.f (nt h4) (.f (nt h4) (.f (nt h4) (.f (nt h4) (.f (nt h4) (.f (nt h4) (.f (nt h4) (.f (nt h4) (.f (nt h5) (.f f33 (.f f34 (.h 18 (.b false) (.h 20 (.b false) (.h 22 (.b false) (.h 24 (.b false) (.h 26 (.b false) (.h 29 (.b false) (.h 32 (.b false) (.h 34 (.b false) (.h 36 (.b false) (.h 38 (.b false) (.h 40 (.b false) (.h 43 (.b false) (.h 46 (.b false) (.h 48 (.b false) (.h 50 (.b false) (.h 52 (.b false) (.h 54 (.b false) (.h 57 (.b false) (.h 60 (.b false) (.h 62 (.b false) (.h 64 (.b false) (.h 66 (.b false) (.h 68 (.b false) (.h 71 (.b false) (.h 74 (.b false) (.h 76 (.b false) (.h 78 (.b false) (.h 80 (.b false) (.h 82 (.b false) (.h 84 (.b false) (.h 86 (.b false) (.h 89 (.b false) (.h 90 (.b false) (.h 93 (.loop (h17_0 l0_2 l0_3 l0_4 l1_2 l1_3 l1_4 a0 a1 0 ) (.exit 0) ⟨[(2, (.ptr ⟨(2, 0, 0), [], 0, 0, 8⟩)), (3, (.ptr ⟨(3, 0, 0), [], 0, 0, 8⟩)), (5, (.one (.val (.int .i64 w0_17_0_33)))), (54, (.one (.val (.bool w1_17_0_33))))], [((2, 0, 0), .live ⟨8, [[(.val (.int .i64 a0.f0)), (.val (.int .i64 a0.f1)), (.bor l0_2 (List.map b_si a0.f2)), (.bor l0_3 (List.map b_iiiLsiEi a0.f3)), (.bor l0_4 (List.map b_si a0.f4)), (.val (.int .i64 a0.f5)), (.val (.int .i64 a0.f6)), (.val (.int .i64 a0.f7))]], []⟩), ((3, 0, 0), .live ⟨8, [[(.val (.int .i64 a1.f0)), (.val (.int .i64 a1.f1)), (.bor l1_2 (List.map b_si a1.f2)), (.bor l1_3 (List.map b_iiiLsiEi a1.f3)), (.bor l1_4 (List.map b_si a1.f4)), (.val (.int .i64 a1.f5)), (.val (.int .i64 a1.f6)), (.val (.int .i64 a1.f7))]], []⟩)]⟩) (.r 103 [] [] f35 (.f h7 (.f h7 (.f h7 (.f h7 (.f h7 (.h 106 (.b true) (.h 108 (.b true) (.h 110 (.b true) (.h 112 (.b true) (.h 114 (.b true) (.r 115 [] [] f41 (.f h7 (.h 117 (.b true) .nil)))))))))))))))))))))))))))))))))))))))))))))))))))))))))))))))))))))))))))))))))))
                · try simp only [if_neg h7]
                  exact callP_ok (ps := []) (os := []) (rs := [(.one (.val (.bool false)))]) (by kernel_rfl) (.f (nt h0) (.f (nt h0) (.f (nt h0) (.f (nt h0) (.f (nt h0) (.f (nt h0) (.f (nt h1) (.f (nt h1) (.f (nt h1) (.f (nt h1) (.f (nt h1) (.f (nt h1) (.f (nt h2) (.f (nt h2) (.f (nt h2) (.f (nt h2) (.f (nt h2) (.f (nt h2) (.f (nt h3) (.f (nt h3) (.f (nt h3) (.f (nt h3) (.f (nt h3) (.f (nt h3) (.f (nt h4) (.f (nt h4) (.f (nt h4) (.f (nt h4) (.f (nt h4) (.f (nt h4) (.f (nt h4) (.f (nt h4) (.f (nt h5) (.f f33 (.f f34 (.h 18 (.b false) (.h 20 (.b false) (.h 22 (.b false) (.h 24 (.b false) (.h 26 (.b false) (.h 29 (.b false) (.h 32 (.b false) (.h 34 (.b false) (.h 36 (.b false) (.h 38 (.b false) (.h 40 (.b false) (.h 43 (.b false) (.h 46 (.b false) (.h 48 (.b false) (.h 50 (.b false) (.h 52 (.b false) (.h 54 (.b false) (.h 57 (.b false) (.h 60 (.b false) (.h 62 (.b false) (.h 64 (.b false) (.h 66 (.b false) (.h 68 (.b false) (.h 71 (.b false) (.h 74 (.b false) (.h 76 (.b false) (.h 78 (.b false) (.h 80 (.b false) (.h 82 (.b false) (.h 84 (.b false) (.h 86 (.b false) (.h 89 (.b false) (.h 90 (.b false) (.h 93 (.loop (h17_0 l0_2 l0_3 l0_4 l1_2 l1_3 l1_4 a0 a1 0 ) (.exit 0) ⟨[(2, (.ptr ⟨(2, 0, 0), [], 0, 0, 8⟩)), (3, (.ptr ⟨(3, 0, 0), [], 0, 0, 8⟩)), (5, (.one (.val (.int .i64 w0_17_0_33)))), (54, (.one (.val (.bool w1_17_0_33))))], [((2, 0, 0), .live ⟨8, [[(.val (.int .i64 a0.f0)), (.val (.int .i64 a0.f1)), (.bor l0_2 (List.map b_si a0.f2)), (.bor l0_3 (List.map b_iiiLsiEi a0.f3)), (.bor l0_4 (List.map b_si a0.f4)), (.val (.int .i64 a0.f5)), (.val (.int .i64 a0.f6)), (.val (.int .i64 a0.f7))]], []⟩), ((3, 0, 0), .live ⟨8, [[(.val (.int .i64 a1.f0)), (.val (.int .i64 a1.f1)), (.bor l1_2 (List.map b_si a1.f2)), (.bor l1_3 (List.map b_iiiLsiEi a1.f3)), (.bor l1_4 (List.map b_si a1.f4)), (.val (.int .i64 a1.f5)), (.val (.int .i64 a1.f6)), (.val (.int .i64 a1.f7))]], []⟩)]⟩) (.r 103 [] [] f35 (.f (nt h7) (.f (nt h7) (.f (nt h7) (.f (nt h7) (.f (nt h7) (.f (nt h7) (.h 106 (.b false) (.h 108 (.b false) (.h 110 (.b false) (.h 112 (.b false) (.h 114 (.b false) (.h 117 (.b false) .nil))))))))))))))))))))))))))))))))))))))))))))))))))))))))))))))))))))))))))))))))))
              | k1 =>
                try dsimp only
                have f33 : (⟨[(2, (.ptr ⟨(2, 0, 0), [], 0, 0, 8⟩)), (3, (.ptr ⟨(3, 0, 0), [], 0, 0, 8⟩)), (5, (.one (.val (.int .i64 0))))], [((2, 0, 0), .live ⟨8, [[(.val (.int .i64 a0.f0)), (.val (.int .i64 a0.f1)), (.bor l0_2 (List.map b_si a0.f2)), (.bor l0_3 (List.map b_iiiLsiEi a0.f3)), (.bor l0_4 (List.map b_si a0.f4)), (.val (.int .i64 a0.f5)), (.val (.int .i64 a0.f6)), (.val (.int .i64 a0.f7))]], []⟩), ((3, 0, 0), .live ⟨8, [[(.val (.int .i64 a1.f0)), (.val (.int .i64 a1.f1)), (.bor l1_2 (List.map b_si a1.f2)), (.bor l1_3 (List.map b_iiiLsiEi a1.f3)), (.bor l1_4 (List.map b_si a1.f4)), (.val (.int .i64 a1.f5)), (.val (.int .i64 a1.f6)), (.val (.int .i64 a1.f7))]], []⟩)]⟩ : St) = h17_0 l0_2 l0_3 l0_4 l1_2 l1_3 l1_4 a0 a1 0  := (by first | rfl | (unfold h17_0; simp [List.take_of_length_le, d_si, d_iiiLsiEi, d_iiLsiELiiiLsiEiELsiEiii, d_b, d_i, d_LsiE, d_LiiiLsiEiE, fromBR_si, fromBR_b, fromBR_i]; done))
                have f34 : Ev F X (.code l17_0 (h17_0 l0_2 l0_3 l0_4 l1_2 l1_3 l1_4 a0 a1 0 ) .ret ⟨[(4, (.one (.val (.bool false))))], []⟩) := (by have t : Ev F X (.code l17_0 (h17_0 l0_2 l0_3 l0_4 l1_2 l1_3 l1_4 a0 a1 0 ) (ex17_0 (r17_0 a0 a0.f3 a1.f3 0)) (fin17_0 l0_2 l0_3 l0_4 l1_2 l1_3 l1_4 a0 a1 (r17_0 a0 a0.f3 a1.f3 0))) := t17_0 (l0_2 := l0_2) (l0_3 := l0_3) (l0_4 := l0_4) (l1_2 := l1_2) (l1_3 := l1_3) (l1_4 := l1_4) (a0 := a0) (a1 := a1) (by first | assumption | omega) (by first | assumption | omega) (by first | assumption | omega) (by first | assumption | omega) (by first | assumption | omega) (by first | assumption | omega) (by first | assumption | omega) (by first | assumption | omega) a0.f3 a1.f3 [] []  rfl rfl rfl (by first | omega | (simp at *; omega)); rw [h6] at t; exact t)
                exact callP_ok (ps := []) (os := []) (rs := [(.one (.val (.bool false)))]) (by kernel_rfl) (.f (nt h0) (.f (nt h0) (.f (nt h0) (.f (nt h0) (.f (nt h0) (.f (nt h0) (.f (nt h1) (.f (nt h1) (.f (nt h1) (.f (nt h1) (.f (nt h1) (.f (nt h1) (.f (nt h2) (.f (nt h2) (.f (nt h2) (.f (nt h2) (.f (nt h2) (.f (nt h2) (.f (nt h3) (.f (nt h3) (.f (nt h3) (.f (nt h3) (.f (nt h3) (.f (nt h3) (.f (nt h4) (.f (nt h4) (.f (nt h4) (.f (nt h4) (.f (nt h4) (.f (nt h4) (.f (nt h4) (.f (nt h4) (.f (nt h5) (.f f33 (.f f34 (.h 18 (.b false) (.h 20 (.b false) (.h 22 (.b false) (.h 24 (.b false) (.h 26 (.b false) (.h 29 (.b false) (.h 32 (.b false) (.h 34 (.b false) (.h 36 (.b false) (.h 38 (.b false) (.h 40 (.b false) (.h 43 (.b false) (.h 46 (.b false) (.h 48 (.b false) (.h 50 (.b false) (.h 52 (.b false) (.h 54 (.b false) (.h 57 (.b false) (.h 60 (.b false) (.h 62 (.b false) (.h 64 (.b false) (.h 66 (.b false) (.h 68 (.b false) (.h 71 (.b false) (.h 74 (.b false) (.h 76 (.b false) (.h 78 (.b false) (.h 80 (.b false) (.h 82 (.b false) (.h 84 (.b false) (.h 86 (.b false) (.h 89 (.b false) (.h 90 (.b false) (.h 93 (.loop (h17_0 l0_2 l0_3 l0_4 l1_2 l1_3 l1_4 a0 a1 0 ) .ret ⟨[(4, (.one (.val (.bool false))))], []⟩) .nil)))))))))))))))))))))))))))))))))))))))))))))))))))))))))))))))))))))
theorem eqr17_0 (a0 : K_iiLsiELiiiLsiEiELsiEiii) : ∀ (l m : List K_iiiLsiEi) (i : Int), l.length = m.length → (r17_0 a0 l m i = .k1 ∧ l ≠ m) ∨ (∃ w0 w1, r17_0 a0 l m i = .k0 w0 w1 ∧ l = m)
  | [], [], i, _ => .inr ⟨_, _, rfl, rfl⟩
  | [], _ :: _, i, h => by simp at h
  | _ :: _, [], i, h => by simp at h
  | x :: l, y :: m, i, h => by
    have ih := eqr17_0 a0 l m (i + 1) (by simpa using h)
    by_cases hxy : x = y
    · subst hxy
      have e : r17_0 a0 (x :: l) (x :: m) i = r17_0 a0 l m (i + 1) := by simp [r17_0, ba_eq, eqd31]
      rw [e]
      rcases ih with ⟨h1, h2⟩ | ⟨w0, w1, h1, h2⟩
      · exact .inl ⟨h1, by simp [h2]⟩
      · exact .inr ⟨_, _, h1, by rw [h2]⟩
    · have e : r17_0 a0 (x :: l) (y :: m) i = .k1 := by
        simp only [r17_0]
        first
          | ((repeat' split) <;> simp_all [ba_eq, eqd31]; done)
          | (cases x; cases y; (repeat' split) <;> simp_all [ba_eq, eqd31])
      exact .inl ⟨e, by simp [hxy]⟩
open Classical in
theorem eqd17 (a b : K_iiLsiELiiiLsiEiELsiEiii) : m17 a b = decide (a = b) := by
  rw [Bool.eq_iff_iff, decide_eq_true_eq]
  unfold m17
  by_cases hl : List.length a.f3 = List.length b.f3
  · rcases eqr17_0 a a.f3 b.f3 0 hl with ⟨h1, h2⟩ | ⟨w0, w1, h1, h2⟩
    · simp only [h1, List.length_map, hl]
      first
        | (simp [h2, ba_eq, eqd31]; done)
        | (cases a; cases b; simp_all [ba_eq, eqd31]; done)
        | (cases a; cases b; (repeat' split) <;> simp_all [ba_eq, eqd31])
    · simp only [h1, List.length_map, hl]
      first
        | (simp [h2, ba_eq, eqd31]; done)
        | (cases a; cases b; simp_all [ba_eq, eqd31]; done)
        | (cases a; cases b; (repeat' split) <;> simp_all [ba_eq, eqd31])
  · have hn : a ≠ b := by rintro rfl; exact hl rfl
    simp only [List.length_map]
    first
      | (simp [hn, hl, ba_eq, eqd31]; done)
      | ((repeat' split) <;> simp_all [ba_eq, eqd31]; done)
      | (simp [hn]; omega)
/-! loop.example/g00539/laws.toWeight -/
def m51 (a0 : K_si) : K_si :=
  a0
theorem e51 {a0 : K_si} : Ev F X (.call 51 [(.agg [(.val (.string a0.f0)), (.val (.int .i64 a0.f1))])] [] [] [(.agg [(.val (.string a0.f0)), (.val (.int .i64 a0.f1))])]) := by
  exact callP_ok (ps := []) (os := []) (rs := [(.agg [(.val (.string a0.f0)), (.val (.int .i64 a0.f1))])]) (by kernel_rfl) .nil
/-! loop 32_0 -/
inductive O32_0 where
  | k0 (w0 : List K_si) (w1 : Int) (w2 : Bool)
def r32_0 (a0 : (List K_si)) : List K_si → Int → List K_si → O32_0
  | x0_32_0 :: l0_32_0, i_32_0, v0_32_0 =>
    (r32_0 a0 l0_32_0 (i_32_0 + 1) (List.set v0_32_0 (Int.toNat i_32_0) x0_32_0))
  | [], i_32_0, v0_32_0 => (O32_0.k0 v0_32_0 i_32_0 (decide (i_32_0 < ((List.length (List.map b_si a0)) : Int))))
def h32_0 (l0_0 : Nat) (a0 : (List K_si)) (i_32_0 : Int) (v0_32_0 : List K_si) : St := ⟨[(0, (.one (.bor l0_0 (List.map b_si a0)))), (3, (.one (.ref ⟨(3, 0, 0), [], 0, (Int.toNat ((List.length (List.map b_si a0)) : Int))⟩))), (4, (.one (.val (.int .i64 i_32_0))))], [((3, 0, 0), .live ⟨2, (List.map d_si v0_32_0), []⟩)]⟩
def ex32_0 : O32_0 → VX.Exit
  | .k0 _ _ _ => (.exit 0)
def fin32_0 (l0_0 : Nat) (a0 : (List K_si)) : O32_0 → St
  | .k0 w0 w1 w2 => ⟨[(0, (.one (.bor l0_0 (List.map b_si a0)))), (3, (.one (.ref ⟨(3, 0, 0), [], 0, (Int.toNat ((List.length (List.map b_si a0)) : Int))⟩))), (4, (.one (.val (.int .i64 w1)))), (11, (.one (.val (.bool w2))))], [((3, 0, 0), .live ⟨2, (List.map d_si w0), []⟩)]⟩
theorem t32_0 {l0_0 : Nat} {a0 : (List K_si)} (hy0 : List.length a0 * 24 ≤ 140737488351232) : ∀ (l0_32_0 : List K_si) (p_32_0 : List K_si) (v0_32_0 : List K_si), p_32_0 ++ l0_32_0 = a0 → List.length v0_32_0 = (Int.toNat ((List.length (List.map b_si a0)) : Int)) → Ev F X (.code l32_0 (h32_0 l0_0 a0 (List.length p_32_0 : Int) v0_32_0) (ex32_0 (r32_0 a0 l0_32_0 (List.length p_32_0 : Int) v0_32_0)) (fin32_0 l0_0 a0 (r32_0 a0 l0_32_0 (List.length p_32_0 : Int) v0_32_0)))
  | [], p_32_0, v0_32_0, hp0, hi0 => by
    have hc : ¬ (decide ((List.length p_32_0 : Int) < ((List.length (List.map b_si a0)) : Int))) = true := by
      rw [← hp0]; simp only [List.length_map, List.length_set, List.length_append, List.length_replicate, List.length_cons, List.length_nil, decide_eq_true_eq]; omega
    have hj0 := hi0; try simp only [List.length_map, List.length_set, List.length_append, List.length_replicate, List.length_cons, List.length_nil, Int.toNat_natCast] at hj0
    have st := codeH_ok (F := F) (X := X) (c := b32_0) (t := 0) (hs := [(8, .b false)]) (σ := h32_0 l0_0 a0 (List.length p_32_0 : Int) v0_32_0) (σ' := ⟨[(0, (.one (.bor l0_0 (List.map b_si a0)))), (3, (.one (.ref ⟨(3, 0, 0), [], 0, (Int.toNat ((List.length (List.map b_si a0)) : Int))⟩))), (4, (.one (.val (.int .i64 (List.length p_32_0 : Int))))), (11, (.one (.val (.bool (decide ((List.length p_32_0 : Int) < ((List.length (List.map b_si a0)) : Int)))))))], [((3, 0, 0), .live ⟨2, (List.map d_si v0_32_0), []⟩)]⟩) (e := (.exit 0)) (t' := 9) (hs' := []) (q := [(decide ((List.length p_32_0 : Int) < ((List.length (List.map b_si a0)) : Int))) = false]) (by kernel_rfl) ⟨(nt hc), trivial⟩
    rw [show (⟨[(0, (.one (.bor l0_0 (List.map b_si a0)))), (3, (.one (.ref ⟨(3, 0, 0), [], 0, (Int.toNat ((List.length (List.map b_si a0)) : Int))⟩))), (4, (.one (.val (.int .i64 (List.length p_32_0 : Int))))), (11, (.one (.val (.bool (decide ((List.length p_32_0 : Int) < ((List.length (List.map b_si a0)) : Int)))))))], [((3, 0, 0), .live ⟨2, (List.map d_si v0_32_0), []⟩)]⟩ : St) = fin32_0 l0_0 a0 (.k0 v0_32_0 (List.length p_32_0 : Int) (decide ((List.length p_32_0 : Int) < ((List.length (List.map b_si a0)) : Int)))) from by first | rfl | (unfold fin32_0; simp [List.take_of_length_le, d_si, d_iiiLsiEi, d_iiLsiELiiiLsiEiELsiEiii, d_b, d_i, d_LsiE, d_LiiiLsiEiE, fromBR_si, fromBR_b, fromBR_i]; done)] at st
    exact .loopX st (show ((.exit 0) : VX.Exit) ≠ .normal from by simp)
  | x0_32_0 :: l0_32_0, p_32_0, v0_32_0, hp0, hi0 => by
    have hc : (decide ((List.length p_32_0 : Int) < ((List.length (List.map b_si a0)) : Int))) = true := by
      rw [← hp0]; simp only [List.length_map, List.length_set, List.length_append, List.length_replicate, List.length_cons, List.length_nil, decide_eq_true_eq]; omega
    have Hx0_32_0 : (a0)[Int.toNat (List.length p_32_0 : Int)]? = some x0_32_0 := by
      rw [← hp0, Int.toNat_natCast]; simp
    have hlen : List.length (a0) = List.length p_32_0 + List.length l0_32_0 + 1 := by rw [← hp0]; simp; omega
    have hw : IntKind.wrap .i64 ((List.length p_32_0 : Int) + 1) = (List.length p_32_0 : Int) + 1 := wrap64 (by omega)
    have hj0 := hi0; try simp only [List.length_map, List.length_set, List.length_append, List.length_replicate, List.length_cons, List.length_nil, Int.toNat_natCast] at hj0
    obtain ⟨x1_32_0, Hx1_32_0⟩ : ∃ y, v0_32_0[Int.toNat (List.length p_32_0 : Int)]? = some y := ⟨_, List.getElem?_eq_getElem (by omega)⟩
    simp only [r32_0]
    have st := codeH_ok (F := F) (X := X) (c := b32_0) (t := 0) (hs := [(8, .b true), (18, .row [(.val (.string x0_32_0.f0)), (.val (.int .i64 x0_32_0.f1))]), (22, .ret [] [(.agg [(.val (.string x0_32_0.f0)), (.val (.int .i64 x0_32_0.f1))])] [] []), (26, .rowD [(.val (.string x1_32_0.f0)), (.val (.int .i64 x1_32_0.f1))]), (27, .norm (3, 0, 0) (List.map d_si (List.set v0_32_0 (Int.toNat (List.length p_32_0 : Int)) x0_32_0)))]) (σ := h32_0 l0_0 a0 (List.length p_32_0 : Int) v0_32_0) (σ' := ⟨[(0, (.one (.bor l0_0 (List.map b_si a0)))), (3, (.one (.ref ⟨(3, 0, 0), [], 0, (Int.toNat ((List.length (List.map b_si a0)) : Int))⟩))), (4, (.one (.val (.int .i64 (IntKind.wrap .i64 ((List.length p_32_0 : Int) + 1))))))], [((3, 0, 0), .live ⟨2, (List.map d_si (List.set v0_32_0 (Int.toNat (List.length p_32_0 : Int)) x0_32_0)), []⟩)]⟩) (e := .normal) (t' := 34) (hs' := []) (q := [(decide ((List.length p_32_0 : Int) < ((List.length (List.map b_si a0)) : Int))) = true, 0 ≤ (List.length p_32_0 : Int), (List.map b_si a0)[(Int.toNat (List.length p_32_0 : Int))]? = some [(.val (.string x0_32_0.f0)), (.val (.int .i64 x0_32_0.f1))], Ev F X (.call 51 [(.agg [(.val (.string x0_32_0.f0)), (.val (.int .i64 x0_32_0.f1))])] [] [] [(.agg [(.val (.string x0_32_0.f0)), (.val (.int .i64 x0_32_0.f1))])]), 0 + (Int.toNat ((List.length (List.map b_si a0)) : Int)) ≤ (List.length (List.map d_si v0_32_0)), 0 ≤ (List.length p_32_0 : Int) ∧ (List.length p_32_0 : Int) < ((Int.toNat ((List.length (List.map b_si a0)) : Int)) : Int), (List.map d_si v0_32_0)[(0 + (Int.toNat (List.length p_32_0 : Int)))]? = some [(.val (.string x1_32_0.f0)), (.val (.int .i64 x1_32_0.f1))], (List.set (List.map d_si v0_32_0) (0 + (Int.toNat (List.length p_32_0 : Int))) [(.val (.string x0_32_0.f0)), (.val (.int .i64 x0_32_0.f1))]) = (List.map d_si (List.set v0_32_0 (Int.toNat (List.length p_32_0 : Int)) x0_32_0)), True]) (by kernel_rfl) ⟨hc, (by first | exact True.intro | with_reducible rfl | with_reducible assumption | omega | (simp only [List.length_map, List.length_set, List.length_append, List.length_replicate, List.length_cons, List.length_nil]; omega) | (simp; omega) | (simp [List.take_of_length_le]; done) | assumption | trivial | (simp [*]; done)), (by first | (rw [List.getElem?_map, Hx0_32_0]; rfl) | (rw [Nat.zero_add, List.getElem?_map, Hx0_32_0]; rfl) | exact True.intro | with_reducible rfl | with_reducible assumption | omega | (simp only [List.length_map, List.length_set, List.length_append, List.length_replicate, List.length_cons, List.length_nil]; omega) | (simp; done) | (simp; omega) | (simp [List.take_of_length_le]; done) | (simp [← List.map_take, ← List.map_drop]; done) | assumption | trivial | (simp [*, b_si, d_si]; done)), (e51 (a0 := x0_32_0)), (by first | exact True.intro | with_reducible rfl | with_reducible assumption | omega | (simp only [List.length_map]; omega) | (simp; omega) | (simp [List.take_of_length_le]; done) | assumption | trivial | (simp [*, b_si, d_si]; done)), (by first | exact True.intro | with_reducible rfl | with_reducible assumption | omega | (simp only [List.length_map]; omega) | (simp; omega) | (simp [List.take_of_length_le]; done) | assumption | trivial | (simp [*, b_si, d_si]; done)), (by first | (rw [List.getElem?_map, Hx1_32_0]; rfl) | (rw [Nat.zero_add, List.getElem?_map, Hx1_32_0]; rfl) | exact True.intro | with_reducible rfl | with_reducible assumption | omega | (simp only [List.length_map, List.length_set, List.length_append, List.length_replicate, List.length_cons, List.length_nil]; omega) | (simp; done) | (simp; omega) | (simp [List.take_of_length_le]; done) | (simp [← List.map_take, ← List.map_drop]; done) | assumption | trivial | (simp [*, b_si, d_si]; done)), (by first | rfl | (simp [List.take_of_length_le, d_si, d_iiiLsiEi, d_iiLsiELiiiLsiEiELsiEiii, d_b, d_i, d_LsiE, d_LiiiLsiEiE, fromBR_si, fromBR_b, fromBR_i]; done) | (simp [List.map_set, List.map_take, List.map_drop, List.take_of_length_le, d_si, d_iiiLsiEi, d_iiLsiELiiiLsiEiELsiEiii, d_b, d_i, d_LsiE, d_LiiiLsiEiE, fromBR_si, fromBR_b, fromBR_i]; done)), trivial, trivial⟩
    have ih := t32_0 (l0_0 := l0_0) (a0 := a0) hy0 l0_32_0 (p_32_0 ++ [x0_32_0]) (List.set v0_32_0 (Int.toNat (List.length p_32_0 : Int)) x0_32_0) (by rw [List.append_assoc]; exact hp0) (by first | omega | (simp only [List.length_map, List.length_set, List.length_append, List.length_replicate, List.length_cons, List.length_nil]; omega) | (simp only [List.length_map, List.length_set, List.length_append, List.length_replicate, List.length_cons, List.length_nil]; assumption) | assumption | (simp only [List.length_map, List.length_set, List.length_append, List.length_replicate, List.length_cons, List.length_nil] at *; omega))
    rw [show ((p_32_0 ++ [x0_32_0]).length : Int) = (p_32_0.length : Int) + 1 from by simp] at ih
    rw [show (⟨[(0, (.one (.bor l0_0 (List.map b_si a0)))), (3, (.one (.ref ⟨(3, 0, 0), [], 0, (Int.toNat ((List.length (List.map b_si a0)) : Int))⟩))), (4, (.one (.val (.int .i64 (IntKind.wrap .i64 ((List.length p_32_0 : Int) + 1))))))], [((3, 0, 0), .live ⟨2, (List.map d_si (List.set v0_32_0 (Int.toNat (List.length p_32_0 : Int)) x0_32_0)), []⟩)]⟩ : St) = h32_0 l0_0 a0 ((List.length p_32_0 : Int) + 1) (List.set v0_32_0 (Int.toNat (List.length p_32_0 : Int)) x0_32_0) from by first | (unfold h32_0; simp only [hw]; done) | (unfold h32_0; simp only [hw, List.length_map, List.length_set, List.length_append, List.length_replicate, List.length_cons, List.length_nil]; done) | (unfold h32_0; simp [hw, List.take_of_length_le, d_si, d_iiiLsiEi, d_iiLsiELiiiLsiEiELsiEiii, d_b, d_i, d_LsiE, d_LiiiLsiEiE, fromBR_si, fromBR_b, fromBR_i]; done)] at st
    exact .loopN st ih
def post32_0 (n : Nat) : O32_0 → Prop
  | .k0 w0 _ _ => List.length w0 = n
theorem z32_0 {a0 : (List K_si)} : ∀ (l0_32_0 : List K_si) (i_32_0 : Int) (v0_32_0 : List K_si), post32_0 (List.length v0_32_0) (r32_0 a0 l0_32_0 i_32_0 v0_32_0)
  | [], i_32_0, v0_32_0 => by
    first | rfl | trivial | (simp only [post32_0]; done) | (simp [post32_0]; done)
  | x0_32_0 :: l0_32_0, i_32_0, v0_32_0 => by
    simp only [r32_0]
    have z := z32_0 (a0 := a0) l0_32_0 (i_32_0 + 1) (List.set v0_32_0 (Int.toNat i_32_0) x0_32_0)
    try simp only [List.length_set] at z
    exact z
/-! loop.example/g00539/laws.toWeightS -/
def m32 (a0 : (List K_si)) : (List K_si) :=
  (match r32_0 a0 a0 0 (List.replicate (Int.toNat ((List.length (List.map b_si a0)) : Int)) (K_si.mk (⟨#[]⟩ : ByteArray) 0)) with | .k0 w0_32_0_1 w1_32_0_1 w2_32_0_1 => w0_32_0_1)
theorem e32 {l0_0 : Nat} {a0 : (List K_si)} (hy0 : List.length a0 * 24 ≤ 140737488351232) : Ev F X (.call 32 [(.one (.bor l0_0 (List.map b_si a0)))] [] [] [(.one (.own 2 (List.map d_si (m32 a0))))]) := by
  unfold m32
  have f0 : 0 ≤ ((List.length (List.map b_si a0)) : Int) ∧ ((List.length (List.map b_si a0)) : Int) ≤ ((List.length (List.map b_si a0)) : Int) ∧ ((List.length (List.map b_si a0)) : Int) ≤ 140737488355328 ∧ ((List.length (List.map b_si a0)) : Int) * 24 ≤ 140737488355328 := (by first | exact True.intro | with_reducible rfl | with_reducible assumption | omega | (simp only [List.length_map]; omega) | (simp; omega) | (simp [List.take_of_length_le]; done) | assumption | trivial | (simp [*, b_si, d_si]; done))
  have f1 : (List.replicate (Int.toNat ((List.length (List.map b_si a0)) : Int)) [(.val (.string (⟨#[]⟩ : ByteArray))), (.val (.int .i64 0))]) = (List.map d_si (List.replicate (Int.toNat ((List.length (List.map b_si a0)) : Int)) (K_si.mk (⟨#[]⟩ : ByteArray) 0))) := (by first | rfl | (simp [List.take_of_length_le, d_si, d_iiiLsiEi, d_iiLsiELiiiLsiEiELsiEiii, d_b, d_i, d_LsiE, d_LiiiLsiEiE, fromBR_si, fromBR_b, fromBR_i]; done) | (simp [List.map_set, List.map_take, List.map_drop, List.take_of_length_le, d_si, d_iiiLsiEi, d_iiLsiELiiiLsiEiELsiEiii, d_b, d_i, d_LsiE, d_LiiiLsiEiE, fromBR_si, fromBR_b, fromBR_i]; done))
  cases h0 : r32_0 a0 a0 0 (List.replicate (Int.toNat ((List.length (List.map b_si a0)) : Int)) (K_si.mk (⟨#[]⟩ : ByteArray) 0)) with
  | k0 w0_32_0_1 w1_32_0_1 w2_32_0_1 =>
    try dsimp only
    have zh0 := z32_0 (a0 := a0) a0 0 (List.replicate (Int.toNat ((List.length (List.map b_si a0)) : Int)) (K_si.mk (⟨#[]⟩ : ByteArray) 0)); rw [h0] at zh0; simp only [post32_0, List.length_map, List.length_set, List.length_append, List.length_replicate, List.length_cons, List.length_nil, Int.toNat_natCast] at zh0
    have f2 : (⟨[(0, (.one (.bor l0_0 (List.map b_si a0)))), (3, (.one (.ref ⟨(3, 0, 0), [], 0, (Int.toNat ((List.length (List.map b_si a0)) : Int))⟩))), (4, (.one (.val (.int .i64 0))))], [((3, 0, 0), .live ⟨2, (List.map d_si (List.replicate (Int.toNat ((List.length (List.map b_si a0)) : Int)) (K_si.mk (⟨#[]⟩ : ByteArray) 0))), []⟩)]⟩ : St) = h32_0 l0_0 a0 0 (List.replicate (Int.toNat ((List.length (List.map b_si a0)) : Int)) (K_si.mk (⟨#[]⟩ : ByteArray) 0)) := (by first | rfl | (unfold h32_0; simp [List.take_of_length_le, d_si, d_iiiLsiEi, d_iiLsiELiiiLsiEiELsiEiii, d_b, d_i, d_LsiE, d_LiiiLsiEiE, fromBR_si, fromBR_b, fromBR_i]; done))
    have f3 : Ev F X (.code l32_0 (h32_0 l0_0 a0 0 (List.replicate (Int.toNat ((List.length (List.map b_si a0)) : Int)) (K_si.mk (⟨#[]⟩ : ByteArray) 0))) (.exit 0) ⟨[(0, (.one (.bor l0_0 (List.map b_si a0)))), (3, (.one (.ref ⟨(3, 0, 0), [], 0, (Int.toNat ((List.length (List.map b_si a0)) : Int))⟩))), (4, (.one (.val (.int .i64 w1_32_0_1)))), (11, (.one (.val (.bool w2_32_0_1))))], [((3, 0, 0), .live ⟨2, (List.map d_si w0_32_0_1), []⟩)]⟩) := (by have t : Ev F X (.code l32_0 (h32_0 l0_0 a0 0 (List.replicate (Int.toNat ((List.length (List.map b_si a0)) : Int)) (K_si.mk (⟨#[]⟩ : ByteArray) 0))) (ex32_0 (r32_0 a0 a0 0 (List.replicate (Int.toNat ((List.length (List.map b_si a0)) : Int)) (K_si.mk (⟨#[]⟩ : ByteArray) 0)))) (fin32_0 l0_0 a0 (r32_0 a0 a0 0 (List.replicate (Int.toNat ((List.length (List.map b_si a0)) : Int)) (K_si.mk (⟨#[]⟩ : ByteArray) 0))))) := t32_0 (l0_0 := l0_0) (a0 := a0) (by first | assumption | omega) a0 [] (List.replicate (Int.toNat ((List.length (List.map b_si a0)) : Int)) (K_si.mk (⟨#[]⟩ : ByteArray) 0)) rfl (by first | rfl | omega | (simp only [List.length_map, List.length_set, List.length_append, List.length_replicate, List.length_cons, List.length_nil]; done) | (simp only [List.length_map, List.length_set, List.length_append, List.length_replicate, List.length_cons, List.length_nil]; omega) | (simp; done)); rw [h0] at t; exact t)
    have f4 : 0 = 0 := rfl
    have f5 : (Int.toNat ((List.length (List.map b_si a0)) : Int)) = (List.length (List.map d_si w0_32_0_1)) := (by first | exact True.intro | with_reducible rfl | with_reducible assumption | omega | (simp only [List.length_map]; omega) | (simp; done) | (simp; omega) | (simp [List.take_of_length_le]; done) | (simp [← List.map_take, ← List.map_drop]; done) | assumption | trivial | (simp [*, b_si, d_si]; done))
    have f6 : pureR (List.map d_si w0_32_0_1) = true := (pureR_si _)
    exact callP_ok (ps := []) (os := []) (rs := [(.one (.own 2 (List.map d_si w0_32_0_1)))]) (by kernel_rfl) (.f f0 (.f f1 (.f f2 (.f f3 (.f f4 (.f f5 (.f f6 (.h 10 (.norm (3, 0, 0) (List.map d_si (List.replicate (Int.toNat ((List.length (List.map b_si a0)) : Int)) (K_si.mk (⟨#[]⟩ : ByteArray) 0)))) (.h 13 (.loop (h32_0 l0_0 a0 0 (List.replicate (Int.toNat ((List.length (List.map b_si a0)) : Int)) (K_si.mk (⟨#[]⟩ : ByteArray) 0))) (.exit 0) ⟨[(0, (.one (.bor l0_0 (List.map b_si a0)))), (3, (.one (.ref ⟨(3, 0, 0), [], 0, (Int.toNat ((List.length (List.map b_si a0)) : Int))⟩))), (4, (.one (.val (.int .i64 w1_32_0_1)))), (11, (.one (.val (.bool w2_32_0_1))))], [((3, 0, 0), .live ⟨2, (List.map d_si w0_32_0_1), []⟩)]⟩) .nil)))))))))
theorem c32_0 (a0 : List K_si) : ∀ (l p q : List K_si), q.length = l.length → ∃ w1 w2, r32_0 a0 l (p.length : Int) (p ++ q) = .k0 (p ++ l) w1 w2
  | [], p, [], _ => ⟨_, _, rfl⟩
  | [], _, _ :: _, h => by simp at h
  | _ :: _, _, [], h => by simp at h
  | x :: l, p, y :: q, h => by
    have ih := c32_0 a0 l (p ++ [x]) q (by simpa using h)
    have e : List.set (p ++ y :: q) (Int.toNat (p.length : Int)) x = (p ++ [x]) ++ q := by simp
    have e2 : ((p ++ [x]).length : Int) = (p.length : Int) + 1 := by simp
    rw [e2] at ih
    simp only [r32_0]
    rw [show p ++ x :: l = (p ++ [x]) ++ l by simp]
    first | (rw [e]; exact ih) | (simp only [e]; exact ih)
theorem q32 (a0 : (List K_si)) (hy0 : List.length a0 * 24 ≤ 140737488351232) : (m32 a0) = a0 := by
  have h := c32_0 a0 a0 [] (List.replicate (Int.toNat ((List.length (List.map b_si a0)) : Int)) (K_si.mk (⟨#[]⟩ : ByteArray) 0)) (by simp)
  unfold m32
  simp only [List.nil_append, List.length_nil] at h
  obtain ⟨_, _, h⟩ := h
  rw [show ((0 : Nat) : Int) = 0 from rfl] at h
  rw [h]
theorem g32 {l0_0 : Nat} {a0 : (List K_si)} (hy0 : List.length a0 * 24 ≤ 140737488351232) : Ev F X (.call 32 [(.one (.bor l0_0 (List.map b_si a0)))] [] [] [(.one (.own 2 (List.map d_si a0)))]) := by
  have t := e32 (l0_0 := l0_0) (a0 := a0) hy0
  rw [q32 a0 hy0] at t
  exact t
/-! loop.example/g00539/laws.toReward -/
def m52 (a0 : K_iiiLsiEi) : K_iiiLsiEi :=
  a0
theorem e52 {l0_3 : Nat} {a0 : K_iiiLsiEi} (hy0 : List.length a0.f3 * 24 ≤ 140737488351232) : Ev F X (.call 52 [(.agg [(.val (.int .i64 a0.f0)), (.val (.int .i64 a0.f1)), (.val (.int .i64 a0.f2)), (.bor l0_3 (List.map b_si a0.f3)), (.val (.int .i64 a0.f4))])] [] [] [(.agg [(.val (.int .i64 a0.f0)), (.val (.int .i64 a0.f1)), (.val (.int .i64 a0.f2)), (.own 2 (List.map d_si a0.f3)), (.val (.int .i64 a0.f4))])]) := by
  have f0 : Ev F X (.call 32 [(.one (.bor (l0_3 + 1) (List.map b_si a0.f3)))] [] [] [(.one (.own 2 (List.map d_si a0.f3)))]) := (g32 (a0 := a0.f3) (by first | with_reducible assumption | omega | assumption | (simp only [List.length_map]; omega) | (simp; omega)))
  have f1 : 0 = 0 := rfl
  have f2 : (List.length (List.map d_si a0.f3)) = (List.length (List.map d_si a0.f3)) := rfl
  have f3 : 0 = 0 := rfl
  have f4 : (List.length (List.map d_si a0.f3)) = (List.length (List.map d_si a0.f3)) := rfl
  have f5 : pureR (List.map d_si a0.f3) = true := (pureR_si _)
  exact callP_ok (ps := []) (os := []) (rs := [(.agg [(.val (.int .i64 a0.f0)), (.val (.int .i64 a0.f1)), (.val (.int .i64 a0.f2)), (.own 2 (List.map d_si a0.f3)), (.val (.int .i64 a0.f4))])]) (by kernel_rfl) (.r 35 [] [] f0 (.f f1 (.f f2 (.f f3 (.f f4 (.f f5 .nil))))))
/-! loop 33_0 -/
inductive O33_0 where
  | k0 (w0 : List K_iiiLsiEi) (w1 : Int) (w2 : Bool)
def r33_0 (a0 : (List K_iiiLsiEi)) : List K_iiiLsiEi → Int → List K_iiiLsiEi → O33_0
  | x0_33_0 :: l0_33_0, i_33_0, v0_33_0 =>
    (r33_0 a0 l0_33_0 (i_33_0 + 1) (List.set v0_33_0 (Int.toNat i_33_0) x0_33_0))
  | [], i_33_0, v0_33_0 => (O33_0.k0 v0_33_0 i_33_0 (decide (i_33_0 < ((List.length (List.map b_iiiLsiEi a0)) : Int))))
def h33_0 (l0_0 : Nat) (a0 : (List K_iiiLsiEi)) (i_33_0 : Int) (v0_33_0 : List K_iiiLsiEi) : St := ⟨[(0, (.one (.bor l0_0 (List.map b_iiiLsiEi a0)))), (3, (.one (.ref ⟨(3, 0, 0), [], 0, (Int.toNat ((List.length (List.map b_iiiLsiEi a0)) : Int))⟩))), (4, (.one (.val (.int .i64 i_33_0))))], [((3, 0, 0), .live ⟨5, (List.map d_iiiLsiEi v0_33_0), []⟩)]⟩
def ex33_0 : O33_0 → VX.Exit
  | .k0 _ _ _ => (.exit 0)
def fin33_0 (l0_0 : Nat) (a0 : (List K_iiiLsiEi)) : O33_0 → St
  | .k0 w0 w1 w2 => ⟨[(0, (.one (.bor l0_0 (List.map b_iiiLsiEi a0)))), (3, (.one (.ref ⟨(3, 0, 0), [], 0, (Int.toNat ((List.length (List.map b_iiiLsiEi a0)) : Int))⟩))), (4, (.one (.val (.int .i64 w1)))), (11, (.one (.val (.bool w2))))], [((3, 0, 0), .live ⟨5, (List.map d_iiiLsiEi w0), []⟩)]⟩
theorem t33_0 {l0_0 : Nat} {a0 : (List K_iiiLsiEi)} (hy0 : List.length a0 * 56 ≤ 140737488351232) (hy1 : ∀ z ∈ a0, ok_iiiLsiEi z) : ∀ (l0_33_0 : List K_iiiLsiEi) (p_33_0 : List K_iiiLsiEi) (v0_33_0 : List K_iiiLsiEi), p_33_0 ++ l0_33_0 = a0 → List.length v0_33_0 = (Int.toNat ((List.length (List.map b_iiiLsiEi a0)) : Int)) → Ev F X (.code l33_0 (h33_0 l0_0 a0 (List.length p_33_0 : Int) v0_33_0) (ex33_0 (r33_0 a0 l0_33_0 (List.length p_33_0 : Int) v0_33_0)) (fin33_0 l0_0 a0 (r33_0 a0 l0_33_0 (List.length p_33_0 : Int) v0_33_0)))
  | [], p_33_0, v0_33_0, hp0, hi0 => by
    have hc : ¬ (decide ((List.length p_33_0 : Int) < ((List.length (List.map b_iiiLsiEi a0)) : Int))) = true := by
      rw [← hp0]; simp only [List.length_map, List.length_set, List.length_append, List.length_replicate, List.length_cons, List.length_nil, decide_eq_true_eq]; omega
    have hj0 := hi0; try simp only [List.length_map, List.length_set, List.length_append, List.length_replicate, List.length_cons, List.length_nil, Int.toNat_natCast] at hj0
    have st := codeH_ok (F := F) (X := X) (c := b33_0) (t := 0) (hs := [(8, .b false)]) (σ := h33_0 l0_0 a0 (List.length p_33_0 : Int) v0_33_0) (σ' := ⟨[(0, (.one (.bor l0_0 (List.map b_iiiLsiEi a0)))), (3, (.one (.ref ⟨(3, 0, 0), [], 0, (Int.toNat ((List.length (List.map b_iiiLsiEi a0)) : Int))⟩))), (4, (.one (.val (.int .i64 (List.length p_33_0 : Int))))), (11, (.one (.val (.bool (decide ((List.length p_33_0 : Int) < ((List.length (List.map b_iiiLsiEi a0)) : Int)))))))], [((3, 0, 0), .live ⟨5, (List.map d_iiiLsiEi v0_33_0), []⟩)]⟩) (e := (.exit 0)) (t' := 9) (hs' := []) (q := [(decide ((List.length p_33_0 : Int) < ((List.length (List.map b_iiiLsiEi a0)) : Int))) = false]) (by kernel_rfl) ⟨(nt hc), trivial⟩
    rw [show (⟨[(0, (.one (.bor l0_0 (List.map b_iiiLsiEi a0)))), (3, (.one (.ref ⟨(3, 0, 0), [], 0, (Int.toNat ((List.length (List.map b_iiiLsiEi a0)) : Int))⟩))), (4, (.one (.val (.int .i64 (List.length p_33_0 : Int))))), (11, (.one (.val (.bool (decide ((List.length p_33_0 : Int) < ((List.length (List.map b_iiiLsiEi a0)) : Int)))))))], [((3, 0, 0), .live ⟨5, (List.map d_iiiLsiEi v0_33_0), []⟩)]⟩ : St) = fin33_0 l0_0 a0 (.k0 v0_33_0 (List.length p_33_0 : Int) (decide ((List.length p_33_0 : Int) < ((List.length (List.map b_iiiLsiEi a0)) : Int)))) from by first | rfl | (unfold fin33_0; simp [List.take_of_length_le, d_si, d_iiiLsiEi, d_iiLsiELiiiLsiEiELsiEiii, d_b, d_i, d_LsiE, d_LiiiLsiEiE, fromBR_si, fromBR_b, fromBR_i]; done)] at st
    exact .loopX st (show ((.exit 0) : VX.Exit) ≠ .normal from by simp)
  | x0_33_0 :: l0_33_0, p_33_0, v0_33_0, hp0, hi0 => by
    have hc : (decide ((List.length p_33_0 : Int) < ((List.length (List.map b_iiiLsiEi a0)) : Int))) = true := by
      rw [← hp0]; simp only [List.length_map, List.length_set, List.length_append, List.length_replicate, List.length_cons, List.length_nil, decide_eq_true_eq]; omega
    have Hx0_33_0 : (a0)[Int.toNat (List.length p_33_0 : Int)]? = some x0_33_0 := by
      rw [← hp0, Int.toNat_natCast]; simp
    have Mx0_33_0_0 := hy1 x0_33_0 (List.mem_of_getElem? Hx0_33_0)
    have hlen : List.length (a0) = List.length p_33_0 + List.length l0_33_0 + 1 := by rw [← hp0]; simp; omega
    have hw : IntKind.wrap .i64 ((List.length p_33_0 : Int) + 1) = (List.length p_33_0 : Int) + 1 := wrap64 (by omega)
    have hj0 := hi0; try simp only [List.length_map, List.length_set, List.length_append, List.length_replicate, List.length_cons, List.length_nil, Int.toNat_natCast] at hj0
    obtain ⟨x1_33_0, Hx1_33_0⟩ : ∃ y, v0_33_0[Int.toNat (List.length p_33_0 : Int)]? = some y := ⟨_, List.getElem?_eq_getElem (by omega)⟩
    simp only [r33_0]
    have st := codeH_ok (F := F) (X := X) (c := b33_0) (t := 0) (hs := [(8, .b true), (18, .row [(.val (.int .i64 x0_33_0.f0)), (.val (.int .i64 x0_33_0.f1)), (.val (.int .i64 x0_33_0.f2)), (.sl (List.map b_si x0_33_0.f3)), (.val (.int .i64 x0_33_0.f4))]), (22, .ret [] [(.agg [(.val (.int .i64 x0_33_0.f0)), (.val (.int .i64 x0_33_0.f1)), (.val (.int .i64 x0_33_0.f2)), (.own 2 (List.map d_si x0_33_0.f3)), (.val (.int .i64 x0_33_0.f4))])] [] []), (26, .rowD [(.val (.int .i64 x1_33_0.f0)), (.val (.int .i64 x1_33_0.f1)), (.val (.int .i64 x1_33_0.f2)), (.own 2 (List.map d_si x1_33_0.f3)), (.val (.int .i64 x1_33_0.f4))]), (27, .norm (3, 0, 0) (List.map d_iiiLsiEi (List.set v0_33_0 (Int.toNat (List.length p_33_0 : Int)) x0_33_0)))]) (σ := h33_0 l0_0 a0 (List.length p_33_0 : Int) v0_33_0) (σ' := ⟨[(0, (.one (.bor l0_0 (List.map b_iiiLsiEi a0)))), (3, (.one (.ref ⟨(3, 0, 0), [], 0, (Int.toNat ((List.length (List.map b_iiiLsiEi a0)) : Int))⟩))), (4, (.one (.val (.int .i64 (IntKind.wrap .i64 ((List.length p_33_0 : Int) + 1))))))], [((3, 0, 0), .live ⟨5, (List.map d_iiiLsiEi (List.set v0_33_0 (Int.toNat (List.length p_33_0 : Int)) x0_33_0)), []⟩)]⟩) (e := .normal) (t' := 34) (hs' := []) (q := [(decide ((List.length p_33_0 : Int) < ((List.length (List.map b_iiiLsiEi a0)) : Int))) = true, 0 ≤ (List.length p_33_0 : Int), (List.map b_iiiLsiEi a0)[(Int.toNat (List.length p_33_0 : Int))]? = some [(.val (.int .i64 x0_33_0.f0)), (.val (.int .i64 x0_33_0.f1)), (.val (.int .i64 x0_33_0.f2)), (.sl (List.map b_si x0_33_0.f3)), (.val (.int .i64 x0_33_0.f4))], Ev F X (.call 52 [(.agg [(.val (.int .i64 x0_33_0.f0)), (.val (.int .i64 x0_33_0.f1)), (.val (.int .i64 x0_33_0.f2)), (.bor (l0_0 + 1) (List.map b_si x0_33_0.f3)), (.val (.int .i64 x0_33_0.f4))])] [] [] [(.agg [(.val (.int .i64 x0_33_0.f0)), (.val (.int .i64 x0_33_0.f1)), (.val (.int .i64 x0_33_0.f2)), (.own 2 (List.map d_si x0_33_0.f3)), (.val (.int .i64 x0_33_0.f4))])]), 0 + (Int.toNat ((List.length (List.map b_iiiLsiEi a0)) : Int)) ≤ (List.length (List.map d_iiiLsiEi v0_33_0)), 0 ≤ (List.length p_33_0 : Int) ∧ (List.length p_33_0 : Int) < ((Int.toNat ((List.length (List.map b_iiiLsiEi a0)) : Int)) : Int), 0 = 0, (List.length (List.map d_si x0_33_0.f3)) = (List.length (List.map d_si x0_33_0.f3)), (List.map d_iiiLsiEi v0_33_0)[(0 + (Int.toNat (List.length p_33_0 : Int)))]? = some [(.val (.int .i64 x1_33_0.f0)), (.val (.int .i64 x1_33_0.f1)), (.val (.int .i64 x1_33_0.f2)), (.own 2 (List.map d_si x1_33_0.f3)), (.val (.int .i64 x1_33_0.f4))], (List.set (List.map d_iiiLsiEi v0_33_0) (0 + (Int.toNat (List.length p_33_0 : Int))) [(.val (.int .i64 x0_33_0.f0)), (.val (.int .i64 x0_33_0.f1)), (.val (.int .i64 x0_33_0.f2)), (.own 2 (List.map d_si x0_33_0.f3)), (.val (.int .i64 x0_33_0.f4))]) = (List.map d_iiiLsiEi (List.set v0_33_0 (Int.toNat (List.length p_33_0 : Int)) x0_33_0)), True]) (by kernel_rfl) ⟨hc, (by first | exact True.intro | with_reducible rfl | with_reducible assumption | omega | (simp only [List.length_map, List.length_set, List.length_append, List.length_replicate, List.length_cons, List.length_nil]; omega) | (simp; omega) | (simp [List.take_of_length_le]; done) | assumption | trivial | (simp [*]; done)), (by first | (rw [List.getElem?_map, Hx0_33_0]; rfl) | (rw [Nat.zero_add, List.getElem?_map, Hx0_33_0]; rfl) | exact True.intro | with_reducible rfl | with_reducible assumption | omega | (simp only [List.length_map, List.length_set, List.length_append, List.length_replicate, List.length_cons, List.length_nil]; omega) | (simp; done) | (simp; omega) | (simp [List.take_of_length_le]; done) | (simp [← List.map_take, ← List.map_drop]; done) | assumption | trivial | (simp [*, b_si, b_iiiLsiEi, d_si, d_iiiLsiEi]; done)), (e52 (a0 := x0_33_0) (by first | with_reducible assumption | omega | assumption | (simp only [List.length_map]; omega) | (simp; omega))), (by first | exact True.intro | with_reducible rfl | with_reducible assumption | omega | (simp only [List.length_map]; omega) | (simp; omega) | (simp [List.take_of_length_le]; done) | assumption | trivial | (simp [*, b_iiiLsiEi, d_iiiLsiEi]; done)), (by first | exact True.intro | with_reducible rfl | with_reducible assumption | omega | (simp only [List.length_map]; omega) | (simp; omega) | (simp [List.take_of_length_le]; done) | assumption | trivial | (simp [*, b_iiiLsiEi, d_iiiLsiEi]; done)), rfl, rfl, (by first | (rw [List.getElem?_map, Hx1_33_0]; rfl) | (rw [Nat.zero_add, List.getElem?_map, Hx1_33_0]; rfl) | exact True.intro | with_reducible rfl | with_reducible assumption | omega | (simp only [List.length_map, List.length_set, List.length_append, List.length_replicate, List.length_cons, List.length_nil]; omega) | (simp; done) | (simp; omega) | (simp [List.take_of_length_le]; done) | (simp [← List.map_take, ← List.map_drop]; done) | assumption | trivial | (simp [*, b_si, b_iiiLsiEi, d_si, d_iiiLsiEi]; done)), (by first | rfl | (simp [List.take_of_length_le, d_si, d_iiiLsiEi, d_iiLsiELiiiLsiEiELsiEiii, d_b, d_i, d_LsiE, d_LiiiLsiEiE, fromBR_si, fromBR_b, fromBR_i]; done) | (simp [List.map_set, List.map_take, List.map_drop, List.take_of_length_le, d_si, d_iiiLsiEi, d_iiLsiELiiiLsiEiELsiEiii, d_b, d_i, d_LsiE, d_LiiiLsiEiE, fromBR_si, fromBR_b, fromBR_i]; done)), trivial, trivial⟩
    have ih := t33_0 (l0_0 := l0_0) (a0 := a0) hy0 hy1 l0_33_0 (p_33_0 ++ [x0_33_0]) (List.set v0_33_0 (Int.toNat (List.length p_33_0 : Int)) x0_33_0) (by rw [List.append_assoc]; exact hp0) (by first | omega | (simp only [List.length_map, List.length_set, List.length_append, List.length_replicate, List.length_cons, List.length_nil]; omega) | (simp only [List.length_map, List.length_set, List.length_append, List.length_replicate, List.length_cons, List.length_nil]; assumption) | assumption | (simp only [List.length_map, List.length_set, List.length_append, List.length_replicate, List.length_cons, List.length_nil] at *; omega))
    rw [show ((p_33_0 ++ [x0_33_0]).length : Int) = (p_33_0.length : Int) + 1 from by simp] at ih
    rw [show (⟨[(0, (.one (.bor l0_0 (List.map b_iiiLsiEi a0)))), (3, (.one (.ref ⟨(3, 0, 0), [], 0, (Int.toNat ((List.length (List.map b_iiiLsiEi a0)) : Int))⟩))), (4, (.one (.val (.int .i64 (IntKind.wrap .i64 ((List.length p_33_0 : Int) + 1))))))], [((3, 0, 0), .live ⟨5, (List.map d_iiiLsiEi (List.set v0_33_0 (Int.toNat (List.length p_33_0 : Int)) x0_33_0)), []⟩)]⟩ : St) = h33_0 l0_0 a0 ((List.length p_33_0 : Int) + 1) (List.set v0_33_0 (Int.toNat (List.length p_33_0 : Int)) x0_33_0) from by first | (unfold h33_0; simp only [hw]; done) | (unfold h33_0; simp only [hw, List.length_map, List.length_set, List.length_append, List.length_replicate, List.length_cons, List.length_nil]; done) | (unfold h33_0; simp [hw, List.take_of_length_le, d_si, d_iiiLsiEi, d_iiLsiELiiiLsiEiELsiEiii, d_b, d_i, d_LsiE, d_LiiiLsiEiE, fromBR_si, fromBR_b, fromBR_i]; done)] at st
    exact .loopN st ih
def post33_0 (n : Nat) : O33_0 → Prop
  | .k0 w0 _ _ => List.length w0 = n
theorem z33_0 {a0 : (List K_iiiLsiEi)} : ∀ (l0_33_0 : List K_iiiLsiEi) (i_33_0 : Int) (v0_33_0 : List K_iiiLsiEi), post33_0 (List.length v0_33_0) (r33_0 a0 l0_33_0 i_33_0 v0_33_0)
  | [], i_33_0, v0_33_0 => by
    first | rfl | trivial | (simp only [post33_0]; done) | (simp [post33_0]; done)
  | x0_33_0 :: l0_33_0, i_33_0, v0_33_0 => by
    simp only [r33_0]
    have z := z33_0 (a0 := a0) l0_33_0 (i_33_0 + 1) (List.set v0_33_0 (Int.toNat i_33_0) x0_33_0)
    try simp only [List.length_set] at z
    exact z
/-! loop.example/g00539/laws.toRewardS -/
def m33 (a0 : (List K_iiiLsiEi)) : (List K_iiiLsiEi) :=
  (match r33_0 a0 a0 0 (List.replicate (Int.toNat ((List.length (List.map b_iiiLsiEi a0)) : Int)) (K_iiiLsiEi.mk 0 0 0 [] 0)) with | .k0 w0_33_0_1 w1_33_0_1 w2_33_0_1 => w0_33_0_1)
theorem e33 {l0_0 : Nat} {a0 : (List K_iiiLsiEi)} (hy0 : List.length a0 * 56 ≤ 140737488351232) (hy1 : ∀ z ∈ a0, ok_iiiLsiEi z) : Ev F X (.call 33 [(.one (.bor l0_0 (List.map b_iiiLsiEi a0)))] [] [] [(.one (.own 5 (List.map d_iiiLsiEi (m33 a0))))]) := by
  unfold m33
  have f0 : 0 ≤ ((List.length (List.map b_iiiLsiEi a0)) : Int) ∧ ((List.length (List.map b_iiiLsiEi a0)) : Int) ≤ ((List.length (List.map b_iiiLsiEi a0)) : Int) ∧ ((List.length (List.map b_iiiLsiEi a0)) : Int) ≤ 140737488355328 ∧ ((List.length (List.map b_iiiLsiEi a0)) : Int) * 56 ≤ 140737488355328 := (by first | exact True.intro | with_reducible rfl | with_reducible assumption | omega | (simp only [List.length_map]; omega) | (simp; omega) | (simp [List.take_of_length_le]; done) | assumption | trivial | (simp [*, b_iiiLsiEi, d_iiiLsiEi]; done))
  have f1 : (List.replicate (Int.toNat ((List.length (List.map b_iiiLsiEi a0)) : Int)) [(.val (.int .i64 0)), (.val (.int .i64 0)), (.val (.int .i64 0)), (.own 2 []), (.val (.int .i64 0))]) = (List.map d_iiiLsiEi (List.replicate (Int.toNat ((List.length (List.map b_iiiLsiEi a0)) : Int)) (K_iiiLsiEi.mk 0 0 0 [] 0))) := (by first | rfl | (simp [List.take_of_length_le, d_si, d_iiiLsiEi, d_iiLsiELiiiLsiEiELsiEiii, d_b, d_i, d_LsiE, d_LiiiLsiEiE, fromBR_si, fromBR_b, fromBR_i]; done) | (simp [List.map_set, List.map_take, List.map_drop, List.take_of_length_le, d_si, d_iiiLsiEi, d_iiLsiELiiiLsiEiELsiEiii, d_b, d_i, d_LsiE, d_LiiiLsiEiE, fromBR_si, fromBR_b, fromBR_i]; done))
  cases h0 : r33_0 a0 a0 0 (List.replicate (Int.toNat ((List.length (List.map b_iiiLsiEi a0)) : Int)) (K_iiiLsiEi.mk 0 0 0 [] 0)) with
  | k0 w0_33_0_1 w1_33_0_1 w2_33_0_1 =>
    try dsimp only
    have zh0 := z33_0 (a0 := a0) a0 0 (List.replicate (Int.toNat ((List.length (List.map b_iiiLsiEi a0)) : Int)) (K_iiiLsiEi.mk 0 0 0 [] 0)); rw [h0] at zh0; simp only [post33_0, List.length_map, List.length_set, List.length_append, List.length_replicate, List.length_cons, List.length_nil, Int.toNat_natCast] at zh0
    have f2 : (⟨[(0, (.one (.bor l0_0 (List.map b_iiiLsiEi a0)))), (3, (.one (.ref ⟨(3, 0, 0), [], 0, (Int.toNat ((List.length (List.map b_iiiLsiEi a0)) : Int))⟩))), (4, (.one (.val (.int .i64 0))))], [((3, 0, 0), .live ⟨5, (List.map d_iiiLsiEi (List.replicate (Int.toNat ((List.length (List.map b_iiiLsiEi a0)) : Int)) (K_iiiLsiEi.mk 0 0 0 [] 0))), []⟩)]⟩ : St) = h33_0 l0_0 a0 0 (List.replicate (Int.toNat ((List.length (List.map b_iiiLsiEi a0)) : Int)) (K_iiiLsiEi.mk 0 0 0 [] 0)) := (by first | rfl | (unfold h33_0; simp [List.take_of_length_le, d_si, d_iiiLsiEi, d_iiLsiELiiiLsiEiELsiEiii, d_b, d_i, d_LsiE, d_LiiiLsiEiE, fromBR_si, fromBR_b, fromBR_i]; done))
    have f3 : Ev F X (.code l33_0 (h33_0 l0_0 a0 0 (List.replicate (Int.toNat ((List.length (List.map b_iiiLsiEi a0)) : Int)) (K_iiiLsiEi.mk 0 0 0 [] 0))) (.exit 0) ⟨[(0, (.one (.bor l0_0 (List.map b_iiiLsiEi a0)))), (3, (.one (.ref ⟨(3, 0, 0), [], 0, (Int.toNat ((List.length (List.map b_iiiLsiEi a0)) : Int))⟩))), (4, (.one (.val (.int .i64 w1_33_0_1)))), (11, (.one (.val (.bool w2_33_0_1))))], [((3, 0, 0), .live ⟨5, (List.map d_iiiLsiEi w0_33_0_1), []⟩)]⟩) := (by have t : Ev F X (.code l33_0 (h33_0 l0_0 a0 0 (List.replicate (Int.toNat ((List.length (List.map b_iiiLsiEi a0)) : Int)) (K_iiiLsiEi.mk 0 0 0 [] 0))) (ex33_0 (r33_0 a0 a0 0 (List.replicate (Int.toNat ((List.length (List.map b_iiiLsiEi a0)) : Int)) (K_iiiLsiEi.mk 0 0 0 [] 0)))) (fin33_0 l0_0 a0 (r33_0 a0 a0 0 (List.replicate (Int.toNat ((List.length (List.map b_iiiLsiEi a0)) : Int)) (K_iiiLsiEi.mk 0 0 0 [] 0))))) := t33_0 (l0_0 := l0_0) (a0 := a0) (by first | assumption | omega) (by first | assumption | omega) a0 [] (List.replicate (Int.toNat ((List.length (List.map b_iiiLsiEi a0)) : Int)) (K_iiiLsiEi.mk 0 0 0 [] 0)) rfl (by first | rfl | omega | (simp only [List.length_map, List.length_set, List.length_append, List.length_replicate, List.length_cons, List.length_nil]; done) | (simp only [List.length_map, List.length_set, List.length_append, List.length_replicate, List.length_cons, List.length_nil]; omega) | (simp; done)); rw [h0] at t; exact t)
    have f4 : 0 = 0 := rfl
    have f5 : (Int.toNat ((List.length (List.map b_iiiLsiEi a0)) : Int)) = (List.length (List.map d_iiiLsiEi w0_33_0_1)) := (by first | exact True.intro | with_reducible rfl | with_reducible assumption | omega | (simp only [List.length_map]; omega) | (simp; done) | (simp; omega) | (simp [List.take_of_length_le]; done) | (simp [← List.map_take, ← List.map_drop]; done) | assumption | trivial | (simp [*, b_iiiLsiEi, d_iiiLsiEi]; done))
    have f6 : pureR (List.map d_iiiLsiEi w0_33_0_1) = true := (pureR_iiiLsiEi _)
    exact callP_ok (ps := []) (os := []) (rs := [(.one (.own 5 (List.map d_iiiLsiEi w0_33_0_1)))]) (by kernel_rfl) (.f f0 (.f f1 (.f f2 (.f f3 (.f f4 (.f f5 (.f f6 (.h 10 (.norm (3, 0, 0) (List.map d_iiiLsiEi (List.replicate (Int.toNat ((List.length (List.map b_iiiLsiEi a0)) : Int)) (K_iiiLsiEi.mk 0 0 0 [] 0)))) (.h 13 (.loop (h33_0 l0_0 a0 0 (List.replicate (Int.toNat ((List.length (List.map b_iiiLsiEi a0)) : Int)) (K_iiiLsiEi.mk 0 0 0 [] 0))) (.exit 0) ⟨[(0, (.one (.bor l0_0 (List.map b_iiiLsiEi a0)))), (3, (.one (.ref ⟨(3, 0, 0), [], 0, (Int.toNat ((List.length (List.map b_iiiLsiEi a0)) : Int))⟩))), (4, (.one (.val (.int .i64 w1_33_0_1)))), (11, (.one (.val (.bool w2_33_0_1))))], [((3, 0, 0), .live ⟨5, (List.map d_iiiLsiEi w0_33_0_1), []⟩)]⟩) .nil)))))))))
theorem c33_0 (a0 : List K_iiiLsiEi) : ∀ (l p q : List K_iiiLsiEi), q.length = l.length → ∃ w1 w2, r33_0 a0 l (p.length : Int) (p ++ q) = .k0 (p ++ l) w1 w2
  | [], p, [], _ => ⟨_, _, rfl⟩
  | [], _, _ :: _, h => by simp at h
  | _ :: _, _, [], h => by simp at h
  | x :: l, p, y :: q, h => by
    have ih := c33_0 a0 l (p ++ [x]) q (by simpa using h)
    have e : List.set (p ++ y :: q) (Int.toNat (p.length : Int)) x = (p ++ [x]) ++ q := by simp
    have e2 : ((p ++ [x]).length : Int) = (p.length : Int) + 1 := by simp
    rw [e2] at ih
    simp only [r33_0]
    rw [show p ++ x :: l = (p ++ [x]) ++ l by simp]
    first | (rw [e]; exact ih) | (simp only [e]; exact ih)
theorem q33 (a0 : (List K_iiiLsiEi)) (hy0 : List.length a0 * 56 ≤ 140737488351232) (hy1 : ∀ z ∈ a0, ok_iiiLsiEi z) : (m33 a0) = a0 := by
  have h := c33_0 a0 a0 [] (List.replicate (Int.toNat ((List.length (List.map b_iiiLsiEi a0)) : Int)) (K_iiiLsiEi.mk 0 0 0 [] 0)) (by simp)
  unfold m33
  simp only [List.nil_append, List.length_nil] at h
  obtain ⟨_, _, h⟩ := h
  rw [show ((0 : Nat) : Int) = 0 from rfl] at h
  rw [h]
theorem g33 {l0_0 : Nat} {a0 : (List K_iiiLsiEi)} (hy0 : List.length a0 * 56 ≤ 140737488351232) (hy1 : ∀ z ∈ a0, ok_iiiLsiEi z) : Ev F X (.call 33 [(.one (.bor l0_0 (List.map b_iiiLsiEi a0)))] [] [] [(.one (.own 5 (List.map d_iiiLsiEi a0)))]) := by
  have t := e33 (l0_0 := l0_0) (a0 := a0) hy0 hy1
  rw [q33 a0 hy0 hy1] at t
  exact t
/-! loop.example/g00539/laws.toLedger -/
def m18 (a0 : K_iiLsiELiiiLsiEiELsiEiii) : K_iiLsiELiiiLsiEiELsiEiii :=
  a0
theorem e18 {l0_2 : Nat} {l0_3 : Nat} {l0_4 : Nat} {a0 : K_iiLsiELiiiLsiEiELsiEiii} (hy0 : List.length a0.f2 * 24 ≤ 140737488351232) (hy1 : List.length a0.f3 * 56 ≤ 140737488351232) (hy2 : ∀ z ∈ a0.f3, ok_iiiLsiEi z) (hy3 : List.length a0.f4 * 24 ≤ 140737488351232) : Ev F X (.call 18 [(.agg [(.val (.int .i64 a0.f0)), (.val (.int .i64 a0.f1)), (.bor l0_2 (List.map b_si a0.f2)), (.bor l0_3 (List.map b_iiiLsiEi a0.f3)), (.bor l0_4 (List.map b_si a0.f4)), (.val (.int .i64 a0.f5)), (.val (.int .i64 a0.f6)), (.val (.int .i64 a0.f7))])] [] [] [(.agg [(.val (.int .i64 a0.f0)), (.val (.int .i64 a0.f1)), (.own 2 (List.map d_si a0.f2)), (.own 5 (List.map d_iiiLsiEi a0.f3)), (.own 2 (List.map d_si a0.f4)), (.val (.int .i64 a0.f5)), (.val (.int .i64 a0.f6)), (.val (.int .i64 a0.f7))])]) := by
  have f0 : Ev F X (.call 32 [(.one (.bor (l0_2 + 1) (List.map b_si a0.f2)))] [] [] [(.one (.own 2 (List.map d_si a0.f2)))]) := (g32 (a0 := a0.f2) (by first | with_reducible assumption | omega | assumption | (simp only [List.length_map]; omega) | (simp; omega)))
  have f1 : 0 = 0 := rfl
  have f2 : (List.length (List.map d_si a0.f2)) = (List.length (List.map d_si a0.f2)) := rfl
  have f3 : Ev F X (.call 33 [(.one (.bor (l0_3 + 1) (List.map b_iiiLsiEi a0.f3)))] [] [] [(.one (.own 5 (List.map d_iiiLsiEi a0.f3)))]) := (g33 (a0 := a0.f3) (by first | with_reducible assumption | omega | assumption | (simp only [List.length_map]; omega) | (simp; omega)) (by first | exact True.intro | with_reducible rfl | with_reducible assumption | omega | (simp only [List.length_map, List.length_set, List.length_append, List.length_replicate, List.length_cons, List.length_nil]; omega) | (simp; done) | (simp; omega) | (simp [List.take_of_length_le]; done) | (simp [← List.map_take, ← List.map_drop]; done) | assumption | trivial | (simp [*]; done)))
  have f4 : 0 = 0 := rfl
  have f5 : (List.length (List.map d_iiiLsiEi a0.f3)) = (List.length (List.map d_iiiLsiEi a0.f3)) := rfl
  have f6 : Ev F X (.call 32 [(.one (.bor (l0_4 + 1) (List.map b_si a0.f4)))] [] [] [(.one (.own 2 (List.map d_si a0.f4)))]) := (g32 (a0 := a0.f4) (by first | with_reducible assumption | omega | assumption | (simp only [List.length_map]; omega) | (simp; omega)))
  have f7 : 0 = 0 := rfl
  have f8 : (List.length (List.map d_si a0.f4)) = (List.length (List.map d_si a0.f4)) := rfl
  have f9 : 0 = 0 := rfl
  have f10 : (List.length (List.map d_si a0.f2)) = (List.length (List.map d_si a0.f2)) := rfl
  have f11 : 0 = 0 := rfl
  have f12 : (List.length (List.map d_iiiLsiEi a0.f3)) = (List.length (List.map d_iiiLsiEi a0.f3)) := rfl
  have f13 : 0 = 0 := rfl
  have f14 : (List.length (List.map d_si a0.f4)) = (List.length (List.map d_si a0.f4)) := rfl
  have f15 : pureR (List.map d_si a0.f2) = true := (pureR_si _)
  have f16 : pureR (List.map d_iiiLsiEi a0.f3) = true := (pureR_iiiLsiEi _)
  have f17 : pureR (List.map d_si a0.f4) = true := (pureR_si _)
  exact callP_ok (ps := []) (os := []) (rs := [(.agg [(.val (.int .i64 a0.f0)), (.val (.int .i64 a0.f1)), (.own 2 (List.map d_si a0.f2)), (.own 5 (List.map d_iiiLsiEi a0.f3)), (.own 2 (List.map d_si a0.f4)), (.val (.int .i64 a0.f5)), (.val (.int .i64 a0.f6)), (.val (.int .i64 a0.f7))])]) (by kernel_rfl) (.r 27 [] [] f0 (.f f1 (.f f2 (.r 37 [] [] f3 (.f f4 (.f f5 (.r 47 [] [] f6 (.f f7 (.f f8 (.f f9 (.f f10 (.f f11 (.f f12 (.f f13 (.f f14 (.f f15 (.f f16 (.f f17 .nil))))))))))))))))))
/-! loop 34_0 -/
inductive O34_0 where
  | k0 (w0 : Int) (w1 : Bool)
  | k1
def r34_0 (a0 : (List K_si)) : List K_si → List K_si → Int → O34_0
  | x0_34_0 :: l0_34_0, x1_34_0 :: l1_34_0, i_34_0 =>
    if (!((x0_34_0.f0.toList == x1_34_0.f0.toList) && ((x0_34_0.f1 == x1_34_0.f1) && true))) = true then (O34_0.k1) else
    (r34_0 a0 l0_34_0 l1_34_0 (i_34_0 + 1) )
  | _, _, i_34_0 => (O34_0.k0 i_34_0 (decide (i_34_0 < ((List.length (List.map b_si a0)) : Int))))
def h34_0 (l0_0 : Nat) (l1_0 : Nat) (a0 : (List K_si)) (a1 : (List K_si)) (i_34_0 : Int)  : St := ⟨[(0, (.one (.bor l0_0 (List.map b_si a0)))), (1, (.one (.bor l1_0 (List.map b_si a1)))), (12, (.one (.val (.int .i64 ((List.length (List.map b_si a0)) : Int))))), (13, (.one (.val (.int .i64 i_34_0))))], []⟩
def ex34_0 : O34_0 → VX.Exit
  | .k0 _ _ => (.exit 0)
  | .k1 => .ret
def fin34_0 (l0_0 : Nat) (l1_0 : Nat) (a0 : (List K_si)) (a1 : (List K_si)) : O34_0 → St
  | .k0 w0 w1 => ⟨[(0, (.one (.bor l0_0 (List.map b_si a0)))), (1, (.one (.bor l1_0 (List.map b_si a1)))), (12, (.one (.val (.int .i64 ((List.length (List.map b_si a0)) : Int))))), (13, (.one (.val (.int .i64 w0)))), (14, (.one (.val (.bool w1))))], []⟩
  | .k1 => ⟨[(4, (.one (.val (.bool false))))], []⟩
theorem t34_0 {l0_0 : Nat} {l1_0 : Nat} {a0 : (List K_si)} {a1 : (List K_si)} (hy0 : List.length a0 * 24 ≤ 140737488351232) (hy1 : List.length a1 * 24 ≤ 140737488351232) : ∀ (l0_34_0 : List K_si) (l1_34_0 : List K_si) (p_34_0 : List K_si) (p_34_0_1 : List K_si) , p_34_0 ++ l0_34_0 = a0 → p_34_0_1 ++ l1_34_0 = a1 → List.length p_34_0 = List.length p_34_0_1 → List.length l0_34_0 = List.length l1_34_0 → Ev F X (.code l34_0 (h34_0 l0_0 l1_0 a0 a1 (List.length p_34_0 : Int) ) (ex34_0 (r34_0 a0 l0_34_0 l1_34_0 (List.length p_34_0 : Int) )) (fin34_0 l0_0 l1_0 a0 a1 (r34_0 a0 l0_34_0 l1_34_0 (List.length p_34_0 : Int) )))
  | [], [], p_34_0, p_34_0_1, hp0, hp1, hq1, hl1 => by
    have hc : ¬ (decide ((List.length p_34_0 : Int) < ((List.length (List.map b_si a0)) : Int))) = true := by
      rw [← hp0]; simp only [List.length_map, List.length_set, List.length_append, List.length_replicate, List.length_cons, List.length_nil, decide_eq_true_eq]; omega
    have st := codeH_ok (F := F) (X := X) (c := b34_0) (t := 0) (hs := [(2, .b false)]) (σ := h34_0 l0_0 l1_0 a0 a1 (List.length p_34_0 : Int) ) (σ' := ⟨[(0, (.one (.bor l0_0 (List.map b_si a0)))), (1, (.one (.bor l1_0 (List.map b_si a1)))), (12, (.one (.val (.int .i64 ((List.length (List.map b_si a0)) : Int))))), (13, (.one (.val (.int .i64 (List.length p_34_0 : Int))))), (14, (.one (.val (.bool (decide ((List.length p_34_0 : Int) < ((List.length (List.map b_si a0)) : Int)))))))], []⟩) (e := (.exit 0)) (t' := 3) (hs' := []) (q := [(decide ((List.length p_34_0 : Int) < ((List.length (List.map b_si a0)) : Int))) = false]) (by kernel_rfl) ⟨(nt hc), trivial⟩
    rw [show (⟨[(0, (.one (.bor l0_0 (List.map b_si a0)))), (1, (.one (.bor l1_0 (List.map b_si a1)))), (12, (.one (.val (.int .i64 ((List.length (List.map b_si a0)) : Int))))), (13, (.one (.val (.int .i64 (List.length p_34_0 : Int))))), (14, (.one (.val (.bool (decide ((List.length p_34_0 : Int) < ((List.length (List.map b_si a0)) : Int)))))))], []⟩ : St) = fin34_0 l0_0 l1_0 a0 a1 (.k0 (List.length p_34_0 : Int) (decide ((List.length p_34_0 : Int) < ((List.length (List.map b_si a0)) : Int)))) from by first | rfl | (unfold fin34_0; simp [List.take_of_length_le, d_si, d_iiiLsiEi, d_iiLsiELiiiLsiEiELsiEiii, d_b, d_i, d_LsiE, d_LiiiLsiEiE, fromBR_si, fromBR_b, fromBR_i]; done)] at st
    exact .loopX st (show ((.exit 0) : VX.Exit) ≠ .normal from by simp)
  | x0_34_0 :: l0_34_0, x1_34_0 :: l1_34_0, p_34_0, p_34_0_1, hp0, hp1, hq1, hl1 => by
    have hc : (decide ((List.length p_34_0 : Int) < ((List.length (List.map b_si a0)) : Int))) = true := by
      rw [← hp0]; simp only [List.length_map, List.length_set, List.length_append, List.length_replicate, List.length_cons, List.length_nil, decide_eq_true_eq]; omega
    have Hx0_34_0 : (a0)[Int.toNat (List.length p_34_0 : Int)]? = some x0_34_0 := by
      rw [← hp0, Int.toNat_natCast]; simp
    have Hx1_34_0 : (a1)[Int.toNat (List.length p_34_0 : Int)]? = some x1_34_0 := by
      rw [← hp1, hq1, Int.toNat_natCast]; simp
    have hlen : List.length (a0) = List.length p_34_0 + List.length l0_34_0 + 1 := by rw [← hp0]; simp; omega
    have hw : IntKind.wrap .i64 ((List.length p_34_0 : Int) + 1) = (List.length p_34_0 : Int) + 1 := wrap64 (by omega)
    simp only [r34_0]
    by_cases h_34_0_1 : (!((x0_34_0.f0.toList == x1_34_0.f0.toList) && ((x0_34_0.f1 == x1_34_0.f1) && true))) = true
    · try simp only [if_pos h_34_0_1]
      have st := codeH_ok (F := F) (X := X) (c := b34_0) (t := 0) (hs := [(2, .b true), (12, .row [(.val (.string x0_34_0.f0)), (.val (.int .i64 x0_34_0.f1))]), (20, .row [(.val (.string x1_34_0.f0)), (.val (.int .i64 x1_34_0.f1))]), (25, .b true)]) (σ := h34_0 l0_0 l1_0 a0 a1 (List.length p_34_0 : Int) ) (σ' := ⟨[(4, (.one (.val (.bool false))))], []⟩) (e := .ret) (t' := 28) (hs' := []) (q := [(decide ((List.length p_34_0 : Int) < ((List.length (List.map b_si a0)) : Int))) = true, 0 ≤ (List.length p_34_0 : Int), (List.map b_si a0)[(Int.toNat (List.length p_34_0 : Int))]? = some [(.val (.string x0_34_0.f0)), (.val (.int .i64 x0_34_0.f1))], 0 ≤ (List.length p_34_0 : Int), (List.map b_si a1)[(Int.toNat (List.length p_34_0 : Int))]? = some [(.val (.string x1_34_0.f0)), (.val (.int .i64 x1_34_0.f1))], (!((x0_34_0.f0.toList == x1_34_0.f0.toList) && ((x0_34_0.f1 == x1_34_0.f1) && true))) = true]) (by kernel_rfl) ⟨hc, (by first | exact True.intro | with_reducible rfl | with_reducible assumption | omega | (simp only [List.length_map, List.length_set, List.length_append, List.length_replicate, List.length_cons, List.length_nil]; omega) | (simp; omega) | (simp [List.take_of_length_le]; done) | assumption | trivial | (simp [*]; done)), (by first | (rw [List.getElem?_map, Hx0_34_0]; rfl) | (rw [Nat.zero_add, List.getElem?_map, Hx0_34_0]; rfl) | exact True.intro | with_reducible rfl | with_reducible assumption | omega | (simp only [List.length_map, List.length_set, List.length_append, List.length_replicate, List.length_cons, List.length_nil]; omega) | (simp; done) | (simp; omega) | (simp [List.take_of_length_le]; done) | (simp [← List.map_take, ← List.map_drop]; done) | assumption | trivial | (simp [*, b_si, d_si]; done)), (by first | exact True.intro | with_reducible rfl | with_reducible assumption | omega | (simp only [List.length_map, List.length_set, List.length_append, List.length_replicate, List.length_cons, List.length_nil]; omega) | (simp; omega) | (simp [List.take_of_length_le]; done) | assumption | trivial | (simp [*]; done)), (by first | (rw [List.getElem?_map, Hx1_34_0]; rfl) | (rw [Nat.zero_add, List.getElem?_map, Hx1_34_0]; rfl) | exact True.intro | with_reducible rfl | with_reducible assumption | omega | (simp only [List.length_map, List.length_set, List.length_append, List.length_replicate, List.length_cons, List.length_nil]; omega) | (simp; done) | (simp; omega) | (simp [List.take_of_length_le]; done) | (simp [← List.map_take, ← List.map_drop]; done) | assumption | trivial | (simp [*, b_si, d_si]; done)), h_34_0_1, trivial⟩
      rw [show (⟨[(4, (.one (.val (.bool false))))], []⟩ : St) = fin34_0 l0_0 l1_0 a0 a1 (.k1) from by first | rfl | (unfold fin34_0; simp [List.take_of_length_le, d_si, d_iiiLsiEi, d_iiLsiELiiiLsiEiELsiEiii, d_b, d_i, d_LsiE, d_LiiiLsiEiE, fromBR_si, fromBR_b, fromBR_i]; done)] at st
      exact .loopX st (show (.ret : VX.Exit) ≠ .normal from by simp)
    · try simp only [if_neg h_34_0_1]
      have st := codeH_ok (F := F) (X := X) (c := b34_0) (t := 0) (hs := [(2, .b true), (12, .row [(.val (.string x0_34_0.f0)), (.val (.int .i64 x0_34_0.f1))]), (20, .row [(.val (.string x1_34_0.f0)), (.val (.int .i64 x1_34_0.f1))]), (25, .b false)]) (σ := h34_0 l0_0 l1_0 a0 a1 (List.length p_34_0 : Int) ) (σ' := ⟨[(0, (.one (.bor l0_0 (List.map b_si a0)))), (1, (.one (.bor l1_0 (List.map b_si a1)))), (12, (.one (.val (.int .i64 ((List.length (List.map b_si a0)) : Int))))), (13, (.one (.val (.int .i64 (IntKind.wrap .i64 ((List.length p_34_0 : Int) + 1))))))], []⟩) (e := .normal) (t' := 30) (hs' := []) (q := [(decide ((List.length p_34_0 : Int) < ((List.length (List.map b_si a0)) : Int))) = true, 0 ≤ (List.length p_34_0 : Int), (List.map b_si a0)[(Int.toNat (List.length p_34_0 : Int))]? = some [(.val (.string x0_34_0.f0)), (.val (.int .i64 x0_34_0.f1))], 0 ≤ (List.length p_34_0 : Int), (List.map b_si a1)[(Int.toNat (List.length p_34_0 : Int))]? = some [(.val (.string x1_34_0.f0)), (.val (.int .i64 x1_34_0.f1))], (!((x0_34_0.f0.toList == x1_34_0.f0.toList) && ((x0_34_0.f1 == x1_34_0.f1) && true))) = false, True]) (by kernel_rfl) ⟨hc, (by first | exact True.intro | with_reducible rfl | with_reducible assumption | omega | (simp only [List.length_map, List.length_set, List.length_append, List.length_replicate, List.length_cons, List.length_nil]; omega) | (simp; omega) | (simp [List.take_of_length_le]; done) | assumption | trivial | (simp [*]; done)), (by first | (rw [List.getElem?_map, Hx0_34_0]; rfl) | (rw [Nat.zero_add, List.getElem?_map, Hx0_34_0]; rfl) | exact True.intro | with_reducible rfl | with_reducible assumption | omega | (simp only [List.length_map, List.length_set, List.length_append, List.length_replicate, List.length_cons, List.length_nil]; omega) | (simp; done) | (simp; omega) | (simp [List.take_of_length_le]; done) | (simp [← List.map_take, ← List.map_drop]; done) | assumption | trivial | (simp [*, b_si, d_si]; done)), (by first | exact True.intro | with_reducible rfl | with_reducible assumption | omega | (simp only [List.length_map, List.length_set, List.length_append, List.length_replicate, List.length_cons, List.length_nil]; omega) | (simp; omega) | (simp [List.take_of_length_le]; done) | assumption | trivial | (simp [*]; done)), (by first | (rw [List.getElem?_map, Hx1_34_0]; rfl) | (rw [Nat.zero_add, List.getElem?_map, Hx1_34_0]; rfl) | exact True.intro | with_reducible rfl | with_reducible assumption | omega | (simp only [List.length_map, List.length_set, List.length_append, List.length_replicate, List.length_cons, List.length_nil]; omega) | (simp; done) | (simp; omega) | (simp [List.take_of_length_le]; done) | (simp [← List.map_take, ← List.map_drop]; done) | assumption | trivial | (simp [*, b_si, d_si]; done)), (nt h_34_0_1), trivial, trivial⟩
      have ih := t34_0 (l0_0 := l0_0) (l1_0 := l1_0) (a0 := a0) (a1 := a1) hy0 hy1 l0_34_0 l1_34_0 (p_34_0 ++ [x0_34_0]) (p_34_0_1 ++ [x1_34_0])  (by rw [List.append_assoc]; exact hp0) (by rw [List.append_assoc]; exact hp1) (by simp only [List.length_map, List.length_set, List.length_append, List.length_replicate, List.length_cons, List.length_nil]; omega) (by simp only [List.length_map, List.length_set, List.length_append, List.length_replicate, List.length_cons, List.length_nil] at hl1; omega)
      rw [show ((p_34_0 ++ [x0_34_0]).length : Int) = (p_34_0.length : Int) + 1 from by simp] at ih
      rw [show (⟨[(0, (.one (.bor l0_0 (List.map b_si a0)))), (1, (.one (.bor l1_0 (List.map b_si a1)))), (12, (.one (.val (.int .i64 ((List.length (List.map b_si a0)) : Int))))), (13, (.one (.val (.int .i64 (IntKind.wrap .i64 ((List.length p_34_0 : Int) + 1))))))], []⟩ : St) = h34_0 l0_0 l1_0 a0 a1 ((List.length p_34_0 : Int) + 1)  from by first | (unfold h34_0; simp only [hw]; done) | (unfold h34_0; simp only [hw, List.length_map, List.length_set, List.length_append, List.length_replicate, List.length_cons, List.length_nil]; done) | (unfold h34_0; simp [hw, List.take_of_length_le, d_si, d_iiiLsiEi, d_iiLsiELiiiLsiEiELsiEiii, d_b, d_i, d_LsiE, d_LiiiLsiEiE, fromBR_si, fromBR_b, fromBR_i]; done)] at st
      exact .loopN st ih
/-! slices.Equal[[]loop.example/g00539/impl.Weight,loop.example/g00539/impl.Weight] -/
def m34 (a0 : (List K_si)) (a1 : (List K_si)) : Bool :=
  if (((List.length (List.map b_si a0)) : Int) != ((List.length (List.map b_si a1)) : Int)) = true then false else
  (match r34_0 a0 a0 a1 0 with | .k0 w0_34_0_1 w1_34_0_1 => true | .k1 => false)
theorem e34 {l0_0 : Nat} {a0 : (List K_si)} {l1_0 : Nat} {a1 : (List K_si)} (hy0 : List.length a0 * 24 ≤ 140737488351232) (hy1 : List.length a1 * 24 ≤ 140737488351232) : Ev F X (.call 34 [(.one (.bor l0_0 (List.map b_si a0))), (.one (.bor l1_0 (List.map b_si a1)))] [] [] [(.one (.val (.bool (m34 a0 a1))))]) := by
  unfold m34
  by_cases h0 : (((List.length (List.map b_si a0)) : Int) != ((List.length (List.map b_si a1)) : Int)) = true
  · try simp only [if_pos h0]
    exact callP_ok (ps := []) (os := []) (rs := [(.one (.val (.bool false)))]) (by kernel_rfl) (.f h0 (.h 12 (.b true) .nil))
  · try simp only [if_neg h0]
    cases h1 : r34_0 a0 a0 a1 0 with
    | k0 w0_34_0_1 w1_34_0_1 =>
      try dsimp only
      have f1 : (⟨[(0, (.one (.bor l0_0 (List.map b_si a0)))), (1, (.one (.bor l1_0 (List.map b_si a1)))), (12, (.one (.val (.int .i64 ((List.length (List.map b_si a0)) : Int))))), (13, (.one (.val (.int .i64 0))))], []⟩ : St) = h34_0 l0_0 l1_0 a0 a1 0  := (by first | rfl | (unfold h34_0; simp [List.take_of_length_le, d_si, d_iiiLsiEi, d_iiLsiELiiiLsiEiELsiEiii, d_b, d_i, d_LsiE, d_LiiiLsiEiE, fromBR_si, fromBR_b, fromBR_i]; done))
      have f2 : Ev F X (.code l34_0 (h34_0 l0_0 l1_0 a0 a1 0 ) (.exit 0) ⟨[(0, (.one (.bor l0_0 (List.map b_si a0)))), (1, (.one (.bor l1_0 (List.map b_si a1)))), (12, (.one (.val (.int .i64 ((List.length (List.map b_si a0)) : Int))))), (13, (.one (.val (.int .i64 w0_34_0_1)))), (14, (.one (.val (.bool w1_34_0_1))))], []⟩) := (by have t : Ev F X (.code l34_0 (h34_0 l0_0 l1_0 a0 a1 0 ) (ex34_0 (r34_0 a0 a0 a1 0)) (fin34_0 l0_0 l1_0 a0 a1 (r34_0 a0 a0 a1 0))) := t34_0 (l0_0 := l0_0) (l1_0 := l1_0) (a0 := a0) (a1 := a1) (by first | assumption | omega) (by first | assumption | omega) a0 a1 [] []  rfl rfl rfl (by first | omega | (simp at *; omega)); rw [h1] at t; exact t)
      exact callP_ok (ps := []) (os := []) (rs := [(.one (.val (.bool true)))]) (by kernel_rfl) (.f (nt h0) (.f f1 (.f f2 (.h 12 (.b false) (.h 19 (.loop (h34_0 l0_0 l1_0 a0 a1 0 ) (.exit 0) ⟨[(0, (.one (.bor l0_0 (List.map b_si a0)))), (1, (.one (.bor l1_0 (List.map b_si a1)))), (12, (.one (.val (.int .i64 ((List.length (List.map b_si a0)) : Int))))), (13, (.one (.val (.int .i64 w0_34_0_1)))), (14, (.one (.val (.bool w1_34_0_1))))], []⟩) .nil)))))
    | k1 =>
      try dsimp only
      have f1 : (⟨[(0, (.one (.bor l0_0 (List.map b_si a0)))), (1, (.one (.bor l1_0 (List.map b_si a1)))), (12, (.one (.val (.int .i64 ((List.length (List.map b_si a0)) : Int))))), (13, (.one (.val (.int .i64 0))))], []⟩ : St) = h34_0 l0_0 l1_0 a0 a1 0  := (by first | rfl | (unfold h34_0; simp [List.take_of_length_le, d_si, d_iiiLsiEi, d_iiLsiELiiiLsiEiELsiEiii, d_b, d_i, d_LsiE, d_LiiiLsiEiE, fromBR_si, fromBR_b, fromBR_i]; done))
      have f2 : Ev F X (.code l34_0 (h34_0 l0_0 l1_0 a0 a1 0 ) .ret ⟨[(4, (.one (.val (.bool false))))], []⟩) := (by have t : Ev F X (.code l34_0 (h34_0 l0_0 l1_0 a0 a1 0 ) (ex34_0 (r34_0 a0 a0 a1 0)) (fin34_0 l0_0 l1_0 a0 a1 (r34_0 a0 a0 a1 0))) := t34_0 (l0_0 := l0_0) (l1_0 := l1_0) (a0 := a0) (a1 := a1) (by first | assumption | omega) (by first | assumption | omega) a0 a1 [] []  rfl rfl rfl (by first | omega | (simp at *; omega)); rw [h1] at t; exact t)
      exact callP_ok (ps := []) (os := []) (rs := [(.one (.val (.bool false)))]) (by kernel_rfl) (.f (nt h0) (.f f1 (.f f2 (.h 12 (.b false) (.h 19 (.loop (h34_0 l0_0 l1_0 a0 a1 0 ) .ret ⟨[(4, (.one (.val (.bool false))))], []⟩) .nil)))))
theorem eqr34_0 (a0 : (List K_si)) : ∀ (l m : List K_si) (i : Int), l.length = m.length → (r34_0 a0 l m i = .k1 ∧ l ≠ m) ∨ (∃ w0 w1, r34_0 a0 l m i = .k0 w0 w1 ∧ l = m)
  | [], [], i, _ => .inr ⟨_, _, rfl, rfl⟩
  | [], _ :: _, i, h => by simp at h
  | _ :: _, [], i, h => by simp at h
  | x :: l, y :: m, i, h => by
    have ih := eqr34_0 a0 l m (i + 1) (by simpa using h)
    by_cases hxy : x = y
    · subst hxy
      have e : r34_0 a0 (x :: l) (x :: m) i = r34_0 a0 l m (i + 1) := by simp [r34_0, ba_eq]
      rw [e]
      rcases ih with ⟨h1, h2⟩ | ⟨w0, w1, h1, h2⟩
      · exact .inl ⟨h1, by simp [h2]⟩
      · exact .inr ⟨_, _, h1, by rw [h2]⟩
    · have e : r34_0 a0 (x :: l) (y :: m) i = .k1 := by
        simp only [r34_0]
        first
          | ((repeat' split) <;> simp_all [ba_eq]; done)
          | (cases x; cases y; (repeat' split) <;> simp_all [ba_eq])
      exact .inl ⟨e, by simp [hxy]⟩
open Classical in
theorem eqd34 (a b : (List K_si)) : m34 a b = decide (a = b) := by
  rw [Bool.eq_iff_iff, decide_eq_true_eq]
  unfold m34
  by_cases hl : List.length a = List.length b
  · rcases eqr34_0 a a b 0 hl with ⟨h1, h2⟩ | ⟨w0, w1, h1, h2⟩
    · simp only [h1, List.length_map, hl]
      first
        | (simp [h2, ba_eq]; done)
        | (cases a; cases b; simp_all [ba_eq]; done)
        | (cases a; cases b; (repeat' split) <;> simp_all [ba_eq])
    · simp only [h1, List.length_map, hl]
      first
        | (simp [h2, ba_eq]; done)
        | (cases a; cases b; simp_all [ba_eq]; done)
        | (cases a; cases b; (repeat' split) <;> simp_all [ba_eq])
  · have hn : a ≠ b := by rintro rfl; exact hl rfl
    simp only [List.length_map]
    first
      | (simp [hn, hl, ba_eq]; done)
      | ((repeat' split) <;> simp_all [ba_eq]; done)
      | (simp [hn]; omega)
/-! loop.example/g00539/impl.sameReward -/
def m36 (a0 : K_iiiLsiEi) (a1 : K_iiiLsiEi) : Bool :=
  if (a0.f0 == a1.f0) = true then (if (a0.f1 == a1.f1) = true then (if (a0.f2 == a1.f2) = true then (if (m34 a0.f3 a1.f3) = true then (a0.f4 == a1.f4) else
        false) else
      false) else
    false) else
  false
theorem e36 {l0_3 : Nat} {a0 : K_iiiLsiEi} {l1_3 : Nat} {a1 : K_iiiLsiEi} (hy0 : List.length a0.f3 * 24 ≤ 140737488351232) (hy1 : List.length a1.f3 * 24 ≤ 140737488351232) : Ev F X (.call 36 [(.agg [(.val (.int .i64 a0.f0)), (.val (.int .i64 a0.f1)), (.val (.int .i64 a0.f2)), (.bor l0_3 (List.map b_si a0.f3)), (.val (.int .i64 a0.f4))]), (.agg [(.val (.int .i64 a1.f0)), (.val (.int .i64 a1.f1)), (.val (.int .i64 a1.f2)), (.bor l1_3 (List.map b_si a1.f3)), (.val (.int .i64 a1.f4))])] [] [] [(.one (.val (.bool (m36 a0 a1))))]) := by
  unfold m36
  by_cases h0 : (a0.f0 == a1.f0) = true
  · try simp only [if_pos h0]
    by_cases h1 : (a0.f1 == a1.f1) = true
    · try simp only [if_pos h1]
      by_cases h2 : (a0.f2 == a1.f2) = true
      · try simp only [if_pos h2]
        have f17 : Ev F X (.call 34 [(.one (.bor (l0_3 + 1) (List.map b_si a0.f3))), (.one (.bor (l1_3 + 1) (List.map b_si a1.f3)))] [] [] [(.one (.val (.bool (m34 a0.f3 a1.f3))))]) := (e34 (a0 := a0.f3) (a1 := a1.f3) (by first | with_reducible assumption | omega | assumption | (simp only [List.length_map]; omega) | (simp; omega)) (by first | with_reducible assumption | omega | assumption | (simp only [List.length_map]; omega) | (simp; omega)))
        by_cases h3 : (m34 a0.f3 a1.f3) = true
        · try simp only [if_pos h3]
          exact callP_ok (ps := []) (os := []) (rs := [(.one (.val (.bool (a0.f4 == a1.f4))))]) (by kernel_rfl) (.f h0 (.f h0 (.f h0 (.f h0 (.f h0 (.f h0 (.f h1 (.f h1 (.f h1 (.f h1 (.f h1 (.f h1 (.f h2 (.f h2 (.f h2 (.f h2 (.f h2 (.h 18 (.b true) (.h 20 (.b true) (.h 22 (.b true) (.h 24 (.b true) (.h 26 (.b true) (.h 29 (.b true) (.h 32 (.b true) (.h 34 (.b true) (.h 36 (.b true) (.h 38 (.b true) (.h 40 (.b true) (.h 43 (.b true) (.h 46 (.b true) (.h 48 (.b true) (.h 50 (.b true) (.h 52 (.b true) (.h 54 (.b true) (.r 55 [] [] f17 (.f h2 (.f h3 (.f h3 (.f h3 (.f h3 (.f h3 (.f h3 (.h 57 (.b true) (.h 60 (.b true) (.h 62 (.b true) (.h 64 (.b true) (.h 66 (.b true) (.h 68 (.b true) (.h 71 (.b true) .nil)))))))))))))))))))))))))))))))))))))))))))))))))
        · try simp only [if_neg h3]
          exact callP_ok (ps := []) (os := []) (rs := [(.one (.val (.bool false)))]) (by kernel_rfl) (.f h0 (.f h0 (.f h0 (.f h0 (.f h0 (.f h0 (.f h1 (.f h1 (.f h1 (.f h1 (.f h1 (.f h1 (.f h2 (.f h2 (.f h2 (.f h2 (.f h2 (.h 18 (.b true) (.h 20 (.b true) (.h 22 (.b true) (.h 24 (.b true) (.h 26 (.b true) (.h 29 (.b true) (.h 32 (.b true) (.h 34 (.b true) (.h 36 (.b true) (.h 38 (.b true) (.h 40 (.b true) (.h 43 (.b true) (.h 46 (.b true) (.h 48 (.b true) (.h 50 (.b true) (.h 52 (.b true) (.h 54 (.b true) (.r 55 [] [] f17 (.f h2 (.f (nt h3) (.f (nt h3) (.f (nt h3) (.f (nt h3) (.f (nt h3) (.f (nt h3) (.h 57 (.b true) (.h 60 (.b false) (.h 62 (.b false) (.h 64 (.b false) (.h 66 (.b false) (.h 68 (.b false) (.h 71 (.b false) .nil)))))))))))))))))))))))))))))))))))))))))))))))))
      · try simp only [if_neg h2]
        exact callP_ok (ps := []) (os := []) (rs := [(.one (.val (.bool false)))]) (by kernel_rfl) (.f h0 (.f h0 (.f h0 (.f h0 (.f h0 (.f h0 (.f h1 (.f h1 (.f h1 (.f h1 (.f h1 (.f h1 (.f (nt h2) (.f (nt h2) (.f (nt h2) (.f (nt h2) (.f (nt h2) (.f (nt h2) (.h 18 (.b true) (.h 20 (.b true) (.h 22 (.b true) (.h 24 (.b true) (.h 26 (.b true) (.h 29 (.b true) (.h 32 (.b true) (.h 34 (.b true) (.h 36 (.b true) (.h 38 (.b true) (.h 40 (.b true) (.h 43 (.b true) (.h 46 (.b false) (.h 48 (.b false) (.h 50 (.b false) (.h 52 (.b false) (.h 54 (.b false) (.h 57 (.b false) .nil))))))))))))))))))))))))))))))))))))
    · try simp only [if_neg h1]
      exact callP_ok (ps := []) (os := []) (rs := [(.one (.val (.bool false)))]) (by kernel_rfl) (.f h0 (.f h0 (.f h0 (.f h0 (.f h0 (.f h0 (.f (nt h1) (.f (nt h1) (.f (nt h1) (.f (nt h1) (.f (nt h1) (.f (nt h1) (.h 18 (.b true) (.h 20 (.b true) (.h 22 (.b true) (.h 24 (.b true) (.h 26 (.b true) (.h 29 (.b true) (.h 32 (.b false) (.h 34 (.b false) (.h 36 (.b false) (.h 38 (.b false) (.h 40 (.b false) (.h 43 (.b false) .nil))))))))))))))))))))))))
  · try simp only [if_neg h0]
    exact callP_ok (ps := []) (os := []) (rs := [(.one (.val (.bool false)))]) (by kernel_rfl) (.f (nt h0) (.f (nt h0) (.f (nt h0) (.f (nt h0) (.f (nt h0) (.f (nt h0) (.h 18 (.b false) (.h 20 (.b false) (.h 22 (.b false) (.h 24 (.b false) (.h 26 (.b false) (.h 29 (.b false) .nil))))))))))))
open Classical in
theorem eqd36 (a b : K_iiiLsiEi) : m36 a b = decide (a = b) := by
  rw [Bool.eq_iff_iff, decide_eq_true_eq]
  constructor
  · intro h
    unfold m36 at h
    cases a; cases b
    (repeat' split at h) <;> simp_all [ba_eq, eqd34]
  · rintro rfl
    simp [m36, ba_eq, eqd34]
/-! loop 1003500_0 -/
inductive O1003500_0 where
  | k0 (w0 : Int) (w1 : Bool)
  | k1
def r1003500_0 (a0 : (List K_iiiLsiEi)) : List K_iiiLsiEi → List K_iiiLsiEi → Int → O1003500_0
  | x0_1003500_0 :: l0_1003500_0, x1_1003500_0 :: l1_1003500_0, i_1003500_0 =>
    if (!(m36 x0_1003500_0 x1_1003500_0)) = true then (O1003500_0.k1) else
    (r1003500_0 a0 l0_1003500_0 l1_1003500_0 (i_1003500_0 + 1) )
  | _, _, i_1003500_0 => (O1003500_0.k0 i_1003500_0 (decide (i_1003500_0 < ((List.length (List.map b_iiiLsiEi a0)) : Int))))
def h1003500_0 (l0_0 : Nat) (l1_0 : Nat) (a0 : (List K_iiiLsiEi)) (a1 : (List K_iiiLsiEi)) (i_1003500_0 : Int)  : St := ⟨[(0, (.one (.bor l0_0 (List.map b_iiiLsiEi a0)))), (1, (.one (.bor l1_0 (List.map b_iiiLsiEi a1)))), (2, (.clo 36 [] [])), (15, (.one (.bor l0_0 (List.map b_iiiLsiEi a0)))), (16, (.one (.val (.int .i64 ((List.length (List.map b_iiiLsiEi a0)) : Int))))), (17, (.one (.val (.int .i64 i_1003500_0))))], []⟩
def ex1003500_0 : O1003500_0 → VX.Exit
  | .k0 _ _ => (.exit 0)
  | .k1 => .ret
def fin1003500_0 (l0_0 : Nat) (l1_0 : Nat) (a0 : (List K_iiiLsiEi)) (a1 : (List K_iiiLsiEi)) : O1003500_0 → St
  | .k0 w0 w1 => ⟨[(0, (.one (.bor l0_0 (List.map b_iiiLsiEi a0)))), (1, (.one (.bor l1_0 (List.map b_iiiLsiEi a1)))), (2, (.clo 36 [] [])), (15, (.one (.bor l0_0 (List.map b_iiiLsiEi a0)))), (16, (.one (.val (.int .i64 ((List.length (List.map b_iiiLsiEi a0)) : Int))))), (17, (.one (.val (.int .i64 w0)))), (18, (.one (.val (.bool w1))))], []⟩
  | .k1 => ⟨[(6, (.one (.val (.bool false))))], []⟩
theorem t1003500_0 {l0_0 : Nat} {l1_0 : Nat} {a0 : (List K_iiiLsiEi)} {a1 : (List K_iiiLsiEi)} (hy0 : List.length a0 * 56 ≤ 140737488351232) (hy1 : ∀ z ∈ a0, ok_iiiLsiEi z) (hy2 : List.length a1 * 56 ≤ 140737488351232) (hy3 : ∀ z ∈ a1, ok_iiiLsiEi z) : ∀ (l0_1003500_0 : List K_iiiLsiEi) (l1_1003500_0 : List K_iiiLsiEi) (p_1003500_0 : List K_iiiLsiEi) (p_1003500_0_1 : List K_iiiLsiEi) , p_1003500_0 ++ l0_1003500_0 = a0 → p_1003500_0_1 ++ l1_1003500_0 = a1 → List.length p_1003500_0 = List.length p_1003500_0_1 → List.length l0_1003500_0 = List.length l1_1003500_0 → Ev F X (.code l35_0 (h1003500_0 l0_0 l1_0 a0 a1 (List.length p_1003500_0 : Int) ) (ex1003500_0 (r1003500_0 a0 l0_1003500_0 l1_1003500_0 (List.length p_1003500_0 : Int) )) (fin1003500_0 l0_0 l1_0 a0 a1 (r1003500_0 a0 l0_1003500_0 l1_1003500_0 (List.length p_1003500_0 : Int) )))
  | [], [], p_1003500_0, p_1003500_0_1, hp0, hp1, hq1, hl1 => by
    have hc : ¬ (decide ((List.length p_1003500_0 : Int) < ((List.length (List.map b_iiiLsiEi a0)) : Int))) = true := by
      rw [← hp0]; simp only [List.length_map, List.length_set, List.length_append, List.length_replicate, List.length_cons, List.length_nil, decide_eq_true_eq]; omega
    have st := codeH_ok (F := F) (X := X) (c := b35_0) (t := 0) (hs := [(2, .b false)]) (σ := h1003500_0 l0_0 l1_0 a0 a1 (List.length p_1003500_0 : Int) ) (σ' := ⟨[(0, (.one (.bor l0_0 (List.map b_iiiLsiEi a0)))), (1, (.one (.bor l1_0 (List.map b_iiiLsiEi a1)))), (2, (.clo 36 [] [])), (15, (.one (.bor l0_0 (List.map b_iiiLsiEi a0)))), (16, (.one (.val (.int .i64 ((List.length (List.map b_iiiLsiEi a0)) : Int))))), (17, (.one (.val (.int .i64 (List.length p_1003500_0 : Int))))), (18, (.one (.val (.bool (decide ((List.length p_1003500_0 : Int) < ((List.length (List.map b_iiiLsiEi a0)) : Int)))))))], []⟩) (e := (.exit 0)) (t' := 3) (hs' := []) (q := [(decide ((List.length p_1003500_0 : Int) < ((List.length (List.map b_iiiLsiEi a0)) : Int))) = false]) (by kernel_rfl) ⟨(nt hc), trivial⟩
    rw [show (⟨[(0, (.one (.bor l0_0 (List.map b_iiiLsiEi a0)))), (1, (.one (.bor l1_0 (List.map b_iiiLsiEi a1)))), (2, (.clo 36 [] [])), (15, (.one (.bor l0_0 (List.map b_iiiLsiEi a0)))), (16, (.one (.val (.int .i64 ((List.length (List.map b_iiiLsiEi a0)) : Int))))), (17, (.one (.val (.int .i64 (List.length p_1003500_0 : Int))))), (18, (.one (.val (.bool (decide ((List.length p_1003500_0 : Int) < ((List.length (List.map b_iiiLsiEi a0)) : Int)))))))], []⟩ : St) = fin1003500_0 l0_0 l1_0 a0 a1 (.k0 (List.length p_1003500_0 : Int) (decide ((List.length p_1003500_0 : Int) < ((List.length (List.map b_iiiLsiEi a0)) : Int)))) from by first | rfl | (unfold fin1003500_0; simp [List.take_of_length_le, d_si, d_iiiLsiEi, d_iiLsiELiiiLsiEiELsiEiii, d_b, d_i, d_LsiE, d_LiiiLsiEiE, fromBR_si, fromBR_b, fromBR_i]; done)] at st
    exact .loopX st (show ((.exit 0) : VX.Exit) ≠ .normal from by simp)
  | x0_1003500_0 :: l0_1003500_0, x1_1003500_0 :: l1_1003500_0, p_1003500_0, p_1003500_0_1, hp0, hp1, hq1, hl1 => by
    have hc : (decide ((List.length p_1003500_0 : Int) < ((List.length (List.map b_iiiLsiEi a0)) : Int))) = true := by
      rw [← hp0]; simp only [List.length_map, List.length_set, List.length_append, List.length_replicate, List.length_cons, List.length_nil, decide_eq_true_eq]; omega
    have Hx0_1003500_0 : (a0)[Int.toNat (List.length p_1003500_0 : Int)]? = some x0_1003500_0 := by
      rw [← hp0, Int.toNat_natCast]; simp
    have Hx1_1003500_0 : (a1)[Int.toNat (List.length p_1003500_0 : Int)]? = some x1_1003500_0 := by
      rw [← hp1, hq1, Int.toNat_natCast]; simp
    have Mx0_1003500_0_0 := hy1 x0_1003500_0 (List.mem_of_getElem? Hx0_1003500_0)
    have Mx1_1003500_0_0 := hy3 x1_1003500_0 (List.mem_of_getElem? Hx1_1003500_0)
    have hlen : List.length (a0) = List.length p_1003500_0 + List.length l0_1003500_0 + 1 := by rw [← hp0]; simp; omega
    have hw : IntKind.wrap .i64 ((List.length p_1003500_0 : Int) + 1) = (List.length p_1003500_0 : Int) + 1 := wrap64 (by omega)
    simp only [r1003500_0]
    by_cases h_1003500_0_1 : (!(m36 x0_1003500_0 x1_1003500_0)) = true
    · try simp only [if_pos h_1003500_0_1]
      have st := codeH_ok (F := F) (X := X) (c := b35_0) (t := 0) (hs := [(2, .b true), (6, .row [(.val (.int .i64 x0_1003500_0.f0)), (.val (.int .i64 x0_1003500_0.f1)), (.val (.int .i64 x0_1003500_0.f2)), (.sl (List.map b_si x0_1003500_0.f3)), (.val (.int .i64 x0_1003500_0.f4))]), (20, .row [(.val (.int .i64 x1_1003500_0.f0)), (.val (.int .i64 x1_1003500_0.f1)), (.val (.int .i64 x1_1003500_0.f2)), (.sl (List.map b_si x1_1003500_0.f3)), (.val (.int .i64 x1_1003500_0.f4))]), (34, .ret [] [(.one (.val (.bool (m36 x0_1003500_0 x1_1003500_0))))] [] []), (37, .b true)]) (σ := h1003500_0 l0_0 l1_0 a0 a1 (List.length p_1003500_0 : Int) ) (σ' := ⟨[(6, (.one (.val (.bool false))))], []⟩) (e := .ret) (t' := 40) (hs' := []) (q := [(decide ((List.length p_1003500_0 : Int) < ((List.length (List.map b_iiiLsiEi a0)) : Int))) = true, 0 ≤ (List.length p_1003500_0 : Int), (List.map b_iiiLsiEi a0)[(Int.toNat (List.length p_1003500_0 : Int))]? = some [(.val (.int .i64 x0_1003500_0.f0)), (.val (.int .i64 x0_1003500_0.f1)), (.val (.int .i64 x0_1003500_0.f2)), (.sl (List.map b_si x0_1003500_0.f3)), (.val (.int .i64 x0_1003500_0.f4))], 0 ≤ (List.length p_1003500_0 : Int), (List.map b_iiiLsiEi a1)[(Int.toNat (List.length p_1003500_0 : Int))]? = some [(.val (.int .i64 x1_1003500_0.f0)), (.val (.int .i64 x1_1003500_0.f1)), (.val (.int .i64 x1_1003500_0.f2)), (.sl (List.map b_si x1_1003500_0.f3)), (.val (.int .i64 x1_1003500_0.f4))], Ev F X (.call 36 [(.agg [(.val (.int .i64 x0_1003500_0.f0)), (.val (.int .i64 x0_1003500_0.f1)), (.val (.int .i64 x0_1003500_0.f2)), (.bor (l0_0 + 1) (List.map b_si x0_1003500_0.f3)), (.val (.int .i64 x0_1003500_0.f4))]), (.agg [(.val (.int .i64 x1_1003500_0.f0)), (.val (.int .i64 x1_1003500_0.f1)), (.val (.int .i64 x1_1003500_0.f2)), (.bor (l1_0 + 1) (List.map b_si x1_1003500_0.f3)), (.val (.int .i64 x1_1003500_0.f4))])] [] [] [(.one (.val (.bool (m36 x0_1003500_0 x1_1003500_0))))]), (!(m36 x0_1003500_0 x1_1003500_0)) = true]) (by kernel_rfl) ⟨hc, (by first | exact True.intro | with_reducible rfl | with_reducible assumption | omega | (simp only [List.length_map, List.length_set, List.length_append, List.length_replicate, List.length_cons, List.length_nil]; omega) | (simp; omega) | (simp [List.take_of_length_le]; done) | assumption | trivial | (simp [*]; done)), (by first | (rw [List.getElem?_map, Hx0_1003500_0]; rfl) | (rw [Nat.zero_add, List.getElem?_map, Hx0_1003500_0]; rfl) | exact True.intro | with_reducible rfl | with_reducible assumption | omega | (simp only [List.length_map, List.length_set, List.length_append, List.length_replicate, List.length_cons, List.length_nil]; omega) | (simp; done) | (simp; omega) | (simp [List.take_of_length_le]; done) | (simp [← List.map_take, ← List.map_drop]; done) | assumption | trivial | (simp [*, b_si, b_iiiLsiEi, d_si, d_iiiLsiEi]; done)), (by first | exact True.intro | with_reducible rfl | with_reducible assumption | omega | (simp only [List.length_map, List.length_set, List.length_append, List.length_replicate, List.length_cons, List.length_nil]; omega) | (simp; omega) | (simp [List.take_of_length_le]; done) | assumption | trivial | (simp [*]; done)), (by first | (rw [List.getElem?_map, Hx1_1003500_0]; rfl) | (rw [Nat.zero_add, List.getElem?_map, Hx1_1003500_0]; rfl) | exact True.intro | with_reducible rfl | with_reducible assumption | omega | (simp only [List.length_map, List.length_set, List.length_append, List.length_replicate, List.length_cons, List.length_nil]; omega) | (simp; done) | (simp; omega) | (simp [List.take_of_length_le]; done) | (simp [← List.map_take, ← List.map_drop]; done) | assumption | trivial | (simp [*, b_si, b_iiiLsiEi, d_si, d_iiiLsiEi]; done)), (e36 (a0 := x0_1003500_0) (a1 := x1_1003500_0) (by first | with_reducible assumption | omega | assumption | (simp only [List.length_map]; omega) | (simp; omega)) (by first | with_reducible assumption | omega | assumption | (simp only [List.length_map]; omega) | (simp; omega))), h_1003500_0_1, trivial⟩
      rw [show (⟨[(6, (.one (.val (.bool false))))], []⟩ : St) = fin1003500_0 l0_0 l1_0 a0 a1 (.k1) from by first | rfl | (unfold fin1003500_0; simp [List.take_of_length_le, d_si, d_iiiLsiEi, d_iiLsiELiiiLsiEiELsiEiii, d_b, d_i, d_LsiE, d_LiiiLsiEiE, fromBR_si, fromBR_b, fromBR_i]; done)] at st
      exact .loopX st (show (.ret : VX.Exit) ≠ .normal from by simp)
    · try simp only [if_neg h_1003500_0_1]
      have st := codeH_ok (F := F) (X := X) (c := b35_0) (t := 0) (hs := [(2, .b true), (6, .row [(.val (.int .i64 x0_1003500_0.f0)), (.val (.int .i64 x0_1003500_0.f1)), (.val (.int .i64 x0_1003500_0.f2)), (.sl (List.map b_si x0_1003500_0.f3)), (.val (.int .i64 x0_1003500_0.f4))]), (20, .row [(.val (.int .i64 x1_1003500_0.f0)), (.val (.int .i64 x1_1003500_0.f1)), (.val (.int .i64 x1_1003500_0.f2)), (.sl (List.map b_si x1_1003500_0.f3)), (.val (.int .i64 x1_1003500_0.f4))]), (34, .ret [] [(.one (.val (.bool (m36 x0_1003500_0 x1_1003500_0))))] [] []), (37, .b false)]) (σ := h1003500_0 l0_0 l1_0 a0 a1 (List.length p_1003500_0 : Int) ) (σ' := ⟨[(0, (.one (.bor l0_0 (List.map b_iiiLsiEi a0)))), (1, (.one (.bor l1_0 (List.map b_iiiLsiEi a1)))), (2, (.clo 36 [] [])), (15, (.one (.bor l0_0 (List.map b_iiiLsiEi a0)))), (16, (.one (.val (.int .i64 ((List.length (List.map b_iiiLsiEi a0)) : Int))))), (17, (.one (.val (.int .i64 (IntKind.wrap .i64 ((List.length p_1003500_0 : Int) + 1))))))], []⟩) (e := .normal) (t' := 42) (hs' := []) (q := [(decide ((List.length p_1003500_0 : Int) < ((List.length (List.map b_iiiLsiEi a0)) : Int))) = true, 0 ≤ (List.length p_1003500_0 : Int), (List.map b_iiiLsiEi a0)[(Int.toNat (List.length p_1003500_0 : Int))]? = some [(.val (.int .i64 x0_1003500_0.f0)), (.val (.int .i64 x0_1003500_0.f1)), (.val (.int .i64 x0_1003500_0.f2)), (.sl (List.map b_si x0_1003500_0.f3)), (.val (.int .i64 x0_1003500_0.f4))], 0 ≤ (List.length p_1003500_0 : Int), (List.map b_iiiLsiEi a1)[(Int.toNat (List.length p_1003500_0 : Int))]? = some [(.val (.int .i64 x1_1003500_0.f0)), (.val (.int .i64 x1_1003500_0.f1)), (.val (.int .i64 x1_1003500_0.f2)), (.sl (List.map b_si x1_1003500_0.f3)), (.val (.int .i64 x1_1003500_0.f4))], Ev F X (.call 36 [(.agg [(.val (.int .i64 x0_1003500_0.f0)), (.val (.int .i64 x0_1003500_0.f1)), (.val (.int .i64 x0_1003500_0.f2)), (.bor (l0_0 + 1) (List.map b_si x0_1003500_0.f3)), (.val (.int .i64 x0_1003500_0.f4))]), (.agg [(.val (.int .i64 x1_1003500_0.f0)), (.val (.int .i64 x1_1003500_0.f1)), (.val (.int .i64 x1_1003500_0.f2)), (.bor (l1_0 + 1) (List.map b_si x1_1003500_0.f3)), (.val (.int .i64 x1_1003500_0.f4))])] [] [] [(.one (.val (.bool (m36 x0_1003500_0 x1_1003500_0))))]), (!(m36 x0_1003500_0 x1_1003500_0)) = false, True]) (by kernel_rfl) ⟨hc, (by first | exact True.intro | with_reducible rfl | with_reducible assumption | omega | (simp only [List.length_map, List.length_set, List.length_append, List.length_replicate, List.length_cons, List.length_nil]; omega) | (simp; omega) | (simp [List.take_of_length_le]; done) | assumption | trivial | (simp [*]; done)), (by first | (rw [List.getElem?_map, Hx0_1003500_0]; rfl) | (rw [Nat.zero_add, List.getElem?_map, Hx0_1003500_0]; rfl) | exact True.intro | with_reducible rfl | with_reducible assumption | omega | (simp only [List.length_map, List.length_set, List.length_append, List.length_replicate, List.length_cons, List.length_nil]; omega) | (simp; done) | (simp; omega) | (simp [List.take_of_length_le]; done) | (simp [← List.map_take, ← List.map_drop]; done) | assumption | trivial | (simp [*, b_si, b_iiiLsiEi, d_si, d_iiiLsiEi]; done)), (by first | exact True.intro | with_reducible rfl | with_reducible assumption | omega | (simp only [List.length_map, List.length_set, List.length_append, List.length_replicate, List.length_cons, List.length_nil]; omega) | (simp; omega) | (simp [List.take_of_length_le]; done) | assumption | trivial | (simp [*]; done)), (by first | (rw [List.getElem?_map, Hx1_1003500_0]; rfl) | (rw [Nat.zero_add, List.getElem?_map, Hx1_1003500_0]; rfl) | exact True.intro | with_reducible rfl | with_reducible assumption | omega | (simp only [List.length_map, List.length_set, List.length_append, List.length_replicate, List.length_cons, List.length_nil]; omega) | (simp; done) | (simp; omega) | (simp [List.take_of_length_le]; done) | (simp [← List.map_take, ← List.map_drop]; done) | assumption | trivial | (simp [*, b_si, b_iiiLsiEi, d_si, d_iiiLsiEi]; done)), (e36 (a0 := x0_1003500_0) (a1 := x1_1003500_0) (by first | with_reducible assumption | omega | assumption | (simp only [List.length_map]; omega) | (simp; omega)) (by first | with_reducible assumption | omega | assumption | (simp only [List.length_map]; omega) | (simp; omega))), (nt h_1003500_0_1), trivial, trivial⟩
      have ih := t1003500_0 (l0_0 := l0_0) (l1_0 := l1_0) (a0 := a0) (a1 := a1) hy0 hy1 hy2 hy3 l0_1003500_0 l1_1003500_0 (p_1003500_0 ++ [x0_1003500_0]) (p_1003500_0_1 ++ [x1_1003500_0])  (by rw [List.append_assoc]; exact hp0) (by rw [List.append_assoc]; exact hp1) (by simp only [List.length_map, List.length_set, List.length_append, List.length_replicate, List.length_cons, List.length_nil]; omega) (by simp only [List.length_map, List.length_set, List.length_append, List.length_replicate, List.length_cons, List.length_nil] at hl1; omega)
      rw [show ((p_1003500_0 ++ [x0_1003500_0]).length : Int) = (p_1003500_0.length : Int) + 1 from by simp] at ih
      rw [show (⟨[(0, (.one (.bor l0_0 (List.map b_iiiLsiEi a0)))), (1, (.one (.bor l1_0 (List.map b_iiiLsiEi a1)))), (2, (.clo 36 [] [])), (15, (.one (.bor l0_0 (List.map b_iiiLsiEi a0)))), (16, (.one (.val (.int .i64 ((List.length (List.map b_iiiLsiEi a0)) : Int))))), (17, (.one (.val (.int .i64 (IntKind.wrap .i64 ((List.length p_1003500_0 : Int) + 1))))))], []⟩ : St) = h1003500_0 l0_0 l1_0 a0 a1 ((List.length p_1003500_0 : Int) + 1)  from by first | (unfold h1003500_0; simp only [hw]; done) | (unfold h1003500_0; simp only [hw, List.length_map, List.length_set, List.length_append, List.length_replicate, List.length_cons, List.length_nil]; done) | (unfold h1003500_0; simp [hw, List.take_of_length_le, d_si, d_iiiLsiEi, d_iiLsiELiiiLsiEiELsiEiii, d_b, d_i, d_LsiE, d_LiiiLsiEiE, fromBR_si, fromBR_b, fromBR_i]; done)] at st
      exact .loopN st ih
/-! slices.EqualFunc[[]loop.example/g00539/impl.Reward,[]loop.example/g00539/impl.Reward,loop.example/g00539/impl.Reward,loop.example/g00539/impl.Reward] -/
def m1003500 (a0 : (List K_iiiLsiEi)) (a1 : (List K_iiiLsiEi)) : Bool :=
  if (((List.length (List.map b_iiiLsiEi a0)) : Int) != ((List.length (List.map b_iiiLsiEi a1)) : Int)) = true then false else
  (match r1003500_0 a0 a0 a1 0 with | .k0 w0_1003500_0_1 w1_1003500_0_1 => true | .k1 => false)
theorem e1003500 {l0_0 : Nat} {a0 : (List K_iiiLsiEi)} {l1_0 : Nat} {a1 : (List K_iiiLsiEi)} (hy0 : List.length a0 * 56 ≤ 140737488351232) (hy1 : ∀ z ∈ a0, ok_iiiLsiEi z) (hy2 : List.length a1 * 56 ≤ 140737488351232) (hy3 : ∀ z ∈ a1, ok_iiiLsiEi z) : Ev F X (.call 35 [(.one (.bor l0_0 (List.map b_iiiLsiEi a0))), (.one (.bor l1_0 (List.map b_iiiLsiEi a1))), (.clo 36 [] [])] [] [] [(.one (.val (.bool (m1003500 a0 a1))))]) := by
  unfold m1003500
  by_cases h0 : (((List.length (List.map b_iiiLsiEi a0)) : Int) != ((List.length (List.map b_iiiLsiEi a1)) : Int)) = true
  · try simp only [if_pos h0]
    exact callP_ok (ps := []) (os := []) (rs := [(.one (.val (.bool false)))]) (by kernel_rfl) (.f h0 (.h 12 (.b true) .nil))
  · try simp only [if_neg h0]
    cases h1 : r1003500_0 a0 a0 a1 0 with
    | k0 w0_1003500_0_1 w1_1003500_0_1 =>
      try dsimp only
      have f1 : (⟨[(0, (.one (.bor l0_0 (List.map b_iiiLsiEi a0)))), (1, (.one (.bor l1_0 (List.map b_iiiLsiEi a1)))), (2, (.clo 36 [] [])), (15, (.one (.bor l0_0 (List.map b_iiiLsiEi a0)))), (16, (.one (.val (.int .i64 ((List.length (List.map b_iiiLsiEi a0)) : Int))))), (17, (.one (.val (.int .i64 0))))], []⟩ : St) = h1003500_0 l0_0 l1_0 a0 a1 0  := (by first | rfl | (unfold h1003500_0; simp [List.take_of_length_le, d_si, d_iiiLsiEi, d_iiLsiELiiiLsiEiELsiEiii, d_b, d_i, d_LsiE, d_LiiiLsiEiE, fromBR_si, fromBR_b, fromBR_i]; done))
      have f2 : Ev F X (.code l35_0 (h1003500_0 l0_0 l1_0 a0 a1 0 ) (.exit 0) ⟨[(0, (.one (.bor l0_0 (List.map b_iiiLsiEi a0)))), (1, (.one (.bor l1_0 (List.map b_iiiLsiEi a1)))), (2, (.clo 36 [] [])), (15, (.one (.bor l0_0 (List.map b_iiiLsiEi a0)))), (16, (.one (.val (.int .i64 ((List.length (List.map b_iiiLsiEi a0)) : Int))))), (17, (.one (.val (.int .i64 w0_1003500_0_1)))), (18, (.one (.val (.bool w1_1003500_0_1))))], []⟩) := (by have t : Ev F X (.code l35_0 (h1003500_0 l0_0 l1_0 a0 a1 0 ) (ex1003500_0 (r1003500_0 a0 a0 a1 0)) (fin1003500_0 l0_0 l1_0 a0 a1 (r1003500_0 a0 a0 a1 0))) := t1003500_0 (l0_0 := l0_0) (l1_0 := l1_0) (a0 := a0) (a1 := a1) (by first | assumption | omega) (by first | assumption | omega) (by first | assumption | omega) (by first | assumption | omega) a0 a1 [] []  rfl rfl rfl (by first | omega | (simp at *; omega)); rw [h1] at t; exact t)
      exact callP_ok (ps := []) (os := []) (rs := [(.one (.val (.bool true)))]) (by kernel_rfl) (.f (nt h0) (.f f1 (.f f2 (.h 12 (.b false) (.h 19 (.loop (h1003500_0 l0_0 l1_0 a0 a1 0 ) (.exit 0) ⟨[(0, (.one (.bor l0_0 (List.map b_iiiLsiEi a0)))), (1, (.one (.bor l1_0 (List.map b_iiiLsiEi a1)))), (2, (.clo 36 [] [])), (15, (.one (.bor l0_0 (List.map b_iiiLsiEi a0)))), (16, (.one (.val (.int .i64 ((List.length (List.map b_iiiLsiEi a0)) : Int))))), (17, (.one (.val (.int .i64 w0_1003500_0_1)))), (18, (.one (.val (.bool w1_1003500_0_1))))], []⟩) .nil)))))
    | k1 =>
      try dsimp only
      have f1 : (⟨[(0, (.one (.bor l0_0 (List.map b_iiiLsiEi a0)))), (1, (.one (.bor l1_0 (List.map b_iiiLsiEi a1)))), (2, (.clo 36 [] [])), (15, (.one (.bor l0_0 (List.map b_iiiLsiEi a0)))), (16, (.one (.val (.int .i64 ((List.length (List.map b_iiiLsiEi a0)) : Int))))), (17, (.one (.val (.int .i64 0))))], []⟩ : St) = h1003500_0 l0_0 l1_0 a0 a1 0  := (by first | rfl | (unfold h1003500_0; simp [List.take_of_length_le, d_si, d_iiiLsiEi, d_iiLsiELiiiLsiEiELsiEiii, d_b, d_i, d_LsiE, d_LiiiLsiEiE, fromBR_si, fromBR_b, fromBR_i]; done))
      have f2 : Ev F X (.code l35_0 (h1003500_0 l0_0 l1_0 a0 a1 0 ) .ret ⟨[(6, (.one (.val (.bool false))))], []⟩) := (by have t : Ev F X (.code l35_0 (h1003500_0 l0_0 l1_0 a0 a1 0 ) (ex1003500_0 (r1003500_0 a0 a0 a1 0)) (fin1003500_0 l0_0 l1_0 a0 a1 (r1003500_0 a0 a0 a1 0))) := t1003500_0 (l0_0 := l0_0) (l1_0 := l1_0) (a0 := a0) (a1 := a1) (by first | assumption | omega) (by first | assumption | omega) (by first | assumption | omega) (by first | assumption | omega) a0 a1 [] []  rfl rfl rfl (by first | omega | (simp at *; omega)); rw [h1] at t; exact t)
      exact callP_ok (ps := []) (os := []) (rs := [(.one (.val (.bool false)))]) (by kernel_rfl) (.f (nt h0) (.f f1 (.f f2 (.h 12 (.b false) (.h 19 (.loop (h1003500_0 l0_0 l1_0 a0 a1 0 ) .ret ⟨[(6, (.one (.val (.bool false))))], []⟩) .nil)))))
theorem eqr1003500_0 (a0 : (List K_iiiLsiEi)) : ∀ (l m : List K_iiiLsiEi) (i : Int), l.length = m.length → (r1003500_0 a0 l m i = .k1 ∧ l ≠ m) ∨ (∃ w0 w1, r1003500_0 a0 l m i = .k0 w0 w1 ∧ l = m)
  | [], [], i, _ => .inr ⟨_, _, rfl, rfl⟩
  | [], _ :: _, i, h => by simp at h
  | _ :: _, [], i, h => by simp at h
  | x :: l, y :: m, i, h => by
    have ih := eqr1003500_0 a0 l m (i + 1) (by simpa using h)
    by_cases hxy : x = y
    · subst hxy
      have e : r1003500_0 a0 (x :: l) (x :: m) i = r1003500_0 a0 l m (i + 1) := by simp [r1003500_0, ba_eq, eqd36]
      rw [e]
      rcases ih with ⟨h1, h2⟩ | ⟨w0, w1, h1, h2⟩
      · exact .inl ⟨h1, by simp [h2]⟩
      · exact .inr ⟨_, _, h1, by rw [h2]⟩
    · have e : r1003500_0 a0 (x :: l) (y :: m) i = .k1 := by
        simp only [r1003500_0]
        first
          | ((repeat' split) <;> simp_all [ba_eq, eqd36]; done)
          | (cases x; cases y; (repeat' split) <;> simp_all [ba_eq, eqd36])
      exact .inl ⟨e, by simp [hxy]⟩
open Classical in
theorem eqd1003500 (a b : (List K_iiiLsiEi)) : m1003500 a b = decide (a = b) := by
  rw [Bool.eq_iff_iff, decide_eq_true_eq]
  unfold m1003500
  by_cases hl : List.length a = List.length b
  · rcases eqr1003500_0 a a b 0 hl with ⟨h1, h2⟩ | ⟨w0, w1, h1, h2⟩
    · simp only [h1, List.length_map, hl]
      first
        | (simp [h2, ba_eq, eqd36]; done)
        | (cases a; cases b; simp_all [ba_eq, eqd36]; done)
        | (cases a; cases b; (repeat' split) <;> simp_all [ba_eq, eqd36])
    · simp only [h1, List.length_map, hl]
      first
        | (simp [h2, ba_eq, eqd36]; done)
        | (cases a; cases b; simp_all [ba_eq, eqd36]; done)
        | (cases a; cases b; (repeat' split) <;> simp_all [ba_eq, eqd36])
  · have hn : a ≠ b := by rintro rfl; exact hl rfl
    simp only [List.length_map]
    first
      | (simp [hn, hl, ba_eq, eqd36]; done)
      | ((repeat' split) <;> simp_all [ba_eq, eqd36]; done)
      | (simp [hn]; omega)
/-! loop.example/g00539/impl.SameLedgers -/
def m19 (a0 : K_iiLsiELiiiLsiEiELsiEiii) (a1 : K_iiLsiELiiiLsiEiELsiEiii) : Bool :=
  if (a0.f0 == a1.f0) = true then (if (a0.f1 == a1.f1) = true then (if (a0.f5 == a1.f5) = true then (if (a0.f6 == a1.f6) = true then (if (a0.f7 == a1.f7) = true then (if (m34 a0.f2 a1.f2) = true then (if (m1003500 a0.f3 a1.f3) = true then (m34 a0.f4 a1.f4) else
              false) else
            false) else
          false) else
        false) else
      false) else
    false) else
  false
theorem e19 {l0_2 : Nat} {l0_3 : Nat} {l0_4 : Nat} {a0 : K_iiLsiELiiiLsiEiELsiEiii} {l1_2 : Nat} {l1_3 : Nat} {l1_4 : Nat} {a1 : K_iiLsiELiiiLsiEiELsiEiii} (hy0 : List.length a0.f2 * 24 ≤ 140737488351232) (hy1 : List.length a0.f3 * 56 ≤ 140737488351232) (hy2 : ∀ z ∈ a0.f3, ok_iiiLsiEi z) (hy3 : List.length a0.f4 * 24 ≤ 140737488351232) (hy4 : List.length a1.f2 * 24 ≤ 140737488351232) (hy5 : List.length a1.f3 * 56 ≤ 140737488351232) (hy6 : ∀ z ∈ a1.f3, ok_iiiLsiEi z) (hy7 : List.length a1.f4 * 24 ≤ 140737488351232) : Ev F X (.call 19 [(.agg [(.val (.int .i64 a0.f0)), (.val (.int .i64 a0.f1)), (.bor l0_2 (List.map b_si a0.f2)), (.bor l0_3 (List.map b_iiiLsiEi a0.f3)), (.bor l0_4 (List.map b_si a0.f4)), (.val (.int .i64 a0.f5)), (.val (.int .i64 a0.f6)), (.val (.int .i64 a0.f7))]), (.agg [(.val (.int .i64 a1.f0)), (.val (.int .i64 a1.f1)), (.bor l1_2 (List.map b_si a1.f2)), (.bor l1_3 (List.map b_iiiLsiEi a1.f3)), (.bor l1_4 (List.map b_si a1.f4)), (.val (.int .i64 a1.f5)), (.val (.int .i64 a1.f6)), (.val (.int .i64 a1.f7))])] [] [] [(.one (.val (.bool (m19 a0 a1))))]) := by
  unfold m19
  by_cases h0 : (a0.f0 == a1.f0) = true
  · try simp only [if_pos h0]
    by_cases h1 : (a0.f1 == a1.f1) = true
    · try simp only [if_pos h1]
      by_cases h2 : (a0.f5 == a1.f5) = true
      · try simp only [if_pos h2]
        by_cases h3 : (a0.f6 == a1.f6) = true
        · try simp only [if_pos h3]
          by_cases h4 : (a0.f7 == a1.f7) = true
          · try simp only [if_pos h4]
            have f29 : Ev F X (.call 34 [(.one (.bor (l0_2 + 1) (List.map b_si a0.f2))), (.one (.bor (l1_2 + 1) (List.map b_si a1.f2)))] [] [] [(.one (.val (.bool (m34 a0.f2 a1.f2))))]) := (e34 (a0 := a0.f2) (a1 := a1.f2) (by first | with_reducible assumption | omega | assumption | (simp only [List.length_map]; omega) | (simp; omega)) (by first | with_reducible assumption | omega | assumption | (simp only [List.length_map]; omega) | (simp; omega)))
            by_cases h5 : (m34 a0.f2 a1.f2) = true
            · try simp only [if_pos h5]
              have f36 : Ev F X (.call 35 [(.one (.bor (l0_3 + 1) (List.map b_iiiLsiEi a0.f3))), (.one (.bor (l1_3 + 1) (List.map b_iiiLsiEi a1.f3))), (.clo 36 [] [])] [] [] [(.one (.val (.bool (m1003500 a0.f3 a1.f3))))]) := (e1003500 (a0 := a0.f3) (a1 := a1.f3) (by first | with_reducible assumption | omega | assumption | (simp only [List.length_map]; omega) | (simp; omega)) (by first | exact True.intro | with_reducible rfl | with_reducible assumption | omega | (simp only [List.length_map, List.length_set, List.length_append, List.length_replicate, List.length_cons, List.length_nil]; omega) | (simp; done) | (simp; omega) | (simp [List.take_of_length_le]; done) | (simp [← List.map_take, ← List.map_drop]; done) | assumption | trivial | (simp [*]; done)) (by first | with_reducible assumption | omega | assumption | (simp only [List.length_map]; omega) | (simp; omega)) (by first | exact True.intro | with_reducible rfl | with_reducible assumption | omega | (simp only [List.length_map, List.length_set, List.length_append, List.length_replicate, List.length_cons, List.length_nil]; omega) | (simp; done) | (simp; omega) | (simp [List.take_of_length_le]; done) | (simp [← List.map_take, ← List.map_drop]; done) | assumption | trivial | (simp [*]; done)))
              by_cases h6 : (m1003500 a0.f3 a1.f3) = true
              · try simp only [if_pos h6]
                have f43 : Ev F X (.call 34 [(.one (.bor (l0_4 + 1) (List.map b_si a0.f4))), (.one (.bor (l1_4 + 1) (List.map b_si a1.f4)))] [] [] [(.one (.val (.bool (m34 a0.f4 a1.f4))))]) := (e34 (a0 := a0.f4) (a1 := a1.f4) (by first | with_reducible assumption | omega | assumption | (simp only [List.length_map]; omega) | (simp; omega)) (by first | with_reducible assumption | omega | assumption | (simp only [List.length_map]; omega) | (simp; omega)))
                exact callP_ok (ps := []) (os := []) (rs := [(.one (.val (.bool (m34 a0.f4 a1.f4))))]) (by kernel_rfl) (.f h0 (.f h0 (.f h0 (.f h0 (.f h0 (.f h0 (.f h1 (.f h1 (.f h1 (.f h1 (.f h1 (.f h1 (.f h2 (.f h2 (.f h2 (.f h2 (.f h2 (.f h2 (.f h3 (.f h3 (.f h3 (.f h3 (.f h3 (.f h3 (.f h4 (.f h4 (.f h4 (.f h4 (.f h4 (.h 18 (.b true) (.h 20 (.b true) (.h 22 (.b true) (.h 24 (.b true) (.h 26 (.b true) (.h 29 (.b true) (.h 32 (.b true) (.h 34 (.b true) (.h 36 (.b true) (.h 38 (.b true) (.h 40 (.b true) (.h 43 (.b true) (.h 46 (.b true) (.h 48 (.b true) (.h 50 (.b true) (.h 52 (.b true) (.h 54 (.b true) (.h 57 (.b true) (.h 60 (.b true) (.h 62 (.b true) (.h 64 (.b true) (.h 66 (.b true) (.h 68 (.b true) (.h 71 (.b true) (.h 78 (.b true) (.h 80 (.b true) (.h 82 (.b true) (.h 84 (.b true) (.h 86 (.b true) (.r 87 [] [] f29 (.f h4 (.f h5 (.f h5 (.f h5 (.f h5 (.f h5 (.h 89 (.b true) (.h 92 (.b true) (.h 94 (.b true) (.h 96 (.b true) (.h 98 (.b true) (.h 100 (.b true) (.r 101 [] [] f36 (.f h5 (.f h6 (.f h6 (.f h6 (.f h6 (.f h6 (.h 103 (.b true) (.h 106 (.b true) (.h 108 (.b true) (.h 110 (.b true) (.h 112 (.b true) (.h 114 (.b true) (.r 115 [] [] f43 (.f h6 (.h 117 (.b true) .nil)))))))))))))))))))))))))))))))))))))))))))))))))))))))))))))))))))))))))))))))))))))))
              · try simp only [if_neg h6]
                exact callP_ok (ps := []) (os := []) (rs := [(.one (.val (.bool false)))]) (by kernel_rfl) (.f h0 (.f h0 (.f h0 (.f h0 (.f h0 (.f h0 (.f h1 (.f h1 (.f h1 (.f h1 (.f h1 (.f h1 (.f h2 (.f h2 (.f h2 (.f h2 (.f h2 (.f h2 (.f h3 (.f h3 (.f h3 (.f h3 (.f h3 (.f h3 (.f h4 (.f h4 (.f h4 (.f h4 (.f h4 (.h 18 (.b true) (.h 20 (.b true) (.h 22 (.b true) (.h 24 (.b true) (.h 26 (.b true) (.h 29 (.b true) (.h 32 (.b true) (.h 34 (.b true) (.h 36 (.b true) (.h 38 (.b true) (.h 40 (.b true) (.h 43 (.b true) (.h 46 (.b true) (.h 48 (.b true) (.h 50 (.b true) (.h 52 (.b true) (.h 54 (.b true) (.h 57 (.b true) (.h 60 (.b true) (.h 62 (.b true) (.h 64 (.b true) (.h 66 (.b true) (.h 68 (.b true) (.h 71 (.b true) (.h 78 (.b true) (.h 80 (.b true) (.h 82 (.b true) (.h 84 (.b true) (.h 86 (.b true) (.r 87 [] [] f29 (.f h4 (.f h5 (.f h5 (.f h5 (.f h5 (.f h5 (.h 89 (.b true) (.h 92 (.b true) (.h 94 (.b true) (.h 96 (.b true) (.h 98 (.b true) (.h 100 (.b true) (.r 101 [] [] f36 (.f h5 (.f (nt h6) (.f (nt h6) (.f (nt h6) (.f (nt h6) (.f (nt h6) (.f (nt h6) (.h 103 (.b true) (.h 106 (.b false) (.h 108 (.b false) (.h 110 (.b false) (.h 112 (.b false) (.h 114 (.b false) (.h 117 (.b false) .nil))))))))))))))))))))))))))))))))))))))))))))))))))))))))))))))))))))))))))))))))))))))
            · try simp only [if_neg h5]
              exact callP_ok (ps := []) (os := []) (rs := [(.one (.val (.bool false)))]) (by kernel_rfl) (.f h0 (.f h0 (.f h0 (.f h0 (.f h0 (.f h0 (.f h1 (.f h1 (.f h1 (.f h1 (.f h1 (.f h1 (.f h2 (.f h2 (.f h2 (.f h2 (.f h2 (.f h2 (.f h3 (.f h3 (.f h3 (.f h3 (.f h3 (.f h3 (.f h4 (.f h4 (.f h4 (.f h4 (.f h4 (.h 18 (.b true) (.h 20 (.b true) (.h 22 (.b true) (.h 24 (.b true) (.h 26 (.b true) (.h 29 (.b true) (.h 32 (.b true) (.h 34 (.b true) (.h 36 (.b true) (.h 38 (.b true) (.h 40 (.b true) (.h 43 (.b true) (.h 46 (.b true) (.h 48 (.b true) (.h 50 (.b true) (.h 52 (.b true) (.h 54 (.b true) (.h 57 (.b true) (.h 60 (.b true) (.h 62 (.b true) (.h 64 (.b true) (.h 66 (.b true) (.h 68 (.b true) (.h 71 (.b true) (.h 78 (.b true) (.h 80 (.b true) (.h 82 (.b true) (.h 84 (.b true) (.h 86 (.b true) (.r 87 [] [] f29 (.f h4 (.f (nt h5) (.f (nt h5) (.f (nt h5) (.f (nt h5) (.f (nt h5) (.f (nt h5) (.h 89 (.b true) (.h 92 (.b false) (.h 94 (.b false) (.h 96 (.b false) (.h 98 (.b false) (.h 100 (.b false) (.h 103 (.b false) .nil)))))))))))))))))))))))))))))))))))))))))))))))))))))))))))))))))))))))))
          · try simp only [if_neg h4]
            exact callP_ok (ps := []) (os := []) (rs := [(.one (.val (.bool false)))]) (by kernel_rfl) (.f h0 (.f h0 (.f h0 (.f h0 (.f h0 (.f h0 (.f h1 (.f h1 (.f h1 (.f h1 (.f h1 (.f h1 (.f h2 (.f h2 (.f h2 (.f h2 (.f h2 (.f h2 (.f h3 (.f h3 (.f h3 (.f h3 (.f h3 (.f h3 (.f (nt h4) (.f (nt h4) (.f (nt h4) (.f (nt h4) (.f (nt h4) (.f (nt h4) (.h 18 (.b true) (.h 20 (.b true) (.h 22 (.b true) (.h 24 (.b true) (.h 26 (.b true) (.h 29 (.b true) (.h 32 (.b true) (.h 34 (.b true) (.h 36 (.b true) (.h 38 (.b true) (.h 40 (.b true) (.h 43 (.b true) (.h 46 (.b true) (.h 48 (.b true) (.h 50 (.b true) (.h 52 (.b true) (.h 54 (.b true) (.h 57 (.b true) (.h 60 (.b true) (.h 62 (.b true) (.h 64 (.b true) (.h 66 (.b true) (.h 68 (.b true) (.h 71 (.b true) (.h 78 (.b false) (.h 80 (.b false) (.h 82 (.b false) (.h 84 (.b false) (.h 86 (.b false) (.h 89 (.b false) .nil))))))))))))))))))))))))))))))))))))))))))))))))))))))))))))
        · try simp only [if_neg h3]
          exact callP_ok (ps := []) (os := []) (rs := [(.one (.val (.bool false)))]) (by kernel_rfl) (.f h0 (.f h0 (.f h0 (.f h0 (.f h0 (.f h0 (.f h1 (.f h1 (.f h1 (.f h1 (.f h1 (.f h1 (.f h2 (.f h2 (.f h2 (.f h2 (.f h2 (.f h2 (.f (nt h3) (.f (nt h3) (.f (nt h3) (.f (nt h3) (.f (nt h3) (.f (nt h3) (.h 18 (.b true) (.h 20 (.b true) (.h 22 (.b true) (.h 24 (.b true) (.h 26 (.b true) (.h 29 (.b true) (.h 32 (.b true) (.h 34 (.b true) (.h 36 (.b true) (.h 38 (.b true) (.h 40 (.b true) (.h 43 (.b true) (.h 46 (.b true) (.h 48 (.b true) (.h 50 (.b true) (.h 52 (.b true) (.h 54 (.b true) (.h 57 (.b true) (.h 60 (.b false) (.h 62 (.b false) (.h 64 (.b false) (.h 66 (.b false) (.h 68 (.b false) (.h 71 (.b false) .nil))))))))))))))))))))))))))))))))))))))))))))))))
      · try simp only [if_neg h2]
        exact callP_ok (ps := []) (os := []) (rs := [(.one (.val (.bool false)))]) (by kernel_rfl) (.f h0 (.f h0 (.f h0 (.f h0 (.f h0 (.f h0 (.f h1 (.f h1 (.f h1 (.f h1 (.f h1 (.f h1 (.f (nt h2) (.f (nt h2) (.f (nt h2) (.f (nt h2) (.f (nt h2) (.f (nt h2) (.h 18 (.b true) (.h 20 (.b true) (.h 22 (.b true) (.h 24 (.b true) (.h 26 (.b true) (.h 29 (.b true) (.h 32 (.b true) (.h 34 (.b true) (.h 36 (.b true) (.h 38 (.b true) (.h 40 (.b true) (.h 43 (.b true) (.h 46 (.b false) (.h 48 (.b false) (.h 50 (.b false) (.h 52 (.b false) (.h 54 (.b false) (.h 57 (.b false) .nil))))))))))))))))))))))))))))))))))))
    · try simp only [if_neg h1]
      exact callP_ok (ps := []) (os := []) (rs := [(.one (.val (.bool false)))]) (by kernel_rfl) (.f h0 (.f h0 (.f h0 (.f h0 (.f h0 (.f h0 (.f (nt h1) (.f (nt h1) (.f (nt h1) (.f (nt h1) (.f (nt h1) (.f (nt h1) (.h 18 (.b true) (.h 20 (.b true) (.h 22 (.b true) (.h 24 (.b true) (.h 26 (.b true) (.h 29 (.b true) (.h 32 (.b false) (.h 34 (.b false) (.h 36 (.b false) (.h 38 (.b false) (.h 40 (.b false) (.h 43 (.b false) .nil))))))))))))))))))))))))
  · try simp only [if_neg h0]
    exact callP_ok (ps := []) (os := []) (rs := [(.one (.val (.bool false)))]) (by kernel_rfl) (.f (nt h0) (.f (nt h0) (.f (nt h0) (.f (nt h0) (.f (nt h0) (.f (nt h0) (.h 18 (.b false) (.h 20 (.b false) (.h 22 (.b false) (.h 24 (.b false) (.h 26 (.b false) (.h 29 (.b false) .nil))))))))))))
open Classical in
theorem eqd19 (a b : K_iiLsiELiiiLsiEiELsiEiii) : m19 a b = decide (a = b) := by
  rw [Bool.eq_iff_iff, decide_eq_true_eq]
  constructor
  · intro h
    unfold m19 at h
    cases a; cases b
    (repeat' split at h) <;> simp_all [ba_eq, eqd34, eqd1003500, eqd36]
  · rintro rfl
    simp [m19, ba_eq, eqd34, eqd1003500, eqd36]
/-! loop.example/g00539/laws.eqWeight -/
def m53 (a0 : K_si) (a1 : K_si) : Bool :=
  if (!(a0.f0.toList == a1.f0.toList)) = true then false else
  if (a0.f1 != a1.f1) = true then false else
    true
theorem e53 {a0 : K_si} {a1 : K_si} : Ev F X (.call 53 [(.agg [(.val (.string a0.f0)), (.val (.int .i64 a0.f1))]), (.agg [(.val (.string a1.f0)), (.val (.int .i64 a1.f1))])] [] [] [(.one (.val (.bool (m53 a0 a1))))]) := by
  unfold m53
  by_cases h0 : (!(a0.f0.toList == a1.f0.toList)) = true
  · try simp only [if_pos h0]
    exact callP_ok (ps := []) (os := []) (rs := [(.one (.val (.bool false)))]) (by kernel_rfl) (.f h0 (.h 16 (.b true) .nil))
  · try simp only [if_neg h0]
    by_cases h1 : (a0.f1 != a1.f1) = true
    · try simp only [if_pos h1]
      exact callP_ok (ps := []) (os := []) (rs := [(.one (.val (.bool false)))]) (by kernel_rfl) (.f (nt h0) (.f h1 (.h 16 (.b false) (.h 27 (.b true) .nil))))
    · try simp only [if_neg h1]
      exact callP_ok (ps := []) (os := []) (rs := [(.one (.val (.bool true)))]) (by kernel_rfl) (.f (nt h0) (.f (nt h1) (.h 16 (.b false) (.h 27 (.b false) .nil))))
open Classical in
theorem eqd53 (a b : K_si) : m53 a b = decide (a = b) := by
  rw [Bool.eq_iff_iff, decide_eq_true_eq]
  constructor
  · intro h
    unfold m53 at h
    cases a; cases b
    (repeat' split at h) <;> simp_all [ba_eq]
  · rintro rfl
    simp [m53, ba_eq]
/-! loop 37_0 -/
inductive O37_0 where
  | k0 (w0 : Int) (w1 : Bool)
  | k1
def r37_0 (a0 : (List K_si)) : List K_si → List K_si → Int → O37_0
  | x0_37_0 :: l0_37_0, x1_37_0 :: l1_37_0, i_37_0 =>
    if (!(m53 x0_37_0 x1_37_0)) = true then (O37_0.k1) else
    (r37_0 a0 l0_37_0 l1_37_0 (i_37_0 + 1) )
  | _, _, i_37_0 => (O37_0.k0 i_37_0 (decide (i_37_0 < ((List.length (List.map b_si a0)) : Int))))
def h37_0 (l0_0 : Nat) (l1_0 : Nat) (a0 : (List K_si)) (a1 : (List K_si)) (i_37_0 : Int)  : St := ⟨[(0, (.one (.bor l0_0 (List.map b_si a0)))), (1, (.one (.bor l1_0 (List.map b_si a1)))), (5, (.one (.val (.int .i64 i_37_0))))], []⟩
def ex37_0 : O37_0 → VX.Exit
  | .k0 _ _ => (.exit 0)
  | .k1 => .ret
def fin37_0 (l0_0 : Nat) (l1_0 : Nat) (a0 : (List K_si)) (a1 : (List K_si)) : O37_0 → St
  | .k0 w0 w1 => ⟨[(0, (.one (.bor l0_0 (List.map b_si a0)))), (1, (.one (.bor l1_0 (List.map b_si a1)))), (5, (.one (.val (.int .i64 w0)))), (14, (.one (.val (.bool w1))))], []⟩
  | .k1 => ⟨[(4, (.one (.val (.bool false))))], []⟩
theorem t37_0 {l0_0 : Nat} {l1_0 : Nat} {a0 : (List K_si)} {a1 : (List K_si)} (hy0 : List.length a0 * 24 ≤ 140737488351232) (hy1 : List.length a1 * 24 ≤ 140737488351232) : ∀ (l0_37_0 : List K_si) (l1_37_0 : List K_si) (p_37_0 : List K_si) (p_37_0_1 : List K_si) , p_37_0 ++ l0_37_0 = a0 → p_37_0_1 ++ l1_37_0 = a1 → List.length p_37_0 = List.length p_37_0_1 → List.length l0_37_0 = List.length l1_37_0 → Ev F X (.code l37_0 (h37_0 l0_0 l1_0 a0 a1 (List.length p_37_0 : Int) ) (ex37_0 (r37_0 a0 l0_37_0 l1_37_0 (List.length p_37_0 : Int) )) (fin37_0 l0_0 l1_0 a0 a1 (r37_0 a0 l0_37_0 l1_37_0 (List.length p_37_0 : Int) )))
  | [], [], p_37_0, p_37_0_1, hp0, hp1, hq1, hl1 => by
    have hc : ¬ (decide ((List.length p_37_0 : Int) < ((List.length (List.map b_si a0)) : Int))) = true := by
      rw [← hp0]; simp only [List.length_map, List.length_set, List.length_append, List.length_replicate, List.length_cons, List.length_nil, decide_eq_true_eq]; omega
    have st := codeH_ok (F := F) (X := X) (c := b37_0) (t := 0) (hs := [(8, .b false)]) (σ := h37_0 l0_0 l1_0 a0 a1 (List.length p_37_0 : Int) ) (σ' := ⟨[(0, (.one (.bor l0_0 (List.map b_si a0)))), (1, (.one (.bor l1_0 (List.map b_si a1)))), (5, (.one (.val (.int .i64 (List.length p_37_0 : Int))))), (14, (.one (.val (.bool (decide ((List.length p_37_0 : Int) < ((List.length (List.map b_si a0)) : Int)))))))], []⟩) (e := (.exit 0)) (t' := 9) (hs' := []) (q := [(decide ((List.length p_37_0 : Int) < ((List.length (List.map b_si a0)) : Int))) = false]) (by kernel_rfl) ⟨(nt hc), trivial⟩
    rw [show (⟨[(0, (.one (.bor l0_0 (List.map b_si a0)))), (1, (.one (.bor l1_0 (List.map b_si a1)))), (5, (.one (.val (.int .i64 (List.length p_37_0 : Int))))), (14, (.one (.val (.bool (decide ((List.length p_37_0 : Int) < ((List.length (List.map b_si a0)) : Int)))))))], []⟩ : St) = fin37_0 l0_0 l1_0 a0 a1 (.k0 (List.length p_37_0 : Int) (decide ((List.length p_37_0 : Int) < ((List.length (List.map b_si a0)) : Int)))) from by first | rfl | (unfold fin37_0; simp [List.take_of_length_le, d_si, d_iiiLsiEi, d_iiLsiELiiiLsiEiELsiEiii, d_b, d_i, d_LsiE, d_LiiiLsiEiE, fromBR_si, fromBR_b, fromBR_i]; done)] at st
    exact .loopX st (show ((.exit 0) : VX.Exit) ≠ .normal from by simp)
  | x0_37_0 :: l0_37_0, x1_37_0 :: l1_37_0, p_37_0, p_37_0_1, hp0, hp1, hq1, hl1 => by
    have hc : (decide ((List.length p_37_0 : Int) < ((List.length (List.map b_si a0)) : Int))) = true := by
      rw [← hp0]; simp only [List.length_map, List.length_set, List.length_append, List.length_replicate, List.length_cons, List.length_nil, decide_eq_true_eq]; omega
    have Hx0_37_0 : (a0)[Int.toNat (List.length p_37_0 : Int)]? = some x0_37_0 := by
      rw [← hp0, Int.toNat_natCast]; simp
    have Hx1_37_0 : (a1)[Int.toNat (List.length p_37_0 : Int)]? = some x1_37_0 := by
      rw [← hp1, hq1, Int.toNat_natCast]; simp
    have hlen : List.length (a0) = List.length p_37_0 + List.length l0_37_0 + 1 := by rw [← hp0]; simp; omega
    have hw : IntKind.wrap .i64 ((List.length p_37_0 : Int) + 1) = (List.length p_37_0 : Int) + 1 := wrap64 (by omega)
    simp only [r37_0]
    by_cases h_37_0_1 : (!(m53 x0_37_0 x1_37_0)) = true
    · try simp only [if_pos h_37_0_1]
      have st := codeH_ok (F := F) (X := X) (c := b37_0) (t := 0) (hs := [(8, .b true), (14, .row [(.val (.string x0_37_0.f0)), (.val (.int .i64 x0_37_0.f1))]), (22, .row [(.val (.string x1_37_0.f0)), (.val (.int .i64 x1_37_0.f1))]), (26, .ret [] [(.one (.val (.bool (m53 x0_37_0 x1_37_0))))] [] []), (29, .b true)]) (σ := h37_0 l0_0 l1_0 a0 a1 (List.length p_37_0 : Int) ) (σ' := ⟨[(4, (.one (.val (.bool false))))], []⟩) (e := .ret) (t' := 32) (hs' := []) (q := [(decide ((List.length p_37_0 : Int) < ((List.length (List.map b_si a0)) : Int))) = true, 0 ≤ (List.length p_37_0 : Int), (List.map b_si a0)[(Int.toNat (List.length p_37_0 : Int))]? = some [(.val (.string x0_37_0.f0)), (.val (.int .i64 x0_37_0.f1))], 0 ≤ (List.length p_37_0 : Int), (List.map b_si a1)[(Int.toNat (List.length p_37_0 : Int))]? = some [(.val (.string x1_37_0.f0)), (.val (.int .i64 x1_37_0.f1))], Ev F X (.call 53 [(.agg [(.val (.string x0_37_0.f0)), (.val (.int .i64 x0_37_0.f1))]), (.agg [(.val (.string x1_37_0.f0)), (.val (.int .i64 x1_37_0.f1))])] [] [] [(.one (.val (.bool (m53 x0_37_0 x1_37_0))))]), (!(m53 x0_37_0 x1_37_0)) = true]) (by kernel_rfl) ⟨hc, (by first | exact True.intro | with_reducible rfl | with_reducible assumption | omega | (simp only [List.length_map, List.length_set, List.length_append, List.length_replicate, List.length_cons, List.length_nil]; omega) | (simp; omega) | (simp [List.take_of_length_le]; done) | assumption | trivial | (simp [*]; done)), (by first | (rw [List.getElem?_map, Hx0_37_0]; rfl) | (rw [Nat.zero_add, List.getElem?_map, Hx0_37_0]; rfl) | exact True.intro | with_reducible rfl | with_reducible assumption | omega | (simp only [List.length_map, List.length_set, List.length_append, List.length_replicate, List.length_cons, List.length_nil]; omega) | (simp; done) | (simp; omega) | (simp [List.take_of_length_le]; done) | (simp [← List.map_take, ← List.map_drop]; done) | assumption | trivial | (simp [*, b_si, d_si]; done)), (by first | exact True.intro | with_reducible rfl | with_reducible assumption | omega | (simp only [List.length_map, List.length_set, List.length_append, List.length_replicate, List.length_cons, List.length_nil]; omega) | (simp; omega) | (simp [List.take_of_length_le]; done) | assumption | trivial | (simp [*]; done)), (by first | (rw [List.getElem?_map, Hx1_37_0]; rfl) | (rw [Nat.zero_add, List.getElem?_map, Hx1_37_0]; rfl) | exact True.intro | with_reducible rfl | with_reducible assumption | omega | (simp only [List.length_map, List.length_set, List.length_append, List.length_replicate, List.length_cons, List.length_nil]; omega) | (simp; done) | (simp; omega) | (simp [List.take_of_length_le]; done) | (simp [← List.map_take, ← List.map_drop]; done) | assumption | trivial | (simp [*, b_si, d_si]; done)), (e53 (a0 := x0_37_0) (a1 := x1_37_0)), h_37_0_1, trivial⟩
      rw [show (⟨[(4, (.one (.val (.bool false))))], []⟩ : St) = fin37_0 l0_0 l1_0 a0 a1 (.k1) from by first | rfl | (unfold fin37_0; simp [List.take_of_length_le, d_si, d_iiiLsiEi, d_iiLsiELiiiLsiEiELsiEiii, d_b, d_i, d_LsiE, d_LiiiLsiEiE, fromBR_si, fromBR_b, fromBR_i]; done)] at st
      exact .loopX st (show (.ret : VX.Exit) ≠ .normal from by simp)
    · try simp only [if_neg h_37_0_1]
      have st := codeH_ok (F := F) (X := X) (c := b37_0) (t := 0) (hs := [(8, .b true), (14, .row [(.val (.string x0_37_0.f0)), (.val (.int .i64 x0_37_0.f1))]), (22, .row [(.val (.string x1_37_0.f0)), (.val (.int .i64 x1_37_0.f1))]), (26, .ret [] [(.one (.val (.bool (m53 x0_37_0 x1_37_0))))] [] []), (29, .b false)]) (σ := h37_0 l0_0 l1_0 a0 a1 (List.length p_37_0 : Int) ) (σ' := ⟨[(0, (.one (.bor l0_0 (List.map b_si a0)))), (1, (.one (.bor l1_0 (List.map b_si a1)))), (5, (.one (.val (.int .i64 (IntKind.wrap .i64 ((List.length p_37_0 : Int) + 1))))))], []⟩) (e := .normal) (t' := 36) (hs' := []) (q := [(decide ((List.length p_37_0 : Int) < ((List.length (List.map b_si a0)) : Int))) = true, 0 ≤ (List.length p_37_0 : Int), (List.map b_si a0)[(Int.toNat (List.length p_37_0 : Int))]? = some [(.val (.string x0_37_0.f0)), (.val (.int .i64 x0_37_0.f1))], 0 ≤ (List.length p_37_0 : Int), (List.map b_si a1)[(Int.toNat (List.length p_37_0 : Int))]? = some [(.val (.string x1_37_0.f0)), (.val (.int .i64 x1_37_0.f1))], Ev F X (.call 53 [(.agg [(.val (.string x0_37_0.f0)), (.val (.int .i64 x0_37_0.f1))]), (.agg [(.val (.string x1_37_0.f0)), (.val (.int .i64 x1_37_0.f1))])] [] [] [(.one (.val (.bool (m53 x0_37_0 x1_37_0))))]), (!(m53 x0_37_0 x1_37_0)) = false, True]) (by kernel_rfl) ⟨hc, (by first | exact True.intro | with_reducible rfl | with_reducible assumption | omega | (simp only [List.length_map, List.length_set, List.length_append, List.length_replicate, List.length_cons, List.length_nil]; omega) | (simp; omega) | (simp [List.take_of_length_le]; done) | assumption | trivial | (simp [*]; done)), (by first | (rw [List.getElem?_map, Hx0_37_0]; rfl) | (rw [Nat.zero_add, List.getElem?_map, Hx0_37_0]; rfl) | exact True.intro | with_reducible rfl | with_reducible assumption | omega | (simp only [List.length_map, List.length_set, List.length_append, List.length_replicate, List.length_cons, List.length_nil]; omega) | (simp; done) | (simp; omega) | (simp [List.take_of_length_le]; done) | (simp [← List.map_take, ← List.map_drop]; done) | assumption | trivial | (simp [*, b_si, d_si]; done)), (by first | exact True.intro | with_reducible rfl | with_reducible assumption | omega | (simp only [List.length_map, List.length_set, List.length_append, List.length_replicate, List.length_cons, List.length_nil]; omega) | (simp; omega) | (simp [List.take_of_length_le]; done) | assumption | trivial | (simp [*]; done)), (by first | (rw [List.getElem?_map, Hx1_37_0]; rfl) | (rw [Nat.zero_add, List.getElem?_map, Hx1_37_0]; rfl) | exact True.intro | with_reducible rfl | with_reducible assumption | omega | (simp only [List.length_map, List.length_set, List.length_append, List.length_replicate, List.length_cons, List.length_nil]; omega) | (simp; done) | (simp; omega) | (simp [List.take_of_length_le]; done) | (simp [← List.map_take, ← List.map_drop]; done) | assumption | trivial | (simp [*, b_si, d_si]; done)), (e53 (a0 := x0_37_0) (a1 := x1_37_0)), (nt h_37_0_1), trivial, trivial⟩
      have ih := t37_0 (l0_0 := l0_0) (l1_0 := l1_0) (a0 := a0) (a1 := a1) hy0 hy1 l0_37_0 l1_37_0 (p_37_0 ++ [x0_37_0]) (p_37_0_1 ++ [x1_37_0])  (by rw [List.append_assoc]; exact hp0) (by rw [List.append_assoc]; exact hp1) (by simp only [List.length_map, List.length_set, List.length_append, List.length_replicate, List.length_cons, List.length_nil]; omega) (by simp only [List.length_map, List.length_set, List.length_append, List.length_replicate, List.length_cons, List.length_nil] at hl1; omega)
      rw [show ((p_37_0 ++ [x0_37_0]).length : Int) = (p_37_0.length : Int) + 1 from by simp] at ih
      rw [show (⟨[(0, (.one (.bor l0_0 (List.map b_si a0)))), (1, (.one (.bor l1_0 (List.map b_si a1)))), (5, (.one (.val (.int .i64 (IntKind.wrap .i64 ((List.length p_37_0 : Int) + 1))))))], []⟩ : St) = h37_0 l0_0 l1_0 a0 a1 ((List.length p_37_0 : Int) + 1)  from by first | (unfold h37_0; simp only [hw]; done) | (unfold h37_0; simp only [hw, List.length_map, List.length_set, List.length_append, List.length_replicate, List.length_cons, List.length_nil]; done) | (unfold h37_0; simp [hw, List.take_of_length_le, d_si, d_iiiLsiEi, d_iiLsiELiiiLsiEiELsiEiii, d_b, d_i, d_LsiE, d_LiiiLsiEiE, fromBR_si, fromBR_b, fromBR_i]; done)] at st
      exact .loopN st ih
/-! loop.example/g00539/laws.eqWeightS -/
def m37 (a0 : (List K_si)) (a1 : (List K_si)) : Bool :=
  if (((List.length (List.map b_si a0)) : Int) != ((List.length (List.map b_si a1)) : Int)) = true then false else
  (match r37_0 a0 a0 a1 0 with | .k0 w0_37_0_1 w1_37_0_1 => true | .k1 => false)
theorem e37 {l0_0 : Nat} {a0 : (List K_si)} {l1_0 : Nat} {a1 : (List K_si)} (hy0 : List.length a0 * 24 ≤ 140737488351232) (hy1 : List.length a1 * 24 ≤ 140737488351232) : Ev F X (.call 37 [(.one (.bor l0_0 (List.map b_si a0))), (.one (.bor l1_0 (List.map b_si a1)))] [] [] [(.one (.val (.bool (m37 a0 a1))))]) := by
  unfold m37
  by_cases h0 : (((List.length (List.map b_si a0)) : Int) != ((List.length (List.map b_si a1)) : Int)) = true
  · try simp only [if_pos h0]
    exact callP_ok (ps := []) (os := []) (rs := [(.one (.val (.bool false)))]) (by kernel_rfl) (.f h0 (.h 12 (.b true) .nil))
  · try simp only [if_neg h0]
    cases h1 : r37_0 a0 a0 a1 0 with
    | k0 w0_37_0_1 w1_37_0_1 =>
      try dsimp only
      have f1 : (⟨[(0, (.one (.bor l0_0 (List.map b_si a0)))), (1, (.one (.bor l1_0 (List.map b_si a1)))), (5, (.one (.val (.int .i64 0))))], []⟩ : St) = h37_0 l0_0 l1_0 a0 a1 0  := (by first | rfl | (unfold h37_0; simp [List.take_of_length_le, d_si, d_iiiLsiEi, d_iiLsiELiiiLsiEiELsiEiii, d_b, d_i, d_LsiE, d_LiiiLsiEiE, fromBR_si, fromBR_b, fromBR_i]; done))
      have f2 : Ev F X (.code l37_0 (h37_0 l0_0 l1_0 a0 a1 0 ) (.exit 0) ⟨[(0, (.one (.bor l0_0 (List.map b_si a0)))), (1, (.one (.bor l1_0 (List.map b_si a1)))), (5, (.one (.val (.int .i64 w0_37_0_1)))), (14, (.one (.val (.bool w1_37_0_1))))], []⟩) := (by have t : Ev F X (.code l37_0 (h37_0 l0_0 l1_0 a0 a1 0 ) (ex37_0 (r37_0 a0 a0 a1 0)) (fin37_0 l0_0 l1_0 a0 a1 (r37_0 a0 a0 a1 0))) := t37_0 (l0_0 := l0_0) (l1_0 := l1_0) (a0 := a0) (a1 := a1) (by first | assumption | omega) (by first | assumption | omega) a0 a1 [] []  rfl rfl rfl (by first | omega | (simp at *; omega)); rw [h1] at t; exact t)
      exact callP_ok (ps := []) (os := []) (rs := [(.one (.val (.bool true)))]) (by kernel_rfl) (.f (nt h0) (.f f1 (.f f2 (.h 12 (.b false) (.h 15 (.loop (h37_0 l0_0 l1_0 a0 a1 0 ) (.exit 0) ⟨[(0, (.one (.bor l0_0 (List.map b_si a0)))), (1, (.one (.bor l1_0 (List.map b_si a1)))), (5, (.one (.val (.int .i64 w0_37_0_1)))), (14, (.one (.val (.bool w1_37_0_1))))], []⟩) .nil)))))
    | k1 =>
      try dsimp only
      have f1 : (⟨[(0, (.one (.bor l0_0 (List.map b_si a0)))), (1, (.one (.bor l1_0 (List.map b_si a1)))), (5, (.one (.val (.int .i64 0))))], []⟩ : St) = h37_0 l0_0 l1_0 a0 a1 0  := (by first | rfl | (unfold h37_0; simp [List.take_of_length_le, d_si, d_iiiLsiEi, d_iiLsiELiiiLsiEiELsiEiii, d_b, d_i, d_LsiE, d_LiiiLsiEiE, fromBR_si, fromBR_b, fromBR_i]; done))
      have f2 : Ev F X (.code l37_0 (h37_0 l0_0 l1_0 a0 a1 0 ) .ret ⟨[(4, (.one (.val (.bool false))))], []⟩) := (by have t : Ev F X (.code l37_0 (h37_0 l0_0 l1_0 a0 a1 0 ) (ex37_0 (r37_0 a0 a0 a1 0)) (fin37_0 l0_0 l1_0 a0 a1 (r37_0 a0 a0 a1 0))) := t37_0 (l0_0 := l0_0) (l1_0 := l1_0) (a0 := a0) (a1 := a1) (by first | assumption | omega) (by first | assumption | omega) a0 a1 [] []  rfl rfl rfl (by first | omega | (simp at *; omega)); rw [h1] at t; exact t)
      exact callP_ok (ps := []) (os := []) (rs := [(.one (.val (.bool false)))]) (by kernel_rfl) (.f (nt h0) (.f f1 (.f f2 (.h 12 (.b false) (.h 15 (.loop (h37_0 l0_0 l1_0 a0 a1 0 ) .ret ⟨[(4, (.one (.val (.bool false))))], []⟩) .nil)))))
theorem eqr37_0 (a0 : (List K_si)) : ∀ (l m : List K_si) (i : Int), l.length = m.length → (r37_0 a0 l m i = .k1 ∧ l ≠ m) ∨ (∃ w0 w1, r37_0 a0 l m i = .k0 w0 w1 ∧ l = m)
  | [], [], i, _ => .inr ⟨_, _, rfl, rfl⟩
  | [], _ :: _, i, h => by simp at h
  | _ :: _, [], i, h => by simp at h
  | x :: l, y :: m, i, h => by
    have ih := eqr37_0 a0 l m (i + 1) (by simpa using h)
    by_cases hxy : x = y
    · subst hxy
      have e : r37_0 a0 (x :: l) (x :: m) i = r37_0 a0 l m (i + 1) := by simp [r37_0, ba_eq, eqd53]
      rw [e]
      rcases ih with ⟨h1, h2⟩ | ⟨w0, w1, h1, h2⟩
      · exact .inl ⟨h1, by simp [h2]⟩
      · exact .inr ⟨_, _, h1, by rw [h2]⟩
    · have e : r37_0 a0 (x :: l) (y :: m) i = .k1 := by
        simp only [r37_0]
        first
          | ((repeat' split) <;> simp_all [ba_eq, eqd53]; done)
          | (cases x; cases y; (repeat' split) <;> simp_all [ba_eq, eqd53])
      exact .inl ⟨e, by simp [hxy]⟩
open Classical in
theorem eqd37 (a b : (List K_si)) : m37 a b = decide (a = b) := by
  rw [Bool.eq_iff_iff, decide_eq_true_eq]
  unfold m37
  by_cases hl : List.length a = List.length b
  · rcases eqr37_0 a a b 0 hl with ⟨h1, h2⟩ | ⟨w0, w1, h1, h2⟩
    · simp only [h1, List.length_map, hl]
      first
        | (simp [h2, ba_eq, eqd53]; done)
        | (cases a; cases b; simp_all [ba_eq, eqd53]; done)
        | (cases a; cases b; (repeat' split) <;> simp_all [ba_eq, eqd53])
    · simp only [h1, List.length_map, hl]
      first
        | (simp [h2, ba_eq, eqd53]; done)
        | (cases a; cases b; simp_all [ba_eq, eqd53]; done)
        | (cases a; cases b; (repeat' split) <;> simp_all [ba_eq, eqd53])
  · have hn : a ≠ b := by rintro rfl; exact hl rfl
    simp only [List.length_map]
    first
      | (simp [hn, hl, ba_eq, eqd53]; done)
      | ((repeat' split) <;> simp_all [ba_eq, eqd53]; done)
      | (simp [hn]; omega)
/-! loop.example/g00539/laws.eqReward -/
def m54 (a0 : K_iiiLsiEi) (a1 : K_iiiLsiEi) : Bool :=
  if (a0.f0 != a1.f0) = true then false else
  if (a0.f1 != a1.f1) = true then false else
    if (a0.f2 != a1.f2) = true then false else
      if (!(m37 a0.f3 a1.f3)) = true then false else
        if (a0.f4 != a1.f4) = true then false else
          true
theorem e54 {l0_3 : Nat} {a0 : K_iiiLsiEi} {l1_3 : Nat} {a1 : K_iiiLsiEi} (hy0 : List.length a0.f3 * 24 ≤ 140737488351232) (hy1 : List.length a1.f3 * 24 ≤ 140737488351232) : Ev F X (.call 54 [(.agg [(.val (.int .i64 a0.f0)), (.val (.int .i64 a0.f1)), (.val (.int .i64 a0.f2)), (.bor l0_3 (List.map b_si a0.f3)), (.val (.int .i64 a0.f4))]), (.agg [(.val (.int .i64 a1.f0)), (.val (.int .i64 a1.f1)), (.val (.int .i64 a1.f2)), (.bor l1_3 (List.map b_si a1.f3)), (.val (.int .i64 a1.f4))])] [] [] [(.one (.val (.bool (m54 a0 a1))))]) := by
  unfold m54
  by_cases h0 : (a0.f0 != a1.f0) = true
  · try simp only [if_pos h0]
    exact callP_ok (ps := []) (os := []) (rs := [(.one (.val (.bool false)))]) (by kernel_rfl) (.f h0 (.h 16 (.b true) .nil))
  · try simp only [if_neg h0]
    by_cases h1 : (a0.f1 != a1.f1) = true
    · try simp only [if_pos h1]
      exact callP_ok (ps := []) (os := []) (rs := [(.one (.val (.bool false)))]) (by kernel_rfl) (.f (nt h0) (.f h1 (.h 16 (.b false) (.h 27 (.b true) .nil))))
    · try simp only [if_neg h1]
      by_cases h2 : (a0.f2 != a1.f2) = true
      · try simp only [if_pos h2]
        exact callP_ok (ps := []) (os := []) (rs := [(.one (.val (.bool false)))]) (by kernel_rfl) (.f (nt h0) (.f (nt h1) (.f h2 (.h 16 (.b false) (.h 27 (.b false) (.h 38 (.b true) .nil))))))
      · try simp only [if_neg h2]
        have f3 : Ev F X (.call 37 [(.one (.bor (l0_3 + 1) (List.map b_si a0.f3))), (.one (.bor (l1_3 + 1) (List.map b_si a1.f3)))] [] [] [(.one (.val (.bool (m37 a0.f3 a1.f3))))]) := (e37 (a0 := a0.f3) (a1 := a1.f3) (by first | with_reducible assumption | omega | assumption | (simp only [List.length_map]; omega) | (simp; omega)) (by first | with_reducible assumption | omega | assumption | (simp only [List.length_map]; omega) | (simp; omega)))
        by_cases h3 : (!(m37 a0.f3 a1.f3)) = true
        · try simp only [if_pos h3]
          exact callP_ok (ps := []) (os := []) (rs := [(.one (.val (.bool false)))]) (by kernel_rfl) (.f (nt h0) (.f (nt h1) (.f (nt h2) (.h 16 (.b false) (.h 27 (.b false) (.h 38 (.b false) (.r 48 [] [] f3 (.f h3 (.h 51 (.b true) .nil)))))))))
        · try simp only [if_neg h3]
          by_cases h4 : (a0.f4 != a1.f4) = true
          · try simp only [if_pos h4]
            exact callP_ok (ps := []) (os := []) (rs := [(.one (.val (.bool false)))]) (by kernel_rfl) (.f (nt h0) (.f (nt h1) (.f (nt h2) (.h 16 (.b false) (.h 27 (.b false) (.h 38 (.b false) (.r 48 [] [] f3 (.f (nt h3) (.f h4 (.h 51 (.b false) (.h 62 (.b true) .nil)))))))))))
          · try simp only [if_neg h4]
            exact callP_ok (ps := []) (os := []) (rs := [(.one (.val (.bool true)))]) (by kernel_rfl) (.f (nt h0) (.f (nt h1) (.f (nt h2) (.h 16 (.b false) (.h 27 (.b false) (.h 38 (.b false) (.r 48 [] [] f3 (.f (nt h3) (.f (nt h4) (.h 51 (.b false) (.h 62 (.b false) .nil)))))))))))
open Classical in
theorem eqd54 (a b : K_iiiLsiEi) : m54 a b = decide (a = b) := by
  rw [Bool.eq_iff_iff, decide_eq_true_eq]
  constructor
  · intro h
    unfold m54 at h
    cases a; cases b
    (repeat' split at h) <;> simp_all [ba_eq, eqd37]
  · rintro rfl
    simp [m54, ba_eq, eqd37]
/-! loop 38_0 -/
inductive O38_0 where
  | k0 (w0 : Int) (w1 : Bool)
  | k1
def r38_0 (a0 : (List K_iiiLsiEi)) : List K_iiiLsiEi → List K_iiiLsiEi → Int → O38_0
  | x0_38_0 :: l0_38_0, x1_38_0 :: l1_38_0, i_38_0 =>
    if (!(m54 x0_38_0 x1_38_0)) = true then (O38_0.k1) else
    (r38_0 a0 l0_38_0 l1_38_0 (i_38_0 + 1) )
  | _, _, i_38_0 => (O38_0.k0 i_38_0 (decide (i_38_0 < ((List.length (List.map b_iiiLsiEi a0)) : Int))))
def h38_0 (l0_0 : Nat) (l1_0 : Nat) (a0 : (List K_iiiLsiEi)) (a1 : (List K_iiiLsiEi)) (i_38_0 : Int)  : St := ⟨[(0, (.one (.bor l0_0 (List.map b_iiiLsiEi a0)))), (1, (.one (.bor l1_0 (List.map b_iiiLsiEi a1)))), (5, (.one (.val (.int .i64 i_38_0))))], []⟩
def ex38_0 : O38_0 → VX.Exit
  | .k0 _ _ => (.exit 0)
  | .k1 => .ret
def fin38_0 (l0_0 : Nat) (l1_0 : Nat) (a0 : (List K_iiiLsiEi)) (a1 : (List K_iiiLsiEi)) : O38_0 → St
  | .k0 w0 w1 => ⟨[(0, (.one (.bor l0_0 (List.map b_iiiLsiEi a0)))), (1, (.one (.bor l1_0 (List.map b_iiiLsiEi a1)))), (5, (.one (.val (.int .i64 w0)))), (14, (.one (.val (.bool w1))))], []⟩
  | .k1 => ⟨[(4, (.one (.val (.bool false))))], []⟩
theorem t38_0 {l0_0 : Nat} {l1_0 : Nat} {a0 : (List K_iiiLsiEi)} {a1 : (List K_iiiLsiEi)} (hy0 : List.length a0 * 56 ≤ 140737488351232) (hy1 : ∀ z ∈ a0, ok_iiiLsiEi z) (hy2 : List.length a1 * 56 ≤ 140737488351232) (hy3 : ∀ z ∈ a1, ok_iiiLsiEi z) : ∀ (l0_38_0 : List K_iiiLsiEi) (l1_38_0 : List K_iiiLsiEi) (p_38_0 : List K_iiiLsiEi) (p_38_0_1 : List K_iiiLsiEi) , p_38_0 ++ l0_38_0 = a0 → p_38_0_1 ++ l1_38_0 = a1 → List.length p_38_0 = List.length p_38_0_1 → List.length l0_38_0 = List.length l1_38_0 → Ev F X (.code l38_0 (h38_0 l0_0 l1_0 a0 a1 (List.length p_38_0 : Int) ) (ex38_0 (r38_0 a0 l0_38_0 l1_38_0 (List.length p_38_0 : Int) )) (fin38_0 l0_0 l1_0 a0 a1 (r38_0 a0 l0_38_0 l1_38_0 (List.length p_38_0 : Int) )))
  | [], [], p_38_0, p_38_0_1, hp0, hp1, hq1, hl1 => by
    have hc : ¬ (decide ((List.length p_38_0 : Int) < ((List.length (List.map b_iiiLsiEi a0)) : Int))) = true := by
      rw [← hp0]; simp only [List.length_map, List.length_set, List.length_append, List.length_replicate, List.length_cons, List.length_nil, decide_eq_true_eq]; omega
    have st := codeH_ok (F := F) (X := X) (c := b38_0) (t := 0) (hs := [(8, .b false)]) (σ := h38_0 l0_0 l1_0 a0 a1 (List.length p_38_0 : Int) ) (σ' := ⟨[(0, (.one (.bor l0_0 (List.map b_iiiLsiEi a0)))), (1, (.one (.bor l1_0 (List.map b_iiiLsiEi a1)))), (5, (.one (.val (.int .i64 (List.length p_38_0 : Int))))), (14, (.one (.val (.bool (decide ((List.length p_38_0 : Int) < ((List.length (List.map b_iiiLsiEi a0)) : Int)))))))], []⟩) (e := (.exit 0)) (t' := 9) (hs' := []) (q := [(decide ((List.length p_38_0 : Int) < ((List.length (List.map b_iiiLsiEi a0)) : Int))) = false]) (by kernel_rfl) ⟨(nt hc), trivial⟩
    rw [show (⟨[(0, (.one (.bor l0_0 (List.map b_iiiLsiEi a0)))), (1, (.one (.bor l1_0 (List.map b_iiiLsiEi a1)))), (5, (.one (.val (.int .i64 (List.length p_38_0 : Int))))), (14, (.one (.val (.bool (decide ((List.length p_38_0 : Int) < ((List.length (List.map b_iiiLsiEi a0)) : Int)))))))], []⟩ : St) = fin38_0 l0_0 l1_0 a0 a1 (.k0 (List.length p_38_0 : Int) (decide ((List.length p_38_0 : Int) < ((List.length (List.map b_iiiLsiEi a0)) : Int)))) from by first | rfl | (unfold fin38_0; simp [List.take_of_length_le, d_si, d_iiiLsiEi, d_iiLsiELiiiLsiEiELsiEiii, d_b, d_i, d_LsiE, d_LiiiLsiEiE, fromBR_si, fromBR_b, fromBR_i]; done)] at st
    exact .loopX st (show ((.exit 0) : VX.Exit) ≠ .normal from by simp)
  | x0_38_0 :: l0_38_0, x1_38_0 :: l1_38_0, p_38_0, p_38_0_1, hp0, hp1, hq1, hl1 => by
    have hc : (decide ((List.length p_38_0 : Int) < ((List.length (List.map b_iiiLsiEi a0)) : Int))) = true := by
      rw [← hp0]; simp only [List.length_map, List.length_set, List.length_append, List.length_replicate, List.length_cons, List.length_nil, decide_eq_true_eq]; omega
    have Hx0_38_0 : (a0)[Int.toNat (List.length p_38_0 : Int)]? = some x0_38_0 := by
      rw [← hp0, Int.toNat_natCast]; simp
    have Hx1_38_0 : (a1)[Int.toNat (List.length p_38_0 : Int)]? = some x1_38_0 := by
      rw [← hp1, hq1, Int.toNat_natCast]; simp
    have Mx0_38_0_0 := hy1 x0_38_0 (List.mem_of_getElem? Hx0_38_0)
    have Mx1_38_0_0 := hy3 x1_38_0 (List.mem_of_getElem? Hx1_38_0)
    have hlen : List.length (a0) = List.length p_38_0 + List.length l0_38_0 + 1 := by rw [← hp0]; simp; omega
    have hw : IntKind.wrap .i64 ((List.length p_38_0 : Int) + 1) = (List.length p_38_0 : Int) + 1 := wrap64 (by omega)
    simp only [r38_0]
    by_cases h_38_0_1 : (!(m54 x0_38_0 x1_38_0)) = true
    · try simp only [if_pos h_38_0_1]
      have st := codeH_ok (F := F) (X := X) (c := b38_0) (t := 0) (hs := [(8, .b true), (14, .row [(.val (.int .i64 x0_38_0.f0)), (.val (.int .i64 x0_38_0.f1)), (.val (.int .i64 x0_38_0.f2)), (.sl (List.map b_si x0_38_0.f3)), (.val (.int .i64 x0_38_0.f4))]), (22, .row [(.val (.int .i64 x1_38_0.f0)), (.val (.int .i64 x1_38_0.f1)), (.val (.int .i64 x1_38_0.f2)), (.sl (List.map b_si x1_38_0.f3)), (.val (.int .i64 x1_38_0.f4))]), (26, .ret [] [(.one (.val (.bool (m54 x0_38_0 x1_38_0))))] [] []), (29, .b true)]) (σ := h38_0 l0_0 l1_0 a0 a1 (List.length p_38_0 : Int) ) (σ' := ⟨[(4, (.one (.val (.bool false))))], []⟩) (e := .ret) (t' := 32) (hs' := []) (q := [(decide ((List.length p_38_0 : Int) < ((List.length (List.map b_iiiLsiEi a0)) : Int))) = true, 0 ≤ (List.length p_38_0 : Int), (List.map b_iiiLsiEi a0)[(Int.toNat (List.length p_38_0 : Int))]? = some [(.val (.int .i64 x0_38_0.f0)), (.val (.int .i64 x0_38_0.f1)), (.val (.int .i64 x0_38_0.f2)), (.sl (List.map b_si x0_38_0.f3)), (.val (.int .i64 x0_38_0.f4))], 0 ≤ (List.length p_38_0 : Int), (List.map b_iiiLsiEi a1)[(Int.toNat (List.length p_38_0 : Int))]? = some [(.val (.int .i64 x1_38_0.f0)), (.val (.int .i64 x1_38_0.f1)), (.val (.int .i64 x1_38_0.f2)), (.sl (List.map b_si x1_38_0.f3)), (.val (.int .i64 x1_38_0.f4))], Ev F X (.call 54 [(.agg [(.val (.int .i64 x0_38_0.f0)), (.val (.int .i64 x0_38_0.f1)), (.val (.int .i64 x0_38_0.f2)), (.bor (l0_0 + 1) (List.map b_si x0_38_0.f3)), (.val (.int .i64 x0_38_0.f4))]), (.agg [(.val (.int .i64 x1_38_0.f0)), (.val (.int .i64 x1_38_0.f1)), (.val (.int .i64 x1_38_0.f2)), (.bor (l1_0 + 1) (List.map b_si x1_38_0.f3)), (.val (.int .i64 x1_38_0.f4))])] [] [] [(.one (.val (.bool (m54 x0_38_0 x1_38_0))))]), (!(m54 x0_38_0 x1_38_0)) = true]) (by kernel_rfl) ⟨hc, (by first | exact True.intro | with_reducible rfl | with_reducible assumption | omega | (simp only [List.length_map, List.length_set, List.length_append, List.length_replicate, List.length_cons, List.length_nil]; omega) | (simp; omega) | (simp [List.take_of_length_le]; done) | assumption | trivial | (simp [*]; done)), (by first | (rw [List.getElem?_map, Hx0_38_0]; rfl) | (rw [Nat.zero_add, List.getElem?_map, Hx0_38_0]; rfl) | exact True.intro | with_reducible rfl | with_reducible assumption | omega | (simp only [List.length_map, List.length_set, List.length_append, List.length_replicate, List.length_cons, List.length_nil]; omega) | (simp; done) | (simp; omega) | (simp [List.take_of_length_le]; done) | (simp [← List.map_take, ← List.map_drop]; done) | assumption | trivial | (simp [*, b_si, b_iiiLsiEi, d_si, d_iiiLsiEi]; done)), (by first | exact True.intro | with_reducible rfl | with_reducible assumption | omega | (simp only [List.length_map, List.length_set, List.length_append, List.length_replicate, List.length_cons, List.length_nil]; omega) | (simp; omega) | (simp [List.take_of_length_le]; done) | assumption | trivial | (simp [*]; done)), (by first | (rw [List.getElem?_map, Hx1_38_0]; rfl) | (rw [Nat.zero_add, List.getElem?_map, Hx1_38_0]; rfl) | exact True.intro | with_reducible rfl | with_reducible assumption | omega | (simp only [List.length_map, List.length_set, List.length_append, List.length_replicate, List.length_cons, List.length_nil]; omega) | (simp; done) | (simp; omega) | (simp [List.take_of_length_le]; done) | (simp [← List.map_take, ← List.map_drop]; done) | assumption | trivial | (simp [*, b_si, b_iiiLsiEi, d_si, d_iiiLsiEi]; done)), (e54 (a0 := x0_38_0) (a1 := x1_38_0) (by first | with_reducible assumption | omega | assumption | (simp only [List.length_map]; omega) | (simp; omega)) (by first | with_reducible assumption | omega | assumption | (simp only [List.length_map]; omega) | (simp; omega))), h_38_0_1, trivial⟩
      rw [show (⟨[(4, (.one (.val (.bool false))))], []⟩ : St) = fin38_0 l0_0 l1_0 a0 a1 (.k1) from by first | rfl | (unfold fin38_0; simp [List.take_of_length_le, d_si, d_iiiLsiEi, d_iiLsiELiiiLsiEiELsiEiii, d_b, d_i, d_LsiE, d_LiiiLsiEiE, fromBR_si, fromBR_b, fromBR_i]; done)] at st
      exact .loopX st (show (.ret : VX.Exit) ≠ .normal from by simp)
    · try simp only [if_neg h_38_0_1]
      have st := codeH_ok (F := F) (X := X) (c := b38_0) (t := 0) (hs := [(8, .b true), (14, .row [(.val (.int .i64 x0_38_0.f0)), (.val (.int .i64 x0_38_0.f1)), (.val (.int .i64 x0_38_0.f2)), (.sl (List.map b_si x0_38_0.f3)), (.val (.int .i64 x0_38_0.f4))]), (22, .row [(.val (.int .i64 x1_38_0.f0)), (.val (.int .i64 x1_38_0.f1)), (.val (.int .i64 x1_38_0.f2)), (.sl (List.map b_si x1_38_0.f3)), (.val (.int .i64 x1_38_0.f4))]), (26, .ret [] [(.one (.val (.bool (m54 x0_38_0 x1_38_0))))] [] []), (29, .b false)]) (σ := h38_0 l0_0 l1_0 a0 a1 (List.length p_38_0 : Int) ) (σ' := ⟨[(0, (.one (.bor l0_0 (List.map b_iiiLsiEi a0)))), (1, (.one (.bor l1_0 (List.map b_iiiLsiEi a1)))), (5, (.one (.val (.int .i64 (IntKind.wrap .i64 ((List.length p_38_0 : Int) + 1))))))], []⟩) (e := .normal) (t' := 36) (hs' := []) (q := [(decide ((List.length p_38_0 : Int) < ((List.length (List.map b_iiiLsiEi a0)) : Int))) = true, 0 ≤ (List.length p_38_0 : Int), (List.map b_iiiLsiEi a0)[(Int.toNat (List.length p_38_0 : Int))]? = some [(.val (.int .i64 x0_38_0.f0)), (.val (.int .i64 x0_38_0.f1)), (.val (.int .i64 x0_38_0.f2)), (.sl (List.map b_si x0_38_0.f3)), (.val (.int .i64 x0_38_0.f4))], 0 ≤ (List.length p_38_0 : Int), (List.map b_iiiLsiEi a1)[(Int.toNat (List.length p_38_0 : Int))]? = some [(.val (.int .i64 x1_38_0.f0)), (.val (.int .i64 x1_38_0.f1)), (.val (.int .i64 x1_38_0.f2)), (.sl (List.map b_si x1_38_0.f3)), (.val (.int .i64 x1_38_0.f4))], Ev F X (.call 54 [(.agg [(.val (.int .i64 x0_38_0.f0)), (.val (.int .i64 x0_38_0.f1)), (.val (.int .i64 x0_38_0.f2)), (.bor (l0_0 + 1) (List.map b_si x0_38_0.f3)), (.val (.int .i64 x0_38_0.f4))]), (.agg [(.val (.int .i64 x1_38_0.f0)), (.val (.int .i64 x1_38_0.f1)), (.val (.int .i64 x1_38_0.f2)), (.bor (l1_0 + 1) (List.map b_si x1_38_0.f3)), (.val (.int .i64 x1_38_0.f4))])] [] [] [(.one (.val (.bool (m54 x0_38_0 x1_38_0))))]), (!(m54 x0_38_0 x1_38_0)) = false, True]) (by kernel_rfl) ⟨hc, (by first | exact True.intro | with_reducible rfl | with_reducible assumption | omega | (simp only [List.length_map, List.length_set, List.length_append, List.length_replicate, List.length_cons, List.length_nil]; omega) | (simp; omega) | (simp [List.take_of_length_le]; done) | assumption | trivial | (simp [*]; done)), (by first | (rw [List.getElem?_map, Hx0_38_0]; rfl) | (rw [Nat.zero_add, List.getElem?_map, Hx0_38_0]; rfl) | exact True.intro | with_reducible rfl | with_reducible assumption | omega | (simp only [List.length_map, List.length_set, List.length_append, List.length_replicate, List.length_cons, List.length_nil]; omega) | (simp; done) | (simp; omega) | (simp [List.take_of_length_le]; done) | (simp [← List.map_take, ← List.map_drop]; done) | assumption | trivial | (simp [*, b_si, b_iiiLsiEi, d_si, d_iiiLsiEi]; done)), (by first | exact True.intro | with_reducible rfl | with_reducible assumption | omega | (simp only [List.length_map, List.length_set, List.length_append, List.length_replicate, List.length_cons, List.length_nil]; omega) | (simp; omega) | (simp [List.take_of_length_le]; done) | assumption | trivial | (simp [*]; done)), (by first | (rw [List.getElem?_map, Hx1_38_0]; rfl) | (rw [Nat.zero_add, List.getElem?_map, Hx1_38_0]; rfl) | exact True.intro | with_reducible rfl | with_reducible assumption | omega | (simp only [List.length_map, List.length_set, List.length_append, List.length_replicate, List.length_cons, List.length_nil]; omega) | (simp; done) | (simp; omega) | (simp [List.take_of_length_le]; done) | (simp [← List.map_take, ← List.map_drop]; done) | assumption | trivial | (simp [*, b_si, b_iiiLsiEi, d_si, d_iiiLsiEi]; done)), (e54 (a0 := x0_38_0) (a1 := x1_38_0) (by first | with_reducible assumption | omega | assumption | (simp only [List.length_map]; omega) | (simp; omega)) (by first | with_reducible assumption | omega | assumption | (simp only [List.length_map]; omega) | (simp; omega))), (nt h_38_0_1), trivial, trivial⟩
      have ih := t38_0 (l0_0 := l0_0) (l1_0 := l1_0) (a0 := a0) (a1 := a1) hy0 hy1 hy2 hy3 l0_38_0 l1_38_0 (p_38_0 ++ [x0_38_0]) (p_38_0_1 ++ [x1_38_0])  (by rw [List.append_assoc]; exact hp0) (by rw [List.append_assoc]; exact hp1) (by simp only [List.length_map, List.length_set, List.length_append, List.length_replicate, List.length_cons, List.length_nil]; omega) (by simp only [List.length_map, List.length_set, List.length_append, List.length_replicate, List.length_cons, List.length_nil] at hl1; omega)
      rw [show ((p_38_0 ++ [x0_38_0]).length : Int) = (p_38_0.length : Int) + 1 from by simp] at ih
      rw [show (⟨[(0, (.one (.bor l0_0 (List.map b_iiiLsiEi a0)))), (1, (.one (.bor l1_0 (List.map b_iiiLsiEi a1)))), (5, (.one (.val (.int .i64 (IntKind.wrap .i64 ((List.length p_38_0 : Int) + 1))))))], []⟩ : St) = h38_0 l0_0 l1_0 a0 a1 ((List.length p_38_0 : Int) + 1)  from by first | (unfold h38_0; simp only [hw]; done) | (unfold h38_0; simp only [hw, List.length_map, List.length_set, List.length_append, List.length_replicate, List.length_cons, List.length_nil]; done) | (unfold h38_0; simp [hw, List.take_of_length_le, d_si, d_iiiLsiEi, d_iiLsiELiiiLsiEiELsiEiii, d_b, d_i, d_LsiE, d_LiiiLsiEiE, fromBR_si, fromBR_b, fromBR_i]; done)] at st
      exact .loopN st ih
/-! loop.example/g00539/laws.eqRewardS -/
def m38 (a0 : (List K_iiiLsiEi)) (a1 : (List K_iiiLsiEi)) : Bool :=
  if (((List.length (List.map b_iiiLsiEi a0)) : Int) != ((List.length (List.map b_iiiLsiEi a1)) : Int)) = true then false else
  (match r38_0 a0 a0 a1 0 with | .k0 w0_38_0_1 w1_38_0_1 => true | .k1 => false)
theorem e38 {l0_0 : Nat} {a0 : (List K_iiiLsiEi)} {l1_0 : Nat} {a1 : (List K_iiiLsiEi)} (hy0 : List.length a0 * 56 ≤ 140737488351232) (hy1 : ∀ z ∈ a0, ok_iiiLsiEi z) (hy2 : List.length a1 * 56 ≤ 140737488351232) (hy3 : ∀ z ∈ a1, ok_iiiLsiEi z) : Ev F X (.call 38 [(.one (.bor l0_0 (List.map b_iiiLsiEi a0))), (.one (.bor l1_0 (List.map b_iiiLsiEi a1)))] [] [] [(.one (.val (.bool (m38 a0 a1))))]) := by
  unfold m38
  by_cases h0 : (((List.length (List.map b_iiiLsiEi a0)) : Int) != ((List.length (List.map b_iiiLsiEi a1)) : Int)) = true
  · try simp only [if_pos h0]
    exact callP_ok (ps := []) (os := []) (rs := [(.one (.val (.bool false)))]) (by kernel_rfl) (.f h0 (.h 12 (.b true) .nil))
  · try simp only [if_neg h0]
    cases h1 : r38_0 a0 a0 a1 0 with
    | k0 w0_38_0_1 w1_38_0_1 =>
      try dsimp only
      have f1 : (⟨[(0, (.one (.bor l0_0 (List.map b_iiiLsiEi a0)))), (1, (.one (.bor l1_0 (List.map b_iiiLsiEi a1)))), (5, (.one (.val (.int .i64 0))))], []⟩ : St) = h38_0 l0_0 l1_0 a0 a1 0  := (by first | rfl | (unfold h38_0; simp [List.take_of_length_le, d_si, d_iiiLsiEi, d_iiLsiELiiiLsiEiELsiEiii, d_b, d_i, d_LsiE, d_LiiiLsiEiE, fromBR_si, fromBR_b, fromBR_i]; done))
      have f2 : Ev F X (.code l38_0 (h38_0 l0_0 l1_0 a0 a1 0 ) (.exit 0) ⟨[(0, (.one (.bor l0_0 (List.map b_iiiLsiEi a0)))), (1, (.one (.bor l1_0 (List.map b_iiiLsiEi a1)))), (5, (.one (.val (.int .i64 w0_38_0_1)))), (14, (.one (.val (.bool w1_38_0_1))))], []⟩) := (by have t : Ev F X (.code l38_0 (h38_0 l0_0 l1_0 a0 a1 0 ) (ex38_0 (r38_0 a0 a0 a1 0)) (fin38_0 l0_0 l1_0 a0 a1 (r38_0 a0 a0 a1 0))) := t38_0 (l0_0 := l0_0) (l1_0 := l1_0) (a0 := a0) (a1 := a1) (by first | assumption | omega) (by first | assumption | omega) (by first | assumption | omega) (by first | assumption | omega) a0 a1 [] []  rfl rfl rfl (by first | omega | (simp at *; omega)); rw [h1] at t; exact t)
      exact callP_ok (ps := []) (os := []) (rs := [(.one (.val (.bool true)))]) (by kernel_rfl) (.f (nt h0) (.f f1 (.f f2 (.h 12 (.b false) (.h 15 (.loop (h38_0 l0_0 l1_0 a0 a1 0 ) (.exit 0) ⟨[(0, (.one (.bor l0_0 (List.map b_iiiLsiEi a0)))), (1, (.one (.bor l1_0 (List.map b_iiiLsiEi a1)))), (5, (.one (.val (.int .i64 w0_38_0_1)))), (14, (.one (.val (.bool w1_38_0_1))))], []⟩) .nil)))))
    | k1 =>
      try dsimp only
      have f1 : (⟨[(0, (.one (.bor l0_0 (List.map b_iiiLsiEi a0)))), (1, (.one (.bor l1_0 (List.map b_iiiLsiEi a1)))), (5, (.one (.val (.int .i64 0))))], []⟩ : St) = h38_0 l0_0 l1_0 a0 a1 0  := (by first | rfl | (unfold h38_0; simp [List.take_of_length_le, d_si, d_iiiLsiEi, d_iiLsiELiiiLsiEiELsiEiii, d_b, d_i, d_LsiE, d_LiiiLsiEiE, fromBR_si, fromBR_b, fromBR_i]; done))
      have f2 : Ev F X (.code l38_0 (h38_0 l0_0 l1_0 a0 a1 0 ) .ret ⟨[(4, (.one (.val (.bool false))))], []⟩) := (by have t : Ev F X (.code l38_0 (h38_0 l0_0 l1_0 a0 a1 0 ) (ex38_0 (r38_0 a0 a0 a1 0)) (fin38_0 l0_0 l1_0 a0 a1 (r38_0 a0 a0 a1 0))) := t38_0 (l0_0 := l0_0) (l1_0 := l1_0) (a0 := a0) (a1 := a1) (by first | assumption | omega) (by first | assumption | omega) (by first | assumption | omega) (by first | assumption | omega) a0 a1 [] []  rfl rfl rfl (by first | omega | (simp at *; omega)); rw [h1] at t; exact t)
      exact callP_ok (ps := []) (os := []) (rs := [(.one (.val (.bool false)))]) (by kernel_rfl) (.f (nt h0) (.f f1 (.f f2 (.h 12 (.b false) (.h 15 (.loop (h38_0 l0_0 l1_0 a0 a1 0 ) .ret ⟨[(4, (.one (.val (.bool false))))], []⟩) .nil)))))
theorem eqr38_0 (a0 : (List K_iiiLsiEi)) : ∀ (l m : List K_iiiLsiEi) (i : Int), l.length = m.length → (r38_0 a0 l m i = .k1 ∧ l ≠ m) ∨ (∃ w0 w1, r38_0 a0 l m i = .k0 w0 w1 ∧ l = m)
  | [], [], i, _ => .inr ⟨_, _, rfl, rfl⟩
  | [], _ :: _, i, h => by simp at h
  | _ :: _, [], i, h => by simp at h
  | x :: l, y :: m, i, h => by
    have ih := eqr38_0 a0 l m (i + 1) (by simpa using h)
    by_cases hxy : x = y
    · subst hxy
      have e : r38_0 a0 (x :: l) (x :: m) i = r38_0 a0 l m (i + 1) := by simp [r38_0, ba_eq, eqd54]
      rw [e]
      rcases ih with ⟨h1, h2⟩ | ⟨w0, w1, h1, h2⟩
      · exact .inl ⟨h1, by simp [h2]⟩
      · exact .inr ⟨_, _, h1, by rw [h2]⟩
    · have e : r38_0 a0 (x :: l) (y :: m) i = .k1 := by
        simp only [r38_0]
        first
          | ((repeat' split) <;> simp_all [ba_eq, eqd54]; done)
          | (cases x; cases y; (repeat' split) <;> simp_all [ba_eq, eqd54])
      exact .inl ⟨e, by simp [hxy]⟩
open Classical in
theorem eqd38 (a b : (List K_iiiLsiEi)) : m38 a b = decide (a = b) := by
  rw [Bool.eq_iff_iff, decide_eq_true_eq]
  unfold m38
  by_cases hl : List.length a = List.length b
  · rcases eqr38_0 a a b 0 hl with ⟨h1, h2⟩ | ⟨w0, w1, h1, h2⟩
    · simp only [h1, List.length_map, hl]
      first
        | (simp [h2, ba_eq, eqd54]; done)
        | (cases a; cases b; simp_all [ba_eq, eqd54]; done)
        | (cases a; cases b; (repeat' split) <;> simp_all [ba_eq, eqd54])
    · simp only [h1, List.length_map, hl]
      first
        | (simp [h2, ba_eq, eqd54]; done)
        | (cases a; cases b; simp_all [ba_eq, eqd54]; done)
        | (cases a; cases b; (repeat' split) <;> simp_all [ba_eq, eqd54])
  · have hn : a ≠ b := by rintro rfl; exact hl rfl
    simp only [List.length_map]
    first
      | (simp [hn, hl, ba_eq, eqd54]; done)
      | ((repeat' split) <;> simp_all [ba_eq, eqd54]; done)
      | (simp [hn]; omega)
end Go.Proofs.Ytcbnpfnebinbkaa.SameLedgers
