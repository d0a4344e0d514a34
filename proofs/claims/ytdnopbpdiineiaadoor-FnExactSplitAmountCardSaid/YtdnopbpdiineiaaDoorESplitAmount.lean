/- What the functions compute. -/
import Derived.Test.YtdnopbpdiineiaaDoorESplitAmountB
import Derived.KernelRfl
namespace Go.Proofs.YtdnopbpdiineiaaDoor.SplitAmount
open Go Go.Proofs.YtdnopbpdiineiaaDoor.V
set_option linter.unusedVariables false
set_option linter.unusedSimpArgs false
set_option maxRecDepth 20000
attribute [local simp] toBR_i fullR_i pureR_i lenB_i lenD_i fromBR_i copy_i toBR_si fullR_si pureR_si lenB_si lenD_si fromBR_si copy_si toBR_LsiE fullR_LsiE pureR_LsiE lenB_LsiE lenD_LsiE toBR_b fullR_b pureR_b lenB_b lenD_b fromBR_b copy_b toBR_iLsiE fullR_iLsiE pureR_iLsiE lenB_iLsiE lenD_iLsiE toBR_s fullR_s pureR_s lenB_s lenD_s fromBR_s copy_s toBR_LiE fullR_LiE pureR_LiE lenB_LiE lenD_LiE strInts_len byteRows_len toBR_y fullR_y pureR_y lenB_y lenD_y fromBR_y copy_y
/-! loop 83_0 -/
inductive O83_0 where
  | k0 (w0 : Int) (w1 : Int) (w2 : Bool)
  | k1
def r83_0 (a0 : (List K_si)) : List K_si → Int → Int → O83_0
  | x0_83_0 :: l0_83_0, i_83_0, v0_83_0 =>
    if (!(x0_83_0.f0.toList == (m82 v0_83_0).toList)) = true then (O83_0.k1) else
    if (x0_83_0.f1 != (IntKind.wrap .i64 (v0_83_0 + 1))) = true then (O83_0.k1) else
      (r83_0 a0 l0_83_0 (i_83_0 + 1) (IntKind.wrap .i64 ((IntKind.wrap .i64 (v0_83_0 + 1)) + 1)))
  | [], i_83_0, v0_83_0 => (O83_0.k0 v0_83_0 i_83_0 (decide (i_83_0 < ((List.length (List.map b_si a0)) : Int))))
def h83_0 (l0_0 : Nat) (a0 : (List K_si)) (a1 : Int) (i_83_0 : Int) (v0_83_0 : Int) : St := ⟨[(0, (.one (.bor l0_0 (List.map b_si a0)))), (1, (.one (.val (.int .i64 v0_83_0)))), (5, (.one (.val (.int .i64 i_83_0))))], []⟩
def ex83_0 : O83_0 → VX.Exit
  | .k0 _ _ _ => (.exit 0)
  | .k1 => .ret
def fin83_0 (l0_0 : Nat) (a0 : (List K_si)) (a1 : Int) : O83_0 → St
  | .k0 w0 w1 w2 => ⟨[(0, (.one (.bor l0_0 (List.map b_si a0)))), (1, (.one (.val (.int .i64 w0)))), (5, (.one (.val (.int .i64 w1)))), (9, (.one (.val (.bool w2))))], []⟩
  | .k1 => ⟨[(4, (.one (.val (.int .i64 (-1)))))], []⟩
theorem t83_0 {l0_0 : Nat} {a0 : (List K_si)} {a1 : Int} (hy0 : List.length a0 * 24 ≤ 140737488351232) : ∀ (l0_83_0 : List K_si) (p_83_0 : List K_si) (v0_83_0 : Int), p_83_0 ++ l0_83_0 = a0 → Ev F X (.code l83_0 (h83_0 l0_0 a0 a1 (List.length p_83_0 : Int) v0_83_0) (ex83_0 (r83_0 a0 l0_83_0 (List.length p_83_0 : Int) v0_83_0)) (fin83_0 l0_0 a0 a1 (r83_0 a0 l0_83_0 (List.length p_83_0 : Int) v0_83_0)))
  | [], p_83_0, v0_83_0, hp0 => by
    have hc : ¬ (decide ((List.length p_83_0 : Int) < ((List.length (List.map b_si a0)) : Int))) = true := by
      rw [← hp0]; simp only [List.length_map, List.length_set, List.length_append, List.length_replicate, List.length_cons, List.length_nil, decide_eq_true_eq]; omega
    have st := codeH_ok (F := F) (X := X) (c := b83_0) (t := 0) (hs := [(8, .b false)]) (σ := h83_0 l0_0 a0 a1 (List.length p_83_0 : Int) v0_83_0) (σ' := ⟨[(0, (.one (.bor l0_0 (List.map b_si a0)))), (1, (.one (.val (.int .i64 v0_83_0)))), (5, (.one (.val (.int .i64 (List.length p_83_0 : Int))))), (9, (.one (.val (.bool (decide ((List.length p_83_0 : Int) < ((List.length (List.map b_si a0)) : Int)))))))], []⟩) (e := (.exit 0)) (t' := 9) (hs' := []) (q := [(decide ((List.length p_83_0 : Int) < ((List.length (List.map b_si a0)) : Int))) = false]) (by kernel_rfl) ⟨(nt hc), trivial⟩
    rw [show (⟨[(0, (.one (.bor l0_0 (List.map b_si a0)))), (1, (.one (.val (.int .i64 v0_83_0)))), (5, (.one (.val (.int .i64 (List.length p_83_0 : Int))))), (9, (.one (.val (.bool (decide ((List.length p_83_0 : Int) < ((List.length (List.map b_si a0)) : Int)))))))], []⟩ : St) = fin83_0 l0_0 a0 a1 (.k0 v0_83_0 (List.length p_83_0 : Int) (decide ((List.length p_83_0 : Int) < ((List.length (List.map b_si a0)) : Int)))) from by first | rfl | (unfold fin83_0; simp [byteRows_eq, ints_y, List.take_of_length_le, d_i, d_si, d_LsiE, d_b, d_iLsiE, d_s, d_LiE, d_y, fromBR_i, fromBR_si, fromBR_b, fromBR_s, fromBR_y, ol33, ol34_0]; done)] at st
    exact .loopX st (show ((.exit 0) : VX.Exit) ≠ .normal from by simp)
  | x0_83_0 :: l0_83_0, p_83_0, v0_83_0, hp0 => by
    have hc : (decide ((List.length p_83_0 : Int) < ((List.length (List.map b_si a0)) : Int))) = true := by
      rw [← hp0]; simp only [List.length_map, List.length_set, List.length_append, List.length_replicate, List.length_cons, List.length_nil, decide_eq_true_eq]; omega
    have Hx0_83_0 : (a0)[Int.toNat (List.length p_83_0 : Int)]? = some x0_83_0 := by
      rw [← hp0, Int.toNat_natCast]; simp
    have hlen : List.length (a0) = List.length p_83_0 + List.length l0_83_0 + 1 := by rw [← hp0]; simp; omega
    have hw : IntKind.wrap .i64 ((List.length p_83_0 : Int) + 1) = (List.length p_83_0 : Int) + 1 := wrap64 (by omega)
    simp only [r83_0]
    by_cases h_83_0_1 : (!(x0_83_0.f0.toList == (m82 v0_83_0).toList)) = true
    · try simp only [if_pos h_83_0_1]
      have st := codeH_ok (F := F) (X := X) (c := b83_0) (t := 0) (hs := [(8, .b true), (14, .row [(.val (.string x0_83_0.f0)), (.val (.int .i64 x0_83_0.f1))]), (22, .ret [] [(.one (.val (.string (m82 v0_83_0))))] [] []), (25, .b true)]) (σ := h83_0 l0_0 a0 a1 (List.length p_83_0 : Int) v0_83_0) (σ' := ⟨[(4, (.one (.val (.int .i64 (-1)))))], []⟩) (e := .ret) (t' := 28) (hs' := []) (q := [(decide ((List.length p_83_0 : Int) < ((List.length (List.map b_si a0)) : Int))) = true, 0 ≤ (List.length p_83_0 : Int), (List.map b_si a0)[(Int.toNat (List.length p_83_0 : Int))]? = some [(.val (.string x0_83_0.f0)), (.val (.int .i64 x0_83_0.f1))], Ev F X (.call 82 [(.one (.val (.int .i64 v0_83_0)))] [] [] [(.one (.val (.string (m82 v0_83_0))))]), (!(x0_83_0.f0.toList == (m82 v0_83_0).toList)) = true]) (by kernel_rfl) ⟨hc, (by first | exact True.intro | with_reducible rfl | with_reducible assumption | omega | (simp only [decide_eq_true_eq] at *; omega) | (simp only [List.length_map, List.length_set, List.length_append, List.length_replicate, List.length_cons, List.length_nil]; omega) | (simp [ol33, ol34_0]; omega) | (simp [List.take_of_length_le, ol33, ol34_0]; done) | assumption | trivial | (simp [*, ol33, ol34_0, byteRows_eq, ints_y]; done)), (by first | (rw [List.getElem?_map, Hx0_83_0]; rfl) | (rw [Nat.zero_add, List.getElem?_map, Hx0_83_0]; rfl) | exact True.intro | with_reducible rfl | with_reducible assumption | omega | (simp only [List.length_map, List.length_set, List.length_append, List.length_replicate, List.length_cons, List.length_nil]; omega) | (simp [ol33, ol34_0]; done) | (simp [ol33, ol34_0]; omega) | (simp [List.take_of_length_le, ol33, ol34_0]; done) | (simp [← List.map_take, ← List.map_drop, ol33, ol34_0]; done) | assumption | trivial | (simp [*, ol33, ol34_0, b_si, d_si, byteRows_eq, ints_y]; done)), (e82 (a0 := v0_83_0)), h_83_0_1, trivial⟩
      rw [show (⟨[(4, (.one (.val (.int .i64 (-1)))))], []⟩ : St) = fin83_0 l0_0 a0 a1 (.k1) from by first | rfl | (unfold fin83_0; simp [byteRows_eq, ints_y, List.take_of_length_le, d_i, d_si, d_LsiE, d_b, d_iLsiE, d_s, d_LiE, d_y, fromBR_i, fromBR_si, fromBR_b, fromBR_s, fromBR_y, ol33, ol34_0]; done)] at st
      exact .loopX st (show (.ret : VX.Exit) ≠ .normal from by simp)
    · try simp only [if_neg h_83_0_1]
      by_cases h_83_0_2 : (x0_83_0.f1 != (IntKind.wrap .i64 (v0_83_0 + 1))) = true
      · try simp only [if_pos h_83_0_2]
        have st := codeH_ok (F := F) (X := X) (c := b83_0) (t := 0) (hs := [(8, .b true), (14, .row [(.val (.string x0_83_0.f0)), (.val (.int .i64 x0_83_0.f1))]), (22, .ret [] [(.one (.val (.string (m82 v0_83_0))))] [] []), (25, .b false), (37, .row [(.val (.string x0_83_0.f0)), (.val (.int .i64 x0_83_0.f1))]), (46, .b true)]) (σ := h83_0 l0_0 a0 a1 (List.length p_83_0 : Int) v0_83_0) (σ' := ⟨[(4, (.one (.val (.int .i64 (-1)))))], []⟩) (e := .ret) (t' := 49) (hs' := []) (q := [(decide ((List.length p_83_0 : Int) < ((List.length (List.map b_si a0)) : Int))) = true, 0 ≤ (List.length p_83_0 : Int), (List.map b_si a0)[(Int.toNat (List.length p_83_0 : Int))]? = some [(.val (.string x0_83_0.f0)), (.val (.int .i64 x0_83_0.f1))], Ev F X (.call 82 [(.one (.val (.int .i64 v0_83_0)))] [] [] [(.one (.val (.string (m82 v0_83_0))))]), (!(x0_83_0.f0.toList == (m82 v0_83_0).toList)) = false, True, 0 ≤ (List.length p_83_0 : Int), (List.map b_si a0)[(Int.toNat (List.length p_83_0 : Int))]? = some [(.val (.string x0_83_0.f0)), (.val (.int .i64 x0_83_0.f1))], (x0_83_0.f1 != (IntKind.wrap .i64 (v0_83_0 + 1))) = true]) (by kernel_rfl) ⟨hc, (by first | exact True.intro | with_reducible rfl | with_reducible assumption | omega | (simp only [decide_eq_true_eq] at *; omega) | (simp only [List.length_map, List.length_set, List.length_append, List.length_replicate, List.length_cons, List.length_nil]; omega) | (simp [ol33, ol34_0]; omega) | (simp [List.take_of_length_le, ol33, ol34_0]; done) | assumption | trivial | (simp [*, ol33, ol34_0, byteRows_eq, ints_y]; done)), (by first | (rw [List.getElem?_map, Hx0_83_0]; rfl) | (rw [Nat.zero_add, List.getElem?_map, Hx0_83_0]; rfl) | exact True.intro | with_reducible rfl | with_reducible assumption | omega | (simp only [List.length_map, List.length_set, List.length_append, List.length_replicate, List.length_cons, List.length_nil]; omega) | (simp [ol33, ol34_0]; done) | (simp [ol33, ol34_0]; omega) | (simp [List.take_of_length_le, ol33, ol34_0]; done) | (simp [← List.map_take, ← List.map_drop, ol33, ol34_0]; done) | assumption | trivial | (simp [*, ol33, ol34_0, b_si, d_si, byteRows_eq, ints_y]; done)), (e82 (a0 := v0_83_0)), (nt h_83_0_1), trivial, (by first | exact True.intro | with_reducible rfl | with_reducible assumption | omega | (simp only [decide_eq_true_eq] at *; omega) | (simp only [List.length_map, List.length_set, List.length_append, List.length_replicate, List.length_cons, List.length_nil]; omega) | (simp [ol33, ol34_0]; omega) | (simp [List.take_of_length_le, ol33, ol34_0]; done) | assumption | trivial | (simp [*, ol33, ol34_0, byteRows_eq, ints_y]; done)), (by first | (rw [List.getElem?_map, Hx0_83_0]; rfl) | (rw [Nat.zero_add, List.getElem?_map, Hx0_83_0]; rfl) | exact True.intro | with_reducible rfl | with_reducible assumption | omega | (simp only [List.length_map, List.length_set, List.length_append, List.length_replicate, List.length_cons, List.length_nil]; omega) | (simp [ol33, ol34_0]; done) | (simp [ol33, ol34_0]; omega) | (simp [List.take_of_length_le, ol33, ol34_0]; done) | (simp [← List.map_take, ← List.map_drop, ol33, ol34_0]; done) | assumption | trivial | (simp [*, ol33, ol34_0, b_si, d_si, byteRows_eq, ints_y]; done)), h_83_0_2, trivial⟩
        rw [show (⟨[(4, (.one (.val (.int .i64 (-1)))))], []⟩ : St) = fin83_0 l0_0 a0 a1 (.k1) from by first | rfl | (unfold fin83_0; simp [byteRows_eq, ints_y, List.take_of_length_le, d_i, d_si, d_LsiE, d_b, d_iLsiE, d_s, d_LiE, d_y, fromBR_i, fromBR_si, fromBR_b, fromBR_s, fromBR_y, ol33, ol34_0]; done)] at st
        exact .loopX st (show (.ret : VX.Exit) ≠ .normal from by simp)
      · try simp only [if_neg h_83_0_2]
        have st := codeH_ok (F := F) (X := X) (c := b83_0) (t := 0) (hs := [(8, .b true), (14, .row [(.val (.string x0_83_0.f0)), (.val (.int .i64 x0_83_0.f1))]), (22, .ret [] [(.one (.val (.string (m82 v0_83_0))))] [] []), (25, .b false), (37, .row [(.val (.string x0_83_0.f0)), (.val (.int .i64 x0_83_0.f1))]), (46, .b false)]) (σ := h83_0 l0_0 a0 a1 (List.length p_83_0 : Int) v0_83_0) (σ' := ⟨[(0, (.one (.bor l0_0 (List.map b_si a0)))), (1, (.one (.val (.int .i64 (IntKind.wrap .i64 ((IntKind.wrap .i64 (v0_83_0 + 1)) + 1)))))), (5, (.one (.val (.int .i64 (IntKind.wrap .i64 ((List.length p_83_0 : Int) + 1))))))], []⟩) (e := .normal) (t' := 59) (hs' := []) (q := [(decide ((List.length p_83_0 : Int) < ((List.length (List.map b_si a0)) : Int))) = true, 0 ≤ (List.length p_83_0 : Int), (List.map b_si a0)[(Int.toNat (List.length p_83_0 : Int))]? = some [(.val (.string x0_83_0.f0)), (.val (.int .i64 x0_83_0.f1))], Ev F X (.call 82 [(.one (.val (.int .i64 v0_83_0)))] [] [] [(.one (.val (.string (m82 v0_83_0))))]), (!(x0_83_0.f0.toList == (m82 v0_83_0).toList)) = false, True, 0 ≤ (List.length p_83_0 : Int), (List.map b_si a0)[(Int.toNat (List.length p_83_0 : Int))]? = some [(.val (.string x0_83_0.f0)), (.val (.int .i64 x0_83_0.f1))], (x0_83_0.f1 != (IntKind.wrap .i64 (v0_83_0 + 1))) = false, True, True]) (by kernel_rfl) ⟨hc, (by first | exact True.intro | with_reducible rfl | with_reducible assumption | omega | (simp only [decide_eq_true_eq] at *; omega) | (simp only [List.length_map, List.length_set, List.length_append, List.length_replicate, List.length_cons, List.length_nil]; omega) | (simp [ol33, ol34_0]; omega) | (simp [List.take_of_length_le, ol33, ol34_0]; done) | assumption | trivial | (simp [*, ol33, ol34_0, byteRows_eq, ints_y]; done)), (by first | (rw [List.getElem?_map, Hx0_83_0]; rfl) | (rw [Nat.zero_add, List.getElem?_map, Hx0_83_0]; rfl) | exact True.intro | with_reducible rfl | with_reducible assumption | omega | (simp only [List.length_map, List.length_set, List.length_append, List.length_replicate, List.length_cons, List.length_nil]; omega) | (simp [ol33, ol34_0]; done) | (simp [ol33, ol34_0]; omega) | (simp [List.take_of_length_le, ol33, ol34_0]; done) | (simp [← List.map_take, ← List.map_drop, ol33, ol34_0]; done) | assumption | trivial | (simp [*, ol33, ol34_0, b_si, d_si, byteRows_eq, ints_y]; done)), (e82 (a0 := v0_83_0)), (nt h_83_0_1), trivial, (by first | exact True.intro | with_reducible rfl | with_reducible assumption | omega | (simp only [decide_eq_true_eq] at *; omega) | (simp only [List.length_map, List.length_set, List.length_append, List.length_replicate, List.length_cons, List.length_nil]; omega) | (simp [ol33, ol34_0]; omega) | (simp [List.take_of_length_le, ol33, ol34_0]; done) | assumption | trivial | (simp [*, ol33, ol34_0, byteRows_eq, ints_y]; done)), (by first | (rw [List.getElem?_map, Hx0_83_0]; rfl) | (rw [Nat.zero_add, List.getElem?_map, Hx0_83_0]; rfl) | exact True.intro | with_reducible rfl | with_reducible assumption | omega | (simp only [List.length_map, List.length_set, List.length_append, List.length_replicate, List.length_cons, List.length_nil]; omega) | (simp [ol33, ol34_0]; done) | (simp [ol33, ol34_0]; omega) | (simp [List.take_of_length_le, ol33, ol34_0]; done) | (simp [← List.map_take, ← List.map_drop, ol33, ol34_0]; done) | assumption | trivial | (simp [*, ol33, ol34_0, b_si, d_si, byteRows_eq, ints_y]; done)), (nt h_83_0_2), trivial, trivial, trivial⟩
        have ih := t83_0 (l0_0 := l0_0) (a0 := a0) (a1 := a1) hy0 l0_83_0 (p_83_0 ++ [x0_83_0]) (IntKind.wrap .i64 ((IntKind.wrap .i64 (v0_83_0 + 1)) + 1)) (by rw [List.append_assoc]; exact hp0)
        rw [show ((p_83_0 ++ [x0_83_0]).length : Int) = (p_83_0.length : Int) + 1 from by simp] at ih
        rw [show (⟨[(0, (.one (.bor l0_0 (List.map b_si a0)))), (1, (.one (.val (.int .i64 (IntKind.wrap .i64 ((IntKind.wrap .i64 (v0_83_0 + 1)) + 1)))))), (5, (.one (.val (.int .i64 (IntKind.wrap .i64 ((List.length p_83_0 : Int) + 1))))))], []⟩ : St) = h83_0 l0_0 a0 a1 ((List.length p_83_0 : Int) + 1) (IntKind.wrap .i64 ((IntKind.wrap .i64 (v0_83_0 + 1)) + 1)) from by first | (unfold h83_0; simp only [hw]; done) | (unfold h83_0; simp only [hw, List.length_map, List.length_set, List.length_append, List.length_replicate, List.length_cons, List.length_nil]; done) | (unfold h83_0; simp [hw, byteRows_eq, ints_y, List.take_of_length_le, d_i, d_si, d_LsiE, d_b, d_iLsiE, d_s, d_LiE, d_y, fromBR_i, fromBR_si, fromBR_b, fromBR_s, fromBR_y, ol33, ol34_0]; done)] at st
        exact .loopN st ih
/-! loop.example/g00539/laws.heldWeightS -/
def m83 (a0 : (List K_si)) (a1 : Int) : Int :=
  (match r83_0 a0 a0 0 a1 with | .k0 w0_83_0_0 w1_83_0_0 w2_83_0_0 => w0_83_0_0 | .k1 => (-1))
theorem e83 {l0_0 : Nat} {a0 : (List K_si)} {a1 : Int} (hy0 : List.length a0 * 24 ≤ 140737488351232) : Ev F X (.call 83 [(.one (.bor l0_0 (List.map b_si a0))), (.one (.val (.int .i64 a1)))] [] [] [(.one (.val (.int .i64 (m83 a0 a1))))]) := by
  unfold m83
  cases h0 : r83_0 a0 a0 0 a1 with
  | k0 w0_83_0_0 w1_83_0_0 w2_83_0_0 =>
    try dsimp only
    have f0 : (⟨[(0, (.one (.bor l0_0 (List.map b_si a0)))), (1, (.one (.val (.int .i64 a1)))), (5, (.one (.val (.int .i64 0))))], []⟩ : St) = h83_0 l0_0 a0 a1 0 a1 := (by first | rfl | (unfold h83_0; simp [byteRows_eq, ints_y, List.take_of_length_le, d_i, d_si, d_LsiE, d_b, d_iLsiE, d_s, d_LiE, d_y, fromBR_i, fromBR_si, fromBR_b, fromBR_s, fromBR_y, ol33, ol34_0]; done))
    have f1 : Ev F X (.code l83_0 (h83_0 l0_0 a0 a1 0 a1) (.exit 0) ⟨[(0, (.one (.bor l0_0 (List.map b_si a0)))), (1, (.one (.val (.int .i64 w0_83_0_0)))), (5, (.one (.val (.int .i64 w1_83_0_0)))), (9, (.one (.val (.bool w2_83_0_0))))], []⟩) := (by have t : Ev F X (.code l83_0 (h83_0 l0_0 a0 a1 0 a1) (ex83_0 (r83_0 a0 a0 0 a1)) (fin83_0 l0_0 a0 a1 (r83_0 a0 a0 0 a1))) := t83_0 (l0_0 := l0_0) (a0 := a0) (a1 := a1) (by first | assumption | omega) a0 [] a1 rfl; rw [h0] at t; exact t)
    exact callP_ok (ps := []) (os := []) (rs := [(.one (.val (.int .i64 w0_83_0_0)))]) (by kernel_rfl) (.f f0 (.f f1 (.h 4 (.loop (h83_0 l0_0 a0 a1 0 a1) (.exit 0) ⟨[(0, (.one (.bor l0_0 (List.map b_si a0)))), (1, (.one (.val (.int .i64 w0_83_0_0)))), (5, (.one (.val (.int .i64 w1_83_0_0)))), (9, (.one (.val (.bool w2_83_0_0))))], []⟩) .nil)))
  | k1 =>
    try dsimp only
    have f0 : (⟨[(0, (.one (.bor l0_0 (List.map b_si a0)))), (1, (.one (.val (.int .i64 a1)))), (5, (.one (.val (.int .i64 0))))], []⟩ : St) = h83_0 l0_0 a0 a1 0 a1 := (by first | rfl | (unfold h83_0; simp [byteRows_eq, ints_y, List.take_of_length_le, d_i, d_si, d_LsiE, d_b, d_iLsiE, d_s, d_LiE, d_y, fromBR_i, fromBR_si, fromBR_b, fromBR_s, fromBR_y, ol33, ol34_0]; done))
    have f1 : Ev F X (.code l83_0 (h83_0 l0_0 a0 a1 0 a1) .ret ⟨[(4, (.one (.val (.int .i64 (-1)))))], []⟩) := (by have t : Ev F X (.code l83_0 (h83_0 l0_0 a0 a1 0 a1) (ex83_0 (r83_0 a0 a0 0 a1)) (fin83_0 l0_0 a0 a1 (r83_0 a0 a0 0 a1))) := t83_0 (l0_0 := l0_0) (a0 := a0) (a1 := a1) (by first | assumption | omega) a0 [] a1 rfl; rw [h0] at t; exact t)
    exact callP_ok (ps := []) (os := []) (rs := [(.one (.val (.int .i64 (-1))))]) (by kernel_rfl) (.f f0 (.f f1 (.h 4 (.loop (h83_0 l0_0 a0 a1 0 a1) .ret ⟨[(4, (.one (.val (.int .i64 (-1)))))], []⟩) .nil)))
/-! loop.example/g00539/laws.heldWeightsResult -/
def m35 (a0 : K_iLsiE) (a1 : Int) : Int :=
  if (decide ((m83 a0.f1 a1) < 0)) = true then (-1) else
  (m83 a0.f1 a1)
theorem e35 {l0_1 : Nat} {a0 : K_iLsiE} {a1 : Int} (hy0 : List.length a0.f1 * 24 ≤ 140737488351232) : Ev F X (.call 35 [(.agg [(.val (.int .i64 a0.f0)), (.bor l0_1 (List.map b_si a0.f1))]), (.one (.val (.int .i64 a1)))] [] [] [(.one (.val (.int .i64 (m35 a0 a1))))]) := by
  unfold m35
  have f0 : Ev F X (.call 83 [(.one (.bor (l0_1 + 1) (List.map b_si a0.f1))), (.one (.val (.int .i64 a1)))] [] [] [(.one (.val (.int .i64 (m83 a0.f1 a1))))]) := (e83 (a0 := a0.f1) (a1 := a1) (by first | with_reducible assumption | omega | assumption | (simp only [List.length_map]; omega) | (simp [ol33, ol34_0]; omega)))
  by_cases h0 : (decide ((m83 a0.f1 a1) < 0)) = true
  · try simp only [if_pos h0]
    exact callP_ok (ps := []) (os := []) (rs := [(.one (.val (.int .i64 (-1))))]) (by kernel_rfl) (.r 11 [] [] f0 (.f h0 (.h 18 (.b true) .nil)))
  · try simp only [if_neg h0]
    exact callP_ok (ps := []) (os := []) (rs := [(.one (.val (.int .i64 (m83 a0.f1 a1))))]) (by kernel_rfl) (.r 11 [] [] f0 (.f (nt h0) (.h 18 (.b false) .nil)))
/-! loop.example/g00539/laws.FnExactSplitAmount -/
def m5 (a0 : Int) (a1 : (List K_si)) : Bool :=
  if (decide ((m27 a1 1048576) < 0)) = true then true else
  if (!(m31 (m30 a0 a1) (m28 a0 a1))) = true then false else
    if (!(m32 a1 a1)) = true then false else
      if (decide ((m33 a1 1) < 0)) = true then false else
        if (decide ((m35 (K_iLsiE.mk ((m30 a0 a1).f0) (o34_0 (m30 a0 a1) 1)) 1) < 0)) = true then false else
          if ((m35 (K_iLsiE.mk ((m30 a0 a1).f0) (o34_0 (m30 a0 a1) 1)) 1) != (m34 (m30 a0 a1) 1)) = true then false else
            true
set_option maxHeartbeats 8000000 in
theorem e5 {a0 : Int} {l1_0 : Nat} {a1 : (List K_si)} (hy0 : List.length a1 * 24 ≤ 140737488351232) (hy1 : ∀ z ∈ a1, os_si z) : Ev F X (.call 5 [(.one (.val (.int .i64 a0))), (.one (.bor l1_0 (List.map b_si a1)))] [] [] [(.one (.val (.bool (m5 a0 a1))))]) := by
  unfold m5
  have f0 : Ev F X (.call 27 [(.one (.bor (l1_0 + 1) (List.map b_si a1))), (.one (.val (.int .i64 1048576)))] [] [] [(.one (.val (.int .i64 (m27 a1 1048576))))]) := (e27 (a0 := a1) (a1 := 1048576) (by first | with_reducible assumption | omega | assumption | (simp only [List.length_map]; omega) | (simp [ol33, ol34_0]; omega)))
  by_cases h0 : (decide ((m27 a1 1048576) < 0)) = true
  · try simp only [if_pos h0]
    exact callP_ok (ps := []) (os := []) (rs := [(.one (.val (.bool true)))]) (by kernel_rfl) (.r 9 [] [] f0 (.f h0 (.h 16 (.b true) .nil)))
  · try simp only [if_neg h0]
    have f2 : Ev F X (.call 29 [(.one (.bor (l1_0 + 1) (List.map b_si a1)))] [] [] [(.one (.own 2 (List.map d_si a1)))]) := (g29 (a0 := a1) (by first | with_reducible assumption | omega | assumption | (simp only [List.length_map]; omega) | (simp [ol33, ol34_0]; omega)))
    have f3 : 0 + (List.length (List.map d_si a1)) ≤ (List.length (List.map d_si a1)) := (by omega)
    have f4 : fullR (List.take (List.length (List.map d_si a1)) (List.drop 0 (List.map d_si a1))) = true := (ft_si _ _ _)
    have f5 : toBR (List.take (List.length (List.map d_si a1)) (List.drop 0 (List.map d_si a1))) = (List.map b_si a1) := (tb_si _)
    have f6 : Ev F X (.call 28 [(.one (.val (.int .i64 a0))), (.one (.bor 0 (List.map b_si a1)))] [] [] [(.agg [(.val (.int .i64 ((m28 a0 a1).f0))), (.own 2 (List.map d_si ((m28 a0 a1).f1)))])]) := (e28 (a0 := a0) (a1 := a1) (by first | with_reducible assumption | omega | assumption | (simp only [List.length_map]; omega) | (simp [ol33, ol34_0]; omega)) (by first | exact True.intro | with_reducible rfl | with_reducible assumption | omega | (simp only [List.length_map, List.length_set, List.length_append, List.length_replicate, List.length_cons, List.length_nil]; omega) | (simp [ol33, ol34_0]; done) | (simp [ol33, ol34_0]; omega) | (simp [List.take_of_length_le, ol33, ol34_0]; done) | (simp [← List.map_take, ← List.map_drop, ol33, ol34_0]; done) | assumption | trivial | (simp [*, ol33, ol34_0, byteRows_eq, ints_y]; done)))
    have f7 : 0 = 0 := rfl
    have f8 : (List.length (List.map d_si ((m28 a0 a1).f1))) = (List.length (List.map d_si ((m28 a0 a1).f1))) := rfl
    have f9 : Ev F X (.call 29 [(.one (.bor (l1_0 + 1) (List.map b_si a1)))] [] [] [(.one (.own 2 (List.map d_si a1)))]) := (g29 (a0 := a1) (by first | with_reducible assumption | omega | assumption | (simp only [List.length_map]; omega) | (simp [ol33, ol34_0]; omega)))
    have f10 : 0 + (List.length (List.map d_si a1)) ≤ (List.length (List.map d_si a1)) := (by omega)
    have f11 : fullR (List.take (List.length (List.map d_si a1)) (List.drop 0 (List.map d_si a1))) = true := (ft_si _ _ _)
    have f12 : toBR (List.take (List.length (List.map d_si a1)) (List.drop 0 (List.map d_si a1))) = (List.map b_si a1) := (tb_si _)
    have f13 : Ev F X (.call 30 [(.one (.val (.int .i64 a0))), (.one (.bor 0 (List.map b_si a1)))] [] [] [(.agg [(.val (.int .i64 ((m30 a0 a1).f0))), (.own 2 (List.map d_si ((m30 a0 a1).f1)))])]) := (e30 (a0 := a0) (a1 := a1) (by first | with_reducible assumption | omega | assumption | (simp only [List.length_map]; omega) | (simp [ol33, ol34_0]; omega)))
    have f14 : 0 = 0 := rfl
    have f15 : (List.length (List.map d_si ((m30 a0 a1).f1))) = (List.length (List.map d_si ((m30 a0 a1).f1))) := rfl
    have f16 : 0 + (List.length (List.map d_si ((m30 a0 a1).f1))) ≤ (List.length (List.map d_si ((m30 a0 a1).f1))) := (by omega)
    have f17 : fullR (List.take (List.length (List.map d_si ((m30 a0 a1).f1))) (List.drop 0 (List.map d_si ((m30 a0 a1).f1)))) = true := (ft_si _ _ _)
    have f18 : toBR (List.take (List.length (List.map d_si ((m30 a0 a1).f1))) (List.drop 0 (List.map d_si ((m30 a0 a1).f1)))) = (List.map b_si ((m30 a0 a1).f1)) := (tb_si _)
    have f19 : 0 + (List.length (List.map d_si ((m28 a0 a1).f1))) ≤ (List.length (List.map d_si ((m28 a0 a1).f1))) := (by omega)
    have f20 : fullR (List.take (List.length (List.map d_si ((m28 a0 a1).f1))) (List.drop 0 (List.map d_si ((m28 a0 a1).f1)))) = true := (ft_si _ _ _)
    have f21 : toBR (List.take (List.length (List.map d_si ((m28 a0 a1).f1))) (List.drop 0 (List.map d_si ((m28 a0 a1).f1)))) = (List.map b_si ((m28 a0 a1).f1)) := (tb_si _)
    have f22 : Ev F X (.call 31 [(.agg [(.val (.int .i64 ((m30 a0 a1).f0))), (.bor 0 (List.map b_si ((m30 a0 a1).f1)))]), (.agg [(.val (.int .i64 ((m28 a0 a1).f0))), (.bor 0 (List.map b_si ((m28 a0 a1).f1)))])] [] [] [(.one (.val (.bool (m31 (m30 a0 a1) (m28 a0 a1)))))]) := (e31 (a0 := (m30 a0 a1)) (a1 := (m28 a0 a1)) (by first | with_reducible assumption | omega | (have q := okm30 a0 a1; exact q) | (unfold m30; (repeat' split) <;> simp_all <;> omega) | assumption | (simp only [List.length_map]; omega) | (simp [ol33, ol34_0]; omega)) (by first | with_reducible assumption | omega | (have q := okm28 a0 a1; exact q) | (unfold m28; (repeat' split) <;> simp_all <;> omega) | assumption | (simp only [List.length_map]; omega) | (simp [ol33, ol34_0]; omega)))
    by_cases h1 : (!(m31 (m30 a0 a1) (m28 a0 a1))) = true
    · try simp only [if_pos h1]
      exact callP_ok (ps := []) (os := []) (rs := [(.one (.val (.bool false)))]) (by kernel_rfl) (.r 9 [] [] f0 (.f (nt h0) (.h 16 (.b false) (.r 22 [] [] f2 (.f f3 (.f f4 (.f f5 (.r 24 [] [(List.map b_si a1)] f6 (.f f7 (.f f8 (.r 32 [] [] f9 (.f f10 (.f f11 (.f f12 (.r 40 [] [(List.map b_si a1)] f13 (.f f14 (.f f15 (.f f16 (.f f17 (.f f18 (.f f19 (.f f20 (.f f21 (.r 50 [] [(List.map b_si ((m30 a0 a1).f1)), (List.map b_si ((m28 a0 a1).f1))] f22 (.f h1 (.h 53 (.b true) .nil))))))))))))))))))))))))))
    · try simp only [if_neg h1]
      have f24 : Ev F X (.call 29 [(.one (.bor (l1_0 + 1) (List.map b_si a1)))] [] [] [(.one (.own 2 (List.map d_si a1)))]) := (g29 (a0 := a1) (by first | with_reducible assumption | omega | assumption | (simp only [List.length_map]; omega) | (simp [ol33, ol34_0]; omega)))
      have f25 : 0 + (List.length (List.map d_si a1)) ≤ (List.length (List.map d_si a1)) := (by omega)
      have f26 : fullR (List.take (List.length (List.map d_si a1)) (List.drop 0 (List.map d_si a1))) = true := (ft_si _ _ _)
      have f27 : toBR (List.take (List.length (List.map d_si a1)) (List.drop 0 (List.map d_si a1))) = (List.map b_si a1) := (tb_si _)
      have f28 : 0 + (List.length (List.map d_si a1)) ≤ (List.length (List.map d_si a1)) := (by omega)
      have f29 : fullR (List.take (List.length (List.map d_si a1)) (List.drop 0 (List.map d_si a1))) = true := (ft_si _ _ _)
      have f30 : toBR (List.take (List.length (List.map d_si a1)) (List.drop 0 (List.map d_si a1))) = (List.map b_si a1) := (tb_si _)
      have f31 : Ev F X (.call 32 [(.one (.bor 0 (List.map b_si a1))), (.one (.bor 0 (List.map b_si a1)))] [] [] [(.one (.val (.bool (m32 a1 a1))))]) := (e32 (a0 := a1) (a1 := a1) (by first | with_reducible assumption | omega | assumption | (simp only [List.length_map]; omega) | (simp [ol33, ol34_0]; omega)) (by first | with_reducible assumption | omega | assumption | (simp only [List.length_map]; omega) | (simp [ol33, ol34_0]; omega)))
      by_cases h2 : (!(m32 a1 a1)) = true
      · try simp only [if_pos h2]
        exact callP_ok (ps := []) (os := []) (rs := [(.one (.val (.bool false)))]) (by kernel_rfl) (.r 9 [] [] f0 (.f (nt h0) (.h 16 (.b false) (.r 22 [] [] f2 (.f f3 (.f f4 (.f f5 (.r 24 [] [(List.map b_si a1)] f6 (.f f7 (.f f8 (.r 32 [] [] f9 (.f f10 (.f f11 (.f f12 (.r 40 [] [(List.map b_si a1)] f13 (.f f14 (.f f15 (.f f16 (.f f17 (.f f18 (.f f19 (.f f20 (.f f21 (.r 50 [] [(List.map b_si ((m30 a0 a1).f1)), (List.map b_si ((m28 a0 a1).f1))] f22 (.f (nt h1) (.h 53 (.b false) (.r 59 [] [] f24 (.f f25 (.f f26 (.f f27 (.f f28 (.f f29 (.f f30 (.r 61 [] [(List.map b_si a1), (List.map b_si a1)] f31 (.f h2 (.h 64 (.b true) .nil))))))))))))))))))))))))))))))))))))
      · try simp only [if_neg h2]
        have f33 : pureR (List.map d_si a1) = true := (pureR_si _)
        have f34 : Ev F X (.call 33 [(.one (.ref ⟨(0, 0, 0), [], 0, (List.length (List.map d_si a1))⟩)), (.one (.val (.int .i64 1)))] [((0, 0, 0), ⟨2, (List.map d_si a1), []⟩)] [(List.map d_si (o33_0 a1 1))] [(.one (.val (.int .i64 (m33 a1 1))))]) := (e33 (a0 := a1) (a1 := 1) (by first | with_reducible assumption | omega | assumption | (simp only [List.length_map]; omega) | (simp [ol33, ol34_0]; omega)))
        by_cases h3 : (decide ((m33 a1 1) < 0)) = true
        · try simp only [if_pos h3]
          exact callP_ok (ps := []) (os := []) (rs := [(.one (.val (.bool false)))]) (by kernel_rfl) (.r 9 [] [] f0 (.f (nt h0) (.h 16 (.b false) (.r 22 [] [] f2 (.f f3 (.f f4 (.f f5 (.r 24 [] [(List.map b_si a1)] f6 (.f f7 (.f f8 (.r 32 [] [] f9 (.f f10 (.f f11 (.f f12 (.r 40 [] [(List.map b_si a1)] f13 (.f f14 (.f f15 (.f f16 (.f f17 (.f f18 (.f f19 (.f f20 (.f f21 (.r 50 [] [(List.map b_si ((m30 a0 a1).f1)), (List.map b_si ((m28 a0 a1).f1))] f22 (.f (nt h1) (.h 53 (.b false) (.r 59 [] [] f24 (.f f25 (.f f26 (.f f27 (.f f28 (.f f29 (.f f30 (.r 61 [] [(List.map b_si a1), (List.map b_si a1)] f31 (.f (nt h2) (.f f33 (.h 64 (.b false) (.r 72 [true] [] f34 (.f h3 (.f h3 (.f h3 (.f h3 (.f h3 (.h 81 (.b true) (.h 83 (.b true) (.h 85 (.b true) (.h 87 (.b true) (.h 90 (.b true) .nil))))))))))))))))))))))))))))))))))))))))))))))))
        · try simp only [if_neg h3]
          have f38 : 0 + (List.length (List.map d_si ((m30 a0 a1).f1))) ≤ (List.length (List.map d_si ((m30 a0 a1).f1))) := (by omega)
          have f39 : fullR (List.take (List.length (List.map d_si ((m30 a0 a1).f1))) (List.drop 0 (List.map d_si ((m30 a0 a1).f1)))) = true := (ft_si _ _ _)
          have f40 : toBR (List.take (List.length (List.map d_si ((m30 a0 a1).f1))) (List.drop 0 (List.map d_si ((m30 a0 a1).f1)))) = (List.map b_si ((m30 a0 a1).f1)) := (tb_si _)
          have f41 : 0 + (List.length (List.map d_si ((m28 a0 a1).f1))) ≤ (List.length (List.map d_si ((m28 a0 a1).f1))) := (by omega)
          have f42 : fullR (List.take (List.length (List.map d_si ((m28 a0 a1).f1))) (List.drop 0 (List.map d_si ((m28 a0 a1).f1)))) = true := (ft_si _ _ _)
          have f43 : toBR (List.take (List.length (List.map d_si ((m28 a0 a1).f1))) (List.drop 0 (List.map d_si ((m28 a0 a1).f1)))) = (List.map b_si ((m28 a0 a1).f1)) := (tb_si _)
          have f44 : Ev F X (.call 31 [(.agg [(.val (.int .i64 ((m30 a0 a1).f0))), (.bor 0 (List.map b_si ((m30 a0 a1).f1)))]), (.agg [(.val (.int .i64 ((m28 a0 a1).f0))), (.bor 0 (List.map b_si ((m28 a0 a1).f1)))])] [] [] [(.one (.val (.bool (m31 (m30 a0 a1) (m28 a0 a1)))))]) := (e31 (a0 := (m30 a0 a1)) (a1 := (m28 a0 a1)) (by first | with_reducible assumption | omega | (have q := okm30 a0 a1; exact q) | (unfold m30; (repeat' split) <;> simp_all <;> omega) | assumption | (simp only [List.length_map]; omega) | (simp [ol33, ol34_0]; omega)) (by first | with_reducible assumption | omega | (have q := okm28 a0 a1; exact q) | (unfold m28; (repeat' split) <;> simp_all <;> omega) | assumption | (simp only [List.length_map]; omega) | (simp [ol33, ol34_0]; omega)))
          have f48 : pureR (List.map d_si ((m30 a0 a1).f1)) = true := (pureR_si _)
          have f49 : Ev F X (.call 34 [(.agg [(.val (.int .i64 ((m30 a0 a1).f0))), (.ref ⟨(0, 0, 0), [], 0, (List.length (List.map d_si ((m30 a0 a1).f1)))⟩)]), (.one (.val (.int .i64 1)))] [((0, 0, 0), ⟨2, (List.map d_si ((m30 a0 a1).f1)), []⟩)] [(List.map d_si (o34_0 (m30 a0 a1) 1))] [(.one (.val (.int .i64 (m34 (m30 a0 a1) 1))))]) := (e34 (a0 := (m30 a0 a1)) (a1 := 1) (by first | with_reducible assumption | omega | (have q := okm30 a0 a1; exact q) | (unfold m30; (repeat' split) <;> simp_all <;> omega) | assumption | (simp only [List.length_map]; omega) | (simp [ol33, ol34_0]; omega)))
          have f50 : 0 + (List.length (List.map d_si (o34_0 (m30 a0 a1) 1))) ≤ (List.length (List.map d_si (o34_0 (m30 a0 a1) 1))) := (by omega)
          have f51 : fullR (List.take (List.length (List.map d_si (o34_0 (m30 a0 a1) 1))) (List.drop 0 (List.map d_si (o34_0 (m30 a0 a1) 1)))) = true := (ft_si _ _ _)
          have f52 : toBR (List.take (List.length (List.map d_si (o34_0 (m30 a0 a1) 1))) (List.drop 0 (List.map d_si (o34_0 (m30 a0 a1) 1)))) = (List.map b_si (o34_0 (m30 a0 a1) 1)) := (tb_si _)
          have f53 : Ev F X (.call 35 [(.agg [(.val (.int .i64 ((m30 a0 a1).f0))), (.bor 0 (List.map b_si (o34_0 (m30 a0 a1) 1)))]), (.one (.val (.int .i64 1)))] [] [] [(.one (.val (.int .i64 (m35 (K_iLsiE.mk ((m30 a0 a1).f0) (o34_0 (m30 a0 a1) 1)) 1))))]) := (e35 (a0 := (K_iLsiE.mk ((m30 a0 a1).f0) (o34_0 (m30 a0 a1) 1))) (a1 := 1) (by first | with_reducible assumption | omega | (have q := okm30 a0 a1; exact q) | (have q := okm30 a0 a1; rw [ol34_0]; exact q) | (unfold m30; (repeat' split) <;> simp_all <;> omega) | assumption | (simp only [List.length_map]; omega) | (simp [ol33, ol34_0]; omega)))
          by_cases h4 : (decide ((m35 (K_iLsiE.mk ((m30 a0 a1).f0) (o34_0 (m30 a0 a1) 1)) 1) < 0)) = true
          · try simp only [if_pos h4]
            exact callP_ok (ps := []) (os := []) (rs := [(.one (.val (.bool false)))]) (by kernel_rfl) (.r 9 [] [] f0 (.f (nt h0) (.h 16 (.b false) (.r 22 [] [] f2 (.f f3 (.f f4 (.f f5 (.r 24 [] [(List.map b_si a1)] f6 (.f f7 (.f f8 (.r 32 [] [] f9 (.f f10 (.f f11 (.f f12 (.r 40 [] [(List.map b_si a1)] f13 (.f f14 (.f f15 (.f f16 (.f f17 (.f f18 (.f f19 (.f f20 (.f f21 (.r 50 [] [(List.map b_si ((m30 a0 a1).f1)), (List.map b_si ((m28 a0 a1).f1))] f22 (.f (nt h1) (.h 53 (.b false) (.r 59 [] [] f24 (.f f25 (.f f26 (.f f27 (.f f28 (.f f29 (.f f30 (.r 61 [] [(List.map b_si a1), (List.map b_si a1)] f31 (.f (nt h2) (.f f33 (.h 64 (.b false) (.r 72 [true] [] f34 (.f (nt h3) (.f (nt h3) (.f (nt h3) (.f f38 (.f f39 (.f f40 (.f f41 (.f f42 (.f f43 (.h 81 (.b false) (.h 83 (.b false) (.h 85 (.b false) (.r 86 [] [(List.map b_si ((m30 a0 a1).f1)), (List.map b_si ((m28 a0 a1).f1))] f44 (.f (nt h3) (.f (nt h3) (.f (nt h1) (.f f48 (.h 87 (.b false) (.h 90 (.b false) (.h 91 (.b false) (.r 99 [true] [] f49 (.f f50 (.f f51 (.f f52 (.r 109 [] [(List.map b_si (o34_0 (m30 a0 a1) 1))] f53 (.f h4 (.h 116 (.b true) .nil)))))))))))))))))))))))))))))))))))))))))))))))))))))))))))))))))
          · try simp only [if_neg h4]
            by_cases h5 : ((m35 (K_iLsiE.mk ((m30 a0 a1).f0) (o34_0 (m30 a0 a1) 1)) 1) != (m34 (m30 a0 a1) 1)) = true
            · try simp only [if_pos h5]
              exact callP_ok (ps := []) (os := []) (rs := [(.one (.val (.bool false)))]) (by kernel_rfl) (.r 9 [] [] f0 (.f (nt h0) (.h 16 (.b false) (.r 22 [] [] f2 (.f f3 (.f f4 (.f f5 (.r 24 [] [(List.map b_si a1)] f6 (.f f7 (.f f8 (.r 32 [] [] f9 (.f f10 (.f f11 (.f f12 (.r 40 [] [(List.map b_si a1)] f13 (.f f14 (.f f15 (.f f16 (.f f17 (.f f18 (.f f19 (.f f20 (.f f21 (.r 50 [] [(List.map b_si ((m30 a0 a1).f1)), (List.map b_si ((m28 a0 a1).f1))] f22 (.f (nt h1) (.h 53 (.b false) (.r 59 [] [] f24 (.f f25 (.f f26 (.f f27 (.f f28 (.f f29 (.f f30 (.r 61 [] [(List.map b_si a1), (List.map b_si a1)] f31 (.f (nt h2) (.f f33 (.h 64 (.b false) (.r 72 [true] [] f34 (.f (nt h3) (.f (nt h3) (.f (nt h3) (.f f38 (.f f39 (.f f40 (.f f41 (.f f42 (.f f43 (.h 81 (.b false) (.h 83 (.b false) (.h 85 (.b false) (.r 86 [] [(List.map b_si ((m30 a0 a1).f1)), (List.map b_si ((m28 a0 a1).f1))] f44 (.f (nt h3) (.f (nt h3) (.f (nt h1) (.f f48 (.h 87 (.b false) (.h 90 (.b false) (.h 91 (.b false) (.r 99 [true] [] f49 (.f f50 (.f f51 (.f f52 (.r 109 [] [(List.map b_si (o34_0 (m30 a0 a1) 1))] f53 (.f (nt h4) (.f h5 (.h 116 (.b false) (.h 123 (.b true) .nil)))))))))))))))))))))))))))))))))))))))))))))))))))))))))))))))))))
            · try simp only [if_neg h5]
              have f56 : Ev F X (.call 29 [(.one (.bor (l1_0 + 1) (List.map b_si a1)))] [] [] [(.one (.own 2 (List.map d_si a1)))]) := (g29 (a0 := a1) (by first | with_reducible assumption | omega | assumption | (simp only [List.length_map]; omega) | (simp [ol33, ol34_0]; omega)))
              have f57 : 0 + (List.length (List.map d_si a1)) ≤ (List.length (List.map d_si a1)) := (by omega)
              have f58 : fullR (List.take (List.length (List.map d_si a1)) (List.drop 0 (List.map d_si a1))) = true := (ft_si _ _ _)
              have f59 : toBR (List.take (List.length (List.map d_si a1)) (List.drop 0 (List.map d_si a1))) = (List.map b_si a1) := (tb_si _)
              have f60 : Ev F X (.call 30 [(.one (.val (.int .i64 a0))), (.one (.bor 0 (List.map b_si a1)))] [] [] [(.agg [(.val (.int .i64 ((m30 a0 a1).f0))), (.own 2 (List.map d_si ((m30 a0 a1).f1)))])]) := (e30 (a0 := a0) (a1 := a1) (by first | with_reducible assumption | omega | assumption | (simp only [List.length_map]; omega) | (simp [ol33, ol34_0]; omega)))
              have f61 : 0 = 0 := rfl
              have f62 : (List.length (List.map d_si ((m30 a0 a1).f1))) = (List.length (List.map d_si ((m30 a0 a1).f1))) := rfl
              have f63 : 0 + (List.length (List.map d_si ((m30 a0 a1).f1))) ≤ (List.length (List.map d_si ((m30 a0 a1).f1))) := (by omega)
              have f64 : fullR (List.take (List.length (List.map d_si ((m30 a0 a1).f1))) (List.drop 0 (List.map d_si ((m30 a0 a1).f1)))) = true := (ft_si _ _ _)
              have f65 : toBR (List.take (List.length (List.map d_si ((m30 a0 a1).f1))) (List.drop 0 (List.map d_si ((m30 a0 a1).f1)))) = (List.map b_si ((m30 a0 a1).f1)) := (tb_si _)
              have f66 : 0 + (List.length (List.map d_si ((m28 a0 a1).f1))) ≤ (List.length (List.map d_si ((m28 a0 a1).f1))) := (by omega)
              have f67 : fullR (List.take (List.length (List.map d_si ((m28 a0 a1).f1))) (List.drop 0 (List.map d_si ((m28 a0 a1).f1)))) = true := (ft_si _ _ _)
              have f68 : toBR (List.take (List.length (List.map d_si ((m28 a0 a1).f1))) (List.drop 0 (List.map d_si ((m28 a0 a1).f1)))) = (List.map b_si ((m28 a0 a1).f1)) := (tb_si _)
              have f69 : Ev F X (.call 31 [(.agg [(.val (.int .i64 ((m30 a0 a1).f0))), (.bor 0 (List.map b_si ((m30 a0 a1).f1)))]), (.agg [(.val (.int .i64 ((m28 a0 a1).f0))), (.bor 0 (List.map b_si ((m28 a0 a1).f1)))])] [] [] [(.one (.val (.bool (m31 (m30 a0 a1) (m28 a0 a1)))))]) := (e31 (a0 := (m30 a0 a1)) (a1 := (m28 a0 a1)) (by first | with_reducible assumption | omega | (have q := okm30 a0 a1; exact q) | (unfold m30; (repeat' split) <;> simp_all <;> omega) | assumption | (simp only [List.length_map]; omega) | (simp [ol33, ol34_0]; omega)) (by first | with_reducible assumption | omega | (have q := okm28 a0 a1; exact q) | (unfold m28; (repeat' split) <;> simp_all <;> omega) | assumption | (simp only [List.length_map]; omega) | (simp [ol33, ol34_0]; omega)))
              have f71 : 0 + (List.length (List.map d_si (o34_0 (m30 a0 a1) 1))) ≤ (List.length (List.map d_si (o34_0 (m30 a0 a1) 1))) := (by omega)
              have f72 : fullR (List.take (List.length (List.map d_si (o34_0 (m30 a0 a1) 1))) (List.drop 0 (List.map d_si (o34_0 (m30 a0 a1) 1)))) = true := (ft_si _ _ _)
              have f73 : toBR (List.take (List.length (List.map d_si (o34_0 (m30 a0 a1) 1))) (List.drop 0 (List.map d_si (o34_0 (m30 a0 a1) 1)))) = (List.map b_si (o34_0 (m30 a0 a1) 1)) := (tb_si _)
              have f74 : Ev F X (.call 35 [(.agg [(.val (.int .i64 ((m30 a0 a1).f0))), (.bor 0 (List.map b_si (o34_0 (m30 a0 a1) 1)))]), (.one (.val (.int .i64 1)))] [] [] [(.one (.val (.int .i64 (m35 (K_iLsiE.mk ((m30 a0 a1).f0) (o34_0 (m30 a0 a1) 1)) 1))))]) := (e35 (a0 := (K_iLsiE.mk ((m30 a0 a1).f0) (o34_0 (m30 a0 a1) 1))) (a1 := 1) (by first | with_reducible assumption | omega | (have q := okm30 a0 a1; exact q) | (have q := okm30 a0 a1; rw [ol34_0]; exact q) | (unfold m30; (repeat' split) <;> simp_all <;> omega) | assumption | (simp only [List.length_map]; omega) | (simp [ol33, ol34_0]; omega)))
              exact callP_ok (ps := []) (os := []) (rs := [(.one (.val (.bool true)))]) (by kernel_rfl) (.r 9 [] [] f0 (.f (nt h0) (.h 16 (.b false) (.r 22 [] [] f2 (.f f3 (.f f4 (.f f5 (.r 24 [] [(List.map b_si a1)] f6 (.f f7 (.f f8 (.r 32 [] [] f9 (.f f10 (.f f11 (.f f12 (.r 40 [] [(List.map b_si a1)] f13 (.f f14 (.f f15 (.f f16 (.f f17 (.f f18 (.f f19 (.f f20 (.f f21 (.r 50 [] [(List.map b_si ((m30 a0 a1).f1)), (List.map b_si ((m28 a0 a1).f1))] f22 (.f (nt h1) (.h 53 (.b false) (.r 59 [] [] f24 (.f f25 (.f f26 (.f f27 (.f f28 (.f f29 (.f f30 (.r 61 [] [(List.map b_si a1), (List.map b_si a1)] f31 (.f (nt h2) (.f f33 (.h 64 (.b false) (.r 72 [true] [] f34 (.f (nt h3) (.f (nt h3) (.f (nt h3) (.f f38 (.f f39 (.f f40 (.f f41 (.f f42 (.f f43 (.h 81 (.b false) (.h 83 (.b false) (.h 85 (.b false) (.r 86 [] [(List.map b_si ((m30 a0 a1).f1)), (List.map b_si ((m28 a0 a1).f1))] f44 (.f (nt h3) (.f (nt h3) (.f (nt h1) (.f f48 (.h 87 (.b false) (.h 90 (.b false) (.h 91 (.b false) (.r 99 [true] [] f49 (.f f50 (.f f51 (.f f52 (.r 109 [] [(List.map b_si (o34_0 (m30 a0 a1) 1))] f53 (.f (nt h4) (.f (nt h5) (.h 116 (.b false) (.h 123 (.b false) (.r 129 [] [] f56 (.f f57 (.f f58 (.f f59 (.r 131 [] [(List.map b_si a1)] f60 (.f f61 (.f f62 (.f f63 (.f f64 (.f f65 (.f f66 (.f f67 (.f f68 (.r 141 [] [(List.map b_si ((m30 a0 a1).f1)), (List.map b_si ((m28 a0 a1).f1))] f69 (.f (nt h1) (.f f71 (.f f72 (.f f73 (.h 144 (.b false) (.r 152 [] [(List.map b_si (o34_0 (m30 a0 a1) 1))] f74 (.f (nt h4) (.f (nt h5) (.h 159 (.b false) (.h 166 (.b false) .nil)))))))))))))))))))))))))))))))))))))))))))))))))))))))))))))))))))))))))))))))))))))))))))
/-! weights -/
def wt_i (x : Int) : Nat := 1
theorem wts_i : ∀ (l : List Int), (List.map wt_i l).sum = l.length * 1
  | [] => rfl
  | x :: l => by simp only [List.map_cons, List.sum_cons, wts_i l, List.length_cons, wt_i]; omega
def wt_si (x : K_si) : Nat := 2
theorem wts_si : ∀ (l : List K_si), (List.map wt_si l).sum = l.length * 2
  | [] => rfl
  | x :: l => by simp only [List.map_cons, List.sum_cons, wts_si l, List.length_cons, wt_si]; omega
def wt_LsiE (x : (List K_si)) : Nat := 0 + (List.map wt_si x).sum
def wt_b (x : Bool) : Nat := 1
theorem wts_b : ∀ (l : List Bool), (List.map wt_b l).sum = l.length * 1
  | [] => rfl
  | x :: l => by simp only [List.map_cons, List.sum_cons, wts_b l, List.length_cons, wt_b]; omega
def wt_iLsiE (x : K_iLsiE) : Nat := 1 + (List.map wt_si x.f1).sum
def wt_s (x : ByteArray) : Nat := 1
theorem wts_s : ∀ (l : List ByteArray), (List.map wt_s l).sum = l.length * 1
  | [] => rfl
  | x :: l => by simp only [List.map_cons, List.sum_cons, wts_s l, List.length_cons, wt_s]; omega
def wt_LiE (x : (List Int)) : Nat := 0 + (List.map wt_i x).sum
def wt_y (x : Int) : Nat := 1
theorem wts_y : ∀ (l : List Int), (List.map wt_y l).sum = l.length * 1
  | [] => rfl
  | x :: l => by simp only [List.map_cons, List.sum_cons, wts_y l, List.length_cons, wt_y]; omega
/-! marks of loop.example/g00539/laws.markWeightS -/
theorem mr33_0 (a0 : List K_si) : ∀ (l p : List K_si) (v1_33_0 : Int), 0 ≤ v1_33_0 → v1_33_0 + ((List.map wt_si l).sum : Nat) ≤ 4611686018427387904 → ∃ (q : List K_si) (k' : Int) (w2 : _) (w3 : _), r33_0 a0 l (p.length : Int) (p ++ l) v1_33_0 = .k0 (p ++ q) k' w2 w3 ∧ q.length = l.length ∧ v1_33_0 ≤ k' ∧ k' ≤ v1_33_0 + ((List.map wt_si l).sum : Nat) ∧ ∀ (c : List K_si) (j : Int), ∃ u1 u2, r83_0 c q j v1_33_0 = .k0 k' u1 u2
  | [], p, v1_33_0, h0, h1 => ⟨[], v1_33_0, (p.length : Int), (decide ((p.length : Int) < ((List.length (List.map d_si a0)) : Int))), rfl, rfl, by omega, by simp, fun c j => ⟨j, (decide (j < ((List.length (List.map b_si c)) : Int))), rfl⟩⟩
  | x0_33_0 :: l, p, v1_33_0, h0, h1 => by
    simp only [List.map_cons, List.sum_cons, wt_si] at h1 ⊢
    obtain ⟨q, k', w2, w3, e1, e2, e3, e4, e5⟩ := mr33_0 a0 l (p ++ [(K_si.mk (m82 v1_33_0) (v1_33_0 + 1))]) ((v1_33_0 + 1) + 1) (by omega) (by omega)
    refine ⟨(K_si.mk (m82 v1_33_0) (v1_33_0 + 1)) :: q, k', w2, w3, ?_, by simp [e2], by omega, by omega, ?_⟩
    · have e : List.set (p ++ x0_33_0 :: l) (Int.toNat (p.length : Int)) (K_si.mk (m82 v1_33_0) (v1_33_0 + 1)) = (p ++ [(K_si.mk (m82 v1_33_0) (v1_33_0 + 1))]) ++ l := by simp
      have e0 : ((p ++ [(K_si.mk (m82 v1_33_0) (v1_33_0 + 1))]).length : Int) = (p.length : Int) + 1 := by simp
      rw [e0] at e1
      simp (disch := omega) only [r33_0, wrap64d]
      first | (rw [e, e1]; simp; done) | (simp only [e, e1]; simp; done)
    · intro c j
      obtain ⟨u1, u2, g⟩ := e5 c (j + 1)
      refine ⟨u1, u2, ?_⟩
      simp (disch := omega) only [r83_0, wrap64d]
      first | (simpa using g) | (simp_all; done)
theorem mh33 (a : List K_si) (k : Int) (h0 : 0 ≤ k) (h1 : k + ((List.map wt_si a).sum : Nat) ≤ 4611686018427387904) : m83 (o33_0 a k) k = m33 a k ∧ k ≤ m33 a k ∧ m33 a k ≤ k + ((List.map wt_si a).sum : Nat) := by
  obtain ⟨q, k', w2, w3, e1, e2, e3, e4, e5⟩ := mr33_0 a a [] k h0 h1
  obtain ⟨u1, u2, g⟩ := e5 q 0
  simp only [List.nil_append, List.length_nil] at e1
  rw [show ((0 : Nat) : Int) = 0 from rfl] at e1
  unfold m33 o33_0 m83
  rw [e1]; simp only []; rw [g]; exact ⟨rfl, e3, e4⟩
/-! marks of loop.example/g00539/laws.markWeightsResult -/
theorem mh34 (a : K_iLsiE) (k : Int) (h0 : 0 ≤ k) (h1 : k + (wt_iLsiE a : Nat) ≤ 4611686018427387904) : m35 (K_iLsiE.mk a.f0 (o34_0 a k)) k = m34 a k ∧ k ≤ m34 a k ∧ m34 a k ≤ k + (wt_iLsiE a : Nat) := by
  simp only [wt_iLsiE] at h1 ⊢
  have s0 := mh33 a.f1 k (by omega) (by first | omega | (simp only [wt_i, wt_si, wt_LsiE, wt_b, wt_iLsiE, wt_s, wt_LiE, wt_y] at *; omega) | (simp only [List.length_map, List.length_nil, List.map_nil, List.sum_nil] at *; omega))
  have t0 := s0.1
  try simp only [List.length_map, wt_i, wt_si, wt_LsiE, wt_b, wt_iLsiE, wt_s, wt_LiE, wt_y] at *
  unfold m35 m34 o34_0
  simp (disch := omega) only [wrap64d, t0]
  refine ⟨?_, by omega, by omega⟩
  (repeat' rw [if_neg (by first | (simp; done) | (simp only [decide_eq_true_eq]; omega))]) <;> rfl
theorem X_ok (f : FuncId) (args : List SV) (rs : List Ret) (h : X f args rs) : CallOK Tryd.prog f args [] [] rs := by
  rcases h with ⟨rfl, h⟩
  · obtain ⟨s, c, h1, h2, h3, rfl, rfl⟩ := h
    exact trim_ok s c h1 h2 h3
end Go.Proofs.YtdnopbpdiineiaaDoor.SplitAmount
