/- What the functions compute. -/
import Derived.Test.YtfmkbpiobddhdaaDoorESplitsA
import Derived.KernelRfl
namespace Go.Proofs.YtfmkbpiobddhdaaDoor.Splits
open Go Go.Proofs.YtfmkbpiobddhdaaDoor.V
set_option linter.unusedVariables false
set_option linter.unusedSimpArgs false
set_option maxRecDepth 20000
open List (length_replicate length_map length_set length_append length_cons length_nil length_take length_drop take_of_length_le map_take map_drop map_set append_assoc getElem?_map map length take drop getD set)
attribute [local simp] strInts_len byteRows_len toBR_y fullR_y pureR_y lenB_y lenD_y fromBR_y copy_y toBR_LyE fullR_LyE pureR_LyE lenB_LyE lenD_LyE toBR_b fullR_b pureR_b lenB_b lenD_b fromBR_b copy_b toBR_si fullR_si pureR_si lenB_si lenD_si fromBR_si copy_si toBR_LsiE fullR_LsiE pureR_LsiE lenB_LsiE lenD_LsiE toBR_iLsiE fullR_iLsiE pureR_iLsiE lenB_iLsiE lenD_iLsiE toBR_i fullR_i pureR_i lenB_i lenD_i fromBR_i copy_i toBR_s fullR_s pureR_s lenB_s lenD_s fromBR_s copy_s toBR_LyEi fullR_LyEi pureR_LyEi lenB_LyEi lenD_LyEi toBR_LiE fullR_LiE pureR_LiE lenB_LiE lenD_LiE
/-! loop 101_0 -/
inductive O101_0 where
  | k0 (w0 : List K_si) (w1 : List Int) (w2 : Int) (w3 : Int) (w4 : Bool)
def r101_0 (a0 : Int) (a1 : (List K_si)) : List K_si → Int → List K_si → List Int → Int → O101_0
  | x0 :: y0, i, v0, v1, v4 =>
    (r101_0 a0 a1 y0 (i + 1) (set v0 (Int.toNat i) (K_si.mk x0.f0 (IntKind.wrap .i64 (Int.tdiv (IntKind.wrap .i64 (a0 * x0.f1)) (m75 a1))))) (v1 ++ ([(Int.tmod (IntKind.wrap .i64 (a0 * x0.f1)) (m75 a1))])) (IntKind.wrap .i64 (v4 - (IntKind.wrap .i64 (Int.tdiv (IntKind.wrap .i64 (a0 * x0.f1)) (m75 a1))))))
  | [], i, v0, v1, v4 => (O101_0.k0 v0 v1 v4 i (decide (i < ((length (map d_si (m112 a1))) : Int))))
def h101_0 (l1_0 : Nat) (a0 : Int) (a1 : (List K_si)) (i : Int) (v0 : List K_si) (v1 : List Int) (v4 : Int) : St := ⟨[(0, (.one (.val (.int .i64 a0)))), (5, (.one (.ref ⟨(5, 0, 0), [], 0, (length (map d_si (m112 a1)))⟩))), (6, (.one (.val (.int .i64 (m75 a1))))), (7, (.one (.ref ⟨(7, 0, 0), [], 0, (length (map d_i v1))⟩))), (8, (.one (.val (.int .i64 v4)))), (19, (.one (.ref ⟨(5, 0, 0), [], 0, (length (map d_si (m112 a1)))⟩))), (20, (.one (.val (.int .i64 ((length (map d_si (m112 a1))) : Int))))), (21, (.one (.val (.int .i64 i))))], [((5, 0, 0), .live ⟨2, (map d_si v0), []⟩), ((7, 0, 0), .live ⟨1, (map d_i v1), []⟩)]⟩
def ex101_0 : O101_0 → VX.Exit
  | .k0 _ _ _ _ _ => (.exit 0)
def fin101_0 (l1_0 : Nat) (a0 : Int) (a1 : (List K_si)) : O101_0 → St
  | .k0 w0 w1 w2 w3 w4 => ⟨[(0, (.one (.val (.int .i64 a0)))), (5, (.one (.ref ⟨(5, 0, 0), [], 0, (length (map d_si (m112 a1)))⟩))), (6, (.one (.val (.int .i64 (m75 a1))))), (7, (.one (.ref ⟨(7, 0, 0), [], 0, (length (map d_i w1))⟩))), (8, (.one (.val (.int .i64 w2)))), (19, (.one (.ref ⟨(5, 0, 0), [], 0, (length (map d_si (m112 a1)))⟩))), (20, (.one (.val (.int .i64 ((length (map d_si (m112 a1))) : Int))))), (21, (.one (.val (.int .i64 w3)))), (22, (.one (.val (.bool w4))))], [((5, 0, 0), .live ⟨2, (map d_si w0), []⟩), ((7, 0, 0), .live ⟨1, (map d_i w1), []⟩)]⟩
theorem t101_0 {l1_0 : Nat} {a0 : Int} {a1 : (List K_si)} (hy0 : 0 ≤ a0) (hy1 : a0 ≤ 1000000) (hy2 : 0 < length a1) (hy3 : length a1 ≤ 12) (hy4 : ∀ z ∈ a1, 1 ≤ z.f1 ∧ z.f1 ≤ 9999) : ∀ (y0 : List K_si) (p : List K_si) (v0 : List K_si) (v1 : List Int) (v4 : Int), p ++ y0 = m112 a1 → length v0 = (length (map d_si (m112 a1))) → (length v1 + length y0) * 8 ≤ 70368744177664 → drop (length p) v0 = y0 → Ev F X (.code l101_0 (h101_0 l1_0 a0 a1 (length p : Int) v0 v1 v4) (ex101_0 (r101_0 a0 a1 y0 (length p : Int) v0 v1 v4)) (fin101_0 l1_0 a0 a1 (r101_0 a0 a1 y0 (length p : Int) v0 v1 v4)))
  | [], p, v0, v1, v4, hp0, hi0, hi1, hi2 => by
    have hc : ¬ (decide ((length p : Int) < ((length (map d_si (m112 a1))) : Int))) = true := by
      rw [← hp0]; simp only [length_map, length_set, length_append, length_replicate, length_cons, length_nil, decide_eq_true_eq]; omega
    have hj0 := hi0; try simp only [length_map, length_set, length_append, length_replicate, length_cons, length_nil, Int.toNat_natCast] at hj0
    have hj1 := hi1; try simp only [length_map, length_set, length_append, length_replicate, length_cons, length_nil, Int.toNat_natCast] at hj1
    have hj2 := hi2; try simp only [length_map, length_set, length_append, length_replicate, length_cons, length_nil, Int.toNat_natCast] at hj2
    have st := codeH_ok (F := F) (X := X) (c := b101_0) (t := 0) (hs := [(2, .b false)]) (σ := h101_0 l1_0 a0 a1 (length p : Int) v0 v1 v4) (σ' := fin101_0 l1_0 a0 a1 (.k0 v0 v1 v4 (length p : Int) (decide ((length p : Int) < ((length (map d_si (m112 a1))) : Int))))) (e := (.exit 0)) (t' := 3) (hs' := []) (q := [(decide ((length p : Int) < ((length (map d_si (m112 a1))) : Int))) = false]) (by kernel_rfl) ⟨(nt hc), trivial⟩
    exact .loopX st (show ((.exit 0) : VX.Exit) ≠ .normal from by simp)
  | x0 :: y0, p, v0, v1, v4, hp0, hi0, hi1, hi2 => by
    have hc : (decide ((length p : Int) < ((length (map d_si (m112 a1))) : Int))) = true := by
      rw [← hp0]; simp only [length_map, length_set, length_append, length_replicate, length_cons, length_nil, decide_eq_true_eq]; omega
    have Hx0 : (m112 a1)[Int.toNat (length p : Int)]? = some x0 := by
      rw [← hp0, Int.toNat_natCast]; simp
    have hlen : length (m112 a1) = length p + length y0 + 1 := by rw [← hp0]; simp; omega
    have hw : IntKind.wrap .i64 ((length p : Int) + 1) = (length p : Int) + 1 := wrap64 (by have hz : length (m112 a1) * 24 ≤ 140737488351232 := (by first | with_reducible assumption | omega | (have q := mlen_112 a1; simp only [length_map, length_nil, Nat.zero_add] at *; omega) | (have q := mlen_112 a1; omega) | (have q := (tot_75 a1 (fun z hz => by have := (by assumption : ∀ z ∈ a1, 1 ≤ z.f1 ∧ z.f1 ≤ 9999) z hz; omega) (by omega)).1; omega) | (simp only [decide_eq_true_eq, length_map] at *; omega) | (have q := im v1 (by simp only [length_map] at *; omega) (by simp only [length_map] at *; omega); simp only [length_map] at *; omega) | (unfold m112; (repeat' split) <;> simp_all <;> omega) | assumption | (simp only [length_map]; omega) | (simp; omega)); omega)
    have hj0 := hi0; try simp only [length_map, length_set, length_append, length_replicate, length_cons, length_nil, Int.toNat_natCast] at hj0
    have hj1 := hi1; try simp only [length_map, length_set, length_append, length_replicate, length_cons, length_nil, Int.toNat_natCast] at hj1
    have hj2 := hi2; try simp only [length_map, length_set, length_append, length_replicate, length_cons, length_nil, Int.toNat_natCast] at hj2
    have Hv0 : v0[Int.toNat (length p : Int)]? = some x0 := by rw [Int.toNat_natCast]; exact drop_at hi2
    simp only [r101_0]
    have st := codeH_ok (F := F) (X := X) (c := b101_0) (t := 0) (hs := [(2, .b true), (8, .rowD [(.val (.string x0.f0)), (.i x0.f1)]), (40, .rowD [(.val (.string x0.f0)), (.i x0.f1)]), (41, .norm (5, 0, 0) (map d_si (set v0 (Int.toNat (length p : Int)) (K_si.mk x0.f0 (IntKind.wrap .i64 (Int.tdiv (IntKind.wrap .i64 (a0 * x0.f1)) (m75 a1))))))), (53, .b true), (56, .norm (7, 0, 0) (map d_i (v1 ++ ([(Int.tmod (IntKind.wrap .i64 (a0 * x0.f1)) (m75 a1))]))))]) (σ := h101_0 l1_0 a0 a1 (length p : Int) v0 v1 v4) (σ' := ⟨[(0, (.oi a0)), (5, (.one (.ref ⟨(5, 0, 0), [], 0, (length (map d_si (m112 a1)))⟩))), (6, (.oi (m75 a1))), (7, (.one (.ref ⟨(7, 0, 0), [], 0, (length ((take (length (map d_i v1)) (drop 0 (map d_i v1))) ++ ([[(.i (Int.tmod (IntKind.wrap .i64 (a0 * x0.f1)) (m75 a1)))]] : List (List D))))⟩))), (8, (.oi (IntKind.wrap .i64 (v4 - (IntKind.wrap .i64 (Int.tdiv (IntKind.wrap .i64 (a0 * x0.f1)) (m75 a1))))))), (19, (.one (.ref ⟨(5, 0, 0), [], 0, (length (map d_si (m112 a1)))⟩))), (20, (.oi ((length (map d_si (m112 a1))) : Int))), (21, (.oi (IntKind.wrap .i64 ((length p : Int) + 1))))], [((5, 0, 0), .live ⟨2, (map d_si (set v0 (Int.toNat (length p : Int)) (K_si.mk x0.f0 (IntKind.wrap .i64 (Int.tdiv (IntKind.wrap .i64 (a0 * x0.f1)) (m75 a1)))))), []⟩), ((7, 0, 0), .live ⟨1, (map d_i (v1 ++ ([(Int.tmod (IntKind.wrap .i64 (a0 * x0.f1)) (m75 a1))]))), []⟩)]⟩) (e := .normal) (t' := 73) (hs' := []) (q := [(decide ((length p : Int) < ((length (map d_si (m112 a1))) : Int))) = true, 0 + (length (map d_si (m112 a1))) ≤ (length (map d_si v0)), 0 ≤ (length p : Int) ∧ (length p : Int) < ((length (map d_si (m112 a1))) : Int), (map d_si v0)[(0 + (Int.toNat (length p : Int)))]? = some [(.val (.string x0.f0)), (.i x0.f1)], (m75 a1) ≠ 0, 0 + (length (map d_si (m112 a1))) ≤ (length (map d_si v0)), 0 ≤ (length p : Int) ∧ (length p : Int) < ((length (map d_si (m112 a1))) : Int), (map d_si v0)[(0 + (Int.toNat (length p : Int)))]? = some [(.val (.string x0.f0)), (.i x0.f1)], (set (map d_si v0) (0 + (Int.toNat (length p : Int))) [(.val (.string x0.f0)), (.i (IntKind.wrap .i64 (Int.tdiv (IntKind.wrap .i64 (a0 * x0.f1)) (m75 a1))))]) = (map d_si (set v0 (Int.toNat (length p : Int)) (K_si.mk x0.f0 (IntKind.wrap .i64 (Int.tdiv (IntKind.wrap .i64 (a0 * x0.f1)) (m75 a1)))))), (m75 a1) ≠ 0, 0 + (length (map d_i v1)) ≤ (length (map d_i v1)), 1 ≤ 1, ((take 1 (drop 0 [[(.i (Int.tmod (IntKind.wrap .i64 (a0 * x0.f1)) (m75 a1)))]])).all fun x => x.all copyable) = true, (length ((take (length (map d_i v1)) (drop 0 (map d_i v1))) ++ ([[(.i (Int.tmod (IntKind.wrap .i64 (a0 * x0.f1)) (m75 a1)))]] : List (List D)))) * 8 ≤ 70368744177664, ∀ r ∈ ([[(.i (Int.tmod (IntKind.wrap .i64 (a0 * x0.f1)) (m75 a1)))]] : List (List D)), r.length = 1, ((take (length (map d_i v1)) (drop 0 (map d_i v1))) ++ ([[(.i (Int.tmod (IntKind.wrap .i64 (a0 * x0.f1)) (m75 a1)))]] : List (List D))) = (map d_i (v1 ++ ([(Int.tmod (IntKind.wrap .i64 (a0 * x0.f1)) (m75 a1))]))), (m75 a1) ≠ 0, True]) (by kernel_rfl) ⟨hc, (by have q := mlen_112 a1; simp only [length_map, length_nil, Nat.zero_add] at *; omega), (by omega), (by rw [Nat.zero_add, getElem?_map, Hv0]; rfl), (by have q := (tot_75 a1 (fun z hz => by have := (by assumption : ∀ z ∈ a1, 1 ≤ z.f1 ∧ z.f1 ≤ 9999) z hz; omega) (by omega)).1; omega), (by have q := mlen_112 a1; simp only [length_map, length_nil, Nat.zero_add] at *; omega), (by omega), (by rw [Nat.zero_add, getElem?_map, Hv0]; rfl), (by simp [byteRows_eq, ints_y, take_of_length_le, d_y, d_LyE, d_b, d_si, d_LsiE, d_iLsiE, d_i, d_s, d_LyEi, d_LiE, fromBR_y, fromBR_b, fromBR_si, fromBR_i, fromBR_s]; done), (by have q := (tot_75 a1 (fun z hz => by have := (by assumption : ∀ z ∈ a1, 1 ≤ z.f1 ∧ z.f1 ≤ 9999) z hz; omega) (by omega)).1; omega), (by omega), (by omega), (by trivial), (by unfold m75; (repeat' split) <;> simp_all <;> omega), (by unfold m75; (repeat' split) <;> simp_all <;> omega), (by simp [byteRows_eq, ints_y, take_of_length_le, d_y, d_LyE, d_b, d_si, d_LsiE, d_iLsiE, d_i, d_s, d_LyEi, d_LiE, fromBR_y, fromBR_b, fromBR_si, fromBR_i, fromBR_s]; done), (by have q := (tot_75 a1 (fun z hz => by have := (by assumption : ∀ z ∈ a1, 1 ≤ z.f1 ∧ z.f1 ≤ 9999) z hz; omega) (by omega)).1; omega), trivial, trivial⟩
    have ih := t101_0 (l1_0 := l1_0) (a0 := a0) (a1 := a1) hy0 hy1 hy2 hy3 hy4 y0 (p ++ [x0]) (set v0 (Int.toNat (length p : Int)) (K_si.mk x0.f0 (IntKind.wrap .i64 (Int.tdiv (IntKind.wrap .i64 (a0 * x0.f1)) (m75 a1))))) (v1 ++ ([(Int.tmod (IntKind.wrap .i64 (a0 * x0.f1)) (m75 a1))])) (IntKind.wrap .i64 (v4 - (IntKind.wrap .i64 (Int.tdiv (IntKind.wrap .i64 (a0 * x0.f1)) (m75 a1))))) (by rw [append_assoc]; exact hp0) (by simp only [length_map, length_set, length_append, length_replicate, length_cons, length_nil]; omega) (by simp only [length_map, length_set, length_append, length_replicate, length_cons, length_nil]; omega) (by simp only [length_map, length_set, length_append, length_replicate, length_cons, length_nil, Int.toNat_natCast]; first | exact drop_set_next hi2 _ | exact drop_next hi2)
    rw [show ((p ++ [x0]).length : Int) = (p.length : Int) + 1 from by simp] at ih
    rw [show (⟨[(0, (.oi a0)), (5, (.one (.ref ⟨(5, 0, 0), [], 0, (length (map d_si (m112 a1)))⟩))), (6, (.oi (m75 a1))), (7, (.one (.ref ⟨(7, 0, 0), [], 0, (length ((take (length (map d_i v1)) (drop 0 (map d_i v1))) ++ ([[(.i (Int.tmod (IntKind.wrap .i64 (a0 * x0.f1)) (m75 a1)))]] : List (List D))))⟩))), (8, (.oi (IntKind.wrap .i64 (v4 - (IntKind.wrap .i64 (Int.tdiv (IntKind.wrap .i64 (a0 * x0.f1)) (m75 a1))))))), (19, (.one (.ref ⟨(5, 0, 0), [], 0, (length (map d_si (m112 a1)))⟩))), (20, (.oi ((length (map d_si (m112 a1))) : Int))), (21, (.oi (IntKind.wrap .i64 ((length p : Int) + 1))))], [((5, 0, 0), .live ⟨2, (map d_si (set v0 (Int.toNat (length p : Int)) (K_si.mk x0.f0 (IntKind.wrap .i64 (Int.tdiv (IntKind.wrap .i64 (a0 * x0.f1)) (m75 a1)))))), []⟩), ((7, 0, 0), .live ⟨1, (map d_i (v1 ++ ([(Int.tmod (IntKind.wrap .i64 (a0 * x0.f1)) (m75 a1))]))), []⟩)]⟩ : St) = h101_0 l1_0 a0 a1 ((length p : Int) + 1) (set v0 (Int.toNat (length p : Int)) (K_si.mk x0.f0 (IntKind.wrap .i64 (Int.tdiv (IntKind.wrap .i64 (a0 * x0.f1)) (m75 a1))))) (v1 ++ ([(Int.tmod (IntKind.wrap .i64 (a0 * x0.f1)) (m75 a1))])) (IntKind.wrap .i64 (v4 - (IntKind.wrap .i64 (Int.tdiv (IntKind.wrap .i64 (a0 * x0.f1)) (m75 a1))))) from (by unfold h101_0; simp [hw, byteRows_eq, ints_y, take_of_length_le, d_y, d_LyE, d_b, d_si, d_LsiE, d_iLsiE, d_i, d_s, d_LyEi, d_LiE, fromBR_y, fromBR_b, fromBR_si, fromBR_i, fromBR_s]; done)] at st
    exact .loopN st ih
def post101_0 (n0 n1 : Nat) : O101_0 → Prop
  | .k0 w0 w1 _ _ _ => length w0 = n0 ∧ length w1 = n1
theorem z101_0 {a0 : Int} {a1 : (List K_si)} : ∀ (y0 : List K_si) (i : Int) (v0 : List K_si) (v1 : List Int) (v4 : Int), post101_0 (length v0) (length v1 + length y0) (r101_0 a0 a1 y0 i v0 v1 v4)
  | [], i, v0, v1, v4 => by
    first | trivial | (simp only [post101_0, length_nil, Nat.add_zero]; done) | (simp [post101_0]; done)
  | x0 :: y0, i, v0, v1, v4 => by
    simp only [r101_0]
    have z := z101_0 (a0 := a0) (a1 := a1) y0 (i + 1) (set v0 (Int.toNat i) (K_si.mk x0.f0 (IntKind.wrap .i64 (Int.tdiv (IntKind.wrap .i64 (a0 * x0.f1)) (m75 a1))))) (v1 ++ ([(Int.tmod (IntKind.wrap .i64 (a0 * x0.f1)) (m75 a1))])) (IntKind.wrap .i64 (v4 - (IntKind.wrap .i64 (Int.tdiv (IntKind.wrap .i64 (a0 * x0.f1)) (m75 a1)))))
    rw [show (length v0) = (length (set v0 (Int.toNat i) (K_si.mk x0.f0 (IntKind.wrap .i64 (Int.tdiv (IntKind.wrap .i64 (a0 * x0.f1)) (m75 a1)))))) from by first | omega | (simp only [length_map, length_set, length_append, length_replicate, length_cons, length_nil]; done) | (simp only [length_map, length_set, length_append, length_replicate, length_cons, length_nil]; omega), show (length v1 + length (x0 :: y0)) = (length (v1 ++ ([(Int.tmod (IntKind.wrap .i64 (a0 * x0.f1)) (m75 a1))])) + length y0) from by first | omega | (simp only [length_map, length_set, length_append, length_replicate, length_cons, length_nil]; done) | (simp only [length_map, length_set, length_append, length_replicate, length_cons, length_nil]; omega)]
    exact z
theorem left_101 (a0 : Int) (a1 : List K_si) : ∀ (l : List K_si) (i : Int) (v0 : List K_si) (v1 : List Int) (v4 : Int), v4 ≤ 9223372036854775807 → ∀ w0 w1 w2 w3 w4, r101_0 a0 a1 l i v0 v1 v4 = .k0 w0 w1 w2 w3 w4 → w2 ≤ 9223372036854775807
  | [], i, v0, v1, v4, h, w0, w1, w2, w3, w4, e => by
    simp only [r101_0] at e
    injection e with e0 e1 e2 e3 e4
    omega
  | x :: l, i, v0, v1, v4, h, w0, w1, w2, w3, w4, e => by
    simp only [r101_0] at e
    exact left_101 a0 a1 l (i + 1) _ _ _ (wrap64_range _).2 w0 w1 w2 w3 w4 e
/-! loop 101_1 -/
inductive O101_1 where
  | k0 (w0 : List K_si) (w1 : List Int) (w2 : Int) (w3 : Bool)
def r101_1 (c1_101_1 : Int) : Nat → Int → List K_si → List Int → O101_1
  | n + 1, i, v0, v1 =>
    (r101_1 c1_101_1 n (i + 1) (set v0 (Int.toNat (m151 v1 (m152 v1))) (K_si.mk ((getD v0 (Int.toNat (m151 v1 (m152 v1))) (K_si.mk (⟨#[]⟩ : ByteArray) 0)).f0) (IntKind.wrap .i64 (((getD v0 (Int.toNat (m151 v1 (m152 v1))) (K_si.mk (⟨#[]⟩ : ByteArray) 0)).f1) + 1)))) (set v1 (Int.toNat (m151 v1 (m152 v1))) (-1)))
  | 0, i, v0, v1 => (O101_1.k0 v0 v1 i (decide (i < c1_101_1)))
def h101_1 (l1_0 : Nat) (a0 : Int) (a1 : (List K_si)) (c0_101_1 : List Int) (c1_101_1 : Int) (c2_101_1 : List K_si) (i : Int) (v0 : List K_si) (v1 : List Int) : St := ⟨[(5, (.one (.ref ⟨(5, 0, 0), [], 0, (length (map d_si (m112 a1)))⟩))), (7, (.one (.ref ⟨(7, 0, 0), [], 0, (length (map d_i c0_101_1))⟩))), (49, (.one (.val (.int .i64 c1_101_1)))), (50, (.one (.val (.int .i64 i))))], [((5, 0, 0), .live ⟨2, (map d_si v0), []⟩), ((7, 0, 0), .live ⟨1, (map d_i v1), []⟩)]⟩
def ex101_1 : O101_1 → VX.Exit
  | .k0 _ _ _ _ => (.exit 2)
def fin101_1 (l1_0 : Nat) (a0 : Int) (a1 : (List K_si)) (c0_101_1 : List Int) (c1_101_1 : Int) (c2_101_1 : List K_si) : O101_1 → St
  | .k0 w0 w1 w2 w3 => ⟨[(5, (.one (.ref ⟨(5, 0, 0), [], 0, (length (map d_si (m112 a1)))⟩))), (7, (.one (.ref ⟨(7, 0, 0), [], 0, (length (map d_i c0_101_1))⟩))), (49, (.one (.val (.int .i64 c1_101_1)))), (50, (.one (.val (.int .i64 w2)))), (51, (.one (.val (.bool w3))))], [((5, 0, 0), .live ⟨2, (map d_si w0), []⟩), ((7, 0, 0), .live ⟨1, (map d_i w1), []⟩)]⟩
theorem t101_1 {l1_0 : Nat} {a0 : Int} {a1 : (List K_si)} {c0_101_1 : List Int} {c1_101_1 : Int} {c2_101_1 : List K_si} (hy0 : 0 ≤ a0) (hy1 : a0 ≤ 1000000) (hy2 : 0 < length a1) (hy3 : length a1 ≤ 12) (hy4 : ∀ z ∈ a1, 1 ≤ z.f1 ∧ z.f1 ≤ 9999) (hy5 : length c0_101_1 ≤ 140737488351232) (hy6 : length c2_101_1 ≤ 140737488351232) : ∀ (n : Nat) (i : Int) (v0 : List K_si) (v1 : List Int), 0 ≤ i → n = Int.toNat (c1_101_1 - i) → length v0 = (length (map d_si (m112 a1))) → length v1 = (length (map d_i c0_101_1)) → c1_101_1 ≤ 9223372036854775807 → length v0 = length v1 → 1 ≤ length v1 → length v1 ≤ 1000 → Ev F X (.code l101_1 (h101_1 l1_0 a0 a1 c0_101_1 c1_101_1 c2_101_1 i v0 v1) (ex101_1 (r101_1 c1_101_1 n i v0 v1)) (fin101_1 l1_0 a0 a1 c0_101_1 c1_101_1 c2_101_1 (r101_1 c1_101_1 n i v0 v1)))
  | 0, i, v0, v1, hn0, hn, hi0, hi1, hi2, hi3, hi4, hi5 => by
    have hc : ¬ (decide (i < c1_101_1)) = true := by
      simp only [decide_eq_true_eq]; omega
    have st := codeH_ok (F := F) (X := X) (c := b101_1) (t := 0) (hs := [(2, .b false)]) (σ := h101_1 l1_0 a0 a1 c0_101_1 c1_101_1 c2_101_1 i v0 v1) (σ' := fin101_1 l1_0 a0 a1 c0_101_1 c1_101_1 c2_101_1 (.k0 v0 v1 i (decide (i < c1_101_1)))) (e := (.exit 2)) (t' := 3) (hs' := []) (q := [(decide (i < c1_101_1)) = false]) (by kernel_rfl) ⟨(nt hc), trivial⟩
    exact .loopX st (show ((.exit 2) : VX.Exit) ≠ .normal from by simp)
  | n + 1, i, v0, v1, hn0, hn, hi0, hi1, hi2, hi3, hi4, hi5 => by
    have hc : (decide (i < c1_101_1)) = true := by
      simp only [decide_eq_true_eq]; omega
    have hw : IntKind.wrap .i64 (i + 1) = i + 1 := wrap64 (by omega)
    have hj0 := hi0; try simp only [length_map, length_set, length_append, length_replicate, length_cons, length_nil, Int.toNat_natCast] at hj0
    have hj1 := hi1; try simp only [length_map, length_set, length_append, length_replicate, length_cons, length_nil, Int.toNat_natCast] at hj1
    have hj2 := hi2; try simp only [length_map, length_set, length_append, length_replicate, length_cons, length_nil, Int.toNat_natCast] at hj2
    have hj3 := hi3; try simp only [length_map, length_set, length_append, length_replicate, length_cons, length_nil, Int.toNat_natCast] at hj3
    have hj4 := hi4; try simp only [length_map, length_set, length_append, length_replicate, length_cons, length_nil, Int.toNat_natCast] at hj4
    have hj5 := hi5; try simp only [length_map, length_set, length_append, length_replicate, length_cons, length_nil, Int.toNat_natCast] at hj5
    simp only [r101_1]
    have st := codeH_ok (F := F) (X := X) (c := b101_1) (t := 0) (hs := [(2, .b true), (8, .ret [] [(.oi (m152 v1))] [] [(map b_i v1)]), (10, .ret [] [(.oi (m151 v1 (m152 v1)))] [] [(map b_i v1)]), (22, .rowD [(.val (.string ((getD v0 (Int.toNat (m151 v1 (m152 v1))) (K_si.mk (⟨#[]⟩ : ByteArray) 0)).f0))), (.i ((getD v0 (Int.toNat (m151 v1 (m152 v1))) (K_si.mk (⟨#[]⟩ : ByteArray) 0)).f1))]), (30, .rowD [(.val (.string ((getD v0 (Int.toNat (m151 v1 (m152 v1))) (K_si.mk (⟨#[]⟩ : ByteArray) 0)).f0))), (.i ((getD v0 (Int.toNat (m151 v1 (m152 v1))) (K_si.mk (⟨#[]⟩ : ByteArray) 0)).f1))]), (31, .norm (5, 0, 0) (map d_si (set v0 (Int.toNat (m151 v1 (m152 v1))) (K_si.mk ((getD v0 (Int.toNat (m151 v1 (m152 v1))) (K_si.mk (⟨#[]⟩ : ByteArray) 0)).f0) (IntKind.wrap .i64 (((getD v0 (Int.toNat (m151 v1 (m152 v1))) (K_si.mk (⟨#[]⟩ : ByteArray) 0)).f1) + 1)))))), (39, .rowD [(.i (getD v1 (Int.toNat (m151 v1 (m152 v1))) 0))]), (40, .norm (7, 0, 0) (map d_i (set v1 (Int.toNat (m151 v1 (m152 v1))) (-1))))]) (σ := h101_1 l1_0 a0 a1 c0_101_1 c1_101_1 c2_101_1 i v0 v1) (σ' := ⟨[(5, (.one (.ref ⟨(5, 0, 0), [], 0, (length (map d_si (m112 a1)))⟩))), (7, (.one (.ref ⟨(7, 0, 0), [], 0, (length (map d_i c0_101_1))⟩))), (49, (.oi c1_101_1)), (50, (.oi (IntKind.wrap .i64 (i + 1))))], [((5, 0, 0), .live ⟨2, (map d_si (set v0 (Int.toNat (m151 v1 (m152 v1))) (K_si.mk ((getD v0 (Int.toNat (m151 v1 (m152 v1))) (K_si.mk (⟨#[]⟩ : ByteArray) 0)).f0) (IntKind.wrap .i64 (((getD v0 (Int.toNat (m151 v1 (m152 v1))) (K_si.mk (⟨#[]⟩ : ByteArray) 0)).f1) + 1))))), []⟩), ((7, 0, 0), .live ⟨1, (map d_i (set v1 (Int.toNat (m151 v1 (m152 v1))) (-1))), []⟩)]⟩) (e := .normal) (t' := 45) (hs' := []) (q := [(decide (i < c1_101_1)) = true, 0 + (length (map d_i c0_101_1)) ≤ (length (map d_i v1)), fullR (take (length (map d_i c0_101_1)) (drop 0 (map d_i v1))) = true, toBR (take (length (map d_i c0_101_1)) (drop 0 (map d_i v1))) = (map b_i v1), Ev F X (.call 152 [(.one (.bor 0 (map b_i v1)))] [] [] [(.oi (m152 v1))]), 0 + (length (map d_i c0_101_1)) ≤ (length (map d_i v1)), fullR (take (length (map d_i c0_101_1)) (drop 0 (map d_i v1))) = true, toBR (take (length (map d_i c0_101_1)) (drop 0 (map d_i v1))) = (map b_i v1), Ev F X (.call 151 [(.one (.bor 0 (map b_i v1))), (.oi (m152 v1))] [] [] [(.oi (m151 v1 (m152 v1)))]), 0 + (length (map d_si (m112 a1))) ≤ (length (map d_si v0)), 0 ≤ (m151 v1 (m152 v1)) ∧ (m151 v1 (m152 v1)) < ((length (map d_si (m112 a1))) : Int), (map d_si v0)[(0 + (Int.toNat (m151 v1 (m152 v1))))]? = some [(.val (.string ((getD v0 (Int.toNat (m151 v1 (m152 v1))) (K_si.mk (⟨#[]⟩ : ByteArray) 0)).f0))), (.i ((getD v0 (Int.toNat (m151 v1 (m152 v1))) (K_si.mk (⟨#[]⟩ : ByteArray) 0)).f1))], True, 0 + (length (map d_si (m112 a1))) ≤ (length (map d_si v0)), 0 ≤ (m151 v1 (m152 v1)) ∧ (m151 v1 (m152 v1)) < ((length (map d_si (m112 a1))) : Int), (map d_si v0)[(0 + (Int.toNat (m151 v1 (m152 v1))))]? = some [(.val (.string ((getD v0 (Int.toNat (m151 v1 (m152 v1))) (K_si.mk (⟨#[]⟩ : ByteArray) 0)).f0))), (.i ((getD v0 (Int.toNat (m151 v1 (m152 v1))) (K_si.mk (⟨#[]⟩ : ByteArray) 0)).f1))], (set (map d_si v0) (0 + (Int.toNat (m151 v1 (m152 v1)))) [(.val (.string ((getD v0 (Int.toNat (m151 v1 (m152 v1))) (K_si.mk (⟨#[]⟩ : ByteArray) 0)).f0))), (.i (IntKind.wrap .i64 (((getD v0 (Int.toNat (m151 v1 (m152 v1))) (K_si.mk (⟨#[]⟩ : ByteArray) 0)).f1) + 1)))]) = (map d_si (set v0 (Int.toNat (m151 v1 (m152 v1))) (K_si.mk ((getD v0 (Int.toNat (m151 v1 (m152 v1))) (K_si.mk (⟨#[]⟩ : ByteArray) 0)).f0) (IntKind.wrap .i64 (((getD v0 (Int.toNat (m151 v1 (m152 v1))) (K_si.mk (⟨#[]⟩ : ByteArray) 0)).f1) + 1))))), 0 + (length (map d_i c0_101_1)) ≤ (length (map d_i v1)), 0 ≤ (m151 v1 (m152 v1)) ∧ (m151 v1 (m152 v1)) < ((length (map d_i c0_101_1)) : Int), (map d_i v1)[(0 + (Int.toNat (m151 v1 (m152 v1))))]? = some [(.i (getD v1 (Int.toNat (m151 v1 (m152 v1))) 0))], (set (map d_i v1) (0 + (Int.toNat (m151 v1 (m152 v1)))) [(.i (-1))]) = (map d_i (set v1 (Int.toNat (m151 v1 (m152 v1))) (-1))), True]) (by kernel_rfl) ⟨hc, (by have q := mlen_112 a1; simp only [length_map, length_nil, Nat.zero_add] at *; omega), (ft_i _ _ _), (by rw [List.drop_zero, take_of_length_le (by simp only [length_map] at *; omega)]; exact toBR_i _), (e152 (a0 := v1) (by with_reducible assumption) (by with_reducible assumption)), (by have q := mlen_112 a1; simp only [length_map, length_nil, Nat.zero_add] at *; omega), (ft_i _ _ _), (by rw [List.drop_zero, take_of_length_le (by simp only [length_map] at *; omega)]; exact toBR_i _), (e151 (a0 := v1) (a1 := (m152 v1)) (by omega)), (by have q := mlen_112 a1; simp only [length_map, length_nil, Nat.zero_add] at *; omega), (by have q := im v1 (by simp only [length_map] at *; omega) (by simp only [length_map] at *; omega); simp only [length_map] at *; omega), (by rw [Nat.zero_add, getElem?_map, getD_at v0 (Int.toNat (m151 v1 (m152 v1))) (K_si.mk (⟨#[]⟩ : ByteArray) 0) (by first | exact True.intro | with_reducible rfl | with_reducible assumption | omega | (have q := mlen_112 a1; simp only [length_map, length_nil, Nat.zero_add] at *; omega) | (have q := mlen_112 a1; omega) | (have q := (tot_75 a1 (fun z hz => by have := (by assumption : ∀ z ∈ a1, 1 ≤ z.f1 ∧ z.f1 ≤ 9999) z hz; omega) (by omega)).1; omega) | (simp only [decide_eq_true_eq, length_map] at *; omega) | (have q := im v1 (by simp only [length_map] at *; omega) (by simp only [length_map] at *; omega); simp only [length_map] at *; omega) | (have q := ix151 v1 (m152 v1); simp only [decide_eq_true_eq, length_map] at *; omega) | (unfold m151 m152; (repeat' split) <;> simp_all <;> omega) | (simp only [decide_eq_true_eq] at *; omega) | (simp only [length_map]; omega) | (simp; omega) | (simp [take_of_length_le]; done) | assumption | trivial | (simp [*, byteRows_eq, ints_y]; done))]; rfl), trivial, (by have q := mlen_112 a1; simp only [length_map, length_nil, Nat.zero_add] at *; omega), (by have q := im v1 (by simp only [length_map] at *; omega) (by simp only [length_map] at *; omega); simp only [length_map] at *; omega), (by rw [Nat.zero_add, getElem?_map, getD_at v0 (Int.toNat (m151 v1 (m152 v1))) (K_si.mk (⟨#[]⟩ : ByteArray) 0) (by first | exact True.intro | with_reducible rfl | with_reducible assumption | omega | (have q := mlen_112 a1; simp only [length_map, length_nil, Nat.zero_add] at *; omega) | (have q := mlen_112 a1; omega) | (have q := (tot_75 a1 (fun z hz => by have := (by assumption : ∀ z ∈ a1, 1 ≤ z.f1 ∧ z.f1 ≤ 9999) z hz; omega) (by omega)).1; omega) | (simp only [decide_eq_true_eq, length_map] at *; omega) | (have q := im v1 (by simp only [length_map] at *; omega) (by simp only [length_map] at *; omega); simp only [length_map] at *; omega) | (have q := ix151 v1 (m152 v1); simp only [decide_eq_true_eq, length_map] at *; omega) | (unfold m151 m152; (repeat' split) <;> simp_all <;> omega) | (simp only [decide_eq_true_eq] at *; omega) | (simp only [length_map]; omega) | (simp; omega) | (simp [take_of_length_le]; done) | assumption | trivial | (simp [*, byteRows_eq, ints_y]; done))]; rfl), (by simp [byteRows_eq, ints_y, take_of_length_le, d_y, d_LyE, d_b, d_si, d_LsiE, d_iLsiE, d_i, d_s, d_LyEi, d_LiE, fromBR_y, fromBR_b, fromBR_si, fromBR_i, fromBR_s]; done), (by have q := mlen_112 a1; simp only [length_map, length_nil, Nat.zero_add] at *; omega), (by have q := im v1 (by simp only [length_map] at *; omega) (by simp only [length_map] at *; omega); simp only [length_map] at *; omega), (by rw [Nat.zero_add, getElem?_map, getD_at v1 (Int.toNat (m151 v1 (m152 v1))) 0 (by first | exact True.intro | with_reducible rfl | with_reducible assumption | omega | (have q := mlen_112 a1; simp only [length_map, length_nil, Nat.zero_add] at *; omega) | (have q := mlen_112 a1; omega) | (have q := (tot_75 a1 (fun z hz => by have := (by assumption : ∀ z ∈ a1, 1 ≤ z.f1 ∧ z.f1 ≤ 9999) z hz; omega) (by omega)).1; omega) | (simp only [decide_eq_true_eq, length_map] at *; omega) | (have q := im v1 (by simp only [length_map] at *; omega) (by simp only [length_map] at *; omega); simp only [length_map] at *; omega) | (have q := ix151 v1 (m152 v1); simp only [decide_eq_true_eq, length_map] at *; omega) | (unfold m151 m152; (repeat' split) <;> simp_all <;> omega) | (simp only [decide_eq_true_eq] at *; omega) | (simp only [length_map]; omega) | (simp; omega) | (simp [take_of_length_le]; done) | assumption | trivial | (simp [*, byteRows_eq, ints_y]; done))]; rfl), (by simp [byteRows_eq, ints_y, take_of_length_le, d_y, d_LyE, d_b, d_si, d_LsiE, d_iLsiE, d_i, d_s, d_LyEi, d_LiE, fromBR_y, fromBR_b, fromBR_si, fromBR_i, fromBR_s]; done), trivial, trivial⟩
    have ih := t101_1 (l1_0 := l1_0) (a0 := a0) (a1 := a1) (c0_101_1 := c0_101_1) (c1_101_1 := c1_101_1) (c2_101_1 := c2_101_1) hy0 hy1 hy2 hy3 hy4 hy5 hy6 n (i + 1) (set v0 (Int.toNat (m151 v1 (m152 v1))) (K_si.mk ((getD v0 (Int.toNat (m151 v1 (m152 v1))) (K_si.mk (⟨#[]⟩ : ByteArray) 0)).f0) (IntKind.wrap .i64 (((getD v0 (Int.toNat (m151 v1 (m152 v1))) (K_si.mk (⟨#[]⟩ : ByteArray) 0)).f1) + 1)))) (set v1 (Int.toNat (m151 v1 (m152 v1))) (-1)) (by omega) (by omega) (by simp only [length_map, length_set, length_append, length_replicate, length_cons, length_nil]; omega) (by simp only [length_map, length_set, length_append, length_replicate, length_cons, length_nil]; omega) (by omega) (by simp only [length_map, length_set, length_append, length_replicate, length_cons, length_nil]; omega) (by simp only [length_map, length_set, length_append, length_replicate, length_cons, length_nil]; omega) (by simp only [length_map, length_set, length_append, length_replicate, length_cons, length_nil]; omega)
    rw [show (⟨[(5, (.one (.ref ⟨(5, 0, 0), [], 0, (length (map d_si (m112 a1)))⟩))), (7, (.one (.ref ⟨(7, 0, 0), [], 0, (length (map d_i c0_101_1))⟩))), (49, (.oi c1_101_1)), (50, (.oi (IntKind.wrap .i64 (i + 1))))], [((5, 0, 0), .live ⟨2, (map d_si (set v0 (Int.toNat (m151 v1 (m152 v1))) (K_si.mk ((getD v0 (Int.toNat (m151 v1 (m152 v1))) (K_si.mk (⟨#[]⟩ : ByteArray) 0)).f0) (IntKind.wrap .i64 (((getD v0 (Int.toNat (m151 v1 (m152 v1))) (K_si.mk (⟨#[]⟩ : ByteArray) 0)).f1) + 1))))), []⟩), ((7, 0, 0), .live ⟨1, (map d_i (set v1 (Int.toNat (m151 v1 (m152 v1))) (-1))), []⟩)]⟩ : St) = h101_1 l1_0 a0 a1 c0_101_1 c1_101_1 c2_101_1 (i + 1) (set v0 (Int.toNat (m151 v1 (m152 v1))) (K_si.mk ((getD v0 (Int.toNat (m151 v1 (m152 v1))) (K_si.mk (⟨#[]⟩ : ByteArray) 0)).f0) (IntKind.wrap .i64 (((getD v0 (Int.toNat (m151 v1 (m152 v1))) (K_si.mk (⟨#[]⟩ : ByteArray) 0)).f1) + 1)))) (set v1 (Int.toNat (m151 v1 (m152 v1))) (-1)) from (by unfold h101_1; simp only [hw]; done)] at st
    exact .loopN st ih
def post101_1 (n0 n1 : Nat) : O101_1 → Prop
  | .k0 w0 w1 _ _ => length w0 = n0 ∧ length w1 = n1
theorem z101_1 {c1_101_1 : Int} : ∀ (n : Nat) (i : Int) (v0 : List K_si) (v1 : List Int), post101_1 (length v0) (length v1) (r101_1 c1_101_1 n i v0 v1)
  | 0, i, v0, v1 => by
    first | trivial | (simp only [post101_1, length_nil, Nat.add_zero]; done) | (simp [post101_1]; done)
  | n + 1, i, v0, v1 => by
    simp only [r101_1]
    have z := z101_1 (c1_101_1 := c1_101_1) n (i + 1) (set v0 (Int.toNat (m151 v1 (m152 v1))) (K_si.mk ((getD v0 (Int.toNat (m151 v1 (m152 v1))) (K_si.mk (⟨#[]⟩ : ByteArray) 0)).f0) (IntKind.wrap .i64 (((getD v0 (Int.toNat (m151 v1 (m152 v1))) (K_si.mk (⟨#[]⟩ : ByteArray) 0)).f1) + 1)))) (set v1 (Int.toNat (m151 v1 (m152 v1))) (-1))
    rw [show (length v0) = (length (set v0 (Int.toNat (m151 v1 (m152 v1))) (K_si.mk ((getD v0 (Int.toNat (m151 v1 (m152 v1))) (K_si.mk (⟨#[]⟩ : ByteArray) 0)).f0) (IntKind.wrap .i64 (((getD v0 (Int.toNat (m151 v1 (m152 v1))) (K_si.mk (⟨#[]⟩ : ByteArray) 0)).f1) + 1))))) from by first | omega | (simp only [length_map, length_set, length_append, length_replicate, length_cons, length_nil]; done) | (simp only [length_map, length_set, length_append, length_replicate, length_cons, length_nil]; omega), show (length v1) = (length (set v1 (Int.toNat (m151 v1 (m152 v1))) (-1))) from by first | omega | (simp only [length_map, length_set, length_append, length_replicate, length_cons, length_nil]; done) | (simp only [length_map, length_set, length_append, length_replicate, length_cons, length_nil]; omega)]
    exact z
/-! loop.example/g00539/impl.divided -/
def m101 (a0 : Int) (a1 : (List K_si)) : (List K_si) :=
  (match r101_0 a0 a1 (m112 a1) 0 (m112 a1) ([]) a0 with | .k0 w0_2 w1_2 w2_2 w3_2 w4_2 => (match r101_1 w2_2 (Int.toNat w2_2) 0 w0_2 w1_2 with | .k0 w0_3 w1_3 w2_3 w3_3 => w0_3))
theorem e101 {a0 : Int} {l1_0 : Nat} {a1 : (List K_si)} (hy0 : 0 ≤ a0) (hy1 : a0 ≤ 1000000) (hy2 : 0 < length a1) (hy3 : length a1 ≤ 12) (hy4 : ∀ z ∈ a1, 1 ≤ z.f1 ∧ z.f1 ≤ 9999) : Ev F X (.call 101 [(.one (.val (.int .i64 a0))), (.one (.bor l1_0 (map b_si a1)))] [] [] [(.one (.own 2 (map d_si (m101 a0 a1))))]) := by
  unfold m101
  have f0 : Ev F X (.call 112 [(.one (.bor (l1_0 + 1) (map b_si a1)))] [] [] [(.one (.own 2 (map d_si (m112 a1))))]) := (e112 (a0 := a1) (by omega))
  have f1 : Ev F X (.call 75 [(.one (.bor (l1_0 + 1) (map b_si a1)))] [] [] [(.oi (m75 a1))]) := (e75 (a0 := a1) (by omega))
  cases h0 : r101_0 a0 a1 (m112 a1) 0 (m112 a1) ([]) a0 with
  | k0 w0_2 w1_2 w2_2 w3_2 w4_2 =>
    try dsimp only
    have zh0 := z101_0 (a0 := a0) (a1 := a1) (m112 a1) 0 (m112 a1) ([]) a0; rw [h0] at zh0; simp only [post101_0, length_map, length_set, length_append, length_replicate, length_cons, length_nil, Int.toNat_natCast] at zh0; have qh0 := left_101 a0 a1 _ _ _ _ _ (by omega) _ _ _ _ _ h0
    have f2 : (⟨[(0, (.oi a0)), (5, (.one (.ref ⟨(5, 0, 0), [], 0, (length (map d_si (m112 a1)))⟩))), (6, (.oi (m75 a1))), (7, (.one (.ref ⟨(7, 0, 0), [], 0, 0⟩))), (8, (.oi a0)), (19, (.one (.ref ⟨(5, 0, 0), [], 0, (length (map d_si (m112 a1)))⟩))), (20, (.oi ((length (map d_si (m112 a1))) : Int))), (21, (.oi 0))], [((5, 0, 0), .live ⟨2, (map d_si (m112 a1)), []⟩), ((7, 0, 0), .live ⟨1, [], []⟩)]⟩ : St) = h101_0 l1_0 a0 a1 0 (m112 a1) ([]) a0 := (by rfl)
    have f3 : Ev F X (.code l101_0 (h101_0 l1_0 a0 a1 0 (m112 a1) ([]) a0) (.exit 0) ⟨[(0, (.oi a0)), (5, (.one (.ref ⟨(5, 0, 0), [], 0, (length (map d_si (m112 a1)))⟩))), (6, (.oi (m75 a1))), (7, (.one (.ref ⟨(7, 0, 0), [], 0, (length (map d_i w1_2))⟩))), (8, (.oi w2_2)), (19, (.one (.ref ⟨(5, 0, 0), [], 0, (length (map d_si (m112 a1)))⟩))), (20, (.oi ((length (map d_si (m112 a1))) : Int))), (21, (.oi w3_2)), (22, (.one (.val (.bool w4_2))))], [((5, 0, 0), .live ⟨2, (map d_si w0_2), []⟩), ((7, 0, 0), .live ⟨1, (map d_i w1_2), []⟩)]⟩) := (by have t : Ev F X (.code l101_0 (h101_0 l1_0 a0 a1 0 (m112 a1) ([]) a0) (ex101_0 (r101_0 a0 a1 (m112 a1) 0 (m112 a1) ([]) a0)) (fin101_0 l1_0 a0 a1 (r101_0 a0 a1 (m112 a1) 0 (m112 a1) ([]) a0))) := t101_0 (l1_0 := l1_0) (a0 := a0) (a1 := a1) (by assumption) (by assumption) (by assumption) (by assumption) (by assumption) (m112 a1) [] (m112 a1) ([]) a0 rfl (by simp only [length_map, length_set, length_append, length_replicate, length_cons, length_nil]; done) (by have q1 := mlen_112 a1; have q2 := (mne_112 a1 (by assumption) (by omega)).1 (by omega); simp only [length_map, length_nil, length_set, Nat.zero_add] at *; omega) (by rfl); rw [h0] at t; exact t)
    cases h1 : r101_1 w2_2 (Int.toNat w2_2) 0 w0_2 w1_2 with
    | k0 w0_3 w1_3 w2_3 w3_3 =>
      try dsimp only
      have zh1 := z101_1 (c1_101_1 := w2_2) (Int.toNat w2_2) 0 w0_2 w1_2; rw [h1] at zh1; simp only [post101_1, length_map, length_set, length_append, length_replicate, length_cons, length_nil, Int.toNat_natCast] at zh1
      have f4 : (⟨[(5, (.one (.ref ⟨(5, 0, 0), [], 0, (length (map d_si (m112 a1)))⟩))), (7, (.one (.ref ⟨(7, 0, 0), [], 0, (length (map d_i w1_2))⟩))), (49, (.oi w2_2)), (50, (.oi 0))], [((5, 0, 0), .live ⟨2, (map d_si w0_2), []⟩), ((7, 0, 0), .live ⟨1, (map d_i w1_2), []⟩)]⟩ : St) = h101_1 l1_0 a0 a1 w1_2 w2_2 w0_2 0 w0_2 w1_2 := (by rfl)
      have f5 : Ev F X (.code l101_1 (h101_1 l1_0 a0 a1 w1_2 w2_2 w0_2 0 w0_2 w1_2) (.exit 2) ⟨[(5, (.one (.ref ⟨(5, 0, 0), [], 0, (length (map d_si (m112 a1)))⟩))), (7, (.one (.ref ⟨(7, 0, 0), [], 0, (length (map d_i w1_2))⟩))), (49, (.oi w2_2)), (50, (.oi w2_3)), (51, (.one (.val (.bool w3_3))))], [((5, 0, 0), .live ⟨2, (map d_si w0_3), []⟩), ((7, 0, 0), .live ⟨1, (map d_i w1_3), []⟩)]⟩) := (by have t : Ev F X (.code l101_1 (h101_1 l1_0 a0 a1 w1_2 w2_2 w0_2 0 w0_2 w1_2) (ex101_1 (r101_1 w2_2 (Int.toNat w2_2) 0 w0_2 w1_2)) (fin101_1 l1_0 a0 a1 w1_2 w2_2 w0_2 (r101_1 w2_2 (Int.toNat w2_2) 0 w0_2 w1_2))) := t101_1 (l1_0 := l1_0) (a0 := a0) (a1 := a1) (c0_101_1 := w1_2) (c1_101_1 := w2_2) (c2_101_1 := w0_2) (by assumption) (by assumption) (by assumption) (by assumption) (by assumption) (by have q := mlen_112 a1; simp only [length_map, length_nil, Nat.zero_add] at *; omega) (by have q := mlen_112 a1; simp only [length_map, length_nil, Nat.zero_add] at *; omega) _ 0 w0_2 w1_2 (by omega) (by omega) (by have q1 := mlen_112 a1; have q2 := (mne_112 a1 (by assumption) (by omega)).1 (by omega); simp only [length_map, length_nil, length_set, Nat.zero_add] at *; omega) (by simp only [length_map, length_set, length_append, length_replicate, length_cons, length_nil]; done) (by omega) (by omega) (by have q1 := mlen_112 a1; have q2 := (mne_112 a1 (by assumption) (by omega)).1 (by omega); simp only [length_map, length_nil, length_set, Nat.zero_add] at *; omega) (by have q1 := mlen_112 a1; have q2 := (mne_112 a1 (by assumption) (by omega)).1 (by omega); simp only [length_map, length_nil, length_set, Nat.zero_add] at *; omega); rw [h1] at t; exact t)
      have f6 : 0 = 0 := rfl
      have f7 : (length (map d_si (m112 a1))) = (length (map d_si w0_3)) := (by have q := mlen_112 a1; simp only [length_map, length_nil, Nat.zero_add] at *; omega)
      have f8 : pureR (map d_si w0_3) = true := (pureR_si _)
      exact callP_ok (ps := []) (os := []) (rs := [(.one (.own 2 (map d_si w0_3)))]) (by kernel_rfl) (.r 5 [] [] f0 (.r 9 [] [] f1 (.f f2 (.f f3 (.f f4 (.f f5 (.f f6 (.f f7 (.f f8 (.h 28 (.loop (h101_0 l1_0 a0 a1 0 (m112 a1) ([]) a0) (.exit 0) ⟨[(0, (.oi a0)), (5, (.one (.ref ⟨(5, 0, 0), [], 0, (length (map d_si (m112 a1)))⟩))), (6, (.oi (m75 a1))), (7, (.one (.ref ⟨(7, 0, 0), [], 0, (length (map d_i w1_2))⟩))), (8, (.oi w2_2)), (19, (.one (.ref ⟨(5, 0, 0), [], 0, (length (map d_si (m112 a1)))⟩))), (20, (.oi ((length (map d_si (m112 a1))) : Int))), (21, (.oi w3_2)), (22, (.one (.val (.bool w4_2))))], [((5, 0, 0), .live ⟨2, (map d_si w0_2), []⟩), ((7, 0, 0), .live ⟨1, (map d_i w1_2), []⟩)]⟩) (.h 33 (.loop (h101_1 l1_0 a0 a1 w1_2 w2_2 w0_2 0 w0_2 w1_2) (.exit 2) ⟨[(5, (.one (.ref ⟨(5, 0, 0), [], 0, (length (map d_si (m112 a1)))⟩))), (7, (.one (.ref ⟨(7, 0, 0), [], 0, (length (map d_i w1_2))⟩))), (49, (.oi w2_2)), (50, (.oi w2_3)), (51, (.one (.val (.bool w3_3))))], [((5, 0, 0), .live ⟨2, (map d_si w0_3), []⟩), ((7, 0, 0), .live ⟨1, (map d_i w1_3), []⟩)]⟩) .nil)))))))))))
theorem dlen101 (t : Int) (a : List K_si) : length (m101 t a) = length (m112 a) := by
  have z := z101_0 (a0 := t) (a1 := a) (m112 a) 0 (m112 a) [] t
  unfold m101
  cases hr : r101_0 t a (m112 a) 0 (m112 a) [] t with
  | k0 w0 w1 w2 w3 w4 =>
    rw [hr] at z
    have z1 := z101_1 (c1_101_1 := w2) (Int.toNat w2) 0 w0 w1
    simp only []
    cases hr1 : r101_1 w2 (Int.toNat w2) 0 w0 w1 with
    | k0 u0 u1 u2 u3 =>
      rw [hr1] at z1
      simp only [post101_0, post101_1, length_nil, Nat.zero_add] at z z1
      simp only []
      omega
/-! loop.example/g00539/impl.SplitAmount -/
def m48 (a0 : Int) (a1 : (List K_si)) : K_iLsiE :=
  if ((m46 a1) != 0) = true then (K_iLsiE.mk (m46 a1) []) else
  if (!(m93 a0 0 1000000)) = true then (K_iLsiE.mk 3 []) else
    if (((length (map b_si a1)) : Int) == 0) = true then (K_iLsiE.mk 4 []) else
      (K_iLsiE.mk 0 (m101 a0 a1))
theorem e48 {a0 : Int} {l1_0 : Nat} {a1 : (List K_si)} (hy0 : length a1 * 24 ≤ 140737488351232) : Ev F X (.call 48 [(.one (.val (.int .i64 a0))), (.one (.bor l1_0 (map b_si a1)))] [] [] [(.agg [(.val (.int .i64 ((m48 a0 a1).f0))), (.own 2 (map d_si ((m48 a0 a1).f1)))])]) := by
  unfold m48
  have f0 : Ev F X (.call 46 [(.one (.bor (l1_0 + 1) (map b_si a1)))] [] [] [(.oi (m46 a1))]) := (e46 (a0 := a1) (by with_reducible assumption))
  by_cases h0 : ((m46 a1) != 0) = true
  · try simp only [if_pos h0]
    have f2 : pureR [] = true := (by trivial)
    exact callP_ok (ps := []) (os := []) (rs := [(.agg [(.i (m46 a1)), (.own 2 [])])]) (by kernel_rfl) (.r 5 [] [] f0 (.f h0 (.f f2 (.h 12 (.b true) .nil))))
  · try simp only [if_neg h0]
    have f2 : Ev F X (.call 72 [(.oi a0)] [] [] [(.one (.val (.bool (m93 a0 0 1000000))))]) := (e72 (a0 := a0))
    by_cases h1 : (!(m93 a0 0 1000000)) = true
    · try simp only [if_pos h1]
      have f4 : pureR [] = true := (by trivial)
      exact callP_ok (ps := []) (os := []) (rs := [(.agg [(.i 3), (.own 2 [])])]) (by kernel_rfl) (.r 5 [] [] f0 (.f (nt h0) (.h 12 (.b false) (.r 16 [] [] f2 (.f h1 (.f f4 (.h 21 (.b true) .nil)))))))
    · try simp only [if_neg h1]
      by_cases h2 : (((length (map b_si a1)) : Int) == 0) = true
      · try simp only [if_pos h2]
        have f5 : pureR [] = true := (by trivial)
        exact callP_ok (ps := []) (os := []) (rs := [(.agg [(.i 4), (.own 2 [])])]) (by kernel_rfl) (.r 5 [] [] f0 (.f (nt h0) (.h 12 (.b false) (.r 16 [] [] f2 (.f (nt h1) (.f h2 (.f f5 (.h 21 (.b false) (.h 30 (.b true) .nil)))))))))
      · try simp only [if_neg h2]
        have f5 : Ev F X (.call 101 [(.oi a0), (.one (.bor (l1_0 + 1) (map b_si a1)))] [] [] [(.one (.own 2 (map d_si (m101 a0 a1))))]) := (e101 (a0 := a0) (a1 := a1) (by have q := jn93 (a := a0) (b := 0) (c := 1000000) (by with_reducible assumption); omega) (by have q := jn93 (a := a0) (b := 0) (c := 1000000) (by with_reducible assumption); omega) (by simp only [length_map, beq_iff_eq] at *; omega) (by have q := len12_46 _ (by assumption); omega) (by with_reducible exact wok46 _ (by with_reducible assumption)))
        have f6 : 0 = 0 := rfl
        have f7 : (length (map d_si (m101 a0 a1))) = (length (map d_si (m101 a0 a1))) := rfl
        have f8 : pureR (map d_si (m101 a0 a1)) = true := (pureR_si _)
        exact callP_ok (ps := []) (os := []) (rs := [(.agg [(.i 0), (.own 2 (map d_si (m101 a0 a1)))])]) (by kernel_rfl) (.r 5 [] [] f0 (.f (nt h0) (.h 12 (.b false) (.r 16 [] [] f2 (.f (nt h1) (.f (nt h2) (.h 21 (.b false) (.h 30 (.b false) (.r 36 [] [] f5 (.f f6 (.f f7 (.f f8 .nil))))))))))))
/-! loop.example/g00539/spec.l1In -/
def m110 (a0 : Int) (a1 : Int) (a2 : Int) : Bool :=
  if (decide (a0 ≥ a1)) = true then (decide (a0 ≤ a2)) else
  false
theorem e110 {a0 : Int} {a1 : Int} {a2 : Int} : Ev F X (.call 110 [(.one (.val (.int .i64 a0))), (.one (.val (.int .i64 a1))), (.one (.val (.int .i64 a2)))] [] [] [(.one (.val (.bool (m110 a0 a1 a2))))]) := by
  unfold m110
  by_cases h0 : (decide (a0 ≥ a1)) = true
  · try simp only [if_pos h0]
    exact callP_ok (ps := []) (os := []) (rs := [(.one (.val (.bool (decide (a0 ≤ a2)))))]) (by kernel_rfl) (.f h0 (.f h0 (.f h0 (.f h0 (.h 10 (.b true) (.h 12 (.b true) (.h 14 (.b true) (.h 17 (.b true) .nil))))))))
  · try simp only [if_neg h0]
    exact callP_ok (ps := []) (os := []) (rs := [(.one (.val (.bool false)))]) (by kernel_rfl) (.f (nt h0) (.f (nt h0) (.f (nt h0) (.f (nt h0) (.h 10 (.b false) (.h 12 (.b false) (.h 14 (.b false) (.h 17 (.b false) .nil))))))))
theorem jn110 {a b c : Int} (h : ¬ (!(m110 a b c)) = true) : b ≤ a ∧ a ≤ c := by
  simp only [Bool.not_eq_true', Bool.not_eq_false] at h
  unfold m110 at h; split at h <;> simp_all <;> omega
/-! loop.example/g00539/spec.l9Letter -/
def m171 (a0 : Int) : Bool :=
  if (decide (a0 ≥ 97)) = true then (if (decide (a0 ≤ 122)) = true then true else
    if (decide (a0 ≥ 65)) = true then (if (decide (a0 ≤ 90)) = true then true else
        if (decide (a0 ≥ 48)) = true then (decide (a0 ≤ 57)) else
          false) else
      if (decide (a0 ≥ 48)) = true then (decide (a0 ≤ 57)) else
        false) else
  if (decide (a0 ≥ 65)) = true then (if (decide (a0 ≤ 90)) = true then true else
      if (decide (a0 ≥ 48)) = true then (decide (a0 ≤ 57)) else
        false) else
    if (decide (a0 ≥ 48)) = true then (decide (a0 ≤ 57)) else
      false
theorem e171 {a0 : Int} : Ev F X (.call 171 [(.one (.val (.int .u8 a0)))] [] [] [(.one (.val (.bool (m171 a0))))]) := by
  unfold m171
  by_cases h0 : (decide (a0 ≥ 97)) = true
  · try simp only [if_pos h0]
    by_cases h1 : (decide (a0 ≤ 122)) = true
    · try simp only [if_pos h1]
      exact callP_ok (ps := []) (os := []) (rs := [(.one (.val (.bool true)))]) (by kernel_rfl) (.f h0 (.f h0 (.f h0 (.f h1 (.f h1 (.f h1 (.f h1 (.f h1 (.h 8 (.b true) (.h 10 (.b true) (.h 13 (.b true) (.h 16 (.b true) (.h 18 (.b true) (.h 20 (.b true) (.h 26 (.b true) (.h 29 (.b true) .nil))))))))))))))))
    · try simp only [if_neg h1]
      by_cases h2 : (decide (a0 ≥ 65)) = true
      · try simp only [if_pos h2]
        by_cases h3 : (decide (a0 ≤ 90)) = true
        · try simp only [if_pos h3]
          exact callP_ok (ps := []) (os := []) (rs := [(.one (.val (.bool true)))]) (by kernel_rfl) (.f h0 (.f h0 (.f h0 (.f (nt h1) (.f (nt h1) (.f (nt h1) (.f h2 (.f h2 (.f (nt h1) (.f h2 (.f (nt h1) (.f h3 (.f h3 (.f h3 (.f h3 (.f h3 (.h 8 (.b true) (.h 10 (.b true) (.h 13 (.b true) (.h 16 (.b false) (.h 18 (.b false) (.h 20 (.b false) (.h 22 (.b true) (.h 24 (.b true) (.h 26 (.b false) (.h 27 (.b true) (.h 29 (.b false) (.h 32 (.b true) (.h 34 (.b true) (.h 36 (.b true) (.h 42 (.b true) (.h 45 (.b true) .nil))))))))))))))))))))))))))))))))
        · try simp only [if_neg h3]
          by_cases h4 : (decide (a0 ≥ 48)) = true
          · try simp only [if_pos h4]
            exact callP_ok (ps := []) (os := []) (rs := [(.one (.val (.bool (decide (a0 ≤ 57)))))]) (by kernel_rfl) (.f h0 (.f h0 (.f h0 (.f (nt h1) (.f (nt h1) (.f (nt h1) (.f h2 (.f h2 (.f (nt h1) (.f h2 (.f (nt h1) (.f (nt h3) (.f (nt h3) (.f (nt h3) (.f h4 (.f h4 (.f (nt h3) (.f h4 (.f (nt h3) (.h 8 (.b true) (.h 10 (.b true) (.h 13 (.b true) (.h 16 (.b false) (.h 18 (.b false) (.h 20 (.b false) (.h 22 (.b true) (.h 24 (.b true) (.h 26 (.b false) (.h 27 (.b true) (.h 29 (.b false) (.h 32 (.b false) (.h 34 (.b false) (.h 36 (.b false) (.h 38 (.b true) (.h 40 (.b true) (.h 42 (.b false) (.h 43 (.b true) (.h 45 (.b false) .nil))))))))))))))))))))))))))))))))))))))
          · try simp only [if_neg h4]
            exact callP_ok (ps := []) (os := []) (rs := [(.one (.val (.bool false)))]) (by kernel_rfl) (.f h0 (.f h0 (.f h0 (.f (nt h1) (.f (nt h1) (.f (nt h1) (.f h2 (.f h2 (.f (nt h1) (.f h2 (.f (nt h1) (.f (nt h3) (.f (nt h3) (.f (nt h3) (.f (nt h4) (.f (nt h4) (.f (nt h3) (.f (nt h4) (.f (nt h3) (.h 8 (.b true) (.h 10 (.b true) (.h 13 (.b true) (.h 16 (.b false) (.h 18 (.b false) (.h 20 (.b false) (.h 22 (.b true) (.h 24 (.b true) (.h 26 (.b false) (.h 27 (.b true) (.h 29 (.b false) (.h 32 (.b false) (.h 34 (.b false) (.h 36 (.b false) (.h 38 (.b false) (.h 40 (.b false) (.h 42 (.b false) (.h 43 (.b false) (.h 45 (.b false) .nil))))))))))))))))))))))))))))))))))))))
      · try simp only [if_neg h2]
        by_cases h3 : (decide (a0 ≥ 48)) = true
        · try simp only [if_pos h3]
          exact callP_ok (ps := []) (os := []) (rs := [(.one (.val (.bool (decide (a0 ≤ 57)))))]) (by kernel_rfl) (.f h0 (.f h0 (.f h0 (.f (nt h1) (.f (nt h1) (.f (nt h1) (.f (nt h2) (.f (nt h2) (.f (nt h1) (.f (nt h2) (.f (nt h1) (.f h3 (.f h3 (.f h3 (.h 8 (.b true) (.h 10 (.b true) (.h 13 (.b true) (.h 16 (.b false) (.h 18 (.b false) (.h 20 (.b false) (.h 22 (.b false) (.h 24 (.b false) (.h 26 (.b false) (.h 27 (.b false) (.h 29 (.b false) (.h 38 (.b true) (.h 40 (.b true) (.h 43 (.b true) .nil))))))))))))))))))))))))))))
        · try simp only [if_neg h3]
          exact callP_ok (ps := []) (os := []) (rs := [(.one (.val (.bool false)))]) (by kernel_rfl) (.f h0 (.f h0 (.f h0 (.f (nt h1) (.f (nt h1) (.f (nt h1) (.f (nt h2) (.f (nt h2) (.f (nt h1) (.f (nt h2) (.f (nt h1) (.f (nt h3) (.f (nt h3) (.f (nt h3) (.h 8 (.b true) (.h 10 (.b true) (.h 13 (.b true) (.h 16 (.b false) (.h 18 (.b false) (.h 20 (.b false) (.h 22 (.b false) (.h 24 (.b false) (.h 26 (.b false) (.h 27 (.b false) (.h 29 (.b false) (.h 38 (.b false) (.h 40 (.b false) (.h 43 (.b false) .nil))))))))))))))))))))))))))))
  · try simp only [if_neg h0]
    by_cases h1 : (decide (a0 ≥ 65)) = true
    · try simp only [if_pos h1]
      by_cases h2 : (decide (a0 ≤ 90)) = true
      · try simp only [if_pos h2]
        exact callP_ok (ps := []) (os := []) (rs := [(.one (.val (.bool true)))]) (by kernel_rfl) (.f (nt h0) (.f (nt h0) (.f (nt h0) (.f h1 (.f h1 (.f h1 (.f h2 (.f h2 (.f h2 (.f h2 (.f h2 (.h 8 (.b false) (.h 10 (.b false) (.h 13 (.b false) (.h 22 (.b true) (.h 24 (.b true) (.h 27 (.b true) (.h 32 (.b true) (.h 34 (.b true) (.h 36 (.b true) (.h 42 (.b true) (.h 45 (.b true) .nil))))))))))))))))))))))
      · try simp only [if_neg h2]
        by_cases h3 : (decide (a0 ≥ 48)) = true
        · try simp only [if_pos h3]
          exact callP_ok (ps := []) (os := []) (rs := [(.one (.val (.bool (decide (a0 ≤ 57)))))]) (by kernel_rfl) (.f (nt h0) (.f (nt h0) (.f (nt h0) (.f h1 (.f h1 (.f h1 (.f (nt h2) (.f (nt h2) (.f (nt h2) (.f h3 (.f h3 (.f (nt h2) (.f h3 (.f (nt h2) (.h 8 (.b false) (.h 10 (.b false) (.h 13 (.b false) (.h 22 (.b true) (.h 24 (.b true) (.h 27 (.b true) (.h 32 (.b false) (.h 34 (.b false) (.h 36 (.b false) (.h 38 (.b true) (.h 40 (.b true) (.h 42 (.b false) (.h 43 (.b true) (.h 45 (.b false) .nil))))))))))))))))))))))))))))
        · try simp only [if_neg h3]
          exact callP_ok (ps := []) (os := []) (rs := [(.one (.val (.bool false)))]) (by kernel_rfl) (.f (nt h0) (.f (nt h0) (.f (nt h0) (.f h1 (.f h1 (.f h1 (.f (nt h2) (.f (nt h2) (.f (nt h2) (.f (nt h3) (.f (nt h3) (.f (nt h2) (.f (nt h3) (.f (nt h2) (.h 8 (.b false) (.h 10 (.b false) (.h 13 (.b false) (.h 22 (.b true) (.h 24 (.b true) (.h 27 (.b true) (.h 32 (.b false) (.h 34 (.b false) (.h 36 (.b false) (.h 38 (.b false) (.h 40 (.b false) (.h 42 (.b false) (.h 43 (.b false) (.h 45 (.b false) .nil))))))))))))))))))))))))))))
    · try simp only [if_neg h1]
      by_cases h2 : (decide (a0 ≥ 48)) = true
      · try simp only [if_pos h2]
        exact callP_ok (ps := []) (os := []) (rs := [(.one (.val (.bool (decide (a0 ≤ 57)))))]) (by kernel_rfl) (.f (nt h0) (.f (nt h0) (.f (nt h0) (.f (nt h1) (.f (nt h1) (.f (nt h1) (.f h2 (.f h2 (.f h2 (.h 8 (.b false) (.h 10 (.b false) (.h 13 (.b false) (.h 22 (.b false) (.h 24 (.b false) (.h 27 (.b false) (.h 38 (.b true) (.h 40 (.b true) (.h 43 (.b true) .nil))))))))))))))))))
      · try simp only [if_neg h2]
        exact callP_ok (ps := []) (os := []) (rs := [(.one (.val (.bool false)))]) (by kernel_rfl) (.f (nt h0) (.f (nt h0) (.f (nt h0) (.f (nt h1) (.f (nt h1) (.f (nt h1) (.f (nt h2) (.f (nt h2) (.f (nt h2) (.h 8 (.b false) (.h 10 (.b false) (.h 13 (.b false) (.h 22 (.b false) (.h 24 (.b false) (.h 27 (.b false) (.h 38 (.b false) (.h 40 (.b false) (.h 43 (.b false) .nil))))))))))))))))))
/-! loop 154_0 -/
inductive O154_0 where
  | k0 (w0 : Int) (w1 : Bool)
  | k1
def r154_0 (a0 : ByteArray) : Nat → Int → O154_0
  | n + 1, i =>
    if (!(m171 (byteAt a0 i))) = true then (O154_0.k1) else
    (r154_0 a0 n (i + 1) )
  | 0, i => (O154_0.k0 i (decide (i < (ByteArray.size a0 : Int))))
def h154_0 (a0 : ByteArray) (i : Int)  : St := ⟨[(0, (.one (.val (.string a0)))), (3, (.one (.val (.int .i64 i))))], []⟩
def ex154_0 : O154_0 → VX.Exit
  | .k0 _ _ => (.exit 0)
  | .k1 => .ret
def fin154_0 (a0 : ByteArray) : O154_0 → St
  | .k0 w0 w1 => ⟨[(0, (.one (.val (.string a0)))), (3, (.one (.val (.int .i64 w0)))), (7, (.one (.val (.bool w1))))], []⟩
  | .k1 => ⟨[(2, (.one (.val (.bool false))))], []⟩
theorem t154_0 {a0 : ByteArray} (hy0 : ByteArray.size a0 ≤ 140737488351232) : ∀ (n : Nat) (i : Int) , 0 ≤ i → n = Int.toNat ((ByteArray.size a0 : Int) - i) → (ByteArray.size a0 : Int) ≤ 9223372036854775807 → Ev F X (.code l154_0 (h154_0 a0 i ) (ex154_0 (r154_0 a0 n i )) (fin154_0 a0 (r154_0 a0 n i )))
  | 0, i, hn0, hn, hi0 => by
    have hc : ¬ (decide (i < (ByteArray.size a0 : Int))) = true := by
      simp only [decide_eq_true_eq]; omega
    have st := codeH_ok (F := F) (X := X) (c := b154_0) (t := 0) (hs := [(8, .b false)]) (σ := h154_0 a0 i ) (σ' := fin154_0 a0 (.k0 i (decide (i < (ByteArray.size a0 : Int))))) (e := (.exit 0)) (t' := 9) (hs' := []) (q := [(decide (i < (ByteArray.size a0 : Int))) = false]) (by kernel_rfl) ⟨(nt hc), trivial⟩
    exact .loopX st (show ((.exit 0) : VX.Exit) ≠ .normal from by simp)
  | n + 1, i, hn0, hn, hi0 => by
    have hc : (decide (i < (ByteArray.size a0 : Int))) = true := by
      simp only [decide_eq_true_eq]; omega
    have hw : IntKind.wrap .i64 (i + 1) = i + 1 := wrap64 (by omega)
    have hj0 := hi0; try simp only [length_map, length_set, length_append, length_replicate, length_cons, length_nil, Int.toNat_natCast] at hj0
    simp only [r154_0]
    by_cases h_1 : (!(m171 (byteAt a0 i))) = true
    · try simp only [if_pos h_1]
      have st := codeH_ok (F := F) (X := X) (c := b154_0) (t := 0) (hs := [(8, .b true), (16, .ret [] [(.one (.val (.bool (m171 (byteAt a0 i)))))] [] []), (19, .b true)]) (σ := h154_0 a0 i ) (σ' := fin154_0 a0 (.k1)) (e := .ret) (t' := 22) (hs' := []) (q := [(decide (i < (ByteArray.size a0 : Int))) = true, 0 ≤ i ∧ i < (ByteArray.size a0 : Int), Ev F X (.call 171 [(.one (.val (.int .u8 (byteAt a0 i))))] [] [] [(.one (.val (.bool (m171 (byteAt a0 i)))))]), (!(m171 (byteAt a0 i))) = true]) (by kernel_rfl) ⟨hc, (by omega), (e171 (a0 := (byteAt a0 i))), h_1, trivial⟩
      exact .loopX st (show (.ret : VX.Exit) ≠ .normal from by simp)
    · try simp only [if_neg h_1]
      have st := codeH_ok (F := F) (X := X) (c := b154_0) (t := 0) (hs := [(8, .b true), (16, .ret [] [(.one (.val (.bool (m171 (byteAt a0 i)))))] [] []), (19, .b false)]) (σ := h154_0 a0 i ) (σ' := ⟨[(0, (.one (.val (.string a0)))), (3, (.oi (IntKind.wrap .i64 (i + 1))))], []⟩) (e := .normal) (t' := 26) (hs' := []) (q := [(decide (i < (ByteArray.size a0 : Int))) = true, 0 ≤ i ∧ i < (ByteArray.size a0 : Int), Ev F X (.call 171 [(.one (.val (.int .u8 (byteAt a0 i))))] [] [] [(.one (.val (.bool (m171 (byteAt a0 i)))))]), (!(m171 (byteAt a0 i))) = false, True]) (by kernel_rfl) ⟨hc, (by omega), (e171 (a0 := (byteAt a0 i))), (nt h_1), trivial, trivial⟩
      have ih := t154_0 (a0 := a0) hy0 n (i + 1)  (by omega) (by omega) (by omega)
      rw [show (⟨[(0, (.one (.val (.string a0)))), (3, (.oi (IntKind.wrap .i64 (i + 1))))], []⟩ : St) = h154_0 a0 (i + 1)  from (by unfold h154_0; simp only [hw]; done)] at st
      exact .loopN st ih
/-! loop.example/g00539/spec.l9Arg -/
def m154 (a0 : ByteArray) : Bool :=
  (match r154_0 a0 (Int.toNat (ByteArray.size a0 : Int)) 0 with | .k0 w0_0 w1_0 => (decide ((ByteArray.size a0 : Int) ≤ 12)) | .k1 => false)
theorem e154 {a0 : ByteArray} (hy0 : ByteArray.size a0 ≤ 140737488351232) : Ev F X (.call 154 [(.one (.val (.string a0)))] [] [] [(.one (.val (.bool (m154 a0))))]) := by
  unfold m154
  cases h0 : r154_0 a0 (Int.toNat (ByteArray.size a0 : Int)) 0 with
  | k0 w0_0 w1_0 =>
    try dsimp only
    have f0 : (⟨[(0, (.one (.val (.string a0)))), (3, (.oi 0))], []⟩ : St) = h154_0 a0 0  := (by rfl)
    have f1 : Ev F X (.code l154_0 (h154_0 a0 0 ) (.exit 0) ⟨[(0, (.one (.val (.string a0)))), (3, (.oi w0_0)), (7, (.one (.val (.bool w1_0))))], []⟩) := (by have t : Ev F X (.code l154_0 (h154_0 a0 0 ) (ex154_0 (r154_0 a0 (Int.toNat (ByteArray.size a0 : Int)) 0)) (fin154_0 a0 (r154_0 a0 (Int.toNat (ByteArray.size a0 : Int)) 0))) := t154_0 (a0 := a0) (by assumption) _ 0  (by omega) (by omega) (by omega); rw [h0] at t; exact t)
    exact callP_ok (ps := []) (os := []) (rs := [(.one (.val (.bool (decide ((ByteArray.size a0 : Int) ≤ 12)))))]) (by kernel_rfl) (.f f0 (.f f1 (.h 4 (.loop (h154_0 a0 0 ) (.exit 0) ⟨[(0, (.one (.val (.string a0)))), (3, (.oi w0_0)), (7, (.one (.val (.bool w1_0))))], []⟩) .nil)))
  | k1 =>
    try dsimp only
    have f0 : (⟨[(0, (.one (.val (.string a0)))), (3, (.oi 0))], []⟩ : St) = h154_0 a0 0  := (by rfl)
    have f1 : Ev F X (.code l154_0 (h154_0 a0 0 ) .ret ⟨[(2, (.one (.val (.bool false))))], []⟩) := (by have t : Ev F X (.code l154_0 (h154_0 a0 0 ) (ex154_0 (r154_0 a0 (Int.toNat (ByteArray.size a0 : Int)) 0)) (fin154_0 a0 (r154_0 a0 (Int.toNat (ByteArray.size a0 : Int)) 0))) := t154_0 (a0 := a0) (by assumption) _ 0  (by omega) (by omega) (by omega); rw [h0] at t; exact t)
    exact callP_ok (ps := []) (os := []) (rs := [(.one (.val (.bool false)))]) (by kernel_rfl) (.f f0 (.f f1 (.h 4 (.loop (h154_0 a0 0 ) .ret ⟨[(2, (.one (.val (.bool false))))], []⟩) .nil)))
/-! loop.example/g00539/spec.l13One -/
def m109 (a0 : K_si) : Int :=
  if (a0.f0.toList == (⟨#[]⟩ : ByteArray).toList) = true then 5 else
  if (!(m154 a0.f0)) = true then 5 else
    if (!(m110 a0.f1 1 9999)) = true then 3 else
      0
theorem e109 {l0 : Nat} {a0 : K_si} (hy0 : ByteArray.size a0.f0 ≤ 140737488351232) : Ev F X (.call 109 [(.bptr l0 [(.val (.string a0.f0)), (.val (.int .i64 a0.f1))])] [] [] [(.one (.val (.int .i64 (m109 a0))))]) := by
  unfold m109
  by_cases h0 : (a0.f0.toList == (⟨#[]⟩ : ByteArray).toList) = true
  · try simp only [if_pos h0]
    exact callP_ok (ps := []) (os := []) (rs := [(.oi 5)]) (by kernel_rfl) (.f h0 (.f h0 (.f h0 (.f h0 (.f h0 (.f h0 (.f h0 (.h 14 (.b true) (.h 16 (.b true) (.h 18 (.b true) (.h 20 (.b true) (.h 22 (.b true) (.h 24 (.b true) (.h 27 (.b true) .nil))))))))))))))
  · try simp only [if_neg h0]
    have f5 : Ev F X (.call 154 [(.one (.val (.string a0.f0)))] [] [] [(.one (.val (.bool (m154 a0.f0))))]) := (e154 (a0 := a0.f0) (by with_reducible assumption))
    by_cases h1 : (!(m154 a0.f0)) = true
    · try simp only [if_pos h1]
      exact callP_ok (ps := []) (os := []) (rs := [(.oi 5)]) (by kernel_rfl) (.f (nt h0) (.f (nt h0) (.f (nt h0) (.f (nt h0) (.f (nt h0) (.h 14 (.b false) (.h 16 (.b false) (.h 18 (.b false) (.h 20 (.b false) (.h 22 (.b false) (.r 23 [] [] f5 (.f (nt h0) (.f (nt h0) (.f h1 (.h 24 (.b false) (.h 27 (.b false) (.h 28 (.b true) .nil)))))))))))))))))
    · try simp only [if_neg h1]
      have f9 : Ev F X (.call 110 [(.oi a0.f1), (.oi 1), (.oi 9999)] [] [] [(.one (.val (.bool (m110 a0.f1 1 9999))))]) := (e110 (a0 := a0.f1) (a1 := 1) (a2 := 9999))
      by_cases h2 : (!(m110 a0.f1 1 9999)) = true
      · try simp only [if_pos h2]
        exact callP_ok (ps := []) (os := []) (rs := [(.oi 3)]) (by kernel_rfl) (.f (nt h0) (.f (nt h0) (.f (nt h0) (.f (nt h0) (.f (nt h0) (.h 14 (.b false) (.h 16 (.b false) (.h 18 (.b false) (.h 20 (.b false) (.h 22 (.b false) (.r 23 [] [] f5 (.f (nt h0) (.f (nt h0) (.f (nt h1) (.h 24 (.b false) (.h 27 (.b false) (.h 28 (.b false) (.r 38 [] [] f9 (.f h2 (.h 41 (.b true) .nil))))))))))))))))))))
      · try simp only [if_neg h2]
        exact callP_ok (ps := []) (os := []) (rs := [(.oi 0)]) (by kernel_rfl) (.f (nt h0) (.f (nt h0) (.f (nt h0) (.f (nt h0) (.f (nt h0) (.h 14 (.b false) (.h 16 (.b false) (.h 18 (.b false) (.h 20 (.b false) (.h 22 (.b false) (.r 23 [] [] f5 (.f (nt h0) (.f (nt h0) (.f (nt h1) (.h 24 (.b false) (.h 27 (.b false) (.h 28 (.b false) (.r 38 [] [] f9 (.f (nt h2) (.h 41 (.b false) .nil))))))))))))))))))))
/-! loop 107_0 -/
inductive O107_0 where
  | k0 (w0 : Int) (w1 : Bool)
  | k1 (w0 : Int)
def r107_0 (a0 : (List K_si)) : List K_si → Int → O107_0
  | x0 :: y0, i =>
    if ((m109 x0) != 0) = true then (O107_0.k1 (m109 x0)) else
    (r107_0 a0 y0 (i + 1) )
  | [], i => (O107_0.k0 i (decide (i < ((length (map b_si a0)) : Int))))
def h107_0 (l0_0 : Nat) (a0 : (List K_si)) (i : Int)  : St := ⟨[(0, (.one (.bor l0_0 (map b_si a0)))), (3, (.one (.val (.int .i64 i))))], []⟩
def ex107_0 : O107_0 → VX.Exit
  | .k0 _ _ => (.exit 0)
  | .k1 _ => .ret
def fin107_0 (l0_0 : Nat) (a0 : (List K_si)) : O107_0 → St
  | .k0 w0 w1 => ⟨[(0, (.one (.bor l0_0 (map b_si a0)))), (3, (.one (.val (.int .i64 w0)))), (11, (.one (.val (.bool w1))))], []⟩
  | .k1 w0 => ⟨[(2, (.one (.val (.int .i64 w0))))], []⟩
theorem t107_0 {l0_0 : Nat} {a0 : (List K_si)} (hy0 : length a0 * 24 ≤ 140737488351232) (hy1 : ∀ z ∈ a0, os_si z) : ∀ (y0 : List K_si) (p : List K_si) , p ++ y0 = a0 → Ev F X (.code l107_0 (h107_0 l0_0 a0 (length p : Int) ) (ex107_0 (r107_0 a0 y0 (length p : Int) )) (fin107_0 l0_0 a0 (r107_0 a0 y0 (length p : Int) )))
  | [], p, hp0 => by
    have hc : ¬ (decide ((length p : Int) < ((length (map b_si a0)) : Int))) = true := by
      rw [← hp0]; simp only [length_map, length_set, length_append, length_replicate, length_cons, length_nil, decide_eq_true_eq]; omega
    have st := codeH_ok (F := F) (X := X) (c := b107_0) (t := 0) (hs := [(8, .b false)]) (σ := h107_0 l0_0 a0 (length p : Int) ) (σ' := fin107_0 l0_0 a0 (.k0 (length p : Int) (decide ((length p : Int) < ((length (map b_si a0)) : Int))))) (e := (.exit 0)) (t' := 9) (hs' := []) (q := [(decide ((length p : Int) < ((length (map b_si a0)) : Int))) = false]) (by kernel_rfl) ⟨(nt hc), trivial⟩
    exact .loopX st (show ((.exit 0) : VX.Exit) ≠ .normal from by simp)
  | x0 :: y0, p, hp0 => by
    have hc : (decide ((length p : Int) < ((length (map b_si a0)) : Int))) = true := by
      rw [← hp0]; simp only [length_map, length_set, length_append, length_replicate, length_cons, length_nil, decide_eq_true_eq]; omega
    have Hx0 : (a0)[Int.toNat (length p : Int)]? = some x0 := by
      rw [← hp0, Int.toNat_natCast]; simp
    have Mx0_0 := hy1 x0 (List.mem_of_getElem? Hx0)
    have hlen : length (a0) = length p + length y0 + 1 := by rw [← hp0]; simp; omega
    have hw : IntKind.wrap .i64 ((length p : Int) + 1) = (length p : Int) + 1 := wrap64 (by omega)
    simp only [r107_0]
    by_cases h_1 : ((m109 x0) != 0) = true
    · try simp only [if_pos h_1]
      have st := codeH_ok (F := F) (X := X) (c := b107_0) (t := 0) (hs := [(8, .b true), (14, .row [(.val (.string x0.f0)), (.i x0.f1)]), (16, .ret [] [(.oi (m109 x0))] [] []), (23, .b true)]) (σ := h107_0 l0_0 a0 (length p : Int) ) (σ' := fin107_0 l0_0 a0 (.k1 (m109 x0))) (e := .ret) (t' := 28) (hs' := []) (q := [(decide ((length p : Int) < ((length (map b_si a0)) : Int))) = true, 0 ≤ (length p : Int), (map b_si a0)[(Int.toNat (length p : Int))]? = some [(.val (.string x0.f0)), (.i x0.f1)], Ev F X (.call 109 [(.bptr (l0_0 + 1) [(.val (.string x0.f0)), (.i x0.f1)])] [] [] [(.oi (m109 x0))]), ((m109 x0) != 0) = true]) (by kernel_rfl) ⟨hc, (by omega), (by rw [getElem?_map, Hx0]; rfl), (e109 (a0 := x0) (by assumption)), h_1, trivial⟩
      exact .loopX st (show (.ret : VX.Exit) ≠ .normal from by simp)
    · try simp only [if_neg h_1]
      have st := codeH_ok (F := F) (X := X) (c := b107_0) (t := 0) (hs := [(8, .b true), (14, .row [(.val (.string x0.f0)), (.i x0.f1)]), (16, .ret [] [(.oi (m109 x0))] [] []), (23, .b false)]) (σ := h107_0 l0_0 a0 (length p : Int) ) (σ' := ⟨[(0, (.one (.bor l0_0 (map b_si a0)))), (3, (.oi (IntKind.wrap .i64 ((length p : Int) + 1))))], []⟩) (e := .normal) (t' := 30) (hs' := []) (q := [(decide ((length p : Int) < ((length (map b_si a0)) : Int))) = true, 0 ≤ (length p : Int), (map b_si a0)[(Int.toNat (length p : Int))]? = some [(.val (.string x0.f0)), (.i x0.f1)], Ev F X (.call 109 [(.bptr (l0_0 + 1) [(.val (.string x0.f0)), (.i x0.f1)])] [] [] [(.oi (m109 x0))]), ((m109 x0) != 0) = false, True]) (by kernel_rfl) ⟨hc, (by omega), (by rw [getElem?_map, Hx0]; rfl), (e109 (a0 := x0) (by assumption)), (nt h_1), trivial, trivial⟩
      have ih := t107_0 (l0_0 := l0_0) (a0 := a0) hy0 hy1 y0 (p ++ [x0])  (by rw [append_assoc]; exact hp0)
      rw [show ((p ++ [x0]).length : Int) = (p.length : Int) + 1 from by simp] at ih
      rw [show (⟨[(0, (.one (.bor l0_0 (map b_si a0)))), (3, (.oi (IntKind.wrap .i64 ((length p : Int) + 1))))], []⟩ : St) = h107_0 l0_0 a0 ((length p : Int) + 1)  from (by unfold h107_0; simp only [hw]; done)] at st
      exact .loopN st ih
/-! loop.example/g00539/spec.l13Fault -/
def m107 (a0 : (List K_si)) : Int :=
  if (decide (((length (map b_si a0)) : Int) > 12)) = true then 2 else
  (match r107_0 a0 a0 0 with | .k0 w0_1 w1_1 => 0 | .k1 w0_1 => w0_1)
theorem e107 {l0_0 : Nat} {a0 : (List K_si)} (hy0 : length a0 * 24 ≤ 140737488351232) (hy1 : ∀ z ∈ a0, os_si z) : Ev F X (.call 107 [(.one (.bor l0_0 (map b_si a0)))] [] [] [(.one (.val (.int .i64 (m107 a0))))]) := by
  unfold m107
  by_cases h0 : (decide (((length (map b_si a0)) : Int) > 12)) = true
  · try simp only [if_pos h0]
    exact callP_ok (ps := []) (os := []) (rs := [(.oi 2)]) (by kernel_rfl) (.f h0 (.h 8 (.b true) .nil))
  · try simp only [if_neg h0]
    cases h1 : r107_0 a0 a0 0 with
    | k0 w0_1 w1_1 =>
      try dsimp only
      have f1 : (⟨[(0, (.one (.bor l0_0 (map b_si a0)))), (3, (.oi 0))], []⟩ : St) = h107_0 l0_0 a0 0  := (by rfl)
      have f2 : Ev F X (.code l107_0 (h107_0 l0_0 a0 0 ) (.exit 0) ⟨[(0, (.one (.bor l0_0 (map b_si a0)))), (3, (.oi w0_1)), (11, (.one (.val (.bool w1_1))))], []⟩) := (by have t : Ev F X (.code l107_0 (h107_0 l0_0 a0 0 ) (ex107_0 (r107_0 a0 a0 0)) (fin107_0 l0_0 a0 (r107_0 a0 a0 0))) := t107_0 (l0_0 := l0_0) (a0 := a0) (by assumption) (by assumption) a0 []  rfl; rw [h1] at t; exact t)
      exact callP_ok (ps := []) (os := []) (rs := [(.oi 0)]) (by kernel_rfl) (.f (nt h0) (.f f1 (.f f2 (.h 8 (.b false) (.h 11 (.loop (h107_0 l0_0 a0 0 ) (.exit 0) ⟨[(0, (.one (.bor l0_0 (map b_si a0)))), (3, (.oi w0_1)), (11, (.one (.val (.bool w1_1))))], []⟩) .nil)))))
    | k1 w0_1 =>
      try dsimp only
      have f1 : (⟨[(0, (.one (.bor l0_0 (map b_si a0)))), (3, (.oi 0))], []⟩ : St) = h107_0 l0_0 a0 0  := (by rfl)
      have f2 : Ev F X (.code l107_0 (h107_0 l0_0 a0 0 ) .ret ⟨[(2, (.oi w0_1))], []⟩) := (by have t : Ev F X (.code l107_0 (h107_0 l0_0 a0 0 ) (ex107_0 (r107_0 a0 a0 0)) (fin107_0 l0_0 a0 (r107_0 a0 a0 0))) := t107_0 (l0_0 := l0_0) (a0 := a0) (by assumption) (by assumption) a0 []  rfl; rw [h1] at t; exact t)
      exact callP_ok (ps := []) (os := []) (rs := [(.oi w0_1)]) (by kernel_rfl) (.f (nt h0) (.f f1 (.f f2 (.h 8 (.b false) (.h 11 (.loop (h107_0 l0_0 a0 0 ) .ret ⟨[(2, (.oi w0_1))], []⟩) .nil)))))
theorem len12_107 (a : List K_si) (h : ¬ ((m107 a) != 0) = true) : length a ≤ 12 := by
  unfold m107 at h
  split at h
  · simp at h
  · rename_i h2
    simp only [decide_eq_true_eq, length_map] at h2
    omega
theorem wok_r107 (a : List K_si) : ∀ (l : List K_si) (i : Int), (match r107_0 a l i with | .k0 .. => (0 : Int) | .k1 w => w) = 0 → ∀ z ∈ l, 1 ≤ z.f1 ∧ z.f1 ≤ 9999
  | [], i, _, x, hx => by cases hx
  | y :: l, i, h, x, hx => by
    simp only [r107_0] at h
    by_cases h1 : ((m109 y) != 0) = true
    · simp only [if_pos h1] at h; simp [h] at h1
    · simp only [if_neg h1] at h
      rcases List.mem_cons.1 hx with rfl | hx
      · have h2 : m109 x = 0 := by simpa using h1
        unfold m109 at h2
        split at h2
        · cases h2
        · split at h2
          · cases h2
          · split at h2
            · cases h2
            · exact jn110 (by assumption)
      · exact wok_r107 a l (i + 1) h x hx
theorem wok107 (a : List K_si) (h : ¬ ((m107 a) != 0) = true) : ∀ z ∈ a, 1 ≤ z.f1 ∧ z.f1 ≤ 9999 := by
  have h2 : m107 a = 0 := by simpa using h
  unfold m107 at h2
  split at h2
  · cases h2
  · exact wok_r107 a a 0 h2
/-! loop.example/g00539/spec.l1Amount -/
def m115 (a0 : Int) : Bool :=
  (m110 a0 0 1000000)
theorem e115 {a0 : Int} : Ev F X (.call 115 [(.one (.val (.int .i64 a0)))] [] [] [(.one (.val (.bool (m110 a0 0 1000000))))]) := by
  have f0 : Ev F X (.call 110 [(.oi a0), (.oi 0), (.oi 1000000)] [] [] [(.one (.val (.bool (m110 a0 0 1000000))))]) := (e110 (a0 := a0) (a1 := 0) (a2 := 1000000))
  exact callP_ok (ps := []) (os := []) (rs := [(.one (.val (.bool (m110 a0 0 1000000))))]) (by kernel_rfl) (.r 5 [] [] f0 .nil)
/-! loop 79_0 -/
inductive O79_0 where
  | k0 (w0 : Int) (w1 : Bool)
  | k1 (w0 : Int)
def r79_0 (a0 : (List K_si)) (a1 : ByteArray) : List K_si → Int → O79_0
  | x0 :: y0, i =>
    if (x0.f0.toList == a1.toList) = true then (O79_0.k1 i) else
    (r79_0 a0 a1 y0 (i + 1) )
  | [], i => (O79_0.k0 i (decide (i < ((length (map b_si a0)) : Int))))
def h79_0 (l0_0 : Nat) (a0 : (List K_si)) (a1 : ByteArray) (i : Int)  : St := ⟨[(0, (.one (.bor l0_0 (map b_si a0)))), (1, (.one (.val (.string a1)))), (5, (.one (.val (.int .i64 i))))], []⟩
def ex79_0 : O79_0 → VX.Exit
  | .k0 _ _ => (.exit 0)
  | .k1 _ => .ret
def fin79_0 (l0_0 : Nat) (a0 : (List K_si)) (a1 : ByteArray) : O79_0 → St
  | .k0 w0 w1 => ⟨[(0, (.one (.bor l0_0 (map b_si a0)))), (1, (.one (.val (.string a1)))), (5, (.one (.val (.int .i64 w0)))), (9, (.one (.val (.bool w1))))], []⟩
  | .k1 w0 => ⟨[(4, (.one (.val (.int .i64 w0))))], []⟩
theorem t79_0 {l0_0 : Nat} {a0 : (List K_si)} {a1 : ByteArray} (hy0 : length a0 * 24 ≤ 140737488351232) : ∀ (y0 : List K_si) (p : List K_si) , p ++ y0 = a0 → Ev F X (.code l79_0 (h79_0 l0_0 a0 a1 (length p : Int) ) (ex79_0 (r79_0 a0 a1 y0 (length p : Int) )) (fin79_0 l0_0 a0 a1 (r79_0 a0 a1 y0 (length p : Int) )))
  | [], p, hp0 => by
    have hc : ¬ (decide ((length p : Int) < ((length (map b_si a0)) : Int))) = true := by
      rw [← hp0]; simp only [length_map, length_set, length_append, length_replicate, length_cons, length_nil, decide_eq_true_eq]; omega
    have st := codeH_ok (F := F) (X := X) (c := b79_0) (t := 0) (hs := [(8, .b false)]) (σ := h79_0 l0_0 a0 a1 (length p : Int) ) (σ' := fin79_0 l0_0 a0 a1 (.k0 (length p : Int) (decide ((length p : Int) < ((length (map b_si a0)) : Int))))) (e := (.exit 0)) (t' := 9) (hs' := []) (q := [(decide ((length p : Int) < ((length (map b_si a0)) : Int))) = false]) (by kernel_rfl) ⟨(nt hc), trivial⟩
    exact .loopX st (show ((.exit 0) : VX.Exit) ≠ .normal from by simp)
  | x0 :: y0, p, hp0 => by
    have hc : (decide ((length p : Int) < ((length (map b_si a0)) : Int))) = true := by
      rw [← hp0]; simp only [length_map, length_set, length_append, length_replicate, length_cons, length_nil, decide_eq_true_eq]; omega
    have Hx0 : (a0)[Int.toNat (length p : Int)]? = some x0 := by
      rw [← hp0, Int.toNat_natCast]; simp
    have hlen : length (a0) = length p + length y0 + 1 := by rw [← hp0]; simp; omega
    have hw : IntKind.wrap .i64 ((length p : Int) + 1) = (length p : Int) + 1 := wrap64 (by omega)
    simp only [r79_0]
    by_cases h_1 : (x0.f0.toList == a1.toList) = true
    · try simp only [if_pos h_1]
      have st := codeH_ok (F := F) (X := X) (c := b79_0) (t := 0) (hs := [(8, .b true), (14, .row [(.val (.string x0.f0)), (.i x0.f1)]), (23, .b true)]) (σ := h79_0 l0_0 a0 a1 (length p : Int) ) (σ' := fin79_0 l0_0 a0 a1 (.k1 (length p : Int))) (e := .ret) (t' := 28) (hs' := []) (q := [(decide ((length p : Int) < ((length (map b_si a0)) : Int))) = true, 0 ≤ (length p : Int), (map b_si a0)[(Int.toNat (length p : Int))]? = some [(.val (.string x0.f0)), (.i x0.f1)], (x0.f0.toList == a1.toList) = true]) (by kernel_rfl) ⟨hc, (by omega), (by rw [getElem?_map, Hx0]; rfl), h_1, trivial⟩
      exact .loopX st (show (.ret : VX.Exit) ≠ .normal from by simp)
    · try simp only [if_neg h_1]
      have st := codeH_ok (F := F) (X := X) (c := b79_0) (t := 0) (hs := [(8, .b true), (14, .row [(.val (.string x0.f0)), (.i x0.f1)]), (23, .b false)]) (σ := h79_0 l0_0 a0 a1 (length p : Int) ) (σ' := ⟨[(0, (.one (.bor l0_0 (map b_si a0)))), (1, (.one (.val (.string a1)))), (5, (.oi (IntKind.wrap .i64 ((length p : Int) + 1))))], []⟩) (e := .normal) (t' := 30) (hs' := []) (q := [(decide ((length p : Int) < ((length (map b_si a0)) : Int))) = true, 0 ≤ (length p : Int), (map b_si a0)[(Int.toNat (length p : Int))]? = some [(.val (.string x0.f0)), (.i x0.f1)], (x0.f0.toList == a1.toList) = false, True]) (by kernel_rfl) ⟨hc, (by omega), (by rw [getElem?_map, Hx0]; rfl), (nt h_1), trivial, trivial⟩
      have ih := t79_0 (l0_0 := l0_0) (a0 := a0) (a1 := a1) hy0 y0 (p ++ [x0])  (by rw [append_assoc]; exact hp0)
      rw [show ((p ++ [x0]).length : Int) = (p.length : Int) + 1 from by simp] at ih
      rw [show (⟨[(0, (.one (.bor l0_0 (map b_si a0)))), (1, (.one (.val (.string a1)))), (5, (.oi (IntKind.wrap .i64 ((length p : Int) + 1))))], []⟩ : St) = h79_0 l0_0 a0 a1 ((length p : Int) + 1)  from (by unfold h79_0; simp only [hw]; done)] at st
      exact .loopN st ih
/-! loop.example/g00539/spec.l13At -/
def m79 (a0 : (List K_si)) (a1 : ByteArray) : Int :=
  (match r79_0 a0 a1 a0 0 with | .k0 w0_0 w1_0 => (-1) | .k1 w0_0 => w0_0)
theorem e79 {l0_0 : Nat} {a0 : (List K_si)} {a1 : ByteArray} (hy0 : length a0 * 24 ≤ 140737488351232) : Ev F X (.call 79 [(.one (.bor l0_0 (map b_si a0))), (.one (.val (.string a1)))] [] [] [(.one (.val (.int .i64 (m79 a0 a1))))]) := by
  unfold m79
  cases h0 : r79_0 a0 a1 a0 0 with
  | k0 w0_0 w1_0 =>
    try dsimp only
    have f0 : (⟨[(0, (.one (.bor l0_0 (map b_si a0)))), (1, (.one (.val (.string a1)))), (5, (.oi 0))], []⟩ : St) = h79_0 l0_0 a0 a1 0  := (by rfl)
    have f1 : Ev F X (.code l79_0 (h79_0 l0_0 a0 a1 0 ) (.exit 0) ⟨[(0, (.one (.bor l0_0 (map b_si a0)))), (1, (.one (.val (.string a1)))), (5, (.oi w0_0)), (9, (.one (.val (.bool w1_0))))], []⟩) := (by have t : Ev F X (.code l79_0 (h79_0 l0_0 a0 a1 0 ) (ex79_0 (r79_0 a0 a1 a0 0)) (fin79_0 l0_0 a0 a1 (r79_0 a0 a1 a0 0))) := t79_0 (l0_0 := l0_0) (a0 := a0) (a1 := a1) (by assumption) a0 []  rfl; rw [h0] at t; exact t)
    exact callP_ok (ps := []) (os := []) (rs := [(.oi (-1))]) (by kernel_rfl) (.f f0 (.f f1 (.h 4 (.loop (h79_0 l0_0 a0 a1 0 ) (.exit 0) ⟨[(0, (.one (.bor l0_0 (map b_si a0)))), (1, (.one (.val (.string a1)))), (5, (.oi w0_0)), (9, (.one (.val (.bool w1_0))))], []⟩) .nil)))
  | k1 w0_0 =>
    try dsimp only
    have f0 : (⟨[(0, (.one (.bor l0_0 (map b_si a0)))), (1, (.one (.val (.string a1)))), (5, (.oi 0))], []⟩ : St) = h79_0 l0_0 a0 a1 0  := (by rfl)
    have f1 : Ev F X (.code l79_0 (h79_0 l0_0 a0 a1 0 ) .ret ⟨[(4, (.oi w0_0))], []⟩) := (by have t : Ev F X (.code l79_0 (h79_0 l0_0 a0 a1 0 ) (ex79_0 (r79_0 a0 a1 a0 0)) (fin79_0 l0_0 a0 a1 (r79_0 a0 a1 a0 0))) := t79_0 (l0_0 := l0_0) (a0 := a0) (a1 := a1) (by assumption) a0 []  rfl; rw [h0] at t; exact t)
    exact callP_ok (ps := []) (os := []) (rs := [(.oi w0_0)]) (by kernel_rfl) (.f f0 (.f f1 (.h 4 (.loop (h79_0 l0_0 a0 a1 0 ) .ret ⟨[(4, (.oi w0_0))], []⟩) .nil)))
theorem ixr79_0 (a0 : (List K_si)) (a1 : ByteArray) : ∀ (l : List K_si) (i : Int), (∃ (w0 : _) (w1 : _), r79_0 a0 a1 l i = .k0 w0 w1) ∨ (∃ w, r79_0 a0 a1 l i = .k1 w ∧ i ≤ w ∧ w < i + l.length)
  | [], i => .inl ⟨i, (decide (i < ((length (map b_si a0)) : Int))), rfl⟩
  | x :: l, i => by
    have ih := ixr79_0 a0 a1 l (i + 1)
    simp only [r79_0]
    (repeat' split)
    all_goals first
      | exact .inr ⟨i, rfl, by omega, by simp only [length_cons]; omega⟩
      | (rcases ih with ⟨w0, w1, h⟩ | ⟨w, h, h1, h2⟩
         · exact .inl ⟨w0, w1, h⟩
         · exact .inr ⟨w, h, by omega, by simp only [length_cons]; omega⟩)
theorem ix79 (a0 : (List K_si)) (a1 : ByteArray) : -1 ≤ m79 a0 a1 ∧ m79 a0 a1 < (length a0 : Int) := by
  unfold m79
  rcases ixr79_0 a0 a1 a0 0 with ⟨w0, w1, h⟩ | ⟨w, h, h1, h2⟩ <;> simp only [h] <;> omega
/-! loop 108_0 -/
inductive O108_0 where
  | k0 (w0 : List K_si) (w1 : Int) (w2 : Bool)
def r108_0 (a0 : (List K_si)) : List K_si → Int → List K_si → O108_0
  | x0 :: y0, i, v0 =>
    if (decide ((m79 v0 x0.f0) ≥ 0)) = true then (r108_0 a0 y0 (i + 1) (set v0 (Int.toNat (m79 v0 x0.f0)) (K_si.mk ((getD v0 (Int.toNat (m79 v0 x0.f0)) (K_si.mk (⟨#[]⟩ : ByteArray) 0)).f0) (IntKind.wrap .i64 (((getD v0 (Int.toNat (m79 v0 x0.f0)) (K_si.mk (⟨#[]⟩ : ByteArray) 0)).f1) + x0.f1))))) else
    (r108_0 a0 y0 (i + 1) (v0 ++ ([x0])))
  | [], i, v0 => (O108_0.k0 v0 i (decide (i < ((length (map b_si a0)) : Int))))
def h108_0 (l0_0 : Nat) (a0 : (List K_si)) (i : Int) (v0 : List K_si) : St := ⟨[(0, (.one (.bor l0_0 (map b_si a0)))), (3, (.one (.ref ⟨(3, 0, 0), [], 0, (length (map d_si v0))⟩))), (4, (.one (.val (.int .i64 i))))], [((3, 0, 0), .live ⟨2, (map d_si v0), []⟩)]⟩
def ex108_0 : O108_0 → VX.Exit
  | .k0 _ _ _ => (.exit 0)
def fin108_0 (l0_0 : Nat) (a0 : (List K_si)) : O108_0 → St
  | .k0 w0 w1 w2 => ⟨[(0, (.one (.bor l0_0 (map b_si a0)))), (3, (.one (.ref ⟨(3, 0, 0), [], 0, (length (map d_si w0))⟩))), (4, (.one (.val (.int .i64 w1)))), (10, (.one (.val (.bool w2))))], [((3, 0, 0), .live ⟨2, (map d_si w0), []⟩)]⟩
theorem t108_0 {l0_0 : Nat} {a0 : (List K_si)} (hy0 : length a0 * 24 ≤ 70368744177664) : ∀ (y0 : List K_si) (p : List K_si) (v0 : List K_si), p ++ y0 = a0 → (length v0 + length y0) * 24 ≤ 70368744177664 → Ev F X (.code l108_0 (h108_0 l0_0 a0 (length p : Int) v0) (ex108_0 (r108_0 a0 y0 (length p : Int) v0)) (fin108_0 l0_0 a0 (r108_0 a0 y0 (length p : Int) v0)))
  | [], p, v0, hp0, hi0 => by
    have hc : ¬ (decide ((length p : Int) < ((length (map b_si a0)) : Int))) = true := by
      rw [← hp0]; simp only [length_map, length_set, length_append, length_replicate, length_cons, length_nil, decide_eq_true_eq]; omega
    have hj0 := hi0; try simp only [length_map, length_set, length_append, length_replicate, length_cons, length_nil, Int.toNat_natCast] at hj0
    have st := codeH_ok (F := F) (X := X) (c := b108_0) (t := 0) (hs := [(8, .b false)]) (σ := h108_0 l0_0 a0 (length p : Int) v0) (σ' := fin108_0 l0_0 a0 (.k0 v0 (length p : Int) (decide ((length p : Int) < ((length (map b_si a0)) : Int))))) (e := (.exit 0)) (t' := 9) (hs' := []) (q := [(decide ((length p : Int) < ((length (map b_si a0)) : Int))) = false]) (by kernel_rfl) ⟨(nt hc), trivial⟩
    exact .loopX st (show ((.exit 0) : VX.Exit) ≠ .normal from by simp)
  | x0 :: y0, p, v0, hp0, hi0 => by
    have hc : (decide ((length p : Int) < ((length (map b_si a0)) : Int))) = true := by
      rw [← hp0]; simp only [length_map, length_set, length_append, length_replicate, length_cons, length_nil, decide_eq_true_eq]; omega
    have Hx0 : (a0)[Int.toNat (length p : Int)]? = some x0 := by
      rw [← hp0, Int.toNat_natCast]; simp
    have hlen : length (a0) = length p + length y0 + 1 := by rw [← hp0]; simp; omega
    have hw : IntKind.wrap .i64 ((length p : Int) + 1) = (length p : Int) + 1 := wrap64 (by omega)
    have hj0 := hi0; try simp only [length_map, length_set, length_append, length_replicate, length_cons, length_nil, Int.toNat_natCast] at hj0
    simp only [r108_0]
    by_cases h_1 : (decide ((m79 v0 x0.f0) ≥ 0)) = true
    · try simp only [if_pos h_1]
      have st := codeH_ok (F := F) (X := X) (c := b108_0) (t := 0) (hs := [(8, .b true), (16, .row [(.val (.string x0.f0)), (.i x0.f1)]), (22, .ret [] [(.oi (m79 v0 x0.f0))] [] [(map b_si v0)]), (29, .b true), (43, .rowD [(.val (.string ((getD v0 (Int.toNat (m79 v0 x0.f0)) (K_si.mk (⟨#[]⟩ : ByteArray) 0)).f0))), (.i ((getD v0 (Int.toNat (m79 v0 x0.f0)) (K_si.mk (⟨#[]⟩ : ByteArray) 0)).f1))]), (49, .row [(.val (.string x0.f0)), (.i x0.f1)]), (61, .rowD [(.val (.string ((getD v0 (Int.toNat (m79 v0 x0.f0)) (K_si.mk (⟨#[]⟩ : ByteArray) 0)).f0))), (.i ((getD v0 (Int.toNat (m79 v0 x0.f0)) (K_si.mk (⟨#[]⟩ : ByteArray) 0)).f1))]), (62, .norm (3, 0, 0) (map d_si (set v0 (Int.toNat (m79 v0 x0.f0)) (K_si.mk ((getD v0 (Int.toNat (m79 v0 x0.f0)) (K_si.mk (⟨#[]⟩ : ByteArray) 0)).f0) (IntKind.wrap .i64 (((getD v0 (Int.toNat (m79 v0 x0.f0)) (K_si.mk (⟨#[]⟩ : ByteArray) 0)).f1) + x0.f1))))))]) (σ := h108_0 l0_0 a0 (length p : Int) v0) (σ' := ⟨[(0, (.one (.bor l0_0 (map b_si a0)))), (3, (.one (.ref ⟨(3, 0, 0), [], 0, (length (map d_si v0))⟩))), (4, (.oi (IntKind.wrap .i64 ((length p : Int) + 1))))], [((3, 0, 0), .live ⟨2, (map d_si (set v0 (Int.toNat (m79 v0 x0.f0)) (K_si.mk ((getD v0 (Int.toNat (m79 v0 x0.f0)) (K_si.mk (⟨#[]⟩ : ByteArray) 0)).f0) (IntKind.wrap .i64 (((getD v0 (Int.toNat (m79 v0 x0.f0)) (K_si.mk (⟨#[]⟩ : ByteArray) 0)).f1) + x0.f1))))), []⟩)]⟩) (e := .normal) (t' := 69) (hs' := []) (q := [(decide ((length p : Int) < ((length (map b_si a0)) : Int))) = true, 0 ≤ (length p : Int), (map b_si a0)[(Int.toNat (length p : Int))]? = some [(.val (.string x0.f0)), (.i x0.f1)], 0 + (length (map d_si v0)) ≤ (length (map d_si v0)), fullR (take (length (map d_si v0)) (drop 0 (map d_si v0))) = true, toBR (take (length (map d_si v0)) (drop 0 (map d_si v0))) = (map b_si v0), Ev F X (.call 79 [(.one (.bor 0 (map b_si v0))), (.one (.val (.string x0.f0)))] [] [] [(.oi (m79 v0 x0.f0))]), (decide ((m79 v0 x0.f0) ≥ 0)) = true, 0 + (length (map d_si v0)) ≤ (length (map d_si v0)), 0 ≤ (m79 v0 x0.f0) ∧ (m79 v0 x0.f0) < ((length (map d_si v0)) : Int), (map d_si v0)[(0 + (Int.toNat (m79 v0 x0.f0)))]? = some [(.val (.string ((getD v0 (Int.toNat (m79 v0 x0.f0)) (K_si.mk (⟨#[]⟩ : ByteArray) 0)).f0))), (.i ((getD v0 (Int.toNat (m79 v0 x0.f0)) (K_si.mk (⟨#[]⟩ : ByteArray) 0)).f1))], 0 ≤ (length p : Int), (map b_si a0)[(Int.toNat (length p : Int))]? = some [(.val (.string x0.f0)), (.i x0.f1)], True, 0 + (length (map d_si v0)) ≤ (length (map d_si v0)), 0 ≤ (m79 v0 x0.f0) ∧ (m79 v0 x0.f0) < ((length (map d_si v0)) : Int), (map d_si v0)[(0 + (Int.toNat (m79 v0 x0.f0)))]? = some [(.val (.string ((getD v0 (Int.toNat (m79 v0 x0.f0)) (K_si.mk (⟨#[]⟩ : ByteArray) 0)).f0))), (.i ((getD v0 (Int.toNat (m79 v0 x0.f0)) (K_si.mk (⟨#[]⟩ : ByteArray) 0)).f1))], (set (map d_si v0) (0 + (Int.toNat (m79 v0 x0.f0))) [(.val (.string ((getD v0 (Int.toNat (m79 v0 x0.f0)) (K_si.mk (⟨#[]⟩ : ByteArray) 0)).f0))), (.i (IntKind.wrap .i64 (((getD v0 (Int.toNat (m79 v0 x0.f0)) (K_si.mk (⟨#[]⟩ : ByteArray) 0)).f1) + x0.f1)))]) = (map d_si (set v0 (Int.toNat (m79 v0 x0.f0)) (K_si.mk ((getD v0 (Int.toNat (m79 v0 x0.f0)) (K_si.mk (⟨#[]⟩ : ByteArray) 0)).f0) (IntKind.wrap .i64 (((getD v0 (Int.toNat (m79 v0 x0.f0)) (K_si.mk (⟨#[]⟩ : ByteArray) 0)).f1) + x0.f1))))), True]) (by kernel_rfl) ⟨hc, (by omega), (by rw [getElem?_map, Hx0]; rfl), (by omega), (ft_si _ _ _), (tb_si _), (e79 (a0 := v0) (a1 := x0.f0) (by omega)), h_1, (by omega), (by have q := ix79 v0 x0.f0; simp only [decide_eq_true_eq, length_map] at *; omega), (by rw [Nat.zero_add, getElem?_map, getD_at v0 (Int.toNat (m79 v0 x0.f0)) (K_si.mk (⟨#[]⟩ : ByteArray) 0) (by first | exact True.intro | with_reducible rfl | with_reducible assumption | omega | (have q := ix79 v0 x0.f0; simp only [decide_eq_true_eq, length_map] at *; omega) | (unfold m79; (repeat' split) <;> simp_all <;> omega) | (simp only [decide_eq_true_eq] at *; omega) | (simp only [length_map]; omega) | (simp; omega) | (simp [take_of_length_le]; done) | assumption | trivial | (simp [*, byteRows_eq, ints_y]; done))]; rfl), (by omega), (by rw [getElem?_map, Hx0]; rfl), trivial, (by omega), (by have q := ix79 v0 x0.f0; simp only [decide_eq_true_eq, length_map] at *; omega), (by rw [Nat.zero_add, getElem?_map, getD_at v0 (Int.toNat (m79 v0 x0.f0)) (K_si.mk (⟨#[]⟩ : ByteArray) 0) (by first | exact True.intro | with_reducible rfl | with_reducible assumption | omega | (have q := ix79 v0 x0.f0; simp only [decide_eq_true_eq, length_map] at *; omega) | (unfold m79; (repeat' split) <;> simp_all <;> omega) | (simp only [decide_eq_true_eq] at *; omega) | (simp only [length_map]; omega) | (simp; omega) | (simp [take_of_length_le]; done) | assumption | trivial | (simp [*, byteRows_eq, ints_y]; done))]; rfl), (by simp [byteRows_eq, ints_y, take_of_length_le, d_y, d_LyE, d_b, d_si, d_LsiE, d_iLsiE, d_i, d_s, d_LyEi, d_LiE, fromBR_y, fromBR_b, fromBR_si, fromBR_i, fromBR_s]; done), trivial, trivial⟩
      have ih := t108_0 (l0_0 := l0_0) (a0 := a0) hy0 y0 (p ++ [x0]) (set v0 (Int.toNat (m79 v0 x0.f0)) (K_si.mk ((getD v0 (Int.toNat (m79 v0 x0.f0)) (K_si.mk (⟨#[]⟩ : ByteArray) 0)).f0) (IntKind.wrap .i64 (((getD v0 (Int.toNat (m79 v0 x0.f0)) (K_si.mk (⟨#[]⟩ : ByteArray) 0)).f1) + x0.f1)))) (by rw [append_assoc]; exact hp0) (by simp only [length_map, length_set, length_append, length_replicate, length_cons, length_nil]; omega)
      rw [show ((p ++ [x0]).length : Int) = (p.length : Int) + 1 from by simp] at ih
      rw [show (⟨[(0, (.one (.bor l0_0 (map b_si a0)))), (3, (.one (.ref ⟨(3, 0, 0), [], 0, (length (map d_si v0))⟩))), (4, (.oi (IntKind.wrap .i64 ((length p : Int) + 1))))], [((3, 0, 0), .live ⟨2, (map d_si (set v0 (Int.toNat (m79 v0 x0.f0)) (K_si.mk ((getD v0 (Int.toNat (m79 v0 x0.f0)) (K_si.mk (⟨#[]⟩ : ByteArray) 0)).f0) (IntKind.wrap .i64 (((getD v0 (Int.toNat (m79 v0 x0.f0)) (K_si.mk (⟨#[]⟩ : ByteArray) 0)).f1) + x0.f1))))), []⟩)]⟩ : St) = h108_0 l0_0 a0 ((length p : Int) + 1) (set v0 (Int.toNat (m79 v0 x0.f0)) (K_si.mk ((getD v0 (Int.toNat (m79 v0 x0.f0)) (K_si.mk (⟨#[]⟩ : ByteArray) 0)).f0) (IntKind.wrap .i64 (((getD v0 (Int.toNat (m79 v0 x0.f0)) (K_si.mk (⟨#[]⟩ : ByteArray) 0)).f1) + x0.f1)))) from (by unfold h108_0; simp only [hw, length_map, length_set, length_append, length_replicate, length_cons, length_nil]; done)] at st
      exact .loopN st ih
    · try simp only [if_neg h_1]
      have st := codeH_ok (F := F) (X := X) (c := b108_0) (t := 0) (hs := [(8, .b true), (16, .row [(.val (.string x0.f0)), (.i x0.f1)]), (22, .ret [] [(.oi (m79 v0 x0.f0))] [] [(map b_si v0)]), (29, .b false), (37, .row [(.val (.string x0.f0)), (.i x0.f1)]), (43, .b true), (46, .norm (3, 0, 0) (map d_si (v0 ++ ([x0]))))]) (σ := h108_0 l0_0 a0 (length p : Int) v0) (σ' := ⟨[(0, (.one (.bor l0_0 (map b_si a0)))), (3, (.one (.ref ⟨(3, 0, 0), [], 0, (length ((take (length (map d_si v0)) (drop 0 (map d_si v0))) ++ ([[(.val (.string x0.f0)), (.i x0.f1)]] : List (List D))))⟩))), (4, (.oi (IntKind.wrap .i64 ((length p : Int) + 1))))], [((3, 0, 0), .live ⟨2, (map d_si (v0 ++ ([x0]))), []⟩)]⟩) (e := .normal) (t' := 53) (hs' := []) (q := [(decide ((length p : Int) < ((length (map b_si a0)) : Int))) = true, 0 ≤ (length p : Int), (map b_si a0)[(Int.toNat (length p : Int))]? = some [(.val (.string x0.f0)), (.i x0.f1)], 0 + (length (map d_si v0)) ≤ (length (map d_si v0)), fullR (take (length (map d_si v0)) (drop 0 (map d_si v0))) = true, toBR (take (length (map d_si v0)) (drop 0 (map d_si v0))) = (map b_si v0), Ev F X (.call 79 [(.one (.bor 0 (map b_si v0))), (.one (.val (.string x0.f0)))] [] [] [(.oi (m79 v0 x0.f0))]), (decide ((m79 v0 x0.f0) ≥ 0)) = false, 0 ≤ (length p : Int), (map b_si a0)[(Int.toNat (length p : Int))]? = some [(.val (.string x0.f0)), (.i x0.f1)], 0 + (length (map d_si v0)) ≤ (length (map d_si v0)), 1 ≤ 1, ((take 1 (drop 0 [[(.val (.string x0.f0)), (.i x0.f1)]])).all fun x => x.all copyable) = true, (length ((take (length (map d_si v0)) (drop 0 (map d_si v0))) ++ ([[(.val (.string x0.f0)), (.i x0.f1)]] : List (List D)))) * 24 ≤ 70368744177664, ∀ r ∈ ([[(.val (.string x0.f0)), (.i x0.f1)]] : List (List D)), r.length = 2, ((take (length (map d_si v0)) (drop 0 (map d_si v0))) ++ ([[(.val (.string x0.f0)), (.i x0.f1)]] : List (List D))) = (map d_si (v0 ++ ([x0]))), True]) (by kernel_rfl) ⟨hc, (by omega), (by rw [getElem?_map, Hx0]; rfl), (by omega), (ft_si _ _ _), (tb_si _), (e79 (a0 := v0) (a1 := x0.f0) (by omega)), (nt h_1), (by omega), (by rw [getElem?_map, Hx0]; rfl), (by omega), (by omega), (by trivial), (by simp only [length_map, length_append, length_cons, length_nil, length_take, length_drop]; omega), (by simp; done), (by simp [byteRows_eq, ints_y, take_of_length_le, d_y, d_LyE, d_b, d_si, d_LsiE, d_iLsiE, d_i, d_s, d_LyEi, d_LiE, fromBR_y, fromBR_b, fromBR_si, fromBR_i, fromBR_s]; done), trivial, trivial⟩
      have ih := t108_0 (l0_0 := l0_0) (a0 := a0) hy0 y0 (p ++ [x0]) (v0 ++ ([x0])) (by rw [append_assoc]; exact hp0) (by simp only [length_map, length_set, length_append, length_replicate, length_cons, length_nil]; omega)
      rw [show ((p ++ [x0]).length : Int) = (p.length : Int) + 1 from by simp] at ih
      rw [show (⟨[(0, (.one (.bor l0_0 (map b_si a0)))), (3, (.one (.ref ⟨(3, 0, 0), [], 0, (length ((take (length (map d_si v0)) (drop 0 (map d_si v0))) ++ ([[(.val (.string x0.f0)), (.i x0.f1)]] : List (List D))))⟩))), (4, (.oi (IntKind.wrap .i64 ((length p : Int) + 1))))], [((3, 0, 0), .live ⟨2, (map d_si (v0 ++ ([x0]))), []⟩)]⟩ : St) = h108_0 l0_0 a0 ((length p : Int) + 1) (v0 ++ ([x0])) from (by unfold h108_0; simp [hw, byteRows_eq, ints_y, take_of_length_le, d_y, d_LyE, d_b, d_si, d_LsiE, d_iLsiE, d_i, d_s, d_LyEi, d_LiE, fromBR_y, fromBR_b, fromBR_si, fromBR_i, fromBR_s]; done)] at st
      exact .loopN st ih
/-! loop.example/g00539/spec.l13Merge -/
def m108 (a0 : (List K_si)) : (List K_si) :=
  (match r108_0 a0 a0 0 ([]) with | .k0 w0_0 w1_0 w2_0 => w0_0)
theorem e108 {l0_0 : Nat} {a0 : (List K_si)} (hy0 : length a0 * 24 ≤ 70368744177664) : Ev F X (.call 108 [(.one (.bor l0_0 (map b_si a0)))] [] [] [(.one (.own 2 (map d_si (m108 a0))))]) := by
  unfold m108
  cases h0 : r108_0 a0 a0 0 ([]) with
  | k0 w0_0 w1_0 w2_0 =>
    try dsimp only
    have f0 : (⟨[(0, (.one (.bor l0_0 (map b_si a0)))), (3, (.one (.ref ⟨(3, 0, 0), [], 0, 0⟩))), (4, (.oi 0))], [((3, 0, 0), .live ⟨2, [], []⟩)]⟩ : St) = h108_0 l0_0 a0 0 ([]) := (by rfl)
    have f1 : Ev F X (.code l108_0 (h108_0 l0_0 a0 0 ([])) (.exit 0) ⟨[(0, (.one (.bor l0_0 (map b_si a0)))), (3, (.one (.ref ⟨(3, 0, 0), [], 0, (length (map d_si w0_0))⟩))), (4, (.oi w1_0)), (10, (.one (.val (.bool w2_0))))], [((3, 0, 0), .live ⟨2, (map d_si w0_0), []⟩)]⟩) := (by have t : Ev F X (.code l108_0 (h108_0 l0_0 a0 0 ([])) (ex108_0 (r108_0 a0 a0 0 ([]))) (fin108_0 l0_0 a0 (r108_0 a0 a0 0 ([])))) := t108_0 (l0_0 := l0_0) (a0 := a0) (by assumption) a0 [] ([]) rfl (by simp only [length_map, length_set, length_append, length_replicate, length_cons, length_nil]; omega); rw [h0] at t; exact t)
    have f2 : 0 = 0 := rfl
    have f3 : (length (map d_si w0_0)) = (length (map d_si w0_0)) := rfl
    have f4 : pureR (map d_si w0_0) = true := (pureR_si _)
    exact callP_ok (ps := []) (os := []) (rs := [(.one (.own 2 (map d_si w0_0)))]) (by kernel_rfl) (.f f0 (.f f1 (.f f2 (.f f3 (.f f4 (.h 8 (.loop (h108_0 l0_0 a0 0 ([])) (.exit 0) ⟨[(0, (.one (.bor l0_0 (map b_si a0)))), (3, (.one (.ref ⟨(3, 0, 0), [], 0, (length (map d_si w0_0))⟩))), (4, (.oi w1_0)), (10, (.one (.val (.bool w2_0))))], [((3, 0, 0), .live ⟨2, (map d_si w0_0), []⟩)]⟩) .nil))))))
theorem mlen_r108 (a : List K_si) : ∀ (l : List K_si) (i : Int) (v : List K_si), ∃ w j b, r108_0 a l i v = .k0 w j b ∧ w.length ≤ v.length + l.length
  | [], i, v => ⟨_, _, _, rfl, by simp⟩
  | x :: l, i, v => by
    simp only [r108_0]
    split
    · obtain ⟨w, j, b, h, h2⟩ := mlen_r108 a l (i + 1) (set v (Int.toNat (m79 v x.f0)) (K_si.mk ((getD v (Int.toNat (m79 v x.f0)) (K_si.mk (⟨#[]⟩ : ByteArray) 0)).f0) (IntKind.wrap .i64 (((getD v (Int.toNat (m79 v x.f0)) (K_si.mk (⟨#[]⟩ : ByteArray) 0)).f1) + x.f1))))
      exact ⟨w, j, b, h, by simp at h2 ⊢; omega⟩
    · obtain ⟨w, j, b, h, h2⟩ := mlen_r108 a l (i + 1) (v ++ [x])
      exact ⟨w, j, b, h, by simp at h2 ⊢; omega⟩
theorem mlen_108 (a : List K_si) : (m108 a).length ≤ a.length := by
  unfold m108
  obtain ⟨w, j, b, h, h2⟩ := mlen_r108 a a 0 []
  rw [h]; simpa using h2
theorem mne_r108 (a : List K_si) : ∀ (l : List K_si) (i : Int) (v : List K_si) (k : Nat), (∀ z ∈ l, 1 ≤ z.f1 ∧ z.f1 ≤ 9999) → (∀ z ∈ v, 1 ≤ z.f1 ∧ z.f1 ≤ 9999 * (k : Int)) → k + l.length ≤ 1000 → ∃ w j b, r108_0 a l i v = .k0 w j b ∧ v.length ≤ w.length ∧ (0 < l.length → 0 < w.length) ∧ (∀ z ∈ w, 1 ≤ z.f1 ∧ z.f1 ≤ 9999 * ((k + l.length : Nat) : Int))
  | [], i, v, k, _, hv, _ => ⟨v, _, _, rfl, Nat.le_refl _, by simp, by simpa using hv⟩
  | x :: l, i, v, k, hl, hv, hk => by
    have hx := hl x (List.mem_cons_self ..)
    have hl' : ∀ z ∈ l, 1 ≤ z.f1 ∧ z.f1 ≤ 9999 := fun z hz => hl z (List.mem_cons_of_mem _ hz)
    simp only [length_cons] at hk
    simp only [r108_0]
    have q := ix79 v x.f0
    by_cases h : (decide ((m79 v x.f0) ≥ 0)) = true
    · rw [if_pos h]
      simp only [decide_eq_true_eq] at h
      have hg : getD v (Int.toNat (m79 v x.f0)) (K_si.mk (⟨#[]⟩ : ByteArray) 0) ∈ v := by
        rw [List.getD_eq_getElem?_getD, List.getElem?_eq_getElem (by omega)]; exact List.getElem_mem _
      have hgb := hv _ hg
      obtain ⟨w, j, b, e, h1, h2, h3⟩ := mne_r108 a l (i + 1) (set v (Int.toNat (m79 v x.f0)) (K_si.mk ((getD v (Int.toNat (m79 v x.f0)) (K_si.mk (⟨#[]⟩ : ByteArray) 0)).f0) (IntKind.wrap .i64 (((getD v (Int.toNat (m79 v x.f0)) (K_si.mk (⟨#[]⟩ : ByteArray) 0)).f1) + x.f1)))) (k + 1) hl' (fun z hz => by
        rcases List.mem_or_eq_of_mem_set hz with hz | rfl
        · have := hv z hz; omega
        · simp only []
          rw [wrap64 (by omega)]; omega) (by omega)
      refine ⟨w, j, b, e, by simpa using h1, fun _ => ?_, fun z hz => ?_⟩
      · simp only [length_set] at h1
        have : 0 < v.length := by omega
        omega
      · have := h3 z hz; simp only [length_cons]; omega
    · rw [if_neg h]
      obtain ⟨w, j, b, e, h1, h2, h3⟩ := mne_r108 a l (i + 1) (v ++ [x]) (k + 1) hl' (fun z hz => by
        rcases List.mem_append.1 hz with hz | hz
        · have := hv z hz; omega
        · rw [List.mem_singleton.1 hz]; omega) (by omega)
      simp only [length_append, length_cons, length_nil] at h1
      refine ⟨w, j, b, e, by omega, fun _ => by omega, fun z hz => ?_⟩
      have := h3 z hz; simp only [length_cons]; omega
theorem mne_108 (a : List K_si) (h : ∀ z ∈ a, 1 ≤ z.f1 ∧ z.f1 ≤ 9999) (hl : a.length ≤ 12) : (0 < a.length → 0 < (m108 a).length) ∧ ∀ z ∈ m108 a, 1 ≤ z.f1 ∧ z.f1 ≤ 119988 := by
  obtain ⟨w, j, b, e, h1, h2, h3⟩ := mne_r108 a a 0 [] 0 h (by simp) (by omega)
  unfold m108
  rw [e]
  refine ⟨h2, fun z hz => ?_⟩
  have := h3 z hz
  omega
/-! loop 134_0 -/
inductive O134_0 where
  | k0 (w0 : Int) (w1 : Int) (w2 : Bool)
def r134_0 (a0 : (List K_si)) : List K_si → Int → Int → O134_0
  | x0 :: y0, i, v0 =>
    (r134_0 a0 y0 (i + 1) (IntKind.wrap .i64 (v0 + x0.f1)))
  | [], i, v0 => (O134_0.k0 v0 i (decide (i < ((length (map b_si a0)) : Int))))
def h134_0 (l0_0 : Nat) (a0 : (List K_si)) (i : Int) (v0 : Int) : St := ⟨[(0, (.one (.bor l0_0 (map b_si a0)))), (3, (.one (.val (.int .i64 v0)))), (4, (.one (.val (.int .i64 i))))], []⟩
def ex134_0 : O134_0 → VX.Exit
  | .k0 _ _ _ => (.exit 0)
def fin134_0 (l0_0 : Nat) (a0 : (List K_si)) : O134_0 → St
  | .k0 w0 w1 w2 => ⟨[(0, (.one (.bor l0_0 (map b_si a0)))), (3, (.one (.val (.int .i64 w0)))), (4, (.one (.val (.int .i64 w1)))), (8, (.one (.val (.bool w2))))], []⟩
theorem t134_0 {l0_0 : Nat} {a0 : (List K_si)} (hy0 : length a0 * 24 ≤ 140737488351232) : ∀ (y0 : List K_si) (p : List K_si) (v0 : Int), p ++ y0 = a0 → Ev F X (.code l134_0 (h134_0 l0_0 a0 (length p : Int) v0) (ex134_0 (r134_0 a0 y0 (length p : Int) v0)) (fin134_0 l0_0 a0 (r134_0 a0 y0 (length p : Int) v0)))
  | [], p, v0, hp0 => by
    have hc : ¬ (decide ((length p : Int) < ((length (map b_si a0)) : Int))) = true := by
      rw [← hp0]; simp only [length_map, length_set, length_append, length_replicate, length_cons, length_nil, decide_eq_true_eq]; omega
    have st := codeH_ok (F := F) (X := X) (c := b134_0) (t := 0) (hs := [(8, .b false)]) (σ := h134_0 l0_0 a0 (length p : Int) v0) (σ' := fin134_0 l0_0 a0 (.k0 v0 (length p : Int) (decide ((length p : Int) < ((length (map b_si a0)) : Int))))) (e := (.exit 0)) (t' := 9) (hs' := []) (q := [(decide ((length p : Int) < ((length (map b_si a0)) : Int))) = false]) (by kernel_rfl) ⟨(nt hc), trivial⟩
    exact .loopX st (show ((.exit 0) : VX.Exit) ≠ .normal from by simp)
  | x0 :: y0, p, v0, hp0 => by
    have hc : (decide ((length p : Int) < ((length (map b_si a0)) : Int))) = true := by
      rw [← hp0]; simp only [length_map, length_set, length_append, length_replicate, length_cons, length_nil, decide_eq_true_eq]; omega
    have Hx0 : (a0)[Int.toNat (length p : Int)]? = some x0 := by
      rw [← hp0, Int.toNat_natCast]; simp
    have hlen : length (a0) = length p + length y0 + 1 := by rw [← hp0]; simp; omega
    have hw : IntKind.wrap .i64 ((length p : Int) + 1) = (length p : Int) + 1 := wrap64 (by omega)
    simp only [r134_0]
    have st := codeH_ok (F := F) (X := X) (c := b134_0) (t := 0) (hs := [(8, .b true), (16, .row [(.val (.string x0.f0)), (.i x0.f1)])]) (σ := h134_0 l0_0 a0 (length p : Int) v0) (σ' := ⟨[(0, (.one (.bor l0_0 (map b_si a0)))), (3, (.oi (IntKind.wrap .i64 (v0 + x0.f1)))), (4, (.oi (IntKind.wrap .i64 ((length p : Int) + 1))))], []⟩) (e := .normal) (t' := 31) (hs' := []) (q := [(decide ((length p : Int) < ((length (map b_si a0)) : Int))) = true, 0 ≤ (length p : Int), (map b_si a0)[(Int.toNat (length p : Int))]? = some [(.val (.string x0.f0)), (.i x0.f1)], True, True]) (by kernel_rfl) ⟨hc, (by omega), (by rw [getElem?_map, Hx0]; rfl), trivial, trivial, trivial⟩
    have ih := t134_0 (l0_0 := l0_0) (a0 := a0) hy0 y0 (p ++ [x0]) (IntKind.wrap .i64 (v0 + x0.f1)) (by rw [append_assoc]; exact hp0)
    rw [show ((p ++ [x0]).length : Int) = (p.length : Int) + 1 from by simp] at ih
    rw [show (⟨[(0, (.one (.bor l0_0 (map b_si a0)))), (3, (.oi (IntKind.wrap .i64 (v0 + x0.f1)))), (4, (.oi (IntKind.wrap .i64 ((length p : Int) + 1))))], []⟩ : St) = h134_0 l0_0 a0 ((length p : Int) + 1) (IntKind.wrap .i64 (v0 + x0.f1)) from (by unfold h134_0; simp only [hw]; done)] at st
    exact .loopN st ih
/-! loop.example/g00539/spec.l13Total -/
def m134 (a0 : (List K_si)) : Int :=
  (match r134_0 a0 a0 0 0 with | .k0 w0_0 w1_0 w2_0 => w0_0)
theorem e134 {l0_0 : Nat} {a0 : (List K_si)} (hy0 : length a0 * 24 ≤ 140737488351232) : Ev F X (.call 134 [(.one (.bor l0_0 (map b_si a0)))] [] [] [(.one (.val (.int .i64 (m134 a0))))]) := by
  unfold m134
  cases h0 : r134_0 a0 a0 0 0 with
  | k0 w0_0 w1_0 w2_0 =>
    try dsimp only
    have f0 : (⟨[(0, (.one (.bor l0_0 (map b_si a0)))), (3, (.oi 0)), (4, (.oi 0))], []⟩ : St) = h134_0 l0_0 a0 0 0 := (by rfl)
    have f1 : Ev F X (.code l134_0 (h134_0 l0_0 a0 0 0) (.exit 0) ⟨[(0, (.one (.bor l0_0 (map b_si a0)))), (3, (.oi w0_0)), (4, (.oi w1_0)), (8, (.one (.val (.bool w2_0))))], []⟩) := (by have t : Ev F X (.code l134_0 (h134_0 l0_0 a0 0 0) (ex134_0 (r134_0 a0 a0 0 0)) (fin134_0 l0_0 a0 (r134_0 a0 a0 0 0))) := t134_0 (l0_0 := l0_0) (a0 := a0) (by assumption) a0 [] 0 rfl; rw [h0] at t; exact t)
    exact callP_ok (ps := []) (os := []) (rs := [(.oi w0_0)]) (by kernel_rfl) (.f f0 (.f f1 (.h 6 (.loop (h134_0 l0_0 a0 0 0) (.exit 0) ⟨[(0, (.one (.bor l0_0 (map b_si a0)))), (3, (.oi w0_0)), (4, (.oi w1_0)), (8, (.one (.val (.bool w2_0))))], []⟩) .nil)))
theorem tot_r134 (a : List K_si) : ∀ (l : List K_si) (i v : Int), (∀ z ∈ l, 1 ≤ z.f1 ∧ z.f1 ≤ 119988) → 0 ≤ v → v + 119988 * l.length ≤ 1000000000 → ∃ w j b, r134_0 a l i v = .k0 w j b ∧ v + l.length ≤ w ∧ w ≤ v + 119988 * l.length
  | [], i, v, _, _, _ => ⟨v, _, _, rfl, by simp, by simp⟩
  | x :: l, i, v, h, h0, hb => by
    have hx := h x (List.mem_cons_self ..)
    simp only [length_cons] at hb
    simp only [r134_0]
    rw [wrap64 (by omega)]
    obtain ⟨w, j, b, e, h1, h2⟩ := tot_r134 a l (i + 1) (v + x.f1) (fun z hz => h z (List.mem_cons_of_mem _ hz)) (by omega) (by omega)
    exact ⟨w, j, b, e, by simp only [length_cons]; omega, by simp only [length_cons]; omega⟩
theorem tot_134 (a : List K_si) (h : ∀ z ∈ a, 1 ≤ z.f1 ∧ z.f1 ≤ 119988) (hl : a.length ≤ 12) : (a.length : Int) ≤ m134 a ∧ m134 a ≤ 119988 * a.length := by
  obtain ⟨w, j, b, e, h1, h2⟩ := tot_r134 a a 0 0 h (by omega) (by omega)
  unfold m134
  rw [e]; simp only []; omega
/-! loop 116_0 -/
inductive O116_0 where
  | k0 (w0 : List K_si) (w1 : List Int) (w2 : Int) (w3 : Int) (w4 : Bool)
def r116_0 (a0 : Int) (a1 : (List K_si)) : List K_si → Int → List K_si → List Int → Int → O116_0
  | x0 :: y0, i, v0, v1, v5 =>
    (r116_0 a0 a1 y0 (i + 1) (v0 ++ ([(K_si.mk x0.f0 (IntKind.wrap .i64 (Int.tdiv (IntKind.wrap .i64 (a0 * x0.f1)) (m134 (m108 a1)))))])) (v1 ++ ([(Int.tmod (IntKind.wrap .i64 (a0 * x0.f1)) (m134 (m108 a1)))])) (IntKind.wrap .i64 (v5 - (IntKind.wrap .i64 (Int.tdiv (IntKind.wrap .i64 (a0 * x0.f1)) (m134 (m108 a1)))))))
  | [], i, v0, v1, v5 => (O116_0.k0 v0 v1 v5 i (decide (i < ((length (map d_si (m108 a1))) : Int))))
def h116_0 (l1_0 : Nat) (a0 : Int) (a1 : (List K_si)) (i : Int) (v0 : List K_si) (v1 : List Int) (v5 : Int) : St := ⟨[(0, (.one (.val (.int .i64 a0)))), (5, (.one (.ref ⟨(5, 0, 0), [], 0, (length (map d_si (m108 a1)))⟩))), (6, (.one (.val (.int .i64 (m134 (m108 a1)))))), (7, (.one (.ref ⟨(7, 0, 0), [], 0, (length (map d_si v0))⟩))), (8, (.one (.ref ⟨(8, 0, 0), [], 0, (length (map d_i v1))⟩))), (9, (.one (.val (.int .i64 v5)))), (10, (.one (.val (.int .i64 i))))], [((5, 0, 0), .live ⟨2, (map d_si (m108 a1)), []⟩), ((7, 0, 0), .live ⟨2, (map d_si v0), []⟩), ((8, 0, 0), .live ⟨1, (map d_i v1), []⟩)]⟩
def ex116_0 : O116_0 → VX.Exit
  | .k0 _ _ _ _ _ => (.exit 0)
def fin116_0 (l1_0 : Nat) (a0 : Int) (a1 : (List K_si)) : O116_0 → St
  | .k0 w0 w1 w2 w3 w4 => ⟨[(0, (.one (.val (.int .i64 a0)))), (5, (.one (.ref ⟨(5, 0, 0), [], 0, (length (map d_si (m108 a1)))⟩))), (6, (.one (.val (.int .i64 (m134 (m108 a1)))))), (7, (.one (.ref ⟨(7, 0, 0), [], 0, (length (map d_si w0))⟩))), (8, (.one (.ref ⟨(8, 0, 0), [], 0, (length (map d_i w1))⟩))), (9, (.one (.val (.int .i64 w2)))), (10, (.one (.val (.int .i64 w3)))), (24, (.one (.val (.bool w4))))], [((5, 0, 0), .live ⟨2, (map d_si (m108 a1)), []⟩), ((7, 0, 0), .live ⟨2, (map d_si w0), []⟩), ((8, 0, 0), .live ⟨1, (map d_i w1), []⟩)]⟩
theorem t116_0 {l1_0 : Nat} {a0 : Int} {a1 : (List K_si)} (hy0 : 0 ≤ a0) (hy1 : a0 ≤ 1000000) (hy2 : 0 < length a1) (hy3 : length a1 ≤ 12) (hy4 : ∀ z ∈ a1, 1 ≤ z.f1 ∧ z.f1 ≤ 9999) : ∀ (y0 : List K_si) (p : List K_si) (v0 : List K_si) (v1 : List Int) (v5 : Int), p ++ y0 = m108 a1 → (length v0 + length y0) * 24 ≤ 70368744177664 → (length v1 + length y0) * 8 ≤ 70368744177664 → Ev F X (.code l116_0 (h116_0 l1_0 a0 a1 (length p : Int) v0 v1 v5) (ex116_0 (r116_0 a0 a1 y0 (length p : Int) v0 v1 v5)) (fin116_0 l1_0 a0 a1 (r116_0 a0 a1 y0 (length p : Int) v0 v1 v5)))
  | [], p, v0, v1, v5, hp0, hi0, hi1 => by
    have hc : ¬ (decide ((length p : Int) < ((length (map d_si (m108 a1))) : Int))) = true := by
      rw [← hp0]; simp only [length_map, length_set, length_append, length_replicate, length_cons, length_nil, decide_eq_true_eq]; omega
    have hj0 := hi0; try simp only [length_map, length_set, length_append, length_replicate, length_cons, length_nil, Int.toNat_natCast] at hj0
    have hj1 := hi1; try simp only [length_map, length_set, length_append, length_replicate, length_cons, length_nil, Int.toNat_natCast] at hj1
    have st := codeH_ok (F := F) (X := X) (c := b116_0) (t := 0) (hs := [(8, .b false)]) (σ := h116_0 l1_0 a0 a1 (length p : Int) v0 v1 v5) (σ' := fin116_0 l1_0 a0 a1 (.k0 v0 v1 v5 (length p : Int) (decide ((length p : Int) < ((length (map d_si (m108 a1))) : Int))))) (e := (.exit 0)) (t' := 9) (hs' := []) (q := [(decide ((length p : Int) < ((length (map d_si (m108 a1))) : Int))) = false]) (by kernel_rfl) ⟨(nt hc), trivial⟩
    exact .loopX st (show ((.exit 0) : VX.Exit) ≠ .normal from by simp)
  | x0 :: y0, p, v0, v1, v5, hp0, hi0, hi1 => by
    have hc : (decide ((length p : Int) < ((length (map d_si (m108 a1))) : Int))) = true := by
      rw [← hp0]; simp only [length_map, length_set, length_append, length_replicate, length_cons, length_nil, decide_eq_true_eq]; omega
    have Hx0 : (m108 a1)[Int.toNat (length p : Int)]? = some x0 := by
      rw [← hp0, Int.toNat_natCast]; simp
    have hlen : length (m108 a1) = length p + length y0 + 1 := by rw [← hp0]; simp; omega
    have hw : IntKind.wrap .i64 ((length p : Int) + 1) = (length p : Int) + 1 := wrap64 (by have hz : length (m108 a1) * 24 ≤ 140737488351232 := (by first | with_reducible assumption | omega | (have q := mlen_108 a1; simp only [length_map, length_nil, Nat.zero_add] at *; omega) | (have q := mlen_108 a1; omega) | (have q1 := mne_108 a1 (by assumption) (by omega); have q2 := mlen_108 a1; have q := (tot_134 (m108 a1) q1.2 (by omega)).1; have q3 := q1.1 (by omega); omega) | (simp only [decide_eq_true_eq, length_map] at *; omega) | (simp only [length_map] at *; omega) | (unfold m108; (repeat' split) <;> simp_all <;> omega) | assumption | (simp only [length_map]; omega) | (simp; omega)); omega)
    have hj0 := hi0; try simp only [length_map, length_set, length_append, length_replicate, length_cons, length_nil, Int.toNat_natCast] at hj0
    have hj1 := hi1; try simp only [length_map, length_set, length_append, length_replicate, length_cons, length_nil, Int.toNat_natCast] at hj1
    simp only [r116_0]
    have st := codeH_ok (F := F) (X := X) (c := b116_0) (t := 0) (hs := [(8, .b true), (20, .rowD [(.val (.string x0.f0)), (.i x0.f1)]), (40, .rowD [(.val (.string x0.f0)), (.i x0.f1)]), (48, .b true), (51, .norm (7, 0, 0) (map d_si (v0 ++ ([(K_si.mk x0.f0 (IntKind.wrap .i64 (Int.tdiv (IntKind.wrap .i64 (a0 * x0.f1)) (m134 (m108 a1)))))])))), (65, .rowD [(.val (.string x0.f0)), (.i x0.f1)]), (75, .b true), (78, .norm (8, 0, 0) (map d_i (v1 ++ ([(Int.tmod (IntKind.wrap .i64 (a0 * x0.f1)) (m134 (m108 a1)))]))))]) (σ := h116_0 l1_0 a0 a1 (length p : Int) v0 v1 v5) (σ' := ⟨[(0, (.oi a0)), (5, (.one (.ref ⟨(5, 0, 0), [], 0, (length (map d_si (m108 a1)))⟩))), (6, (.oi (m134 (m108 a1)))), (7, (.one (.ref ⟨(7, 0, 0), [], 0, (length ((take (length (map d_si v0)) (drop 0 (map d_si v0))) ++ ([[(.val (.string x0.f0)), (.i (IntKind.wrap .i64 (Int.tdiv (IntKind.wrap .i64 (a0 * x0.f1)) (m134 (m108 a1)))))]] : List (List D))))⟩))), (8, (.one (.ref ⟨(8, 0, 0), [], 0, (length ((take (length (map d_i v1)) (drop 0 (map d_i v1))) ++ ([[(.i (Int.tmod (IntKind.wrap .i64 (a0 * x0.f1)) (m134 (m108 a1))))]] : List (List D))))⟩))), (9, (.oi (IntKind.wrap .i64 (v5 - (IntKind.wrap .i64 (Int.tdiv (IntKind.wrap .i64 (a0 * x0.f1)) (m134 (m108 a1)))))))), (10, (.oi (IntKind.wrap .i64 ((length p : Int) + 1))))], [((5, 0, 0), .live ⟨2, (map d_si (m108 a1)), []⟩), ((7, 0, 0), .live ⟨2, (map d_si (v0 ++ ([(K_si.mk x0.f0 (IntKind.wrap .i64 (Int.tdiv (IntKind.wrap .i64 (a0 * x0.f1)) (m134 (m108 a1)))))]))), []⟩), ((8, 0, 0), .live ⟨1, (map d_i (v1 ++ ([(Int.tmod (IntKind.wrap .i64 (a0 * x0.f1)) (m134 (m108 a1)))]))), []⟩)]⟩) (e := .normal) (t' := 93) (hs' := []) (q := [(decide ((length p : Int) < ((length (map d_si (m108 a1))) : Int))) = true, 0 + (length (map d_si (m108 a1))) ≤ (length (map d_si (m108 a1))), 0 ≤ (length p : Int) ∧ (length p : Int) < ((length (map d_si (m108 a1))) : Int), (map d_si (m108 a1))[(0 + (Int.toNat (length p : Int)))]? = some [(.val (.string x0.f0)), (.i x0.f1)], (m134 (m108 a1)) ≠ 0, 0 + (length (map d_si (m108 a1))) ≤ (length (map d_si (m108 a1))), 0 ≤ (length p : Int) ∧ (length p : Int) < ((length (map d_si (m108 a1))) : Int), (map d_si (m108 a1))[(0 + (Int.toNat (length p : Int)))]? = some [(.val (.string x0.f0)), (.i x0.f1)], 0 + (length (map d_si v0)) ≤ (length (map d_si v0)), 1 ≤ 1, ((take 1 (drop 0 [[(.val (.string x0.f0)), (.i (IntKind.wrap .i64 (Int.tdiv (IntKind.wrap .i64 (a0 * x0.f1)) (m134 (m108 a1)))))]])).all fun x => x.all copyable) = true, (length ((take (length (map d_si v0)) (drop 0 (map d_si v0))) ++ ([[(.val (.string x0.f0)), (.i (IntKind.wrap .i64 (Int.tdiv (IntKind.wrap .i64 (a0 * x0.f1)) (m134 (m108 a1)))))]] : List (List D)))) * 24 ≤ 70368744177664, ∀ r ∈ ([[(.val (.string x0.f0)), (.i (IntKind.wrap .i64 (Int.tdiv (IntKind.wrap .i64 (a0 * x0.f1)) (m134 (m108 a1)))))]] : List (List D)), r.length = 2, ((take (length (map d_si v0)) (drop 0 (map d_si v0))) ++ ([[(.val (.string x0.f0)), (.i (IntKind.wrap .i64 (Int.tdiv (IntKind.wrap .i64 (a0 * x0.f1)) (m134 (m108 a1)))))]] : List (List D))) = (map d_si (v0 ++ ([(K_si.mk x0.f0 (IntKind.wrap .i64 (Int.tdiv (IntKind.wrap .i64 (a0 * x0.f1)) (m134 (m108 a1)))))]))), 0 + (length (map d_si (m108 a1))) ≤ (length (map d_si (m108 a1))), 0 ≤ (length p : Int) ∧ (length p : Int) < ((length (map d_si (m108 a1))) : Int), (map d_si (m108 a1))[(0 + (Int.toNat (length p : Int)))]? = some [(.val (.string x0.f0)), (.i x0.f1)], (m134 (m108 a1)) ≠ 0, 0 + (length (map d_i v1)) ≤ (length (map d_i v1)), 1 ≤ 1, ((take 1 (drop 0 [[(.i (Int.tmod (IntKind.wrap .i64 (a0 * x0.f1)) (m134 (m108 a1))))]])).all fun x => x.all copyable) = true, (length ((take (length (map d_i v1)) (drop 0 (map d_i v1))) ++ ([[(.i (Int.tmod (IntKind.wrap .i64 (a0 * x0.f1)) (m134 (m108 a1))))]] : List (List D)))) * 8 ≤ 70368744177664, ∀ r ∈ ([[(.i (Int.tmod (IntKind.wrap .i64 (a0 * x0.f1)) (m134 (m108 a1))))]] : List (List D)), r.length = 1, ((take (length (map d_i v1)) (drop 0 (map d_i v1))) ++ ([[(.i (Int.tmod (IntKind.wrap .i64 (a0 * x0.f1)) (m134 (m108 a1))))]] : List (List D))) = (map d_i (v1 ++ ([(Int.tmod (IntKind.wrap .i64 (a0 * x0.f1)) (m134 (m108 a1)))]))), True]) (by kernel_rfl) ⟨hc, (by omega), (by have q := mlen_108 a1; simp only [length_map, length_nil, Nat.zero_add] at *; omega), (by rw [Nat.zero_add, getElem?_map, Hx0]; rfl), (by have q1 := mne_108 a1 (by assumption) (by omega); have q2 := mlen_108 a1; have q := (tot_134 (m108 a1) q1.2 (by omega)).1; have q3 := q1.1 (by omega); omega), (by omega), (by have q := mlen_108 a1; simp only [length_map, length_nil, Nat.zero_add] at *; omega), (by rw [Nat.zero_add, getElem?_map, Hx0]; rfl), (by omega), (by omega), (by trivial), (by unfold m134 m108; (repeat' split) <;> simp_all <;> omega), (by unfold m134 m108; (repeat' split) <;> simp_all <;> omega), (by simp [byteRows_eq, ints_y, take_of_length_le, d_y, d_LyE, d_b, d_si, d_LsiE, d_iLsiE, d_i, d_s, d_LyEi, d_LiE, fromBR_y, fromBR_b, fromBR_si, fromBR_i, fromBR_s]; done), (by omega), (by have q := mlen_108 a1; simp only [length_map, length_nil, Nat.zero_add] at *; omega), (by rw [Nat.zero_add, getElem?_map, Hx0]; rfl), (by have q1 := mne_108 a1 (by assumption) (by omega); have q2 := mlen_108 a1; have q := (tot_134 (m108 a1) q1.2 (by omega)).1; have q3 := q1.1 (by omega); omega), (by omega), (by omega), (by trivial), (by unfold m134 m108; (repeat' split) <;> simp_all <;> omega), (by unfold m134 m108; (repeat' split) <;> simp_all <;> omega), (by simp [byteRows_eq, ints_y, take_of_length_le, d_y, d_LyE, d_b, d_si, d_LsiE, d_iLsiE, d_i, d_s, d_LyEi, d_LiE, fromBR_y, fromBR_b, fromBR_si, fromBR_i, fromBR_s]; done), trivial, trivial⟩
    have ih := t116_0 (l1_0 := l1_0) (a0 := a0) (a1 := a1) hy0 hy1 hy2 hy3 hy4 y0 (p ++ [x0]) (v0 ++ ([(K_si.mk x0.f0 (IntKind.wrap .i64 (Int.tdiv (IntKind.wrap .i64 (a0 * x0.f1)) (m134 (m108 a1)))))])) (v1 ++ ([(Int.tmod (IntKind.wrap .i64 (a0 * x0.f1)) (m134 (m108 a1)))])) (IntKind.wrap .i64 (v5 - (IntKind.wrap .i64 (Int.tdiv (IntKind.wrap .i64 (a0 * x0.f1)) (m134 (m108 a1)))))) (by rw [append_assoc]; exact hp0) (by simp only [length_map, length_set, length_append, length_replicate, length_cons, length_nil]; omega) (by simp only [length_map, length_set, length_append, length_replicate, length_cons, length_nil]; omega)
    rw [show ((p ++ [x0]).length : Int) = (p.length : Int) + 1 from by simp] at ih
    rw [show (⟨[(0, (.oi a0)), (5, (.one (.ref ⟨(5, 0, 0), [], 0, (length (map d_si (m108 a1)))⟩))), (6, (.oi (m134 (m108 a1)))), (7, (.one (.ref ⟨(7, 0, 0), [], 0, (length ((take (length (map d_si v0)) (drop 0 (map d_si v0))) ++ ([[(.val (.string x0.f0)), (.i (IntKind.wrap .i64 (Int.tdiv (IntKind.wrap .i64 (a0 * x0.f1)) (m134 (m108 a1)))))]] : List (List D))))⟩))), (8, (.one (.ref ⟨(8, 0, 0), [], 0, (length ((take (length (map d_i v1)) (drop 0 (map d_i v1))) ++ ([[(.i (Int.tmod (IntKind.wrap .i64 (a0 * x0.f1)) (m134 (m108 a1))))]] : List (List D))))⟩))), (9, (.oi (IntKind.wrap .i64 (v5 - (IntKind.wrap .i64 (Int.tdiv (IntKind.wrap .i64 (a0 * x0.f1)) (m134 (m108 a1)))))))), (10, (.oi (IntKind.wrap .i64 ((length p : Int) + 1))))], [((5, 0, 0), .live ⟨2, (map d_si (m108 a1)), []⟩), ((7, 0, 0), .live ⟨2, (map d_si (v0 ++ ([(K_si.mk x0.f0 (IntKind.wrap .i64 (Int.tdiv (IntKind.wrap .i64 (a0 * x0.f1)) (m134 (m108 a1)))))]))), []⟩), ((8, 0, 0), .live ⟨1, (map d_i (v1 ++ ([(Int.tmod (IntKind.wrap .i64 (a0 * x0.f1)) (m134 (m108 a1)))]))), []⟩)]⟩ : St) = h116_0 l1_0 a0 a1 ((length p : Int) + 1) (v0 ++ ([(K_si.mk x0.f0 (IntKind.wrap .i64 (Int.tdiv (IntKind.wrap .i64 (a0 * x0.f1)) (m134 (m108 a1)))))])) (v1 ++ ([(Int.tmod (IntKind.wrap .i64 (a0 * x0.f1)) (m134 (m108 a1)))])) (IntKind.wrap .i64 (v5 - (IntKind.wrap .i64 (Int.tdiv (IntKind.wrap .i64 (a0 * x0.f1)) (m134 (m108 a1)))))) from (by unfold h116_0; simp [hw, byteRows_eq, ints_y, take_of_length_le, d_y, d_LyE, d_b, d_si, d_LsiE, d_iLsiE, d_i, d_s, d_LyEi, d_LiE, fromBR_y, fromBR_b, fromBR_si, fromBR_i, fromBR_s]; done)] at st
    exact .loopN st ih
def post116_0 (n0 n1 : Nat) : O116_0 → Prop
  | .k0 w0 w1 _ _ _ => length w0 = n0 ∧ length w1 = n1
theorem z116_0 {a0 : Int} {a1 : (List K_si)} : ∀ (y0 : List K_si) (i : Int) (v0 : List K_si) (v1 : List Int) (v5 : Int), post116_0 (length v0 + length y0) (length v1 + length y0) (r116_0 a0 a1 y0 i v0 v1 v5)
  | [], i, v0, v1, v5 => by
    first | trivial | (simp only [post116_0, length_nil, Nat.add_zero]; done) | (simp [post116_0]; done)
  | x0 :: y0, i, v0, v1, v5 => by
    simp only [r116_0]
    have z := z116_0 (a0 := a0) (a1 := a1) y0 (i + 1) (v0 ++ ([(K_si.mk x0.f0 (IntKind.wrap .i64 (Int.tdiv (IntKind.wrap .i64 (a0 * x0.f1)) (m134 (m108 a1)))))])) (v1 ++ ([(Int.tmod (IntKind.wrap .i64 (a0 * x0.f1)) (m134 (m108 a1)))])) (IntKind.wrap .i64 (v5 - (IntKind.wrap .i64 (Int.tdiv (IntKind.wrap .i64 (a0 * x0.f1)) (m134 (m108 a1))))))
    rw [show (length v0 + length (x0 :: y0)) = (length (v0 ++ ([(K_si.mk x0.f0 (IntKind.wrap .i64 (Int.tdiv (IntKind.wrap .i64 (a0 * x0.f1)) (m134 (m108 a1)))))])) + length y0) from by first | omega | (simp only [length_map, length_set, length_append, length_replicate, length_cons, length_nil]; done) | (simp only [length_map, length_set, length_append, length_replicate, length_cons, length_nil]; omega), show (length v1 + length (x0 :: y0)) = (length (v1 ++ ([(Int.tmod (IntKind.wrap .i64 (a0 * x0.f1)) (m134 (m108 a1)))])) + length y0) from by first | omega | (simp only [length_map, length_set, length_append, length_replicate, length_cons, length_nil]; done) | (simp only [length_map, length_set, length_append, length_replicate, length_cons, length_nil]; omega)]
    exact z
theorem left_116 (a0 : Int) (a1 : List K_si) : ∀ (l : List K_si) (i : Int) (v0 : List K_si) (v1 : List Int) (v4 : Int), v4 ≤ 9223372036854775807 → ∀ w0 w1 w2 w3 w4, r116_0 a0 a1 l i v0 v1 v4 = .k0 w0 w1 w2 w3 w4 → w2 ≤ 9223372036854775807
  | [], i, v0, v1, v4, h, w0, w1, w2, w3, w4, e => by
    simp only [r116_0] at e
    injection e with e0 e1 e2 e3 e4
    omega
  | x :: l, i, v0, v1, v4, h, w0, w1, w2, w3, w4, e => by
    simp only [r116_0] at e
    exact left_116 a0 a1 l (i + 1) _ _ _ (wrap64_range _).2 w0 w1 w2 w3 w4 e
/-! loop 116_2 -/
inductive O116_2 where
  | k0 (w0 : Int) (w1 : Int) (w2 : Bool)
def r116_2 (c1_116_2 : List Int) (c4_116_2 : List Int) : Nat → Int → Int → O116_2
  | n + 1, v0, v1 =>
    if (decide (v1 < ((length (map d_i c1_116_2)) : Int))) = true then (if (decide ((getD c4_116_2 (Int.toNat v1) 0) > (getD c4_116_2 (Int.toNat v0) 0))) = true then (r116_2 c1_116_2 c4_116_2 n v1 (IntKind.wrap .i64 (v1 + 1))) else
      (r116_2 c1_116_2 c4_116_2 n v0 (IntKind.wrap .i64 (v1 + 1)))) else
    (O116_2.k0 v0 v1 (decide (v1 < ((length (map d_i c1_116_2)) : Int))))
  | 0, v0, v1 => (O116_2.k0 v0 v1 (decide (v1 < ((length (map d_i c1_116_2)) : Int))))
def h116_2 (l1_0 : Nat) (a0 : Int) (a1 : (List K_si)) (c2_116_1 : Int) (c0_116_2 : List K_si) (c1_116_2 : List Int) (c2_116_2 : Int) (c3_116_2 : List K_si) (c4_116_2 : List Int) (v0 : Int) (v1 : Int) : St := ⟨[(7, (.one (.ref ⟨(7, 0, 0), [], 0, (length (map d_si c0_116_2))⟩))), (8, (.one (.ref ⟨(8, 0, 0), [], 0, (length (map d_i c1_116_2))⟩))), (9, (.one (.val (.int .i64 c2_116_2)))), (12, (.one (.val (.int .i64 v0)))), (13, (.one (.val (.int .i64 v1))))], [((7, 0, 0), .live ⟨2, (map d_si c3_116_2), []⟩), ((8, 0, 0), .live ⟨1, (map d_i c4_116_2), []⟩)]⟩
def ex116_2 : O116_2 → VX.Exit
  | .k0 _ _ _ => (.exit 4)
def fin116_2 (l1_0 : Nat) (a0 : Int) (a1 : (List K_si)) (c2_116_1 : Int) (c0_116_2 : List K_si) (c1_116_2 : List Int) (c2_116_2 : Int) (c3_116_2 : List K_si) (c4_116_2 : List Int) : O116_2 → St
  | .k0 w0 w1 w2 => ⟨[(7, (.one (.ref ⟨(7, 0, 0), [], 0, (length (map d_si c0_116_2))⟩))), (8, (.one (.ref ⟨(8, 0, 0), [], 0, (length (map d_i c1_116_2))⟩))), (9, (.one (.val (.int .i64 c2_116_2)))), (12, (.one (.val (.int .i64 w0)))), (13, (.one (.val (.int .i64 w1)))), (68, (.one (.val (.bool w2))))], [((7, 0, 0), .live ⟨2, (map d_si c3_116_2), []⟩), ((8, 0, 0), .live ⟨1, (map d_i c4_116_2), []⟩)]⟩
theorem t116_2 {l1_0 : Nat} {a0 : Int} {a1 : (List K_si)} {c2_116_1 : Int} {c0_116_2 : List K_si} {c1_116_2 : List Int} {c2_116_2 : Int} {c3_116_2 : List K_si} {c4_116_2 : List Int} (hy0 : length c0_116_2 ≤ 140737488351232) (hy1 : length c1_116_2 ≤ 140737488351232) (hy2 : length c3_116_2 ≤ 140737488351232) (hy3 : length c4_116_2 ≤ 140737488351232) : ∀ (n : Nat) (v0 : Int) (v1 : Int), 0 ≤ v1 → ((length (map d_i c1_116_2)) : Int) ≤ 9223372036854775807 → 0 ≤ v0 → v0 < (length c4_116_2 : Int) → length c4_116_2 = length c1_116_2 → length c4_116_2 ≤ 1000 → Int.toNat (((length (map d_i c1_116_2)) : Int) - v1) ≤ n → Ev F X (.code l116_2 (h116_2 l1_0 a0 a1 c2_116_1 c0_116_2 c1_116_2 c2_116_2 c3_116_2 c4_116_2 v0 v1) (ex116_2 (r116_2 c1_116_2 c4_116_2 n v0 v1)) (fin116_2 l1_0 a0 a1 c2_116_1 c0_116_2 c1_116_2 c2_116_2 c3_116_2 c4_116_2 (r116_2 c1_116_2 c4_116_2 n v0 v1)))
  | 0, v0, v1, hi0, hi1, hi2, hi3, hi4, hi5, hn => by
    have hc : ¬ (decide (v1 < ((length (map d_i c1_116_2)) : Int))) = true := by first | (exact fuel64_zero hn) | (simp only [decide_eq_true_eq] at *; omega) | (simp at *; omega)
    have st := codeP_ok (F := F) (X := X) (c := b116_2) (t := 0) (σ := h116_2 l1_0 a0 a1 c2_116_1 c0_116_2 c1_116_2 c2_116_2 c3_116_2 c4_116_2 v0 v1) (σ' := ⟨[(7, (.one (.ref ⟨(7, 0, 0), [], 0, (length (map d_si c0_116_2))⟩))), (8, (.one (.ref ⟨(8, 0, 0), [], 0, (length (map d_i c1_116_2))⟩))), (9, (.oi c2_116_2)), (12, (.oi v0)), (13, (.oi v1)), (68, (.one (.val (.bool (decide (v1 < ((length (map d_i c1_116_2)) : Int)))))))], [((7, 0, 0), .live ⟨2, (map d_si c3_116_2), []⟩), ((8, 0, 0), .live ⟨1, (map d_i c4_116_2), []⟩)]⟩) (e := (.exit 4)) (t' := 9) (by kernel_rfl) (.f (nt hc) (.h 8 (.b false) .nil))
    rw [show (⟨[(7, (.one (.ref ⟨(7, 0, 0), [], 0, (length (map d_si c0_116_2))⟩))), (8, (.one (.ref ⟨(8, 0, 0), [], 0, (length (map d_i c1_116_2))⟩))), (9, (.oi c2_116_2)), (12, (.oi v0)), (13, (.oi v1)), (68, (.one (.val (.bool (decide (v1 < ((length (map d_i c1_116_2)) : Int)))))))], [((7, 0, 0), .live ⟨2, (map d_si c3_116_2), []⟩), ((8, 0, 0), .live ⟨1, (map d_i c4_116_2), []⟩)]⟩ : St) = fin116_2 l1_0 a0 a1 c2_116_1 c0_116_2 c1_116_2 c2_116_2 c3_116_2 c4_116_2 (.k0 v0 v1 (decide (v1 < ((length (map d_i c1_116_2)) : Int)))) from (by rfl)] at st
    exact .loopX st (show ((.exit 4) : VX.Exit) ≠ .normal from by simp)
  | n + 1, v0, v1, hi0, hi1, hi2, hi3, hi4, hi5, hn => by
    simp only [r116_2]
    by_cases h_0 : (decide (v1 < ((length (map d_i c1_116_2)) : Int))) = true
    · try simp only [if_pos h_0]
      have f1 : 0 + (length (map d_i c1_116_2)) ≤ (length (map d_i c4_116_2)) := (by have q := mlen_108 a1; simp only [length_map, length_nil, Nat.zero_add] at *; omega)
      have f2 : 0 ≤ v1 ∧ v1 < ((length (map d_i c1_116_2)) : Int) := (by simp only [decide_eq_true_eq, length_map] at *; omega)
      have f3 : (map d_i c4_116_2)[(0 + (Int.toNat v1))]? = some [(.val (.int .i64 (getD c4_116_2 (Int.toNat v1) 0)))] := (by rw [Nat.zero_add, getElem?_map, getD_at c4_116_2 (Int.toNat v1) 0 (by first | exact True.intro | with_reducible rfl | with_reducible assumption | omega | (have q := mlen_108 a1; simp only [length_map, length_nil, Nat.zero_add] at *; omega) | (have q := mlen_108 a1; omega) | (have q1 := mne_108 a1 (by assumption) (by omega); have q2 := mlen_108 a1; have q := (tot_134 (m108 a1) q1.2 (by omega)).1; have q3 := q1.1 (by omega); omega) | (simp only [decide_eq_true_eq, length_map] at *; omega) | (simp only [length_map] at *; omega) | (simp only [decide_eq_true_eq] at *; omega) | (simp only [length_map]; omega) | (simp; omega) | (simp [take_of_length_le]; done) | assumption | trivial | (simp [*, byteRows_eq, ints_y]; done))]; rfl)
      have f4 : 0 + (length (map d_i c1_116_2)) ≤ (length (map d_i c4_116_2)) := (by with_reducible assumption)
      have f5 : 0 ≤ v0 ∧ v0 < ((length (map d_i c1_116_2)) : Int) := (by have q := mlen_108 a1; simp only [length_map, length_nil, Nat.zero_add] at *; omega)
      have f6 : (map d_i c4_116_2)[(0 + (Int.toNat v0))]? = some [(.val (.int .i64 (getD c4_116_2 (Int.toNat v0) 0)))] := (by rw [Nat.zero_add, getElem?_map, getD_at c4_116_2 (Int.toNat v0) 0 (by first | exact True.intro | with_reducible rfl | with_reducible assumption | omega | (have q := mlen_108 a1; simp only [length_map, length_nil, Nat.zero_add] at *; omega) | (have q := mlen_108 a1; omega) | (have q1 := mne_108 a1 (by assumption) (by omega); have q2 := mlen_108 a1; have q := (tot_134 (m108 a1) q1.2 (by omega)).1; have q3 := q1.1 (by omega); omega) | (simp only [decide_eq_true_eq, length_map] at *; omega) | (simp only [length_map] at *; omega) | (simp only [decide_eq_true_eq] at *; omega) | (simp only [length_map]; omega) | (simp; omega) | (simp [take_of_length_le]; done) | assumption | trivial | (simp [*, byteRows_eq, ints_y]; done))]; rfl)
      by_cases h_1 : (decide ((getD c4_116_2 (Int.toNat v1) 0) > (getD c4_116_2 (Int.toNat v0) 0))) = true
      · try simp only [if_pos h_1]
        have st := codeP_ok (F := F) (X := X) (c := b116_2) (t := 0) (σ := h116_2 l1_0 a0 a1 c2_116_1 c0_116_2 c1_116_2 c2_116_2 c3_116_2 c4_116_2 v0 v1) (σ' := ⟨[(7, (.one (.ref ⟨(7, 0, 0), [], 0, (length (map d_si c0_116_2))⟩))), (8, (.one (.ref ⟨(8, 0, 0), [], 0, (length (map d_i c1_116_2))⟩))), (9, (.oi c2_116_2)), (12, (.oi v1)), (13, (.oi (IntKind.wrap .i64 (v1 + 1))))], [((7, 0, 0), .live ⟨2, (map d_si c3_116_2), []⟩), ((8, 0, 0), .live ⟨1, (map d_i c4_116_2), []⟩)]⟩) (e := .normal) (t' := 38) (by kernel_rfl) (.f h_0 (.f f1 (.f f2 (.f f3 (.f f4 (.f f5 (.f f6 (.f h_1 (.f trivial (.h 8 (.b true) (.h 16 (.rowD [(.i (getD c4_116_2 (Int.toNat v1) 0))]) (.h 24 (.rowD [(.i (getD c4_116_2 (Int.toNat v0) 0))]) (.h 27 (.b true) .nil)))))))))))))
        have ih := t116_2 (l1_0 := l1_0) (a0 := a0) (a1 := a1) (c2_116_1 := c2_116_1) (c0_116_2 := c0_116_2) (c1_116_2 := c1_116_2) (c2_116_2 := c2_116_2) (c3_116_2 := c3_116_2) (c4_116_2 := c4_116_2) hy0 hy1 hy2 hy3 n v1 (IntKind.wrap .i64 (v1 + 1)) (by rw [wrap64 (by simp only [decide_eq_true_eq] at *; omega)]; omega) (by assumption) (by assumption) (by simp only [decide_eq_true_eq, length_map] at *; omega) (by assumption) (by assumption) (by rw [wrap64 (by simp only [decide_eq_true_eq] at *; omega)]; simp only [decide_eq_true_eq] at *; omega)
        rw [show (⟨[(7, (.one (.ref ⟨(7, 0, 0), [], 0, (length (map d_si c0_116_2))⟩))), (8, (.one (.ref ⟨(8, 0, 0), [], 0, (length (map d_i c1_116_2))⟩))), (9, (.oi c2_116_2)), (12, (.oi v1)), (13, (.oi (IntKind.wrap .i64 (v1 + 1))))], [((7, 0, 0), .live ⟨2, (map d_si c3_116_2), []⟩), ((8, 0, 0), .live ⟨1, (map d_i c4_116_2), []⟩)]⟩ : St) = h116_2 l1_0 a0 a1 c2_116_1 c0_116_2 c1_116_2 c2_116_2 c3_116_2 c4_116_2 v1 (IntKind.wrap .i64 (v1 + 1)) from (by rfl)] at st
        exact .loopN st ih
      · try simp only [if_neg h_1]
        have st := codeP_ok (F := F) (X := X) (c := b116_2) (t := 0) (σ := h116_2 l1_0 a0 a1 c2_116_1 c0_116_2 c1_116_2 c2_116_2 c3_116_2 c4_116_2 v0 v1) (σ' := ⟨[(7, (.one (.ref ⟨(7, 0, 0), [], 0, (length (map d_si c0_116_2))⟩))), (8, (.one (.ref ⟨(8, 0, 0), [], 0, (length (map d_i c1_116_2))⟩))), (9, (.oi c2_116_2)), (12, (.oi v0)), (13, (.oi (IntKind.wrap .i64 (v1 + 1))))], [((7, 0, 0), .live ⟨2, (map d_si c3_116_2), []⟩), ((8, 0, 0), .live ⟨1, (map d_i c4_116_2), []⟩)]⟩) (e := .normal) (t' := 34) (by kernel_rfl) (.f h_0 (.f f1 (.f f2 (.f f3 (.f f4 (.f f5 (.f f6 (.f (nt h_1) (.f trivial (.h 8 (.b true) (.h 16 (.rowD [(.i (getD c4_116_2 (Int.toNat v1) 0))]) (.h 24 (.rowD [(.i (getD c4_116_2 (Int.toNat v0) 0))]) (.h 27 (.b false) .nil)))))))))))))
        have ih := t116_2 (l1_0 := l1_0) (a0 := a0) (a1 := a1) (c2_116_1 := c2_116_1) (c0_116_2 := c0_116_2) (c1_116_2 := c1_116_2) (c2_116_2 := c2_116_2) (c3_116_2 := c3_116_2) (c4_116_2 := c4_116_2) hy0 hy1 hy2 hy3 n v0 (IntKind.wrap .i64 (v1 + 1)) (by rw [wrap64 (by simp only [decide_eq_true_eq] at *; omega)]; omega) (by assumption) (by assumption) (by assumption) (by assumption) (by assumption) (by rw [wrap64 (by simp only [decide_eq_true_eq] at *; omega)]; simp only [decide_eq_true_eq] at *; omega)
        rw [show (⟨[(7, (.one (.ref ⟨(7, 0, 0), [], 0, (length (map d_si c0_116_2))⟩))), (8, (.one (.ref ⟨(8, 0, 0), [], 0, (length (map d_i c1_116_2))⟩))), (9, (.oi c2_116_2)), (12, (.oi v0)), (13, (.oi (IntKind.wrap .i64 (v1 + 1))))], [((7, 0, 0), .live ⟨2, (map d_si c3_116_2), []⟩), ((8, 0, 0), .live ⟨1, (map d_i c4_116_2), []⟩)]⟩ : St) = h116_2 l1_0 a0 a1 c2_116_1 c0_116_2 c1_116_2 c2_116_2 c3_116_2 c4_116_2 v0 (IntKind.wrap .i64 (v1 + 1)) from (by rfl)] at st
        exact .loopN st ih
    · try simp only [if_neg h_0]
      have st := codeP_ok (F := F) (X := X) (c := b116_2) (t := 0) (σ := h116_2 l1_0 a0 a1 c2_116_1 c0_116_2 c1_116_2 c2_116_2 c3_116_2 c4_116_2 v0 v1) (σ' := ⟨[(7, (.one (.ref ⟨(7, 0, 0), [], 0, (length (map d_si c0_116_2))⟩))), (8, (.one (.ref ⟨(8, 0, 0), [], 0, (length (map d_i c1_116_2))⟩))), (9, (.oi c2_116_2)), (12, (.oi v0)), (13, (.oi v1)), (68, (.one (.val (.bool (decide (v1 < ((length (map d_i c1_116_2)) : Int)))))))], [((7, 0, 0), .live ⟨2, (map d_si c3_116_2), []⟩), ((8, 0, 0), .live ⟨1, (map d_i c4_116_2), []⟩)]⟩) (e := (.exit 4)) (t' := 9) (by kernel_rfl) (.f (nt h_0) (.h 8 (.b false) .nil))
      rw [show (⟨[(7, (.one (.ref ⟨(7, 0, 0), [], 0, (length (map d_si c0_116_2))⟩))), (8, (.one (.ref ⟨(8, 0, 0), [], 0, (length (map d_i c1_116_2))⟩))), (9, (.oi c2_116_2)), (12, (.oi v0)), (13, (.oi v1)), (68, (.one (.val (.bool (decide (v1 < ((length (map d_i c1_116_2)) : Int)))))))], [((7, 0, 0), .live ⟨2, (map d_si c3_116_2), []⟩), ((8, 0, 0), .live ⟨1, (map d_i c4_116_2), []⟩)]⟩ : St) = fin116_2 l1_0 a0 a1 c2_116_1 c0_116_2 c1_116_2 c2_116_2 c3_116_2 c4_116_2 (.k0 v0 v1 (decide (v1 < ((length (map d_i c1_116_2)) : Int)))) from (by rfl)] at st
      exact .loopX st (show ((.exit 4) : VX.Exit) ≠ .normal from by simp)
/-! loop 116_2, behind -/
def post116_2 (a0 : Int) (a1 : (List K_si)) (c2_116_1 : Int) (c0_116_2 : List K_si) (c1_116_2 : List Int) (c2_116_2 : Int) (c3_116_2 : List K_si) (c4_116_2 : List Int) : O116_2 → Prop
  | .k0 w0 _ _ => 0 ≤ w0 ∧ w0 < (length c4_116_2 : Int)
theorem z116_2 {a0 : Int} {a1 : (List K_si)} {c2_116_1 : Int} {c0_116_2 : List K_si} {c1_116_2 : List Int} {c2_116_2 : Int} {c3_116_2 : List K_si} {c4_116_2 : List Int} (hy0 : length c0_116_2 ≤ 140737488351232) (hy1 : length c1_116_2 ≤ 140737488351232) (hy2 : length c3_116_2 ≤ 140737488351232) (hy3 : length c4_116_2 ≤ 140737488351232) : ∀ (n : Nat) (v0 : Int) (v1 : Int), 0 ≤ v1 → ((length (map d_i c1_116_2)) : Int) ≤ 9223372036854775807 → 0 ≤ v0 → v0 < (length c4_116_2 : Int) → length c4_116_2 = length c1_116_2 → length c4_116_2 ≤ 1000 → post116_2 a0 a1 c2_116_1 c0_116_2 c1_116_2 c2_116_2 c3_116_2 c4_116_2 (r116_2 c1_116_2 c4_116_2 n v0 v1)
  | 0, v0, v1, hi0, hi1, hi2, hi3, hi4, hi5 => by
    simp only [r116_2]
    first | trivial | (show _ ; simp only [post116_2]; omega) | (simp only [post116_2] at *; omega) | (simp only [decide_eq_true_eq, length_map] at *; omega) | (rw [wrap64 (by simp only [decide_eq_true_eq] at *; omega)]; omega) | (simp only [decide_eq_true_eq] at *; omega)
  | n + 1, v0, v1, hi0, hi1, hi2, hi3, hi4, hi5 => by
    simp only [r116_2]
    by_cases h_0 : (decide (v1 < ((length (map d_i c1_116_2)) : Int))) = true
    · try simp only [if_pos h_0]
      by_cases h_1 : (decide ((getD c4_116_2 (Int.toNat v1) 0) > (getD c4_116_2 (Int.toNat v0) 0))) = true
      · try simp only [if_pos h_1]
        exact z116_2 (a0 := a0) (a1 := a1) (c2_116_1 := c2_116_1) (c0_116_2 := c0_116_2) (c1_116_2 := c1_116_2) (c2_116_2 := c2_116_2) (c3_116_2 := c3_116_2) (c4_116_2 := c4_116_2) hy0 hy1 hy2 hy3 n v1 (IntKind.wrap .i64 (v1 + 1)) (by rw [wrap64 (by simp only [decide_eq_true_eq] at *; omega)]; omega) (by assumption) (by assumption) (by simp only [decide_eq_true_eq, length_map] at *; omega) (by assumption) (by assumption)
      · try simp only [if_neg h_1]
        exact z116_2 (a0 := a0) (a1 := a1) (c2_116_1 := c2_116_1) (c0_116_2 := c0_116_2) (c1_116_2 := c1_116_2) (c2_116_2 := c2_116_2) (c3_116_2 := c3_116_2) (c4_116_2 := c4_116_2) hy0 hy1 hy2 hy3 n v0 (IntKind.wrap .i64 (v1 + 1)) (by rw [wrap64 (by simp only [decide_eq_true_eq] at *; omega)]; omega) (by assumption) (by assumption) (by assumption) (by assumption) (by assumption)
    · try simp only [if_neg h_0]
      first | trivial | (show _ ; simp only [post116_2]; omega) | (simp only [post116_2] at *; omega) | (simp only [decide_eq_true_eq, length_map] at *; omega) | (rw [wrap64 (by simp only [decide_eq_true_eq] at *; omega)]; omega) | (simp only [decide_eq_true_eq] at *; omega)
end Go.Proofs.YtfmkbpiobddhdaaDoor.Splits
