/- What the functions compute. -/
import Derived.Test.YtdnopbpdiineiaaDoorEPackEntryC
import Derived.KernelRfl
namespace Go.Proofs.YtdnopbpdiineiaaDoor.PackEntry
open Go Go.Proofs.YtdnopbpdiineiaaDoor.V
set_option linter.unusedVariables false
set_option linter.unusedSimpArgs false
set_option maxRecDepth 20000
attribute [local simp] toBR_isii fullR_isii pureR_isii lenB_isii lenD_isii fromBR_isii copy_isii toBR_b fullR_b pureR_b lenB_b lenD_b fromBR_b copy_b toBR_i fullR_i pureR_i lenB_i lenD_i fromBR_i copy_i strInts_len byteRows_len toBR_y fullR_y pureR_y lenB_y lenD_y fromBR_y copy_y toBR_iLyE fullR_iLyE pureR_iLyE lenB_iLyE lenD_iLyE toBR_LyE fullR_LyE pureR_LyE lenB_LyE lenD_LyE toBR_LLyEE fullR_LLyEE pureR_LLyEE lenB_LLyEE lenD_LLyEE toBR_s fullR_s pureR_s lenB_s lenD_s fromBR_s copy_s
/-! loop 41_0 -/
inductive O41_0 where
  | k0 (w0 : List Int) (w1 : Int) (w2 : Int) (w3 : Bool)
def r41_0 (a0 : (List Int)) : List Int → Int → List Int → Int → O41_0
  | x0_41_0 :: l0_41_0, i_41_0, v0_41_0, v1_41_0 =>
    (r41_0 a0 l0_41_0 (i_41_0 + 1) (List.set v0_41_0 (Int.toNat i_41_0) (IntKind.wrap .u8 (v1_41_0))) (IntKind.wrap .i64 (v1_41_0 + 1)))
  | [], i_41_0, v0_41_0, v1_41_0 => (O41_0.k0 v0_41_0 v1_41_0 i_41_0 (decide (i_41_0 < ((List.length (List.map d_y a0)) : Int))))
def h41_0 (a0 : (List Int)) (a1 : Int) (i_41_0 : Int) (v0_41_0 : List Int) (v1_41_0 : Int) : St := ⟨[(0, (.one (.ref ⟨(0, 0, 0), [], 0, (List.length (List.map d_y a0))⟩))), (1, (.one (.val (.int .i64 v1_41_0)))), (5, (.one (.val (.int .i64 i_41_0))))], [((0, 0, 0), .live ⟨1, (List.map d_y v0_41_0), []⟩)]⟩
def ex41_0 : O41_0 → VX.Exit
  | .k0 _ _ _ _ => (.exit 0)
def fin41_0 (a0 : (List Int)) (a1 : Int) : O41_0 → St
  | .k0 w0 w1 w2 w3 => ⟨[(0, (.one (.ref ⟨(0, 0, 0), [], 0, (List.length (List.map d_y a0))⟩))), (1, (.one (.val (.int .i64 w1)))), (5, (.one (.val (.int .i64 w2)))), (9, (.one (.val (.bool w3))))], [((0, 0, 0), .live ⟨1, (List.map d_y w0), []⟩)]⟩
theorem t41_0 {a0 : (List Int)} {a1 : Int} (hy0 : List.length a0 * 1 ≤ 140737488351232) : ∀ (l0_41_0 : List Int) (p_41_0 : List Int) (v0_41_0 : List Int) (v1_41_0 : Int), p_41_0 ++ l0_41_0 = a0 → List.length v0_41_0 = (List.length (List.map d_y a0)) → List.drop (List.length p_41_0) v0_41_0 = l0_41_0 → Ev F X (.code l41_0 (h41_0 a0 a1 (List.length p_41_0 : Int) v0_41_0 v1_41_0) (ex41_0 (r41_0 a0 l0_41_0 (List.length p_41_0 : Int) v0_41_0 v1_41_0)) (fin41_0 a0 a1 (r41_0 a0 l0_41_0 (List.length p_41_0 : Int) v0_41_0 v1_41_0)))
  | [], p_41_0, v0_41_0, v1_41_0, hp0, hi0, hi1 => by
    have hc : ¬ (decide ((List.length p_41_0 : Int) < ((List.length (List.map d_y a0)) : Int))) = true := by
      rw [← hp0]; simp only [List.length_map, List.length_set, List.length_append, List.length_replicate, List.length_cons, List.length_nil, decide_eq_true_eq]; omega
    have hj0 := hi0; try simp only [List.length_map, List.length_set, List.length_append, List.length_replicate, List.length_cons, List.length_nil, Int.toNat_natCast] at hj0
    have hj1 := hi1; try simp only [List.length_map, List.length_set, List.length_append, List.length_replicate, List.length_cons, List.length_nil, Int.toNat_natCast] at hj1
    have st := codeH_ok (F := F) (X := X) (c := b41_0) (t := 0) (hs := [(8, .b false)]) (σ := h41_0 a0 a1 (List.length p_41_0 : Int) v0_41_0 v1_41_0) (σ' := ⟨[(0, (.one (.ref ⟨(0, 0, 0), [], 0, (List.length (List.map d_y a0))⟩))), (1, (.one (.val (.int .i64 v1_41_0)))), (5, (.one (.val (.int .i64 (List.length p_41_0 : Int))))), (9, (.one (.val (.bool (decide ((List.length p_41_0 : Int) < ((List.length (List.map d_y a0)) : Int)))))))], [((0, 0, 0), .live ⟨1, (List.map d_y v0_41_0), []⟩)]⟩) (e := (.exit 0)) (t' := 9) (hs' := []) (q := [(decide ((List.length p_41_0 : Int) < ((List.length (List.map d_y a0)) : Int))) = false]) (by kernel_rfl) ⟨(nt hc), trivial⟩
    rw [show (⟨[(0, (.one (.ref ⟨(0, 0, 0), [], 0, (List.length (List.map d_y a0))⟩))), (1, (.one (.val (.int .i64 v1_41_0)))), (5, (.one (.val (.int .i64 (List.length p_41_0 : Int))))), (9, (.one (.val (.bool (decide ((List.length p_41_0 : Int) < ((List.length (List.map d_y a0)) : Int)))))))], [((0, 0, 0), .live ⟨1, (List.map d_y v0_41_0), []⟩)]⟩ : St) = fin41_0 a0 a1 (.k0 v0_41_0 v1_41_0 (List.length p_41_0 : Int) (decide ((List.length p_41_0 : Int) < ((List.length (List.map d_y a0)) : Int)))) from by first | rfl | (unfold fin41_0; simp [byteRows_eq, ints_y, List.take_of_length_le, d_isii, d_b, d_i, d_y, d_iLyE, d_LyE, d_LLyEE, d_s, fromBR_isii, fromBR_b, fromBR_i, fromBR_y, fromBR_s, four_len, high4, high2]; done)] at st
    exact .loopX st (show ((.exit 0) : VX.Exit) ≠ .normal from by simp)
  | x0_41_0 :: l0_41_0, p_41_0, v0_41_0, v1_41_0, hp0, hi0, hi1 => by
    have hc : (decide ((List.length p_41_0 : Int) < ((List.length (List.map d_y a0)) : Int))) = true := by
      rw [← hp0]; simp only [List.length_map, List.length_set, List.length_append, List.length_replicate, List.length_cons, List.length_nil, decide_eq_true_eq]; omega
    have Hx0_41_0 : (a0)[Int.toNat (List.length p_41_0 : Int)]? = some x0_41_0 := by
      rw [← hp0, Int.toNat_natCast]; simp
    have hlen : List.length (a0) = List.length p_41_0 + List.length l0_41_0 + 1 := by rw [← hp0]; simp; omega
    have hw : IntKind.wrap .i64 ((List.length p_41_0 : Int) + 1) = (List.length p_41_0 : Int) + 1 := wrap64 (by omega)
    have hj0 := hi0; try simp only [List.length_map, List.length_set, List.length_append, List.length_replicate, List.length_cons, List.length_nil, Int.toNat_natCast] at hj0
    have hj1 := hi1; try simp only [List.length_map, List.length_set, List.length_append, List.length_replicate, List.length_cons, List.length_nil, Int.toNat_natCast] at hj1
    have Hv0_41_0 : v0_41_0[Int.toNat (List.length p_41_0 : Int)]? = some x0_41_0 := by rw [Int.toNat_natCast]; exact drop_at hi1
    simp only [r41_0]
    have st := codeH_ok (F := F) (X := X) (c := b41_0) (t := 0) (hs := [(8, .b true), (20, .rowD [(.val (.int .u8 x0_41_0))]), (21, .norm (0, 0, 0) (List.map d_y (List.set v0_41_0 (Int.toNat (List.length p_41_0 : Int)) (IntKind.wrap .u8 (v1_41_0)))))]) (σ := h41_0 a0 a1 (List.length p_41_0 : Int) v0_41_0 v1_41_0) (σ' := ⟨[(0, (.one (.ref ⟨(0, 0, 0), [], 0, (List.length (List.map d_y a0))⟩))), (1, (.one (.val (.int .i64 (IntKind.wrap .i64 (v1_41_0 + 1)))))), (5, (.one (.val (.int .i64 (IntKind.wrap .i64 ((List.length p_41_0 : Int) + 1))))))], [((0, 0, 0), .live ⟨1, (List.map d_y (List.set v0_41_0 (Int.toNat (List.length p_41_0 : Int)) (IntKind.wrap .u8 (v1_41_0)))), []⟩)]⟩) (e := .normal) (t' := 34) (hs' := []) (q := [(decide ((List.length p_41_0 : Int) < ((List.length (List.map d_y a0)) : Int))) = true, 0 + (List.length (List.map d_y a0)) ≤ (List.length (List.map d_y v0_41_0)), 0 ≤ (List.length p_41_0 : Int) ∧ (List.length p_41_0 : Int) < ((List.length (List.map d_y a0)) : Int), (List.map d_y v0_41_0)[(0 + (Int.toNat (List.length p_41_0 : Int)))]? = some [(.val (.int .u8 x0_41_0))], (List.set (List.map d_y v0_41_0) (0 + (Int.toNat (List.length p_41_0 : Int))) [(.val (.int .u8 (IntKind.wrap .u8 (v1_41_0))))]) = (List.map d_y (List.set v0_41_0 (Int.toNat (List.length p_41_0 : Int)) (IntKind.wrap .u8 (v1_41_0)))), True, True]) (by kernel_rfl) ⟨hc, (by first | exact True.intro | with_reducible rfl | with_reducible assumption | omega | (simp only [decide_eq_true_eq] at *; omega) | (simp only [List.length_map]; omega) | (simp [four_len, high4, high2]; omega) | (simp [List.take_of_length_le, four_len, high4, high2]; done) | assumption | trivial | (simp [*, four_len, high4, high2, b_y, d_y, byteRows_eq, ints_y]; done)), (by first | exact True.intro | with_reducible rfl | with_reducible assumption | omega | (simp only [decide_eq_true_eq] at *; omega) | (simp only [List.length_map]; omega) | (simp [four_len, high4, high2]; omega) | (simp [List.take_of_length_le, four_len, high4, high2]; done) | assumption | trivial | (simp [*, four_len, high4, high2, b_y, d_y, byteRows_eq, ints_y]; done)), (by first | (rw [List.getElem?_map, Hv0_41_0]; rfl) | (rw [Nat.zero_add, List.getElem?_map, Hv0_41_0]; rfl) | (simp only [List.drop_zero, tbr, tsi, ly_y, ly0_y, ← List.map_append, List.take_length, List.cons_append, List.nil_append, List.append_assoc, toBR_y, fullR_y, pureR_y, copy_y, ints_y]; done) | exact True.intro | with_reducible rfl | with_reducible assumption | omega | (simp only [List.length_map, List.length_set, List.length_append, List.length_replicate, List.length_cons, List.length_nil]; omega) | (simp [four_len, high4, high2]; done) | (simp [four_len, high4, high2]; omega) | (simp [List.take_of_length_le, four_len, high4, high2]; done) | (simp [← List.map_take, ← List.map_drop, four_len, high4, high2]; done) | assumption | trivial | (simp [*, four_len, high4, high2, b_y, d_y, byteRows_eq, ints_y]; done)), (by first | rfl | (simp [byteRows_eq, ints_y, List.take_of_length_le, d_isii, d_b, d_i, d_y, d_iLyE, d_LyE, d_LLyEE, d_s, fromBR_isii, fromBR_b, fromBR_i, fromBR_y, fromBR_s, four_len, high4, high2]; done) | (simp [List.map_set, List.map_take, List.map_drop, byteRows_eq, ints_y, List.take_of_length_le, d_isii, d_b, d_i, d_y, d_iLyE, d_LyE, d_LLyEE, d_s, fromBR_isii, fromBR_b, fromBR_i, fromBR_y, fromBR_s, four_len, high4, high2]; done)), trivial, trivial, trivial⟩
    have ih := t41_0 (a0 := a0) (a1 := a1) hy0 l0_41_0 (p_41_0 ++ [x0_41_0]) (List.set v0_41_0 (Int.toNat (List.length p_41_0 : Int)) (IntKind.wrap .u8 (v1_41_0))) (IntKind.wrap .i64 (v1_41_0 + 1)) (by rw [List.append_assoc]; exact hp0) (by first | omega | (simp only [List.length_map, List.length_set, List.length_append, List.length_replicate, List.length_cons, List.length_nil]; omega) | (simp only [List.length_map, List.length_set, List.length_append, List.length_replicate, List.length_cons, List.length_nil]; assumption) | assumption | (simp only [List.length_map, List.length_set, List.length_append, List.length_replicate, List.length_cons, List.length_nil] at *; omega)) (by simp only [List.length_map, List.length_set, List.length_append, List.length_replicate, List.length_cons, List.length_nil, Int.toNat_natCast]; first | exact drop_set_next hi1 _ | exact drop_next hi1)
    rw [show ((p_41_0 ++ [x0_41_0]).length : Int) = (p_41_0.length : Int) + 1 from by simp] at ih
    rw [show (⟨[(0, (.one (.ref ⟨(0, 0, 0), [], 0, (List.length (List.map d_y a0))⟩))), (1, (.one (.val (.int .i64 (IntKind.wrap .i64 (v1_41_0 + 1)))))), (5, (.one (.val (.int .i64 (IntKind.wrap .i64 ((List.length p_41_0 : Int) + 1))))))], [((0, 0, 0), .live ⟨1, (List.map d_y (List.set v0_41_0 (Int.toNat (List.length p_41_0 : Int)) (IntKind.wrap .u8 (v1_41_0)))), []⟩)]⟩ : St) = h41_0 a0 a1 ((List.length p_41_0 : Int) + 1) (List.set v0_41_0 (Int.toNat (List.length p_41_0 : Int)) (IntKind.wrap .u8 (v1_41_0))) (IntKind.wrap .i64 (v1_41_0 + 1)) from by first | (unfold h41_0; simp only [hw]; done) | (unfold h41_0; simp only [hw, List.length_map, List.length_set, List.length_append, List.length_replicate, List.length_cons, List.length_nil]; done) | (unfold h41_0; simp [hw, byteRows_eq, ints_y, List.take_of_length_le, d_isii, d_b, d_i, d_y, d_iLyE, d_LyE, d_LLyEE, d_s, fromBR_isii, fromBR_b, fromBR_i, fromBR_y, fromBR_s, four_len, high4, high2]; done)] at st
    exact .loopN st ih
def post41_0 (n0 : Nat) : O41_0 → Prop
  | .k0 w0 _ _ _ => List.length w0 = n0
theorem z41_0 {a0 : (List Int)} : ∀ (l0_41_0 : List Int) (i_41_0 : Int) (v0_41_0 : List Int) (v1_41_0 : Int), post41_0 (List.length v0_41_0) (r41_0 a0 l0_41_0 i_41_0 v0_41_0 v1_41_0)
  | [], i_41_0, v0_41_0, v1_41_0 => by
    first | trivial | (simp only [post41_0, List.length_nil, Nat.add_zero]; done) | (simp [post41_0]; done)
  | x0_41_0 :: l0_41_0, i_41_0, v0_41_0, v1_41_0 => by
    simp only [r41_0]
    have z := z41_0 (a0 := a0) l0_41_0 (i_41_0 + 1) (List.set v0_41_0 (Int.toNat i_41_0) (IntKind.wrap .u8 (v1_41_0))) (IntKind.wrap .i64 (v1_41_0 + 1))
    rw [show (List.length v0_41_0) = (List.length (List.set v0_41_0 (Int.toNat i_41_0) (IntKind.wrap .u8 (v1_41_0)))) from by first | omega | (simp only [List.length_map, List.length_set, List.length_append, List.length_replicate, List.length_cons, List.length_nil]; done) | (simp only [List.length_map, List.length_set, List.length_append, List.length_replicate, List.length_cons, List.length_nil]; omega)]
    exact z
/-! loop.example/g00539/laws.markByteS -/
def o41_0 (a0 : (List Int)) (a1 : Int) : List Int :=
  (match r41_0 a0 a0 0 a0 a1 with | .k0 w0_41_0_0 w1_41_0_0 w2_41_0_0 w3_41_0_0 => w0_41_0_0)
def m41 (a0 : (List Int)) (a1 : Int) : Int :=
  (match r41_0 a0 a0 0 a0 a1 with | .k0 w0_41_0_0 w1_41_0_0 w2_41_0_0 w3_41_0_0 => w1_41_0_0)
theorem e41 {a0 : (List Int)} {a1 : Int} (hy0 : List.length a0 * 1 ≤ 140737488351232) : Ev F X (.call 41 [(.one (.ref ⟨(0, 0, 0), [], 0, (List.length (List.map d_y a0))⟩)), (.one (.val (.int .i64 a1)))] [((0, 0, 0), ⟨1, (List.map d_y a0), []⟩)] [(List.map d_y (o41_0 a0 a1))] [(.one (.val (.int .i64 (m41 a0 a1))))]) := by
  unfold m41 o41_0
  cases h0 : r41_0 a0 a0 0 a0 a1 with
  | k0 w0_41_0_0 w1_41_0_0 w2_41_0_0 w3_41_0_0 =>
    try dsimp only
    have zh0 := z41_0 (a0 := a0) a0 0 a0 a1; rw [h0] at zh0; simp only [post41_0, List.length_map, List.length_set, List.length_append, List.length_replicate, List.length_cons, List.length_nil, Int.toNat_natCast] at zh0
    have f0 : (⟨[(0, (.one (.ref ⟨(0, 0, 0), [], 0, (List.length (List.map d_y a0))⟩))), (1, (.one (.val (.int .i64 a1)))), (5, (.one (.val (.int .i64 0))))], [((0, 0, 0), .live ⟨1, (List.map d_y a0), []⟩)]⟩ : St) = h41_0 a0 a1 0 a0 a1 := (by first | rfl | (unfold h41_0; simp [byteRows_eq, ints_y, List.take_of_length_le, d_isii, d_b, d_i, d_y, d_iLyE, d_LyE, d_LLyEE, d_s, fromBR_isii, fromBR_b, fromBR_i, fromBR_y, fromBR_s, four_len, high4, high2]; done))
    have f1 : Ev F X (.code l41_0 (h41_0 a0 a1 0 a0 a1) (.exit 0) ⟨[(0, (.one (.ref ⟨(0, 0, 0), [], 0, (List.length (List.map d_y a0))⟩))), (1, (.one (.val (.int .i64 w1_41_0_0)))), (5, (.one (.val (.int .i64 w2_41_0_0)))), (9, (.one (.val (.bool w3_41_0_0))))], [((0, 0, 0), .live ⟨1, (List.map d_y w0_41_0_0), []⟩)]⟩) := (by have t : Ev F X (.code l41_0 (h41_0 a0 a1 0 a0 a1) (ex41_0 (r41_0 a0 a0 0 a0 a1)) (fin41_0 a0 a1 (r41_0 a0 a0 0 a0 a1))) := t41_0 (a0 := a0) (a1 := a1) (by first | assumption | omega) a0 [] a0 a1 rfl (by first | rfl | omega | (simp only [List.length_map, List.length_set, List.length_append, List.length_replicate, List.length_cons, List.length_nil]; done) | (simp only [List.length_map, List.length_set, List.length_append, List.length_replicate, List.length_cons, List.length_nil]; omega) | (simp; done)) (by first | rfl | omega | (simp only [List.length_map, List.length_set, List.length_append, List.length_replicate, List.length_cons, List.length_nil]; done) | (simp only [List.length_map, List.length_set, List.length_append, List.length_replicate, List.length_cons, List.length_nil]; omega) | (simp; done)); rw [h0] at t; exact t)
    have f2 : pureR (List.map d_y w0_41_0_0) = true := (pureR_y _)
    exact callP_ok (ps := [true]) (os := [(List.map d_y w0_41_0_0)]) (rs := [(.one (.val (.int .i64 w1_41_0_0)))]) (by kernel_rfl) (.f f0 (.f f1 (.f f2 (.h 4 (.loop (h41_0 a0 a1 0 a0 a1) (.exit 0) ⟨[(0, (.one (.ref ⟨(0, 0, 0), [], 0, (List.length (List.map d_y a0))⟩))), (1, (.one (.val (.int .i64 w1_41_0_0)))), (5, (.one (.val (.int .i64 w2_41_0_0)))), (9, (.one (.val (.bool w3_41_0_0))))], [((0, 0, 0), .live ⟨1, (List.map d_y w0_41_0_0), []⟩)]⟩) .nil))))
theorem ow41_0 (a0 : List Int) : ∀ (l p : List Int) (v1_41_0 : Int), ∃ (q : List Int) (w1 : _) (w2 : _) (w3 : _), r41_0 a0 l (p.length : Int) (p ++ l) v1_41_0 = .k0 (p ++ q) w1 w2 w3 ∧ q.length = l.length
  | [], p, v1_41_0 => ⟨[], v1_41_0, (p.length : Int), (decide ((p.length : Int) < ((List.length (List.map d_y a0)) : Int))), rfl, rfl⟩
  | x0_41_0 :: l, p, v1_41_0 => by
    obtain ⟨q, w1, w2, w3, e1, e2⟩ := ow41_0 a0 l (p ++ [(IntKind.wrap .u8 (v1_41_0))]) (IntKind.wrap .i64 (v1_41_0 + 1))
    refine ⟨(IntKind.wrap .u8 (v1_41_0)) :: q, w1, w2, w3, ?_, by simp [e2]⟩
    · have e : List.set (p ++ x0_41_0 :: l) (Int.toNat (p.length : Int)) (IntKind.wrap .u8 (v1_41_0)) = (p ++ [(IntKind.wrap .u8 (v1_41_0))]) ++ l := by simp
      have e0 : ((p ++ [(IntKind.wrap .u8 (v1_41_0))]).length : Int) = (p.length : Int) + 1 := by simp
      rw [e0] at e1
      simp only [r41_0]
      first | (rw [e, e1]; simp; done) | (simp only [e, e1]; simp; done)

theorem ol41 (a : List Int) (k : Int) : (o41_0 a k).length = a.length := by
  obtain ⟨q, w1, w2, w3, e1, e2⟩ := ow41_0 a a [] k
  simp only [List.nil_append, List.length_nil] at e1
  rw [show ((0 : Nat) : Int) = 0 from rfl] at e1
  unfold o41_0
  rw [e1]; exact e2
/-! loop.example/g00539/laws.markBytesResult -/
def o16_0 (a0 : K_iLyE) (a1 : Int) : List Int :=
  (o41_0 a0.f1 a1)
def m16 (a0 : K_iLyE) (a1 : Int) : Int :=
  (m41 a0.f1 a1)
theorem e16 {a0 : K_iLyE} {a1 : Int} (hy0 : List.length a0.f1 * 1 ≤ 140737488351232) : Ev F X (.call 16 [(.agg [(.val (.int .i64 a0.f0)), (.ref ⟨(0, 0, 0), [], 0, (List.length (List.map d_y a0.f1))⟩)]), (.one (.val (.int .i64 a1)))] [((0, 0, 0), ⟨1, (List.map d_y a0.f1), []⟩)] [(List.map d_y (o16_0 a0 a1))] [(.one (.val (.int .i64 (m16 a0 a1))))]) := by
  have f0 : 0 = 0 := rfl
  have f1 : (List.length (List.map d_y a0.f1)) = (List.length (List.map d_y a0.f1)) := rfl
  have f2 : pureR (List.map d_y a0.f1) = true := (pureR_y _)
  have f3 : Ev F X (.call 41 [(.one (.ref ⟨(0, 0, 0), [], 0, (List.length (List.map d_y a0.f1))⟩)), (.one (.val (.int .i64 a1)))] [((0, 0, 0), ⟨1, (List.map d_y a0.f1), []⟩)] [(List.map d_y (o41_0 a0.f1 a1))] [(.one (.val (.int .i64 (m41 a0.f1 a1))))]) := (e41 (a0 := a0.f1) (a1 := a1) (by first | with_reducible assumption | omega | assumption | (simp only [List.length_map]; omega) | (simp [four_len, high4, high2, ol41]; omega)))
  have f4 : pureR (List.map d_y (o41_0 a0.f1 a1)) = true := (pureR_y _)
  exact callP_ok (ps := [true]) (os := [(List.map d_y (o41_0 a0.f1 a1))]) (rs := [(.one (.val (.int .i64 (m41 a0.f1 a1))))]) (by kernel_rfl) (.f f0 (.f f1 (.f f2 (.r 11 [true] [] f3 (.f f4 .nil)))))
theorem ol16_0 (a : K_iLyE) (k : Int) : (o16_0 a k).length = List.length a.f1 := by
  unfold o16_0
  simp [ol41]
/-! loop 66_0 -/
inductive O66_0 where
  | k0 (w0 : Int) (w1 : Int) (w2 : Bool)
  | k1
def r66_0 (a0 : (List Int)) : List Int → Int → Int → O66_0
  | x0_66_0 :: l0_66_0, i_66_0, v0_66_0 =>
    if (x0_66_0 != (IntKind.wrap .u8 (v0_66_0))) = true then (O66_0.k1) else
    (r66_0 a0 l0_66_0 (i_66_0 + 1) (IntKind.wrap .i64 (v0_66_0 + 1)))
  | [], i_66_0, v0_66_0 => (O66_0.k0 v0_66_0 i_66_0 (decide (i_66_0 < ((List.length (List.map b_y a0)) : Int))))
def h66_0 (l0_0 : Nat) (a0 : (List Int)) (a1 : Int) (i_66_0 : Int) (v0_66_0 : Int) : St := ⟨[(0, (.one (.bor l0_0 (List.map b_y a0)))), (1, (.one (.val (.int .i64 v0_66_0)))), (5, (.one (.val (.int .i64 i_66_0))))], []⟩
def ex66_0 : O66_0 → VX.Exit
  | .k0 _ _ _ => (.exit 0)
  | .k1 => .ret
def fin66_0 (l0_0 : Nat) (a0 : (List Int)) (a1 : Int) : O66_0 → St
  | .k0 w0 w1 w2 => ⟨[(0, (.one (.bor l0_0 (List.map b_y a0)))), (1, (.one (.val (.int .i64 w0)))), (5, (.one (.val (.int .i64 w1)))), (9, (.one (.val (.bool w2))))], []⟩
  | .k1 => ⟨[(4, (.one (.val (.int .i64 (-1)))))], []⟩
theorem t66_0 {l0_0 : Nat} {a0 : (List Int)} {a1 : Int} (hy0 : List.length a0 * 1 ≤ 140737488351232) : ∀ (l0_66_0 : List Int) (p_66_0 : List Int) (v0_66_0 : Int), p_66_0 ++ l0_66_0 = a0 → Ev F X (.code l66_0 (h66_0 l0_0 a0 a1 (List.length p_66_0 : Int) v0_66_0) (ex66_0 (r66_0 a0 l0_66_0 (List.length p_66_0 : Int) v0_66_0)) (fin66_0 l0_0 a0 a1 (r66_0 a0 l0_66_0 (List.length p_66_0 : Int) v0_66_0)))
  | [], p_66_0, v0_66_0, hp0 => by
    have hc : ¬ (decide ((List.length p_66_0 : Int) < ((List.length (List.map b_y a0)) : Int))) = true := by
      rw [← hp0]; simp only [List.length_map, List.length_set, List.length_append, List.length_replicate, List.length_cons, List.length_nil, decide_eq_true_eq]; omega
    have st := codeH_ok (F := F) (X := X) (c := b66_0) (t := 0) (hs := [(8, .b false)]) (σ := h66_0 l0_0 a0 a1 (List.length p_66_0 : Int) v0_66_0) (σ' := ⟨[(0, (.one (.bor l0_0 (List.map b_y a0)))), (1, (.one (.val (.int .i64 v0_66_0)))), (5, (.one (.val (.int .i64 (List.length p_66_0 : Int))))), (9, (.one (.val (.bool (decide ((List.length p_66_0 : Int) < ((List.length (List.map b_y a0)) : Int)))))))], []⟩) (e := (.exit 0)) (t' := 9) (hs' := []) (q := [(decide ((List.length p_66_0 : Int) < ((List.length (List.map b_y a0)) : Int))) = false]) (by kernel_rfl) ⟨(nt hc), trivial⟩
    rw [show (⟨[(0, (.one (.bor l0_0 (List.map b_y a0)))), (1, (.one (.val (.int .i64 v0_66_0)))), (5, (.one (.val (.int .i64 (List.length p_66_0 : Int))))), (9, (.one (.val (.bool (decide ((List.length p_66_0 : Int) < ((List.length (List.map b_y a0)) : Int)))))))], []⟩ : St) = fin66_0 l0_0 a0 a1 (.k0 v0_66_0 (List.length p_66_0 : Int) (decide ((List.length p_66_0 : Int) < ((List.length (List.map b_y a0)) : Int)))) from by first | rfl | (unfold fin66_0; simp [byteRows_eq, ints_y, List.take_of_length_le, d_isii, d_b, d_i, d_y, d_iLyE, d_LyE, d_LLyEE, d_s, fromBR_isii, fromBR_b, fromBR_i, fromBR_y, fromBR_s, four_len, high4, high2, ol41, ol16_0]; done)] at st
    exact .loopX st (show ((.exit 0) : VX.Exit) ≠ .normal from by simp)
  | x0_66_0 :: l0_66_0, p_66_0, v0_66_0, hp0 => by
    have hc : (decide ((List.length p_66_0 : Int) < ((List.length (List.map b_y a0)) : Int))) = true := by
      rw [← hp0]; simp only [List.length_map, List.length_set, List.length_append, List.length_replicate, List.length_cons, List.length_nil, decide_eq_true_eq]; omega
    have Hx0_66_0 : (a0)[Int.toNat (List.length p_66_0 : Int)]? = some x0_66_0 := by
      rw [← hp0, Int.toNat_natCast]; simp
    have hlen : List.length (a0) = List.length p_66_0 + List.length l0_66_0 + 1 := by rw [← hp0]; simp; omega
    have hw : IntKind.wrap .i64 ((List.length p_66_0 : Int) + 1) = (List.length p_66_0 : Int) + 1 := wrap64 (by omega)
    simp only [r66_0]
    by_cases h_66_0_1 : (x0_66_0 != (IntKind.wrap .u8 (v0_66_0))) = true
    · try simp only [if_pos h_66_0_1]
      have st := codeH_ok (F := F) (X := X) (c := b66_0) (t := 0) (hs := [(8, .b true), (14, .row [(.val (.int .u8 x0_66_0))]), (23, .b true)]) (σ := h66_0 l0_0 a0 a1 (List.length p_66_0 : Int) v0_66_0) (σ' := ⟨[(4, (.one (.val (.int .i64 (-1)))))], []⟩) (e := .ret) (t' := 26) (hs' := []) (q := [(decide ((List.length p_66_0 : Int) < ((List.length (List.map b_y a0)) : Int))) = true, 0 ≤ (List.length p_66_0 : Int), (List.map b_y a0)[(Int.toNat (List.length p_66_0 : Int))]? = some [(.val (.int .u8 x0_66_0))], (x0_66_0 != (IntKind.wrap .u8 (v0_66_0))) = true]) (by kernel_rfl) ⟨hc, (by first | exact True.intro | with_reducible rfl | with_reducible assumption | omega | (simp only [decide_eq_true_eq] at *; omega) | (simp only [List.length_map, List.length_set, List.length_append, List.length_replicate, List.length_cons, List.length_nil]; omega) | (simp [four_len, high4, high2, ol41, ol16_0]; omega) | (simp [List.take_of_length_le, four_len, high4, high2, ol41, ol16_0]; done) | assumption | trivial | (simp [*, four_len, high4, high2, ol41, ol16_0, byteRows_eq, ints_y]; done)), (by first | (rw [List.getElem?_map, Hx0_66_0]; rfl) | (rw [Nat.zero_add, List.getElem?_map, Hx0_66_0]; rfl) | (simp only [List.drop_zero, tbr, tsi, ly_y, ly0_y, ← List.map_append, List.take_length, List.cons_append, List.nil_append, List.append_assoc, toBR_y, fullR_y, pureR_y, copy_y, ints_y]; done) | exact True.intro | with_reducible rfl | with_reducible assumption | omega | (simp only [List.length_map, List.length_set, List.length_append, List.length_replicate, List.length_cons, List.length_nil]; omega) | (simp [four_len, high4, high2, ol41, ol16_0]; done) | (simp [four_len, high4, high2, ol41, ol16_0]; omega) | (simp [List.take_of_length_le, four_len, high4, high2, ol41, ol16_0]; done) | (simp [← List.map_take, ← List.map_drop, four_len, high4, high2, ol41, ol16_0]; done) | assumption | trivial | (simp [*, four_len, high4, high2, ol41, ol16_0, b_y, d_y, byteRows_eq, ints_y]; done)), h_66_0_1, trivial⟩
      rw [show (⟨[(4, (.one (.val (.int .i64 (-1)))))], []⟩ : St) = fin66_0 l0_0 a0 a1 (.k1) from by first | rfl | (unfold fin66_0; simp [byteRows_eq, ints_y, List.take_of_length_le, d_isii, d_b, d_i, d_y, d_iLyE, d_LyE, d_LLyEE, d_s, fromBR_isii, fromBR_b, fromBR_i, fromBR_y, fromBR_s, four_len, high4, high2, ol41, ol16_0]; done)] at st
      exact .loopX st (show (.ret : VX.Exit) ≠ .normal from by simp)
    · try simp only [if_neg h_66_0_1]
      have st := codeH_ok (F := F) (X := X) (c := b66_0) (t := 0) (hs := [(8, .b true), (14, .row [(.val (.int .u8 x0_66_0))]), (23, .b false)]) (σ := h66_0 l0_0 a0 a1 (List.length p_66_0 : Int) v0_66_0) (σ' := ⟨[(0, (.one (.bor l0_0 (List.map b_y a0)))), (1, (.one (.val (.int .i64 (IntKind.wrap .i64 (v0_66_0 + 1)))))), (5, (.one (.val (.int .i64 (IntKind.wrap .i64 ((List.length p_66_0 : Int) + 1))))))], []⟩) (e := .normal) (t' := 36) (hs' := []) (q := [(decide ((List.length p_66_0 : Int) < ((List.length (List.map b_y a0)) : Int))) = true, 0 ≤ (List.length p_66_0 : Int), (List.map b_y a0)[(Int.toNat (List.length p_66_0 : Int))]? = some [(.val (.int .u8 x0_66_0))], (x0_66_0 != (IntKind.wrap .u8 (v0_66_0))) = false, True, True]) (by kernel_rfl) ⟨hc, (by first | exact True.intro | with_reducible rfl | with_reducible assumption | omega | (simp only [decide_eq_true_eq] at *; omega) | (simp only [List.length_map, List.length_set, List.length_append, List.length_replicate, List.length_cons, List.length_nil]; omega) | (simp [four_len, high4, high2, ol41, ol16_0]; omega) | (simp [List.take_of_length_le, four_len, high4, high2, ol41, ol16_0]; done) | assumption | trivial | (simp [*, four_len, high4, high2, ol41, ol16_0, byteRows_eq, ints_y]; done)), (by first | (rw [List.getElem?_map, Hx0_66_0]; rfl) | (rw [Nat.zero_add, List.getElem?_map, Hx0_66_0]; rfl) | (simp only [List.drop_zero, tbr, tsi, ly_y, ly0_y, ← List.map_append, List.take_length, List.cons_append, List.nil_append, List.append_assoc, toBR_y, fullR_y, pureR_y, copy_y, ints_y]; done) | exact True.intro | with_reducible rfl | with_reducible assumption | omega | (simp only [List.length_map, List.length_set, List.length_append, List.length_replicate, List.length_cons, List.length_nil]; omega) | (simp [four_len, high4, high2, ol41, ol16_0]; done) | (simp [four_len, high4, high2, ol41, ol16_0]; omega) | (simp [List.take_of_length_le, four_len, high4, high2, ol41, ol16_0]; done) | (simp [← List.map_take, ← List.map_drop, four_len, high4, high2, ol41, ol16_0]; done) | assumption | trivial | (simp [*, four_len, high4, high2, ol41, ol16_0, b_y, d_y, byteRows_eq, ints_y]; done)), (nt h_66_0_1), trivial, trivial, trivial⟩
      have ih := t66_0 (l0_0 := l0_0) (a0 := a0) (a1 := a1) hy0 l0_66_0 (p_66_0 ++ [x0_66_0]) (IntKind.wrap .i64 (v0_66_0 + 1)) (by rw [List.append_assoc]; exact hp0)
      rw [show ((p_66_0 ++ [x0_66_0]).length : Int) = (p_66_0.length : Int) + 1 from by simp] at ih
      rw [show (⟨[(0, (.one (.bor l0_0 (List.map b_y a0)))), (1, (.one (.val (.int .i64 (IntKind.wrap .i64 (v0_66_0 + 1)))))), (5, (.one (.val (.int .i64 (IntKind.wrap .i64 ((List.length p_66_0 : Int) + 1))))))], []⟩ : St) = h66_0 l0_0 a0 a1 ((List.length p_66_0 : Int) + 1) (IntKind.wrap .i64 (v0_66_0 + 1)) from by first | (unfold h66_0; simp only [hw]; done) | (unfold h66_0; simp only [hw, List.length_map, List.length_set, List.length_append, List.length_replicate, List.length_cons, List.length_nil]; done) | (unfold h66_0; simp [hw, byteRows_eq, ints_y, List.take_of_length_le, d_isii, d_b, d_i, d_y, d_iLyE, d_LyE, d_LLyEE, d_s, fromBR_isii, fromBR_b, fromBR_i, fromBR_y, fromBR_s, four_len, high4, high2, ol41, ol16_0]; done)] at st
      exact .loopN st ih
/-! loop.example/g00539/laws.heldByteS -/
def m66 (a0 : (List Int)) (a1 : Int) : Int :=
  (match r66_0 a0 a0 0 a1 with | .k0 w0_66_0_0 w1_66_0_0 w2_66_0_0 => w0_66_0_0 | .k1 => (-1))
theorem e66 {l0_0 : Nat} {a0 : (List Int)} {a1 : Int} (hy0 : List.length a0 * 1 ≤ 140737488351232) : Ev F X (.call 66 [(.one (.bor l0_0 (List.map b_y a0))), (.one (.val (.int .i64 a1)))] [] [] [(.one (.val (.int .i64 (m66 a0 a1))))]) := by
  unfold m66
  cases h0 : r66_0 a0 a0 0 a1 with
  | k0 w0_66_0_0 w1_66_0_0 w2_66_0_0 =>
    try dsimp only
    have f0 : (⟨[(0, (.one (.bor l0_0 (List.map b_y a0)))), (1, (.one (.val (.int .i64 a1)))), (5, (.one (.val (.int .i64 0))))], []⟩ : St) = h66_0 l0_0 a0 a1 0 a1 := (by first | rfl | (unfold h66_0; simp [byteRows_eq, ints_y, List.take_of_length_le, d_isii, d_b, d_i, d_y, d_iLyE, d_LyE, d_LLyEE, d_s, fromBR_isii, fromBR_b, fromBR_i, fromBR_y, fromBR_s, four_len, high4, high2, ol41, ol16_0]; done))
    have f1 : Ev F X (.code l66_0 (h66_0 l0_0 a0 a1 0 a1) (.exit 0) ⟨[(0, (.one (.bor l0_0 (List.map b_y a0)))), (1, (.one (.val (.int .i64 w0_66_0_0)))), (5, (.one (.val (.int .i64 w1_66_0_0)))), (9, (.one (.val (.bool w2_66_0_0))))], []⟩) := (by have t : Ev F X (.code l66_0 (h66_0 l0_0 a0 a1 0 a1) (ex66_0 (r66_0 a0 a0 0 a1)) (fin66_0 l0_0 a0 a1 (r66_0 a0 a0 0 a1))) := t66_0 (l0_0 := l0_0) (a0 := a0) (a1 := a1) (by first | assumption | omega) a0 [] a1 rfl; rw [h0] at t; exact t)
    exact callP_ok (ps := []) (os := []) (rs := [(.one (.val (.int .i64 w0_66_0_0)))]) (by kernel_rfl) (.f f0 (.f f1 (.h 4 (.loop (h66_0 l0_0 a0 a1 0 a1) (.exit 0) ⟨[(0, (.one (.bor l0_0 (List.map b_y a0)))), (1, (.one (.val (.int .i64 w0_66_0_0)))), (5, (.one (.val (.int .i64 w1_66_0_0)))), (9, (.one (.val (.bool w2_66_0_0))))], []⟩) .nil)))
  | k1 =>
    try dsimp only
    have f0 : (⟨[(0, (.one (.bor l0_0 (List.map b_y a0)))), (1, (.one (.val (.int .i64 a1)))), (5, (.one (.val (.int .i64 0))))], []⟩ : St) = h66_0 l0_0 a0 a1 0 a1 := (by first | rfl | (unfold h66_0; simp [byteRows_eq, ints_y, List.take_of_length_le, d_isii, d_b, d_i, d_y, d_iLyE, d_LyE, d_LLyEE, d_s, fromBR_isii, fromBR_b, fromBR_i, fromBR_y, fromBR_s, four_len, high4, high2, ol41, ol16_0]; done))
    have f1 : Ev F X (.code l66_0 (h66_0 l0_0 a0 a1 0 a1) .ret ⟨[(4, (.one (.val (.int .i64 (-1)))))], []⟩) := (by have t : Ev F X (.code l66_0 (h66_0 l0_0 a0 a1 0 a1) (ex66_0 (r66_0 a0 a0 0 a1)) (fin66_0 l0_0 a0 a1 (r66_0 a0 a0 0 a1))) := t66_0 (l0_0 := l0_0) (a0 := a0) (a1 := a1) (by first | assumption | omega) a0 [] a1 rfl; rw [h0] at t; exact t)
    exact callP_ok (ps := []) (os := []) (rs := [(.one (.val (.int .i64 (-1))))]) (by kernel_rfl) (.f f0 (.f f1 (.h 4 (.loop (h66_0 l0_0 a0 a1 0 a1) .ret ⟨[(4, (.one (.val (.int .i64 (-1)))))], []⟩) .nil)))
/-! loop.example/g00539/laws.heldBytesResult -/
def m17 (a0 : K_iLyE) (a1 : Int) : Int :=
  if (decide ((m66 a0.f1 a1) < 0)) = true then (-1) else
  (m66 a0.f1 a1)
theorem e17 {l0_1 : Nat} {a0 : K_iLyE} {a1 : Int} (hy0 : List.length a0.f1 * 1 ≤ 140737488351232) : Ev F X (.call 17 [(.agg [(.val (.int .i64 a0.f0)), (.bor l0_1 (List.map b_y a0.f1))]), (.one (.val (.int .i64 a1)))] [] [] [(.one (.val (.int .i64 (m17 a0 a1))))]) := by
  unfold m17
  have f0 : Ev F X (.call 66 [(.one (.bor (l0_1 + 1) (List.map b_y a0.f1))), (.one (.val (.int .i64 a1)))] [] [] [(.one (.val (.int .i64 (m66 a0.f1 a1))))]) := (e66 (a0 := a0.f1) (a1 := a1) (by first | with_reducible assumption | omega | assumption | (simp only [List.length_map]; omega) | (simp [four_len, high4, high2, ol41, ol16_0]; omega)))
  by_cases h0 : (decide ((m66 a0.f1 a1) < 0)) = true
  · try simp only [if_pos h0]
    exact callP_ok (ps := []) (os := []) (rs := [(.one (.val (.int .i64 (-1))))]) (by kernel_rfl) (.r 11 [] [] f0 (.f h0 (.h 18 (.b true) .nil)))
  · try simp only [if_neg h0]
    exact callP_ok (ps := []) (os := []) (rs := [(.one (.val (.int .i64 (m66 a0.f1 a1))))]) (by kernel_rfl) (.r 11 [] [] f0 (.f (nt h0) (.h 18 (.b false) .nil)))
/-! loop.example/g00539/laws.FnExactPackEntry -/
def m3 (a0 : K_isii) : Bool :=
  if (decide ((m11 a0 1048576) < 0)) = true then true else
  if (!(m15 (m14 a0) (m12 a0))) = true then false else
    if (decide ((m17 (K_iLyE.mk ((m14 a0).f0) (o16_0 (m14 a0) 1)) 1) < 0)) = true then false else
      if ((m17 (K_iLyE.mk ((m14 a0).f0) (o16_0 (m14 a0) 1)) 1) != (m16 (m14 a0) 1)) = true then false else
        true
set_option maxHeartbeats 8000000 in
theorem e3 {a0 : K_isii} (hy0 : ByteArray.size a0.f1 ≤ 140737488351232) : Ev F X (.call 3 [(.agg [(.val (.int .i64 a0.f0)), (.val (.string a0.f1)), (.val (.int .i64 a0.f2)), (.val (.int .i64 a0.f3))])] [] [] [(.one (.val (.bool (m3 a0))))]) := by
  unfold m3
  have f0 : Ev F X (.call 11 [(.agg [(.val (.int .i64 a0.f0)), (.val (.string a0.f1)), (.val (.int .i64 a0.f2)), (.val (.int .i64 a0.f3))]), (.one (.val (.int .i64 1048576)))] [] [] [(.one (.val (.int .i64 (m11 a0 1048576))))]) := (e11 (a0 := a0) (a1 := 1048576))
  by_cases h0 : (decide ((m11 a0 1048576) < 0)) = true
  · try simp only [if_pos h0]
    exact callP_ok (ps := []) (os := []) (rs := [(.one (.val (.bool true)))]) (by kernel_rfl) (.r 11 [] [] f0 (.f h0 (.h 18 (.b true) .nil)))
  · try simp only [if_neg h0]
    have f2 : Ev F X (.call 13 [(.agg [(.val (.int .i64 a0.f0)), (.val (.string a0.f1)), (.val (.int .i64 a0.f2)), (.val (.int .i64 a0.f3))])] [] [] [(.agg [(.val (.int .i64 a0.f0)), (.val (.string a0.f1)), (.val (.int .i64 a0.f2)), (.val (.int .i64 a0.f3))])]) := (e13 (a0 := a0))
    have f3 : Ev F X (.call 12 [(.agg [(.val (.int .i64 a0.f0)), (.val (.string a0.f1)), (.val (.int .i64 a0.f2)), (.val (.int .i64 a0.f3))])] [] [] [(.agg [(.val (.int .i64 ((m12 a0).f0))), (.own 1 (List.map d_y ((m12 a0).f1)))])]) := (e12 (a0 := a0) (by first | with_reducible assumption | omega | assumption | (simp only [List.length_map]; omega) | (simp [four_len, high4, high2, ol41, ol16_0]; omega)))
    have f4 : 0 = 0 := rfl
    have f5 : (List.length (List.map d_y ((m12 a0).f1))) = (List.length (List.map d_y ((m12 a0).f1))) := rfl
    have f6 : Ev F X (.call 13 [(.agg [(.val (.int .i64 a0.f0)), (.val (.string a0.f1)), (.val (.int .i64 a0.f2)), (.val (.int .i64 a0.f3))])] [] [] [(.agg [(.val (.int .i64 a0.f0)), (.val (.string a0.f1)), (.val (.int .i64 a0.f2)), (.val (.int .i64 a0.f3))])]) := (e13 (a0 := a0))
    have f7 : Ev F X (.call 14 [(.agg [(.val (.int .i64 a0.f0)), (.val (.string a0.f1)), (.val (.int .i64 a0.f2)), (.val (.int .i64 a0.f3))])] [] [] [(.agg [(.val (.int .i64 ((m14 a0).f0))), (.own 1 (List.map d_y ((m14 a0).f1)))])]) := (e14 (a0 := a0))
    have f8 : 0 = 0 := rfl
    have f9 : (List.length (List.map d_y ((m14 a0).f1))) = (List.length (List.map d_y ((m14 a0).f1))) := rfl
    have f10 : 0 + (List.length (List.map d_y ((m14 a0).f1))) ≤ (List.length (List.map d_y ((m14 a0).f1))) := (by omega)
    have f11 : fullR (List.take (List.length (List.map d_y ((m14 a0).f1))) (List.drop 0 (List.map d_y ((m14 a0).f1)))) = true := (ft_y _ _ _)
    have f12 : toBR (List.take (List.length (List.map d_y ((m14 a0).f1))) (List.drop 0 (List.map d_y ((m14 a0).f1)))) = (List.map b_y ((m14 a0).f1)) := (tb_y _)
    have f13 : 0 + (List.length (List.map d_y ((m12 a0).f1))) ≤ (List.length (List.map d_y ((m12 a0).f1))) := (by omega)
    have f14 : fullR (List.take (List.length (List.map d_y ((m12 a0).f1))) (List.drop 0 (List.map d_y ((m12 a0).f1)))) = true := (ft_y _ _ _)
    have f15 : toBR (List.take (List.length (List.map d_y ((m12 a0).f1))) (List.drop 0 (List.map d_y ((m12 a0).f1)))) = (List.map b_y ((m12 a0).f1)) := (tb_y _)
    have f16 : Ev F X (.call 15 [(.agg [(.val (.int .i64 ((m14 a0).f0))), (.bor 0 (List.map b_y ((m14 a0).f1)))]), (.agg [(.val (.int .i64 ((m12 a0).f0))), (.bor 0 (List.map b_y ((m12 a0).f1)))])] [] [] [(.one (.val (.bool (m15 (m14 a0) (m12 a0)))))]) := (e15 (a0 := (m14 a0)) (a1 := (m12 a0)) (by first | with_reducible assumption | omega | (have q := okm14 a0; exact q) | (unfold m14; (repeat' split) <;> simp_all <;> omega) | assumption | (simp only [List.length_map]; omega) | (simp [four_len, high4, high2, ol41, ol16_0]; omega)) (by first | with_reducible assumption | omega | (have q := okm12 a0; exact q) | (unfold m12; (repeat' split) <;> simp_all <;> omega) | assumption | (simp only [List.length_map]; omega) | (simp [four_len, high4, high2, ol41, ol16_0]; omega)))
    by_cases h1 : (!(m15 (m14 a0) (m12 a0))) = true
    · try simp only [if_pos h1]
      exact callP_ok (ps := []) (os := []) (rs := [(.one (.val (.bool false)))]) (by kernel_rfl) (.r 11 [] [] f0 (.f (nt h0) (.h 18 (.b false) (.r 22 [] [] f2 (.r 24 [] [] f3 (.f f4 (.f f5 (.r 32 [] [] f6 (.r 34 [] [] f7 (.f f8 (.f f9 (.f f10 (.f f11 (.f f12 (.f f13 (.f f14 (.f f15 (.r 44 [] [(List.map b_y ((m14 a0).f1)), (List.map b_y ((m12 a0).f1))] f16 (.f h1 (.h 47 (.b true) .nil))))))))))))))))))))
    · try simp only [if_neg h1]
      have f18 : pureR (List.map d_y ((m14 a0).f1)) = true := (pureR_y _)
      have f19 : Ev F X (.call 16 [(.agg [(.val (.int .i64 ((m14 a0).f0))), (.ref ⟨(0, 0, 0), [], 0, (List.length (List.map d_y ((m14 a0).f1)))⟩)]), (.one (.val (.int .i64 1)))] [((0, 0, 0), ⟨1, (List.map d_y ((m14 a0).f1)), []⟩)] [(List.map d_y (o16_0 (m14 a0) 1))] [(.one (.val (.int .i64 (m16 (m14 a0) 1))))]) := (e16 (a0 := (m14 a0)) (a1 := 1) (by first | with_reducible assumption | omega | (have q := okm14 a0; exact q) | (unfold m14; (repeat' split) <;> simp_all <;> omega) | assumption | (simp only [List.length_map]; omega) | (simp [four_len, high4, high2, ol41, ol16_0]; omega)))
      have f20 : 0 + (List.length (List.map d_y (o16_0 (m14 a0) 1))) ≤ (List.length (List.map d_y (o16_0 (m14 a0) 1))) := (by omega)
      have f21 : fullR (List.take (List.length (List.map d_y (o16_0 (m14 a0) 1))) (List.drop 0 (List.map d_y (o16_0 (m14 a0) 1)))) = true := (ft_y _ _ _)
      have f22 : toBR (List.take (List.length (List.map d_y (o16_0 (m14 a0) 1))) (List.drop 0 (List.map d_y (o16_0 (m14 a0) 1)))) = (List.map b_y (o16_0 (m14 a0) 1)) := (tb_y _)
      have f23 : Ev F X (.call 17 [(.agg [(.val (.int .i64 ((m14 a0).f0))), (.bor 0 (List.map b_y (o16_0 (m14 a0) 1)))]), (.one (.val (.int .i64 1)))] [] [] [(.one (.val (.int .i64 (m17 (K_iLyE.mk ((m14 a0).f0) (o16_0 (m14 a0) 1)) 1))))]) := (e17 (a0 := (K_iLyE.mk ((m14 a0).f0) (o16_0 (m14 a0) 1))) (a1 := 1) (by first | with_reducible assumption | omega | (have q := okm14 a0; exact q) | (have q := okm14 a0; rw [ol16_0]; exact q) | (unfold m14; (repeat' split) <;> simp_all <;> omega) | assumption | (simp only [List.length_map]; omega) | (simp [four_len, high4, high2, ol41, ol16_0]; omega)))
      by_cases h2 : (decide ((m17 (K_iLyE.mk ((m14 a0).f0) (o16_0 (m14 a0) 1)) 1) < 0)) = true
      · try simp only [if_pos h2]
        exact callP_ok (ps := []) (os := []) (rs := [(.one (.val (.bool false)))]) (by kernel_rfl) (.r 11 [] [] f0 (.f (nt h0) (.h 18 (.b false) (.r 22 [] [] f2 (.r 24 [] [] f3 (.f f4 (.f f5 (.r 32 [] [] f6 (.r 34 [] [] f7 (.f f8 (.f f9 (.f f10 (.f f11 (.f f12 (.f f13 (.f f14 (.f f15 (.r 44 [] [(List.map b_y ((m14 a0).f1)), (List.map b_y ((m12 a0).f1))] f16 (.f (nt h1) (.f f18 (.h 47 (.b false) (.r 55 [true] [] f19 (.f f20 (.f f21 (.f f22 (.r 65 [] [(List.map b_y (o16_0 (m14 a0) 1))] f23 (.f h2 (.h 72 (.b true) .nil))))))))))))))))))))))))))))
      · try simp only [if_neg h2]
        by_cases h3 : ((m17 (K_iLyE.mk ((m14 a0).f0) (o16_0 (m14 a0) 1)) 1) != (m16 (m14 a0) 1)) = true
        · try simp only [if_pos h3]
          exact callP_ok (ps := []) (os := []) (rs := [(.one (.val (.bool false)))]) (by kernel_rfl) (.r 11 [] [] f0 (.f (nt h0) (.h 18 (.b false) (.r 22 [] [] f2 (.r 24 [] [] f3 (.f f4 (.f f5 (.r 32 [] [] f6 (.r 34 [] [] f7 (.f f8 (.f f9 (.f f10 (.f f11 (.f f12 (.f f13 (.f f14 (.f f15 (.r 44 [] [(List.map b_y ((m14 a0).f1)), (List.map b_y ((m12 a0).f1))] f16 (.f (nt h1) (.f f18 (.h 47 (.b false) (.r 55 [true] [] f19 (.f f20 (.f f21 (.f f22 (.r 65 [] [(List.map b_y (o16_0 (m14 a0) 1))] f23 (.f (nt h2) (.f h3 (.h 72 (.b false) (.h 79 (.b true) .nil))))))))))))))))))))))))))))))
        · try simp only [if_neg h3]
          have f26 : Ev F X (.call 13 [(.agg [(.val (.int .i64 a0.f0)), (.val (.string a0.f1)), (.val (.int .i64 a0.f2)), (.val (.int .i64 a0.f3))])] [] [] [(.agg [(.val (.int .i64 a0.f0)), (.val (.string a0.f1)), (.val (.int .i64 a0.f2)), (.val (.int .i64 a0.f3))])]) := (e13 (a0 := a0))
          have f27 : Ev F X (.call 14 [(.agg [(.val (.int .i64 a0.f0)), (.val (.string a0.f1)), (.val (.int .i64 a0.f2)), (.val (.int .i64 a0.f3))])] [] [] [(.agg [(.val (.int .i64 ((m14 a0).f0))), (.own 1 (List.map d_y ((m14 a0).f1)))])]) := (e14 (a0 := a0))
          have f28 : 0 = 0 := rfl
          have f29 : (List.length (List.map d_y ((m14 a0).f1))) = (List.length (List.map d_y ((m14 a0).f1))) := rfl
          have f30 : 0 + (List.length (List.map d_y ((m14 a0).f1))) ≤ (List.length (List.map d_y ((m14 a0).f1))) := (by omega)
          have f31 : fullR (List.take (List.length (List.map d_y ((m14 a0).f1))) (List.drop 0 (List.map d_y ((m14 a0).f1)))) = true := (ft_y _ _ _)
          have f32 : toBR (List.take (List.length (List.map d_y ((m14 a0).f1))) (List.drop 0 (List.map d_y ((m14 a0).f1)))) = (List.map b_y ((m14 a0).f1)) := (tb_y _)
          have f33 : 0 + (List.length (List.map d_y ((m12 a0).f1))) ≤ (List.length (List.map d_y ((m12 a0).f1))) := (by omega)
          have f34 : fullR (List.take (List.length (List.map d_y ((m12 a0).f1))) (List.drop 0 (List.map d_y ((m12 a0).f1)))) = true := (ft_y _ _ _)
          have f35 : toBR (List.take (List.length (List.map d_y ((m12 a0).f1))) (List.drop 0 (List.map d_y ((m12 a0).f1)))) = (List.map b_y ((m12 a0).f1)) := (tb_y _)
          have f36 : Ev F X (.call 15 [(.agg [(.val (.int .i64 ((m14 a0).f0))), (.bor 0 (List.map b_y ((m14 a0).f1)))]), (.agg [(.val (.int .i64 ((m12 a0).f0))), (.bor 0 (List.map b_y ((m12 a0).f1)))])] [] [] [(.one (.val (.bool (m15 (m14 a0) (m12 a0)))))]) := (e15 (a0 := (m14 a0)) (a1 := (m12 a0)) (by first | with_reducible assumption | omega | (have q := okm14 a0; exact q) | (unfold m14; (repeat' split) <;> simp_all <;> omega) | assumption | (simp only [List.length_map]; omega) | (simp [four_len, high4, high2, ol41, ol16_0]; omega)) (by first | with_reducible assumption | omega | (have q := okm12 a0; exact q) | (unfold m12; (repeat' split) <;> simp_all <;> omega) | assumption | (simp only [List.length_map]; omega) | (simp [four_len, high4, high2, ol41, ol16_0]; omega)))
          have f38 : 0 + (List.length (List.map d_y (o16_0 (m14 a0) 1))) ≤ (List.length (List.map d_y (o16_0 (m14 a0) 1))) := (by omega)
          have f39 : fullR (List.take (List.length (List.map d_y (o16_0 (m14 a0) 1))) (List.drop 0 (List.map d_y (o16_0 (m14 a0) 1)))) = true := (ft_y _ _ _)
          have f40 : toBR (List.take (List.length (List.map d_y (o16_0 (m14 a0) 1))) (List.drop 0 (List.map d_y (o16_0 (m14 a0) 1)))) = (List.map b_y (o16_0 (m14 a0) 1)) := (tb_y _)
          have f41 : Ev F X (.call 17 [(.agg [(.val (.int .i64 ((m14 a0).f0))), (.bor 0 (List.map b_y (o16_0 (m14 a0) 1)))]), (.one (.val (.int .i64 1)))] [] [] [(.one (.val (.int .i64 (m17 (K_iLyE.mk ((m14 a0).f0) (o16_0 (m14 a0) 1)) 1))))]) := (e17 (a0 := (K_iLyE.mk ((m14 a0).f0) (o16_0 (m14 a0) 1))) (a1 := 1) (by first | with_reducible assumption | omega | (have q := okm14 a0; exact q) | (have q := okm14 a0; rw [ol16_0]; exact q) | (unfold m14; (repeat' split) <;> simp_all <;> omega) | assumption | (simp only [List.length_map]; omega) | (simp [four_len, high4, high2, ol41, ol16_0]; omega)))
          exact callP_ok (ps := []) (os := []) (rs := [(.one (.val (.bool true)))]) (by kernel_rfl) (.r 11 [] [] f0 (.f (nt h0) (.h 18 (.b false) (.r 22 [] [] f2 (.r 24 [] [] f3 (.f f4 (.f f5 (.r 32 [] [] f6 (.r 34 [] [] f7 (.f f8 (.f f9 (.f f10 (.f f11 (.f f12 (.f f13 (.f f14 (.f f15 (.r 44 [] [(List.map b_y ((m14 a0).f1)), (List.map b_y ((m12 a0).f1))] f16 (.f (nt h1) (.f f18 (.h 47 (.b false) (.r 55 [true] [] f19 (.f f20 (.f f21 (.f f22 (.r 65 [] [(List.map b_y (o16_0 (m14 a0) 1))] f23 (.f (nt h2) (.f (nt h3) (.h 72 (.b false) (.h 79 (.b false) (.r 83 [] [] f26 (.r 85 [] [] f27 (.f f28 (.f f29 (.f f30 (.f f31 (.f f32 (.f f33 (.f f34 (.f f35 (.r 95 [] [(List.map b_y ((m14 a0).f1)), (List.map b_y ((m12 a0).f1))] f36 (.f (nt h1) (.f f38 (.f f39 (.f f40 (.h 98 (.b false) (.r 106 [] [(List.map b_y (o16_0 (m14 a0) 1))] f41 (.f (nt h2) (.f (nt h3) (.h 113 (.b false) (.h 120 (.b false) .nil)))))))))))))))))))))))))))))))))))))))))))))))))))
/-! weights -/
def wt_isii (x : K_isii) : Nat := 4
theorem wts_isii : ∀ (l : List K_isii), (List.map wt_isii l).sum = l.length * 4
  | [] => rfl
  | x :: l => by simp only [List.map_cons, List.sum_cons, wts_isii l, List.length_cons, wt_isii]; omega
def wt_b (x : Bool) : Nat := 1
theorem wts_b : ∀ (l : List Bool), (List.map wt_b l).sum = l.length * 1
  | [] => rfl
  | x :: l => by simp only [List.map_cons, List.sum_cons, wts_b l, List.length_cons, wt_b]; omega
def wt_i (x : Int) : Nat := 1
theorem wts_i : ∀ (l : List Int), (List.map wt_i l).sum = l.length * 1
  | [] => rfl
  | x :: l => by simp only [List.map_cons, List.sum_cons, wts_i l, List.length_cons, wt_i]; omega
def wt_y (x : Int) : Nat := 1
theorem wts_y : ∀ (l : List Int), (List.map wt_y l).sum = l.length * 1
  | [] => rfl
  | x :: l => by simp only [List.map_cons, List.sum_cons, wts_y l, List.length_cons, wt_y]; omega
def wt_iLyE (x : K_iLyE) : Nat := 1 + (List.map wt_y x.f1).sum
def wt_LyE (x : (List Int)) : Nat := 0 + (List.map wt_y x).sum
def wt_LLyEE (x : (List (List Int))) : Nat := 0 + (List.map wt_LyE x).sum
def wt_s (x : ByteArray) : Nat := 1
theorem wts_s : ∀ (l : List ByteArray), (List.map wt_s l).sum = l.length * 1
  | [] => rfl
  | x :: l => by simp only [List.map_cons, List.sum_cons, wts_s l, List.length_cons, wt_s]; omega
/-! marks of loop.example/g00539/laws.markByteS -/
theorem mr41_0 (a0 : List Int) : ∀ (l p : List Int) (v1_41_0 : Int), 0 ≤ v1_41_0 → v1_41_0 + ((List.map wt_y l).sum : Nat) ≤ 4611686018427387904 → ∃ (q : List Int) (k' : Int) (w2 : _) (w3 : _), r41_0 a0 l (p.length : Int) (p ++ l) v1_41_0 = .k0 (p ++ q) k' w2 w3 ∧ q.length = l.length ∧ v1_41_0 ≤ k' ∧ k' ≤ v1_41_0 + ((List.map wt_y l).sum : Nat) ∧ ∀ (c : List Int) (j : Int), ∃ u1 u2, r66_0 c q j v1_41_0 = .k0 k' u1 u2
  | [], p, v1_41_0, h0, h1 => ⟨[], v1_41_0, (p.length : Int), (decide ((p.length : Int) < ((List.length (List.map d_y a0)) : Int))), rfl, rfl, by omega, by simp, fun c j => ⟨j, (decide (j < ((List.length (List.map b_y c)) : Int))), rfl⟩⟩
  | x0_41_0 :: l, p, v1_41_0, h0, h1 => by
    simp only [List.map_cons, List.sum_cons, wt_y] at h1 ⊢
    obtain ⟨q, k', w2, w3, e1, e2, e3, e4, e5⟩ := mr41_0 a0 l (p ++ [(IntKind.wrap .u8 (v1_41_0))]) (v1_41_0 + 1) (by omega) (by omega)
    refine ⟨(IntKind.wrap .u8 (v1_41_0)) :: q, k', w2, w3, ?_, by simp [e2], by omega, by omega, ?_⟩
    · have e : List.set (p ++ x0_41_0 :: l) (Int.toNat (p.length : Int)) (IntKind.wrap .u8 (v1_41_0)) = (p ++ [(IntKind.wrap .u8 (v1_41_0))]) ++ l := by simp
      have e0 : ((p ++ [(IntKind.wrap .u8 (v1_41_0))]).length : Int) = (p.length : Int) + 1 := by simp
      rw [e0] at e1
      simp (disch := omega) only [r41_0, wrap64d]
      first | (rw [e, e1]; simp; done) | (simp only [e, e1]; simp; done)
    · intro c j
      obtain ⟨u1, u2, g⟩ := e5 c (j + 1)
      refine ⟨u1, u2, ?_⟩
      simp (disch := omega) only [r66_0, wrap64d]
      first | (simpa using g) | (simp_all; done)
theorem mh41 (a : List Int) (k : Int) (h0 : 0 ≤ k) (h1 : k + ((List.map wt_y a).sum : Nat) ≤ 4611686018427387904) : m66 (o41_0 a k) k = m41 a k ∧ k ≤ m41 a k ∧ m41 a k ≤ k + ((List.map wt_y a).sum : Nat) := by
  obtain ⟨q, k', w2, w3, e1, e2, e3, e4, e5⟩ := mr41_0 a a [] k h0 h1
  obtain ⟨u1, u2, g⟩ := e5 q 0
  simp only [List.nil_append, List.length_nil] at e1
  rw [show ((0 : Nat) : Int) = 0 from rfl] at e1
  unfold m41 o41_0 m66
  rw [e1]; simp only []; rw [g]; exact ⟨rfl, e3, e4⟩
/-! marks of loop.example/g00539/laws.markBytesResult -/
theorem mh16 (a : K_iLyE) (k : Int) (h0 : 0 ≤ k) (h1 : k + (wt_iLyE a : Nat) ≤ 4611686018427387904) : m17 (K_iLyE.mk a.f0 (o16_0 a k)) k = m16 a k ∧ k ≤ m16 a k ∧ m16 a k ≤ k + (wt_iLyE a : Nat) := by
  simp only [wt_iLyE] at h1 ⊢
  have s0 := mh41 a.f1 k (by omega) (by first | omega | (simp only [wt_isii, wt_b, wt_i, wt_y, wt_iLyE, wt_LyE, wt_LLyEE, wt_s] at *; omega) | (simp only [List.length_map, List.length_nil, List.map_nil, List.sum_nil] at *; omega))
  have t0 := s0.1
  try simp only [List.length_map, wt_isii, wt_b, wt_i, wt_y, wt_iLyE, wt_LyE, wt_LLyEE, wt_s] at *
  unfold m17 m16 o16_0
  simp (disch := omega) only [wrap64d, t0]
  refine ⟨?_, by omega, by omega⟩
  (repeat' rw [if_neg (by first | (simp; done) | (simp only [decide_eq_true_eq]; omega))]) <;> rfl
theorem X_ok (f : FuncId) (args : List SV) (rs : List Ret) (h : X f args rs) : CallOK Tryd.prog f args [] [] rs := by
  rcases h with ⟨rfl, h⟩
  · obtain ⟨s, c, h1, h2, h3, rfl, rfl⟩ := h
    exact trim_ok s c h1 h2 h3
end Go.Proofs.YtdnopbpdiineiaaDoor.PackEntry
