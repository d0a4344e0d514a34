/- What the functions compute. -/
import Derived.Test.YtdnopbpdiineiaaDoorEReadEntriesC
import Derived.KernelRfl
namespace Go.Proofs.YtdnopbpdiineiaaDoor.ReadEntries
open Go Go.Proofs.YtdnopbpdiineiaaDoor.V
set_option linter.unusedVariables false
set_option linter.unusedSimpArgs false
set_option maxRecDepth 20000
open List (length_replicate length_map length_set length_append length_cons length_nil length_take length_drop take_of_length_le map_take map_drop map_set append_assoc getElem?_map map length take drop getD set)
attribute [local simp] strInts_len byteRows_len toBR_y fullR_y pureR_y lenB_y lenD_y fromBR_y copy_y toBR_LyE fullR_LyE pureR_LyE lenB_LyE lenD_LyE toBR_b fullR_b pureR_b lenB_b lenD_b fromBR_b copy_b toBR_isii fullR_isii pureR_isii lenB_isii lenD_isii fromBR_isii copy_isii toBR_iiLisiiE fullR_iiLisiiE pureR_iiLisiiE lenB_iiLisiiE lenD_iiLisiiE toBR_i fullR_i pureR_i lenB_i lenD_i fromBR_i copy_i toBR_LLyEE fullR_LLyEE pureR_LLyEE lenB_LLyEE lenD_LLyEE toBR_s fullR_s pureR_s lenB_s lenD_s fromBR_s copy_s toBR_LisiiE fullR_LisiiE pureR_LisiiE lenB_LisiiE lenD_LisiiE
def post120_0 (a0 : Int) (a1 : Int) : O120_0 → Prop
 | .k0 w0 _ _ _ => length w0 = Int.toNat a1
theorem z120_0 {a0 : Int} {a1 : Int} (hy0 : 0 ≤ a1) (hy1 : a1 ≤ 1000) : ∀ (n : Nat) (v0 : List Int) (v1 : Int) (v2 : Int), length v0 = (Int.toNat a1) → -1 ≤ v2 → v2 < a1 → post120_0 a0 a1 (r120_0 n v0 v1 v2)
 | 0, v0, v1, v2, hi0, hi1, hi2 => by
  simp only [r120_0]
  first | trivial | (show _ ; simp only [post120_0]; omega) | (simp only [post120_0] at *; omega) | (rw [wrap64 (by simp only [decide_eq_true_eq] at *; omega)]; simp only [decide_eq_true_eq] at *; omega) | (simp only [decide_eq_true_eq] at *; omega)
 | n + 1, v0, v1, v2, hi0, hi1, hi2 => by
  simp only [r120_0]
  by_cases h_0 : (decide (v2 ≥ 0)) = true
  ·try simp only [if_pos h_0]
   exact z120_0 (a0 := a0) (a1 := a1) hy0 hy1 n (set v0 (Int.toNat v2) (IntKind.wrap .u8 (v1))) (Int.fdiv v1 (2 ^ (min (Int.toNat 8) (IntKind.bits .i64)))) (w64 (v2 - 1)) (by simp only [length_map, length_set, length_append, length_replicate, length_cons, length_nil]; omega) (by rw [wrap64 (by simp only [decide_eq_true_eq] at *; omega)]; simp only [decide_eq_true_eq] at *; omega) (by rw [wrap64 (by simp only [decide_eq_true_eq] at *; omega)]; simp only [decide_eq_true_eq] at *; omega)
  ·try simp only [if_neg h_0]
   first | trivial | (show _ ; simp only [post120_0]; omega) | (simp only [post120_0] at *; omega) | (rw [wrap64 (by simp only [decide_eq_true_eq] at *; omega)]; simp only [decide_eq_true_eq] at *; omega) | (simp only [decide_eq_true_eq] at *; omega)
def m120 (a0 : Int) (a1 : Int) : (List Int) :=
 (match r120_0 (Int.toNat ((w64 (a1 - 1)) + 1)) (List.replicate (Int.toNat a1) 0) a0 (w64 (a1 - 1)) with | .k0 w0_1 w1_1 w2_1 w3_1 => w0_1)
theorem e120 {a0 : Int} {a1 : Int} (hy0 : 0 ≤ a1) (hy1 : a1 ≤ 1000) : Ev F X (.call 120 [(.one (.val (.int .i64 a0))), (.one (.val (.int .i64 a1)))] [] [] [(.one (.own 1 (map d_y (m120 a0 a1))))]) := by
 unfold m120
 have f0 : 0 ≤ a1 ∧ a1 ≤ a1 ∧ a1 ≤ 140737488355328 ∧ a1 * 1 ≤ 140737488355328 := (by omega)
 have f1 : (List.replicate (Int.toNat a1) [(.val (.int .u8 0))]) = (map d_y (List.replicate (Int.toNat a1) 0)) := (by simp [byteRows_eq, ints_y, take_of_length_le, d_y, d_LyE, d_b, d_isii, d_iiLisiiE, d_i, d_LLyEE, d_s, d_LisiiE, fromBR_y, fromBR_b, fromBR_isii, fromBR_i, fromBR_s, four_len]; done)
 cases h0 : r120_0 (Int.toNat ((w64 (a1 - 1)) + 1)) (List.replicate (Int.toNat a1) 0) a0 (w64 (a1 - 1)) with
 | k0 w0_1 w1_1 w2_1 w3_1 =>
  try dsimp only
  have zh0 := z120_0 (a0 := a0) (a1 := a1) (by assumption) (by assumption) (Int.toNat ((w64 (a1 - 1)) + 1)) (List.replicate (Int.toNat a1) 0) a0 (w64 (a1 - 1)) (by simp only [length_map, length_set, length_append, length_replicate, length_cons, length_nil]; done) (by rw [wrap64 (by omega)]; omega) (by rw [wrap64 (by omega)]; omega); rw [h0] at zh0; simp only [post120_0] at zh0
  have f2 : (⟨[(0, (.oi a0)), (5, (.one (.ref ⟨(5, 0, 0), [], 0, (Int.toNat a1)⟩))), (6, (.oi (w64 (a1 - 1))))], [((5, 0, 0), .live ⟨1, (map d_y (List.replicate (Int.toNat a1) 0)), []⟩)]⟩ : St) = h120_0 a0 a1 (List.replicate (Int.toNat a1) 0) a0 (w64 (a1 - 1)) := (by rfl)
  have f3 : Ev F X (.code l120_0 (h120_0 a0 a1 (List.replicate (Int.toNat a1) 0) a0 (w64 (a1 - 1))) (.exit 0) ⟨[(0, (.oi w1_1)), (5, (.one (.ref ⟨(5, 0, 0), [], 0, (Int.toNat a1)⟩))), (6, (.oi w2_1)), (12, (.one (.val (.bool w3_1))))], [((5, 0, 0), .live ⟨1, (map d_y w0_1), []⟩)]⟩) := (by have t : Ev F X (.code l120_0 (h120_0 a0 a1 (List.replicate (Int.toNat a1) 0) a0 (w64 (a1 - 1))) (ex120_0 (r120_0 (Int.toNat ((w64 (a1 - 1)) + 1)) (List.replicate (Int.toNat a1) 0) a0 (w64 (a1 - 1)))) (fin120_0 a0 a1 (r120_0 (Int.toNat ((w64 (a1 - 1)) + 1)) (List.replicate (Int.toNat a1) 0) a0 (w64 (a1 - 1))))) := t120_0 (a0 := a0) (a1 := a1) (by assumption) (by assumption) (Int.toNat ((w64 (a1 - 1)) + 1)) (List.replicate (Int.toNat a1) 0) a0 (w64 (a1 - 1))  (by simp only [length_map, length_set, length_append, length_replicate, length_cons, length_nil]; done) (by rw [wrap64 (by omega)]; omega) (by rw [wrap64 (by omega)]; omega) (Nat.le_refl _); rw [h0] at t; exact t)
  have f5 : (Int.toNat a1) = (length (map d_y w0_1)) := (by simp only [length_map]; omega)
  exact cp (by kernel_rfl) (.f f0 (.f f1 (.f f2 (.f f3 (.e 0 (.f f5 (.f (pureR_y w0_1) (.h 8 (.norm (5, 0, 0) (map d_y (List.replicate (Int.toNat a1) 0))) (.h 15 (.loop (h120_0 a0 a1 (List.replicate (Int.toNat a1) 0) a0 (w64 (a1 - 1))) (.exit 0) ⟨[(0, (.oi w1_1)), (5, (.one (.ref ⟨(5, 0, 0), [], 0, (Int.toNat a1)⟩))), (6, (.oi w2_1)), (12, (.one (.val (.bool w3_1))))], [((5, 0, 0), .live ⟨1, (map d_y w0_1), []⟩)]⟩) .nil)))))))))
theorem high4 (a : Int) : length (m120 a 4) = 4 := by kernel_rfl
theorem high2 (a : Int) : length (m120 a 2) = 2 := by kernel_rfl
inductive O121_0 where
 | k0 (w0 : Int) (w1 : Int) (w2 : Bool)
def r121_0 (a0 : (List Int)) : List Int → Int → Int → O121_0
 | x0 :: y0, i, v0 =>
  (r121_0 a0 y0 (i + 1) (Int.tmod (w64 ((w64 ((w64 (33 * v0)) + (w64 (x0)))) + 1)) 2147483647))
 | [], i, v0 => (O121_0.k0 v0 i (decide (i < ((length (map b_y a0)) : Int))))
def h121_0 (l0_0 : Nat) (a0 : (List Int)) (i : Int) (v0 : Int) : St := ⟨[(3, (.one (.val (.int .i64 v0)))), (6, (.one (.bor l0_0 (map b_y a0)))), (7, (.one (.val (.int .i64 ((length (map b_y a0)) : Int))))), (8, (.one (.val (.int .i64 i))))], []⟩
def ex121_0 : O121_0 → VX.Exit
 | .k0 _ _ _ => (.exit 0)
def fin121_0 (l0_0 : Nat) (a0 : (List Int)) : O121_0 → St
 | .k0 w0 w1 w2 => ⟨[(3, (.one (.val (.int .i64 w0)))), (6, (.one (.bor l0_0 (map b_y a0)))), (7, (.one (.val (.int .i64 ((length (map b_y a0)) : Int))))), (8, (.one (.val (.int .i64 w1)))), (9, (.one (.val (.bool w2))))], []⟩
theorem t121_0 {l0_0 : Nat} {a0 : (List Int)} (hy0 : length a0 * 1 ≤ 140737488351232) : ∀ (y0 : List Int) (p : List Int) (v0 : Int), p ++ y0 = a0 → Ev F X (.code l121_0 (h121_0 l0_0 a0 (length p : Int) v0) (ex121_0 (r121_0 a0 y0 (length p : Int) v0)) (fin121_0 l0_0 a0 (r121_0 a0 y0 (length p : Int) v0)))
 | [], p, v0, hp0 => by
  have hc : ¬ (decide ((length p : Int) < ((length (map b_y a0)) : Int))) = true := by
   rw [← hp0]; simp only [length_map, length_set, length_append, length_replicate, length_cons, length_nil, decide_eq_true_eq]; omega
  have st := ch b121_0 [(2, .b false)] (h121_0 l0_0 a0 (length p : Int) v0) (fin121_0 l0_0 a0 (.k0 v0 (length p : Int) (decide ((length p : Int) < ((length (map b_y a0)) : Int))))) (.exit 0) 3 [(decide ((length p : Int) < ((length (map b_y a0)) : Int))) = false] (by kernel_rfl) ⟨(nt hc), trivial⟩
  exact .loopX st (show ((.exit 0) : VX.Exit) ≠ .normal from by simp)
 | x0 :: y0, p, v0, hp0 => by
  have hc : (decide ((length p : Int) < ((length (map b_y a0)) : Int))) = true := lt1 hp0
  have Hx0 : (a0)[Int.toNat (length p : Int)]? = some x0 := by
   rw [← hp0, Int.toNat_natCast]; simp
  have hlen : length (a0) = length p + length y0 + 1 := by rw [← hp0]; simp; omega
  have hw : w64 ((length p : Int) + 1) = (length p : Int) + 1 := wrap64 (by omega)
  simp only [r121_0]
  have st := ch b121_0 [(2, .b true), (4, .row [(.val (.int .u8 x0))])] (h121_0 l0_0 a0 (length p : Int) v0) ⟨[(3, (.oi (Int.tmod (w64 ((w64 ((w64 (33 * v0)) + (w64 (x0)))) + 1)) 2147483647))), (6, (.one (.bor l0_0 (map b_y a0)))), (7, (.oi ((length (map b_y a0)) : Int))), (8, (.oi (w64 ((length p : Int) + 1))))], []⟩ .normal 29 [(decide ((length p : Int) < ((length (map b_y a0)) : Int))) = true, 0 ≤ (length p : Int), (map b_y a0)[(Int.toNat (length p : Int))]? = some [(.val (.int .u8 x0))], True, True, (2147483647 : Int) ≠ 0, True] (by kernel_rfl) ⟨hc, (by omega), (by rw [getElem?_map, Hx0]; rfl), trivial, trivial, (by omega), trivial, trivial⟩
  have ih := t121_0 (l0_0 := l0_0) (a0 := a0) hy0 y0 (p ++ [x0]) (Int.tmod (w64 ((w64 ((w64 (33 * v0)) + (w64 (x0)))) + 1)) 2147483647) (by rw [append_assoc]; exact hp0)
  rw [show ((p ++ [x0]).length : Int) = (p.length : Int) + 1 from by simp] at ih
  replace st := to_ (s' := h121_0 l0_0 a0 ((length p : Int) + 1) (Int.tmod (w64 ((w64 ((w64 (33 * v0)) + (w64 (x0)))) + 1)) 2147483647)) st (by unfold h121_0; simp only [hw]; done)
  exact .loopN st ih
def m121 (a0 : (List Int)) : Int :=
 (match r121_0 a0 a0 0 5381 with | .k0 w0_0 w1_0 w2_0 => w0_0)
theorem e121 {l0_0 : Nat} {a0 : (List Int)} (hy0 : length a0 * 1 ≤ 140737488351232) : Ev F X (.call 121 [(.one (.bor l0_0 (map b_y a0)))] [] [] [(.one (.val (.int .i64 (m121 a0))))]) := by
 unfold m121
 cases h0 : r121_0 a0 a0 0 5381 with
 | k0 w0_0 w1_0 w2_0 =>
  try dsimp only
  have f0 : (⟨[(3, (.oi 5381)), (6, (.one (.bor l0_0 (map b_y a0)))), (7, (.oi ((length (map b_y a0)) : Int))), (8, (.oi 0))], []⟩ : St) = h121_0 l0_0 a0 0 5381 := (by rfl)
  have f1 : Ev F X (.code l121_0 (h121_0 l0_0 a0 0 5381) (.exit 0) ⟨[(3, (.oi w0_0)), (6, (.one (.bor l0_0 (map b_y a0)))), (7, (.oi ((length (map b_y a0)) : Int))), (8, (.oi w1_0)), (9, (.one (.val (.bool w2_0))))], []⟩) := (by have t : Ev F X (.code l121_0 (h121_0 l0_0 a0 0 5381) (ex121_0 (r121_0 a0 a0 0 5381)) (fin121_0 l0_0 a0 (r121_0 a0 a0 0 5381))) := t121_0 (l0_0 := l0_0) (a0 := a0) (by assumption) a0 [] 5381 rfl; rw [h0] at t; exact t)
  exact cp (by kernel_rfl) (.f f0 (.f f1 (.h 10 (.loop (h121_0 l0_0 a0 0 5381) (.exit 0) ⟨[(3, (.oi w0_0)), (6, (.one (.bor l0_0 (map b_y a0)))), (7, (.oi ((length (map b_y a0)) : Int))), (8, (.oi w1_0)), (9, (.one (.val (.bool w2_0))))], []⟩) .nil)))
def m65 (a0 : K_isii) : (List Int) :=
 (m71 [[(IntKind.wrap .u8 (((length (map d_y (m71 [[(IntKind.wrap .u8 (a0.f0)), (IntKind.wrap .u8 ((ByteArray.size a0.f1 : Int)))], (strInts a0.f1), (m120 a0.f2 4), (m120 a0.f3 4)]))) : Int)))], (m71 [[(IntKind.wrap .u8 (a0.f0)), (IntKind.wrap .u8 ((ByteArray.size a0.f1 : Int)))], (strInts a0.f1), (m120 a0.f2 4), (m120 a0.f3 4)]), (m120 (Int.tmod (m121 (m71 [[(IntKind.wrap .u8 (a0.f0)), (IntKind.wrap .u8 ((ByteArray.size a0.f1 : Int)))], (strInts a0.f1), (m120 a0.f2 4), (m120 a0.f3 4)])) 65536) 2)])
theorem e65 {a0 : K_isii} (hy0 : ByteArray.size a0.f1 ≤ 1000) : Ev F X (.call 65 [(.agg [(.val (.int .i64 a0.f0)), (.val (.string a0.f1)), (.val (.int .i64 a0.f2)), (.val (.int .i64 a0.f3))])] [] [] [(.one (.own 1 (map d_y (m65 a0))))]) := by
 have f0 : ByteArray.size a0.f1 ≤ 140737488355328 := (by omega)
 have f1 := e120 (a0 := a0.f2) (a1 := 4) (by omega) (by omega)
 have f2 := e120 (a0 := a0.f3) (a1 := 4) (by omega) (by omega)
 have f6 : (ByteArray.size a0.f1) = (length (byteRows a0.f1)) := (by simp [four_len, high4, high2]; done)
 have f11 : 4 ≤ 4 := (by omega)
 have f12 : fullR (take 4 (drop 0 [[(.own 1 [[(.val (.int .u8 (IntKind.wrap .u8 (a0.f0))))], [(.val (.int .u8 (IntKind.wrap .u8 ((ByteArray.size a0.f1 : Int)))))]])], [(.own 1 (byteRows a0.f1))], [(.own 1 (map d_y (m120 a0.f2 4)))], [(.own 1 (map d_y (m120 a0.f3 4)))]])) = true := (by simp [fullR, fullL, full, pureR, pureL, V.pure, byteRows_eq, four_len, high4, high2]; done)
 have f13 : toBR (take 4 (drop 0 [[(.own 1 [[(.val (.int .u8 (IntKind.wrap .u8 (a0.f0))))], [(.val (.int .u8 (IntKind.wrap .u8 ((ByteArray.size a0.f1 : Int)))))]])], [(.own 1 (byteRows a0.f1))], [(.own 1 (map d_y (m120 a0.f2 4)))], [(.own 1 (map d_y (m120 a0.f3 4)))]])) = [[(.sl [[(.val (.int .u8 (IntKind.wrap .u8 (a0.f0))))], [(.val (.int .u8 (IntKind.wrap .u8 ((ByteArray.size a0.f1 : Int)))))]])], [(.sl (toBR (byteRows a0.f1)))], [(.sl (toBR (map d_y (m120 a0.f2 4))))], [(.sl (toBR (map d_y (m120 a0.f3 4))))]] := (by simp [toBR, toBL, toB, tsi, byteRows_eq, b_y, b_LyE, b_b, b_isii, b_iiLisiiE, b_i, b_LLyEE, b_s, b_LisiiE, four_len, high4, high2]; done)
 have f14 : Ev F X (.call 71 [(.one (.bor 0 [[(.sl [[(.val (.int .u8 (IntKind.wrap .u8 (a0.f0))))], [(.val (.int .u8 (IntKind.wrap .u8 ((ByteArray.size a0.f1 : Int)))))]])], [(.sl (toBR (byteRows a0.f1)))], [(.sl (toBR (map d_y (m120 a0.f2 4))))], [(.sl (toBR (map d_y (m120 a0.f3 4))))]]))] [] [] [(.one (.own 1 (map d_y (m71 [[(IntKind.wrap .u8 (a0.f0)), (IntKind.wrap .u8 ((ByteArray.size a0.f1 : Int)))], (strInts a0.f1), (m120 a0.f2 4), (m120 a0.f3 4)]))))]) := (by rw [show (toBR (byteRows a0.f1)) = (map b_y (strInts a0.f1)) from by first | rfl | (simp [map_take, map_drop, four_len, high4, high2]; done) | (simp [byteRows_eq, map_take, map_drop, four_len, high4, high2]; done) | (simp [*, map_take, map_drop, four_len, high4, high2]; done) | (rw [take_of_length_le (by simp only [length_drop, length_take, length_map, Int.toNat_natCast]; omega)]; simp only [← map_drop, ← map_take]), show (toBR (map d_y (m120 a0.f2 4))) = (map b_y (m120 a0.f2 4)) from by first | rfl | (simp [map_take, map_drop, four_len, high4, high2]; done) | (simp [byteRows_eq, map_take, map_drop, four_len, high4, high2]; done) | (simp [*, map_take, map_drop, four_len, high4, high2]; done) | (rw [take_of_length_le (by simp only [length_drop, length_take, length_map, Int.toNat_natCast]; omega)]; simp only [← map_drop, ← map_take]), show (toBR (map d_y (m120 a0.f3 4))) = (map b_y (m120 a0.f3 4)) from by first | rfl | (simp [map_take, map_drop, four_len, high4, high2]; done) | (simp [byteRows_eq, map_take, map_drop, four_len, high4, high2]; done) | (simp [*, map_take, map_drop, four_len, high4, high2]; done) | (rw [take_of_length_le (by simp only [length_drop, length_take, length_map, Int.toNat_natCast]; omega)]; simp only [← map_drop, ← map_take])]; exact (e71 (a0 := [[(IntKind.wrap .u8 (a0.f0)), (IntKind.wrap .u8 ((ByteArray.size a0.f1 : Int)))], (strInts a0.f1), (m120 a0.f2 4), (m120 a0.f3 4)]) (by simp only [List.flatten_cons, List.flatten_nil, List.append_nil, length_append, length_cons, length_nil, strInts_len, high4, high2]; omega) (by simp only [List.flatten_cons, List.flatten_nil, List.append_nil, length_append, length_cons, length_nil, strInts_len, high4, high2]; omega)))
 have f15 : 0 + (length (map d_y (m71 [[(IntKind.wrap .u8 (a0.f0)), (IntKind.wrap .u8 ((ByteArray.size a0.f1 : Int)))], (strInts a0.f1), (m120 a0.f2 4), (m120 a0.f3 4)]))) ≤ (length (map d_y (m71 [[(IntKind.wrap .u8 (a0.f0)), (IntKind.wrap .u8 ((ByteArray.size a0.f1 : Int)))], (strInts a0.f1), (m120 a0.f2 4), (m120 a0.f3 4)]))) := (by omega)
 have f16 : fullR (take (length (map d_y (m71 [[(IntKind.wrap .u8 (a0.f0)), (IntKind.wrap .u8 ((ByteArray.size a0.f1 : Int)))], (strInts a0.f1), (m120 a0.f2 4), (m120 a0.f3 4)]))) (drop 0 (map d_y (m71 [[(IntKind.wrap .u8 (a0.f0)), (IntKind.wrap .u8 ((ByteArray.size a0.f1 : Int)))], (strInts a0.f1), (m120 a0.f2 4), (m120 a0.f3 4)])))) = true := (ft_y _ _ _)
 have f17 : toBR (take (length (map d_y (m71 [[(IntKind.wrap .u8 (a0.f0)), (IntKind.wrap .u8 ((ByteArray.size a0.f1 : Int)))], (strInts a0.f1), (m120 a0.f2 4), (m120 a0.f3 4)]))) (drop 0 (map d_y (m71 [[(IntKind.wrap .u8 (a0.f0)), (IntKind.wrap .u8 ((ByteArray.size a0.f1 : Int)))], (strInts a0.f1), (m120 a0.f2 4), (m120 a0.f3 4)])))) = (map b_y (m71 [[(IntKind.wrap .u8 (a0.f0)), (IntKind.wrap .u8 ((ByteArray.size a0.f1 : Int)))], (strInts a0.f1), (m120 a0.f2 4), (m120 a0.f3 4)])) := (tb_y _)
 have f18 := e121 (l0_0 := 0) (a0 := (m71 [[(IntKind.wrap .u8 (a0.f0)), (IntKind.wrap .u8 ((ByteArray.size a0.f1 : Int)))], (strInts a0.f1), (m120 a0.f2 4), (m120 a0.f3 4)])) (by rw [concat_is _ (by simp only [List.flatten_cons, List.flatten_nil, List.append_nil, length_append, length_cons, length_nil, strInts_len, high4, high2]; omega)]; simp only [List.flatten_cons, List.flatten_nil, List.append_nil, length_append, length_cons, length_nil, strInts_len, high4, high2]; omega)
 have f19 : (65536 : Int) ≠ 0 := (by omega)
 have f20 := e120 (a0 := (Int.tmod (m121 (m71 [[(IntKind.wrap .u8 (a0.f0)), (IntKind.wrap .u8 ((ByteArray.size a0.f1 : Int)))], (strInts a0.f1), (m120 a0.f2 4), (m120 a0.f3 4)])) 65536)) (a1 := 2) (by omega) (by omega)
 have f27 : 3 ≤ 3 := (by omega)
 have f28 : fullR (take 3 (drop 0 [[(.own 1 [[(.val (.int .u8 (IntKind.wrap .u8 (((length (map d_y (m71 [[(IntKind.wrap .u8 (a0.f0)), (IntKind.wrap .u8 ((ByteArray.size a0.f1 : Int)))], (strInts a0.f1), (m120 a0.f2 4), (m120 a0.f3 4)]))) : Int)))))]])], [(.own 1 (map d_y (m71 [[(IntKind.wrap .u8 (a0.f0)), (IntKind.wrap .u8 ((ByteArray.size a0.f1 : Int)))], (strInts a0.f1), (m120 a0.f2 4), (m120 a0.f3 4)])))], [(.own 1 (map d_y (m120 (Int.tmod (m121 (m71 [[(IntKind.wrap .u8 (a0.f0)), (IntKind.wrap .u8 ((ByteArray.size a0.f1 : Int)))], (strInts a0.f1), (m120 a0.f2 4), (m120 a0.f3 4)])) 65536) 2)))]])) = true := (by simp [fullR, fullL, full, pureR, pureL, V.pure, byteRows_eq, four_len, high4, high2]; done)
 have f29 : toBR (take 3 (drop 0 [[(.own 1 [[(.val (.int .u8 (IntKind.wrap .u8 (((length (map d_y (m71 [[(IntKind.wrap .u8 (a0.f0)), (IntKind.wrap .u8 ((ByteArray.size a0.f1 : Int)))], (strInts a0.f1), (m120 a0.f2 4), (m120 a0.f3 4)]))) : Int)))))]])], [(.own 1 (map d_y (m71 [[(IntKind.wrap .u8 (a0.f0)), (IntKind.wrap .u8 ((ByteArray.size a0.f1 : Int)))], (strInts a0.f1), (m120 a0.f2 4), (m120 a0.f3 4)])))], [(.own 1 (map d_y (m120 (Int.tmod (m121 (m71 [[(IntKind.wrap .u8 (a0.f0)), (IntKind.wrap .u8 ((ByteArray.size a0.f1 : Int)))], (strInts a0.f1), (m120 a0.f2 4), (m120 a0.f3 4)])) 65536) 2)))]])) = [[(.sl [[(.val (.int .u8 (IntKind.wrap .u8 (((length (map d_y (m71 [[(IntKind.wrap .u8 (a0.f0)), (IntKind.wrap .u8 ((ByteArray.size a0.f1 : Int)))], (strInts a0.f1), (m120 a0.f2 4), (m120 a0.f3 4)]))) : Int)))))]])], [(.sl (toBR (map d_y (m71 [[(IntKind.wrap .u8 (a0.f0)), (IntKind.wrap .u8 ((ByteArray.size a0.f1 : Int)))], (strInts a0.f1), (m120 a0.f2 4), (m120 a0.f3 4)]))))], [(.sl (toBR (map d_y (m120 (Int.tmod (m121 (m71 [[(IntKind.wrap .u8 (a0.f0)), (IntKind.wrap .u8 ((ByteArray.size a0.f1 : Int)))], (strInts a0.f1), (m120 a0.f2 4), (m120 a0.f3 4)])) 65536) 2))))]] := (by simp [toBR, toBL, toB, tsi, byteRows_eq, b_y, b_LyE, b_b, b_isii, b_iiLisiiE, b_i, b_LLyEE, b_s, b_LisiiE, four_len, high4, high2]; done)
 have f30 : Ev F X (.call 71 [(.one (.bor 0 [[(.sl [[(.val (.int .u8 (IntKind.wrap .u8 (((length (map d_y (m71 [[(IntKind.wrap .u8 (a0.f0)), (IntKind.wrap .u8 ((ByteArray.size a0.f1 : Int)))], (strInts a0.f1), (m120 a0.f2 4), (m120 a0.f3 4)]))) : Int)))))]])], [(.sl (toBR (map d_y (m71 [[(IntKind.wrap .u8 (a0.f0)), (IntKind.wrap .u8 ((ByteArray.size a0.f1 : Int)))], (strInts a0.f1), (m120 a0.f2 4), (m120 a0.f3 4)]))))], [(.sl (toBR (map d_y (m120 (Int.tmod (m121 (m71 [[(IntKind.wrap .u8 (a0.f0)), (IntKind.wrap .u8 ((ByteArray.size a0.f1 : Int)))], (strInts a0.f1), (m120 a0.f2 4), (m120 a0.f3 4)])) 65536) 2))))]]))] [] [] [(.one (.own 1 (map d_y (m71 [[(IntKind.wrap .u8 (((length (map d_y (m71 [[(IntKind.wrap .u8 (a0.f0)), (IntKind.wrap .u8 ((ByteArray.size a0.f1 : Int)))], (strInts a0.f1), (m120 a0.f2 4), (m120 a0.f3 4)]))) : Int)))], (m71 [[(IntKind.wrap .u8 (a0.f0)), (IntKind.wrap .u8 ((ByteArray.size a0.f1 : Int)))], (strInts a0.f1), (m120 a0.f2 4), (m120 a0.f3 4)]), (m120 (Int.tmod (m121 (m71 [[(IntKind.wrap .u8 (a0.f0)), (IntKind.wrap .u8 ((ByteArray.size a0.f1 : Int)))], (strInts a0.f1), (m120 a0.f2 4), (m120 a0.f3 4)])) 65536) 2)]))))]) := (by rw [show (toBR (map d_y (m71 [[(IntKind.wrap .u8 (a0.f0)), (IntKind.wrap .u8 ((ByteArray.size a0.f1 : Int)))], (strInts a0.f1), (m120 a0.f2 4), (m120 a0.f3 4)]))) = (map b_y (m71 [[(IntKind.wrap .u8 (a0.f0)), (IntKind.wrap .u8 ((ByteArray.size a0.f1 : Int)))], (strInts a0.f1), (m120 a0.f2 4), (m120 a0.f3 4)])) from by first | rfl | (simp [map_take, map_drop, four_len, high4, high2]; done) | (simp [byteRows_eq, map_take, map_drop, four_len, high4, high2]; done) | (simp [*, map_take, map_drop, four_len, high4, high2]; done) | (rw [take_of_length_le (by simp only [length_drop, length_take, length_map, Int.toNat_natCast]; omega)]; simp only [← map_drop, ← map_take]), show (toBR (map d_y (m120 (Int.tmod (m121 (m71 [[(IntKind.wrap .u8 (a0.f0)), (IntKind.wrap .u8 ((ByteArray.size a0.f1 : Int)))], (strInts a0.f1), (m120 a0.f2 4), (m120 a0.f3 4)])) 65536) 2))) = (map b_y (m120 (Int.tmod (m121 (m71 [[(IntKind.wrap .u8 (a0.f0)), (IntKind.wrap .u8 ((ByteArray.size a0.f1 : Int)))], (strInts a0.f1), (m120 a0.f2 4), (m120 a0.f3 4)])) 65536) 2)) from by first | rfl | (simp [map_take, map_drop, four_len, high4, high2]; done) | (simp [byteRows_eq, map_take, map_drop, four_len, high4, high2]; done) | (simp [*, map_take, map_drop, four_len, high4, high2]; done) | (rw [take_of_length_le (by simp only [length_drop, length_take, length_map, Int.toNat_natCast]; omega)]; simp only [← map_drop, ← map_take])]; exact (e71 (a0 := [[(IntKind.wrap .u8 (((length (map d_y (m71 [[(IntKind.wrap .u8 (a0.f0)), (IntKind.wrap .u8 ((ByteArray.size a0.f1 : Int)))], (strInts a0.f1), (m120 a0.f2 4), (m120 a0.f3 4)]))) : Int)))], (m71 [[(IntKind.wrap .u8 (a0.f0)), (IntKind.wrap .u8 ((ByteArray.size a0.f1 : Int)))], (strInts a0.f1), (m120 a0.f2 4), (m120 a0.f3 4)]), (m120 (Int.tmod (m121 (m71 [[(IntKind.wrap .u8 (a0.f0)), (IntKind.wrap .u8 ((ByteArray.size a0.f1 : Int)))], (strInts a0.f1), (m120 a0.f2 4), (m120 a0.f3 4)])) 65536) 2)]) (by rw [List.flatten_cons, List.flatten_cons, concat_is _ (by simp only [List.flatten_cons, List.flatten_nil, List.append_nil, length_append, length_cons, length_nil, strInts_len, high4, high2]; omega)]; simp only [List.flatten_cons, List.flatten_nil, List.append_nil, length_append, length_cons, length_nil, strInts_len, high4, high2]; omega) (by simp only [List.flatten_cons, List.flatten_nil, List.append_nil, length_append, length_cons, length_nil, strInts_len, high4, high2]; omega)))
 exact cp (by kernel_rfl) (.f f0 (.r 31 [] [] f1 (.r 37 [] [] f2 (.e 0 (.e 2 (.e 0 (.f f6 (.e 0 (.e (length (map d_y (m120 a0.f2 4))) (.e 0 (.e (length (map d_y (m120 a0.f3 4))) (.f f11 (.f f12 (.f f13 (.r 41 [] [[[(.sl [[(.val (.int .u8 (IntKind.wrap .u8 (a0.f0))))], [(.val (.int .u8 (IntKind.wrap .u8 ((ByteArray.size a0.f1 : Int)))))]])], [(.sl (toBR (byteRows a0.f1)))], [(.sl (toBR (map d_y (m120 a0.f2 4))))], [(.sl (toBR (map d_y (m120 a0.f3 4))))]]] f14 (.f f15 (.f f16 (.f f17 (.r 57 [] [(map b_y (m71 [[(IntKind.wrap .u8 (a0.f0)), (IntKind.wrap .u8 ((ByteArray.size a0.f1 : Int)))], (strInts a0.f1), (m120 a0.f2 4), (m120 a0.f3 4)]))] f18 (.f f19 (.r 61 [] [] f20 (.e 0 (.e 1 (.e 0 (.e (length (map d_y (m71 [[(IntKind.wrap .u8 (a0.f0)), (IntKind.wrap .u8 ((ByteArray.size a0.f1 : Int)))], (strInts a0.f1), (m120 a0.f2 4), (m120 a0.f3 4)]))) (.e 0 (.e (length (map d_y (m120 (Int.tmod (m121 (m71 [[(IntKind.wrap .u8 (a0.f0)), (IntKind.wrap .u8 ((ByteArray.size a0.f1 : Int)))], (strInts a0.f1), (m120 a0.f2 4), (m120 a0.f3 4)])) 65536) 2))) (.f f27 (.f f28 (.f f29 (.r 65 [] [[[(.sl [[(.val (.int .u8 (IntKind.wrap .u8 (((length (map d_y (m71 [[(IntKind.wrap .u8 (a0.f0)), (IntKind.wrap .u8 ((ByteArray.size a0.f1 : Int)))], (strInts a0.f1), (m120 a0.f2 4), (m120 a0.f3 4)]))) : Int)))))]])], [(.sl (toBR (map d_y (m71 [[(IntKind.wrap .u8 (a0.f0)), (IntKind.wrap .u8 ((ByteArray.size a0.f1 : Int)))], (strInts a0.f1), (m120 a0.f2 4), (m120 a0.f3 4)]))))], [(.sl (toBR (map d_y (m120 (Int.tmod (m121 (m71 [[(IntKind.wrap .u8 (a0.f0)), (IntKind.wrap .u8 ((ByteArray.size a0.f1 : Int)))], (strInts a0.f1), (m120 a0.f2 4), (m120 a0.f3 4)])) 65536) 2))))]]] f30 (.e 0 (.e (length (map d_y (m71 [[(IntKind.wrap .u8 (((length (map d_y (m71 [[(IntKind.wrap .u8 (a0.f0)), (IntKind.wrap .u8 ((ByteArray.size a0.f1 : Int)))], (strInts a0.f1), (m120 a0.f2 4), (m120 a0.f3 4)]))) : Int)))], (m71 [[(IntKind.wrap .u8 (a0.f0)), (IntKind.wrap .u8 ((ByteArray.size a0.f1 : Int)))], (strInts a0.f1), (m120 a0.f2 4), (m120 a0.f3 4)]), (m120 (Int.tmod (m121 (m71 [[(IntKind.wrap .u8 (a0.f0)), (IntKind.wrap .u8 ((ByteArray.size a0.f1 : Int)))], (strInts a0.f1), (m120 a0.f2 4), (m120 a0.f3 4)])) 65536) 2)]))) (.f (pureR_y (m71 [[(IntKind.wrap .u8 (((length (map d_y (m71 [[(IntKind.wrap .u8 (a0.f0)), (IntKind.wrap .u8 ((ByteArray.size a0.f1 : Int)))], (strInts a0.f1), (m120 a0.f2 4), (m120 a0.f3 4)]))) : Int)))], (m71 [[(IntKind.wrap .u8 (a0.f0)), (IntKind.wrap .u8 ((ByteArray.size a0.f1 : Int)))], (strInts a0.f1), (m120 a0.f2 4), (m120 a0.f3 4)]), (m120 (Int.tmod (m121 (m71 [[(IntKind.wrap .u8 (a0.f0)), (IntKind.wrap .u8 ((ByteArray.size a0.f1 : Int)))], (strInts a0.f1), (m120 a0.f2 4), (m120 a0.f3 4)])) 65536) 2)])) .nil))))))))))))))))))))))))))))))))))
theorem pack_len65 (a : K_isii) (h : ByteArray.size a.f1 ≤ 1000) : length (m65 a) ≤ 2000 := by
 unfold m65
 have h1 : length (List.flatten [[(IntKind.wrap .u8 (a.f0)), (IntKind.wrap .u8 ((ByteArray.size a.f1 : Int)))], (strInts a.f1), (m120 a.f2 4), (m120 a.f3 4)]) ≤ 1900 := by simp only [List.flatten_cons, List.flatten_nil, List.append_nil, length_append, length_cons, length_nil, strInts_len, high4, high2]; omega
 rw [concat_is _ (Nat.le_trans h1 (by omega))]
 rw [concat_is _ (by simp only [List.flatten_cons, List.flatten_nil, List.append_nil, length_append, length_cons, length_nil, strInts_len, high4, high2]; omega)]
 simp only [List.flatten_cons, List.flatten_nil, List.append_nil, length_append, length_cons, length_nil, strInts_len, high4, high2]; omega
inductive O132_0 where
 | k0 (w0 : Int) (w1 : Int) (w2 : Bool)
def r132_0 (a0 : (List Int)) : List Int → Int → Int → O132_0
 | x0 :: y0, i, v0 =>
  (r132_0 a0 y0 (i + 1) (bitsV .or .i64 (w64 (v0 * 2 ^ (min (Int.toNat 8) (IntKind.bits .i64)))) (w64 (x0))))
 | [], i, v0 => (O132_0.k0 v0 i (decide (i < ((length (map b_y a0)) : Int))))
def h132_0 (l0_0 : Nat) (a0 : (List Int)) (i : Int) (v0 : Int) : St := ⟨[(3, (.one (.val (.int .i64 v0)))), (6, (.one (.bor l0_0 (map b_y a0)))), (7, (.one (.val (.int .i64 ((length (map b_y a0)) : Int))))), (8, (.one (.val (.int .i64 i))))], []⟩
def ex132_0 : O132_0 → VX.Exit
 | .k0 _ _ _ => (.exit 0)
def fin132_0 (l0_0 : Nat) (a0 : (List Int)) : O132_0 → St
 | .k0 w0 w1 w2 => ⟨[(3, (.one (.val (.int .i64 w0)))), (6, (.one (.bor l0_0 (map b_y a0)))), (7, (.one (.val (.int .i64 ((length (map b_y a0)) : Int))))), (8, (.one (.val (.int .i64 w1)))), (9, (.one (.val (.bool w2))))], []⟩
theorem t132_0 {l0_0 : Nat} {a0 : (List Int)} (hy0 : length a0 * 1 ≤ 140737488351232) : ∀ (y0 : List Int) (p : List Int) (v0 : Int), p ++ y0 = a0 → Ev F X (.code l132_0 (h132_0 l0_0 a0 (length p : Int) v0) (ex132_0 (r132_0 a0 y0 (length p : Int) v0)) (fin132_0 l0_0 a0 (r132_0 a0 y0 (length p : Int) v0)))
 | [], p, v0, hp0 => by
  have hc : ¬ (decide ((length p : Int) < ((length (map b_y a0)) : Int))) = true := by
   rw [← hp0]; simp only [length_map, length_set, length_append, length_replicate, length_cons, length_nil, decide_eq_true_eq]; omega
  have st := ch b132_0 [(2, .b false)] (h132_0 l0_0 a0 (length p : Int) v0) (fin132_0 l0_0 a0 (.k0 v0 (length p : Int) (decide ((length p : Int) < ((length (map b_y a0)) : Int))))) (.exit 0) 3 [(decide ((length p : Int) < ((length (map b_y a0)) : Int))) = false] (by kernel_rfl) ⟨(nt hc), trivial⟩
  exact .loopX st (show ((.exit 0) : VX.Exit) ≠ .normal from by simp)
 | x0 :: y0, p, v0, hp0 => by
  have hc : (decide ((length p : Int) < ((length (map b_y a0)) : Int))) = true := lt1 hp0
  have Hx0 : (a0)[Int.toNat (length p : Int)]? = some x0 := by
   rw [← hp0, Int.toNat_natCast]; simp
  have hlen : length (a0) = length p + length y0 + 1 := by rw [← hp0]; simp; omega
  have hw : w64 ((length p : Int) + 1) = (length p : Int) + 1 := wrap64 (by omega)
  simp only [r132_0]
  have st := ch b132_0 [(2, .b true), (4, .row [(.val (.int .u8 x0))])] (h132_0 l0_0 a0 (length p : Int) v0) ⟨[(3, (.oi (bitsV .or .i64 (w64 (v0 * 2 ^ (min (Int.toNat 8) (IntKind.bits .i64)))) (w64 (x0))))), (6, (.one (.bor l0_0 (map b_y a0)))), (7, (.oi ((length (map b_y a0)) : Int))), (8, (.oi (w64 ((length p : Int) + 1))))], []⟩ .normal 25 [(decide ((length p : Int) < ((length (map b_y a0)) : Int))) = true, 0 ≤ (length p : Int), (map b_y a0)[(Int.toNat (length p : Int))]? = some [(.val (.int .u8 x0))], 0 ≤ (8 : Int), True] (by kernel_rfl) ⟨hc, (by omega), (by rw [getElem?_map, Hx0]; rfl), (by omega), trivial, trivial⟩
  have ih := t132_0 (l0_0 := l0_0) (a0 := a0) hy0 y0 (p ++ [x0]) (bitsV .or .i64 (w64 (v0 * 2 ^ (min (Int.toNat 8) (IntKind.bits .i64)))) (w64 (x0))) (by rw [append_assoc]; exact hp0)
  rw [show ((p ++ [x0]).length : Int) = (p.length : Int) + 1 from by simp] at ih
  replace st := to_ (s' := h132_0 l0_0 a0 ((length p : Int) + 1) (bitsV .or .i64 (w64 (v0 * 2 ^ (min (Int.toNat 8) (IntKind.bits .i64)))) (w64 (x0)))) st (by unfold h132_0; simp only [hw]; done)
  exact .loopN st ih
def m132 (a0 : (List Int)) : Int :=
 (match r132_0 a0 a0 0 0 with | .k0 w0_0 w1_0 w2_0 => w0_0)
theorem e132 {l0_0 : Nat} {a0 : (List Int)} (hy0 : length a0 * 1 ≤ 140737488351232) : Ev F X (.call 132 [(.one (.bor l0_0 (map b_y a0)))] [] [] [(.one (.val (.int .i64 (m132 a0))))]) := by
 unfold m132
 cases h0 : r132_0 a0 a0 0 0 with
 | k0 w0_0 w1_0 w2_0 =>
  try dsimp only
  have f0 : (⟨[(3, (.oi 0)), (6, (.one (.bor l0_0 (map b_y a0)))), (7, (.oi ((length (map b_y a0)) : Int))), (8, (.oi 0))], []⟩ : St) = h132_0 l0_0 a0 0 0 := (by rfl)
  have f1 : Ev F X (.code l132_0 (h132_0 l0_0 a0 0 0) (.exit 0) ⟨[(3, (.oi w0_0)), (6, (.one (.bor l0_0 (map b_y a0)))), (7, (.oi ((length (map b_y a0)) : Int))), (8, (.oi w1_0)), (9, (.one (.val (.bool w2_0))))], []⟩) := (by have t : Ev F X (.code l132_0 (h132_0 l0_0 a0 0 0) (ex132_0 (r132_0 a0 a0 0 0)) (fin132_0 l0_0 a0 (r132_0 a0 a0 0 0))) := t132_0 (l0_0 := l0_0) (a0 := a0) (by assumption) a0 [] 0 rfl; rw [h0] at t; exact t)
  exact cp (by kernel_rfl) (.f f0 (.f f1 (.h 10 (.loop (h132_0 l0_0 a0 0 0) (.exit 0) ⟨[(3, (.oi w0_0)), (6, (.one (.bor l0_0 (map b_y a0)))), (7, (.oi ((length (map b_y a0)) : Int))), (8, (.oi w1_0)), (9, (.one (.val (.bool w2_0))))], []⟩) .nil)))
def m153 (a0 : (List Int)) (a1 : (List Int)) : Bool :=
 ((bytesOf a0).toList == (bytesOf a1).toList)
theorem e153 {l0_0 : Nat} {a0 : (List Int)} {l1_0 : Nat} {a1 : (List Int)} : Ev F X (.call 153 [(.one (.bor l0_0 (map b_y a0))), (.one (.bor l1_0 (map b_y a1)))] [] [] [(.one (.val (.bool ((bytesOf a0).toList == (bytesOf a1).toList))))]) := by
 have f0 : rowsInts .u8 (fromBR l0_0 (map b_y a0)) = some a0 := (by simp [*, four_len, high4, high2, b_y, d_y, byteRows_eq, ints_y]; done)
 have f1 : rowsInts .u8 (fromBR l1_0 (map b_y a1)) = some a1 := (by simp [*, four_len, high4, high2, b_y, d_y, byteRows_eq, ints_y]; done)
 exact cp (by kernel_rfl) (.f f0 (.f f1 (.h 5 (.ints a0) (.h 9 (.ints a1) .nil))))
def m133 (a0 : (List Int)) (a1 : (List Int)) : Bool :=
 ((bytesOf a0).toList == (bytesOf a1).toList)
theorem e133 {l0_0 : Nat} {a0 : (List Int)} {l1_0 : Nat} {a1 : (List Int)} : Ev F X (.call 133 [(.one (.bor l0_0 (map b_y a0))), (.one (.bor l1_0 (map b_y a1)))] [] [] [(.one (.val (.bool ((bytesOf a0).toList == (bytesOf a1).toList))))]) := by
 have f0 := e153 (l0_0 := l0_0 + 1) (l1_0 := l1_0 + 1) (a0 := a0) (a1 := a1)
 exact cp (by kernel_rfl) (.r 7 [] [] f0 .nil)
def m85_0 (a0 : (List Int)) : K_isii :=
 if (((length (map b_y a0)) : Int) == 0) = true then (K_isii.mk 0 (⟨#[]⟩ : ByteArray) 0 0) else
 if (decide (((length (map b_y a0)) : Int) < (w64 ((w64 (1 + (w64 ((getD a0 0 0))))) + 2)))) = true then (K_isii.mk 0 (⟨#[]⟩ : ByteArray) 0 0) else
  if (decide ((w64 ((getD a0 0 0))) < 10)) = true then (K_isii.mk 0 (⟨#[]⟩ : ByteArray) 0 0) else
   if ((w64 ((getD a0 0 0))) != (w64 ((w64 (2 + (w64 ((getD (take (Int.toNat (w64 (1 + (w64 ((getD a0 0 0))))) - Int.toNat 1) (drop 1 a0)) 1 0))))) + 8))) = true then (K_isii.mk 0 (⟨#[]⟩ : ByteArray) 0 0) else
    if ((m64 (K_isii.mk (w64 ((getD (take (Int.toNat (w64 (1 + (w64 ((getD a0 0 0))))) - Int.toNat 1) (drop 1 a0)) 0 0))) (bytesOf (take (Int.toNat (w64 (2 + (w64 ((getD (take (Int.toNat (w64 (1 + (w64 ((getD a0 0 0))))) - Int.toNat 1) (drop 1 a0)) 1 0))))) - Int.toNat 2) (drop 2 (take (Int.toNat (w64 (1 + (w64 ((getD a0 0 0))))) - Int.toNat 1) (drop 1 a0))))) (m132 (take (Int.toNat (w64 ((w64 (2 + (w64 ((getD (take (Int.toNat (w64 (1 + (w64 ((getD a0 0 0))))) - Int.toNat 1) (drop 1 a0)) 1 0))))) + 4)) - Int.toNat (w64 (2 + (w64 ((getD (take (Int.toNat (w64 (1 + (w64 ((getD a0 0 0))))) - Int.toNat 1) (drop 1 a0)) 1 0)))))) (drop (Int.toNat (w64 (2 + (w64 ((getD (take (Int.toNat (w64 (1 + (w64 ((getD a0 0 0))))) - Int.toNat 1) (drop 1 a0)) 1 0)))))) (take (Int.toNat (w64 (1 + (w64 ((getD a0 0 0))))) - Int.toNat 1) (drop 1 a0))))) (m132 (drop (Int.toNat (w64 ((w64 (2 + (w64 ((getD (take (Int.toNat (w64 (1 + (w64 ((getD a0 0 0))))) - Int.toNat 1) (drop 1 a0)) 1 0))))) + 4))) (take (Int.toNat (w64 (1 + (w64 ((getD a0 0 0))))) - Int.toNat 1) (drop 1 a0)))))) != 0) = true then (K_isii.mk 0 (⟨#[]⟩ : ByteArray) 0 0) else
     if (!((bytesOf (m65 (K_isii.mk (w64 ((getD (take (Int.toNat (w64 (1 + (w64 ((getD a0 0 0))))) - Int.toNat 1) (drop 1 a0)) 0 0))) (bytesOf (take (Int.toNat (w64 (2 + (w64 ((getD (take (Int.toNat (w64 (1 + (w64 ((getD a0 0 0))))) - Int.toNat 1) (drop 1 a0)) 1 0))))) - Int.toNat 2) (drop 2 (take (Int.toNat (w64 (1 + (w64 ((getD a0 0 0))))) - Int.toNat 1) (drop 1 a0))))) (m132 (take (Int.toNat (w64 ((w64 (2 + (w64 ((getD (take (Int.toNat (w64 (1 + (w64 ((getD a0 0 0))))) - Int.toNat 1) (drop 1 a0)) 1 0))))) + 4)) - Int.toNat (w64 (2 + (w64 ((getD (take (Int.toNat (w64 (1 + (w64 ((getD a0 0 0))))) - Int.toNat 1) (drop 1 a0)) 1 0)))))) (drop (Int.toNat (w64 (2 + (w64 ((getD (take (Int.toNat (w64 (1 + (w64 ((getD a0 0 0))))) - Int.toNat 1) (drop 1 a0)) 1 0)))))) (take (Int.toNat (w64 (1 + (w64 ((getD a0 0 0))))) - Int.toNat 1) (drop 1 a0))))) (m132 (drop (Int.toNat (w64 ((w64 (2 + (w64 ((getD (take (Int.toNat (w64 (1 + (w64 ((getD a0 0 0))))) - Int.toNat 1) (drop 1 a0)) 1 0))))) + 4))) (take (Int.toNat (w64 (1 + (w64 ((getD a0 0 0))))) - Int.toNat 1) (drop 1 a0))))))).toList == (bytesOf (take (Int.toNat (w64 ((w64 (1 + (w64 ((getD a0 0 0))))) + 2))) a0)).toList)) = true then (K_isii.mk 0 (⟨#[]⟩ : ByteArray) 0 0) else
      (K_isii.mk (w64 ((getD (take (Int.toNat (w64 (1 + (w64 ((getD a0 0 0))))) - Int.toNat 1) (drop 1 a0)) 0 0))) (bytesOf (take (Int.toNat (w64 (2 + (w64 ((getD (take (Int.toNat (w64 (1 + (w64 ((getD a0 0 0))))) - Int.toNat 1) (drop 1 a0)) 1 0))))) - Int.toNat 2) (drop 2 (take (Int.toNat (w64 (1 + (w64 ((getD a0 0 0))))) - Int.toNat 1) (drop 1 a0))))) (m132 (take (Int.toNat (w64 ((w64 (2 + (w64 ((getD (take (Int.toNat (w64 (1 + (w64 ((getD a0 0 0))))) - Int.toNat 1) (drop 1 a0)) 1 0))))) + 4)) - Int.toNat (w64 (2 + (w64 ((getD (take (Int.toNat (w64 (1 + (w64 ((getD a0 0 0))))) - Int.toNat 1) (drop 1 a0)) 1 0)))))) (drop (Int.toNat (w64 (2 + (w64 ((getD (take (Int.toNat (w64 (1 + (w64 ((getD a0 0 0))))) - Int.toNat 1) (drop 1 a0)) 1 0)))))) (take (Int.toNat (w64 (1 + (w64 ((getD a0 0 0))))) - Int.toNat 1) (drop 1 a0))))) (m132 (drop (Int.toNat (w64 ((w64 (2 + (w64 ((getD (take (Int.toNat (w64 (1 + (w64 ((getD a0 0 0))))) - Int.toNat 1) (drop 1 a0)) 1 0))))) + 4))) (take (Int.toNat (w64 (1 + (w64 ((getD a0 0 0))))) - Int.toNat 1) (drop 1 a0)))))
def m85_1 (a0 : (List Int)) : Int :=
 if (((length (map b_y a0)) : Int) == 0) = true then 0 else
 if (decide (((length (map b_y a0)) : Int) < (w64 ((w64 (1 + (w64 ((getD a0 0 0))))) + 2)))) = true then 0 else
  if (decide ((w64 ((getD a0 0 0))) < 10)) = true then 0 else
   if ((w64 ((getD a0 0 0))) != (w64 ((w64 (2 + (w64 ((getD (take (Int.toNat (w64 (1 + (w64 ((getD a0 0 0))))) - Int.toNat 1) (drop 1 a0)) 1 0))))) + 8))) = true then 0 else
    if ((m64 (K_isii.mk (w64 ((getD (take (Int.toNat (w64 (1 + (w64 ((getD a0 0 0))))) - Int.toNat 1) (drop 1 a0)) 0 0))) (bytesOf (take (Int.toNat (w64 (2 + (w64 ((getD (take (Int.toNat (w64 (1 + (w64 ((getD a0 0 0))))) - Int.toNat 1) (drop 1 a0)) 1 0))))) - Int.toNat 2) (drop 2 (take (Int.toNat (w64 (1 + (w64 ((getD a0 0 0))))) - Int.toNat 1) (drop 1 a0))))) (m132 (take (Int.toNat (w64 ((w64 (2 + (w64 ((getD (take (Int.toNat (w64 (1 + (w64 ((getD a0 0 0))))) - Int.toNat 1) (drop 1 a0)) 1 0))))) + 4)) - Int.toNat (w64 (2 + (w64 ((getD (take (Int.toNat (w64 (1 + (w64 ((getD a0 0 0))))) - Int.toNat 1) (drop 1 a0)) 1 0)))))) (drop (Int.toNat (w64 (2 + (w64 ((getD (take (Int.toNat (w64 (1 + (w64 ((getD a0 0 0))))) - Int.toNat 1) (drop 1 a0)) 1 0)))))) (take (Int.toNat (w64 (1 + (w64 ((getD a0 0 0))))) - Int.toNat 1) (drop 1 a0))))) (m132 (drop (Int.toNat (w64 ((w64 (2 + (w64 ((getD (take (Int.toNat (w64 (1 + (w64 ((getD a0 0 0))))) - Int.toNat 1) (drop 1 a0)) 1 0))))) + 4))) (take (Int.toNat (w64 (1 + (w64 ((getD a0 0 0))))) - Int.toNat 1) (drop 1 a0)))))) != 0) = true then 0 else
     if (!((bytesOf (m65 (K_isii.mk (w64 ((getD (take (Int.toNat (w64 (1 + (w64 ((getD a0 0 0))))) - Int.toNat 1) (drop 1 a0)) 0 0))) (bytesOf (take (Int.toNat (w64 (2 + (w64 ((getD (take (Int.toNat (w64 (1 + (w64 ((getD a0 0 0))))) - Int.toNat 1) (drop 1 a0)) 1 0))))) - Int.toNat 2) (drop 2 (take (Int.toNat (w64 (1 + (w64 ((getD a0 0 0))))) - Int.toNat 1) (drop 1 a0))))) (m132 (take (Int.toNat (w64 ((w64 (2 + (w64 ((getD (take (Int.toNat (w64 (1 + (w64 ((getD a0 0 0))))) - Int.toNat 1) (drop 1 a0)) 1 0))))) + 4)) - Int.toNat (w64 (2 + (w64 ((getD (take (Int.toNat (w64 (1 + (w64 ((getD a0 0 0))))) - Int.toNat 1) (drop 1 a0)) 1 0)))))) (drop (Int.toNat (w64 (2 + (w64 ((getD (take (Int.toNat (w64 (1 + (w64 ((getD a0 0 0))))) - Int.toNat 1) (drop 1 a0)) 1 0)))))) (take (Int.toNat (w64 (1 + (w64 ((getD a0 0 0))))) - Int.toNat 1) (drop 1 a0))))) (m132 (drop (Int.toNat (w64 ((w64 (2 + (w64 ((getD (take (Int.toNat (w64 (1 + (w64 ((getD a0 0 0))))) - Int.toNat 1) (drop 1 a0)) 1 0))))) + 4))) (take (Int.toNat (w64 (1 + (w64 ((getD a0 0 0))))) - Int.toNat 1) (drop 1 a0))))))).toList == (bytesOf (take (Int.toNat (w64 ((w64 (1 + (w64 ((getD a0 0 0))))) + 2))) a0)).toList)) = true then 0 else
      ((length (take (Int.toNat (w64 ((w64 (1 + (w64 ((getD a0 0 0))))) + 2)) - Int.toNat 0) (drop 0 (map b_y a0)))) : Int)
def m85_2 (a0 : (List Int)) : Bool :=
 if (((length (map b_y a0)) : Int) == 0) = true then false else
 if (decide (((length (map b_y a0)) : Int) < (w64 ((w64 (1 + (w64 ((getD a0 0 0))))) + 2)))) = true then false else
  if (decide ((w64 ((getD a0 0 0))) < 10)) = true then false else
   if ((w64 ((getD a0 0 0))) != (w64 ((w64 (2 + (w64 ((getD (take (Int.toNat (w64 (1 + (w64 ((getD a0 0 0))))) - Int.toNat 1) (drop 1 a0)) 1 0))))) + 8))) = true then false else
    if ((m64 (K_isii.mk (w64 ((getD (take (Int.toNat (w64 (1 + (w64 ((getD a0 0 0))))) - Int.toNat 1) (drop 1 a0)) 0 0))) (bytesOf (take (Int.toNat (w64 (2 + (w64 ((getD (take (Int.toNat (w64 (1 + (w64 ((getD a0 0 0))))) - Int.toNat 1) (drop 1 a0)) 1 0))))) - Int.toNat 2) (drop 2 (take (Int.toNat (w64 (1 + (w64 ((getD a0 0 0))))) - Int.toNat 1) (drop 1 a0))))) (m132 (take (Int.toNat (w64 ((w64 (2 + (w64 ((getD (take (Int.toNat (w64 (1 + (w64 ((getD a0 0 0))))) - Int.toNat 1) (drop 1 a0)) 1 0))))) + 4)) - Int.toNat (w64 (2 + (w64 ((getD (take (Int.toNat (w64 (1 + (w64 ((getD a0 0 0))))) - Int.toNat 1) (drop 1 a0)) 1 0)))))) (drop (Int.toNat (w64 (2 + (w64 ((getD (take (Int.toNat (w64 (1 + (w64 ((getD a0 0 0))))) - Int.toNat 1) (drop 1 a0)) 1 0)))))) (take (Int.toNat (w64 (1 + (w64 ((getD a0 0 0))))) - Int.toNat 1) (drop 1 a0))))) (m132 (drop (Int.toNat (w64 ((w64 (2 + (w64 ((getD (take (Int.toNat (w64 (1 + (w64 ((getD a0 0 0))))) - Int.toNat 1) (drop 1 a0)) 1 0))))) + 4))) (take (Int.toNat (w64 (1 + (w64 ((getD a0 0 0))))) - Int.toNat 1) (drop 1 a0)))))) != 0) = true then false else
     if (!((bytesOf (m65 (K_isii.mk (w64 ((getD (take (Int.toNat (w64 (1 + (w64 ((getD a0 0 0))))) - Int.toNat 1) (drop 1 a0)) 0 0))) (bytesOf (take (Int.toNat (w64 (2 + (w64 ((getD (take (Int.toNat (w64 (1 + (w64 ((getD a0 0 0))))) - Int.toNat 1) (drop 1 a0)) 1 0))))) - Int.toNat 2) (drop 2 (take (Int.toNat (w64 (1 + (w64 ((getD a0 0 0))))) - Int.toNat 1) (drop 1 a0))))) (m132 (take (Int.toNat (w64 ((w64 (2 + (w64 ((getD (take (Int.toNat (w64 (1 + (w64 ((getD a0 0 0))))) - Int.toNat 1) (drop 1 a0)) 1 0))))) + 4)) - Int.toNat (w64 (2 + (w64 ((getD (take (Int.toNat (w64 (1 + (w64 ((getD a0 0 0))))) - Int.toNat 1) (drop 1 a0)) 1 0)))))) (drop (Int.toNat (w64 (2 + (w64 ((getD (take (Int.toNat (w64 (1 + (w64 ((getD a0 0 0))))) - Int.toNat 1) (drop 1 a0)) 1 0)))))) (take (Int.toNat (w64 (1 + (w64 ((getD a0 0 0))))) - Int.toNat 1) (drop 1 a0))))) (m132 (drop (Int.toNat (w64 ((w64 (2 + (w64 ((getD (take (Int.toNat (w64 (1 + (w64 ((getD a0 0 0))))) - Int.toNat 1) (drop 1 a0)) 1 0))))) + 4))) (take (Int.toNat (w64 (1 + (w64 ((getD a0 0 0))))) - Int.toNat 1) (drop 1 a0))))))).toList == (bytesOf (take (Int.toNat (w64 ((w64 (1 + (w64 ((getD a0 0 0))))) + 2))) a0)).toList)) = true then false else
      true
theorem e85 {l0_0 : Nat} {a0 : (List Int)} (hy0 : ∀ z ∈ a0, (0 : Int) ≤ z ∧ z ≤ 255) (hy1 : length a0 ≤ 140737488351232) : Ev F X (.call 85 [(.one (.bor l0_0 (map b_y a0)))] [] [] [(.agg [(.val (.int .i64 ((m85_0 a0).f0))), (.val (.string ((m85_0 a0).f1))), (.val (.int .i64 ((m85_0 a0).f2))), (.val (.int .i64 ((m85_0 a0).f3)))]), (.one (.val (.int .i64 (m85_1 a0)))), (.one (.val (.bool (m85_2 a0))))]) := by
 unfold m85_0 m85_1 m85_2
 by_cases h0 : (((length (map b_y a0)) : Int) == 0) = true
 ·try simp only [if_pos h0]
  exact cp (by kernel_rfl) (.f h0 (.y 12 .nil))
 ·try simp only [if_neg h0]
  have f1 : 0 ≤ (0 : Int) := (by omega)
  have f2 : (map b_y a0)[0]? = some [(.val (.int .u8 (getD a0 0 0)))] := (by rw [getElem?_map, getD_at a0 0 0 (by first | exact True.intro | with_reducible rfl | with_reducible assumption | omega | (exact ⟨(by (obtain ⟨g0, g1, e0, e1, e2, e3, e4, e5, e6, e7, e8, e9⟩ := nums a0 hy0; simp only [decide_eq_true_eq, bne_iff_ne, ne_eq, beq_iff_eq, Decidable.not_not, length_map, length_take, length_drop, bo_size] at *; omega)), (by first | exact lenB_y _ | (intro r hr; exact lenB_y _ r (List.mem_of_mem_drop (List.mem_of_mem_take hr))))⟩) | (obtain ⟨g0, g1, e0, e1, e2, e3, e4, e5, e6, e7, e8, e9⟩ := nums a0 hy0; simp only [decide_eq_true_eq, bne_iff_ne, ne_eq, beq_iff_eq, Decidable.not_not, length_map, length_take, length_drop, bo_size] at *; omega) | (simp only [← map_drop, ← map_take, fromBR_y]; exact ints_y _) | (simp only [List.drop_zero, ← map_take, fromBR_y]; exact ints_y _) | (simp only [List.drop_zero, List.take_length]; exact ints_y _) | (simp only [decide_eq_true_eq] at *; omega) | (simp only [length_map]; omega) | (simp [four_len, high4, high2]; omega) | (simp [take_of_length_le, four_len, high4, high2]; done) | assumption | trivial | (simp [*, four_len, high4, high2, byteRows_eq, ints_y]; done))]; rfl)
  by_cases h1 : (decide (((length (map b_y a0)) : Int) < (w64 ((w64 (1 + (w64 ((getD a0 0 0))))) + 2)))) = true
  ·try simp only [if_pos h1]
   exact cp (by kernel_rfl) (.g h0 (.f f1 (.f f2 (.m 2 trivial (.m 3 h1 (.z 12 (.h 16 (.row [(.val (.int .u8 (getD a0 0 0)))]) (.y 37 (.y 39 (.y 42 .nil))))))))))
  ·try simp only [if_neg h1]
   by_cases h2 : (decide ((w64 ((getD a0 0 0))) < 10)) = true
   ·try simp only [if_pos h2]
    exact cp (by kernel_rfl) (.g h0 (.f f1 (.f f2 (.m 2 trivial (.n 3 h1 (.f h2 (.z 12 (.h 16 (.row [(.val (.int .u8 (getD a0 0 0)))]) (.z 37 (.z 39 (.z 42 (.y 43 .nil))))))))))))
   ·try simp only [if_neg h2]
    have f11 : (0 ≤ (0 : Int) ∧ (0 : Int) ≤ (w64 ((w64 (1 + (w64 ((getD a0 0 0))))) + 2)) ∧ (w64 ((w64 (1 + (w64 ((getD a0 0 0))))) + 2)) ≤ ((length (map b_y a0)) : Int)) ∧ ∀ r ∈ ((map b_y a0) : List (List B)), r.length = 1 := (by exact ⟨(by (obtain ⟨g0, g1, e0, e1, e2, e3, e4, e5, e6, e7, e8, e9⟩ := nums a0 hy0; simp only [decide_eq_true_eq, bne_iff_ne, ne_eq, beq_iff_eq, Decidable.not_not, length_map, length_take, length_drop, bo_size] at *; omega)), (by first | exact lenB_y _ | (intro r hr; exact lenB_y _ r (List.mem_of_mem_drop (List.mem_of_mem_take hr))))⟩)
    have f13 : (0 ≤ (1 : Int) ∧ (1 : Int) ≤ (w64 (1 + (w64 ((getD a0 0 0))))) ∧ (w64 (1 + (w64 ((getD a0 0 0))))) ≤ ((length (map b_y a0)) : Int)) ∧ ∀ r ∈ ((map b_y a0) : List (List B)), r.length = 1 := (by exact ⟨(by (obtain ⟨g0, g1, e0, e1, e2, e3, e4, e5, e6, e7, e8, e9⟩ := nums a0 hy0; simp only [decide_eq_true_eq, bne_iff_ne, ne_eq, beq_iff_eq, Decidable.not_not, length_map, length_take, length_drop, bo_size] at *; omega)), (by first | exact lenB_y _ | (intro r hr; exact lenB_y _ r (List.mem_of_mem_drop (List.mem_of_mem_take hr))))⟩)
    have f14 : 0 ≤ (1 : Int) := (by omega)
    have f15 : (take (Int.toNat (w64 (1 + (w64 ((getD a0 0 0))))) - Int.toNat 1) (drop 1 (map b_y a0)))[1]? = some [(.val (.int .u8 (getD (take (Int.toNat (w64 (1 + (w64 ((getD a0 0 0))))) - Int.toNat 1) (drop 1 a0)) 1 0)))] := (by simp only [← map_drop, ← map_take]; rw [getElem?_map, getD_at (take (Int.toNat (w64 (1 + (w64 ((getD a0 0 0))))) - Int.toNat 1) (drop 1 a0)) 1 0 (by obtain ⟨g0, g1, e0, e1, e2, e3, e4, e5, e6, e7, e8, e9⟩ := nums a0 hy0; simp only [decide_eq_true_eq, bne_iff_ne, ne_eq, beq_iff_eq, Decidable.not_not, length_map, length_take, length_drop, bo_size] at *; omega)]; rfl)
    by_cases h3 : ((w64 ((getD a0 0 0))) != (w64 ((w64 (2 + (w64 ((getD (take (Int.toNat (w64 (1 + (w64 ((getD a0 0 0))))) - Int.toNat 1) (drop 1 a0)) 1 0))))) + 8))) = true
    ·try simp only [if_pos h3]
     exact cp (by kernel_rfl) (.g h0 (.f f1 (.f f2 (.m 2 trivial (.n 3 h1 (.g h2 (.m 2 trivial (.f f11 (.f trivial (.f f13 (.f f14 (.f f15 (.m 2 trivial (.f h3 (.z 12 (.h 16 (.row [(.val (.int .u8 (getD a0 0 0)))]) (.z 37 (.z 39 (.z 42 (.z 43 (.h 69 (.row [(.val (.int .u8 (getD (take (Int.toNat (w64 (1 + (w64 ((getD a0 0 0))))) - Int.toNat 1) (drop 1 a0)) 1 0)))]) (.y 86 .nil))))))))))))))))))))))
    ·try simp only [if_neg h3]
     have f19 : 0 ≤ (0 : Int) := (by with_reducible assumption)
     have f20 : (take (Int.toNat (w64 (1 + (w64 ((getD a0 0 0))))) - Int.toNat 1) (drop 1 (map b_y a0)))[0]? = some [(.val (.int .u8 (getD (take (Int.toNat (w64 (1 + (w64 ((getD a0 0 0))))) - Int.toNat 1) (drop 1 a0)) 0 0)))] := (by simp only [← map_drop, ← map_take]; rw [getElem?_map, getD_at (take (Int.toNat (w64 (1 + (w64 ((getD a0 0 0))))) - Int.toNat 1) (drop 1 a0)) 0 0 (by obtain ⟨g0, g1, e0, e1, e2, e3, e4, e5, e6, e7, e8, e9⟩ := nums a0 hy0; simp only [decide_eq_true_eq, bne_iff_ne, ne_eq, beq_iff_eq, Decidable.not_not, length_map, length_take, length_drop, bo_size] at *; omega)]; rfl)
     have f21 : (0 ≤ (2 : Int) ∧ (2 : Int) ≤ (w64 (2 + (w64 ((getD (take (Int.toNat (w64 (1 + (w64 ((getD a0 0 0))))) - Int.toNat 1) (drop 1 a0)) 1 0))))) ∧ (w64 (2 + (w64 ((getD (take (Int.toNat (w64 (1 + (w64 ((getD a0 0 0))))) - Int.toNat 1) (drop 1 a0)) 1 0))))) ≤ ((length (take (Int.toNat (w64 (1 + (w64 ((getD a0 0 0))))) - Int.toNat 1) (drop 1 (map b_y a0)))) : Int)) ∧ ∀ r ∈ ((take (Int.toNat (w64 (1 + (w64 ((getD a0 0 0))))) - Int.toNat 1) (drop 1 (map b_y a0))) : List (List B)), r.length = 1 := (by exact ⟨(by (obtain ⟨g0, g1, e0, e1, e2, e3, e4, e5, e6, e7, e8, e9⟩ := nums a0 hy0; simp only [decide_eq_true_eq, bne_iff_ne, ne_eq, beq_iff_eq, Decidable.not_not, length_map, length_take, length_drop, bo_size] at *; omega)), (by first | exact lenB_y _ | (intro r hr; exact lenB_y _ r (List.mem_of_mem_drop (List.mem_of_mem_take hr))))⟩)
     have f22 : rowsInts .u8 (fromBR l0_0 (take (Int.toNat (w64 (2 + (w64 ((getD (take (Int.toNat (w64 (1 + (w64 ((getD a0 0 0))))) - Int.toNat 1) (drop 1 a0)) 1 0))))) - Int.toNat 2) (drop 2 (take (Int.toNat (w64 (1 + (w64 ((getD a0 0 0))))) - Int.toNat 1) (drop 1 (map b_y a0)))))) = some (take (Int.toNat (w64 (2 + (w64 ((getD (take (Int.toNat (w64 (1 + (w64 ((getD a0 0 0))))) - Int.toNat 1) (drop 1 a0)) 1 0))))) - Int.toNat 2) (drop 2 (take (Int.toNat (w64 (1 + (w64 ((getD a0 0 0))))) - Int.toNat 1) (drop 1 a0)))) := (by simp only [← map_drop, ← map_take, fromBR_y]; exact ints_y _)
     have f24 : (0 ≤ (w64 (2 + (w64 ((getD (take (Int.toNat (w64 (1 + (w64 ((getD a0 0 0))))) - Int.toNat 1) (drop 1 a0)) 1 0))))) ∧ (w64 (2 + (w64 ((getD (take (Int.toNat (w64 (1 + (w64 ((getD a0 0 0))))) - Int.toNat 1) (drop 1 a0)) 1 0))))) ≤ (w64 ((w64 (2 + (w64 ((getD (take (Int.toNat (w64 (1 + (w64 ((getD a0 0 0))))) - Int.toNat 1) (drop 1 a0)) 1 0))))) + 4)) ∧ (w64 ((w64 (2 + (w64 ((getD (take (Int.toNat (w64 (1 + (w64 ((getD a0 0 0))))) - Int.toNat 1) (drop 1 a0)) 1 0))))) + 4)) ≤ ((length (take (Int.toNat (w64 (1 + (w64 ((getD a0 0 0))))) - Int.toNat 1) (drop 1 (map b_y a0)))) : Int)) ∧ ∀ r ∈ ((take (Int.toNat (w64 (1 + (w64 ((getD a0 0 0))))) - Int.toNat 1) (drop 1 (map b_y a0))) : List (List B)), r.length = 1 := (by exact ⟨(by (obtain ⟨g0, g1, e0, e1, e2, e3, e4, e5, e6, e7, e8, e9⟩ := nums a0 hy0; simp only [decide_eq_true_eq, bne_iff_ne, ne_eq, beq_iff_eq, Decidable.not_not, length_map, length_take, length_drop, bo_size] at *; omega)), (by first | exact lenB_y _ | (intro r hr; exact lenB_y _ r (List.mem_of_mem_drop (List.mem_of_mem_take hr))))⟩)
     have f25 : Ev F X (.call 132 [(.one (.bor (l0_0 + 1) (take (Int.toNat (w64 ((w64 (2 + (w64 ((getD (take (Int.toNat (w64 (1 + (w64 ((getD a0 0 0))))) - Int.toNat 1) (drop 1 a0)) 1 0))))) + 4)) - Int.toNat (w64 (2 + (w64 ((getD (take (Int.toNat (w64 (1 + (w64 ((getD a0 0 0))))) - Int.toNat 1) (drop 1 a0)) 1 0)))))) (drop (Int.toNat (w64 (2 + (w64 ((getD (take (Int.toNat (w64 (1 + (w64 ((getD a0 0 0))))) - Int.toNat 1) (drop 1 a0)) 1 0)))))) (take (Int.toNat (w64 (1 + (w64 ((getD a0 0 0))))) - Int.toNat 1) (drop 1 (map b_y a0)))))))] [] [] [(.oi (m132 (take (Int.toNat (w64 ((w64 (2 + (w64 ((getD (take (Int.toNat (w64 (1 + (w64 ((getD a0 0 0))))) - Int.toNat 1) (drop 1 a0)) 1 0))))) + 4)) - Int.toNat (w64 (2 + (w64 ((getD (take (Int.toNat (w64 (1 + (w64 ((getD a0 0 0))))) - Int.toNat 1) (drop 1 a0)) 1 0)))))) (drop (Int.toNat (w64 (2 + (w64 ((getD (take (Int.toNat (w64 (1 + (w64 ((getD a0 0 0))))) - Int.toNat 1) (drop 1 a0)) 1 0)))))) (take (Int.toNat (w64 (1 + (w64 ((getD a0 0 0))))) - Int.toNat 1) (drop 1 a0))))))]) := (by rw [show (take (Int.toNat (w64 ((w64 (2 + (w64 ((getD (take (Int.toNat (w64 (1 + (w64 ((getD a0 0 0))))) - Int.toNat 1) (drop 1 a0)) 1 0))))) + 4)) - Int.toNat (w64 (2 + (w64 ((getD (take (Int.toNat (w64 (1 + (w64 ((getD a0 0 0))))) - Int.toNat 1) (drop 1 a0)) 1 0)))))) (drop (Int.toNat (w64 (2 + (w64 ((getD (take (Int.toNat (w64 (1 + (w64 ((getD a0 0 0))))) - Int.toNat 1) (drop 1 a0)) 1 0)))))) (take (Int.toNat (w64 (1 + (w64 ((getD a0 0 0))))) - Int.toNat 1) (drop 1 (map b_y a0))))) = (map b_y (take (Int.toNat (w64 ((w64 (2 + (w64 ((getD (take (Int.toNat (w64 (1 + (w64 ((getD a0 0 0))))) - Int.toNat 1) (drop 1 a0)) 1 0))))) + 4)) - Int.toNat (w64 (2 + (w64 ((getD (take (Int.toNat (w64 (1 + (w64 ((getD a0 0 0))))) - Int.toNat 1) (drop 1 a0)) 1 0)))))) (drop (Int.toNat (w64 (2 + (w64 ((getD (take (Int.toNat (w64 (1 + (w64 ((getD a0 0 0))))) - Int.toNat 1) (drop 1 a0)) 1 0)))))) (take (Int.toNat (w64 (1 + (w64 ((getD a0 0 0))))) - Int.toNat 1) (drop 1 a0))))) from by first | rfl | (simp [map_take, map_drop, four_len, high4, high2]; done) | (simp [byteRows_eq, map_take, map_drop, four_len, high4, high2]; done) | (simp [*, map_take, map_drop, four_len, high4, high2]; done) | (rw [take_of_length_le (by simp only [length_drop, length_take, length_map, Int.toNat_natCast]; omega)]; simp only [← map_drop, ← map_take])]; exact (e132 (a0 := (take (Int.toNat (w64 ((w64 (2 + (w64 ((getD (take (Int.toNat (w64 (1 + (w64 ((getD a0 0 0))))) - Int.toNat 1) (drop 1 a0)) 1 0))))) + 4)) - Int.toNat (w64 (2 + (w64 ((getD (take (Int.toNat (w64 (1 + (w64 ((getD a0 0 0))))) - Int.toNat 1) (drop 1 a0)) 1 0)))))) (drop (Int.toNat (w64 (2 + (w64 ((getD (take (Int.toNat (w64 (1 + (w64 ((getD a0 0 0))))) - Int.toNat 1) (drop 1 a0)) 1 0)))))) (take (Int.toNat (w64 (1 + (w64 ((getD a0 0 0))))) - Int.toNat 1) (drop 1 a0))))) (by obtain ⟨g0, g1, e0, e1, e2, e3, e4, e5, e6, e7, e8, e9⟩ := nums a0 hy0; simp only [decide_eq_true_eq, bne_iff_ne, ne_eq, beq_iff_eq, Decidable.not_not, length_map, length_take, length_drop, bo_size] at *; omega)))
     have f27 : (0 ≤ (w64 ((w64 (2 + (w64 ((getD (take (Int.toNat (w64 (1 + (w64 ((getD a0 0 0))))) - Int.toNat 1) (drop 1 a0)) 1 0))))) + 4)) ∧ (w64 ((w64 (2 + (w64 ((getD (take (Int.toNat (w64 (1 + (w64 ((getD a0 0 0))))) - Int.toNat 1) (drop 1 a0)) 1 0))))) + 4)) ≤ ((length (take (Int.toNat (w64 (1 + (w64 ((getD a0 0 0))))) - Int.toNat 1) (drop 1 (map b_y a0)))) : Int) ∧ ((length (take (Int.toNat (w64 (1 + (w64 ((getD a0 0 0))))) - Int.toNat 1) (drop 1 (map b_y a0)))) : Int) ≤ ((length (take (Int.toNat (w64 (1 + (w64 ((getD a0 0 0))))) - Int.toNat 1) (drop 1 (map b_y a0)))) : Int)) ∧ ∀ r ∈ ((take (Int.toNat (w64 (1 + (w64 ((getD a0 0 0))))) - Int.toNat 1) (drop 1 (map b_y a0))) : List (List B)), r.length = 1 := (by exact ⟨(by (obtain ⟨g0, g1, e0, e1, e2, e3, e4, e5, e6, e7, e8, e9⟩ := nums a0 hy0; simp only [decide_eq_true_eq, bne_iff_ne, ne_eq, beq_iff_eq, Decidable.not_not, length_map, length_take, length_drop, bo_size] at *; omega)), (by first | exact lenB_y _ | (intro r hr; exact lenB_y _ r (List.mem_of_mem_drop (List.mem_of_mem_take hr))))⟩)
     have f28 : Ev F X (.call 132 [(.one (.bor (l0_0 + 1) (take (Int.toNat ((length (take (Int.toNat (w64 (1 + (w64 ((getD a0 0 0))))) - Int.toNat 1) (drop 1 (map b_y a0)))) : Int) - Int.toNat (w64 ((w64 (2 + (w64 ((getD (take (Int.toNat (w64 (1 + (w64 ((getD a0 0 0))))) - Int.toNat 1) (drop 1 a0)) 1 0))))) + 4))) (drop (Int.toNat (w64 ((w64 (2 + (w64 ((getD (take (Int.toNat (w64 (1 + (w64 ((getD a0 0 0))))) - Int.toNat 1) (drop 1 a0)) 1 0))))) + 4))) (take (Int.toNat (w64 (1 + (w64 ((getD a0 0 0))))) - Int.toNat 1) (drop 1 (map b_y a0)))))))] [] [] [(.oi (m132 (drop (Int.toNat (w64 ((w64 (2 + (w64 ((getD (take (Int.toNat (w64 (1 + (w64 ((getD a0 0 0))))) - Int.toNat 1) (drop 1 a0)) 1 0))))) + 4))) (take (Int.toNat (w64 (1 + (w64 ((getD a0 0 0))))) - Int.toNat 1) (drop 1 a0)))))]) := (by rw [show (take (Int.toNat ((length (take (Int.toNat (w64 (1 + (w64 ((getD a0 0 0))))) - Int.toNat 1) (drop 1 (map b_y a0)))) : Int) - Int.toNat (w64 ((w64 (2 + (w64 ((getD (take (Int.toNat (w64 (1 + (w64 ((getD a0 0 0))))) - Int.toNat 1) (drop 1 a0)) 1 0))))) + 4))) (drop (Int.toNat (w64 ((w64 (2 + (w64 ((getD (take (Int.toNat (w64 (1 + (w64 ((getD a0 0 0))))) - Int.toNat 1) (drop 1 a0)) 1 0))))) + 4))) (take (Int.toNat (w64 (1 + (w64 ((getD a0 0 0))))) - Int.toNat 1) (drop 1 (map b_y a0))))) = (map b_y (drop (Int.toNat (w64 ((w64 (2 + (w64 ((getD (take (Int.toNat (w64 (1 + (w64 ((getD a0 0 0))))) - Int.toNat 1) (drop 1 a0)) 1 0))))) + 4))) (take (Int.toNat (w64 (1 + (w64 ((getD a0 0 0))))) - Int.toNat 1) (drop 1 a0)))) from by first | rfl | (simp [map_take, map_drop, four_len, high4, high2]; done) | (simp [byteRows_eq, map_take, map_drop, four_len, high4, high2]; done) | (simp [*, map_take, map_drop, four_len, high4, high2]; done) | (rw [take_of_length_le (by simp only [length_drop, length_take, length_map, Int.toNat_natCast]; omega)]; simp only [← map_drop, ← map_take])]; exact (e132 (a0 := (drop (Int.toNat (w64 ((w64 (2 + (w64 ((getD (take (Int.toNat (w64 (1 + (w64 ((getD a0 0 0))))) - Int.toNat 1) (drop 1 a0)) 1 0))))) + 4))) (take (Int.toNat (w64 (1 + (w64 ((getD a0 0 0))))) - Int.toNat 1) (drop 1 a0)))) (by obtain ⟨g0, g1, e0, e1, e2, e3, e4, e5, e6, e7, e8, e9⟩ := nums a0 hy0; simp only [decide_eq_true_eq, bne_iff_ne, ne_eq, beq_iff_eq, Decidable.not_not, length_map, length_take, length_drop, bo_size] at *; omega)))
     have f29 := e64 (a0 := (K_isii.mk (w64 ((getD (take (Int.toNat (w64 (1 + (w64 ((getD a0 0 0))))) - Int.toNat 1) (drop 1 a0)) 0 0))) (bytesOf (take (Int.toNat (w64 (2 + (w64 ((getD (take (Int.toNat (w64 (1 + (w64 ((getD a0 0 0))))) - Int.toNat 1) (drop 1 a0)) 1 0))))) - Int.toNat 2) (drop 2 (take (Int.toNat (w64 (1 + (w64 ((getD a0 0 0))))) - Int.toNat 1) (drop 1 a0))))) (m132 (take (Int.toNat (w64 ((w64 (2 + (w64 ((getD (take (Int.toNat (w64 (1 + (w64 ((getD a0 0 0))))) - Int.toNat 1) (drop 1 a0)) 1 0))))) + 4)) - Int.toNat (w64 (2 + (w64 ((getD (take (Int.toNat (w64 (1 + (w64 ((getD a0 0 0))))) - Int.toNat 1) (drop 1 a0)) 1 0)))))) (drop (Int.toNat (w64 (2 + (w64 ((getD (take (Int.toNat (w64 (1 + (w64 ((getD a0 0 0))))) - Int.toNat 1) (drop 1 a0)) 1 0)))))) (take (Int.toNat (w64 (1 + (w64 ((getD a0 0 0))))) - Int.toNat 1) (drop 1 a0))))) (m132 (drop (Int.toNat (w64 ((w64 (2 + (w64 ((getD (take (Int.toNat (w64 (1 + (w64 ((getD a0 0 0))))) - Int.toNat 1) (drop 1 a0)) 1 0))))) + 4))) (take (Int.toNat (w64 (1 + (w64 ((getD a0 0 0))))) - Int.toNat 1) (drop 1 a0))))))
     by_cases h4 : ((m64 (K_isii.mk (w64 ((getD (take (Int.toNat (w64 (1 + (w64 ((getD a0 0 0))))) - Int.toNat 1) (drop 1 a0)) 0 0))) (bytesOf (take (Int.toNat (w64 (2 + (w64 ((getD (take (Int.toNat (w64 (1 + (w64 ((getD a0 0 0))))) - Int.toNat 1) (drop 1 a0)) 1 0))))) - Int.toNat 2) (drop 2 (take (Int.toNat (w64 (1 + (w64 ((getD a0 0 0))))) - Int.toNat 1) (drop 1 a0))))) (m132 (take (Int.toNat (w64 ((w64 (2 + (w64 ((getD (take (Int.toNat (w64 (1 + (w64 ((getD a0 0 0))))) - Int.toNat 1) (drop 1 a0)) 1 0))))) + 4)) - Int.toNat (w64 (2 + (w64 ((getD (take (Int.toNat (w64 (1 + (w64 ((getD a0 0 0))))) - Int.toNat 1) (drop 1 a0)) 1 0)))))) (drop (Int.toNat (w64 (2 + (w64 ((getD (take (Int.toNat (w64 (1 + (w64 ((getD a0 0 0))))) - Int.toNat 1) (drop 1 a0)) 1 0)))))) (take (Int.toNat (w64 (1 + (w64 ((getD a0 0 0))))) - Int.toNat 1) (drop 1 a0))))) (m132 (drop (Int.toNat (w64 ((w64 (2 + (w64 ((getD (take (Int.toNat (w64 (1 + (w64 ((getD a0 0 0))))) - Int.toNat 1) (drop 1 a0)) 1 0))))) + 4))) (take (Int.toNat (w64 (1 + (w64 ((getD a0 0 0))))) - Int.toNat 1) (drop 1 a0)))))) != 0) = true
     ·try simp only [if_pos h4]
      exact cp (by kernel_rfl) (.g h0 (.f f1 (.f f2 (.m 2 trivial (.n 3 h1 (.g h2 (.m 2 trivial (.f f11 (.f trivial (.f f13 (.f f14 (.f f15 (.m 2 trivial (.g h3 (.f f19 (.f f20 (.f f21 (.f f22 (.f trivial (.f f24 (.z 12 (.h 16 (.row [(.val (.int .u8 (getD a0 0 0)))]) (.z 37 (.z 39 (.z 42 (.z 43 (.h 69 (.row [(.val (.int .u8 (getD (take (Int.toNat (w64 (1 + (w64 ((getD a0 0 0))))) - Int.toNat 1) (drop 1 a0)) 1 0)))]) (.z 86 (.h 90 (.row [(.val (.int .u8 (getD (take (Int.toNat (w64 (1 + (w64 ((getD a0 0 0))))) - Int.toNat 1) (drop 1 a0)) 0 0)))]) (.h 102 (.ints (take (Int.toNat (w64 (2 + (w64 ((getD (take (Int.toNat (w64 (1 + (w64 ((getD a0 0 0))))) - Int.toNat 1) (drop 1 a0)) 1 0))))) - Int.toNat 2) (drop 2 (take (Int.toNat (w64 (1 + (w64 ((getD a0 0 0))))) - Int.toNat 1) (drop 1 a0))))) (.r 114 [] [] f25 (.f trivial (.f f27 (.r 124 [] [] f28 (.r 134 [] [] f29 (.m 6 h4 (.y 139 (.y 141 (.y 143 (.y 145 (.y 147 (.y 150 .nil))))))))))))))))))))))))))))))))))))))))))
     ·try simp only [if_neg h4]
      have f32 := e65 (a0 := (K_isii.mk (w64 ((getD (take (Int.toNat (w64 (1 + (w64 ((getD a0 0 0))))) - Int.toNat 1) (drop 1 a0)) 0 0))) (bytesOf (take (Int.toNat (w64 (2 + (w64 ((getD (take (Int.toNat (w64 (1 + (w64 ((getD a0 0 0))))) - Int.toNat 1) (drop 1 a0)) 1 0))))) - Int.toNat 2) (drop 2 (take (Int.toNat (w64 (1 + (w64 ((getD a0 0 0))))) - Int.toNat 1) (drop 1 a0))))) (m132 (take (Int.toNat (w64 ((w64 (2 + (w64 ((getD (take (Int.toNat (w64 (1 + (w64 ((getD a0 0 0))))) - Int.toNat 1) (drop 1 a0)) 1 0))))) + 4)) - Int.toNat (w64 (2 + (w64 ((getD (take (Int.toNat (w64 (1 + (w64 ((getD a0 0 0))))) - Int.toNat 1) (drop 1 a0)) 1 0)))))) (drop (Int.toNat (w64 (2 + (w64 ((getD (take (Int.toNat (w64 (1 + (w64 ((getD a0 0 0))))) - Int.toNat 1) (drop 1 a0)) 1 0)))))) (take (Int.toNat (w64 (1 + (w64 ((getD a0 0 0))))) - Int.toNat 1) (drop 1 a0))))) (m132 (drop (Int.toNat (w64 ((w64 (2 + (w64 ((getD (take (Int.toNat (w64 (1 + (w64 ((getD a0 0 0))))) - Int.toNat 1) (drop 1 a0)) 1 0))))) + 4))) (take (Int.toNat (w64 (1 + (w64 ((getD a0 0 0))))) - Int.toNat 1) (drop 1 a0)))))) (by obtain ⟨g0, g1, e0, e1, e2, e3, e4, e5, e6, e7, e8, e9⟩ := nums a0 hy0; simp only [decide_eq_true_eq, bne_iff_ne, ne_eq, beq_iff_eq, Decidable.not_not, length_map, length_take, length_drop, bo_size] at *; omega)
      have f35 : 0 + (length (map d_y (m65 (K_isii.mk (w64 ((getD (take (Int.toNat (w64 (1 + (w64 ((getD a0 0 0))))) - Int.toNat 1) (drop 1 a0)) 0 0))) (bytesOf (take (Int.toNat (w64 (2 + (w64 ((getD (take (Int.toNat (w64 (1 + (w64 ((getD a0 0 0))))) - Int.toNat 1) (drop 1 a0)) 1 0))))) - Int.toNat 2) (drop 2 (take (Int.toNat (w64 (1 + (w64 ((getD a0 0 0))))) - Int.toNat 1) (drop 1 a0))))) (m132 (take (Int.toNat (w64 ((w64 (2 + (w64 ((getD (take (Int.toNat (w64 (1 + (w64 ((getD a0 0 0))))) - Int.toNat 1) (drop 1 a0)) 1 0))))) + 4)) - Int.toNat (w64 (2 + (w64 ((getD (take (Int.toNat (w64 (1 + (w64 ((getD a0 0 0))))) - Int.toNat 1) (drop 1 a0)) 1 0)))))) (drop (Int.toNat (w64 (2 + (w64 ((getD (take (Int.toNat (w64 (1 + (w64 ((getD a0 0 0))))) - Int.toNat 1) (drop 1 a0)) 1 0)))))) (take (Int.toNat (w64 (1 + (w64 ((getD a0 0 0))))) - Int.toNat 1) (drop 1 a0))))) (m132 (drop (Int.toNat (w64 ((w64 (2 + (w64 ((getD (take (Int.toNat (w64 (1 + (w64 ((getD a0 0 0))))) - Int.toNat 1) (drop 1 a0)) 1 0))))) + 4))) (take (Int.toNat (w64 (1 + (w64 ((getD a0 0 0))))) - Int.toNat 1) (drop 1 a0)))))))) ≤ (length (map d_y (m65 (K_isii.mk (w64 ((getD (take (Int.toNat (w64 (1 + (w64 ((getD a0 0 0))))) - Int.toNat 1) (drop 1 a0)) 0 0))) (bytesOf (take (Int.toNat (w64 (2 + (w64 ((getD (take (Int.toNat (w64 (1 + (w64 ((getD a0 0 0))))) - Int.toNat 1) (drop 1 a0)) 1 0))))) - Int.toNat 2) (drop 2 (take (Int.toNat (w64 (1 + (w64 ((getD a0 0 0))))) - Int.toNat 1) (drop 1 a0))))) (m132 (take (Int.toNat (w64 ((w64 (2 + (w64 ((getD (take (Int.toNat (w64 (1 + (w64 ((getD a0 0 0))))) - Int.toNat 1) (drop 1 a0)) 1 0))))) + 4)) - Int.toNat (w64 (2 + (w64 ((getD (take (Int.toNat (w64 (1 + (w64 ((getD a0 0 0))))) - Int.toNat 1) (drop 1 a0)) 1 0)))))) (drop (Int.toNat (w64 (2 + (w64 ((getD (take (Int.toNat (w64 (1 + (w64 ((getD a0 0 0))))) - Int.toNat 1) (drop 1 a0)) 1 0)))))) (take (Int.toNat (w64 (1 + (w64 ((getD a0 0 0))))) - Int.toNat 1) (drop 1 a0))))) (m132 (drop (Int.toNat (w64 ((w64 (2 + (w64 ((getD (take (Int.toNat (w64 (1 + (w64 ((getD a0 0 0))))) - Int.toNat 1) (drop 1 a0)) 1 0))))) + 4))) (take (Int.toNat (w64 (1 + (w64 ((getD a0 0 0))))) - Int.toNat 1) (drop 1 a0)))))))) := (by omega)
      have f36 : fullR (take (length (map d_y (m65 (K_isii.mk (w64 ((getD (take (Int.toNat (w64 (1 + (w64 ((getD a0 0 0))))) - Int.toNat 1) (drop 1 a0)) 0 0))) (bytesOf (take (Int.toNat (w64 (2 + (w64 ((getD (take (Int.toNat (w64 (1 + (w64 ((getD a0 0 0))))) - Int.toNat 1) (drop 1 a0)) 1 0))))) - Int.toNat 2) (drop 2 (take (Int.toNat (w64 (1 + (w64 ((getD a0 0 0))))) - Int.toNat 1) (drop 1 a0))))) (m132 (take (Int.toNat (w64 ((w64 (2 + (w64 ((getD (take (Int.toNat (w64 (1 + (w64 ((getD a0 0 0))))) - Int.toNat 1) (drop 1 a0)) 1 0))))) + 4)) - Int.toNat (w64 (2 + (w64 ((getD (take (Int.toNat (w64 (1 + (w64 ((getD a0 0 0))))) - Int.toNat 1) (drop 1 a0)) 1 0)))))) (drop (Int.toNat (w64 (2 + (w64 ((getD (take (Int.toNat (w64 (1 + (w64 ((getD a0 0 0))))) - Int.toNat 1) (drop 1 a0)) 1 0)))))) (take (Int.toNat (w64 (1 + (w64 ((getD a0 0 0))))) - Int.toNat 1) (drop 1 a0))))) (m132 (drop (Int.toNat (w64 ((w64 (2 + (w64 ((getD (take (Int.toNat (w64 (1 + (w64 ((getD a0 0 0))))) - Int.toNat 1) (drop 1 a0)) 1 0))))) + 4))) (take (Int.toNat (w64 (1 + (w64 ((getD a0 0 0))))) - Int.toNat 1) (drop 1 a0)))))))) (drop 0 (map d_y (m65 (K_isii.mk (w64 ((getD (take (Int.toNat (w64 (1 + (w64 ((getD a0 0 0))))) - Int.toNat 1) (drop 1 a0)) 0 0))) (bytesOf (take (Int.toNat (w64 (2 + (w64 ((getD (take (Int.toNat (w64 (1 + (w64 ((getD a0 0 0))))) - Int.toNat 1) (drop 1 a0)) 1 0))))) - Int.toNat 2) (drop 2 (take (Int.toNat (w64 (1 + (w64 ((getD a0 0 0))))) - Int.toNat 1) (drop 1 a0))))) (m132 (take (Int.toNat (w64 ((w64 (2 + (w64 ((getD (take (Int.toNat (w64 (1 + (w64 ((getD a0 0 0))))) - Int.toNat 1) (drop 1 a0)) 1 0))))) + 4)) - Int.toNat (w64 (2 + (w64 ((getD (take (Int.toNat (w64 (1 + (w64 ((getD a0 0 0))))) - Int.toNat 1) (drop 1 a0)) 1 0)))))) (drop (Int.toNat (w64 (2 + (w64 ((getD (take (Int.toNat (w64 (1 + (w64 ((getD a0 0 0))))) - Int.toNat 1) (drop 1 a0)) 1 0)))))) (take (Int.toNat (w64 (1 + (w64 ((getD a0 0 0))))) - Int.toNat 1) (drop 1 a0))))) (m132 (drop (Int.toNat (w64 ((w64 (2 + (w64 ((getD (take (Int.toNat (w64 (1 + (w64 ((getD a0 0 0))))) - Int.toNat 1) (drop 1 a0)) 1 0))))) + 4))) (take (Int.toNat (w64 (1 + (w64 ((getD a0 0 0))))) - Int.toNat 1) (drop 1 a0))))))))) = true := (ft_y _ _ _)
      have f37 : toBR (take (length (map d_y (m65 (K_isii.mk (w64 ((getD (take (Int.toNat (w64 (1 + (w64 ((getD a0 0 0))))) - Int.toNat 1) (drop 1 a0)) 0 0))) (bytesOf (take (Int.toNat (w64 (2 + (w64 ((getD (take (Int.toNat (w64 (1 + (w64 ((getD a0 0 0))))) - Int.toNat 1) (drop 1 a0)) 1 0))))) - Int.toNat 2) (drop 2 (take (Int.toNat (w64 (1 + (w64 ((getD a0 0 0))))) - Int.toNat 1) (drop 1 a0))))) (m132 (take (Int.toNat (w64 ((w64 (2 + (w64 ((getD (take (Int.toNat (w64 (1 + (w64 ((getD a0 0 0))))) - Int.toNat 1) (drop 1 a0)) 1 0))))) + 4)) - Int.toNat (w64 (2 + (w64 ((getD (take (Int.toNat (w64 (1 + (w64 ((getD a0 0 0))))) - Int.toNat 1) (drop 1 a0)) 1 0)))))) (drop (Int.toNat (w64 (2 + (w64 ((getD (take (Int.toNat (w64 (1 + (w64 ((getD a0 0 0))))) - Int.toNat 1) (drop 1 a0)) 1 0)))))) (take (Int.toNat (w64 (1 + (w64 ((getD a0 0 0))))) - Int.toNat 1) (drop 1 a0))))) (m132 (drop (Int.toNat (w64 ((w64 (2 + (w64 ((getD (take (Int.toNat (w64 (1 + (w64 ((getD a0 0 0))))) - Int.toNat 1) (drop 1 a0)) 1 0))))) + 4))) (take (Int.toNat (w64 (1 + (w64 ((getD a0 0 0))))) - Int.toNat 1) (drop 1 a0)))))))) (drop 0 (map d_y (m65 (K_isii.mk (w64 ((getD (take (Int.toNat (w64 (1 + (w64 ((getD a0 0 0))))) - Int.toNat 1) (drop 1 a0)) 0 0))) (bytesOf (take (Int.toNat (w64 (2 + (w64 ((getD (take (Int.toNat (w64 (1 + (w64 ((getD a0 0 0))))) - Int.toNat 1) (drop 1 a0)) 1 0))))) - Int.toNat 2) (drop 2 (take (Int.toNat (w64 (1 + (w64 ((getD a0 0 0))))) - Int.toNat 1) (drop 1 a0))))) (m132 (take (Int.toNat (w64 ((w64 (2 + (w64 ((getD (take (Int.toNat (w64 (1 + (w64 ((getD a0 0 0))))) - Int.toNat 1) (drop 1 a0)) 1 0))))) + 4)) - Int.toNat (w64 (2 + (w64 ((getD (take (Int.toNat (w64 (1 + (w64 ((getD a0 0 0))))) - Int.toNat 1) (drop 1 a0)) 1 0)))))) (drop (Int.toNat (w64 (2 + (w64 ((getD (take (Int.toNat (w64 (1 + (w64 ((getD a0 0 0))))) - Int.toNat 1) (drop 1 a0)) 1 0)))))) (take (Int.toNat (w64 (1 + (w64 ((getD a0 0 0))))) - Int.toNat 1) (drop 1 a0))))) (m132 (drop (Int.toNat (w64 ((w64 (2 + (w64 ((getD (take (Int.toNat (w64 (1 + (w64 ((getD a0 0 0))))) - Int.toNat 1) (drop 1 a0)) 1 0))))) + 4))) (take (Int.toNat (w64 (1 + (w64 ((getD a0 0 0))))) - Int.toNat 1) (drop 1 a0))))))))) = (map b_y (m65 (K_isii.mk (w64 ((getD (take (Int.toNat (w64 (1 + (w64 ((getD a0 0 0))))) - Int.toNat 1) (drop 1 a0)) 0 0))) (bytesOf (take (Int.toNat (w64 (2 + (w64 ((getD (take (Int.toNat (w64 (1 + (w64 ((getD a0 0 0))))) - Int.toNat 1) (drop 1 a0)) 1 0))))) - Int.toNat 2) (drop 2 (take (Int.toNat (w64 (1 + (w64 ((getD a0 0 0))))) - Int.toNat 1) (drop 1 a0))))) (m132 (take (Int.toNat (w64 ((w64 (2 + (w64 ((getD (take (Int.toNat (w64 (1 + (w64 ((getD a0 0 0))))) - Int.toNat 1) (drop 1 a0)) 1 0))))) + 4)) - Int.toNat (w64 (2 + (w64 ((getD (take (Int.toNat (w64 (1 + (w64 ((getD a0 0 0))))) - Int.toNat 1) (drop 1 a0)) 1 0)))))) (drop (Int.toNat (w64 (2 + (w64 ((getD (take (Int.toNat (w64 (1 + (w64 ((getD a0 0 0))))) - Int.toNat 1) (drop 1 a0)) 1 0)))))) (take (Int.toNat (w64 (1 + (w64 ((getD a0 0 0))))) - Int.toNat 1) (drop 1 a0))))) (m132 (drop (Int.toNat (w64 ((w64 (2 + (w64 ((getD (take (Int.toNat (w64 (1 + (w64 ((getD a0 0 0))))) - Int.toNat 1) (drop 1 a0)) 1 0))))) + 4))) (take (Int.toNat (w64 (1 + (w64 ((getD a0 0 0))))) - Int.toNat 1) (drop 1 a0))))))) := (tb_y _)
      have f38 : Ev F X (.call 133 [(.one (.bor 0 (map b_y (m65 (K_isii.mk (w64 ((getD (take (Int.toNat (w64 (1 + (w64 ((getD a0 0 0))))) - Int.toNat 1) (drop 1 a0)) 0 0))) (bytesOf (take (Int.toNat (w64 (2 + (w64 ((getD (take (Int.toNat (w64 (1 + (w64 ((getD a0 0 0))))) - Int.toNat 1) (drop 1 a0)) 1 0))))) - Int.toNat 2) (drop 2 (take (Int.toNat (w64 (1 + (w64 ((getD a0 0 0))))) - Int.toNat 1) (drop 1 a0))))) (m132 (take (Int.toNat (w64 ((w64 (2 + (w64 ((getD (take (Int.toNat (w64 (1 + (w64 ((getD a0 0 0))))) - Int.toNat 1) (drop 1 a0)) 1 0))))) + 4)) - Int.toNat (w64 (2 + (w64 ((getD (take (Int.toNat (w64 (1 + (w64 ((getD a0 0 0))))) - Int.toNat 1) (drop 1 a0)) 1 0)))))) (drop (Int.toNat (w64 (2 + (w64 ((getD (take (Int.toNat (w64 (1 + (w64 ((getD a0 0 0))))) - Int.toNat 1) (drop 1 a0)) 1 0)))))) (take (Int.toNat (w64 (1 + (w64 ((getD a0 0 0))))) - Int.toNat 1) (drop 1 a0))))) (m132 (drop (Int.toNat (w64 ((w64 (2 + (w64 ((getD (take (Int.toNat (w64 (1 + (w64 ((getD a0 0 0))))) - Int.toNat 1) (drop 1 a0)) 1 0))))) + 4))) (take (Int.toNat (w64 (1 + (w64 ((getD a0 0 0))))) - Int.toNat 1) (drop 1 a0))))))))), (.one (.bor (l0_0 + 1) (take (Int.toNat (w64 ((w64 (1 + (w64 ((getD a0 0 0))))) + 2)) - Int.toNat 0) (drop 0 (map b_y a0)))))] [] [] [(.one (.val (.bool ((bytesOf (m65 (K_isii.mk (w64 ((getD (take (Int.toNat (w64 (1 + (w64 ((getD a0 0 0))))) - Int.toNat 1) (drop 1 a0)) 0 0))) (bytesOf (take (Int.toNat (w64 (2 + (w64 ((getD (take (Int.toNat (w64 (1 + (w64 ((getD a0 0 0))))) - Int.toNat 1) (drop 1 a0)) 1 0))))) - Int.toNat 2) (drop 2 (take (Int.toNat (w64 (1 + (w64 ((getD a0 0 0))))) - Int.toNat 1) (drop 1 a0))))) (m132 (take (Int.toNat (w64 ((w64 (2 + (w64 ((getD (take (Int.toNat (w64 (1 + (w64 ((getD a0 0 0))))) - Int.toNat 1) (drop 1 a0)) 1 0))))) + 4)) - Int.toNat (w64 (2 + (w64 ((getD (take (Int.toNat (w64 (1 + (w64 ((getD a0 0 0))))) - Int.toNat 1) (drop 1 a0)) 1 0)))))) (drop (Int.toNat (w64 (2 + (w64 ((getD (take (Int.toNat (w64 (1 + (w64 ((getD a0 0 0))))) - Int.toNat 1) (drop 1 a0)) 1 0)))))) (take (Int.toNat (w64 (1 + (w64 ((getD a0 0 0))))) - Int.toNat 1) (drop 1 a0))))) (m132 (drop (Int.toNat (w64 ((w64 (2 + (w64 ((getD (take (Int.toNat (w64 (1 + (w64 ((getD a0 0 0))))) - Int.toNat 1) (drop 1 a0)) 1 0))))) + 4))) (take (Int.toNat (w64 (1 + (w64 ((getD a0 0 0))))) - Int.toNat 1) (drop 1 a0))))))).toList == (bytesOf (take (Int.toNat (w64 ((w64 (1 + (w64 ((getD a0 0 0))))) + 2))) a0)).toList))))]) := (by rw [show (take (Int.toNat (w64 ((w64 (1 + (w64 ((getD a0 0 0))))) + 2)) - Int.toNat 0) (drop 0 (map b_y a0))) = (map b_y (take (Int.toNat (w64 ((w64 (1 + (w64 ((getD a0 0 0))))) + 2))) a0)) from by first | rfl | (simp [map_take, map_drop, four_len, high4, high2]; done) | (simp [byteRows_eq, map_take, map_drop, four_len, high4, high2]; done) | (simp [*, map_take, map_drop, four_len, high4, high2]; done) | (rw [take_of_length_le (by simp only [length_drop, length_take, length_map, Int.toNat_natCast]; omega)]; simp only [← map_drop, ← map_take])]; exact (e133 (a0 := (m65 (K_isii.mk (w64 ((getD (take (Int.toNat (w64 (1 + (w64 ((getD a0 0 0))))) - Int.toNat 1) (drop 1 a0)) 0 0))) (bytesOf (take (Int.toNat (w64 (2 + (w64 ((getD (take (Int.toNat (w64 (1 + (w64 ((getD a0 0 0))))) - Int.toNat 1) (drop 1 a0)) 1 0))))) - Int.toNat 2) (drop 2 (take (Int.toNat (w64 (1 + (w64 ((getD a0 0 0))))) - Int.toNat 1) (drop 1 a0))))) (m132 (take (Int.toNat (w64 ((w64 (2 + (w64 ((getD (take (Int.toNat (w64 (1 + (w64 ((getD a0 0 0))))) - Int.toNat 1) (drop 1 a0)) 1 0))))) + 4)) - Int.toNat (w64 (2 + (w64 ((getD (take (Int.toNat (w64 (1 + (w64 ((getD a0 0 0))))) - Int.toNat 1) (drop 1 a0)) 1 0)))))) (drop (Int.toNat (w64 (2 + (w64 ((getD (take (Int.toNat (w64 (1 + (w64 ((getD a0 0 0))))) - Int.toNat 1) (drop 1 a0)) 1 0)))))) (take (Int.toNat (w64 (1 + (w64 ((getD a0 0 0))))) - Int.toNat 1) (drop 1 a0))))) (m132 (drop (Int.toNat (w64 ((w64 (2 + (w64 ((getD (take (Int.toNat (w64 (1 + (w64 ((getD a0 0 0))))) - Int.toNat 1) (drop 1 a0)) 1 0))))) + 4))) (take (Int.toNat (w64 (1 + (w64 ((getD a0 0 0))))) - Int.toNat 1) (drop 1 a0))))))) (a1 := (take (Int.toNat (w64 ((w64 (1 + (w64 ((getD a0 0 0))))) + 2))) a0))))
      by_cases h5 : (!((bytesOf (m65 (K_isii.mk (w64 ((getD (take (Int.toNat (w64 (1 + (w64 ((getD a0 0 0))))) - Int.toNat 1) (drop 1 a0)) 0 0))) (bytesOf (take (Int.toNat (w64 (2 + (w64 ((getD (take (Int.toNat (w64 (1 + (w64 ((getD a0 0 0))))) - Int.toNat 1) (drop 1 a0)) 1 0))))) - Int.toNat 2) (drop 2 (take (Int.toNat (w64 (1 + (w64 ((getD a0 0 0))))) - Int.toNat 1) (drop 1 a0))))) (m132 (take (Int.toNat (w64 ((w64 (2 + (w64 ((getD (take (Int.toNat (w64 (1 + (w64 ((getD a0 0 0))))) - Int.toNat 1) (drop 1 a0)) 1 0))))) + 4)) - Int.toNat (w64 (2 + (w64 ((getD (take (Int.toNat (w64 (1 + (w64 ((getD a0 0 0))))) - Int.toNat 1) (drop 1 a0)) 1 0)))))) (drop (Int.toNat (w64 (2 + (w64 ((getD (take (Int.toNat (w64 (1 + (w64 ((getD a0 0 0))))) - Int.toNat 1) (drop 1 a0)) 1 0)))))) (take (Int.toNat (w64 (1 + (w64 ((getD a0 0 0))))) - Int.toNat 1) (drop 1 a0))))) (m132 (drop (Int.toNat (w64 ((w64 (2 + (w64 ((getD (take (Int.toNat (w64 (1 + (w64 ((getD a0 0 0))))) - Int.toNat 1) (drop 1 a0)) 1 0))))) + 4))) (take (Int.toNat (w64 (1 + (w64 ((getD a0 0 0))))) - Int.toNat 1) (drop 1 a0))))))).toList == (bytesOf (take (Int.toNat (w64 ((w64 (1 + (w64 ((getD a0 0 0))))) + 2))) a0)).toList)) = true
      ·try simp only [if_pos h5]
       exact cp (by kernel_rfl) (.g h0 (.f f1 (.f f2 (.m 2 trivial (.n 3 h1 (.g h2 (.m 2 trivial (.f f11 (.f trivial (.f f13 (.f f14 (.f f15 (.m 2 trivial (.g h3 (.f f19 (.f f20 (.f f21 (.f f22 (.f trivial (.f f24 (.z 12 (.h 16 (.row [(.val (.int .u8 (getD a0 0 0)))]) (.z 37 (.z 39 (.z 42 (.z 43 (.h 69 (.row [(.val (.int .u8 (getD (take (Int.toNat (w64 (1 + (w64 ((getD a0 0 0))))) - Int.toNat 1) (drop 1 a0)) 1 0)))]) (.z 86 (.h 90 (.row [(.val (.int .u8 (getD (take (Int.toNat (w64 (1 + (w64 ((getD a0 0 0))))) - Int.toNat 1) (drop 1 a0)) 0 0)))]) (.h 102 (.ints (take (Int.toNat (w64 (2 + (w64 ((getD (take (Int.toNat (w64 (1 + (w64 ((getD a0 0 0))))) - Int.toNat 1) (drop 1 a0)) 1 0))))) - Int.toNat 2) (drop 2 (take (Int.toNat (w64 (1 + (w64 ((getD a0 0 0))))) - Int.toNat 1) (drop 1 a0))))) (.r 114 [] [] f25 (.f trivial (.f f27 (.r 124 [] [] f28 (.r 134 [] [] f29 (.n 2 h4 (.z 139 (.z 141 (.r 142 [] [] f32 (.n 2 h4 (.f f35 (.f f36 (.f f37 (.z 143 (.z 145 (.r 146 [] [(map b_y (m65 (K_isii.mk (w64 ((getD (take (Int.toNat (w64 (1 + (w64 ((getD a0 0 0))))) - Int.toNat 1) (drop 1 a0)) 0 0))) (bytesOf (take (Int.toNat (w64 (2 + (w64 ((getD (take (Int.toNat (w64 (1 + (w64 ((getD a0 0 0))))) - Int.toNat 1) (drop 1 a0)) 1 0))))) - Int.toNat 2) (drop 2 (take (Int.toNat (w64 (1 + (w64 ((getD a0 0 0))))) - Int.toNat 1) (drop 1 a0))))) (m132 (take (Int.toNat (w64 ((w64 (2 + (w64 ((getD (take (Int.toNat (w64 (1 + (w64 ((getD a0 0 0))))) - Int.toNat 1) (drop 1 a0)) 1 0))))) + 4)) - Int.toNat (w64 (2 + (w64 ((getD (take (Int.toNat (w64 (1 + (w64 ((getD a0 0 0))))) - Int.toNat 1) (drop 1 a0)) 1 0)))))) (drop (Int.toNat (w64 (2 + (w64 ((getD (take (Int.toNat (w64 (1 + (w64 ((getD a0 0 0))))) - Int.toNat 1) (drop 1 a0)) 1 0)))))) (take (Int.toNat (w64 (1 + (w64 ((getD a0 0 0))))) - Int.toNat 1) (drop 1 a0))))) (m132 (drop (Int.toNat (w64 ((w64 (2 + (w64 ((getD (take (Int.toNat (w64 (1 + (w64 ((getD a0 0 0))))) - Int.toNat 1) (drop 1 a0)) 1 0))))) + 4))) (take (Int.toNat (w64 (1 + (w64 ((getD a0 0 0))))) - Int.toNat 1) (drop 1 a0)))))))] f38 (.n 2 h4 (.f h5 (.z 147 (.z 150 (.y 151 .nil)))))))))))))))))))))))))))))))))))))))))))))))))))
      ·try simp only [if_neg h5]
       exact cp (by kernel_rfl) (.g h0 (.f f1 (.f f2 (.m 2 trivial (.n 3 h1 (.g h2 (.m 2 trivial (.f f11 (.f trivial (.f f13 (.f f14 (.f f15 (.m 2 trivial (.g h3 (.f f19 (.f f20 (.f f21 (.f f22 (.f trivial (.f f24 (.z 12 (.h 16 (.row [(.val (.int .u8 (getD a0 0 0)))]) (.z 37 (.z 39 (.z 42 (.z 43 (.h 69 (.row [(.val (.int .u8 (getD (take (Int.toNat (w64 (1 + (w64 ((getD a0 0 0))))) - Int.toNat 1) (drop 1 a0)) 1 0)))]) (.z 86 (.h 90 (.row [(.val (.int .u8 (getD (take (Int.toNat (w64 (1 + (w64 ((getD a0 0 0))))) - Int.toNat 1) (drop 1 a0)) 0 0)))]) (.h 102 (.ints (take (Int.toNat (w64 (2 + (w64 ((getD (take (Int.toNat (w64 (1 + (w64 ((getD a0 0 0))))) - Int.toNat 1) (drop 1 a0)) 1 0))))) - Int.toNat 2) (drop 2 (take (Int.toNat (w64 (1 + (w64 ((getD a0 0 0))))) - Int.toNat 1) (drop 1 a0))))) (.r 114 [] [] f25 (.f trivial (.f f27 (.r 124 [] [] f28 (.r 134 [] [] f29 (.n 2 h4 (.z 139 (.z 141 (.r 142 [] [] f32 (.n 2 h4 (.f f35 (.f f36 (.f f37 (.z 143 (.z 145 (.r 146 [] [(map b_y (m65 (K_isii.mk (w64 ((getD (take (Int.toNat (w64 (1 + (w64 ((getD a0 0 0))))) - Int.toNat 1) (drop 1 a0)) 0 0))) (bytesOf (take (Int.toNat (w64 (2 + (w64 ((getD (take (Int.toNat (w64 (1 + (w64 ((getD a0 0 0))))) - Int.toNat 1) (drop 1 a0)) 1 0))))) - Int.toNat 2) (drop 2 (take (Int.toNat (w64 (1 + (w64 ((getD a0 0 0))))) - Int.toNat 1) (drop 1 a0))))) (m132 (take (Int.toNat (w64 ((w64 (2 + (w64 ((getD (take (Int.toNat (w64 (1 + (w64 ((getD a0 0 0))))) - Int.toNat 1) (drop 1 a0)) 1 0))))) + 4)) - Int.toNat (w64 (2 + (w64 ((getD (take (Int.toNat (w64 (1 + (w64 ((getD a0 0 0))))) - Int.toNat 1) (drop 1 a0)) 1 0)))))) (drop (Int.toNat (w64 (2 + (w64 ((getD (take (Int.toNat (w64 (1 + (w64 ((getD a0 0 0))))) - Int.toNat 1) (drop 1 a0)) 1 0)))))) (take (Int.toNat (w64 (1 + (w64 ((getD a0 0 0))))) - Int.toNat 1) (drop 1 a0))))) (m132 (drop (Int.toNat (w64 ((w64 (2 + (w64 ((getD (take (Int.toNat (w64 (1 + (w64 ((getD a0 0 0))))) - Int.toNat 1) (drop 1 a0)) 1 0))))) + 4))) (take (Int.toNat (w64 (1 + (w64 ((getD a0 0 0))))) - Int.toNat 1) (drop 1 a0)))))))] f38 (.n 2 h4 (.g h5 (.z 147 (.z 150 (.z 151 .nil)))))))))))))))))))))))))))))))))))))))))))))))))))
theorem re_ok {d : List Int} (hy0 : ∀ z ∈ d, (0 : Int) ≤ z ∧ z ≤ 255) (h : ¬ (!(m85_2 d)) = true) : 13 ≤ m85_1 d ∧ m85_1 d ≤ (length d : Int) ∧ ByteArray.size (m85_0 d).f1 ≤ 255 := by
 have h : m85_2 d = true := by simpa using h
 unfold m85_2 at h
 unfold m85_0 m85_1
 split at h
 ·cases h
 rename_i h0; rw [if_neg h0, if_neg h0]
 split at h
 ·cases h
 rename_i h1; rw [if_neg h1, if_neg h1]
 split at h
 ·cases h
 rename_i h2; rw [if_neg h2, if_neg h2]
 split at h
 ·cases h
 rename_i h3; rw [if_neg h3, if_neg h3]
 split at h
 ·cases h
 rename_i h4; rw [if_neg h4, if_neg h4]
 split at h
 ·cases h
 rename_i h5; rw [if_neg h5, if_neg h5]
 clear h h4 h5
 obtain ⟨g0, g1, e0, e1, e2, e3, e4, e5, e6, e7, e8, e9⟩ := nums d hy0
 simp only [decide_eq_true_eq, bne_iff_ne, ne_eq, beq_iff_eq, Decidable.not_not, length_map, length_take, length_drop, bo_size] at *
 omega
inductive O38_0 where
 | k0 (w0 : Int) (w1 : List K_isii)
def r38_0  : Nat → Int → List K_isii → List Int → O38_0
 | n + 1, v0, v1, v2 =>
  if (!(m85_2 v2)) = true then (O38_0.k0 v0 v1) else
  (r38_0 n (w64 (v0 + (m85_1 v2))) (v1 ++ ([(m85_0 v2)])) (drop (Int.toNat (m85_1 v2)) v2))
 | 0, v0, v1, v2 => (O38_0.k0 v0 v1)
def h38_0 (l0_0 : Nat) (a0 : (List Int)) (v0 : Int) (v1 : List K_isii) (v2 : List Int) : St := ⟨[(0, (.one (.bor l0_0 (map b_y v2)))), (2, (.ptr ⟨(2, 0, 0), [], 0, 0, 3⟩)), (3, (.ptr ⟨(3, 0, 0), [], 0, 0, 3⟩))], [((2, 0, 0), .live ⟨3, [[(.val (.int .i64 0)), (.val (.int .i64 0)), (.own 4 [])]], []⟩), ((3, 0, 0), .live ⟨3, [[(.val (.int .i64 0)), (.val (.int .i64 v0)), (.own 4 (map d_isii v1))]], []⟩)]⟩
def ex38_0 : O38_0 → VX.Exit
 | .k0 _ _ => .ret
def fin38_0 (l0_0 : Nat) (a0 : (List Int)) : O38_0 → St
 | .k0 w0 w1 => ⟨[(2, (.ptr ⟨(2, 0, 0), [], 0, 0, 3⟩))], [((2, 0, 0), .live ⟨3, [[(.val (.int .i64 0)), (.val (.int .i64 w0)), (.own 4 (map d_isii w1))]], []⟩)]⟩
theorem t38_0 {l0_0 : Nat} {a0 : (List Int)} (hy0 : ∀ z ∈ a0, (0 : Int) ≤ z ∧ z ≤ 255) (hy1 : length a0 ≤ 140737488351232) : ∀ (n : Nat) (v0 : Int) (v1 : List K_isii) (v2 : List Int), 0 ≤ v0 → v0 + (length v2 : Int) ≤ 1200 → (length v1 : Int) ≤ v0 → (∀ z ∈ v1, ByteArray.size z.f1 ≤ 255) → (∀ z ∈ v2, (0 : Int) ≤ z ∧ z ≤ 255) → length v2 ≤ n → Ev F X (.code l38_0 (h38_0 l0_0 a0 v0 v1 v2) (ex38_0 (r38_0 n v0 v1 v2)) (fin38_0 l0_0 a0 (r38_0 n v0 v1 v2)))
 | 0, v0, v1, v2, hi0, hi1, hi2, hi3, hi4, hn => by
  have f0 := e85 (l0_0 := l0_0 + 1) (a0 := v2) (by with_reducible assumption) (by omega)
  have hc : (!(m85_2 v2)) = true := by first | (rw [show v2 = [] from List.eq_nil_of_length_eq_zero (by omega)]; rfl) | (exact fuel64_zero hn) | (simp only [decide_eq_true_eq] at *; omega) | (simp at *; omega)
  have st := codeP_ok (F := F) (X := X) (c := b38_0) (t := 0) (σ := h38_0 l0_0 a0 v0 v1 v2) (σ' := ⟨[(2, (.ptr ⟨(2, 0, 0), [], 0, 0, 3⟩))], [((2, 0, 0), .live ⟨3, [[(.i 0), (.i v0), (.own 4 (map d_isii v1))]], []⟩)]⟩) (e := .ret) (t' := 29) (by kernel_rfl) (.r 3 [] [] f0 (.f hc (.e 0 (.e (length (map d_isii v1)) (.y 24 .nil)))))
  replace st := to_ (s' := fin38_0 l0_0 a0 (.k0 v0 v1)) st (by rfl)
  exact .loopX st (show (.ret : VX.Exit) ≠ .normal from by simp)
 | n + 1, v0, v1, v2, hi0, hi1, hi2, hi3, hi4, hn => by
  simp only [r38_0]
  have f0 := e85 (l0_0 := l0_0 + 1) (a0 := v2) (by with_reducible assumption) (by omega)
  by_cases h_0 : (!(m85_2 v2)) = true
  ·try simp only [if_pos h_0]
   have st := codeP_ok (F := F) (X := X) (c := b38_0) (t := 0) (σ := h38_0 l0_0 a0 v0 v1 v2) (σ' := ⟨[(2, (.ptr ⟨(2, 0, 0), [], 0, 0, 3⟩))], [((2, 0, 0), .live ⟨3, [[(.i 0), (.i v0), (.own 4 (map d_isii v1))]], []⟩)]⟩) (e := .ret) (t' := 29) (by kernel_rfl) (.r 3 [] [] f0 (.f h_0 (.e 0 (.e (length (map d_isii v1)) (.y 24 .nil)))))
   replace st := to_ (s' := fin38_0 l0_0 a0 (.k0 v0 v1)) st (by rfl)
   exact .loopX st (show (.ret : VX.Exit) ≠ .normal from by simp)
  ·try simp only [if_neg h_0]
   have f2 : 0 + (length (map d_isii v1)) ≤ (length (map d_isii v1)) := (by omega)
   have f3 : 1 ≤ 1 := (by omega)
   have f4 : ((take 1 (drop 0 [[(.val (.int .i64 ((m85_0 v2).f0))), (.val (.string ((m85_0 v2).f1))), (.val (.int .i64 ((m85_0 v2).f2))), (.val (.int .i64 ((m85_0 v2).f3)))]])).all fun x => x.all copyable) = true := (by exact (rfl : (true : Bool) = true))
   have f5 : (length ((take (length (map d_isii v1)) (drop 0 (map d_isii v1))) ++ ([[(.val (.int .i64 ((m85_0 v2).f0))), (.val (.string ((m85_0 v2).f1))), (.val (.int .i64 ((m85_0 v2).f2))), (.val (.int .i64 ((m85_0 v2).f3)))]] : List (List D)))) * 40 ≤ 70368744177664 := (by have q := re_ok (d := v2) (by assumption) (by assumption); simp only [length_map, length_append, length_cons, length_nil, length_take, length_drop]; omega)
   have f6 : ∀ r ∈ ([[(.val (.int .i64 ((m85_0 v2).f0))), (.val (.string ((m85_0 v2).f1))), (.val (.int .i64 ((m85_0 v2).f2))), (.val (.int .i64 ((m85_0 v2).f3)))]] : List (List D)), r.length = 4 := (by intro r hr; rw [List.mem_singleton.1 hr]; rfl)
   have f8 : (0 ≤ (m85_1 v2) ∧ (m85_1 v2) ≤ ((length (map b_y v2)) : Int) ∧ ((length (map b_y v2)) : Int) ≤ ((length (map b_y v2)) : Int)) ∧ ∀ r ∈ ((map b_y v2) : List (List B)), r.length = 1 := (by exact ⟨(by have q := re_ok (d := v2) (by assumption) (by assumption); simp only [length_map]; omega), (by exact lenB_y _)⟩)
   have f11 : ([[(.val (.int .i64 0)), (.val (.int .i64 (w64 (v0 + (m85_1 v2))))), (.own 4 ((take (length (map d_isii v1)) (drop 0 (map d_isii v1))) ++ ([[(.val (.int .i64 ((m85_0 v2).f0))), (.val (.string ((m85_0 v2).f1))), (.val (.int .i64 ((m85_0 v2).f2))), (.val (.int .i64 ((m85_0 v2).f3)))]] : List (List D))))]] : List (List D)) = [[(.val (.int .i64 0)), (.val (.int .i64 (w64 (v0 + (m85_1 v2))))), (.own 4 (map d_isii (v1 ++ ([(m85_0 v2)]))))]] := (by simp [byteRows_eq, ints_y, take_of_length_le, d_y, d_LyE, d_b, d_isii, d_iiLisiiE, d_i, d_LLyEE, d_s, d_LisiiE, fromBR_y, fromBR_b, fromBR_isii, fromBR_i, fromBR_s, four_len, high4, high2]; done)
   have st := codeP_ok (F := F) (X := X) (c := b38_0) (t := 0) (σ := h38_0 l0_0 a0 v0 v1 v2) (σ' := ⟨[(0, (.one (.bor l0_0 (take (Int.toNat ((length (map b_y v2)) : Int) - Int.toNat (m85_1 v2)) (drop (Int.toNat (m85_1 v2)) (map b_y v2)))))), (2, (.ptr ⟨(2, 0, 0), [], 0, 0, 3⟩)), (3, (.ptr ⟨(3, 0, 0), [], 0, 0, 3⟩))], [((2, 0, 0), .live ⟨3, [[(.i 0), (.i 0), (.own 4 [])]], []⟩), ((3, 0, 0), .live ⟨3, [[(.i 0), (.i (w64 (v0 + (m85_1 v2)))), (.own 4 (map d_isii (v1 ++ ([(m85_0 v2)]))))]], []⟩)]⟩) (e := .normal) (t' := 60) (by kernel_rfl) (.r 3 [] [] f0 (.g h_0 (.f f2 (.f f3 (.f f4 (.f f5 (.f f6 (.f trivial (.f f8 (.e 0 (.e (length ((take (length (map d_isii v1)) (drop 0 (map d_isii v1))) ++ ([[(.val (.int .i64 ((m85_0 v2).f0))), (.val (.string ((m85_0 v2).f1))), (.val (.int .i64 ((m85_0 v2).f2))), (.val (.int .i64 ((m85_0 v2).f3)))]] : List (List D)))) (.f f11 (.z 24 (.y 34 (.h 59 (.norm (3, 0, 0) [[(.i 0), (.i (w64 (v0 + (m85_1 v2)))), (.own 4 (map d_isii (v1 ++ ([(m85_0 v2)]))))]]) .nil)))))))))))))))
   have ih := t38_0 (l0_0 := l0_0) (a0 := a0) hy0 hy1 n (w64 (v0 + (m85_1 v2))) (v1 ++ ([(m85_0 v2)])) (drop (Int.toNat (m85_1 v2)) v2) (by have q := re_ok (d := v2) (by assumption) (by assumption); rw [wrap64 (by omega)]; omega) (by have q := re_ok (d := v2) (by assumption) (by assumption); simp only [length_map, length_append, length_cons, length_nil, length_drop]; rw [wrap64 (by omega)]; omega) (by have q := re_ok (d := v2) (by assumption) (by assumption); simp only [length_map, length_append, length_cons, length_nil, length_drop]; rw [wrap64 (by omega)]; omega) (by have q := re_ok (d := v2) (by assumption) (by assumption); intro z hz; rcases List.mem_append.1 hz with hz | hz; exact hi3 z hz; rw [List.mem_singleton.1 hz]; exact q.2.2) (by exact gdr (by assumption) _) (by have q := re_ok (d := v2) (by assumption) (by assumption); simp only [length_drop]; omega)
   replace st := to_ (s' := h38_0 l0_0 a0 (w64 (v0 + (m85_1 v2))) (v1 ++ ([(m85_0 v2)])) (drop (Int.toNat (m85_1 v2)) v2)) st (by unfold h38_0; simp [byteRows_eq, ints_y, take_of_length_le, d_y, d_LyE, d_b, d_isii, d_iiLisiiE, d_i, d_LLyEE, d_s, d_LisiiE, fromBR_y, fromBR_b, fromBR_isii, fromBR_i, fromBR_s, four_len, high4, high2]; done)
   exact .loopN st ih
def post38_0 (a0 : (List Int)) : O38_0 → Prop
 | .k0 _ w1 => length w1 ≤ 1200 ∧ (∀ z ∈ w1, ByteArray.size z.f1 ≤ 255)
theorem z38_0 {a0 : (List Int)} (hy0 : ∀ z ∈ a0, (0 : Int) ≤ z ∧ z ≤ 255) (hy1 : length a0 ≤ 140737488351232) : ∀ (n : Nat) (v0 : Int) (v1 : List K_isii) (v2 : List Int), 0 ≤ v0 → v0 + (length v2 : Int) ≤ 1200 → (length v1 : Int) ≤ v0 → (∀ z ∈ v1, ByteArray.size z.f1 ≤ 255) → (∀ z ∈ v2, (0 : Int) ≤ z ∧ z ≤ 255) → post38_0 a0 (r38_0 n v0 v1 v2)
 | 0, v0, v1, v2, hi0, hi1, hi2, hi3, hi4 => by
  simp only [r38_0]
  first | trivial | (show _ ; simp only [post38_0]; omega) | (simp only [post38_0] at *; omega) | (have q := re_ok (d := v2) (by assumption) (by assumption); rw [wrap64 (by omega)]; omega) | (have q := re_ok (d := v2) (by assumption) (by assumption); simp only [length_map, length_append, length_cons, length_nil, length_drop]; rw [wrap64 (by omega)]; omega) | (have q := re_ok (d := v2) (by assumption) (by assumption); simp only [length_map, length_append, length_cons, length_nil, length_drop]; omega) | (have q := re_ok (d := v2) (by assumption) (by assumption); intro z hz; rcases List.mem_append.1 hz with hz | hz; exact hi3 z hz; rw [List.mem_singleton.1 hz]; exact q.2.2) | (exact gdr (by assumption) _) | (show _ ∧ _; exact ⟨by omega, by assumption⟩) | (simp only [decide_eq_true_eq] at *; omega)
 | n + 1, v0, v1, v2, hi0, hi1, hi2, hi3, hi4 => by
  simp only [r38_0]
  by_cases h_0 : (!(m85_2 v2)) = true
  ·try simp only [if_pos h_0]
   first | trivial | (show _ ; simp only [post38_0]; omega) | (simp only [post38_0] at *; omega) | (have q := re_ok (d := v2) (by assumption) (by assumption); rw [wrap64 (by omega)]; omega) | (have q := re_ok (d := v2) (by assumption) (by assumption); simp only [length_map, length_append, length_cons, length_nil, length_drop]; rw [wrap64 (by omega)]; omega) | (have q := re_ok (d := v2) (by assumption) (by assumption); simp only [length_map, length_append, length_cons, length_nil, length_drop]; omega) | (have q := re_ok (d := v2) (by assumption) (by assumption); intro z hz; rcases List.mem_append.1 hz with hz | hz; exact hi3 z hz; rw [List.mem_singleton.1 hz]; exact q.2.2) | (exact gdr (by assumption) _) | (show _ ∧ _; exact ⟨by omega, by assumption⟩) | (simp only [decide_eq_true_eq] at *; omega)
  ·try simp only [if_neg h_0]
   exact z38_0 (a0 := a0) hy0 hy1 n (w64 (v0 + (m85_1 v2))) (v1 ++ ([(m85_0 v2)])) (drop (Int.toNat (m85_1 v2)) v2) (by have q := re_ok (d := v2) (by assumption) (by assumption); rw [wrap64 (by omega)]; omega) (by have q := re_ok (d := v2) (by assumption) (by assumption); simp only [length_map, length_append, length_cons, length_nil, length_drop]; rw [wrap64 (by omega)]; omega) (by have q := re_ok (d := v2) (by assumption) (by assumption); simp only [length_map, length_append, length_cons, length_nil, length_drop]; rw [wrap64 (by omega)]; omega) (by have q := re_ok (d := v2) (by assumption) (by assumption); intro z hz; rcases List.mem_append.1 hz with hz | hz; exact hi3 z hz; rw [List.mem_singleton.1 hz]; exact q.2.2) (by exact gdr (by assumption) _)
def m38 (a0 : (List Int)) : K_iiLisiiE :=
 if (decide (((length (map b_y a0)) : Int) > 1200)) = true then (K_iiLisiiE.mk 2 0 []) else
 (match r38_0 (length a0) 0 [] a0 with | .k0 w0_1 w1_1 => (K_iiLisiiE.mk 0 w0_1 w1_1))
theorem e38 {l0_0 : Nat} {a0 : (List Int)} (hy0 : ∀ z ∈ a0, (0 : Int) ≤ z ∧ z ≤ 255) (hy1 : length a0 ≤ 140737488351232) : Ev F X (.call 38 [(.one (.bor l0_0 (map b_y a0)))] [] [] [(.agg [(.val (.int .i64 ((m38 a0).f0))), (.val (.int .i64 ((m38 a0).f1))), (.own 4 (map d_isii ((m38 a0).f2)))])]) := by
 unfold m38
 by_cases h0 : (decide (((length (map b_y a0)) : Int) > 1200)) = true
 ·try simp only [if_pos h0]
  have f1 : pureR [] = true := (by exact (rfl : (true : Bool) = true))
  exact cp (by kernel_rfl) (.f h0 (.f f1 (.y 8 .nil)))
 ·try simp only [if_neg h0]
  cases h1 : r38_0 (length a0) 0 [] a0 with
  | k0 w0_1 w1_1 =>
   try dsimp only
   have zh1 := z38_0 (a0 := a0) (by assumption) (by assumption) (length a0) 0 [] a0 (by omega) (by simp only [decide_eq_true_eq, length_map] at *; omega) (by simp only [length_map, length_set, length_append, length_replicate, length_cons, length_nil]; omega) (by simp; done) (by omega); rw [h1] at zh1; simp only [post38_0] at zh1
   have f1 : (⟨[(0, (.one (.bor l0_0 (map b_y a0)))), (2, (.ptr ⟨(2, 0, 0), [], 0, 0, 3⟩)), (3, (.ptr ⟨(3, 0, 0), [], 0, 0, 3⟩))], [((2, 0, 0), .live ⟨3, [[(.i 0), (.i 0), (.own 4 [])]], []⟩), ((3, 0, 0), .live ⟨3, [[(.i 0), (.i 0), (.own 4 [])]], []⟩)]⟩ : St) = h38_0 l0_0 a0 0 [] a0 := (by rfl)
   have f2 : Ev F X (.code l38_0 (h38_0 l0_0 a0 0 [] a0) .ret ⟨[(2, (.ptr ⟨(2, 0, 0), [], 0, 0, 3⟩))], [((2, 0, 0), .live ⟨3, [[(.i 0), (.i w0_1), (.own 4 (map d_isii w1_1))]], []⟩)]⟩) := (by have t : Ev F X (.code l38_0 (h38_0 l0_0 a0 0 [] a0) (ex38_0 (r38_0 (length a0) 0 [] a0)) (fin38_0 l0_0 a0 (r38_0 (length a0) 0 [] a0))) := t38_0 (l0_0 := l0_0) (a0 := a0) (by assumption) (by assumption) (length a0) 0 [] a0  (by omega) (by simp only [decide_eq_true_eq, length_map] at *; omega) (by simp only [length_map, length_set, length_append, length_replicate, length_cons, length_nil]; omega) (by simp; done) (by omega) (Nat.le_refl _); rw [h1] at t; exact t)
   exact cp (by kernel_rfl) (.g h0 (.f f1 (.f f2 (.f (pureR_isii w1_1) (.z 8 (.h 15 (.loop (h38_0 l0_0 a0 0 [] a0) .ret ⟨[(2, (.ptr ⟨(2, 0, 0), [], 0, 0, 3⟩))], [((2, 0, 0), .live ⟨3, [[(.i 0), (.i w0_1), (.own 4 (map d_isii w1_1))]], []⟩)]⟩) .nil))))))
theorem sze (a0 : List Int) (hb : ∀ z ∈ a0, (0 : Int) ≤ z ∧ z ≤ 255) (hl : length a0 ≤ 140737488351232) : length (m38 a0).f2 ≤ 1200 ∧ ∀ z ∈ (m38 a0).f2, ByteArray.size z.f1 ≤ 255 := by
 unfold m38
 split
 ·simp
 ·rename_i h
  have z := z38_0 (a0 := a0) hb hl (length a0) 0 [] a0 (by omega) (by simp only [decide_eq_true_eq, length_map] at h; omega) (by simp) (by simp) hb
  cases hr : r38_0 (length a0) 0 [] a0 with
  | k0 w0 w1 => rw [hr] at z; exact z
def m134 (a0 : K_isii) (a1 : K_isii) : Bool :=
 if (a0.f0 != a1.f0) = true then false else
 if (!(a0.f1.toList == a1.f1.toList)) = true then false else
  if (a0.f2 != a1.f2) = true then false else
   if (a0.f3 != a1.f3) = true then false else
    true
theorem e134 {a0 : K_isii} {a1 : K_isii} : Ev F X (.call 134 [(.agg [(.val (.int .i64 a0.f0)), (.val (.string a0.f1)), (.val (.int .i64 a0.f2)), (.val (.int .i64 a0.f3))]), (.agg [(.val (.int .i64 a1.f0)), (.val (.string a1.f1)), (.val (.int .i64 a1.f2)), (.val (.int .i64 a1.f3))])] [] [] [(.one (.val (.bool (m134 a0 a1))))]) := by
 unfold m134
 by_cases h0 : (a0.f0 != a1.f0) = true
 ·try simp only [if_pos h0]
  exact cp (by kernel_rfl) (.f h0 (.y 16 .nil))
 ·try simp only [if_neg h0]
  by_cases h1 : (!(a0.f1.toList == a1.f1.toList)) = true
  ·try simp only [if_pos h1]
   exact cp (by kernel_rfl) (.g h0 (.f h1 (.z 16 (.y 27 .nil))))
  ·try simp only [if_neg h1]
   by_cases h2 : (a0.f2 != a1.f2) = true
   ·try simp only [if_pos h2]
    exact cp (by kernel_rfl) (.g h0 (.g h1 (.f h2 (.z 16 (.z 27 (.y 38 .nil))))))
   ·try simp only [if_neg h2]
    by_cases h3 : (a0.f3 != a1.f3) = true
    ·try simp only [if_pos h3]
     exact cp (by kernel_rfl) (.g h0 (.g h1 (.g h2 (.f h3 (.z 16 (.z 27 (.z 38 (.y 49 .nil))))))))
    ·try simp only [if_neg h3]
     exact cp (by kernel_rfl) (.g h0 (.g h1 (.g h2 (.g h3 (.z 16 (.z 27 (.z 38 (.z 49 .nil))))))))
open Classical in
theorem eqd134 (a b : K_isii) : m134 a b = decide (a = b) := by
 rw [Bool.eq_iff_iff, decide_eq_true_eq]
 constructor
 ·intro h
  unfold m134 at h
  cases a; cases b
  (repeat' split at h) <;> simp_all [ba_eq]
 ·rintro rfl
  simp [m134, ba_eq]
inductive O86_0 where
 | k0 (w0 : Int) (w1 : Bool)
 | k1
def r86_0 (a0 : (List K_isii)) : List K_isii → List K_isii → Int → O86_0
 | x0 :: y0, x1 :: y1, i =>
  if (!(m134 x0 x1)) = true then (O86_0.k1) else
  (r86_0 a0 y0 y1 (i + 1) )
 | _, _, i => (O86_0.k0 i (decide (i < ((length (map b_isii a0)) : Int))))
def h86_0 (l0_0 : Nat) (l1_0 : Nat) (a0 : (List K_isii)) (a1 : (List K_isii)) (i : Int)  : St := ⟨[(0, (.one (.bor l0_0 (map b_isii a0)))), (1, (.one (.bor l1_0 (map b_isii a1)))), (5, (.one (.val (.int .i64 i))))], []⟩
def ex86_0 : O86_0 → VX.Exit
 | .k0 _ _ => (.exit 0)
 | .k1 => .ret
def fin86_0 (l0_0 : Nat) (l1_0 : Nat) (a0 : (List K_isii)) (a1 : (List K_isii)) : O86_0 → St
 | .k0 w0 w1 => ⟨[(0, (.one (.bor l0_0 (map b_isii a0)))), (1, (.one (.bor l1_0 (map b_isii a1)))), (5, (.one (.val (.int .i64 w0)))), (14, (.one (.val (.bool w1))))], []⟩
 | .k1 => ⟨[(4, (.one (.val (.bool false))))], []⟩
theorem t86_0 {l0_0 : Nat} {l1_0 : Nat} {a0 : (List K_isii)} {a1 : (List K_isii)} (hy0 : length a0 * 40 ≤ 140737488351232) (hy1 : length a1 * 40 ≤ 140737488351232) : ∀ (y0 : List K_isii) (y1 : List K_isii) (p : List K_isii) (p_1 : List K_isii) , p ++ y0 = a0 → p_1 ++ y1 = a1 → length p = length p_1 → length y0 = length y1 → Ev F X (.code l86_0 (h86_0 l0_0 l1_0 a0 a1 (length p : Int) ) (ex86_0 (r86_0 a0 y0 y1 (length p : Int) )) (fin86_0 l0_0 l1_0 a0 a1 (r86_0 a0 y0 y1 (length p : Int) )))
 | [], [], p, p_1, hp0, hp1, hq1, hl1 => by
  have hc : ¬ (decide ((length p : Int) < ((length (map b_isii a0)) : Int))) = true := by
   rw [← hp0]; simp only [length_map, length_set, length_append, length_replicate, length_cons, length_nil, decide_eq_true_eq]; omega
  have st := ch b86_0 [(8, .b false)] (h86_0 l0_0 l1_0 a0 a1 (length p : Int)) (fin86_0 l0_0 l1_0 a0 a1 (.k0 (length p : Int) (decide ((length p : Int) < ((length (map b_isii a0)) : Int))))) (.exit 0) 9 [(decide ((length p : Int) < ((length (map b_isii a0)) : Int))) = false] (by kernel_rfl) ⟨(nt hc), trivial⟩
  exact .loopX st (show ((.exit 0) : VX.Exit) ≠ .normal from by simp)
 | x0 :: y0, x1 :: y1, p, p_1, hp0, hp1, hq1, hl1 => by
  have hc : (decide ((length p : Int) < ((length (map b_isii a0)) : Int))) = true := lt1 hp0
  have Hx0 : (a0)[Int.toNat (length p : Int)]? = some x0 := by
   rw [← hp0, Int.toNat_natCast]; simp
  have Hx1 : (a1)[Int.toNat (length p : Int)]? = some x1 := by
   rw [← hp1, hq1, Int.toNat_natCast]; simp
  have hlen : length (a0) = length p + length y0 + 1 := by rw [← hp0]; simp; omega
  have hw : w64 ((length p : Int) + 1) = (length p : Int) + 1 := wrap64 (by omega)
  simp only [r86_0]
  by_cases h_1 : (!(m134 x0 x1)) = true
  ·try simp only [if_pos h_1]
   have st := ch b86_0 [(8, .b true), (14, .row (b_isii x0)), (22, .row (b_isii x1)), (26, .ret [] [(.one (.val (.bool (m134 x0 x1))))] [] []), (29, .b true)] (h86_0 l0_0 l1_0 a0 a1 (length p : Int)) (fin86_0 l0_0 l1_0 a0 a1 (.k1)) .ret 32 [(decide ((length p : Int) < ((length (map b_isii a0)) : Int))) = true, 0 ≤ (length p : Int), (map b_isii a0)[(Int.toNat (length p : Int))]? = some (b_isii x0), 0 ≤ (length p : Int), (map b_isii a1)[(Int.toNat (length p : Int))]? = some (b_isii x1), Ev F X (.call 134 [(.agg [(.i x0.f0), (.val (.string x0.f1)), (.i x0.f2), (.i x0.f3)]), (.agg [(.i x1.f0), (.val (.string x1.f1)), (.i x1.f2), (.i x1.f3)])] [] [] [(.one (.val (.bool (m134 x0 x1))))]), (!(m134 x0 x1)) = true] (by kernel_rfl) ⟨hc, (by omega), (by rw [getElem?_map, Hx0]; rfl), (by omega), (by rw [getElem?_map, Hx1]; rfl), (e134 (a0 := x0) (a1 := x1)), h_1, trivial⟩
   exact .loopX st (show (.ret : VX.Exit) ≠ .normal from by simp)
  ·try simp only [if_neg h_1]
   have st := ch b86_0 [(8, .b true), (14, .row (b_isii x0)), (22, .row (b_isii x1)), (26, .ret [] [(.one (.val (.bool (m134 x0 x1))))] [] []), (29, .b false)] (h86_0 l0_0 l1_0 a0 a1 (length p : Int)) ⟨[(0, (.one (.bor l0_0 (map b_isii a0)))), (1, (.one (.bor l1_0 (map b_isii a1)))), (5, (.oi (w64 ((length p : Int) + 1))))], []⟩ .normal 36 [(decide ((length p : Int) < ((length (map b_isii a0)) : Int))) = true, 0 ≤ (length p : Int), (map b_isii a0)[(Int.toNat (length p : Int))]? = some (b_isii x0), 0 ≤ (length p : Int), (map b_isii a1)[(Int.toNat (length p : Int))]? = some (b_isii x1), Ev F X (.call 134 [(.agg [(.i x0.f0), (.val (.string x0.f1)), (.i x0.f2), (.i x0.f3)]), (.agg [(.i x1.f0), (.val (.string x1.f1)), (.i x1.f2), (.i x1.f3)])] [] [] [(.one (.val (.bool (m134 x0 x1))))]), (!(m134 x0 x1)) = false, True] (by kernel_rfl) ⟨hc, (by omega), (by rw [getElem?_map, Hx0]; rfl), (by omega), (by rw [getElem?_map, Hx1]; rfl), (e134 (a0 := x0) (a1 := x1)), (nt h_1), trivial, trivial⟩
   have ih := t86_0 (l0_0 := l0_0) (l1_0 := l1_0) (a0 := a0) (a1 := a1) hy0 hy1 y0 y1 (p ++ [x0]) (p_1 ++ [x1])  (by rw [append_assoc]; exact hp0) (by rw [append_assoc]; exact hp1) (by simp only [length_map, length_set, length_append, length_replicate, length_cons, length_nil]; omega) (by simp only [length_map, length_set, length_append, length_replicate, length_cons, length_nil] at hl1; omega)
   rw [show ((p ++ [x0]).length : Int) = (p.length : Int) + 1 from by simp] at ih
   replace st := to_ (s' := h86_0 l0_0 l1_0 a0 a1 ((length p : Int) + 1) ) st (by unfold h86_0; simp only [hw]; done)
   exact .loopN st ih
def m86 (a0 : (List K_isii)) (a1 : (List K_isii)) : Bool :=
 if (((length (map b_isii a0)) : Int) != ((length (map b_isii a1)) : Int)) = true then false else
 (match r86_0 a0 a0 a1 0 with | .k0 w0_1 w1_1 => true | .k1 => false)
theorem e86 {l0_0 : Nat} {a0 : (List K_isii)} {l1_0 : Nat} {a1 : (List K_isii)} (hy0 : length a0 * 40 ≤ 140737488351232) (hy1 : length a1 * 40 ≤ 140737488351232) : Ev F X (.call 86 [(.one (.bor l0_0 (map b_isii a0))), (.one (.bor l1_0 (map b_isii a1)))] [] [] [(.one (.val (.bool (m86 a0 a1))))]) := by
 unfold m86
 by_cases h0 : (((length (map b_isii a0)) : Int) != ((length (map b_isii a1)) : Int)) = true
 ·try simp only [if_pos h0]
  exact cp (by kernel_rfl) (.f h0 (.y 12 .nil))
 ·try simp only [if_neg h0]
  cases h1 : r86_0 a0 a0 a1 0 with
  | k0 w0_1 w1_1 =>
   try dsimp only
   have f1 : (⟨[(0, (.one (.bor l0_0 (map b_isii a0)))), (1, (.one (.bor l1_0 (map b_isii a1)))), (5, (.oi 0))], []⟩ : St) = h86_0 l0_0 l1_0 a0 a1 0  := (by rfl)
   have f2 : Ev F X (.code l86_0 (h86_0 l0_0 l1_0 a0 a1 0 ) (.exit 0) ⟨[(0, (.one (.bor l0_0 (map b_isii a0)))), (1, (.one (.bor l1_0 (map b_isii a1)))), (5, (.oi w0_1)), (14, (.one (.val (.bool w1_1))))], []⟩) := (by have t : Ev F X (.code l86_0 (h86_0 l0_0 l1_0 a0 a1 0 ) (ex86_0 (r86_0 a0 a0 a1 0)) (fin86_0 l0_0 l1_0 a0 a1 (r86_0 a0 a0 a1 0))) := t86_0 (l0_0 := l0_0) (l1_0 := l1_0) (a0 := a0) (a1 := a1) (by assumption) (by assumption) a0 a1 [] []  rfl rfl rfl (by simp at *; omega); rw [h1] at t; exact t)
   exact cp (by kernel_rfl) (.g h0 (.f f1 (.f f2 (.z 12 (.h 15 (.loop (h86_0 l0_0 l1_0 a0 a1 0 ) (.exit 0) ⟨[(0, (.one (.bor l0_0 (map b_isii a0)))), (1, (.one (.bor l1_0 (map b_isii a1)))), (5, (.oi w0_1)), (14, (.one (.val (.bool w1_1))))], []⟩) .nil)))))
  | k1 =>
   try dsimp only
   have f1 : (⟨[(0, (.one (.bor l0_0 (map b_isii a0)))), (1, (.one (.bor l1_0 (map b_isii a1)))), (5, (.oi 0))], []⟩ : St) = h86_0 l0_0 l1_0 a0 a1 0  := (by rfl)
   have f2 : Ev F X (.code l86_0 (h86_0 l0_0 l1_0 a0 a1 0 ) .ret ⟨[(4, (.one (.val (.bool false))))], []⟩) := (by have t : Ev F X (.code l86_0 (h86_0 l0_0 l1_0 a0 a1 0 ) (ex86_0 (r86_0 a0 a0 a1 0)) (fin86_0 l0_0 l1_0 a0 a1 (r86_0 a0 a0 a1 0))) := t86_0 (l0_0 := l0_0) (l1_0 := l1_0) (a0 := a0) (a1 := a1) (by assumption) (by assumption) a0 a1 [] []  rfl rfl rfl (by simp at *; omega); rw [h1] at t; exact t)
   exact cp (by kernel_rfl) (.g h0 (.f f1 (.f f2 (.z 12 (.h 15 (.loop (h86_0 l0_0 l1_0 a0 a1 0 ) .ret ⟨[(4, (.one (.val (.bool false))))], []⟩) .nil)))))
theorem eqr86_0 (a0 : (List K_isii)) : ∀ (l m : List K_isii) (i : Int), l.length = m.length → (r86_0 a0 l m i = .k1 ∧ l ≠ m) ∨ (∃ w0 w1, r86_0 a0 l m i = .k0 w0 w1 ∧ l = m)
 | [], [], i, _ => .inr ⟨_, _, rfl, rfl⟩
 | [], _ :: _, i, h => by simp at h
 | _ :: _, [], i, h => by simp at h
 | x :: l, y :: m, i, h => by
  have ih := eqr86_0 a0 l m (i + 1) (by simpa using h)
  by_cases hxy : x = y
  ·subst hxy
   have e : r86_0 a0 (x :: l) (x :: m) i = r86_0 a0 l m (i + 1) := by simp [r86_0, ba_eq, eqd134]
   rw [e]
   rcases ih with ⟨h1, h2⟩ | ⟨w0, w1, h1, h2⟩
   ·exact .inl ⟨h1, by simp [h2]⟩
   ·exact .inr ⟨_, _, h1, by rw [h2]⟩
  ·have e : r86_0 a0 (x :: l) (y :: m) i = .k1 := by
    simp only [r86_0]
    first
     | ((repeat' split) <;> simp_all [ba_eq, eqd134]; done)
     | (cases x; cases y; (repeat' split) <;> simp_all [ba_eq, eqd134])
   exact .inl ⟨e, by simp [hxy]⟩
open Classical in
theorem eqd86 (a b : (List K_isii)) : m86 a b = decide (a = b) := by
 rw [Bool.eq_iff_iff, decide_eq_true_eq]
 unfold m86
 by_cases hl : length a = length b
 ·rcases eqr86_0 a a b 0 hl with ⟨h1, h2⟩ | ⟨w0, w1, h1, h2⟩
  ·simp only [h1, length_map, hl]
   first
    | (simp [h2, ba_eq, eqd134]; done)
    | (cases a; cases b; simp_all [ba_eq, eqd134]; done)
    | (cases a; cases b; (repeat' split) <;> simp_all [ba_eq, eqd134])
  ·simp only [h1, length_map, hl]
   first
    | (simp [h2, ba_eq, eqd134]; done)
    | (cases a; cases b; simp_all [ba_eq, eqd134]; done)
    | (cases a; cases b; (repeat' split) <;> simp_all [ba_eq, eqd134])
 ·have hn : a ≠ b := by rintro rfl; exact hl rfl
  simp only [length_map]
  first
   | (simp [hn, hl, ba_eq, eqd134]; done)
   | ((repeat' split) <;> simp_all [ba_eq, eqd134]; done)
   | (simp [hn]; omega)
def m39 (a0 : K_iiLisiiE) (a1 : K_iiLisiiE) : Bool :=
 if (a0.f0 != a1.f0) = true then false else
 if (a0.f1 != a1.f1) = true then false else
  if (!(m86 a0.f2 a1.f2)) = true then false else
   true
theorem e39 {l0_2 : Nat} {a0 : K_iiLisiiE} {l1_2 : Nat} {a1 : K_iiLisiiE} (hy0 : length a0.f2 * 40 ≤ 140737488351232) (hy1 : length a1.f2 * 40 ≤ 140737488351232) : Ev F X (.call 39 [(.agg [(.val (.int .i64 a0.f0)), (.val (.int .i64 a0.f1)), (.bor l0_2 (map b_isii a0.f2))]), (.agg [(.val (.int .i64 a1.f0)), (.val (.int .i64 a1.f1)), (.bor l1_2 (map b_isii a1.f2))])] [] [] [(.one (.val (.bool (m39 a0 a1))))]) := by
 unfold m39
 by_cases h0 : (a0.f0 != a1.f0) = true
 ·try simp only [if_pos h0]
  exact cp (by kernel_rfl) (.f h0 (.y 16 .nil))
 ·try simp only [if_neg h0]
  by_cases h1 : (a0.f1 != a1.f1) = true
  ·try simp only [if_pos h1]
   exact cp (by kernel_rfl) (.g h0 (.f h1 (.z 16 (.y 27 .nil))))
  ·try simp only [if_neg h1]
   have f2 := e86 (l0_0 := l0_2 + 1) (l1_0 := l1_2 + 1) (a0 := a0.f2) (a1 := a1.f2) (by with_reducible assumption) (by with_reducible assumption)
   by_cases h2 : (!(m86 a0.f2 a1.f2)) = true
   ·try simp only [if_pos h2]
    exact cp (by kernel_rfl) (.g h0 (.g h1 (.z 16 (.z 27 (.r 37 [] [] f2 (.f h2 (.y 40 .nil)))))))
   ·try simp only [if_neg h2]
    exact cp (by kernel_rfl) (.g h0 (.g h1 (.z 16 (.z 27 (.r 37 [] [] f2 (.g h2 (.z 40 .nil)))))))
open Classical in
theorem eqd39 (a b : K_iiLisiiE) : m39 a b = decide (a = b) := by
 rw [Bool.eq_iff_iff, decide_eq_true_eq]
 constructor
 ·intro h
  unfold m39 at h
  cases a; cases b
  (repeat' split at h) <;> simp_all [ba_eq, eqd86]
 ·rintro rfl
  simp [m39, ba_eq, eqd86]
inductive O40_0 where
 | k0 (w0 : Int) (w1 : Bool)
 | k1
def r40_0 (a0 : (List Int)) : List Int → List Int → Int → O40_0
 | x0 :: y0, x1 :: y1, i =>
  if (x0 != x1) = true then (O40_0.k1) else
  (r40_0 a0 y0 y1 (i + 1) )
 | _, _, i => (O40_0.k0 i (decide (i < ((length (map b_y a0)) : Int))))
def h40_0 (l0_0 : Nat) (l1_0 : Nat) (a0 : (List Int)) (a1 : (List Int)) (i : Int)  : St := ⟨[(0, (.one (.bor l0_0 (map b_y a0)))), (1, (.one (.bor l1_0 (map b_y a1)))), (5, (.one (.val (.int .i64 i))))], []⟩
def ex40_0 : O40_0 → VX.Exit
 | .k0 _ _ => (.exit 0)
 | .k1 => .ret
def fin40_0 (l0_0 : Nat) (l1_0 : Nat) (a0 : (List Int)) (a1 : (List Int)) : O40_0 → St
 | .k0 w0 w1 => ⟨[(0, (.one (.bor l0_0 (map b_y a0)))), (1, (.one (.bor l1_0 (map b_y a1)))), (5, (.one (.val (.int .i64 w0)))), (14, (.one (.val (.bool w1))))], []⟩
 | .k1 => ⟨[(4, (.one (.val (.bool false))))], []⟩
theorem t40_0 {l0_0 : Nat} {l1_0 : Nat} {a0 : (List Int)} {a1 : (List Int)} (hy0 : length a0 * 1 ≤ 140737488351232) (hy1 : length a1 * 1 ≤ 140737488351232) : ∀ (y0 : List Int) (y1 : List Int) (p : List Int) (p_1 : List Int) , p ++ y0 = a0 → p_1 ++ y1 = a1 → length p = length p_1 → length y0 = length y1 → Ev F X (.code l40_0 (h40_0 l0_0 l1_0 a0 a1 (length p : Int) ) (ex40_0 (r40_0 a0 y0 y1 (length p : Int) )) (fin40_0 l0_0 l1_0 a0 a1 (r40_0 a0 y0 y1 (length p : Int) )))
 | [], [], p, p_1, hp0, hp1, hq1, hl1 => by
  have hc : ¬ (decide ((length p : Int) < ((length (map b_y a0)) : Int))) = true := by
   rw [← hp0]; simp only [length_map, length_set, length_append, length_replicate, length_cons, length_nil, decide_eq_true_eq]; omega
  have st := ch b40_0 [(8, .b false)] (h40_0 l0_0 l1_0 a0 a1 (length p : Int)) (fin40_0 l0_0 l1_0 a0 a1 (.k0 (length p : Int) (decide ((length p : Int) < ((length (map b_y a0)) : Int))))) (.exit 0) 9 [(decide ((length p : Int) < ((length (map b_y a0)) : Int))) = false] (by kernel_rfl) ⟨(nt hc), trivial⟩
  exact .loopX st (show ((.exit 0) : VX.Exit) ≠ .normal from by simp)
 | x0 :: y0, x1 :: y1, p, p_1, hp0, hp1, hq1, hl1 => by
  have hc : (decide ((length p : Int) < ((length (map b_y a0)) : Int))) = true := lt1 hp0
  have Hx0 : (a0)[Int.toNat (length p : Int)]? = some x0 := by
   rw [← hp0, Int.toNat_natCast]; simp
  have Hx1 : (a1)[Int.toNat (length p : Int)]? = some x1 := by
   rw [← hp1, hq1, Int.toNat_natCast]; simp
  have hlen : length (a0) = length p + length y0 + 1 := by rw [← hp0]; simp; omega
  have hw : w64 ((length p : Int) + 1) = (length p : Int) + 1 := wrap64 (by omega)
  simp only [r40_0]
  by_cases h_1 : (x0 != x1) = true
  ·try simp only [if_pos h_1]
   have st := ch b40_0 [(8, .b true), (14, .row [(.val (.int .u8 x0))]), (22, .row [(.val (.int .u8 x1))]), (27, .b true)] (h40_0 l0_0 l1_0 a0 a1 (length p : Int)) (fin40_0 l0_0 l1_0 a0 a1 (.k1)) .ret 30 [(decide ((length p : Int) < ((length (map b_y a0)) : Int))) = true, 0 ≤ (length p : Int), (map b_y a0)[(Int.toNat (length p : Int))]? = some [(.val (.int .u8 x0))], 0 ≤ (length p : Int), (map b_y a1)[(Int.toNat (length p : Int))]? = some [(.val (.int .u8 x1))], (x0 != x1) = true] (by kernel_rfl) ⟨hc, (by omega), (by rw [getElem?_map, Hx0]; rfl), (by omega), (by rw [getElem?_map, Hx1]; rfl), h_1, trivial⟩
   exact .loopX st (show (.ret : VX.Exit) ≠ .normal from by simp)
  ·try simp only [if_neg h_1]
   have st := ch b40_0 [(8, .b true), (14, .row [(.val (.int .u8 x0))]), (22, .row [(.val (.int .u8 x1))]), (27, .b false)] (h40_0 l0_0 l1_0 a0 a1 (length p : Int)) ⟨[(0, (.one (.bor l0_0 (map b_y a0)))), (1, (.one (.bor l1_0 (map b_y a1)))), (5, (.oi (w64 ((length p : Int) + 1))))], []⟩ .normal 34 [(decide ((length p : Int) < ((length (map b_y a0)) : Int))) = true, 0 ≤ (length p : Int), (map b_y a0)[(Int.toNat (length p : Int))]? = some [(.val (.int .u8 x0))], 0 ≤ (length p : Int), (map b_y a1)[(Int.toNat (length p : Int))]? = some [(.val (.int .u8 x1))], (x0 != x1) = false, True] (by kernel_rfl) ⟨hc, (by omega), (by rw [getElem?_map, Hx0]; rfl), (by omega), (by rw [getElem?_map, Hx1]; rfl), (nt h_1), trivial, trivial⟩
   have ih := t40_0 (l0_0 := l0_0) (l1_0 := l1_0) (a0 := a0) (a1 := a1) hy0 hy1 y0 y1 (p ++ [x0]) (p_1 ++ [x1])  (by rw [append_assoc]; exact hp0) (by rw [append_assoc]; exact hp1) (by simp only [length_map, length_set, length_append, length_replicate, length_cons, length_nil]; omega) (by simp only [length_map, length_set, length_append, length_replicate, length_cons, length_nil] at hl1; omega)
   rw [show ((p ++ [x0]).length : Int) = (p.length : Int) + 1 from by simp] at ih
   replace st := to_ (s' := h40_0 l0_0 l1_0 a0 a1 ((length p : Int) + 1) ) st (by unfold h40_0; simp only [hw]; done)
   exact .loopN st ih
def m40 (a0 : (List Int)) (a1 : (List Int)) : Bool :=
 if (((length (map b_y a0)) : Int) != ((length (map b_y a1)) : Int)) = true then false else
 (match r40_0 a0 a0 a1 0 with | .k0 w0_1 w1_1 => true | .k1 => false)
theorem e40 {l0_0 : Nat} {a0 : (List Int)} {l1_0 : Nat} {a1 : (List Int)} (hy0 : length a0 * 1 ≤ 140737488351232) (hy1 : length a1 * 1 ≤ 140737488351232) : Ev F X (.call 40 [(.one (.bor l0_0 (map b_y a0))), (.one (.bor l1_0 (map b_y a1)))] [] [] [(.one (.val (.bool (m40 a0 a1))))]) := by
 unfold m40
 by_cases h0 : (((length (map b_y a0)) : Int) != ((length (map b_y a1)) : Int)) = true
 ·try simp only [if_pos h0]
  exact cp (by kernel_rfl) (.f h0 (.y 12 .nil))
 ·try simp only [if_neg h0]
  cases h1 : r40_0 a0 a0 a1 0 with
  | k0 w0_1 w1_1 =>
   try dsimp only
   have f1 : (⟨[(0, (.one (.bor l0_0 (map b_y a0)))), (1, (.one (.bor l1_0 (map b_y a1)))), (5, (.oi 0))], []⟩ : St) = h40_0 l0_0 l1_0 a0 a1 0  := (by rfl)
   have f2 : Ev F X (.code l40_0 (h40_0 l0_0 l1_0 a0 a1 0 ) (.exit 0) ⟨[(0, (.one (.bor l0_0 (map b_y a0)))), (1, (.one (.bor l1_0 (map b_y a1)))), (5, (.oi w0_1)), (14, (.one (.val (.bool w1_1))))], []⟩) := (by have t : Ev F X (.code l40_0 (h40_0 l0_0 l1_0 a0 a1 0 ) (ex40_0 (r40_0 a0 a0 a1 0)) (fin40_0 l0_0 l1_0 a0 a1 (r40_0 a0 a0 a1 0))) := t40_0 (l0_0 := l0_0) (l1_0 := l1_0) (a0 := a0) (a1 := a1) (by assumption) (by assumption) a0 a1 [] []  rfl rfl rfl (by simp at *; omega); rw [h1] at t; exact t)
   exact cp (by kernel_rfl) (.g h0 (.f f1 (.f f2 (.z 12 (.h 15 (.loop (h40_0 l0_0 l1_0 a0 a1 0 ) (.exit 0) ⟨[(0, (.one (.bor l0_0 (map b_y a0)))), (1, (.one (.bor l1_0 (map b_y a1)))), (5, (.oi w0_1)), (14, (.one (.val (.bool w1_1))))], []⟩) .nil)))))
  | k1 =>
   try dsimp only
   have f1 : (⟨[(0, (.one (.bor l0_0 (map b_y a0)))), (1, (.one (.bor l1_0 (map b_y a1)))), (5, (.oi 0))], []⟩ : St) = h40_0 l0_0 l1_0 a0 a1 0  := (by rfl)
   have f2 : Ev F X (.code l40_0 (h40_0 l0_0 l1_0 a0 a1 0 ) .ret ⟨[(4, (.one (.val (.bool false))))], []⟩) := (by have t : Ev F X (.code l40_0 (h40_0 l0_0 l1_0 a0 a1 0 ) (ex40_0 (r40_0 a0 a0 a1 0)) (fin40_0 l0_0 l1_0 a0 a1 (r40_0 a0 a0 a1 0))) := t40_0 (l0_0 := l0_0) (l1_0 := l1_0) (a0 := a0) (a1 := a1) (by assumption) (by assumption) a0 a1 [] []  rfl rfl rfl (by simp at *; omega); rw [h1] at t; exact t)
   exact cp (by kernel_rfl) (.g h0 (.f f1 (.f f2 (.z 12 (.h 15 (.loop (h40_0 l0_0 l1_0 a0 a1 0 ) .ret ⟨[(4, (.one (.val (.bool false))))], []⟩) .nil)))))
theorem eqr40_0 (a0 : (List Int)) : ∀ (l m : List Int) (i : Int), l.length = m.length → (r40_0 a0 l m i = .k1 ∧ l ≠ m) ∨ (∃ w0 w1, r40_0 a0 l m i = .k0 w0 w1 ∧ l = m)
 | [], [], i, _ => .inr ⟨_, _, rfl, rfl⟩
 | [], _ :: _, i, h => by simp at h
 | _ :: _, [], i, h => by simp at h
 | x :: l, y :: m, i, h => by
  have ih := eqr40_0 a0 l m (i + 1) (by simpa using h)
  by_cases hxy : x = y
  ·subst hxy
   have e : r40_0 a0 (x :: l) (x :: m) i = r40_0 a0 l m (i + 1) := by simp [r40_0, ba_eq]
   rw [e]
   rcases ih with ⟨h1, h2⟩ | ⟨w0, w1, h1, h2⟩
   ·exact .inl ⟨h1, by simp [h2]⟩
   ·exact .inr ⟨_, _, h1, by rw [h2]⟩
  ·have e : r40_0 a0 (x :: l) (y :: m) i = .k1 := by
    simp only [r40_0]
    first
     | ((repeat' split) <;> simp_all [ba_eq]; done)
     | (cases x; cases y; (repeat' split) <;> simp_all [ba_eq])
   exact .inl ⟨e, by simp [hxy]⟩
open Classical in
theorem eqd40 (a b : (List Int)) : m40 a b = decide (a = b) := by
 rw [Bool.eq_iff_iff, decide_eq_true_eq]
 unfold m40
 by_cases hl : length a = length b
 ·rcases eqr40_0 a a b 0 hl with ⟨h1, h2⟩ | ⟨w0, w1, h1, h2⟩
  ·simp only [h1, length_map, hl]
   first
    | (simp [h2, ba_eq]; done)
    | (cases a; cases b; simp_all [ba_eq]; done)
    | (cases a; cases b; (repeat' split) <;> simp_all [ba_eq])
  ·simp only [h1, length_map, hl]
   first
    | (simp [h2, ba_eq]; done)
    | (cases a; cases b; simp_all [ba_eq]; done)
    | (cases a; cases b; (repeat' split) <;> simp_all [ba_eq])
 ·have hn : a ≠ b := by rintro rfl; exact hl rfl
  simp only [length_map]
  first
   | (simp [hn, hl, ba_eq]; done)
   | ((repeat' split) <;> simp_all [ba_eq]; done)
   | (simp [hn]; omega)
inductive O41_0 where
 | k0 (w0 : List Int) (w1 : Int) (w2 : Int) (w3 : Bool)
def r41_0 (a0 : (List Int)) : List Int → Int → List Int → Int → O41_0
 | x0 :: y0, i, v0, v1 =>
  (r41_0 a0 y0 (i + 1) (set v0 (Int.toNat i) (IntKind.wrap .u8 (v1))) (w64 (v1 + 1)))
 | [], i, v0, v1 => (O41_0.k0 v0 v1 i (decide (i < ((length (map d_y a0)) : Int))))
def h41_0 (a0 : (List Int)) (a1 : Int) (i : Int) (v0 : List Int) (v1 : Int) : St := ⟨[(0, (.one (.ref ⟨(0, 0, 0), [], 0, (length (map d_y a0))⟩))), (1, (.one (.val (.int .i64 v1)))), (5, (.one (.val (.int .i64 i))))], [((0, 0, 0), .live ⟨1, (map d_y v0), []⟩)]⟩
def ex41_0 : O41_0 → VX.Exit
 | .k0 _ _ _ _ => (.exit 0)
def fin41_0 (a0 : (List Int)) (a1 : Int) : O41_0 → St
 | .k0 w0 w1 w2 w3 => ⟨[(0, (.one (.ref ⟨(0, 0, 0), [], 0, (length (map d_y a0))⟩))), (1, (.one (.val (.int .i64 w1)))), (5, (.one (.val (.int .i64 w2)))), (9, (.one (.val (.bool w3))))], [((0, 0, 0), .live ⟨1, (map d_y w0), []⟩)]⟩
theorem t41_0 {a0 : (List Int)} {a1 : Int} (hy0 : length a0 * 1 ≤ 140737488351232) : ∀ (y0 : List Int) (p : List Int) (v0 : List Int) (v1 : Int), p ++ y0 = a0 → length v0 = (length (map d_y a0)) → drop (length p) v0 = y0 → Ev F X (.code l41_0 (h41_0 a0 a1 (length p : Int) v0 v1) (ex41_0 (r41_0 a0 y0 (length p : Int) v0 v1)) (fin41_0 a0 a1 (r41_0 a0 y0 (length p : Int) v0 v1)))
 | [], p, v0, v1, hp0, hi0, hi1 => by
  have hc : ¬ (decide ((length p : Int) < ((length (map d_y a0)) : Int))) = true := by
   rw [← hp0]; simp only [length_map, length_set, length_append, length_replicate, length_cons, length_nil, decide_eq_true_eq]; omega
  have hj0 := hi0; try simp only [length_map, length_set, length_append, length_replicate, length_cons, length_nil, Int.toNat_natCast] at hj0
  have hj1 := hi1; try simp only [length_map, length_set, length_append, length_replicate, length_cons, length_nil, Int.toNat_natCast] at hj1
  have st := ch b41_0 [(8, .b false)] (h41_0 a0 a1 (length p : Int) v0 v1) (fin41_0 a0 a1 (.k0 v0 v1 (length p : Int) (decide ((length p : Int) < ((length (map d_y a0)) : Int))))) (.exit 0) 9 [(decide ((length p : Int) < ((length (map d_y a0)) : Int))) = false] (by kernel_rfl) ⟨(nt hc), trivial⟩
  exact .loopX st (show ((.exit 0) : VX.Exit) ≠ .normal from by simp)
 | x0 :: y0, p, v0, v1, hp0, hi0, hi1 => by
  have hc : (decide ((length p : Int) < ((length (map d_y a0)) : Int))) = true := lt1 hp0
  have Hx0 : (a0)[Int.toNat (length p : Int)]? = some x0 := by
   rw [← hp0, Int.toNat_natCast]; simp
  have hlen : length (a0) = length p + length y0 + 1 := by rw [← hp0]; simp; omega
  have hw : w64 ((length p : Int) + 1) = (length p : Int) + 1 := wrap64 (by omega)
  have hj0 := hi0; try simp only [length_map, length_set, length_append, length_replicate, length_cons, length_nil, Int.toNat_natCast] at hj0
  have hj1 := hi1; try simp only [length_map, length_set, length_append, length_replicate, length_cons, length_nil, Int.toNat_natCast] at hj1
  have Hv0 : v0[Int.toNat (length p : Int)]? = some x0 := by rw [Int.toNat_natCast]; exact drop_at hi1
  simp only [r41_0]
  have st := ch b41_0 [(8, .b true), (20, .rowD [(.val (.int .u8 x0))]), (21, .norm (0, 0, 0) (map d_y (set v0 (Int.toNat (length p : Int)) (IntKind.wrap .u8 (v1)))))] (h41_0 a0 a1 (length p : Int) v0 v1) ⟨[(0, (.one (.ref ⟨(0, 0, 0), [], 0, (length (map d_y a0))⟩))), (1, (.oi (w64 (v1 + 1)))), (5, (.oi (w64 ((length p : Int) + 1))))], [((0, 0, 0), .live ⟨1, (map d_y (set v0 (Int.toNat (length p : Int)) (IntKind.wrap .u8 (v1)))), []⟩)]⟩ .normal 34 [(decide ((length p : Int) < ((length (map d_y a0)) : Int))) = true, 0 + (length (map d_y a0)) ≤ (length (map d_y v0)), 0 ≤ (length p : Int) ∧ (length p : Int) < ((length (map d_y a0)) : Int), (map d_y v0)[(0 + (Int.toNat (length p : Int)))]? = some [(.val (.int .u8 x0))], (set (map d_y v0) (0 + (Int.toNat (length p : Int))) [(.val (.int .u8 (IntKind.wrap .u8 (v1))))]) = (map d_y (set v0 (Int.toNat (length p : Int)) (IntKind.wrap .u8 (v1)))), True, True] (by kernel_rfl) ⟨hc, (by simp only [length_map]; omega), (by omega), (by rw [Nat.zero_add, getElem?_map, Hv0]; rfl), (by simp [byteRows_eq, ints_y, take_of_length_le, d_y, d_LyE, d_b, d_isii, d_iiLisiiE, d_i, d_LLyEE, d_s, d_LisiiE, fromBR_y, fromBR_b, fromBR_isii, fromBR_i, fromBR_s, four_len, high4, high2]; done), trivial, trivial, trivial⟩
  have ih := t41_0 (a0 := a0) (a1 := a1) hy0 y0 (p ++ [x0]) (set v0 (Int.toNat (length p : Int)) (IntKind.wrap .u8 (v1))) (w64 (v1 + 1)) (by rw [append_assoc]; exact hp0) (by simp only [length_map, length_set, length_append, length_replicate, length_cons, length_nil]; omega) (by simp only [length_map, length_set, length_append, length_replicate, length_cons, length_nil, Int.toNat_natCast]; first | exact drop_set_next hi1 _ | exact drop_next hi1)
  rw [show ((p ++ [x0]).length : Int) = (p.length : Int) + 1 from by simp] at ih
  replace st := to_ (s' := h41_0 a0 a1 ((length p : Int) + 1) (set v0 (Int.toNat (length p : Int)) (IntKind.wrap .u8 (v1))) (w64 (v1 + 1))) st (by unfold h41_0; simp only [hw]; done)
  exact .loopN st ih
def post41_0 (n0 : Nat) : O41_0 → Prop
 | .k0 w0 _ _ _ => length w0 = n0
theorem z41_0 {a0 : (List Int)} : ∀ (y0 : List Int) (i : Int) (v0 : List Int) (v1 : Int), post41_0 (length v0) (r41_0 a0 y0 i v0 v1)
 | [], i, v0, v1 => by
  first | trivial | (simp only [post41_0, length_nil, Nat.add_zero]; done) | (simp [post41_0]; done)
 | x0 :: y0, i, v0, v1 => by
  simp only [r41_0]
  have z := z41_0 (a0 := a0) y0 (i + 1) (set v0 (Int.toNat i) (IntKind.wrap .u8 (v1))) (w64 (v1 + 1))
  rw [show (length v0) = (length (set v0 (Int.toNat i) (IntKind.wrap .u8 (v1)))) from by first | omega | (simp only [length_map, length_set, length_append, length_replicate, length_cons, length_nil]; done) | (simp only [length_map, length_set, length_append, length_replicate, length_cons, length_nil]; omega)]
  exact z
end Go.Proofs.YtdnopbpdiineiaaDoor.ReadEntries
