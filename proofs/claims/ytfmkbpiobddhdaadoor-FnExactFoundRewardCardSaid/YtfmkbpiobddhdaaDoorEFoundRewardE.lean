/- What the functions compute. -/
import Derived.Test.YtfmkbpiobddhdaaDoorEFoundRewardD
import Derived.KernelRfl
namespace Go.Proofs.YtfmkbpiobddhdaaDoor.FoundReward
open Go Go.Proofs.YtfmkbpiobddhdaaDoor.V
set_option linter.unusedVariables false
set_option linter.unusedSimpArgs false
set_option maxRecDepth 20000
open List (length_replicate length_map length_set length_append length_cons length_nil length_take length_drop take_of_length_le map_take map_drop map_set append_assoc getElem?_map map length take drop getD set)
attribute [local simp] toBR_si fullR_si pureR_si lenB_si lenD_si fromBR_si copy_si toBR_R fullR_R pureR_R lenB_R lenD_R toBR_B fullR_B pureR_B lenB_B lenD_B toBR_i fullR_i pureR_i lenB_i lenD_i fromBR_i copy_i toBR_b fullR_b pureR_b lenB_b lenD_b fromBR_b copy_b toBR_C fullR_C pureR_C lenB_C lenD_C toBR_LsiE fullR_LsiE pureR_LsiE lenB_LsiE lenD_LsiE toBR_Q fullR_Q pureR_Q lenB_Q lenD_Q toBR_s fullR_s pureR_s lenB_s lenD_s fromBR_s copy_s toBR_LiE fullR_LiE pureR_LiE lenB_LiE lenD_LiE strInts_len byteRows_len toBR_y fullR_y pureR_y lenB_y lenD_y fromBR_y copy_y
inductive O140_0 where
 | k0 (w0 : List K_R) (w1 : Int) (w2 : Bool)
def r140_0 (a0 : K_B) : List K_R → Int → List K_R → O140_0
 | x0 :: y0, i, v0 =>
  (r140_0 a0 y0 (i + 1) (v0 ++ ([x0])))
 | [], i, v0 => (O140_0.k0 v0 i (decide (i < ((length (map b_R a0.f3)) : Int))))
def h140_0 (l0_2 : Nat) (l0_3 : Nat) (l0_4 : Nat) (a0 : K_B) (i : Int) (v0 : List K_R) : St := ⟨[(1, (.ptr ⟨(1, 0, 0), [], 0, 0, 8⟩)), (2, (.ptr ⟨(2, 0, 0), [], 0, 0, 8⟩)), (3, (.one (.ref ⟨(3, 0, 0), [], 0, (length (map d_R v0))⟩))), (16, (.one (.bor l0_3 (map b_R a0.f3)))), (17, (.one (.val (.int .i64 ((length (map b_R a0.f3)) : Int))))), (18, (.one (.val (.int .i64 i))))], [((1, 0, 0), .live ⟨8, [[(.val (.int .i64 a0.f0)), (.val (.int .i64 a0.f1)), (.own 2 (map d_si a0.f2)), (.bor l0_3 (map b_R a0.f3)), (.own 2 (map d_si a0.f4)), (.val (.int .i64 a0.f5)), (.val (.int .i64 a0.f6)), (.val (.int .i64 a0.f7))]], []⟩), ((2, 0, 0), .live ⟨8, [[(.val (.int .i64 0)), (.val (.int .i64 0)), (.own 2 []), (.own 5 []), (.own 2 []), (.val (.int .i64 0)), (.val (.int .i64 0)), (.val (.int .i64 0))]], []⟩), ((3, 0, 0), .live ⟨5, (map d_R v0), []⟩)]⟩
def ex140_0 : O140_0 → VX.Exit
 | .k0 _ _ _ => (.exit 0)
def fin140_0 (l0_2 : Nat) (l0_3 : Nat) (l0_4 : Nat) (a0 : K_B) : O140_0 → St
 | .k0 w0 w1 w2 => ⟨[(1, (.ptr ⟨(1, 0, 0), [], 0, 0, 8⟩)), (2, (.ptr ⟨(2, 0, 0), [], 0, 0, 8⟩)), (3, (.one (.ref ⟨(3, 0, 0), [], 0, (length (map d_R w0))⟩))), (16, (.one (.bor l0_3 (map b_R a0.f3)))), (17, (.one (.val (.int .i64 ((length (map b_R a0.f3)) : Int))))), (18, (.one (.val (.int .i64 w1)))), (19, (.one (.val (.bool w2))))], [((1, 0, 0), .live ⟨8, [[(.val (.int .i64 a0.f0)), (.val (.int .i64 a0.f1)), (.own 2 (map d_si a0.f2)), (.bor l0_3 (map b_R a0.f3)), (.own 2 (map d_si a0.f4)), (.val (.int .i64 a0.f5)), (.val (.int .i64 a0.f6)), (.val (.int .i64 a0.f7))]], []⟩), ((2, 0, 0), .live ⟨8, [[(.val (.int .i64 0)), (.val (.int .i64 0)), (.own 2 []), (.own 5 []), (.own 2 []), (.val (.int .i64 0)), (.val (.int .i64 0)), (.val (.int .i64 0))]], []⟩), ((3, 0, 0), .live ⟨5, (map d_R w0), []⟩)]⟩
theorem t140_0 {l0_2 : Nat} {l0_3 : Nat} {l0_4 : Nat} {a0 : K_B} (hy0 : length a0.f2 ≤ 100) (hy1 : length a0.f3 ≤ 100) (hy2 : ∀ z ∈ a0.f3, length z.f3 ≤ 100) (hy3 : length a0.f4 ≤ 100) (hy4 : ∀ z ∈ a0.f3, ok_R z) : ∀ (y0 : List K_R) (p : List K_R) (v0 : List K_R), p ++ y0 = a0.f3 → (length v0 + length y0) * 56 ≤ 70368744177664 → Ev F X (.code l140_0 (h140_0 l0_2 l0_3 l0_4 a0 (length p : Int) v0) (ex140_0 (r140_0 a0 y0 (length p : Int) v0)) (fin140_0 l0_2 l0_3 l0_4 a0 (r140_0 a0 y0 (length p : Int) v0)))
 | [], p, v0, hp0, hi0 => by
  have hc : ¬ (decide ((length p : Int) < ((length (map b_R a0.f3)) : Int))) = true := by
   rw [← hp0]; simp only [length_map, length_set, length_append, length_replicate, length_cons, length_nil, decide_eq_true_eq]; omega
  have hj0 := hi0; try simp only [length_map, length_set, length_append, length_replicate, length_cons, length_nil, Int.toNat_natCast] at hj0
  have st := ch b140_0 [(2, .b false)] (h140_0 l0_2 l0_3 l0_4 a0 (length p : Int) v0) (fin140_0 l0_2 l0_3 l0_4 a0 (.k0 v0 (length p : Int) (decide ((length p : Int) < ((length (map b_R a0.f3)) : Int))))) (.exit 0) 3 [(decide ((length p : Int) < ((length (map b_R a0.f3)) : Int))) = false] (by kernel_rfl) ⟨(nt hc), trivial⟩
  exact .loopX st (show ((.exit 0) : VX.Exit) ≠ .normal from by simp)
 | x0 :: y0, p, v0, hp0, hi0 => by
  have hc : (decide ((length p : Int) < ((length (map b_R a0.f3)) : Int))) = true := lt1 hp0
  have Hx0 : (a0.f3)[Int.toNat (length p : Int)]? = some x0 := by
   rw [← hp0, Int.toNat_natCast]; simp
  have Nx0_2 := hy2 x0 (List.mem_of_getElem? Hx0)
  have Mx0_0 := hy4 x0 (List.mem_of_getElem? Hx0)
  have hlen : length (a0.f3) = length p + length y0 + 1 := by rw [← hp0]; simp; omega
  have hw : w64 ((length p : Int) + 1) = (length p : Int) + 1 := wrap64 (by omega)
  have hj0 := hi0; try simp only [length_map, length_set, length_append, length_replicate, length_cons, length_nil, Int.toNat_natCast] at hj0
  simp only [r140_0]
  have st := ch b140_0 [(2, .b true), (4, .row (b_R x0)), (16, .ret [] [(.one (.own 2 (map d_si x0.f3)))] [] []), (28, .b false), (31, .norm (3, 0, 0) (map d_R (v0 ++ ([x0]))))] (h140_0 l0_2 l0_3 l0_4 a0 (length p : Int) v0) ⟨[(1, (.ptr ⟨(1, 0, 0), [], 0, 0, 8⟩)), (2, (.ptr ⟨(2, 0, 0), [], 0, 0, 8⟩)), (3, (.one (.ref ⟨(3, 0, 0), [], 0, (length ((take (length (map d_R v0)) (drop 0 (map d_R v0))) ++ ([[(.i x0.f0), (.i x0.f1), (.i x0.f2), (.own 2 (map d_si x0.f3)), (.i x0.f4)]] : List (List D))))⟩))), (16, (.one (.bor l0_3 (map b_R a0.f3)))), (17, (.oi ((length (map b_R a0.f3)) : Int))), (18, (.oi (w64 ((length p : Int) + 1))))], [((1, 0, 0), .live ⟨8, [[(.i a0.f0), (.i a0.f1), (.own 2 (map d_si a0.f2)), (.bor l0_3 (map b_R a0.f3)), (.own 2 (map d_si a0.f4)), (.i a0.f5), (.i a0.f6), (.i a0.f7)]], []⟩), ((2, 0, 0), .live ⟨8, [[(.i 0), (.i 0), (.own 2 []), (.own 5 []), (.own 2 []), (.i 0), (.i 0), (.i 0)]], []⟩), ((3, 0, 0), .live ⟨5, (map d_R (v0 ++ ([x0]))), []⟩)]⟩ .normal 36 [(decide ((length p : Int) < ((length (map b_R a0.f3)) : Int))) = true, 0 ≤ (length p : Int), (map b_R a0.f3)[(Int.toNat (length p : Int))]? = some (b_R x0), Ev F X (.call 106 [(.one (.bor (l0_3 + 1) (map b_si x0.f3)))] [] [] [(.one (.own 2 (map d_si x0.f3)))]), 0 = 0, (length (map d_si x0.f3)) = (length (map d_si x0.f3)), 0 = 0, (length (map d_si x0.f3)) = (length (map d_si x0.f3)), 0 + (length (map d_R v0)) ≤ (length (map d_R v0)), 1 ≤ 1, ((take 1 (drop 0 [[(.i x0.f0), (.i x0.f1), (.i x0.f2), (.own 2 (map d_si x0.f3)), (.i x0.f4)]])).all fun x => x.all copyable) = false, 0 = 0, 1 = 1, (length ((take (length (map d_R v0)) (drop 0 (map d_R v0))) ++ ([[(.i x0.f0), (.i x0.f1), (.i x0.f2), (.own 2 (map d_si x0.f3)), (.i x0.f4)]] : List (List D)))) * 56 ≤ 70368744177664, ∀ r ∈ ([[(.i x0.f0), (.i x0.f1), (.i x0.f2), (.own 2 (map d_si x0.f3)), (.i x0.f4)]] : List (List D)), r.length = 5, ((take (length (map d_R v0)) (drop 0 (map d_R v0))) ++ ([[(.i x0.f0), (.i x0.f1), (.i x0.f2), (.own 2 (map d_si x0.f3)), (.i x0.f4)]] : List (List D))) = (map d_R (v0 ++ ([x0]))), True] (by kernel_rfl) ⟨hc, (by omega), (by rw [getElem?_map, Hx0]; rfl), (e106 (a0 := x0.f3) (by omega)), rfl, rfl, rfl, rfl, (by omega), (by omega), (by trivial), rfl, rfl, (by simp only [length_map, length_append, length_cons, length_nil, length_take, length_drop]; omega), (by simp [ol85, ol86, ol27_0, ol27_1, ol27_2, ol28_0, ol28_1, ol28_2]; done), (by simp [byteRows_eq, ints_y, take_of_length_le, d_si, d_R, d_B, d_i, d_b, d_C, d_LsiE, d_Q, d_s, d_LiE, d_y, fromBR_si, fromBR_i, fromBR_b, fromBR_s, fromBR_y, ol85, ol86, ol27_0, ol27_1, ol27_2, ol28_0, ol28_1, ol28_2]; done), trivial, trivial⟩
  have ih := t140_0 (l0_2 := l0_2) (l0_3 := l0_3) (l0_4 := l0_4) (a0 := a0) hy0 hy1 hy2 hy3 hy4 y0 (p ++ [x0]) (v0 ++ ([x0])) (by rw [append_assoc]; exact hp0) (by simp only [length_map, length_set, length_append, length_replicate, length_cons, length_nil]; omega)
  rw [show ((p ++ [x0]).length : Int) = (p.length : Int) + 1 from by simp] at ih
  replace st := to_ (s' := h140_0 l0_2 l0_3 l0_4 a0 ((length p : Int) + 1) (v0 ++ ([x0]))) st (by unfold h140_0; simp [hw, byteRows_eq, ints_y, take_of_length_le, d_si, d_R, d_B, d_i, d_b, d_C, d_LsiE, d_Q, d_s, d_LiE, d_y, fromBR_si, fromBR_i, fromBR_b, fromBR_s, fromBR_y, ol85, ol86, ol27_0, ol27_1, ol27_2, ol28_0, ol28_1, ol28_2]; done)
  exact .loopN st ih
def post140_0 (n0 : Nat) : O140_0 → Prop
 | .k0 w0 _ _ => length w0 = n0
theorem z140_0 {a0 : K_B} : ∀ (y0 : List K_R) (i : Int) (v0 : List K_R), post140_0 (length v0 + length y0) (r140_0 a0 y0 i v0)
 | [], i, v0 => by
  first | trivial | (simp only [post140_0, length_nil, Nat.add_zero]; done) | (simp [post140_0]; done)
 | x0 :: y0, i, v0 => by
  simp only [r140_0]
  have z := z140_0 (a0 := a0) y0 (i + 1) (v0 ++ ([x0]))
  rw [show (length v0 + length (x0 :: y0)) = (length (v0 ++ ([x0])) + length y0) from by first | omega | (simp only [length_map, length_set, length_append, length_replicate, length_cons, length_nil]; done) | (simp only [length_map, length_set, length_append, length_replicate, length_cons, length_nil]; omega)]
  exact z
def m140 (a0 : K_B) : K_B :=
 (match r140_0 a0 a0.f3 0 ([]) with | .k0 w0_2 w1_2 w2_2 => (K_B.mk a0.f0 a0.f1 a0.f2 w0_2 a0.f4 a0.f5 a0.f6 a0.f7))
theorem e140 {l0_2 : Nat} {l0_3 : Nat} {l0_4 : Nat} {a0 : K_B} (hy0 : length a0.f2 ≤ 100) (hy1 : length a0.f3 ≤ 100) (hy2 : ∀ z ∈ a0.f3, length z.f3 ≤ 100) (hy3 : length a0.f4 ≤ 100) (hy4 : ∀ z ∈ a0.f3, ok_R z) : Ev F X (.call 140 [(.agg [(.val (.int .i64 a0.f0)), (.val (.int .i64 a0.f1)), (.bor l0_2 (map b_si a0.f2)), (.bor l0_3 (map b_R a0.f3)), (.bor l0_4 (map b_si a0.f4)), (.val (.int .i64 a0.f5)), (.val (.int .i64 a0.f6)), (.val (.int .i64 a0.f7))])] [] [] [(.agg [(.val (.int .i64 ((m140 a0).f0))), (.val (.int .i64 ((m140 a0).f1))), (.own 2 (map d_si ((m140 a0).f2))), (.own 5 (map d_R ((m140 a0).f3))), (.own 2 (map d_si ((m140 a0).f4))), (.val (.int .i64 ((m140 a0).f5))), (.val (.int .i64 ((m140 a0).f6))), (.val (.int .i64 ((m140 a0).f7)))])]) := by
 unfold m140
 have f0 := e106 (l0 := l0_2 + 1) (a0 := a0.f2) (by omega)
 have f1 := e106 (l0 := l0_4 + 1) (a0 := a0.f4) (by omega)
 cases h0 : r140_0 a0 a0.f3 0 ([]) with
 | k0 w0_2 w1_2 w2_2 =>
  try dsimp only
  have zh0 := z140_0 (a0 := a0) a0.f3 0 ([]); rw [h0] at zh0; simp only [post140_0, length_map, length_set, length_append, length_replicate, length_cons, length_nil, Int.toNat_natCast] at zh0
  have f6 : (⟨[(1, (.ptr ⟨(1, 0, 0), [], 0, 0, 8⟩)), (2, (.ptr ⟨(2, 0, 0), [], 0, 0, 8⟩)), (3, (.one (.ref ⟨(3, 0, 0), [], 0, 0⟩))), (16, (.one (.bor l0_3 (map b_R a0.f3)))), (17, (.oi ((length (map b_R a0.f3)) : Int))), (18, (.oi 0))], [((1, 0, 0), .live ⟨8, [[(.i a0.f0), (.i a0.f1), (.own 2 (map d_si a0.f2)), (.bor l0_3 (map b_R a0.f3)), (.own 2 (map d_si a0.f4)), (.i a0.f5), (.i a0.f6), (.i a0.f7)]], []⟩), ((2, 0, 0), .live ⟨8, [[(.i 0), (.i 0), (.own 2 []), (.own 5 []), (.own 2 []), (.i 0), (.i 0), (.i 0)]], []⟩), ((3, 0, 0), .live ⟨5, [], []⟩)]⟩ : St) = h140_0 l0_2 l0_3 l0_4 a0 0 ([]) := (by rfl)
  have f7 : Ev F X (.code l140_0 (h140_0 l0_2 l0_3 l0_4 a0 0 ([])) (.exit 0) ⟨[(1, (.ptr ⟨(1, 0, 0), [], 0, 0, 8⟩)), (2, (.ptr ⟨(2, 0, 0), [], 0, 0, 8⟩)), (3, (.one (.ref ⟨(3, 0, 0), [], 0, (length (map d_R w0_2))⟩))), (16, (.one (.bor l0_3 (map b_R a0.f3)))), (17, (.oi ((length (map b_R a0.f3)) : Int))), (18, (.oi w1_2)), (19, (.one (.val (.bool w2_2))))], [((1, 0, 0), .live ⟨8, [[(.i a0.f0), (.i a0.f1), (.own 2 (map d_si a0.f2)), (.bor l0_3 (map b_R a0.f3)), (.own 2 (map d_si a0.f4)), (.i a0.f5), (.i a0.f6), (.i a0.f7)]], []⟩), ((2, 0, 0), .live ⟨8, [[(.i 0), (.i 0), (.own 2 []), (.own 5 []), (.own 2 []), (.i 0), (.i 0), (.i 0)]], []⟩), ((3, 0, 0), .live ⟨5, (map d_R w0_2), []⟩)]⟩) := (by have t : Ev F X (.code l140_0 (h140_0 l0_2 l0_3 l0_4 a0 0 ([])) (ex140_0 (r140_0 a0 a0.f3 0 ([]))) (fin140_0 l0_2 l0_3 l0_4 a0 (r140_0 a0 a0.f3 0 ([])))) := t140_0 (l0_2 := l0_2) (l0_3 := l0_3) (l0_4 := l0_4) (a0 := a0) (by assumption) (by assumption) (by assumption) (by assumption) (by assumption) a0.f3 [] ([]) rfl (by simp only [length_map, length_set, length_append, length_replicate, length_cons, length_nil]; omega); rw [h0] at t; exact t)
  exact cp (by kernel_rfl) (.r 9 [] [] f0 (.r 15 [] [] f1 (.e 0 (.e (length (map d_si a0.f2)) (.e 0 (.e (length (map d_si a0.f4)) (.f f6 (.f f7 (.e 0 (.e (length (map d_R w0_2)) (.e 0 (.e (length (map d_si a0.f2)) (.e 0 (.e (length (map d_R w0_2)) (.e 0 (.e (length (map d_si a0.f4)) (.f (pureR_si (a0.f2)) (.f (pureR_R w0_2) (.f (pureR_si (a0.f4)) (.h 36 (.loop (h140_0 l0_2 l0_3 l0_4 a0 0 ([])) (.exit 0) ⟨[(1, (.ptr ⟨(1, 0, 0), [], 0, 0, 8⟩)), (2, (.ptr ⟨(2, 0, 0), [], 0, 0, 8⟩)), (3, (.one (.ref ⟨(3, 0, 0), [], 0, (length (map d_R w0_2))⟩))), (16, (.one (.bor l0_3 (map b_R a0.f3)))), (17, (.oi ((length (map b_R a0.f3)) : Int))), (18, (.oi w1_2)), (19, (.one (.val (.bool w2_2))))], [((1, 0, 0), .live ⟨8, [[(.i a0.f0), (.i a0.f1), (.own 2 (map d_si a0.f2)), (.bor l0_3 (map b_R a0.f3)), (.own 2 (map d_si a0.f4)), (.i a0.f5), (.i a0.f6), (.i a0.f7)]], []⟩), ((2, 0, 0), .live ⟨8, [[(.i 0), (.i 0), (.own 2 []), (.own 5 []), (.own 2 []), (.i 0), (.i 0), (.i 0)]], []⟩), ((3, 0, 0), .live ⟨5, (map d_R w0_2), []⟩)]⟩) .nil))))))))))))))))))))
theorem cl140 (a0 : K_B) : ∀ (l : List K_R) (i : Int) (v : List K_R), ∃ j b, r140_0 a0 l i v = .k0 (v ++ l) j b
 | [], i, v => ⟨_, _, by rw [List.append_nil]; rfl⟩
 | x :: l, i, v => by
  obtain ⟨j, b, h⟩ := cl140 a0 l (i + 1) (v ++ [x])
  refine ⟨j, b, ?_⟩
  simp only [r140_0]
  rw [show v ++ x :: l = (v ++ [x]) ++ l by simp, ← h]
theorem cp140 (a0 : K_B) : m140 a0 = a0 := by
 unfold m140
 obtain ⟨j, b, h⟩ := cl140 a0 a0.f3 0 []
 rw [h]; rfl
inductive O112_0 where
 | k0 (w0 : List K_si) (w1 : Int) (w2 : Bool)
def r112_0 (a0 : (List K_si)) : List K_si → Int → List K_si → O112_0
 | x0 :: y0, i, v0 =>
  if (decide ((m1014700 v0 x0.f0) ≥ 0)) = true then (r112_0 a0 y0 (i + 1) (set v0 (Int.toNat (m1014700 v0 x0.f0)) (K_si.mk ((getD v0 (Int.toNat (m1014700 v0 x0.f0)) (K_si.mk (⟨#[]⟩ : ByteArray) 0)).f0) (w64 (((getD v0 (Int.toNat (m1014700 v0 x0.f0)) (K_si.mk (⟨#[]⟩ : ByteArray) 0)).f1) + x0.f1))))) else
  (r112_0 a0 y0 (i + 1) (v0 ++ ([x0])))
 | [], i, v0 => (O112_0.k0 v0 i (decide (i < ((length (map b_si a0)) : Int))))
def h112_0 (l0_0 : Nat) (a0 : (List K_si)) (i : Int) (v0 : List K_si) : St := ⟨[(3, (.one (.ref ⟨(3, 0, 0), [], 0, (length (map d_si v0))⟩))), (8, (.one (.bor l0_0 (map b_si a0)))), (9, (.one (.val (.int .i64 ((length (map b_si a0)) : Int))))), (10, (.one (.val (.int .i64 i))))], [((3, 0, 0), .live ⟨2, (map d_si v0), []⟩)]⟩
def ex112_0 : O112_0 → VX.Exit
 | .k0 _ _ _ => (.exit 0)
def fin112_0 (l0_0 : Nat) (a0 : (List K_si)) : O112_0 → St
 | .k0 w0 w1 w2 => ⟨[(3, (.one (.ref ⟨(3, 0, 0), [], 0, (length (map d_si w0))⟩))), (8, (.one (.bor l0_0 (map b_si a0)))), (9, (.one (.val (.int .i64 ((length (map b_si a0)) : Int))))), (10, (.one (.val (.int .i64 w1)))), (11, (.one (.val (.bool w2))))], [((3, 0, 0), .live ⟨2, (map d_si w0), []⟩)]⟩
theorem t112_0 {l0_0 : Nat} {a0 : (List K_si)} (hy0 : length a0 * 24 ≤ 70368744177664) : ∀ (y0 : List K_si) (p : List K_si) (v0 : List K_si), p ++ y0 = a0 → (length v0 + length y0) * 24 ≤ 70368744177664 → Ev F X (.code l112_0 (h112_0 l0_0 a0 (length p : Int) v0) (ex112_0 (r112_0 a0 y0 (length p : Int) v0)) (fin112_0 l0_0 a0 (r112_0 a0 y0 (length p : Int) v0)))
 | [], p, v0, hp0, hi0 => by
  have hc : ¬ (decide ((length p : Int) < ((length (map b_si a0)) : Int))) = true := by
   rw [← hp0]; simp only [length_map, length_set, length_append, length_replicate, length_cons, length_nil, decide_eq_true_eq]; omega
  have hj0 := hi0; try simp only [length_map, length_set, length_append, length_replicate, length_cons, length_nil, Int.toNat_natCast] at hj0
  have st := ch b112_0 [(2, .b false)] (h112_0 l0_0 a0 (length p : Int) v0) (fin112_0 l0_0 a0 (.k0 v0 (length p : Int) (decide ((length p : Int) < ((length (map b_si a0)) : Int))))) (.exit 0) 3 [(decide ((length p : Int) < ((length (map b_si a0)) : Int))) = false] (by kernel_rfl) ⟨(nt hc), trivial⟩
  exact .loopX st (show ((.exit 0) : VX.Exit) ≠ .normal from by simp)
 | x0 :: y0, p, v0, hp0, hi0 => by
  have hc : (decide ((length p : Int) < ((length (map b_si a0)) : Int))) = true := lt1 hp0
  have Hx0 : (a0)[Int.toNat (length p : Int)]? = some x0 := by
   rw [← hp0, Int.toNat_natCast]; simp
  have hlen : length (a0) = length p + length y0 + 1 := by rw [← hp0]; simp; omega
  have hw : w64 ((length p : Int) + 1) = (length p : Int) + 1 := wrap64 (by omega)
  have hj0 := hi0; try simp only [length_map, length_set, length_append, length_replicate, length_cons, length_nil, Int.toNat_natCast] at hj0
  simp only [r112_0]
  by_cases h_1 : (decide ((m1014700 v0 x0.f0) ≥ 0)) = true
  ·try simp only [if_pos h_1]
   have st := ch b112_0 [(2, .b true), (4, .row (b_si x0)), (18, .ret [] [(.oi (m1014700 v0 x0.f0))] [] [(map b_si v0)]), (25, .b true), (35, .rowD [(.val (.string ((getD v0 (Int.toNat (m1014700 v0 x0.f0)) (K_si.mk (⟨#[]⟩ : ByteArray) 0)).f0))), (.i ((getD v0 (Int.toNat (m1014700 v0 x0.f0)) (K_si.mk (⟨#[]⟩ : ByteArray) 0)).f1))]), (47, .rowD [(.val (.string ((getD v0 (Int.toNat (m1014700 v0 x0.f0)) (K_si.mk (⟨#[]⟩ : ByteArray) 0)).f0))), (.i ((getD v0 (Int.toNat (m1014700 v0 x0.f0)) (K_si.mk (⟨#[]⟩ : ByteArray) 0)).f1))]), (48, .norm (3, 0, 0) (map d_si (set v0 (Int.toNat (m1014700 v0 x0.f0)) (K_si.mk ((getD v0 (Int.toNat (m1014700 v0 x0.f0)) (K_si.mk (⟨#[]⟩ : ByteArray) 0)).f0) (w64 (((getD v0 (Int.toNat (m1014700 v0 x0.f0)) (K_si.mk (⟨#[]⟩ : ByteArray) 0)).f1) + x0.f1))))))] (h112_0 l0_0 a0 (length p : Int) v0) ⟨[(3, (.one (.ref ⟨(3, 0, 0), [], 0, (length (map d_si v0))⟩))), (8, (.one (.bor l0_0 (map b_si a0)))), (9, (.oi ((length (map b_si a0)) : Int))), (10, (.oi (w64 ((length p : Int) + 1))))], [((3, 0, 0), .live ⟨2, (map d_si (set v0 (Int.toNat (m1014700 v0 x0.f0)) (K_si.mk ((getD v0 (Int.toNat (m1014700 v0 x0.f0)) (K_si.mk (⟨#[]⟩ : ByteArray) 0)).f0) (w64 (((getD v0 (Int.toNat (m1014700 v0 x0.f0)) (K_si.mk (⟨#[]⟩ : ByteArray) 0)).f1) + x0.f1))))), []⟩)]⟩ .normal 53 [(decide ((length p : Int) < ((length (map b_si a0)) : Int))) = true, 0 ≤ (length p : Int), (map b_si a0)[(Int.toNat (length p : Int))]? = some (b_si x0), 0 + (length (map d_si v0)) ≤ (length (map d_si v0)), fullR (take (length (map d_si v0)) (drop 0 (map d_si v0))) = true, toBR (take (length (map d_si v0)) (drop 0 (map d_si v0))) = (map b_si v0), Ev F X (.call 94 [(.one (.bor 0 (map b_si v0))), (.one (.val (.string x0.f0)))] [] [] [(.oi (m1014700 v0 x0.f0))]), (decide ((m1014700 v0 x0.f0) ≥ 0)) = true, 0 + (length (map d_si v0)) ≤ (length (map d_si v0)), 0 ≤ (m1014700 v0 x0.f0) ∧ (m1014700 v0 x0.f0) < ((length (map d_si v0)) : Int), (map d_si v0)[(0 + (Int.toNat (m1014700 v0 x0.f0)))]? = some [(.val (.string ((getD v0 (Int.toNat (m1014700 v0 x0.f0)) (K_si.mk (⟨#[]⟩ : ByteArray) 0)).f0))), (.i ((getD v0 (Int.toNat (m1014700 v0 x0.f0)) (K_si.mk (⟨#[]⟩ : ByteArray) 0)).f1))], True, 0 + (length (map d_si v0)) ≤ (length (map d_si v0)), 0 ≤ (m1014700 v0 x0.f0) ∧ (m1014700 v0 x0.f0) < ((length (map d_si v0)) : Int), (map d_si v0)[(0 + (Int.toNat (m1014700 v0 x0.f0)))]? = some [(.val (.string ((getD v0 (Int.toNat (m1014700 v0 x0.f0)) (K_si.mk (⟨#[]⟩ : ByteArray) 0)).f0))), (.i ((getD v0 (Int.toNat (m1014700 v0 x0.f0)) (K_si.mk (⟨#[]⟩ : ByteArray) 0)).f1))], (set (map d_si v0) (0 + (Int.toNat (m1014700 v0 x0.f0))) [(.val (.string ((getD v0 (Int.toNat (m1014700 v0 x0.f0)) (K_si.mk (⟨#[]⟩ : ByteArray) 0)).f0))), (.i (w64 (((getD v0 (Int.toNat (m1014700 v0 x0.f0)) (K_si.mk (⟨#[]⟩ : ByteArray) 0)).f1) + x0.f1)))]) = (map d_si (set v0 (Int.toNat (m1014700 v0 x0.f0)) (K_si.mk ((getD v0 (Int.toNat (m1014700 v0 x0.f0)) (K_si.mk (⟨#[]⟩ : ByteArray) 0)).f0) (w64 (((getD v0 (Int.toNat (m1014700 v0 x0.f0)) (K_si.mk (⟨#[]⟩ : ByteArray) 0)).f1) + x0.f1))))), True] (by kernel_rfl) ⟨hc, (by omega), (by rw [getElem?_map, Hx0]; rfl), (by omega), (ft_si _ _ _), (tb_si _), (e94 (a0 := v0) (a1 := x0.f0) (by omega)), h_1, (by omega), (by have q := ix1014700 v0 x0.f0; simp only [decide_eq_true_eq, length_map] at *; omega), (by rw [Nat.zero_add, getElem?_map, getD_at v0 (Int.toNat (m1014700 v0 x0.f0)) (K_si.mk (⟨#[]⟩ : ByteArray) 0) (by first | exact True.intro | with_reducible rfl | with_reducible assumption | omega | (have q := ix1014700 v0 x0.f0; simp only [decide_eq_true_eq, length_map] at *; omega) | (unfold m1014700; (repeat' split) <;> simp_all <;> omega) | (simp only [decide_eq_true_eq] at *; omega) | (simp only [length_map]; omega) | (simp [ol85, ol86, ol27_0, ol27_1, ol27_2, ol28_0, ol28_1, ol28_2]; omega) | (simp [take_of_length_le, ol85, ol86, ol27_0, ol27_1, ol27_2, ol28_0, ol28_1, ol28_2]; done) | assumption | trivial | (simp [*, ol85, ol86, ol27_0, ol27_1, ol27_2, ol28_0, ol28_1, ol28_2, byteRows_eq, ints_y]; done))]; rfl), trivial, (by omega), (by have q := ix1014700 v0 x0.f0; simp only [decide_eq_true_eq, length_map] at *; omega), (by rw [Nat.zero_add, getElem?_map, getD_at v0 (Int.toNat (m1014700 v0 x0.f0)) (K_si.mk (⟨#[]⟩ : ByteArray) 0) (by first | exact True.intro | with_reducible rfl | with_reducible assumption | omega | (have q := ix1014700 v0 x0.f0; simp only [decide_eq_true_eq, length_map] at *; omega) | (unfold m1014700; (repeat' split) <;> simp_all <;> omega) | (simp only [decide_eq_true_eq] at *; omega) | (simp only [length_map]; omega) | (simp [ol85, ol86, ol27_0, ol27_1, ol27_2, ol28_0, ol28_1, ol28_2]; omega) | (simp [take_of_length_le, ol85, ol86, ol27_0, ol27_1, ol27_2, ol28_0, ol28_1, ol28_2]; done) | assumption | trivial | (simp [*, ol85, ol86, ol27_0, ol27_1, ol27_2, ol28_0, ol28_1, ol28_2, byteRows_eq, ints_y]; done))]; rfl), (by simp [byteRows_eq, ints_y, take_of_length_le, d_si, d_R, d_B, d_i, d_b, d_C, d_LsiE, d_Q, d_s, d_LiE, d_y, fromBR_si, fromBR_i, fromBR_b, fromBR_s, fromBR_y, ol85, ol86, ol27_0, ol27_1, ol27_2, ol28_0, ol28_1, ol28_2]; done), trivial, trivial⟩
   have ih := t112_0 (l0_0 := l0_0) (a0 := a0) hy0 y0 (p ++ [x0]) (set v0 (Int.toNat (m1014700 v0 x0.f0)) (K_si.mk ((getD v0 (Int.toNat (m1014700 v0 x0.f0)) (K_si.mk (⟨#[]⟩ : ByteArray) 0)).f0) (w64 (((getD v0 (Int.toNat (m1014700 v0 x0.f0)) (K_si.mk (⟨#[]⟩ : ByteArray) 0)).f1) + x0.f1)))) (by rw [append_assoc]; exact hp0) (by simp only [length_map, length_set, length_append, length_replicate, length_cons, length_nil]; omega)
   rw [show ((p ++ [x0]).length : Int) = (p.length : Int) + 1 from by simp] at ih
   replace st := to_ (s' := h112_0 l0_0 a0 ((length p : Int) + 1) (set v0 (Int.toNat (m1014700 v0 x0.f0)) (K_si.mk ((getD v0 (Int.toNat (m1014700 v0 x0.f0)) (K_si.mk (⟨#[]⟩ : ByteArray) 0)).f0) (w64 (((getD v0 (Int.toNat (m1014700 v0 x0.f0)) (K_si.mk (⟨#[]⟩ : ByteArray) 0)).f1) + x0.f1))))) st (by unfold h112_0; simp only [hw, length_map, length_set, length_append, length_replicate, length_cons, length_nil]; done)
   exact .loopN st ih
  ·try simp only [if_neg h_1]
   have st := ch b112_0 [(2, .b true), (4, .row (b_si x0)), (18, .ret [] [(.oi (m1014700 v0 x0.f0))] [] [(map b_si v0)]), (25, .b false), (33, .b true), (36, .norm (3, 0, 0) (map d_si (v0 ++ ([x0]))))] (h112_0 l0_0 a0 (length p : Int) v0) ⟨[(3, (.one (.ref ⟨(3, 0, 0), [], 0, (length ((take (length (map d_si v0)) (drop 0 (map d_si v0))) ++ ([[(.val (.string x0.f0)), (.i x0.f1)]] : List (List D))))⟩))), (8, (.one (.bor l0_0 (map b_si a0)))), (9, (.oi ((length (map b_si a0)) : Int))), (10, (.oi (w64 ((length p : Int) + 1))))], [((3, 0, 0), .live ⟨2, (map d_si (v0 ++ ([x0]))), []⟩)]⟩ .normal 41 [(decide ((length p : Int) < ((length (map b_si a0)) : Int))) = true, 0 ≤ (length p : Int), (map b_si a0)[(Int.toNat (length p : Int))]? = some (b_si x0), 0 + (length (map d_si v0)) ≤ (length (map d_si v0)), fullR (take (length (map d_si v0)) (drop 0 (map d_si v0))) = true, toBR (take (length (map d_si v0)) (drop 0 (map d_si v0))) = (map b_si v0), Ev F X (.call 94 [(.one (.bor 0 (map b_si v0))), (.one (.val (.string x0.f0)))] [] [] [(.oi (m1014700 v0 x0.f0))]), (decide ((m1014700 v0 x0.f0) ≥ 0)) = false, 0 + (length (map d_si v0)) ≤ (length (map d_si v0)), 1 ≤ 1, ((take 1 (drop 0 [[(.val (.string x0.f0)), (.i x0.f1)]])).all fun x => x.all copyable) = true, (length ((take (length (map d_si v0)) (drop 0 (map d_si v0))) ++ ([[(.val (.string x0.f0)), (.i x0.f1)]] : List (List D)))) * 24 ≤ 70368744177664, ∀ r ∈ ([[(.val (.string x0.f0)), (.i x0.f1)]] : List (List D)), r.length = 2, ((take (length (map d_si v0)) (drop 0 (map d_si v0))) ++ ([[(.val (.string x0.f0)), (.i x0.f1)]] : List (List D))) = (map d_si (v0 ++ ([x0]))), True] (by kernel_rfl) ⟨hc, (by omega), (by rw [getElem?_map, Hx0]; rfl), (by omega), (ft_si _ _ _), (tb_si _), (e94 (a0 := v0) (a1 := x0.f0) (by omega)), (nt h_1), (by omega), (by omega), (by trivial), (by simp only [length_map, length_append, length_cons, length_nil, length_take, length_drop]; omega), (by simp [ol85, ol86, ol27_0, ol27_1, ol27_2, ol28_0, ol28_1, ol28_2]; done), (by simp [byteRows_eq, ints_y, take_of_length_le, d_si, d_R, d_B, d_i, d_b, d_C, d_LsiE, d_Q, d_s, d_LiE, d_y, fromBR_si, fromBR_i, fromBR_b, fromBR_s, fromBR_y, ol85, ol86, ol27_0, ol27_1, ol27_2, ol28_0, ol28_1, ol28_2]; done), trivial, trivial⟩
   have ih := t112_0 (l0_0 := l0_0) (a0 := a0) hy0 y0 (p ++ [x0]) (v0 ++ ([x0])) (by rw [append_assoc]; exact hp0) (by simp only [length_map, length_set, length_append, length_replicate, length_cons, length_nil]; omega)
   rw [show ((p ++ [x0]).length : Int) = (p.length : Int) + 1 from by simp] at ih
   replace st := to_ (s' := h112_0 l0_0 a0 ((length p : Int) + 1) (v0 ++ ([x0]))) st (by unfold h112_0; simp [hw, byteRows_eq, ints_y, take_of_length_le, d_si, d_R, d_B, d_i, d_b, d_C, d_LsiE, d_Q, d_s, d_LiE, d_y, fromBR_si, fromBR_i, fromBR_b, fromBR_s, fromBR_y, ol85, ol86, ol27_0, ol27_1, ol27_2, ol28_0, ol28_1, ol28_2]; done)
   exact .loopN st ih
def m112 (a0 : (List K_si)) : (List K_si) :=
 (match r112_0 a0 a0 0 ([]) with | .k0 w0_0 w1_0 w2_0 => w0_0)
theorem e112 {l0_0 : Nat} {a0 : (List K_si)} (hy0 : length a0 * 24 ≤ 70368744177664) : Ev F X (.call 112 [(.one (.bor l0_0 (map b_si a0)))] [] [] [(.one (.own 2 (map d_si (m112 a0))))]) := by
 unfold m112
 cases h0 : r112_0 a0 a0 0 ([]) with
 | k0 w0_0 w1_0 w2_0 =>
  try dsimp only
  have f0 : (⟨[(3, (.one (.ref ⟨(3, 0, 0), [], 0, 0⟩))), (8, (.one (.bor l0_0 (map b_si a0)))), (9, (.oi ((length (map b_si a0)) : Int))), (10, (.oi 0))], [((3, 0, 0), .live ⟨2, [], []⟩)]⟩ : St) = h112_0 l0_0 a0 0 ([]) := (by rfl)
  have f1 : Ev F X (.code l112_0 (h112_0 l0_0 a0 0 ([])) (.exit 0) ⟨[(3, (.one (.ref ⟨(3, 0, 0), [], 0, (length (map d_si w0_0))⟩))), (8, (.one (.bor l0_0 (map b_si a0)))), (9, (.oi ((length (map b_si a0)) : Int))), (10, (.oi w1_0)), (11, (.one (.val (.bool w2_0))))], [((3, 0, 0), .live ⟨2, (map d_si w0_0), []⟩)]⟩) := (by have t : Ev F X (.code l112_0 (h112_0 l0_0 a0 0 ([])) (ex112_0 (r112_0 a0 a0 0 ([]))) (fin112_0 l0_0 a0 (r112_0 a0 a0 0 ([])))) := t112_0 (l0_0 := l0_0) (a0 := a0) (by assumption) a0 [] ([]) rfl (by simp only [length_map, length_set, length_append, length_replicate, length_cons, length_nil]; omega); rw [h0] at t; exact t)
  exact cp (by kernel_rfl) (.f f0 (.f f1 (.e 0 (.e (length (map d_si w0_0)) (.f (pureR_si w0_0) (.h 12 (.loop (h112_0 l0_0 a0 0 ([])) (.exit 0) ⟨[(3, (.one (.ref ⟨(3, 0, 0), [], 0, (length (map d_si w0_0))⟩))), (8, (.one (.bor l0_0 (map b_si a0)))), (9, (.oi ((length (map b_si a0)) : Int))), (10, (.oi w1_0)), (11, (.one (.val (.bool w2_0))))], [((3, 0, 0), .live ⟨2, (map d_si w0_0), []⟩)]⟩) .nil))))))
theorem mlen_r112 (a : List K_si) : ∀ (l : List K_si) (i : Int) (v : List K_si), ∃ w j b, r112_0 a l i v = .k0 w j b ∧ w.length ≤ v.length + l.length
 | [], i, v => ⟨_, _, _, rfl, by simp⟩
 | x :: l, i, v => by
  simp only [r112_0]
  split
  ·obtain ⟨w, j, b, h, h2⟩ := mlen_r112 a l (i + 1) (set v (Int.toNat (m1014700 v x.f0)) (K_si.mk ((getD v (Int.toNat (m1014700 v x.f0)) (K_si.mk (⟨#[]⟩ : ByteArray) 0)).f0) (w64 (((getD v (Int.toNat (m1014700 v x.f0)) (K_si.mk (⟨#[]⟩ : ByteArray) 0)).f1) + x.f1))))
   exact ⟨w, j, b, h, by simp at h2 ⊢; omega⟩
  ·obtain ⟨w, j, b, h, h2⟩ := mlen_r112 a l (i + 1) (v ++ [x])
   exact ⟨w, j, b, h, by simp at h2 ⊢; omega⟩
theorem mlen_112 (a : List K_si) : (m112 a).length ≤ a.length := by
 unfold m112
 obtain ⟨w, j, b, h, h2⟩ := mlen_r112 a a 0 []
 rw [h]; simpa using h2
theorem mne_r112 (a : List K_si) : ∀ (l : List K_si) (i : Int) (v : List K_si) (k : Nat), (∀ z ∈ l, 1 ≤ z.f1 ∧ z.f1 ≤ 9999) → (∀ z ∈ v, 1 ≤ z.f1 ∧ z.f1 ≤ 9999 * (k : Int)) → k + l.length ≤ 1000 → ∃ w j b, r112_0 a l i v = .k0 w j b ∧ v.length ≤ w.length ∧ (0 < l.length → 0 < w.length) ∧ (∀ z ∈ w, 1 ≤ z.f1 ∧ z.f1 ≤ 9999 * ((k + l.length : Nat) : Int))
 | [], i, v, k, _, hv, _ => ⟨v, _, _, rfl, Nat.le_refl _, by simp, by simpa using hv⟩
 | x :: l, i, v, k, hl, hv, hk => by
  have hx := hl x (List.mem_cons_self ..)
  have hl' : ∀ z ∈ l, 1 ≤ z.f1 ∧ z.f1 ≤ 9999 := fun z hz => hl z (List.mem_cons_of_mem _ hz)
  simp only [length_cons] at hk
  simp only [r112_0]
  have q := ix1014700 v x.f0
  by_cases h : (decide ((m1014700 v x.f0) ≥ 0)) = true
  ·rw [if_pos h]
   simp only [decide_eq_true_eq] at h
   have hg : getD v (Int.toNat (m1014700 v x.f0)) (K_si.mk (⟨#[]⟩ : ByteArray) 0) ∈ v := by
    rw [List.getD_eq_getElem?_getD, List.getElem?_eq_getElem (by omega)]; exact List.getElem_mem _
   have hgb := hv _ hg
   obtain ⟨w, j, b, e, h1, h2, h3⟩ := mne_r112 a l (i + 1) (set v (Int.toNat (m1014700 v x.f0)) (K_si.mk ((getD v (Int.toNat (m1014700 v x.f0)) (K_si.mk (⟨#[]⟩ : ByteArray) 0)).f0) (w64 (((getD v (Int.toNat (m1014700 v x.f0)) (K_si.mk (⟨#[]⟩ : ByteArray) 0)).f1) + x.f1)))) (k + 1) hl' (fun z hz => by
    rcases List.mem_or_eq_of_mem_set hz with hz | rfl
    ·have := hv z hz; omega
    ·simp only []
     rw [wrap64 (by omega)]; omega) (by omega)
   refine ⟨w, j, b, e, by simpa using h1, fun _ => ?_, fun z hz => ?_⟩
   ·simp only [length_set] at h1
    have : 0 < v.length := by omega
    omega
   ·have := h3 z hz; simp only [length_cons]; omega
  ·rw [if_neg h]
   obtain ⟨w, j, b, e, h1, h2, h3⟩ := mne_r112 a l (i + 1) (v ++ [x]) (k + 1) hl' (fun z hz => by
    rcases List.mem_append.1 hz with hz | hz
    ·have := hv z hz; omega
    ·rw [List.mem_singleton.1 hz]; omega) (by omega)
   simp only [length_append, length_cons, length_nil] at h1
   refine ⟨w, j, b, e, by omega, fun _ => by omega, fun z hz => ?_⟩
   have := h3 z hz; simp only [length_cons]; omega
theorem mne_112 (a : List K_si) (h : ∀ z ∈ a, 1 ≤ z.f1 ∧ z.f1 ≤ 9999) (hl : a.length ≤ 12) : (0 < a.length → 0 < (m112 a).length) ∧ ∀ z ∈ m112 a, 1 ≤ z.f1 ∧ z.f1 ≤ 119988 := by
 obtain ⟨w, j, b, e, h1, h2, h3⟩ := mne_r112 a a 0 [] 0 h (by simp) (by omega)
 unfold m112
 rw [e]
 refine ⟨h2, fun z hz => ?_⟩
 have := h3 z hz
 omega
inductive O151_0 where
 | k0 (w0 : Int) (w1 : Bool)
 | k1 (w0 : Int)
def r151_0 (a0 : (List Int)) (a1 : Int) : List Int → Int → O151_0
 | x0 :: y0, i =>
  if (a1 == x0) = true then (O151_0.k1 i) else
  (r151_0 a0 a1 y0 (i + 1) )
 | [], i => (O151_0.k0 i (decide (i < ((length (map b_i a0)) : Int))))
def h151_0 (l0_0 : Nat) (a0 : (List Int)) (a1 : Int) (i : Int)  : St := ⟨[(0, (.one (.bor l0_0 (map b_i a0)))), (1, (.one (.val (.int .i64 a1)))), (7, (.one (.val (.int .i64 ((length (map b_i a0)) : Int))))), (8, (.one (.val (.int .i64 i))))], []⟩
def ex151_0 : O151_0 → VX.Exit
 | .k0 _ _ => (.exit 0)
 | .k1 _ => .ret
def fin151_0 (l0_0 : Nat) (a0 : (List Int)) (a1 : Int) : O151_0 → St
 | .k0 w0 w1 => ⟨[(0, (.one (.bor l0_0 (map b_i a0)))), (1, (.one (.val (.int .i64 a1)))), (7, (.one (.val (.int .i64 ((length (map b_i a0)) : Int))))), (8, (.one (.val (.int .i64 w0)))), (9, (.one (.val (.bool w1))))], []⟩
 | .k1 w0 => ⟨[(4, (.one (.val (.int .i64 w0))))], []⟩
theorem t151_0 {l0_0 : Nat} {a0 : (List Int)} {a1 : Int} (hy0 : length a0 * 8 ≤ 140737488351232) : ∀ (y0 : List Int) (p : List Int) , p ++ y0 = a0 → Ev F X (.code l151_0 (h151_0 l0_0 a0 a1 (length p : Int) ) (ex151_0 (r151_0 a0 a1 y0 (length p : Int) )) (fin151_0 l0_0 a0 a1 (r151_0 a0 a1 y0 (length p : Int) )))
 | [], p, hp0 => by
  have hc : ¬ (decide ((length p : Int) < ((length (map b_i a0)) : Int))) = true := by
   rw [← hp0]; simp only [length_map, length_set, length_append, length_replicate, length_cons, length_nil, decide_eq_true_eq]; omega
  have st := ch b151_0 [(2, .b false)] (h151_0 l0_0 a0 a1 (length p : Int)) (fin151_0 l0_0 a0 a1 (.k0 (length p : Int) (decide ((length p : Int) < ((length (map b_i a0)) : Int))))) (.exit 0) 3 [(decide ((length p : Int) < ((length (map b_i a0)) : Int))) = false] (by kernel_rfl) ⟨(nt hc), trivial⟩
  exact .loopX st (show ((.exit 0) : VX.Exit) ≠ .normal from by simp)
 | x0 :: y0, p, hp0 => by
  have hc : (decide ((length p : Int) < ((length (map b_i a0)) : Int))) = true := lt1 hp0
  have Hx0 : (a0)[Int.toNat (length p : Int)]? = some x0 := by
   rw [← hp0, Int.toNat_natCast]; simp
  have hlen : length (a0) = length p + length y0 + 1 := by rw [← hp0]; simp; omega
  have hw : w64 ((length p : Int) + 1) = (length p : Int) + 1 := wrap64 (by omega)
  simp only [r151_0]
  by_cases h_1 : (a1 == x0) = true
  ·try simp only [if_pos h_1]
   have st := ch b151_0 [(2, .b true), (14, .row [(.i x0)]), (19, .b true)] (h151_0 l0_0 a0 a1 (length p : Int)) (fin151_0 l0_0 a0 a1 (.k1 (length p : Int))) .ret 24 [(decide ((length p : Int) < ((length (map b_i a0)) : Int))) = true, 0 ≤ (length p : Int), (map b_i a0)[(Int.toNat (length p : Int))]? = some [(.i x0)], (a1 == x0) = true] (by kernel_rfl) ⟨hc, (by omega), (by rw [getElem?_map, Hx0]; rfl), h_1, trivial⟩
   exact .loopX st (show (.ret : VX.Exit) ≠ .normal from by simp)
  ·try simp only [if_neg h_1]
   have st := ch b151_0 [(2, .b true), (14, .row [(.i x0)]), (19, .b false)] (h151_0 l0_0 a0 a1 (length p : Int)) ⟨[(0, (.one (.bor l0_0 (map b_i a0)))), (1, (.oi a1)), (7, (.oi ((length (map b_i a0)) : Int))), (8, (.oi (w64 ((length p : Int) + 1))))], []⟩ .normal 24 [(decide ((length p : Int) < ((length (map b_i a0)) : Int))) = true, 0 ≤ (length p : Int), (map b_i a0)[(Int.toNat (length p : Int))]? = some [(.i x0)], (a1 == x0) = false, True] (by kernel_rfl) ⟨hc, (by omega), (by rw [getElem?_map, Hx0]; rfl), (nt h_1), trivial, trivial⟩
   have ih := t151_0 (l0_0 := l0_0) (a0 := a0) (a1 := a1) hy0 y0 (p ++ [x0])  (by rw [append_assoc]; exact hp0)
   rw [show ((p ++ [x0]).length : Int) = (p.length : Int) + 1 from by simp] at ih
   replace st := to_ (s' := h151_0 l0_0 a0 a1 ((length p : Int) + 1) ) st (by unfold h151_0; simp only [hw]; done)
   exact .loopN st ih
def m151 (a0 : (List Int)) (a1 : Int) : Int :=
 (match r151_0 a0 a1 a0 0 with | .k0 w0_0 w1_0 => (-1) | .k1 w0_0 => w0_0)
theorem e151 {l0_0 : Nat} {a0 : (List Int)} {a1 : Int} (hy0 : length a0 * 8 ≤ 140737488351232) : Ev F X (.call 151 [(.one (.bor l0_0 (map b_i a0))), (.one (.val (.int .i64 a1)))] [] [] [(.one (.val (.int .i64 (m151 a0 a1))))]) := by
 unfold m151
 cases h0 : r151_0 a0 a1 a0 0 with
 | k0 w0_0 w1_0 =>
  try dsimp only
  have f0 : (⟨[(0, (.one (.bor l0_0 (map b_i a0)))), (1, (.oi a1)), (7, (.oi ((length (map b_i a0)) : Int))), (8, (.oi 0))], []⟩ : St) = h151_0 l0_0 a0 a1 0  := (by rfl)
  have f1 : Ev F X (.code l151_0 (h151_0 l0_0 a0 a1 0 ) (.exit 0) ⟨[(0, (.one (.bor l0_0 (map b_i a0)))), (1, (.oi a1)), (7, (.oi ((length (map b_i a0)) : Int))), (8, (.oi w0_0)), (9, (.one (.val (.bool w1_0))))], []⟩) := (by have t : Ev F X (.code l151_0 (h151_0 l0_0 a0 a1 0 ) (ex151_0 (r151_0 a0 a1 a0 0)) (fin151_0 l0_0 a0 a1 (r151_0 a0 a1 a0 0))) := t151_0 (l0_0 := l0_0) (a0 := a0) (a1 := a1) (by assumption) a0 []  rfl; rw [h0] at t; exact t)
  exact cp (by kernel_rfl) (.f f0 (.f f1 (.h 8 (.loop (h151_0 l0_0 a0 a1 0 ) (.exit 0) ⟨[(0, (.one (.bor l0_0 (map b_i a0)))), (1, (.oi a1)), (7, (.oi ((length (map b_i a0)) : Int))), (8, (.oi w0_0)), (9, (.one (.val (.bool w1_0))))], []⟩) .nil)))
 | k1 w0_0 =>
  try dsimp only
  have f0 : (⟨[(0, (.one (.bor l0_0 (map b_i a0)))), (1, (.oi a1)), (7, (.oi ((length (map b_i a0)) : Int))), (8, (.oi 0))], []⟩ : St) = h151_0 l0_0 a0 a1 0  := (by rfl)
  have f1 : Ev F X (.code l151_0 (h151_0 l0_0 a0 a1 0 ) .ret ⟨[(4, (.oi w0_0))], []⟩) := (by have t : Ev F X (.code l151_0 (h151_0 l0_0 a0 a1 0 ) (ex151_0 (r151_0 a0 a1 a0 0)) (fin151_0 l0_0 a0 a1 (r151_0 a0 a1 a0 0))) := t151_0 (l0_0 := l0_0) (a0 := a0) (a1 := a1) (by assumption) a0 []  rfl; rw [h0] at t; exact t)
  exact cp (by kernel_rfl) (.f f0 (.f f1 (.h 8 (.loop (h151_0 l0_0 a0 a1 0 ) .ret ⟨[(4, (.oi w0_0))], []⟩) .nil)))
theorem ixr151_0 (a0 : (List Int)) (a1 : Int) : ∀ (l : List Int) (i : Int), (∃ (w0 : _) (w1 : _), r151_0 a0 a1 l i = .k0 w0 w1) ∨ (∃ w, r151_0 a0 a1 l i = .k1 w ∧ i ≤ w ∧ w < i + l.length)
  | [], i => .inl ⟨i, (decide (i < ((length (map b_i a0)) : Int))), rfl⟩
  | x :: l, i => by
    have ih := ixr151_0 a0 a1 l (i + 1)
    simp only [r151_0]
    (repeat' split)
    all_goals first
      | exact .inr ⟨i, rfl, by omega, by simp only [length_cons]; omega⟩
      | (rcases ih with ⟨w0, w1, h⟩ | ⟨w, h, h1, h2⟩
         · exact .inl ⟨w0, w1, h⟩
         · exact .inr ⟨w, h, by omega, by simp only [length_cons]; omega⟩)
theorem ix151 (a0 : (List Int)) (a1 : Int) : -1 ≤ m151 a0 a1 ∧ m151 a0 a1 < (length a0 : Int) := by
 unfold m151
 rcases ixr151_0 a0 a1 a0 0 with ⟨w0, w1, h⟩ | ⟨w, h, h1, h2⟩ <;> simp only [h] <;> omega
inductive O152_0 where
 | k0 (w0 : Int) (w1 : Int) (w2 : Bool)
def r152_0 (a0 : (List Int)) : Nat → Int → Int → O152_0
 | n + 1, v0, v1 =>
  if (decide (v1 < ((length (map b_i a0)) : Int))) = true then (r152_0 a0 n (vmax v0 (getD a0 (Int.toNat v1) 0)) (w64 (v1 + 1))) else
  (O152_0.k0 v0 v1 (decide (v1 < ((length (map b_i a0)) : Int))))
 | 0, v0, v1 => (O152_0.k0 v0 v1 (decide (v1 < ((length (map b_i a0)) : Int))))
def h152_0 (l0_0 : Nat) (a0 : (List Int)) (v0 : Int) (v1 : Int) : St := ⟨[(0, (.one (.bor l0_0 (map b_i a0)))), (3, (.one (.val (.int .i64 v0)))), (4, (.one (.val (.int .i64 v1))))], []⟩
def ex152_0 : O152_0 → VX.Exit
 | .k0 _ _ _ => (.exit 0)
def fin152_0 (l0_0 : Nat) (a0 : (List Int)) : O152_0 → St
 | .k0 w0 w1 w2 => ⟨[(0, (.one (.bor l0_0 (map b_i a0)))), (3, (.one (.val (.int .i64 w0)))), (4, (.one (.val (.int .i64 w1)))), (15, (.one (.val (.bool w2))))], []⟩
theorem t152_0 {l0_0 : Nat} {a0 : (List Int)} (hy0 : 1 ≤ length a0) (hy1 : length a0 ≤ 1000) : ∀ (n : Nat) (v0 : Int) (v1 : Int), 0 ≤ v1 → ((length (map b_i a0)) : Int) ≤ 9223372036854775807 → Int.toNat (((length (map b_i a0)) : Int) - v1) ≤ n → Ev F X (.code l152_0 (h152_0 l0_0 a0 v0 v1) (ex152_0 (r152_0 a0 n v0 v1)) (fin152_0 l0_0 a0 (r152_0 a0 n v0 v1)))
 | 0, v0, v1, hi0, hi1, hn => by
  have hc : ¬ (decide (v1 < ((length (map b_i a0)) : Int))) = true := by first | (exact fuel64_zero hn) | (simp only [decide_eq_true_eq] at *; omega) | (simp at *; omega)
  have st := codeP_ok (F := F) (X := X) (c := b152_0) (t := 0) (σ := h152_0 l0_0 a0 v0 v1) (σ' := ⟨[(0, (.one (.bor l0_0 (map b_i a0)))), (3, (.oi v0)), (4, (.oi v1)), (15, (.one (.val (.bool (decide (v1 < ((length (map b_i a0)) : Int)))))))], []⟩) (e := (.exit 0)) (t' := 9) (by kernel_rfl) (.g hc (.z 8 .nil))
  replace st := to_ (s' := fin152_0 l0_0 a0 (.k0 v0 v1 (decide (v1 < ((length (map b_i a0)) : Int))))) st (by rfl)
  exact .loopX st (show ((.exit 0) : VX.Exit) ≠ .normal from by simp)
 | n + 1, v0, v1, hi0, hi1, hn => by
  simp only [r152_0]
  by_cases h_0 : (decide (v1 < ((length (map b_i a0)) : Int))) = true
  ·try simp only [if_pos h_0]
   have f1 : 0 ≤ v1 := (by with_reducible assumption)
   have f2 : (map b_i a0)[(Int.toNat v1)]? = some [(.val (.int .i64 (getD a0 (Int.toNat v1) 0)))] := (by rw [getElem?_map, getD_at a0 (Int.toNat v1) 0 (by first | exact True.intro | with_reducible rfl | with_reducible assumption | omega | (simp only [decide_eq_true_eq, length_map] at *; omega) | (simp only [decide_eq_true_eq] at *; omega) | (simp only [length_map]; omega) | (simp [ol85, ol86, ol27_0, ol27_1, ol27_2, ol28_0, ol28_1, ol28_2]; omega) | (simp [take_of_length_le, ol85, ol86, ol27_0, ol27_1, ol27_2, ol28_0, ol28_1, ol28_2]; done) | assumption | trivial | (simp [*, ol85, ol86, ol27_0, ol27_1, ol27_2, ol28_0, ol28_1, ol28_2, byteRows_eq, ints_y]; done))]; rfl)
   have st := codeP_ok (F := F) (X := X) (c := b152_0) (t := 0) (σ := h152_0 l0_0 a0 v0 v1) (σ' := ⟨[(0, (.one (.bor l0_0 (map b_i a0)))), (3, (.oi (vmax v0 (getD a0 (Int.toNat v1) 0)))), (4, (.oi (w64 (v1 + 1))))], []⟩) (e := .normal) (t' := 29) (by kernel_rfl) (.f h_0 (.f f1 (.f f2 (.f trivial (.y 8 (.h 16 (.row [(.i (getD a0 (Int.toNat v1) 0))]) .nil))))))
   have ih := t152_0 (l0_0 := l0_0) (a0 := a0) hy0 hy1 n (vmax v0 (getD a0 (Int.toNat v1) 0)) (w64 (v1 + 1)) (by rw [wrap64 (by simp only [decide_eq_true_eq] at *; omega)]; omega) (by assumption) (by rw [wrap64 (by simp only [decide_eq_true_eq] at *; omega)]; simp only [decide_eq_true_eq] at *; omega)
   replace st := to_ (s' := h152_0 l0_0 a0 (vmax v0 (getD a0 (Int.toNat v1) 0)) (w64 (v1 + 1))) st (by rfl)
   exact .loopN st ih
  ·try simp only [if_neg h_0]
   have st := codeP_ok (F := F) (X := X) (c := b152_0) (t := 0) (σ := h152_0 l0_0 a0 v0 v1) (σ' := ⟨[(0, (.one (.bor l0_0 (map b_i a0)))), (3, (.oi v0)), (4, (.oi v1)), (15, (.one (.val (.bool (decide (v1 < ((length (map b_i a0)) : Int)))))))], []⟩) (e := (.exit 0)) (t' := 9) (by kernel_rfl) (.g h_0 (.z 8 .nil))
   replace st := to_ (s' := fin152_0 l0_0 a0 (.k0 v0 v1 (decide (v1 < ((length (map b_i a0)) : Int))))) st (by rfl)
   exact .loopX st (show ((.exit 0) : VX.Exit) ≠ .normal from by simp)
def m152 (a0 : (List Int)) : Int :=
 if (decide (((length (map b_i a0)) : Int) < 1)) = true then 0 else
 (match r152_0 a0 (Int.toNat (((length (map b_i a0)) : Int) - 1)) (getD a0 0 0) 1 with | .k0 w0_2 w1_2 w2_2 => w0_2)
theorem e152 {l0_0 : Nat} {a0 : (List Int)} (hy0 : 1 ≤ length a0) (hy1 : length a0 ≤ 1000) : Ev F X (.call 152 [(.one (.bor l0_0 (map b_i a0)))] [] [] [(.one (.val (.int .i64 (m152 a0))))]) := by
 unfold m152
 by_cases h0 : (decide (((length (map b_i a0)) : Int) < 1)) = true
 ·try simp only [if_pos h0]
  exfalso
  first | (simp_all; done) | omega | (simp only [decide_eq_true_eq, length_map] at *; omega)
 ·try simp only [if_neg h0]
  have f1 : 0 ≤ (0 : Int) := (by omega)
  have f2 : (map b_i a0)[0]? = some [(.val (.int .i64 (getD a0 0 0)))] := (by rw [getElem?_map, getD_at a0 0 0 (by first | exact True.intro | with_reducible rfl | with_reducible assumption | omega | (simp only [decide_eq_true_eq, length_map] at *; omega) | (simp only [decide_eq_true_eq] at *; omega) | (simp only [length_map]; omega) | (simp [ol85, ol86, ol27_0, ol27_1, ol27_2, ol28_0, ol28_1, ol28_2]; omega) | (simp [take_of_length_le, ol85, ol86, ol27_0, ol27_1, ol27_2, ol28_0, ol28_1, ol28_2]; done) | assumption | trivial | (simp [*, ol85, ol86, ol27_0, ol27_1, ol27_2, ol28_0, ol28_1, ol28_2, byteRows_eq, ints_y]; done))]; rfl)
  cases h1 : r152_0 a0 (Int.toNat (((length (map b_i a0)) : Int) - 1)) (getD a0 0 0) 1 with
  | k0 w0_2 w1_2 w2_2 =>
   try dsimp only
   have f3 : (⟨[(0, (.one (.bor l0_0 (map b_i a0)))), (3, (.oi (getD a0 0 0))), (4, (.oi 1))], []⟩ : St) = h152_0 l0_0 a0 (getD a0 0 0) 1 := (by rfl)
   have f4 : Ev F X (.code l152_0 (h152_0 l0_0 a0 (getD a0 0 0) 1) (.exit 0) ⟨[(0, (.one (.bor l0_0 (map b_i a0)))), (3, (.oi w0_2)), (4, (.oi w1_2)), (15, (.one (.val (.bool w2_2))))], []⟩) := (by have t : Ev F X (.code l152_0 (h152_0 l0_0 a0 (getD a0 0 0) 1) (ex152_0 (r152_0 a0 (Int.toNat (((length (map b_i a0)) : Int) - 1)) (getD a0 0 0) 1)) (fin152_0 l0_0 a0 (r152_0 a0 (Int.toNat (((length (map b_i a0)) : Int) - 1)) (getD a0 0 0) 1))) := t152_0 (l0_0 := l0_0) (a0 := a0) (by assumption) (by assumption) (Int.toNat (((length (map b_i a0)) : Int) - 1)) (getD a0 0 0) 1  (by omega) (by simp only [length_map, length_set, length_append, length_replicate, length_cons, length_nil]; omega) (Nat.le_refl _); rw [h1] at t; exact t)
   exact cp (by kernel_rfl) (.g h0 (.f f1 (.f f2 (.f f3 (.f f4 (.z 8 (.h 12 (.row [(.i (getD a0 0 0))]) (.h 19 (.loop (h152_0 l0_0 a0 (getD a0 0 0) 1) (.exit 0) ⟨[(0, (.one (.bor l0_0 (map b_i a0)))), (3, (.oi w0_2)), (4, (.oi w1_2)), (15, (.one (.val (.bool w2_2))))], []⟩) .nil))))))))
theorem getD_in (a : List Int) (i : Nat) (h : i < a.length) : getD a i 0 ∈ a := by
 rw [List.getD_eq_getElem?_getD, List.getElem?_eq_getElem h]; exact List.getElem_mem _
theorem mx_r (a : List Int) (hl : a.length ≤ 1000) : ∀ (n : Nat) (v i : Int), v ∈ a → 0 ≤ i → i + n ≤ a.length → ∃ w j b, r152_0 a n v i = .k0 w j b ∧ w ∈ a
 | 0, v, i, hv, _, _ => ⟨v, i, _, rfl, hv⟩
 | n + 1, v, i, hv, h0, h => by
  simp only [r152_0]
  rw [if_pos (by simp only [decide_eq_true_eq, length_map]; omega), wrap64 (by omega)]
  refine mx_r a hl n _ (i + 1) ?_ (by omega) (by omega)
  unfold vmax
  split
  ·exact getD_in a _ (by omega)
  ·exact hv
theorem mx_in (a : List Int) (h1 : 1 ≤ a.length) (hl : a.length ≤ 1000) : m152 a ∈ a := by
 obtain ⟨w, j, b, e, hw⟩ := mx_r a hl (Int.toNat ((a.length : Int) - 1)) (getD a 0 0) 1 (getD_in a 0 (by omega)) (by omega) (by omega)
 unfold m152
 rw [if_neg (by simp only [decide_eq_true_eq, length_map]; omega), length_map, e]
 exact hw
theorem ix_r (a : List Int) (x : Int) : ∀ (l : List Int) (i : Int), x ∈ l → ∃ w, r151_0 a x l i = .k1 w ∧ i ≤ w
 | [], i, h => by cases h
 | y :: l, i, h => by
  simp only [r151_0]
  by_cases e : (x == y) = true
  ·rw [if_pos e]; exact ⟨i, rfl, by omega⟩
  ·rw [if_neg e]
   rcases List.mem_cons.1 h with rfl | h
   ·simp at e
   ·obtain ⟨w, e1, e2⟩ := ix_r a x l (i + 1) h
    exact ⟨w, e1, by omega⟩
theorem im (a : List Int) (h1 : 1 ≤ a.length) (hl : a.length ≤ 1000) : 0 ≤ m151 a (m152 a) ∧ m151 a (m152 a) < (a.length : Int) := by
 refine ⟨?_, (ix151 a (m152 a)).2⟩
 obtain ⟨w, e1, e2⟩ := ix_r a (m152 a) a 0 (mx_in a h1 hl)
 unfold m151
 rw [e1]; exact e2
inductive O101_0 where
 | k0 (w0 : List K_si) (w1 : List Int) (w2 : Int) (w3 : Int) (w4 : Bool)
def r101_0 (a0 : Int) (a1 : (List K_si)) : List K_si → Int → List K_si → List Int → Int → O101_0
 | x0 :: y0, i, v0, v1, v4 =>
  (r101_0 a0 a1 y0 (i + 1) (set v0 (Int.toNat i) (K_si.mk x0.f0 (w64 (Int.tdiv (w64 (a0 * x0.f1)) (m75 a1))))) (v1 ++ ([(Int.tmod (w64 (a0 * x0.f1)) (m75 a1))])) (w64 (v4 - (w64 (Int.tdiv (w64 (a0 * x0.f1)) (m75 a1))))))
 | [], i, v0, v1, v4 => (O101_0.k0 v0 v1 v4 i (decide (i < ((length (map d_si (m112 a1))) : Int))))
def h101_0 (l1_0 : Nat) (a0 : Int) (a1 : (List K_si)) (i : Int) (v0 : List K_si) (v1 : List Int) (v4 : Int) : St := ⟨[(0, (.one (.val (.int .i64 a0)))), (5, (.one (.ref ⟨(5, 0, 0), [], 0, (length (map d_si (m112 a1)))⟩))), (6, (.one (.val (.int .i64 (m75 a1))))), (7, (.one (.ref ⟨(7, 0, 0), [], 0, (length (map d_i v1))⟩))), (8, (.one (.val (.int .i64 v4)))), (19, (.one (.ref ⟨(5, 0, 0), [], 0, (length (map d_si (m112 a1)))⟩))), (20, (.one (.val (.int .i64 ((length (map d_si (m112 a1))) : Int))))), (21, (.one (.val (.int .i64 i))))], [((5, 0, 0), .live ⟨2, (map d_si v0), []⟩), ((7, 0, 0), .live ⟨1, (map d_i v1), []⟩)]⟩
def ex101_0 : O101_0 → VX.Exit
 | .k0 _ _ _ _ _ => (.exit 0)
def fin101_0 (l1_0 : Nat) (a0 : Int) (a1 : (List K_si)) : O101_0 → St
 | .k0 w0 w1 w2 w3 w4 => ⟨[(0, (.one (.val (.int .i64 a0)))), (5, (.one (.ref ⟨(5, 0, 0), [], 0, (length (map d_si (m112 a1)))⟩))), (6, (.one (.val (.int .i64 (m75 a1))))), (7, (.one (.ref ⟨(7, 0, 0), [], 0, (length (map d_i w1))⟩))), (8, (.one (.val (.int .i64 w2)))), (19, (.one (.ref ⟨(5, 0, 0), [], 0, (length (map d_si (m112 a1)))⟩))), (20, (.one (.val (.int .i64 ((length (map d_si (m112 a1))) : Int))))), (21, (.one (.val (.int .i64 w3)))), (22, (.one (.val (.bool w4))))], [((5, 0, 0), .live ⟨2, (map d_si w0), []⟩), ((7, 0, 0), .live ⟨1, (map d_i w1), []⟩)]⟩
theorem t101_0 {l1_0 : Nat} {a0 : Int} {a1 : (List K_si)} (hy0 : 0 ≤ a0) (hy1 : a0 ≤ 1000000) (hy2 : 0 < length a1) (hy3 : length a1 ≤ 12) (hy4 : ∀ z ∈ a1, 1 ≤ z.f1 ∧ z.f1 ≤ 9999) : ∀ (y0 : List K_si) (p : List K_si) (v0 : List K_si) (v1 : List Int) (v4 : Int), p ++ y0 = m112 a1 → length v0 = (length (map d_si (m112 a1))) → (length v1 + length y0) * 8 ≤ 70368744177664 → drop (length p) v0 = y0 → Ev F X (.code l101_0 (h101_0 l1_0 a0 a1 (length p : Int) v0 v1 v4) (ex101_0 (r101_0 a0 a1 y0 (length p : Int) v0 v1 v4)) (fin101_0 l1_0 a0 a1 (r101_0 a0 a1 y0 (length p : Int) v0 v1 v4)))
 | [], p, v0, v1, v4, hp0, hi0, hi1, hi2 => by
  have hc : ¬ (decide ((length p : Int) < ((length (map d_si (m112 a1))) : Int))) = true := by
   rw [← hp0]; simp only [length_map, length_set, length_append, length_replicate, length_cons, length_nil, decide_eq_true_eq]; omega
  have hj0 := hi0; try simp only [length_map, length_set, length_append, length_replicate, length_cons, length_nil, Int.toNat_natCast] at hj0
  have hj1 := hi1; try simp only [length_map, length_set, length_append, length_replicate, length_cons, length_nil, Int.toNat_natCast] at hj1
  have hj2 := hi2; try simp only [length_map, length_set, length_append, length_replicate, length_cons, length_nil, Int.toNat_natCast] at hj2
  have st := ch b101_0 [(2, .b false)] (h101_0 l1_0 a0 a1 (length p : Int) v0 v1 v4) (fin101_0 l1_0 a0 a1 (.k0 v0 v1 v4 (length p : Int) (decide ((length p : Int) < ((length (map d_si (m112 a1))) : Int))))) (.exit 0) 3 [(decide ((length p : Int) < ((length (map d_si (m112 a1))) : Int))) = false] (by kernel_rfl) ⟨(nt hc), trivial⟩
  exact .loopX st (show ((.exit 0) : VX.Exit) ≠ .normal from by simp)
 | x0 :: y0, p, v0, v1, v4, hp0, hi0, hi1, hi2 => by
  have hc : (decide ((length p : Int) < ((length (map d_si (m112 a1))) : Int))) = true := lt1 hp0
  have Hx0 : (m112 a1)[Int.toNat (length p : Int)]? = some x0 := by
   rw [← hp0, Int.toNat_natCast]; simp
  have hlen : length (m112 a1) = length p + length y0 + 1 := by rw [← hp0]; simp; omega
  have hw : w64 ((length p : Int) + 1) = (length p : Int) + 1 := wrap64 (by have hz : length (m112 a1) * 24 ≤ 140737488351232 := (by first | with_reducible assumption | omega | (have q := mlen_112 a1; simp only [length_map, length_nil, Nat.zero_add] at *; omega) | (have q := mlen_112 a1; omega) | (have q := (tot_75 a1 (fun z hz => by have := (by assumption : ∀ z ∈ a1, 1 ≤ z.f1 ∧ z.f1 ≤ 9999) z hz; omega) (by omega)).1; omega) | (simp only [decide_eq_true_eq, length_map] at *; omega) | (have q := im v1 (by simp only [length_map] at *; omega) (by simp only [length_map] at *; omega); simp only [length_map] at *; omega) | (unfold m112; (repeat' split) <;> simp_all <;> omega) | assumption | (simp only [length_map]; omega) | (simp [ol85, ol86, ol27_0, ol27_1, ol27_2, ol28_0, ol28_1, ol28_2]; omega)); omega)
  have hj0 := hi0; try simp only [length_map, length_set, length_append, length_replicate, length_cons, length_nil, Int.toNat_natCast] at hj0
  have hj1 := hi1; try simp only [length_map, length_set, length_append, length_replicate, length_cons, length_nil, Int.toNat_natCast] at hj1
  have hj2 := hi2; try simp only [length_map, length_set, length_append, length_replicate, length_cons, length_nil, Int.toNat_natCast] at hj2
  have Hv0 : v0[Int.toNat (length p : Int)]? = some x0 := by rw [Int.toNat_natCast]; exact drop_at hi2
  simp only [r101_0]
  have st := ch b101_0 [(2, .b true), (8, .rowD (d_si x0)), (40, .rowD (d_si x0)), (41, .norm (5, 0, 0) (map d_si (set v0 (Int.toNat (length p : Int)) (K_si.mk x0.f0 (w64 (Int.tdiv (w64 (a0 * x0.f1)) (m75 a1))))))), (53, .b true), (56, .norm (7, 0, 0) (map d_i (v1 ++ ([(Int.tmod (w64 (a0 * x0.f1)) (m75 a1))]))))] (h101_0 l1_0 a0 a1 (length p : Int) v0 v1 v4) ⟨[(0, (.oi a0)), (5, (.one (.ref ⟨(5, 0, 0), [], 0, (length (map d_si (m112 a1)))⟩))), (6, (.oi (m75 a1))), (7, (.one (.ref ⟨(7, 0, 0), [], 0, (length ((take (length (map d_i v1)) (drop 0 (map d_i v1))) ++ ([[(.i (Int.tmod (w64 (a0 * x0.f1)) (m75 a1)))]] : List (List D))))⟩))), (8, (.oi (w64 (v4 - (w64 (Int.tdiv (w64 (a0 * x0.f1)) (m75 a1))))))), (19, (.one (.ref ⟨(5, 0, 0), [], 0, (length (map d_si (m112 a1)))⟩))), (20, (.oi ((length (map d_si (m112 a1))) : Int))), (21, (.oi (w64 ((length p : Int) + 1))))], [((5, 0, 0), .live ⟨2, (map d_si (set v0 (Int.toNat (length p : Int)) (K_si.mk x0.f0 (w64 (Int.tdiv (w64 (a0 * x0.f1)) (m75 a1)))))), []⟩), ((7, 0, 0), .live ⟨1, (map d_i (v1 ++ ([(Int.tmod (w64 (a0 * x0.f1)) (m75 a1))]))), []⟩)]⟩ .normal 73 [(decide ((length p : Int) < ((length (map d_si (m112 a1))) : Int))) = true, 0 + (length (map d_si (m112 a1))) ≤ (length (map d_si v0)), 0 ≤ (length p : Int) ∧ (length p : Int) < ((length (map d_si (m112 a1))) : Int), (map d_si v0)[(0 + (Int.toNat (length p : Int)))]? = some [(.val (.string x0.f0)), (.i x0.f1)], (m75 a1) ≠ 0, 0 + (length (map d_si (m112 a1))) ≤ (length (map d_si v0)), 0 ≤ (length p : Int) ∧ (length p : Int) < ((length (map d_si (m112 a1))) : Int), (map d_si v0)[(0 + (Int.toNat (length p : Int)))]? = some [(.val (.string x0.f0)), (.i x0.f1)], (set (map d_si v0) (0 + (Int.toNat (length p : Int))) [(.val (.string x0.f0)), (.i (w64 (Int.tdiv (w64 (a0 * x0.f1)) (m75 a1))))]) = (map d_si (set v0 (Int.toNat (length p : Int)) (K_si.mk x0.f0 (w64 (Int.tdiv (w64 (a0 * x0.f1)) (m75 a1)))))), (m75 a1) ≠ 0, 0 + (length (map d_i v1)) ≤ (length (map d_i v1)), 1 ≤ 1, ((take 1 (drop 0 [[(.i (Int.tmod (w64 (a0 * x0.f1)) (m75 a1)))]])).all fun x => x.all copyable) = true, (length ((take (length (map d_i v1)) (drop 0 (map d_i v1))) ++ ([[(.i (Int.tmod (w64 (a0 * x0.f1)) (m75 a1)))]] : List (List D)))) * 8 ≤ 70368744177664, ∀ r ∈ ([[(.i (Int.tmod (w64 (a0 * x0.f1)) (m75 a1)))]] : List (List D)), r.length = 1, ((take (length (map d_i v1)) (drop 0 (map d_i v1))) ++ ([[(.i (Int.tmod (w64 (a0 * x0.f1)) (m75 a1)))]] : List (List D))) = (map d_i (v1 ++ ([(Int.tmod (w64 (a0 * x0.f1)) (m75 a1))]))), (m75 a1) ≠ 0, True] (by kernel_rfl) ⟨hc, (by have q := mlen_112 a1; simp only [length_map, length_nil, Nat.zero_add] at *; omega), (by omega), (by rw [Nat.zero_add, getElem?_map, Hv0]; rfl), (by have q := (tot_75 a1 (fun z hz => by have := (by assumption : ∀ z ∈ a1, 1 ≤ z.f1 ∧ z.f1 ≤ 9999) z hz; omega) (by omega)).1; omega), (by have q := mlen_112 a1; simp only [length_map, length_nil, Nat.zero_add] at *; omega), (by omega), (by rw [Nat.zero_add, getElem?_map, Hv0]; rfl), (by simp [byteRows_eq, ints_y, take_of_length_le, d_si, d_R, d_B, d_i, d_b, d_C, d_LsiE, d_Q, d_s, d_LiE, d_y, fromBR_si, fromBR_i, fromBR_b, fromBR_s, fromBR_y, ol85, ol86, ol27_0, ol27_1, ol27_2, ol28_0, ol28_1, ol28_2]; done), (by have q := (tot_75 a1 (fun z hz => by have := (by assumption : ∀ z ∈ a1, 1 ≤ z.f1 ∧ z.f1 ≤ 9999) z hz; omega) (by omega)).1; omega), (by omega), (by omega), (by trivial), (by unfold m75; (repeat' split) <;> simp_all <;> omega), (by unfold m75; (repeat' split) <;> simp_all <;> omega), (by simp [byteRows_eq, ints_y, take_of_length_le, d_si, d_R, d_B, d_i, d_b, d_C, d_LsiE, d_Q, d_s, d_LiE, d_y, fromBR_si, fromBR_i, fromBR_b, fromBR_s, fromBR_y, ol85, ol86, ol27_0, ol27_1, ol27_2, ol28_0, ol28_1, ol28_2]; done), (by have q := (tot_75 a1 (fun z hz => by have := (by assumption : ∀ z ∈ a1, 1 ≤ z.f1 ∧ z.f1 ≤ 9999) z hz; omega) (by omega)).1; omega), trivial, trivial⟩
  have ih := t101_0 (l1_0 := l1_0) (a0 := a0) (a1 := a1) hy0 hy1 hy2 hy3 hy4 y0 (p ++ [x0]) (set v0 (Int.toNat (length p : Int)) (K_si.mk x0.f0 (w64 (Int.tdiv (w64 (a0 * x0.f1)) (m75 a1))))) (v1 ++ ([(Int.tmod (w64 (a0 * x0.f1)) (m75 a1))])) (w64 (v4 - (w64 (Int.tdiv (w64 (a0 * x0.f1)) (m75 a1))))) (by rw [append_assoc]; exact hp0) (by simp only [length_map, length_set, length_append, length_replicate, length_cons, length_nil]; omega) (by simp only [length_map, length_set, length_append, length_replicate, length_cons, length_nil]; omega) (by simp only [length_map, length_set, length_append, length_replicate, length_cons, length_nil, Int.toNat_natCast]; first | exact drop_set_next hi2 _ | exact drop_next hi2)
  rw [show ((p ++ [x0]).length : Int) = (p.length : Int) + 1 from by simp] at ih
  replace st := to_ (s' := h101_0 l1_0 a0 a1 ((length p : Int) + 1) (set v0 (Int.toNat (length p : Int)) (K_si.mk x0.f0 (w64 (Int.tdiv (w64 (a0 * x0.f1)) (m75 a1))))) (v1 ++ ([(Int.tmod (w64 (a0 * x0.f1)) (m75 a1))])) (w64 (v4 - (w64 (Int.tdiv (w64 (a0 * x0.f1)) (m75 a1)))))) st (by unfold h101_0; simp [hw, byteRows_eq, ints_y, take_of_length_le, d_si, d_R, d_B, d_i, d_b, d_C, d_LsiE, d_Q, d_s, d_LiE, d_y, fromBR_si, fromBR_i, fromBR_b, fromBR_s, fromBR_y, ol85, ol86, ol27_0, ol27_1, ol27_2, ol28_0, ol28_1, ol28_2]; done)
  exact .loopN st ih
def post101_0 (n0 n1 : Nat) : O101_0 → Prop
 | .k0 w0 w1 _ _ _ => length w0 = n0 ∧ length w1 = n1
theorem z101_0 {a0 : Int} {a1 : (List K_si)} : ∀ (y0 : List K_si) (i : Int) (v0 : List K_si) (v1 : List Int) (v4 : Int), post101_0 (length v0) (length v1 + length y0) (r101_0 a0 a1 y0 i v0 v1 v4)
 | [], i, v0, v1, v4 => by
  first | trivial | (simp only [post101_0, length_nil, Nat.add_zero]; done) | (simp [post101_0]; done)
 | x0 :: y0, i, v0, v1, v4 => by
  simp only [r101_0]
  have z := z101_0 (a0 := a0) (a1 := a1) y0 (i + 1) (set v0 (Int.toNat i) (K_si.mk x0.f0 (w64 (Int.tdiv (w64 (a0 * x0.f1)) (m75 a1))))) (v1 ++ ([(Int.tmod (w64 (a0 * x0.f1)) (m75 a1))])) (w64 (v4 - (w64 (Int.tdiv (w64 (a0 * x0.f1)) (m75 a1)))))
  rw [show (length v0) = (length (set v0 (Int.toNat i) (K_si.mk x0.f0 (w64 (Int.tdiv (w64 (a0 * x0.f1)) (m75 a1)))))) from by first | omega | (simp only [length_map, length_set, length_append, length_replicate, length_cons, length_nil]; done) | (simp only [length_map, length_set, length_append, length_replicate, length_cons, length_nil]; omega), show (length v1 + length (x0 :: y0)) = (length (v1 ++ ([(Int.tmod (w64 (a0 * x0.f1)) (m75 a1))])) + length y0) from by first | omega | (simp only [length_map, length_set, length_append, length_replicate, length_cons, length_nil]; done) | (simp only [length_map, length_set, length_append, length_replicate, length_cons, length_nil]; omega)]
  exact z
theorem left_101 (a0 : Int) (a1 : List K_si) : ∀ (l : List K_si) (i : Int) (v0 : List K_si) (v1 : List Int) (v4 : Int), v4 ≤ 9223372036854775807 → ∀ w0 w1 w2 w3 w4, r101_0 a0 a1 l i v0 v1 v4 = .k0 w0 w1 w2 w3 w4 → w2 ≤ 9223372036854775807
 | [], i, v0, v1, v4, h, w0, w1, w2, w3, w4, e => by
  simp only [r101_0] at e
  injection e with e0 e1 e2 e3 e4
  omega
 | x :: l, i, v0, v1, v4, h, w0, w1, w2, w3, w4, e => by
  simp only [r101_0] at e
  exact left_101 a0 a1 l (i + 1) _ _ _ (wrap64_range _).2 w0 w1 w2 w3 w4 e
inductive O101_1 where
 | k0 (w0 : List K_si) (w1 : List Int) (w2 : Int) (w3 : Bool)
def r101_1 (c1_101_1 : Int) : Nat → Int → List K_si → List Int → O101_1
 | n + 1, i, v0, v1 =>
  (r101_1 c1_101_1 n (i + 1) (set v0 (Int.toNat (m151 v1 (m152 v1))) (K_si.mk ((getD v0 (Int.toNat (m151 v1 (m152 v1))) (K_si.mk (⟨#[]⟩ : ByteArray) 0)).f0) (w64 (((getD v0 (Int.toNat (m151 v1 (m152 v1))) (K_si.mk (⟨#[]⟩ : ByteArray) 0)).f1) + 1)))) (set v1 (Int.toNat (m151 v1 (m152 v1))) (-1)))
 | 0, i, v0, v1 => (O101_1.k0 v0 v1 i (decide (i < c1_101_1)))
def h101_1 (l1_0 : Nat) (a0 : Int) (a1 : (List K_si)) (c0_101_1 : List Int) (c1_101_1 : Int) (c2_101_1 : List K_si) (i : Int) (v0 : List K_si) (v1 : List Int) : St := ⟨[(5, (.one (.ref ⟨(5, 0, 0), [], 0, (length (map d_si (m112 a1)))⟩))), (7, (.one (.ref ⟨(7, 0, 0), [], 0, (length (map d_i c0_101_1))⟩))), (49, (.one (.val (.int .i64 c1_101_1)))), (50, (.one (.val (.int .i64 i))))], [((5, 0, 0), .live ⟨2, (map d_si v0), []⟩), ((7, 0, 0), .live ⟨1, (map d_i v1), []⟩)]⟩
def ex101_1 : O101_1 → VX.Exit
 | .k0 _ _ _ _ => (.exit 2)
def fin101_1 (l1_0 : Nat) (a0 : Int) (a1 : (List K_si)) (c0_101_1 : List Int) (c1_101_1 : Int) (c2_101_1 : List K_si) : O101_1 → St
 | .k0 w0 w1 w2 w3 => ⟨[(5, (.one (.ref ⟨(5, 0, 0), [], 0, (length (map d_si (m112 a1)))⟩))), (7, (.one (.ref ⟨(7, 0, 0), [], 0, (length (map d_i c0_101_1))⟩))), (49, (.one (.val (.int .i64 c1_101_1)))), (50, (.one (.val (.int .i64 w2)))), (51, (.one (.val (.bool w3))))], [((5, 0, 0), .live ⟨2, (map d_si w0), []⟩), ((7, 0, 0), .live ⟨1, (map d_i w1), []⟩)]⟩
theorem t101_1 {l1_0 : Nat} {a0 : Int} {a1 : (List K_si)} {c0_101_1 : List Int} {c1_101_1 : Int} {c2_101_1 : List K_si} (hy0 : 0 ≤ a0) (hy1 : a0 ≤ 1000000) (hy2 : 0 < length a1) (hy3 : length a1 ≤ 12) (hy4 : ∀ z ∈ a1, 1 ≤ z.f1 ∧ z.f1 ≤ 9999) (hy5 : length c0_101_1 ≤ 140737488351232) (hy6 : length c2_101_1 ≤ 140737488351232) : ∀ (n : Nat) (i : Int) (v0 : List K_si) (v1 : List Int), 0 ≤ i → n = Int.toNat (c1_101_1 - i) → length v0 = (length (map d_si (m112 a1))) → length v1 = (length (map d_i c0_101_1)) → c1_101_1 ≤ 9223372036854775807 → length v0 = length v1 → 1 ≤ length v1 → length v1 ≤ 1000 → Ev F X (.code l101_1 (h101_1 l1_0 a0 a1 c0_101_1 c1_101_1 c2_101_1 i v0 v1) (ex101_1 (r101_1 c1_101_1 n i v0 v1)) (fin101_1 l1_0 a0 a1 c0_101_1 c1_101_1 c2_101_1 (r101_1 c1_101_1 n i v0 v1)))
 | 0, i, v0, v1, hn0, hn, hi0, hi1, hi2, hi3, hi4, hi5 => by
  have hc : ¬ (decide (i < c1_101_1)) = true := by
   simp only [decide_eq_true_eq]; omega
  have st := ch b101_1 [(2, .b false)] (h101_1 l1_0 a0 a1 c0_101_1 c1_101_1 c2_101_1 i v0 v1) (fin101_1 l1_0 a0 a1 c0_101_1 c1_101_1 c2_101_1 (.k0 v0 v1 i (decide (i < c1_101_1)))) (.exit 2) 3 [(decide (i < c1_101_1)) = false] (by kernel_rfl) ⟨(nt hc), trivial⟩
  exact .loopX st (show ((.exit 2) : VX.Exit) ≠ .normal from by simp)
 | n + 1, i, v0, v1, hn0, hn, hi0, hi1, hi2, hi3, hi4, hi5 => by
  have hc : (decide (i < c1_101_1)) = true := by
   simp only [decide_eq_true_eq]; omega
  have hw : w64 (i + 1) = i + 1 := wrap64 (by omega)
  have hj0 := hi0; try simp only [length_map, length_set, length_append, length_replicate, length_cons, length_nil, Int.toNat_natCast] at hj0
  have hj1 := hi1; try simp only [length_map, length_set, length_append, length_replicate, length_cons, length_nil, Int.toNat_natCast] at hj1
  have hj2 := hi2; try simp only [length_map, length_set, length_append, length_replicate, length_cons, length_nil, Int.toNat_natCast] at hj2
  have hj3 := hi3; try simp only [length_map, length_set, length_append, length_replicate, length_cons, length_nil, Int.toNat_natCast] at hj3
  have hj4 := hi4; try simp only [length_map, length_set, length_append, length_replicate, length_cons, length_nil, Int.toNat_natCast] at hj4
  have hj5 := hi5; try simp only [length_map, length_set, length_append, length_replicate, length_cons, length_nil, Int.toNat_natCast] at hj5
  simp only [r101_1]
  have st := ch b101_1 [(2, .b true), (8, .ret [] [(.oi (m152 v1))] [] [(map b_i v1)]), (10, .ret [] [(.oi (m151 v1 (m152 v1)))] [] [(map b_i v1)]), (22, .rowD [(.val (.string ((getD v0 (Int.toNat (m151 v1 (m152 v1))) (K_si.mk (⟨#[]⟩ : ByteArray) 0)).f0))), (.i ((getD v0 (Int.toNat (m151 v1 (m152 v1))) (K_si.mk (⟨#[]⟩ : ByteArray) 0)).f1))]), (30, .rowD [(.val (.string ((getD v0 (Int.toNat (m151 v1 (m152 v1))) (K_si.mk (⟨#[]⟩ : ByteArray) 0)).f0))), (.i ((getD v0 (Int.toNat (m151 v1 (m152 v1))) (K_si.mk (⟨#[]⟩ : ByteArray) 0)).f1))]), (31, .norm (5, 0, 0) (map d_si (set v0 (Int.toNat (m151 v1 (m152 v1))) (K_si.mk ((getD v0 (Int.toNat (m151 v1 (m152 v1))) (K_si.mk (⟨#[]⟩ : ByteArray) 0)).f0) (w64 (((getD v0 (Int.toNat (m151 v1 (m152 v1))) (K_si.mk (⟨#[]⟩ : ByteArray) 0)).f1) + 1)))))), (39, .rowD [(.i (getD v1 (Int.toNat (m151 v1 (m152 v1))) 0))]), (40, .norm (7, 0, 0) (map d_i (set v1 (Int.toNat (m151 v1 (m152 v1))) (-1))))] (h101_1 l1_0 a0 a1 c0_101_1 c1_101_1 c2_101_1 i v0 v1) ⟨[(5, (.one (.ref ⟨(5, 0, 0), [], 0, (length (map d_si (m112 a1)))⟩))), (7, (.one (.ref ⟨(7, 0, 0), [], 0, (length (map d_i c0_101_1))⟩))), (49, (.oi c1_101_1)), (50, (.oi (w64 (i + 1))))], [((5, 0, 0), .live ⟨2, (map d_si (set v0 (Int.toNat (m151 v1 (m152 v1))) (K_si.mk ((getD v0 (Int.toNat (m151 v1 (m152 v1))) (K_si.mk (⟨#[]⟩ : ByteArray) 0)).f0) (w64 (((getD v0 (Int.toNat (m151 v1 (m152 v1))) (K_si.mk (⟨#[]⟩ : ByteArray) 0)).f1) + 1))))), []⟩), ((7, 0, 0), .live ⟨1, (map d_i (set v1 (Int.toNat (m151 v1 (m152 v1))) (-1))), []⟩)]⟩ .normal 45 [(decide (i < c1_101_1)) = true, 0 + (length (map d_i c0_101_1)) ≤ (length (map d_i v1)), fullR (take (length (map d_i c0_101_1)) (drop 0 (map d_i v1))) = true, toBR (take (length (map d_i c0_101_1)) (drop 0 (map d_i v1))) = (map b_i v1), Ev F X (.call 152 [(.one (.bor 0 (map b_i v1)))] [] [] [(.oi (m152 v1))]), 0 + (length (map d_i c0_101_1)) ≤ (length (map d_i v1)), fullR (take (length (map d_i c0_101_1)) (drop 0 (map d_i v1))) = true, toBR (take (length (map d_i c0_101_1)) (drop 0 (map d_i v1))) = (map b_i v1), Ev F X (.call 151 [(.one (.bor 0 (map b_i v1))), (.oi (m152 v1))] [] [] [(.oi (m151 v1 (m152 v1)))]), 0 + (length (map d_si (m112 a1))) ≤ (length (map d_si v0)), 0 ≤ (m151 v1 (m152 v1)) ∧ (m151 v1 (m152 v1)) < ((length (map d_si (m112 a1))) : Int), (map d_si v0)[(0 + (Int.toNat (m151 v1 (m152 v1))))]? = some [(.val (.string ((getD v0 (Int.toNat (m151 v1 (m152 v1))) (K_si.mk (⟨#[]⟩ : ByteArray) 0)).f0))), (.i ((getD v0 (Int.toNat (m151 v1 (m152 v1))) (K_si.mk (⟨#[]⟩ : ByteArray) 0)).f1))], True, 0 + (length (map d_si (m112 a1))) ≤ (length (map d_si v0)), 0 ≤ (m151 v1 (m152 v1)) ∧ (m151 v1 (m152 v1)) < ((length (map d_si (m112 a1))) : Int), (map d_si v0)[(0 + (Int.toNat (m151 v1 (m152 v1))))]? = some [(.val (.string ((getD v0 (Int.toNat (m151 v1 (m152 v1))) (K_si.mk (⟨#[]⟩ : ByteArray) 0)).f0))), (.i ((getD v0 (Int.toNat (m151 v1 (m152 v1))) (K_si.mk (⟨#[]⟩ : ByteArray) 0)).f1))], (set (map d_si v0) (0 + (Int.toNat (m151 v1 (m152 v1)))) [(.val (.string ((getD v0 (Int.toNat (m151 v1 (m152 v1))) (K_si.mk (⟨#[]⟩ : ByteArray) 0)).f0))), (.i (w64 (((getD v0 (Int.toNat (m151 v1 (m152 v1))) (K_si.mk (⟨#[]⟩ : ByteArray) 0)).f1) + 1)))]) = (map d_si (set v0 (Int.toNat (m151 v1 (m152 v1))) (K_si.mk ((getD v0 (Int.toNat (m151 v1 (m152 v1))) (K_si.mk (⟨#[]⟩ : ByteArray) 0)).f0) (w64 (((getD v0 (Int.toNat (m151 v1 (m152 v1))) (K_si.mk (⟨#[]⟩ : ByteArray) 0)).f1) + 1))))), 0 + (length (map d_i c0_101_1)) ≤ (length (map d_i v1)), 0 ≤ (m151 v1 (m152 v1)) ∧ (m151 v1 (m152 v1)) < ((length (map d_i c0_101_1)) : Int), (map d_i v1)[(0 + (Int.toNat (m151 v1 (m152 v1))))]? = some [(.i (getD v1 (Int.toNat (m151 v1 (m152 v1))) 0))], (set (map d_i v1) (0 + (Int.toNat (m151 v1 (m152 v1)))) [(.i (-1))]) = (map d_i (set v1 (Int.toNat (m151 v1 (m152 v1))) (-1))), True] (by kernel_rfl) ⟨hc, (by have q := mlen_112 a1; simp only [length_map, length_nil, Nat.zero_add] at *; omega), (ft_i _ _ _), (by rw [List.drop_zero, take_of_length_le (by simp only [length_map] at *; omega)]; exact toBR_i _), (e152 (a0 := v1) (by with_reducible assumption) (by with_reducible assumption)), (by have q := mlen_112 a1; simp only [length_map, length_nil, Nat.zero_add] at *; omega), (ft_i _ _ _), (by rw [List.drop_zero, take_of_length_le (by simp only [length_map] at *; omega)]; exact toBR_i _), (e151 (a0 := v1) (a1 := (m152 v1)) (by omega)), (by have q := mlen_112 a1; simp only [length_map, length_nil, Nat.zero_add] at *; omega), (by have q := im v1 (by simp only [length_map] at *; omega) (by simp only [length_map] at *; omega); simp only [length_map] at *; omega), (by rw [Nat.zero_add, getElem?_map, getD_at v0 (Int.toNat (m151 v1 (m152 v1))) (K_si.mk (⟨#[]⟩ : ByteArray) 0) (by first | exact True.intro | with_reducible rfl | with_reducible assumption | omega | (have q := mlen_112 a1; simp only [length_map, length_nil, Nat.zero_add] at *; omega) | (have q := mlen_112 a1; omega) | (have q := (tot_75 a1 (fun z hz => by have := (by assumption : ∀ z ∈ a1, 1 ≤ z.f1 ∧ z.f1 ≤ 9999) z hz; omega) (by omega)).1; omega) | (simp only [decide_eq_true_eq, length_map] at *; omega) | (have q := im v1 (by simp only [length_map] at *; omega) (by simp only [length_map] at *; omega); simp only [length_map] at *; omega) | (have q := ix151 v1 (m152 v1); simp only [decide_eq_true_eq, length_map] at *; omega) | (unfold m151 m152; (repeat' split) <;> simp_all <;> omega) | (simp only [decide_eq_true_eq] at *; omega) | (simp only [length_map]; omega) | (simp [ol85, ol86, ol27_0, ol27_1, ol27_2, ol28_0, ol28_1, ol28_2]; omega) | (simp [take_of_length_le, ol85, ol86, ol27_0, ol27_1, ol27_2, ol28_0, ol28_1, ol28_2]; done) | assumption | trivial | (simp [*, ol85, ol86, ol27_0, ol27_1, ol27_2, ol28_0, ol28_1, ol28_2, byteRows_eq, ints_y]; done))]; rfl), trivial, (by have q := mlen_112 a1; simp only [length_map, length_nil, Nat.zero_add] at *; omega), (by have q := im v1 (by simp only [length_map] at *; omega) (by simp only [length_map] at *; omega); simp only [length_map] at *; omega), (by rw [Nat.zero_add, getElem?_map, getD_at v0 (Int.toNat (m151 v1 (m152 v1))) (K_si.mk (⟨#[]⟩ : ByteArray) 0) (by first | exact True.intro | with_reducible rfl | with_reducible assumption | omega | (have q := mlen_112 a1; simp only [length_map, length_nil, Nat.zero_add] at *; omega) | (have q := mlen_112 a1; omega) | (have q := (tot_75 a1 (fun z hz => by have := (by assumption : ∀ z ∈ a1, 1 ≤ z.f1 ∧ z.f1 ≤ 9999) z hz; omega) (by omega)).1; omega) | (simp only [decide_eq_true_eq, length_map] at *; omega) | (have q := im v1 (by simp only [length_map] at *; omega) (by simp only [length_map] at *; omega); simp only [length_map] at *; omega) | (have q := ix151 v1 (m152 v1); simp only [decide_eq_true_eq, length_map] at *; omega) | (unfold m151 m152; (repeat' split) <;> simp_all <;> omega) | (simp only [decide_eq_true_eq] at *; omega) | (simp only [length_map]; omega) | (simp [ol85, ol86, ol27_0, ol27_1, ol27_2, ol28_0, ol28_1, ol28_2]; omega) | (simp [take_of_length_le, ol85, ol86, ol27_0, ol27_1, ol27_2, ol28_0, ol28_1, ol28_2]; done) | assumption | trivial | (simp [*, ol85, ol86, ol27_0, ol27_1, ol27_2, ol28_0, ol28_1, ol28_2, byteRows_eq, ints_y]; done))]; rfl), (by simp [byteRows_eq, ints_y, take_of_length_le, d_si, d_R, d_B, d_i, d_b, d_C, d_LsiE, d_Q, d_s, d_LiE, d_y, fromBR_si, fromBR_i, fromBR_b, fromBR_s, fromBR_y, ol85, ol86, ol27_0, ol27_1, ol27_2, ol28_0, ol28_1, ol28_2]; done), (by have q := mlen_112 a1; simp only [length_map, length_nil, Nat.zero_add] at *; omega), (by have q := im v1 (by simp only [length_map] at *; omega) (by simp only [length_map] at *; omega); simp only [length_map] at *; omega), (by rw [Nat.zero_add, getElem?_map, getD_at v1 (Int.toNat (m151 v1 (m152 v1))) 0 (by first | exact True.intro | with_reducible rfl | with_reducible assumption | omega | (have q := mlen_112 a1; simp only [length_map, length_nil, Nat.zero_add] at *; omega) | (have q := mlen_112 a1; omega) | (have q := (tot_75 a1 (fun z hz => by have := (by assumption : ∀ z ∈ a1, 1 ≤ z.f1 ∧ z.f1 ≤ 9999) z hz; omega) (by omega)).1; omega) | (simp only [decide_eq_true_eq, length_map] at *; omega) | (have q := im v1 (by simp only [length_map] at *; omega) (by simp only [length_map] at *; omega); simp only [length_map] at *; omega) | (have q := ix151 v1 (m152 v1); simp only [decide_eq_true_eq, length_map] at *; omega) | (unfold m151 m152; (repeat' split) <;> simp_all <;> omega) | (simp only [decide_eq_true_eq] at *; omega) | (simp only [length_map]; omega) | (simp [ol85, ol86, ol27_0, ol27_1, ol27_2, ol28_0, ol28_1, ol28_2]; omega) | (simp [take_of_length_le, ol85, ol86, ol27_0, ol27_1, ol27_2, ol28_0, ol28_1, ol28_2]; done) | assumption | trivial | (simp [*, ol85, ol86, ol27_0, ol27_1, ol27_2, ol28_0, ol28_1, ol28_2, byteRows_eq, ints_y]; done))]; rfl), (by simp [byteRows_eq, ints_y, take_of_length_le, d_si, d_R, d_B, d_i, d_b, d_C, d_LsiE, d_Q, d_s, d_LiE, d_y, fromBR_si, fromBR_i, fromBR_b, fromBR_s, fromBR_y, ol85, ol86, ol27_0, ol27_1, ol27_2, ol28_0, ol28_1, ol28_2]; done), trivial, trivial⟩
  have ih := t101_1 (l1_0 := l1_0) (a0 := a0) (a1 := a1) (c0_101_1 := c0_101_1) (c1_101_1 := c1_101_1) (c2_101_1 := c2_101_1) hy0 hy1 hy2 hy3 hy4 hy5 hy6 n (i + 1) (set v0 (Int.toNat (m151 v1 (m152 v1))) (K_si.mk ((getD v0 (Int.toNat (m151 v1 (m152 v1))) (K_si.mk (⟨#[]⟩ : ByteArray) 0)).f0) (w64 (((getD v0 (Int.toNat (m151 v1 (m152 v1))) (K_si.mk (⟨#[]⟩ : ByteArray) 0)).f1) + 1)))) (set v1 (Int.toNat (m151 v1 (m152 v1))) (-1)) (by omega) (by omega) (by simp only [length_map, length_set, length_append, length_replicate, length_cons, length_nil]; omega) (by simp only [length_map, length_set, length_append, length_replicate, length_cons, length_nil]; omega) (by omega) (by simp only [length_map, length_set, length_append, length_replicate, length_cons, length_nil]; omega) (by simp only [length_map, length_set, length_append, length_replicate, length_cons, length_nil]; omega) (by simp only [length_map, length_set, length_append, length_replicate, length_cons, length_nil]; omega)
  replace st := to_ (s' := h101_1 l1_0 a0 a1 c0_101_1 c1_101_1 c2_101_1 (i + 1) (set v0 (Int.toNat (m151 v1 (m152 v1))) (K_si.mk ((getD v0 (Int.toNat (m151 v1 (m152 v1))) (K_si.mk (⟨#[]⟩ : ByteArray) 0)).f0) (w64 (((getD v0 (Int.toNat (m151 v1 (m152 v1))) (K_si.mk (⟨#[]⟩ : ByteArray) 0)).f1) + 1)))) (set v1 (Int.toNat (m151 v1 (m152 v1))) (-1))) st (by unfold h101_1; simp only [hw]; done)
  exact .loopN st ih
def post101_1 (n0 n1 : Nat) : O101_1 → Prop
 | .k0 w0 w1 _ _ => length w0 = n0 ∧ length w1 = n1
theorem z101_1 {c1_101_1 : Int} : ∀ (n : Nat) (i : Int) (v0 : List K_si) (v1 : List Int), post101_1 (length v0) (length v1) (r101_1 c1_101_1 n i v0 v1)
 | 0, i, v0, v1 => by
  first | trivial | (simp only [post101_1, length_nil, Nat.add_zero]; done) | (simp [post101_1]; done)
 | n + 1, i, v0, v1 => by
  simp only [r101_1]
  have z := z101_1 (c1_101_1 := c1_101_1) n (i + 1) (set v0 (Int.toNat (m151 v1 (m152 v1))) (K_si.mk ((getD v0 (Int.toNat (m151 v1 (m152 v1))) (K_si.mk (⟨#[]⟩ : ByteArray) 0)).f0) (w64 (((getD v0 (Int.toNat (m151 v1 (m152 v1))) (K_si.mk (⟨#[]⟩ : ByteArray) 0)).f1) + 1)))) (set v1 (Int.toNat (m151 v1 (m152 v1))) (-1))
  rw [show (length v0) = (length (set v0 (Int.toNat (m151 v1 (m152 v1))) (K_si.mk ((getD v0 (Int.toNat (m151 v1 (m152 v1))) (K_si.mk (⟨#[]⟩ : ByteArray) 0)).f0) (w64 (((getD v0 (Int.toNat (m151 v1 (m152 v1))) (K_si.mk (⟨#[]⟩ : ByteArray) 0)).f1) + 1))))) from by first | omega | (simp only [length_map, length_set, length_append, length_replicate, length_cons, length_nil]; done) | (simp only [length_map, length_set, length_append, length_replicate, length_cons, length_nil]; omega), show (length v1) = (length (set v1 (Int.toNat (m151 v1 (m152 v1))) (-1))) from by first | omega | (simp only [length_map, length_set, length_append, length_replicate, length_cons, length_nil]; done) | (simp only [length_map, length_set, length_append, length_replicate, length_cons, length_nil]; omega)]
  exact z
def m101 (a0 : Int) (a1 : (List K_si)) : (List K_si) :=
 (match r101_0 a0 a1 (m112 a1) 0 (m112 a1) ([]) a0 with | .k0 w0_2 w1_2 w2_2 w3_2 w4_2 => (match r101_1 w2_2 (Int.toNat w2_2) 0 w0_2 w1_2 with | .k0 w0_3 w1_3 w2_3 w3_3 => w0_3))
theorem e101 {a0 : Int} {l1_0 : Nat} {a1 : (List K_si)} (hy0 : 0 ≤ a0) (hy1 : a0 ≤ 1000000) (hy2 : 0 < length a1) (hy3 : length a1 ≤ 12) (hy4 : ∀ z ∈ a1, 1 ≤ z.f1 ∧ z.f1 ≤ 9999) : Ev F X (.call 101 [(.one (.val (.int .i64 a0))), (.one (.bor l1_0 (map b_si a1)))] [] [] [(.one (.own 2 (map d_si (m101 a0 a1))))]) := by
 unfold m101
 have f0 := e112 (l0_0 := l1_0 + 1) (a0 := a1) (by omega)
 have f1 := e75 (l0_0 := l1_0 + 1) (a0 := a1) (by omega)
 cases h0 : r101_0 a0 a1 (m112 a1) 0 (m112 a1) ([]) a0 with
 | k0 w0_2 w1_2 w2_2 w3_2 w4_2 =>
  try dsimp only
  have zh0 := z101_0 (a0 := a0) (a1 := a1) (m112 a1) 0 (m112 a1) ([]) a0; rw [h0] at zh0; simp only [post101_0, length_map, length_set, length_append, length_replicate, length_cons, length_nil, Int.toNat_natCast] at zh0; have qh0 := left_101 a0 a1 _ _ _ _ _ (by omega) _ _ _ _ _ h0
  have f2 : (⟨[(0, (.oi a0)), (5, (.one (.ref ⟨(5, 0, 0), [], 0, (length (map d_si (m112 a1)))⟩))), (6, (.oi (m75 a1))), (7, (.one (.ref ⟨(7, 0, 0), [], 0, 0⟩))), (8, (.oi a0)), (19, (.one (.ref ⟨(5, 0, 0), [], 0, (length (map d_si (m112 a1)))⟩))), (20, (.oi ((length (map d_si (m112 a1))) : Int))), (21, (.oi 0))], [((5, 0, 0), .live ⟨2, (map d_si (m112 a1)), []⟩), ((7, 0, 0), .live ⟨1, [], []⟩)]⟩ : St) = h101_0 l1_0 a0 a1 0 (m112 a1) ([]) a0 := (by rfl)
  have f3 : Ev F X (.code l101_0 (h101_0 l1_0 a0 a1 0 (m112 a1) ([]) a0) (.exit 0) ⟨[(0, (.oi a0)), (5, (.one (.ref ⟨(5, 0, 0), [], 0, (length (map d_si (m112 a1)))⟩))), (6, (.oi (m75 a1))), (7, (.one (.ref ⟨(7, 0, 0), [], 0, (length (map d_i w1_2))⟩))), (8, (.oi w2_2)), (19, (.one (.ref ⟨(5, 0, 0), [], 0, (length (map d_si (m112 a1)))⟩))), (20, (.oi ((length (map d_si (m112 a1))) : Int))), (21, (.oi w3_2)), (22, (.one (.val (.bool w4_2))))], [((5, 0, 0), .live ⟨2, (map d_si w0_2), []⟩), ((7, 0, 0), .live ⟨1, (map d_i w1_2), []⟩)]⟩) := (by have t : Ev F X (.code l101_0 (h101_0 l1_0 a0 a1 0 (m112 a1) ([]) a0) (ex101_0 (r101_0 a0 a1 (m112 a1) 0 (m112 a1) ([]) a0)) (fin101_0 l1_0 a0 a1 (r101_0 a0 a1 (m112 a1) 0 (m112 a1) ([]) a0))) := t101_0 (l1_0 := l1_0) (a0 := a0) (a1 := a1) (by assumption) (by assumption) (by assumption) (by assumption) (by assumption) (m112 a1) [] (m112 a1) ([]) a0 rfl (by simp only [length_map, length_set, length_append, length_replicate, length_cons, length_nil]; done) (by have q1 := mlen_112 a1; have q2 := (mne_112 a1 (by assumption) (by omega)).1 (by omega); simp only [length_map, length_nil, length_set, Nat.zero_add] at *; omega) (by rfl); rw [h0] at t; exact t)
  cases h1 : r101_1 w2_2 (Int.toNat w2_2) 0 w0_2 w1_2 with
  | k0 w0_3 w1_3 w2_3 w3_3 =>
   try dsimp only
   have zh1 := z101_1 (c1_101_1 := w2_2) (Int.toNat w2_2) 0 w0_2 w1_2; rw [h1] at zh1; simp only [post101_1, length_map, length_set, length_append, length_replicate, length_cons, length_nil, Int.toNat_natCast] at zh1
   have f4 : (⟨[(5, (.one (.ref ⟨(5, 0, 0), [], 0, (length (map d_si (m112 a1)))⟩))), (7, (.one (.ref ⟨(7, 0, 0), [], 0, (length (map d_i w1_2))⟩))), (49, (.oi w2_2)), (50, (.oi 0))], [((5, 0, 0), .live ⟨2, (map d_si w0_2), []⟩), ((7, 0, 0), .live ⟨1, (map d_i w1_2), []⟩)]⟩ : St) = h101_1 l1_0 a0 a1 w1_2 w2_2 w0_2 0 w0_2 w1_2 := (by rfl)
   have f5 : Ev F X (.code l101_1 (h101_1 l1_0 a0 a1 w1_2 w2_2 w0_2 0 w0_2 w1_2) (.exit 2) ⟨[(5, (.one (.ref ⟨(5, 0, 0), [], 0, (length (map d_si (m112 a1)))⟩))), (7, (.one (.ref ⟨(7, 0, 0), [], 0, (length (map d_i w1_2))⟩))), (49, (.oi w2_2)), (50, (.oi w2_3)), (51, (.one (.val (.bool w3_3))))], [((5, 0, 0), .live ⟨2, (map d_si w0_3), []⟩), ((7, 0, 0), .live ⟨1, (map d_i w1_3), []⟩)]⟩) := (by have t : Ev F X (.code l101_1 (h101_1 l1_0 a0 a1 w1_2 w2_2 w0_2 0 w0_2 w1_2) (ex101_1 (r101_1 w2_2 (Int.toNat w2_2) 0 w0_2 w1_2)) (fin101_1 l1_0 a0 a1 w1_2 w2_2 w0_2 (r101_1 w2_2 (Int.toNat w2_2) 0 w0_2 w1_2))) := t101_1 (l1_0 := l1_0) (a0 := a0) (a1 := a1) (c0_101_1 := w1_2) (c1_101_1 := w2_2) (c2_101_1 := w0_2) (by assumption) (by assumption) (by assumption) (by assumption) (by assumption) (by have q := mlen_112 a1; simp only [length_map, length_nil, Nat.zero_add] at *; omega) (by have q := mlen_112 a1; simp only [length_map, length_nil, Nat.zero_add] at *; omega) _ 0 w0_2 w1_2 (by omega) (by omega) (by have q1 := mlen_112 a1; have q2 := (mne_112 a1 (by assumption) (by omega)).1 (by omega); simp only [length_map, length_nil, length_set, Nat.zero_add] at *; omega) (by simp only [length_map, length_set, length_append, length_replicate, length_cons, length_nil]; done) (by omega) (by omega) (by have q1 := mlen_112 a1; have q2 := (mne_112 a1 (by assumption) (by omega)).1 (by omega); simp only [length_map, length_nil, length_set, Nat.zero_add] at *; omega) (by have q1 := mlen_112 a1; have q2 := (mne_112 a1 (by assumption) (by omega)).1 (by omega); simp only [length_map, length_nil, length_set, Nat.zero_add] at *; omega); rw [h1] at t; exact t)
   have f7 : (length (map d_si (m112 a1))) = (length (map d_si w0_3)) := (by have q := mlen_112 a1; simp only [length_map, length_nil, Nat.zero_add] at *; omega)
   exact cp (by kernel_rfl) (.r 5 [] [] f0 (.r 9 [] [] f1 (.f f2 (.f f3 (.f f4 (.f f5 (.e 0 (.f f7 (.f (pureR_si w0_3) (.h 28 (.loop (h101_0 l1_0 a0 a1 0 (m112 a1) ([]) a0) (.exit 0) ⟨[(0, (.oi a0)), (5, (.one (.ref ⟨(5, 0, 0), [], 0, (length (map d_si (m112 a1)))⟩))), (6, (.oi (m75 a1))), (7, (.one (.ref ⟨(7, 0, 0), [], 0, (length (map d_i w1_2))⟩))), (8, (.oi w2_2)), (19, (.one (.ref ⟨(5, 0, 0), [], 0, (length (map d_si (m112 a1)))⟩))), (20, (.oi ((length (map d_si (m112 a1))) : Int))), (21, (.oi w3_2)), (22, (.one (.val (.bool w4_2))))], [((5, 0, 0), .live ⟨2, (map d_si w0_2), []⟩), ((7, 0, 0), .live ⟨1, (map d_i w1_2), []⟩)]⟩) (.h 33 (.loop (h101_1 l1_0 a0 a1 w1_2 w2_2 w0_2 0 w0_2 w1_2) (.exit 2) ⟨[(5, (.one (.ref ⟨(5, 0, 0), [], 0, (length (map d_si (m112 a1)))⟩))), (7, (.one (.ref ⟨(7, 0, 0), [], 0, (length (map d_i w1_2))⟩))), (49, (.oi w2_2)), (50, (.oi w2_3)), (51, (.one (.val (.bool w3_3))))], [((5, 0, 0), .live ⟨2, (map d_si w0_3), []⟩), ((7, 0, 0), .live ⟨1, (map d_i w1_3), []⟩)]⟩) .nil)))))))))))
theorem dlen101 (t : Int) (a : List K_si) : length (m101 t a) = length (m112 a) := by
 have z := z101_0 (a0 := t) (a1 := a) (m112 a) 0 (m112 a) [] t
 unfold m101
 cases hr : r101_0 t a (m112 a) 0 (m112 a) [] t with
 | k0 w0 w1 w2 w3 w4 =>
  rw [hr] at z
  have z1 := z101_1 (c1_101_1 := w2) (Int.toNat w2) 0 w0 w1
  simp only []
  cases hr1 : r101_1 w2 (Int.toNat w2) 0 w0 w1 with
  | k0 u0 u1 u2 u3 =>
   rw [hr1] at z1
   simp only [post101_0, post101_1, length_nil, Nat.zero_add] at z z1
   simp only []
   omega
def o1009900_0 (a0 : K_B) (a101001 : Int) (a102001 : Int) : K_B :=
 if (!(m93 a101001 0 2147483646)) = true then a0 else
 if (!(m93 a102001 0 1000000)) = true then a0 else
  if (decide ((m1014500 a0.f3 a101001) ≥ 0)) = true then a0 else
   if (decide (((length (map d_R a0.f3)) : Int) ≥ 6)) = true then a0 else
    if (!(m93 (w64 ((m76 a0.f3 0) + a102001)) 0 1000000)) = true then a0 else
     if (decide (((length (map d_si a0.f2)) : Int) > 0)) = true then (K_B.mk a0.f0 a0.f1 a0.f2 (a0.f3 ++ ([(K_R.mk a101001 a102001 (w64 (Int.tdiv (w64 (a102001 * a0.f1)) 1000)) (m101 (w64 (a102001 - (w64 (Int.tdiv (w64 (a102001 * a0.f1)) 1000)))) a0.f2) 1)])) a0.f4 a0.f5 a0.f6 a0.f7) else
      (K_B.mk a0.f0 a0.f1 a0.f2 (a0.f3 ++ ([(K_R.mk a101001 a102001 a102001 [] 1)])) a0.f4 a0.f5 a0.f6 a0.f7)
def m1009900 (a0 : K_B) (a101001 : Int) (a102001 : Int) : Int :=
 if (!(m93 a101001 0 2147483646)) = true then 3 else
 if (!(m93 a102001 0 1000000)) = true then 3 else
  if (decide ((m1014500 a0.f3 a101001) ≥ 0)) = true then 6 else
   if (decide (((length (map d_R a0.f3)) : Int) ≥ 6)) = true then 10 else
    if (!(m93 (w64 ((m76 a0.f3 0) + a102001)) 0 1000000)) = true then 7 else
     0
theorem e1009900 {a0 : K_B} {l101000 : Nat} {a101001 : Int} {l102000 : Nat} {a102001 : Int} (hy0 : length a0.f2 ≤ 100) (hy1 : length a0.f3 ≤ 100) (hy2 : ∀ z ∈ a0.f3, length z.f3 ≤ 100) (hy3 : length a0.f4 ≤ 100) (hy4 : ∀ z ∈ a0.f3, ok_R z) (hy5 : length a0.f2 ≤ 12) (hy6 : ∀ z ∈ a0.f2, 1 ≤ z.f1 ∧ z.f1 ≤ 9999) (hy7 : 0 ≤ a0.f1 ∧ a0.f1 ≤ 1000) : Ev F X (.call 99 [(.ptr ⟨(0, 0, 0), [], 0, 0, 8⟩), (.bptr l101000 [(.val (.int .i64 a101001))]), (.bptr l102000 [(.val (.int .i64 a102001))])] [((0, 0, 0), ⟨8, [[(.val (.int .i64 a0.f0)), (.val (.int .i64 a0.f1)), (.own 2 (map d_si a0.f2)), (.own 5 (map d_R a0.f3)), (.own 2 (map d_si a0.f4)), (.val (.int .i64 a0.f5)), (.val (.int .i64 a0.f6)), (.val (.int .i64 a0.f7))]], []⟩)] [[[(.val (.int .i64 ((o1009900_0 a0 a101001 a102001).f0))), (.val (.int .i64 ((o1009900_0 a0 a101001 a102001).f1))), (.own 2 (map d_si ((o1009900_0 a0 a101001 a102001).f2))), (.own 5 (map d_R ((o1009900_0 a0 a101001 a102001).f3))), (.own 2 (map d_si ((o1009900_0 a0 a101001 a102001).f4))), (.val (.int .i64 ((o1009900_0 a0 a101001 a102001).f5))), (.val (.int .i64 ((o1009900_0 a0 a101001 a102001).f6))), (.val (.int .i64 ((o1009900_0 a0 a101001 a102001).f7)))]]] [(.one (.val (.int .i64 (m1009900 a0 a101001 a102001))))]) := by
 unfold m1009900 o1009900_0
 have f0 := e100 (a0 := a101001)
 by_cases h0 : (!(m93 a101001 0 2147483646)) = true
 ·try simp only [if_pos h0]
  exact callP_ok (ps := [false]) (os := [[[(.i a0.f0), (.i a0.f1), (.own 2 (map d_si a0.f2)), (.own 5 (map d_R a0.f3)), (.own 2 (map d_si a0.f4)), (.i a0.f5), (.i a0.f6), (.i a0.f7)]]]) (rs := [(.oi 3)]) (by kernel_rfl) (.r 5 [] [] f0 (.m 4 h0 (.f (pureR_si (a0.f2)) (.f (pureR_R (a0.f3)) (.f (pureR_si (a0.f4)) (.y 10 (.y 12 (.y 14 (.y 17 .nil)))))))))
 ·try simp only [if_neg h0]
  have f3 := e72 (a0 := a102001)
  by_cases h1 : (!(m93 a102001 0 1000000)) = true
  ·try simp only [if_pos h1]
   exact callP_ok (ps := [false]) (os := [[[(.i a0.f0), (.i a0.f1), (.own 2 (map d_si a0.f2)), (.own 5 (map d_R a0.f3)), (.own 2 (map d_si a0.f4)), (.i a0.f5), (.i a0.f6), (.i a0.f7)]]]) (rs := [(.oi 3)]) (by kernel_rfl) (.r 5 [] [] f0 (.n 2 h0 (.z 10 (.z 12 (.r 13 [] [] f3 (.n 2 h0 (.f h1 (.f (pureR_si (a0.f2)) (.f (pureR_R (a0.f3)) (.f (pureR_si (a0.f4)) (.z 14 (.z 17 (.y 20 .nil)))))))))))))
  ·try simp only [if_neg h1]
   have f7 : 0 + (length (map d_R a0.f3)) ≤ (length (map d_R a0.f3)) := (by omega)
   have f8 : fullR (take (length (map d_R a0.f3)) (drop 0 (map d_R a0.f3))) = true := (ft_R _ _ _)
   have f9 : toBR (take (length (map d_R a0.f3)) (drop 0 (map d_R a0.f3))) = (map b_R a0.f3) := (tb_R _)
   have f10 := e90 (l0_0 := 0) (a0 := a0.f3) (a1 := a101001) (by omega) (by with_reducible assumption)
   by_cases h2 : (decide ((m1014500 a0.f3 a101001) ≥ 0)) = true
   ·try simp only [if_pos h2]
    exact callP_ok (ps := [false]) (os := [[[(.i a0.f0), (.i a0.f1), (.own 2 (map d_si a0.f2)), (.own 5 (map d_R a0.f3)), (.own 2 (map d_si a0.f4)), (.i a0.f5), (.i a0.f6), (.i a0.f7)]]]) (rs := [(.oi 6)]) (by kernel_rfl) (.r 5 [] [] f0 (.n 2 h0 (.z 10 (.z 12 (.r 13 [] [] f3 (.n 2 h0 (.g h1 (.f f7 (.f f8 (.f f9 (.z 14 (.z 17 (.z 20 (.r 32 [] [(map b_R a0.f3)] f10 (.f h2 (.f (pureR_si (a0.f2)) (.f (pureR_R (a0.f3)) (.f (pureR_si (a0.f4)) (.y 37 .nil)))))))))))))))))))
   ·try simp only [if_neg h2]
    by_cases h3 : (decide (((length (map d_R a0.f3)) : Int) ≥ 6)) = true
    ·try simp only [if_pos h3]
     exact callP_ok (ps := [false]) (os := [[[(.i a0.f0), (.i a0.f1), (.own 2 (map d_si a0.f2)), (.own 5 (map d_R a0.f3)), (.own 2 (map d_si a0.f4)), (.i a0.f5), (.i a0.f6), (.i a0.f7)]]]) (rs := [(.oi 10)]) (by kernel_rfl) (.r 5 [] [] f0 (.n 2 h0 (.z 10 (.z 12 (.r 13 [] [] f3 (.n 2 h0 (.g h1 (.f f7 (.f f8 (.f f9 (.z 14 (.z 17 (.z 20 (.r 32 [] [(map b_R a0.f3)] f10 (.g h2 (.f h3 (.f (pureR_si (a0.f2)) (.f (pureR_R (a0.f3)) (.f (pureR_si (a0.f4)) (.z 37 (.y 52 .nil)))))))))))))))))))))
    ·try simp only [if_neg h3]
     have f13 : 0 + (length (map d_R a0.f3)) ≤ (length (map d_R a0.f3)) := (by omega)
     have f14 : fullR (take (length (map d_R a0.f3)) (drop 0 (map d_R a0.f3))) = true := (ft_R _ _ _)
     have f15 : toBR (take (length (map d_R a0.f3)) (drop 0 (map d_R a0.f3))) = (map b_R a0.f3) := (tb_R _)
     have f16 := e76 (l0_0 := 0) (a0 := a0.f3) (a1 := 0) (by omega) (by with_reducible assumption)
     have f18 := e72 (a0 := (w64 ((m76 a0.f3 0) + a102001)))
     by_cases h4 : (!(m93 (w64 ((m76 a0.f3 0) + a102001)) 0 1000000)) = true
     ·try simp only [if_pos h4]
      exact callP_ok (ps := [false]) (os := [[[(.i a0.f0), (.i a0.f1), (.own 2 (map d_si a0.f2)), (.own 5 (map d_R a0.f3)), (.own 2 (map d_si a0.f4)), (.i a0.f5), (.i a0.f6), (.i a0.f7)]]]) (rs := [(.oi 7)]) (by kernel_rfl) (.r 5 [] [] f0 (.n 2 h0 (.z 10 (.z 12 (.r 13 [] [] f3 (.n 2 h0 (.g h1 (.f f7 (.f f8 (.f f9 (.z 14 (.z 17 (.z 20 (.r 32 [] [(map b_R a0.f3)] f10 (.g h2 (.g h3 (.f f13 (.f f14 (.f f15 (.z 37 (.z 52 (.r 62 [] [(map b_R a0.f3)] f16 (.f trivial (.r 68 [] [] f18 (.f h4 (.f (pureR_si (a0.f2)) (.f (pureR_R (a0.f3)) (.f (pureR_si (a0.f4)) (.y 73 .nil)))))))))))))))))))))))))))))
     ·try simp only [if_neg h4]
      by_cases h5 : (decide (((length (map d_si a0.f2)) : Int) > 0)) = true
      ·try simp only [if_pos h5]
       have f21 : (1000 : Int) ≠ 0 := (by omega)
       have f22 : 0 + (length (map d_si a0.f2)) ≤ (length (map d_si a0.f2)) := (by omega)
       have f23 : fullR (take (length (map d_si a0.f2)) (drop 0 (map d_si a0.f2))) = true := (ft_si _ _ _)
       have f24 : toBR (take (length (map d_si a0.f2)) (drop 0 (map d_si a0.f2))) = (map b_si a0.f2) := (tb_si _)
       have f25 := e101 (l1_0 := 0) (a0 := (w64 (a102001 - (w64 (Int.tdiv (w64 (a102001 * a0.f1)) 1000))))) (a1 := a0.f2) (by have j := jn93 (a := a102001) (b := 0) (c := 1000000) (by with_reducible assumption); have p := (by with_reducible assumption : 0 ≤ a0.f1 ∧ a0.f1 ≤ 1000); have q := fee_ok j.1 j.2 p.1 p.2; omega) (by have j := jn93 (a := a102001) (b := 0) (c := 1000000) (by with_reducible assumption); have p := (by with_reducible assumption : 0 ≤ a0.f1 ∧ a0.f1 ≤ 1000); have q := fee_ok j.1 j.2 p.1 p.2; omega) (by simp only [decide_eq_true_eq, length_map] at *; omega) (by with_reducible assumption) (by with_reducible assumption)
       have f30 : 0 + (length (map d_R a0.f3)) ≤ (length (map d_R a0.f3)) := (by omega)
       have f31 : 1 ≤ 1 := (by omega)
       have f32 : ((take 1 (drop 0 [[(.val (.int .i64 a101001)), (.val (.int .i64 a102001)), (.val (.int .i64 (w64 (Int.tdiv (w64 (a102001 * a0.f1)) 1000)))), (.own 2 (map d_si (m101 (w64 (a102001 - (w64 (Int.tdiv (w64 (a102001 * a0.f1)) 1000)))) a0.f2))), (.val (.int .i64 1))]])).all fun x => x.all copyable) = false := (by trivial)
       have f35 : (length ((take (length (map d_R a0.f3)) (drop 0 (map d_R a0.f3))) ++ ([[(.val (.int .i64 a101001)), (.val (.int .i64 a102001)), (.val (.int .i64 (w64 (Int.tdiv (w64 (a102001 * a0.f1)) 1000)))), (.own 2 (map d_si (m101 (w64 (a102001 - (w64 (Int.tdiv (w64 (a102001 * a0.f1)) 1000)))) a0.f2))), (.val (.int .i64 1))]] : List (List D)))) * 56 ≤ 70368744177664 := (by unfold m101; (repeat' split) <;> simp_all <;> omega)
       have f36 : ∀ r ∈ ([[(.val (.int .i64 a101001)), (.val (.int .i64 a102001)), (.val (.int .i64 (w64 (Int.tdiv (w64 (a102001 * a0.f1)) 1000)))), (.own 2 (map d_si (m101 (w64 (a102001 - (w64 (Int.tdiv (w64 (a102001 * a0.f1)) 1000)))) a0.f2))), (.val (.int .i64 1))]] : List (List D)), r.length = 5 := (by unfold m101; (repeat' split) <;> simp_all <;> omega)
       have f39 : ([[(.val (.int .i64 a0.f0)), (.val (.int .i64 a0.f1)), (.own 2 (map d_si a0.f2)), (.own 5 ((take (length (map d_R a0.f3)) (drop 0 (map d_R a0.f3))) ++ ([[(.val (.int .i64 a101001)), (.val (.int .i64 a102001)), (.val (.int .i64 (w64 (Int.tdiv (w64 (a102001 * a0.f1)) 1000)))), (.own 2 (map d_si (m101 (w64 (a102001 - (w64 (Int.tdiv (w64 (a102001 * a0.f1)) 1000)))) a0.f2))), (.val (.int .i64 1))]] : List (List D)))), (.own 2 (map d_si a0.f4)), (.val (.int .i64 a0.f5)), (.val (.int .i64 a0.f6)), (.val (.int .i64 a0.f7))]] : List (List D)) = [[(.val (.int .i64 a0.f0)), (.val (.int .i64 a0.f1)), (.own 2 (map d_si a0.f2)), (.own 5 (map d_R (a0.f3 ++ ([(K_R.mk a101001 a102001 (w64 (Int.tdiv (w64 (a102001 * a0.f1)) 1000)) (m101 (w64 (a102001 - (w64 (Int.tdiv (w64 (a102001 * a0.f1)) 1000)))) a0.f2) 1)])))), (.own 2 (map d_si a0.f4)), (.val (.int .i64 a0.f5)), (.val (.int .i64 a0.f6)), (.val (.int .i64 a0.f7))]] := (by simp [byteRows_eq, ints_y, take_of_length_le, d_si, d_R, d_B, d_i, d_b, d_C, d_LsiE, d_Q, d_s, d_LiE, d_y, fromBR_si, fromBR_i, fromBR_b, fromBR_s, fromBR_y, ol85, ol86, ol27_0, ol27_1, ol27_2, ol28_0, ol28_1, ol28_2]; done)
       exact callP_ok (ps := [false]) (os := [[[(.i a0.f0), (.i a0.f1), (.own 2 (map d_si a0.f2)), (.own 5 (map d_R (a0.f3 ++ ([(K_R.mk a101001 a102001 (w64 (Int.tdiv (w64 (a102001 * a0.f1)) 1000)) (m101 (w64 (a102001 - (w64 (Int.tdiv (w64 (a102001 * a0.f1)) 1000)))) a0.f2) 1)])))), (.own 2 (map d_si a0.f4)), (.i a0.f5), (.i a0.f6), (.i a0.f7)]]]) (rs := [(.oi 0)]) (by kernel_rfl) (.r 5 [] [] f0 (.n 2 h0 (.z 10 (.z 12 (.r 13 [] [] f3 (.n 2 h0 (.g h1 (.f f7 (.f f8 (.f f9 (.z 14 (.z 17 (.z 20 (.r 32 [] [(map b_R a0.f3)] f10 (.g h2 (.g h3 (.f f13 (.f f14 (.f f15 (.z 37 (.z 52 (.r 62 [] [(map b_R a0.f3)] f16 (.f trivial (.r 68 [] [] f18 (.g h4 (.f h5 (.f f21 (.f f22 (.f f23 (.f f24 (.z 73 (.y 98 (.r 134 [] [(map b_si a0.f2)] f25 (.e 0 (.e (length (map d_si (m101 (w64 (a102001 - (w64 (Int.tdiv (w64 (a102001 * a0.f1)) 1000)))) a0.f2))) (.e 0 (.e (length (map d_si (m101 (w64 (a102001 - (w64 (Int.tdiv (w64 (a102001 * a0.f1)) 1000)))) a0.f2))) (.f f30 (.f f31 (.f f32 (.e 0 (.e 1 (.f f35 (.f f36 (.e 0 (.e (length ((take (length (map d_R a0.f3)) (drop 0 (map d_R a0.f3))) ++ ([[(.val (.int .i64 a101001)), (.val (.int .i64 a102001)), (.val (.int .i64 (w64 (Int.tdiv (w64 (a102001 * a0.f1)) 1000)))), (.own 2 (map d_si (m101 (w64 (a102001 - (w64 (Int.tdiv (w64 (a102001 * a0.f1)) 1000)))) a0.f2))), (.val (.int .i64 1))]] : List (List D)))) (.f f39 (.f (pureR_si (a0.f2)) (.f (pureR_R (a0.f3 ++ ([(K_R.mk a101001 a102001 (w64 (Int.tdiv (w64 (a102001 * a0.f1)) 1000)) (m101 (w64 (a102001 - (w64 (Int.tdiv (w64 (a102001 * a0.f1)) 1000)))) a0.f2) 1)]))) (.f (pureR_si (a0.f4)) (.z 154 (.h 161 (.norm (0, 0, 0) [[(.i a0.f0), (.i a0.f1), (.own 2 (map d_si a0.f2)), (.own 5 (map d_R (a0.f3 ++ ([(K_R.mk a101001 a102001 (w64 (Int.tdiv (w64 (a102001 * a0.f1)) 1000)) (m101 (w64 (a102001 - (w64 (Int.tdiv (w64 (a102001 * a0.f1)) 1000)))) a0.f2) 1)])))), (.own 2 (map d_si a0.f4)), (.i a0.f5), (.i a0.f6), (.i a0.f7)]]) .nil))))))))))))))))))))))))))))))))))))))))))))))))))))
      ·try simp only [if_neg h5]
       have f23 : 0 + (length (map d_R a0.f3)) ≤ (length (map d_R a0.f3)) := (by omega)
       have f24 : 1 ≤ 1 := (by omega)
       have f25 : ((take 1 (drop 0 [[(.val (.int .i64 a101001)), (.val (.int .i64 a102001)), (.val (.int .i64 a102001)), (.own 2 []), (.val (.int .i64 1))]])).all fun x => x.all copyable) = false := (by trivial)
       have f28 : (length ((take (length (map d_R a0.f3)) (drop 0 (map d_R a0.f3))) ++ ([[(.val (.int .i64 a101001)), (.val (.int .i64 a102001)), (.val (.int .i64 a102001)), (.own 2 []), (.val (.int .i64 1))]] : List (List D)))) * 56 ≤ 70368744177664 := (by simp only [length_map, length_append, length_cons, length_nil, length_take, length_drop]; omega)
       have f29 : ∀ r ∈ ([[(.val (.int .i64 a101001)), (.val (.int .i64 a102001)), (.val (.int .i64 a102001)), (.own 2 []), (.val (.int .i64 1))]] : List (List D)), r.length = 5 := (by simp [ol85, ol86, ol27_0, ol27_1, ol27_2, ol28_0, ol28_1, ol28_2]; done)
       have f32 : ([[(.val (.int .i64 a0.f0)), (.val (.int .i64 a0.f1)), (.own 2 (map d_si a0.f2)), (.own 5 ((take (length (map d_R a0.f3)) (drop 0 (map d_R a0.f3))) ++ ([[(.val (.int .i64 a101001)), (.val (.int .i64 a102001)), (.val (.int .i64 a102001)), (.own 2 []), (.val (.int .i64 1))]] : List (List D)))), (.own 2 (map d_si a0.f4)), (.val (.int .i64 a0.f5)), (.val (.int .i64 a0.f6)), (.val (.int .i64 a0.f7))]] : List (List D)) = [[(.val (.int .i64 a0.f0)), (.val (.int .i64 a0.f1)), (.own 2 (map d_si a0.f2)), (.own 5 (map d_R (a0.f3 ++ ([(K_R.mk a101001 a102001 a102001 [] 1)])))), (.own 2 (map d_si a0.f4)), (.val (.int .i64 a0.f5)), (.val (.int .i64 a0.f6)), (.val (.int .i64 a0.f7))]] := (by simp [byteRows_eq, ints_y, take_of_length_le, d_si, d_R, d_B, d_i, d_b, d_C, d_LsiE, d_Q, d_s, d_LiE, d_y, fromBR_si, fromBR_i, fromBR_b, fromBR_s, fromBR_y, ol85, ol86, ol27_0, ol27_1, ol27_2, ol28_0, ol28_1, ol28_2]; done)
       exact callP_ok (ps := [false]) (os := [[[(.i a0.f0), (.i a0.f1), (.own 2 (map d_si a0.f2)), (.own 5 (map d_R (a0.f3 ++ ([(K_R.mk a101001 a102001 a102001 [] 1)])))), (.own 2 (map d_si a0.f4)), (.i a0.f5), (.i a0.f6), (.i a0.f7)]]]) (rs := [(.oi 0)]) (by kernel_rfl) (.r 5 [] [] f0 (.n 2 h0 (.z 10 (.z 12 (.r 13 [] [] f3 (.n 2 h0 (.g h1 (.f f7 (.f f8 (.f f9 (.z 14 (.z 17 (.z 20 (.r 32 [] [(map b_R a0.f3)] f10 (.g h2 (.g h3 (.f f13 (.f f14 (.f f15 (.z 37 (.z 52 (.r 62 [] [(map b_R a0.f3)] f16 (.f trivial (.r 68 [] [] f18 (.g h4 (.g h5 (.e 0 (.e 0 (.f f23 (.f f24 (.f f25 (.e 0 (.e 1 (.f f28 (.f f29 (.e 0 (.e (length ((take (length (map d_R a0.f3)) (drop 0 (map d_R a0.f3))) ++ ([[(.val (.int .i64 a101001)), (.val (.int .i64 a102001)), (.val (.int .i64 a102001)), (.own 2 []), (.val (.int .i64 1))]] : List (List D)))) (.f f32 (.f (pureR_si (a0.f2)) (.f (pureR_R (a0.f3 ++ ([(K_R.mk a101001 a102001 a102001 [] 1)]))) (.f (pureR_si (a0.f4)) (.z 73 (.z 98 (.z 114 (.h 121 (.norm (0, 0, 0) [[(.i a0.f0), (.i a0.f1), (.own 2 (map d_si a0.f2)), (.own 5 (map d_R (a0.f3 ++ ([(K_R.mk a101001 a102001 a102001 [] 1)])))), (.own 2 (map d_si a0.f4)), (.i a0.f5), (.i a0.f6), (.i a0.f7)]]) .nil)))))))))))))))))))))))))))))))))))))))))))))
def m1008300 (a0 : K_B) (a2001 : Int) (a2003 : Int) : K_C :=
 if ((m17 a0) != 0) = true then (K_C.mk (m17 a0) 0 0 0 [] [] [] 0 0 0) else
 if ((m1009900 (m140 a0) a2001 a2003) != 0) = true then (K_C.mk (m1009900 (m140 a0) a2001 a2003) 0 0 0 [] [] [] 0 0 0) else
  (K_C.mk 0 0 ((o1009900_0 (m140 a0) a2001 a2003).f0) ((o1009900_0 (m140 a0) a2001 a2003).f1) ((o1009900_0 (m140 a0) a2001 a2003).f2) ((o1009900_0 (m140 a0) a2001 a2003).f3) ((o1009900_0 (m140 a0) a2001 a2003).f4) ((o1009900_0 (m140 a0) a2001 a2003).f5) ((o1009900_0 (m140 a0) a2001 a2003).f6) ((o1009900_0 (m140 a0) a2001 a2003).f7))
theorem e1008300 {l0_2 : Nat} {l0_3 : Nat} {l0_4 : Nat} {a0 : K_B} {l2000 : Nat} {a2001 : Int} {l2002 : Nat} {a2003 : Int} (hy0 : length a0.f2 * 24 ≤ 140737488351232) (hy1 : length a0.f3 * 56 ≤ 140737488351232) (hy2 : ∀ z ∈ a0.f3, ok_R z) (hy3 : length a0.f4 * 24 ≤ 140737488351232) : Ev F X (.call 83 [(.agg [(.val (.int .i64 a0.f0)), (.val (.int .i64 a0.f1)), (.bor l0_2 (map b_si a0.f2)), (.bor l0_3 (map b_R a0.f3)), (.bor l0_4 (map b_si a0.f4)), (.val (.int .i64 a0.f5)), (.val (.int .i64 a0.f6)), (.val (.int .i64 a0.f7))]), (.clo 99 [] [(.bptr l2000 [(.val (.int .i64 a2001))]), (.bptr l2002 [(.val (.int .i64 a2003))])])] [] [] [(.agg [(.val (.int .i64 ((m1008300 a0 a2001 a2003).f0))), (.val (.int .i64 ((m1008300 a0 a2001 a2003).f1))), (.val (.int .i64 ((m1008300 a0 a2001 a2003).f2))), (.val (.int .i64 ((m1008300 a0 a2001 a2003).f3))), (.own 2 (map d_si ((m1008300 a0 a2001 a2003).f4))), (.own 5 (map d_R ((m1008300 a0 a2001 a2003).f5))), (.own 2 (map d_si ((m1008300 a0 a2001 a2003).f6))), (.val (.int .i64 ((m1008300 a0 a2001 a2003).f7))), (.val (.int .i64 ((m1008300 a0 a2001 a2003).f8))), (.val (.int .i64 ((m1008300 a0 a2001 a2003).f9)))])]) := by
 unfold m1008300
 have f0 := e17 (l0_2 := l0_2 + 1) (l0_3 := l0_3 + 1) (l0_4 := l0_4 + 1) (a0 := a0) (by with_reducible assumption) (by with_reducible assumption) (by with_reducible assumption) (by with_reducible assumption)
 by_cases h0 : ((m17 a0) != 0) = true
 ·try simp only [if_pos h0]
  have f2 : pureR [] = true := (by trivial)
  have f3 : pureR [] = true := (by with_reducible assumption)
  have f4 : pureR [] = true := (by with_reducible assumption)
  exact cp (by kernel_rfl) (.r 7 [] [] f0 (.f h0 (.f f2 (.f f3 (.f f4 (.y 14 .nil))))))
 ·try simp only [if_neg h0]
  have f2 := e140 (l0_2 := l0_2 + 1) (l0_3 := l0_3 + 1) (l0_4 := l0_4 + 1) (a0 := a0) (by have q := fs17 (a0 := a0) (by with_reducible assumption); omega) (by have q := fs17 (a0 := a0) (by with_reducible assumption); omega) (by have q := fs17 (a0 := a0) (by with_reducible assumption); intro z hz; have q2 := q.2.2.1 z hz; omega) (by have q := fs17 (a0 := a0) (by with_reducible assumption); omega) (by with_reducible assumption)
  have f12 : Ev F X (.call 99 [(.ptr ⟨(0, 0, 0), [], 0, 0, 8⟩), (.bptr (l2000 + 1) [(.i a2001)]), (.bptr (l2002 + 1) [(.i a2003)])] [((0, 0, 0), ⟨8, [[(.i ((m140 a0).f0)), (.i ((m140 a0).f1)), (.own 2 (map d_si ((m140 a0).f2))), (.own 5 (map d_R ((m140 a0).f3))), (.own 2 (map d_si ((m140 a0).f4))), (.i ((m140 a0).f5)), (.i ((m140 a0).f6)), (.i ((m140 a0).f7))]], []⟩)] [[[(.i ((o1009900_0 (m140 a0) a2001 a2003).f0)), (.i ((o1009900_0 (m140 a0) a2001 a2003).f1)), (.own 2 (map d_si ((o1009900_0 (m140 a0) a2001 a2003).f2))), (.own 5 (map d_R ((o1009900_0 (m140 a0) a2001 a2003).f3))), (.own 2 (map d_si ((o1009900_0 (m140 a0) a2001 a2003).f4))), (.i ((o1009900_0 (m140 a0) a2001 a2003).f5)), (.i ((o1009900_0 (m140 a0) a2001 a2003).f6)), (.i ((o1009900_0 (m140 a0) a2001 a2003).f7))]]] [(.oi (m1009900 (m140 a0) a2001 a2003))]) := (e1009900 (a0 := (m140 a0)) (a101001 := a2001) (a102001 := a2003) (by rw [cp140]; have q := fs17 (a0 := a0) (by with_reducible assumption); omega) (by rw [cp140]; have q := fs17 (a0 := a0) (by with_reducible assumption); omega) (by rw [cp140]; have q := fs17 (a0 := a0) (by with_reducible assumption); intro z hz; have q2 := q.2.2.1 z hz; omega) (by rw [cp140]; have q := fs17 (a0 := a0) (by with_reducible assumption); omega) (by rw [cp140]; assumption) (by rw [cp140]; have q := fs17 (a0 := a0) (by with_reducible assumption); omega) (by rw [cp140]; exact (fw17 (by with_reducible assumption)).1) (by rw [cp140]; exact (fw17 (by with_reducible assumption)).2))
  by_cases h1 : ((m1009900 (m140 a0) a2001 a2003) != 0) = true
  ·try simp only [if_pos h1]
   have f14 : pureR [] = true := (by trivial)
   have f15 : pureR [] = true := (by with_reducible assumption)
   have f16 : pureR [] = true := (by with_reducible assumption)
   exact cp (by kernel_rfl) (.r 7 [] [] f0 (.g h0 (.z 14 (.r 18 [] [] f2 (.e 0 (.e (length (map d_si ((m140 a0).f2))) (.e 0 (.e (length (map d_R ((m140 a0).f3))) (.e 0 (.e (length (map d_si ((m140 a0).f4))) (.f (pureR_si ((m140 a0).f2)) (.f (pureR_R ((m140 a0).f3)) (.f (pureR_si ((m140 a0).f4)) (.r 26 [false] [] f12 (.f h1 (.f f14 (.f f15 (.f f16 (.y 33 .nil)))))))))))))))))))
  ·try simp only [if_neg h1]
   exact cp (by kernel_rfl) (.r 7 [] [] f0 (.g h0 (.z 14 (.r 18 [] [] f2 (.e 0 (.e (length (map d_si ((m140 a0).f2))) (.e 0 (.e (length (map d_R ((m140 a0).f3))) (.e 0 (.e (length (map d_si ((m140 a0).f4))) (.f (pureR_si ((m140 a0).f2)) (.f (pureR_R ((m140 a0).f3)) (.f (pureR_si ((m140 a0).f4)) (.r 26 [false] [] f12 (.g h1 (.e 0 (.e (length (map d_si ((o1009900_0 (m140 a0) a2001 a2003).f2))) (.e 0 (.e (length (map d_R ((o1009900_0 (m140 a0) a2001 a2003).f3))) (.e 0 (.e (length (map d_si ((o1009900_0 (m140 a0) a2001 a2003).f4))) (.f (pureR_si ((o1009900_0 (m140 a0) a2001 a2003).f2)) (.f (pureR_R ((o1009900_0 (m140 a0) a2001 a2003).f3)) (.f (pureR_si ((o1009900_0 (m140 a0) a2001 a2003).f4)) (.z 33 .nil)))))))))))))))))))))))))
theorem okm1008300 (a0 : K_B) (a2001 : Int) (a2003 : Int) : ok_C (m1008300 a0 a2001 a2003) := by
 unfold m1008300
 split
 ·simp [ok_R, ok_B, ok_C, ok_LsiE, ok_Q, ok_LiE]
 ·rename_i h
  obtain ⟨q1, q2, q3, q4⟩ := fs17 h
  simp only [cp140]
  split
  ·simp [ok_R, ok_B, ok_C, ok_LsiE, ok_Q, ok_LiE]
  ·unfold o1009900_0
   (repeat' split) <;> simp only [ok_R, ok_B, ok_C, ok_LsiE, ok_Q, ok_LiE] <;> first | (refine ⟨by simp, by simp, by simp, by simp⟩) | (refine ⟨?_, ?_, ?_, ?_⟩ <;> first | omega | exact oapp q3 (by simp only []; rw [dlen101]; exact Nat.le_trans (mlen_112 _) q1) | (simp only [length_set, length_append, length_cons, length_nil, length_take, length_drop]; omega) | exact oall q3 | exact oset q3 (oget q3 _) | exact oset q3 (by simp) | exact oapp q3 (by simp))
end Go.Proofs.YtfmkbpiobddhdaaDoor.FoundReward
