/- What the functions compute. -/
import Derived.Test.YtfmkbpiobddhdaaDoorEFoundRewardC
import Derived.KernelRfl
namespace Go.Proofs.YtfmkbpiobddhdaaDoor.FoundReward
open Go Go.Proofs.YtfmkbpiobddhdaaDoor.V
set_option linter.unusedVariables false
set_option linter.unusedSimpArgs false
set_option maxRecDepth 20000
open List (length_replicate length_map length_set length_append length_cons length_nil length_take length_drop take_of_length_le map_take map_drop map_set append_assoc getElem?_map map length take drop getD set)
attribute [local simp] toBR_si fullR_si pureR_si lenB_si lenD_si fromBR_si copy_si toBR_R fullR_R pureR_R lenB_R lenD_R toBR_B fullR_B pureR_B lenB_B lenD_B toBR_i fullR_i pureR_i lenB_i lenD_i fromBR_i copy_i toBR_b fullR_b pureR_b lenB_b lenD_b fromBR_b copy_b toBR_C fullR_C pureR_C lenB_C lenD_C toBR_LsiE fullR_LsiE pureR_LsiE lenB_LsiE lenD_LsiE toBR_Q fullR_Q pureR_Q lenB_Q lenD_Q toBR_s fullR_s pureR_s lenB_s lenD_s fromBR_s copy_s toBR_LiE fullR_LiE pureR_LiE lenB_LiE lenD_LiE strInts_len byteRows_len toBR_y fullR_y pureR_y lenB_y lenD_y fromBR_y copy_y
def m98 (a0 : K_B) (a1 : Int) (a2 : Int) : K_C :=
 if (!(m110 a1 0 2147483646)) = true then (K_C.mk 3 0 0 0 ([]) ([]) ([]) 0 0 0) else
 if (!(m110 a2 0 1000000)) = true then (K_C.mk 3 0 0 0 ([]) ([]) ([]) 0 0 0) else
  if (decide ((m144 a0.f3 a1) ≥ 0)) = true then (K_C.mk 6 0 0 0 ([]) ([]) ([]) 0 0 0) else
   if (decide (((length (map b_R a0.f3)) : Int) ≥ 6)) = true then (K_C.mk 10 0 0 0 ([]) ([]) ([]) 0 0 0) else
    if (!(m110 (w64 ((m135 a0.f3 false) + a2)) 0 1000000)) = true then (K_C.mk 7 0 0 0 ([]) ([]) ([]) 0 0 0) else
     if (decide (((length (map b_si a0.f2)) : Int) > 0)) = true then (K_C.mk 0 (w64 (Int.tdiv (w64 (a2 * a0.f1)) 1000)) ((m139 a0).f0) ((m139 a0).f1) ((m139 a0).f2) (((m139 a0).f3) ++ ([(K_R.mk a1 a2 (w64 (Int.tdiv (w64 (a2 * a0.f1)) 1000)) (m116 (w64 (a2 - (w64 (Int.tdiv (w64 (a2 * a0.f1)) 1000)))) a0.f2) 1)])) ((m139 a0).f4) ((m139 a0).f5) ((m139 a0).f6) ((m139 a0).f7)) else
      (K_C.mk 0 a2 ((m139 a0).f0) ((m139 a0).f1) ((m139 a0).f2) (((m139 a0).f3) ++ ([(K_R.mk a1 a2 a2 [] 1)])) ((m139 a0).f4) ((m139 a0).f5) ((m139 a0).f6) ((m139 a0).f7))
theorem e98 {l0_2 : Nat} {l0_3 : Nat} {l0_4 : Nat} {a0 : K_B} {a1 : Int} {a2 : Int} (hy0 : length a0.f2 ≤ 100) (hy1 : length a0.f3 ≤ 100) (hy2 : ∀ z ∈ a0.f3, length z.f3 ≤ 100) (hy3 : length a0.f4 ≤ 100) (hy4 : ∀ z ∈ a0.f3, ok_R z) (hy5 : length a0.f2 ≤ 12) (hy6 : ∀ z ∈ a0.f2, 1 ≤ z.f1 ∧ z.f1 ≤ 9999) (hy7 : 0 ≤ a0.f1 ∧ a0.f1 ≤ 1000) : Ev F X (.call 98 [(.agg [(.val (.int .i64 a0.f0)), (.val (.int .i64 a0.f1)), (.bor l0_2 (map b_si a0.f2)), (.bor l0_3 (map b_R a0.f3)), (.bor l0_4 (map b_si a0.f4)), (.val (.int .i64 a0.f5)), (.val (.int .i64 a0.f6)), (.val (.int .i64 a0.f7))]), (.one (.val (.int .i64 a1))), (.one (.val (.int .i64 a2)))] [] [] [(.agg [(.val (.int .i64 ((m98 a0 a1 a2).f0))), (.val (.int .i64 ((m98 a0 a1 a2).f1))), (.val (.int .i64 ((m98 a0 a1 a2).f2))), (.val (.int .i64 ((m98 a0 a1 a2).f3))), (.own 2 (map d_si ((m98 a0 a1 a2).f4))), (.own 5 (map d_R ((m98 a0 a1 a2).f5))), (.own 2 (map d_si ((m98 a0 a1 a2).f6))), (.val (.int .i64 ((m98 a0 a1 a2).f7))), (.val (.int .i64 ((m98 a0 a1 a2).f8))), (.val (.int .i64 ((m98 a0 a1 a2).f9)))])]) := by
 unfold m98
 have f0 := e150 (a0 := a1)
 by_cases h0 : (!(m110 a1 0 2147483646)) = true
 ·try simp only [if_pos h0]
  have f5 := e81 (a0 := 3)
  exact cp (by kernel_rfl) (.r 7 [] [] f0 (.m 4 h0 (.y 12 (.y 14 (.y 16 (.y 19 (.r 22 [] [] f5 (.e 0 (.e (length (map d_si ([]))) (.e 0 (.e (length (map d_R ([]))) (.e 0 (.e (length (map d_si ([]))) (.f (pureR_si ([])) (.f (pureR_R ([])) (.f (pureR_si ([])) .nil))))))))))))))))
 ·try simp only [if_neg h0]
  have f3 := e115 (a0 := a2)
  by_cases h1 : (!(m110 a2 0 1000000)) = true
  ·try simp only [if_pos h1]
   have f7 := e81 (a0 := 3)
   exact cp (by kernel_rfl) (.r 7 [] [] f0 (.n 2 h0 (.z 12 (.z 14 (.r 15 [] [] f3 (.n 2 h0 (.f h1 (.z 16 (.z 19 (.y 20 (.r 22 [] [] f7 (.e 0 (.e (length (map d_si ([]))) (.e 0 (.e (length (map d_R ([]))) (.e 0 (.e (length (map d_si ([]))) (.f (pureR_si ([])) (.f (pureR_R ([])) (.f (pureR_si ([])) .nil))))))))))))))))))))
  ·try simp only [if_neg h1]
   have f7 := e144 (l0_0 := l0_3 + 1) (a0 := a0.f3) (a1 := a1) (by omega) (by with_reducible assumption)
   by_cases h2 : (decide ((m144 a0.f3 a1) ≥ 0)) = true
   ·try simp only [if_pos h2]
    have f9 := e81 (a0 := 6)
    exact cp (by kernel_rfl) (.r 7 [] [] f0 (.n 2 h0 (.z 12 (.z 14 (.r 15 [] [] f3 (.n 2 h0 (.g h1 (.z 16 (.z 19 (.z 20 (.r 28 [] [] f7 (.f h2 (.y 31 (.r 33 [] [] f9 (.e 0 (.e (length (map d_si ([]))) (.e 0 (.e (length (map d_R ([]))) (.e 0 (.e (length (map d_si ([]))) (.f (pureR_si ([])) (.f (pureR_R ([])) (.f (pureR_si ([])) .nil)))))))))))))))))))))))
   ·try simp only [if_neg h2]
    by_cases h3 : (decide (((length (map b_R a0.f3)) : Int) ≥ 6)) = true
    ·try simp only [if_pos h3]
     have f10 := e81 (a0 := 10)
     exact cp (by kernel_rfl) (.r 7 [] [] f0 (.n 2 h0 (.z 12 (.z 14 (.r 15 [] [] f3 (.n 2 h0 (.g h1 (.z 16 (.z 19 (.z 20 (.r 28 [] [] f7 (.g h2 (.f h3 (.z 31 (.y 40 (.r 42 [] [] f10 (.e 0 (.e (length (map d_si ([]))) (.e 0 (.e (length (map d_R ([]))) (.e 0 (.e (length (map d_si ([]))) (.f (pureR_si ([])) (.f (pureR_R ([])) (.f (pureR_si ([])) .nil)))))))))))))))))))))))))
    ·try simp only [if_neg h3]
     have f10 := e135 (l0_0 := l0_3 + 1) (a0 := a0.f3) (a1 := false) (by omega) (by with_reducible assumption)
     have f12 := e115 (a0 := (w64 ((m135 a0.f3 false) + a2)))
     by_cases h4 : (!(m110 (w64 ((m135 a0.f3 false) + a2)) 0 1000000)) = true
     ·try simp only [if_pos h4]
      have f14 := e81 (a0 := 7)
      exact cp (by kernel_rfl) (.r 7 [] [] f0 (.n 2 h0 (.z 12 (.z 14 (.r 15 [] [] f3 (.n 2 h0 (.g h1 (.z 16 (.z 19 (.z 20 (.r 28 [] [] f7 (.g h2 (.g h3 (.z 31 (.z 40 (.r 46 [] [] f10 (.f trivial (.r 52 [] [] f12 (.f h4 (.y 55 (.r 57 [] [] f14 (.e 0 (.e (length (map d_si ([]))) (.e 0 (.e (length (map d_R ([]))) (.e 0 (.e (length (map d_si ([]))) (.f (pureR_si ([])) (.f (pureR_R ([])) (.f (pureR_si ([])) .nil))))))))))))))))))))))))))))))
     ·try simp only [if_neg h4]
      by_cases h5 : (decide (((length (map b_si a0.f2)) : Int) > 0)) = true
      ·try simp only [if_pos h5]
       have f15 : (1000 : Int) ≠ 0 := (by omega)
       have f16 := e116 (l1_0 := l0_2 + 1) (a0 := (w64 (a2 - (w64 (Int.tdiv (w64 (a2 * a0.f1)) 1000))))) (a1 := a0.f2) (by have j := jn110 (a := a2) (b := 0) (c := 1000000) (by with_reducible assumption); have p := (by with_reducible assumption : 0 ≤ a0.f1 ∧ a0.f1 ≤ 1000); have q := fee_ok j.1 j.2 p.1 p.2; omega) (by have j := jn110 (a := a2) (b := 0) (c := 1000000) (by with_reducible assumption); have p := (by with_reducible assumption : 0 ≤ a0.f1 ∧ a0.f1 ≤ 1000); have q := fee_ok j.1 j.2 p.1 p.2; omega) (by simp only [decide_eq_true_eq, length_map] at *; omega) (by with_reducible assumption) (by with_reducible assumption)
       have f19 := e139 (l0_2 := l0_2 + 1) (l0_3 := l0_3 + 1) (l0_4 := l0_4 + 1) (a0 := a0) (by with_reducible assumption) (by with_reducible assumption) (by with_reducible assumption) (by with_reducible assumption) (by with_reducible assumption)
       have f28 : 0 + (length (map d_R ((m139 a0).f3))) ≤ (length (map d_R ((m139 a0).f3))) := (by omega)
       have f29 : 1 ≤ 1 := (by omega)
       have f30 : ((take 1 (drop 0 [[(.val (.int .i64 a1)), (.val (.int .i64 a2)), (.val (.int .i64 (w64 (Int.tdiv (w64 (a2 * a0.f1)) 1000)))), (.own 2 (map d_si (m116 (w64 (a2 - (w64 (Int.tdiv (w64 (a2 * a0.f1)) 1000)))) a0.f2))), (.val (.int .i64 1))]])).all fun x => x.all copyable) = false := (by trivial)
       have f33 : (length ((take (length (map d_R ((m139 a0).f3))) (drop 0 (map d_R ((m139 a0).f3)))) ++ ([[(.val (.int .i64 a1)), (.val (.int .i64 a2)), (.val (.int .i64 (w64 (Int.tdiv (w64 (a2 * a0.f1)) 1000)))), (.own 2 (map d_si (m116 (w64 (a2 - (w64 (Int.tdiv (w64 (a2 * a0.f1)) 1000)))) a0.f2))), (.val (.int .i64 1))]] : List (List D)))) * 56 ≤ 70368744177664 := (by simp only [cp139, length_map, length_append, length_cons, length_nil, length_take, length_drop]; omega)
       have f34 : ∀ r ∈ ([[(.val (.int .i64 a1)), (.val (.int .i64 a2)), (.val (.int .i64 (w64 (Int.tdiv (w64 (a2 * a0.f1)) 1000)))), (.own 2 (map d_si (m116 (w64 (a2 - (w64 (Int.tdiv (w64 (a2 * a0.f1)) 1000)))) a0.f2))), (.val (.int .i64 1))]] : List (List D)), r.length = 5 := (by unfold m116; (repeat' split) <;> simp_all <;> omega)
       have f37 : ([[(.val (.int .i64 ((m139 a0).f0))), (.val (.int .i64 ((m139 a0).f1))), (.own 2 (map d_si ((m139 a0).f2))), (.own 5 ((take (length (map d_R ((m139 a0).f3))) (drop 0 (map d_R ((m139 a0).f3)))) ++ ([[(.val (.int .i64 a1)), (.val (.int .i64 a2)), (.val (.int .i64 (w64 (Int.tdiv (w64 (a2 * a0.f1)) 1000)))), (.own 2 (map d_si (m116 (w64 (a2 - (w64 (Int.tdiv (w64 (a2 * a0.f1)) 1000)))) a0.f2))), (.val (.int .i64 1))]] : List (List D)))), (.own 2 (map d_si ((m139 a0).f4))), (.val (.int .i64 ((m139 a0).f5))), (.val (.int .i64 ((m139 a0).f6))), (.val (.int .i64 ((m139 a0).f7)))]] : List (List D)) = [[(.val (.int .i64 ((m139 a0).f0))), (.val (.int .i64 ((m139 a0).f1))), (.own 2 (map d_si ((m139 a0).f2))), (.own 5 (map d_R (((m139 a0).f3) ++ ([(K_R.mk a1 a2 (w64 (Int.tdiv (w64 (a2 * a0.f1)) 1000)) (m116 (w64 (a2 - (w64 (Int.tdiv (w64 (a2 * a0.f1)) 1000)))) a0.f2) 1)])))), (.own 2 (map d_si ((m139 a0).f4))), (.val (.int .i64 ((m139 a0).f5))), (.val (.int .i64 ((m139 a0).f6))), (.val (.int .i64 ((m139 a0).f7)))]] := (by simp [byteRows_eq, ints_y, take_of_length_le, d_si, d_R, d_B, d_i, d_b, d_C, d_LsiE, d_Q, d_s, d_LiE, d_y, fromBR_si, fromBR_i, fromBR_b, fromBR_s, fromBR_y, ol85, ol86, ol27_0, ol27_1, ol27_2, ol28_0, ol28_1, ol28_2]; done)
       exact cp (by kernel_rfl) (.r 7 [] [] f0 (.n 2 h0 (.z 12 (.z 14 (.r 15 [] [] f3 (.n 2 h0 (.g h1 (.z 16 (.z 19 (.z 20 (.r 28 [] [] f7 (.g h2 (.g h3 (.z 31 (.z 40 (.r 46 [] [] f10 (.f trivial (.r 52 [] [] f12 (.g h4 (.f h5 (.f f15 (.z 55 (.y 76 (.r 104 [] [] f16 (.e 0 (.e (length (map d_si (m116 (w64 (a2 - (w64 (Int.tdiv (w64 (a2 * a0.f1)) 1000)))) a0.f2))) (.r 112 [] [] f19 (.e 0 (.e (length (map d_si ((m139 a0).f2))) (.e 0 (.e (length (map d_R ((m139 a0).f3))) (.e 0 (.e (length (map d_si ((m139 a0).f4))) (.e 0 (.e (length (map d_si (m116 (w64 (a2 - (w64 (Int.tdiv (w64 (a2 * a0.f1)) 1000)))) a0.f2))) (.f f28 (.f f29 (.f f30 (.e 0 (.e 1 (.f f33 (.f f34 (.e 0 (.e (length ((take (length (map d_R ((m139 a0).f3))) (drop 0 (map d_R ((m139 a0).f3)))) ++ ([[(.val (.int .i64 a1)), (.val (.int .i64 a2)), (.val (.int .i64 (w64 (Int.tdiv (w64 (a2 * a0.f1)) 1000)))), (.own 2 (map d_si (m116 (w64 (a2 - (w64 (Int.tdiv (w64 (a2 * a0.f1)) 1000)))) a0.f2))), (.val (.int .i64 1))]] : List (List D)))) (.f f37 (.e 0 (.e (length (map d_si ((m139 a0).f2))) (.e 0 (.e (length (map d_R (((m139 a0).f3) ++ ([(K_R.mk a1 a2 (w64 (Int.tdiv (w64 (a2 * a0.f1)) 1000)) (m116 (w64 (a2 - (w64 (Int.tdiv (w64 (a2 * a0.f1)) 1000)))) a0.f2) 1)])))) (.e 0 (.e (length (map d_si ((m139 a0).f4))) (.f (pureR_si ((m139 a0).f2)) (.f (pureR_R (((m139 a0).f3) ++ ([(K_R.mk a1 a2 (w64 (Int.tdiv (w64 (a2 * a0.f1)) 1000)) (m116 (w64 (a2 - (w64 (Int.tdiv (w64 (a2 * a0.f1)) 1000)))) a0.f2) 1)]))) (.f (pureR_si ((m139 a0).f4)) (.z 126 (.h 131 (.norm (8, 0, 0) [[(.i ((m139 a0).f0)), (.i ((m139 a0).f1)), (.own 2 (map d_si ((m139 a0).f2))), (.own 5 (map d_R (((m139 a0).f3) ++ ([(K_R.mk a1 a2 (w64 (Int.tdiv (w64 (a2 * a0.f1)) 1000)) (m116 (w64 (a2 - (w64 (Int.tdiv (w64 (a2 * a0.f1)) 1000)))) a0.f2) 1)])))), (.own 2 (map d_si ((m139 a0).f4))), (.i ((m139 a0).f5)), (.i ((m139 a0).f6)), (.i ((m139 a0).f7))]]) .nil))))))))))))))))))))))))))))))))))))))))))))))))))))))))
      ·try simp only [if_neg h5]
       have f15 := e139 (l0_2 := l0_2 + 1) (l0_3 := l0_3 + 1) (l0_4 := l0_4 + 1) (a0 := a0) (by with_reducible assumption) (by with_reducible assumption) (by with_reducible assumption) (by with_reducible assumption) (by with_reducible assumption)
       have f24 : 0 + (length (map d_R ((m139 a0).f3))) ≤ (length (map d_R ((m139 a0).f3))) := (by omega)
       have f25 : 1 ≤ 1 := (by omega)
       have f26 : ((take 1 (drop 0 [[(.val (.int .i64 a1)), (.val (.int .i64 a2)), (.val (.int .i64 a2)), (.own 2 []), (.val (.int .i64 1))]])).all fun x => x.all copyable) = false := (by trivial)
       have f29 : (length ((take (length (map d_R ((m139 a0).f3))) (drop 0 (map d_R ((m139 a0).f3)))) ++ ([[(.val (.int .i64 a1)), (.val (.int .i64 a2)), (.val (.int .i64 a2)), (.own 2 []), (.val (.int .i64 1))]] : List (List D)))) * 56 ≤ 70368744177664 := (by simp only [cp139, length_map, length_append, length_cons, length_nil, length_take, length_drop]; omega)
       have f30 : ∀ r ∈ ([[(.val (.int .i64 a1)), (.val (.int .i64 a2)), (.val (.int .i64 a2)), (.own 2 []), (.val (.int .i64 1))]] : List (List D)), r.length = 5 := (by simp [ol85, ol86, ol27_0, ol27_1, ol27_2, ol28_0, ol28_1, ol28_2]; done)
       have f33 : ([[(.val (.int .i64 ((m139 a0).f0))), (.val (.int .i64 ((m139 a0).f1))), (.own 2 (map d_si ((m139 a0).f2))), (.own 5 ((take (length (map d_R ((m139 a0).f3))) (drop 0 (map d_R ((m139 a0).f3)))) ++ ([[(.val (.int .i64 a1)), (.val (.int .i64 a2)), (.val (.int .i64 a2)), (.own 2 []), (.val (.int .i64 1))]] : List (List D)))), (.own 2 (map d_si ((m139 a0).f4))), (.val (.int .i64 ((m139 a0).f5))), (.val (.int .i64 ((m139 a0).f6))), (.val (.int .i64 ((m139 a0).f7)))]] : List (List D)) = [[(.val (.int .i64 ((m139 a0).f0))), (.val (.int .i64 ((m139 a0).f1))), (.own 2 (map d_si ((m139 a0).f2))), (.own 5 (map d_R (((m139 a0).f3) ++ ([(K_R.mk a1 a2 a2 [] 1)])))), (.own 2 (map d_si ((m139 a0).f4))), (.val (.int .i64 ((m139 a0).f5))), (.val (.int .i64 ((m139 a0).f6))), (.val (.int .i64 ((m139 a0).f7)))]] := (by simp [byteRows_eq, ints_y, take_of_length_le, d_si, d_R, d_B, d_i, d_b, d_C, d_LsiE, d_Q, d_s, d_LiE, d_y, fromBR_si, fromBR_i, fromBR_b, fromBR_s, fromBR_y, ol85, ol86, ol27_0, ol27_1, ol27_2, ol28_0, ol28_1, ol28_2]; done)
       exact cp (by kernel_rfl) (.r 7 [] [] f0 (.n 2 h0 (.z 12 (.z 14 (.r 15 [] [] f3 (.n 2 h0 (.g h1 (.z 16 (.z 19 (.z 20 (.r 28 [] [] f7 (.g h2 (.g h3 (.z 31 (.z 40 (.r 46 [] [] f10 (.f trivial (.r 52 [] [] f12 (.g h4 (.g h5 (.z 55 (.z 76 (.r 80 [] [] f15 (.e 0 (.e (length (map d_si ((m139 a0).f2))) (.e 0 (.e (length (map d_R ((m139 a0).f3))) (.e 0 (.e (length (map d_si ((m139 a0).f4))) (.e 0 (.e 0 (.f f24 (.f f25 (.f f26 (.e 0 (.e 1 (.f f29 (.f f30 (.e 0 (.e (length ((take (length (map d_R ((m139 a0).f3))) (drop 0 (map d_R ((m139 a0).f3)))) ++ ([[(.val (.int .i64 a1)), (.val (.int .i64 a2)), (.val (.int .i64 a2)), (.own 2 []), (.val (.int .i64 1))]] : List (List D)))) (.f f33 (.e 0 (.e (length (map d_si ((m139 a0).f2))) (.e 0 (.e (length (map d_R (((m139 a0).f3) ++ ([(K_R.mk a1 a2 a2 [] 1)])))) (.e 0 (.e (length (map d_si ((m139 a0).f4))) (.f (pureR_si ((m139 a0).f2)) (.f (pureR_R (((m139 a0).f3) ++ ([(K_R.mk a1 a2 a2 [] 1)]))) (.f (pureR_si ((m139 a0).f4)) (.z 94 (.h 99 (.norm (8, 0, 0) [[(.i ((m139 a0).f0)), (.i ((m139 a0).f1)), (.own 2 (map d_si ((m139 a0).f2))), (.own 5 (map d_R (((m139 a0).f3) ++ ([(K_R.mk a1 a2 a2 [] 1)])))), (.own 2 (map d_si ((m139 a0).f4))), (.i ((m139 a0).f5)), (.i ((m139 a0).f6)), (.i ((m139 a0).f7))]]) .nil))))))))))))))))))))))))))))))))))))))))))))))))))))
def m36 (a0 : K_B) (a1 : Int) (a2 : Int) : K_C :=
 if ((m68 a0) != 0) = true then (K_C.mk (m68 a0) 0 0 0 ([]) ([]) ([]) 0 0 0) else
 (K_C.mk ((m98 a0 a1 a2).f0) 0 ((m98 a0 a1 a2).f2) ((m98 a0 a1 a2).f3) ((m98 a0 a1 a2).f4) ((m98 a0 a1 a2).f5) ((m98 a0 a1 a2).f6) ((m98 a0 a1 a2).f7) ((m98 a0 a1 a2).f8) ((m98 a0 a1 a2).f9))
theorem e36 {l0_2 : Nat} {l0_3 : Nat} {l0_4 : Nat} {a0 : K_B} {a1 : Int} {a2 : Int} (hy0 : length a0.f2 * 24 ≤ 140737488351232) (hy1 : ∀ z ∈ a0.f2, os_si z) (hy2 : length a0.f3 * 56 ≤ 140737488351232) (hy3 : ∀ z ∈ a0.f3, os_R z) (hy4 : length a0.f4 * 24 ≤ 140737488351232) (hy5 : ∀ z ∈ a0.f4, os_si z) : Ev F X (.call 36 [(.agg [(.val (.int .i64 a0.f0)), (.val (.int .i64 a0.f1)), (.bor l0_2 (map b_si a0.f2)), (.bor l0_3 (map b_R a0.f3)), (.bor l0_4 (map b_si a0.f4)), (.val (.int .i64 a0.f5)), (.val (.int .i64 a0.f6)), (.val (.int .i64 a0.f7))]), (.one (.val (.int .i64 a1))), (.one (.val (.int .i64 a2)))] [] [] [(.agg [(.val (.int .i64 ((m36 a0 a1 a2).f0))), (.val (.int .i64 ((m36 a0 a1 a2).f1))), (.val (.int .i64 ((m36 a0 a1 a2).f2))), (.val (.int .i64 ((m36 a0 a1 a2).f3))), (.own 2 (map d_si ((m36 a0 a1 a2).f4))), (.own 5 (map d_R ((m36 a0 a1 a2).f5))), (.own 2 (map d_si ((m36 a0 a1 a2).f6))), (.val (.int .i64 ((m36 a0 a1 a2).f7))), (.val (.int .i64 ((m36 a0 a1 a2).f8))), (.val (.int .i64 ((m36 a0 a1 a2).f9)))])]) := by
 unfold m36
 have f0 : fullL [(.val (.int .i64 a0.f0)), (.val (.int .i64 a0.f1)), (.bor l0_2 (map b_si a0.f2)), (.bor l0_3 (map b_R a0.f3)), (.bor l0_4 (map b_si a0.f4)), (.val (.int .i64 a0.f5)), (.val (.int .i64 a0.f6)), (.val (.int .i64 a0.f7))] = true := (by trivial)
 have f1 := e68 (l0 := 0) (a0 := a0) (by with_reducible assumption) (by with_reducible assumption) (by with_reducible assumption) (by with_reducible assumption) (by with_reducible assumption) (by with_reducible assumption)
 by_cases h0 : ((m68 a0) != 0) = true
 ·try simp only [if_pos h0]
  have f3 := e81 (a0 := (m68 a0))
  exact cp (by kernel_rfl) (.f f0 (.r 5 [] [] f1 (.f h0 (.y 12 (.r 16 [] [] f3 (.e 0 (.e (length (map d_si ([]))) (.e 0 (.e (length (map d_R ([]))) (.e 0 (.e (length (map d_si ([]))) (.f (pureR_si ([])) (.f (pureR_R ([])) (.f (pureR_si ([])) .nil))))))))))))))
 ·try simp only [if_neg h0]
  have f3 := e98 (l0_2 := l0_2 + 1) (l0_3 := l0_3 + 1) (l0_4 := l0_4 + 1) (a0 := a0) (a1 := a1) (a2 := a2) (by have q := fs68 (a0 := a0) (by with_reducible assumption); omega) (by have q := fs68 (a0 := a0) (by with_reducible assumption); omega) (by have q := fs68 (a0 := a0) (by with_reducible assumption); intro z hz; have q2 := q.2.2.1 z hz; omega) (by have q := fs68 (a0 := a0) (by with_reducible assumption); omega) (by intro z hz; exact os_ok_R z ((by assumption : ∀ z ∈ a0.f3, os_R z) z hz)) (by have q := fs68 (a0 := a0) (by with_reducible assumption); omega) (by exact (fw68 (by with_reducible assumption)).1) (by exact (fw68 (by with_reducible assumption)).2)
  exact cp (by kernel_rfl) (.f f0 (.r 5 [] [] f1 (.g h0 (.z 12 (.r 20 [] [] f3 (.e 0 (.e (length (map d_si ((m98 a0 a1 a2).f4))) (.e 0 (.e (length (map d_R ((m98 a0 a1 a2).f5))) (.e 0 (.e (length (map d_si ((m98 a0 a1 a2).f6))) (.e 0 (.e (length (map d_si ((m98 a0 a1 a2).f4))) (.e 0 (.e (length (map d_R ((m98 a0 a1 a2).f5))) (.e 0 (.e (length (map d_si ((m98 a0 a1 a2).f6))) (.f (pureR_si ((m98 a0 a1 a2).f4)) (.f (pureR_R ((m98 a0 a1 a2).f5)) (.f (pureR_si ((m98 a0 a1 a2).f6)) .nil))))))))))))))))))))
theorem okm36 (a0 : K_B) (a1 : Int) (a2 : Int) : ok_C (m36 a0 a1 a2) := by
 unfold m36
 split
 ·simp [ok_R, ok_B, ok_C, ok_LsiE, ok_Q, ok_LiE]
 ·rename_i h
  obtain ⟨q1, q2, q3, q4⟩ := fs68 h
  unfold m98
  simp only [cp139]
  (repeat' split) <;> simp only [ok_R, ok_B, ok_C, ok_LsiE, ok_Q, ok_LiE] <;> first | (refine ⟨by simp, by simp, by simp, by simp⟩) | (refine ⟨?_, ?_, ?_, ?_⟩ <;> first | omega | exact oapp q3 (by simp only []; rw [dlen116]; exact Nat.le_trans (mlen_108 _) q1) | (simp only [length_set, length_append, length_cons, length_nil, length_take, length_drop]; omega) | exact oall q3 | exact oset q3 (oget q3 _) | exact oset q3 (by simp) | exact oapp q3 (by simp))
def m93 (a0 : Int) (a1 : Int) (a2 : Int) : Bool :=
 if (decide (a0 ≥ a1)) = true then (decide (a0 ≤ a2)) else
 false
theorem e93 {a0 : Int} {a1 : Int} {a2 : Int} : Ev F X (.call 93 [(.one (.val (.int .i64 a0))), (.one (.val (.int .i64 a1))), (.one (.val (.int .i64 a2)))] [] [] [(.one (.val (.bool (m93 a0 a1 a2))))]) := by
 unfold m93
 by_cases h0 : (decide (a0 ≥ a1)) = true
 ·try simp only [if_pos h0]
  exact cp (by kernel_rfl) (.m 4 h0 (.y 10 (.y 12 (.y 14 (.y 17 .nil)))))
 ·try simp only [if_neg h0]
  exact cp (by kernel_rfl) (.n 4 h0 (.z 10 (.z 12 (.z 14 (.z 17 .nil)))))
theorem jn93 {a b c : Int} (h : ¬ (!(m93 a b c)) = true) : b ≤ a ∧ a ≤ c := by
 simp only [Bool.not_eq_true', Bool.not_eq_false] at h
 unfold m93 at h; split at h <;> simp_all <;> omega
theorem e172 {a0 a1 : ByteArray} (hy0 : ByteArray.size a0 ≤ 9223372036854775807) (hy1 : ByteArray.size a1 < 4294967281) (hy2 : asciiB a1 = true) : Ev F X (.call 172 [(.one (.val (.string a0))), (.one (.val (.string a1)))] [] [] [(.one (.val (.string (trimB a0 a1))))]) :=
 .ext (.inr (⟨rfl, (⟨a0, a1, hy0, hy1, hy2, rfl, rfl⟩)⟩))
def m155 (a0 : ByteArray) : Bool :=
 if (decide ((ByteArray.size a0 : Int) ≤ 12)) = true then ((trimB a0 (⟨#[97, 98, 99, 100, 101, 102, 103, 104, 105, 106, 107, 108, 109, 110, 111, 112, 113, 114, 115, 116, 117, 118, 119, 120, 121, 122, 65, 66, 67, 68, 69, 70, 71, 72, 73, 74, 75, 76, 77, 78, 79, 80, 81, 82, 83, 84, 85, 86, 87, 88, 89, 90, 48, 49, 50, 51, 52, 53, 54, 55, 56, 57]⟩ : ByteArray)).toList == (⟨#[]⟩ : ByteArray).toList) else
 false
theorem e155 {a0 : ByteArray} : Ev F X (.call 155 [(.one (.val (.string a0)))] [] [] [(.one (.val (.bool (m155 a0))))]) := by
 unfold m155
 by_cases h0 : (decide ((ByteArray.size a0 : Int) ≤ 12)) = true
 ·try simp only [if_pos h0]
  have f2 : Ev F X (.call 172 [(.one (.val (.string a0))), (.one (.val (.string (⟨#[97, 98, 99, 100, 101, 102, 103, 104, 105, 106, 107, 108, 109, 110, 111, 112, 113, 114, 115, 116, 117, 118, 119, 120, 121, 122, 65, 66, 67, 68, 69, 70, 71, 72, 73, 74, 75, 76, 77, 78, 79, 80, 81, 82, 83, 84, 85, 86, 87, 88, 89, 90, 48, 49, 50, 51, 52, 53, 54, 55, 56, 57]⟩ : ByteArray))))] [] [] [(.one (.val (.string (trimB a0 (⟨#[97, 98, 99, 100, 101, 102, 103, 104, 105, 106, 107, 108, 109, 110, 111, 112, 113, 114, 115, 116, 117, 118, 119, 120, 121, 122, 65, 66, 67, 68, 69, 70, 71, 72, 73, 74, 75, 76, 77, 78, 79, 80, 81, 82, 83, 84, 85, 86, 87, 88, 89, 90, 48, 49, 50, 51, 52, 53, 54, 55, 56, 57]⟩ : ByteArray)))))]) := (e172 (a0 := a0) (a1 := (⟨#[97, 98, 99, 100, 101, 102, 103, 104, 105, 106, 107, 108, 109, 110, 111, 112, 113, 114, 115, 116, 117, 118, 119, 120, 121, 122, 65, 66, 67, 68, 69, 70, 71, 72, 73, 74, 75, 76, 77, 78, 79, 80, 81, 82, 83, 84, 85, 86, 87, 88, 89, 90, 48, 49, 50, 51, 52, 53, 54, 55, 56, 57]⟩ : ByteArray)) (by simp only [decide_eq_true_eq] at *; omega) (by decide) (by decide))
  exact cp (by kernel_rfl) (.m 2 h0 (.y 10 (.y 12 (.r 13 [] [] f2 (.m 2 h0 (.y 14 (.y 17 .nil)))))))
 ·try simp only [if_neg h0]
  exact cp (by kernel_rfl) (.n 4 h0 (.z 10 (.z 12 (.z 14 (.z 17 .nil)))))
def m113 (a0 : ByteArray) : Bool :=
 if (!(a0.toList == (⟨#[]⟩ : ByteArray).toList)) = true then (m155 a0) else
 false
theorem e113 {a0 : ByteArray} : Ev F X (.call 113 [(.one (.val (.string a0)))] [] [] [(.one (.val (.bool (m113 a0))))]) := by
 unfold m113
 by_cases h0 : (!(a0.toList == (⟨#[]⟩ : ByteArray).toList)) = true
 ·try simp only [if_pos h0]
  have f2 := e155 (a0 := a0)
  exact cp (by kernel_rfl) (.m 2 h0 (.y 8 (.y 10 (.r 11 [] [] f2 (.f h0 (.y 13 .nil))))))
 ·try simp only [if_neg h0]
  exact cp (by kernel_rfl) (.n 3 h0 (.z 8 (.z 10 (.z 13 .nil))))
inductive O46_0 where
 | k0 (w0 : Int) (w1 : Bool)
 | k1
 | k2
def r46_0 (a0 : (List K_si)) : List K_si → Int → O46_0
 | x0 :: y0, i =>
  if (!(m113 x0.f0)) = true then (O46_0.k1) else
  if (!(m93 x0.f1 1 9999)) = true then (O46_0.k2) else
   (r46_0 a0 y0 (i + 1) )
 | [], i => (O46_0.k0 i (decide (i < ((length (map b_si a0)) : Int))))
def h46_0 (l0_0 : Nat) (a0 : (List K_si)) (i : Int)  : St := ⟨[(8, (.one (.bor l0_0 (map b_si a0)))), (9, (.one (.val (.int .i64 ((length (map b_si a0)) : Int))))), (10, (.one (.val (.int .i64 i))))], []⟩
def ex46_0 : O46_0 → VX.Exit
 | .k0 _ _ => (.exit 0)
 | .k1 => .ret
 | .k2 => .ret
def fin46_0 (l0_0 : Nat) (a0 : (List K_si)) : O46_0 → St
 | .k0 w0 w1 => ⟨[(8, (.one (.bor l0_0 (map b_si a0)))), (9, (.one (.val (.int .i64 ((length (map b_si a0)) : Int))))), (10, (.one (.val (.int .i64 w0)))), (11, (.one (.val (.bool w1))))], []⟩
 | .k1 => ⟨[(2, (.one (.val (.int .i64 5))))], []⟩
 | .k2 => ⟨[(2, (.one (.val (.int .i64 3))))], []⟩
theorem t46_0 {l0_0 : Nat} {a0 : (List K_si)} (hy0 : length a0 * 24 ≤ 140737488351232) : ∀ (y0 : List K_si) (p : List K_si) , p ++ y0 = a0 → Ev F X (.code l46_0 (h46_0 l0_0 a0 (length p : Int) ) (ex46_0 (r46_0 a0 y0 (length p : Int) )) (fin46_0 l0_0 a0 (r46_0 a0 y0 (length p : Int) )))
 | [], p, hp0 => by
  have hc : ¬ (decide ((length p : Int) < ((length (map b_si a0)) : Int))) = true := by
   rw [← hp0]; simp only [length_map, length_set, length_append, length_replicate, length_cons, length_nil, decide_eq_true_eq]; omega
  have st := ch b46_0 [(2, .b false)] (h46_0 l0_0 a0 (length p : Int)) (fin46_0 l0_0 a0 (.k0 (length p : Int) (decide ((length p : Int) < ((length (map b_si a0)) : Int))))) (.exit 0) 3 [(decide ((length p : Int) < ((length (map b_si a0)) : Int))) = false] (by kernel_rfl) ⟨(nt hc), trivial⟩
  exact .loopX st (show ((.exit 0) : VX.Exit) ≠ .normal from by simp)
 | x0 :: y0, p, hp0 => by
  have hc : (decide ((length p : Int) < ((length (map b_si a0)) : Int))) = true := lt1 hp0
  have Hx0 : (a0)[Int.toNat (length p : Int)]? = some x0 := by
   rw [← hp0, Int.toNat_natCast]; simp
  have hlen : length (a0) = length p + length y0 + 1 := by rw [← hp0]; simp; omega
  have hw : w64 ((length p : Int) + 1) = (length p : Int) + 1 := wrap64 (by omega)
  simp only [r46_0]
  by_cases h_1 : (!(m113 x0.f0)) = true
  ·try simp only [if_pos h_1]
   have st := ch b46_0 [(2, .b true), (4, .row (b_si x0)), (16, .ret [] [(.one (.val (.bool (m113 x0.f0))))] [] []), (21, .b true)] (h46_0 l0_0 a0 (length p : Int)) (fin46_0 l0_0 a0 (.k1)) .ret 24 [(decide ((length p : Int) < ((length (map b_si a0)) : Int))) = true, 0 ≤ (length p : Int), (map b_si a0)[(Int.toNat (length p : Int))]? = some (b_si x0), Ev F X (.call 113 [(.one (.val (.string x0.f0)))] [] [] [(.one (.val (.bool (m113 x0.f0))))]), (!(m113 x0.f0)) = true] (by kernel_rfl) ⟨hc, (by omega), (by rw [getElem?_map, Hx0]; rfl), (e113 (a0 := x0.f0)), h_1, trivial⟩
   exact .loopX st (show (.ret : VX.Exit) ≠ .normal from by simp)
  ·try simp only [if_neg h_1]
   by_cases h_2 : (!(m93 x0.f1 1 9999)) = true
   ·try simp only [if_pos h_2]
    have st := ch b46_0 [(2, .b true), (4, .row (b_si x0)), (16, .ret [] [(.one (.val (.bool (m113 x0.f0))))] [] []), (21, .b false), (27, .ret [] [(.one (.val (.bool (m93 x0.f1 1 9999))))] [] []), (32, .b true)] (h46_0 l0_0 a0 (length p : Int)) (fin46_0 l0_0 a0 (.k2)) .ret 35 [(decide ((length p : Int) < ((length (map b_si a0)) : Int))) = true, 0 ≤ (length p : Int), (map b_si a0)[(Int.toNat (length p : Int))]? = some (b_si x0), Ev F X (.call 113 [(.one (.val (.string x0.f0)))] [] [] [(.one (.val (.bool (m113 x0.f0))))]), (!(m113 x0.f0)) = false, Ev F X (.call 93 [(.oi x0.f1), (.oi 1), (.oi 9999)] [] [] [(.one (.val (.bool (m93 x0.f1 1 9999))))]), (!(m93 x0.f1 1 9999)) = true] (by kernel_rfl) ⟨hc, (by omega), (by rw [getElem?_map, Hx0]; rfl), (e113 (a0 := x0.f0)), (nt h_1), (e93 (a0 := x0.f1) (a1 := 1) (a2 := 9999)), h_2, trivial⟩
    exact .loopX st (show (.ret : VX.Exit) ≠ .normal from by simp)
   ·try simp only [if_neg h_2]
    have st := ch b46_0 [(2, .b true), (4, .row (b_si x0)), (16, .ret [] [(.one (.val (.bool (m113 x0.f0))))] [] []), (21, .b false), (27, .ret [] [(.one (.val (.bool (m93 x0.f1 1 9999))))] [] []), (32, .b false)] (h46_0 l0_0 a0 (length p : Int)) ⟨[(8, (.one (.bor l0_0 (map b_si a0)))), (9, (.oi ((length (map b_si a0)) : Int))), (10, (.oi (w64 ((length p : Int) + 1))))], []⟩ .normal 37 [(decide ((length p : Int) < ((length (map b_si a0)) : Int))) = true, 0 ≤ (length p : Int), (map b_si a0)[(Int.toNat (length p : Int))]? = some (b_si x0), Ev F X (.call 113 [(.one (.val (.string x0.f0)))] [] [] [(.one (.val (.bool (m113 x0.f0))))]), (!(m113 x0.f0)) = false, Ev F X (.call 93 [(.oi x0.f1), (.oi 1), (.oi 9999)] [] [] [(.one (.val (.bool (m93 x0.f1 1 9999))))]), (!(m93 x0.f1 1 9999)) = false, True] (by kernel_rfl) ⟨hc, (by omega), (by rw [getElem?_map, Hx0]; rfl), (e113 (a0 := x0.f0)), (nt h_1), (e93 (a0 := x0.f1) (a1 := 1) (a2 := 9999)), (nt h_2), trivial, trivial⟩
    have ih := t46_0 (l0_0 := l0_0) (a0 := a0) hy0 y0 (p ++ [x0])  (by rw [append_assoc]; exact hp0)
    rw [show ((p ++ [x0]).length : Int) = (p.length : Int) + 1 from by simp] at ih
    replace st := to_ (s' := h46_0 l0_0 a0 ((length p : Int) + 1) ) st (by unfold h46_0; simp only [hw]; done)
    exact .loopN st ih
def m46 (a0 : (List K_si)) : Int :=
 if (decide (((length (map b_si a0)) : Int) > 12)) = true then 2 else
 (match r46_0 a0 a0 0 with | .k0 w0_1 w1_1 => 0 | .k1 => 5 | .k2 => 3)
theorem e46 {l0_0 : Nat} {a0 : (List K_si)} (hy0 : length a0 * 24 ≤ 140737488351232) : Ev F X (.call 46 [(.one (.bor l0_0 (map b_si a0)))] [] [] [(.one (.val (.int .i64 (m46 a0))))]) := by
 unfold m46
 by_cases h0 : (decide (((length (map b_si a0)) : Int) > 12)) = true
 ·try simp only [if_pos h0]
  exact cp (by kernel_rfl) (.f h0 (.y 8 .nil))
 ·try simp only [if_neg h0]
  cases h1 : r46_0 a0 a0 0 with
  | k0 w0_1 w1_1 =>
   try dsimp only
   have f1 : (⟨[(8, (.one (.bor l0_0 (map b_si a0)))), (9, (.oi ((length (map b_si a0)) : Int))), (10, (.oi 0))], []⟩ : St) = h46_0 l0_0 a0 0  := (by rfl)
   have f2 : Ev F X (.code l46_0 (h46_0 l0_0 a0 0 ) (.exit 0) ⟨[(8, (.one (.bor l0_0 (map b_si a0)))), (9, (.oi ((length (map b_si a0)) : Int))), (10, (.oi w0_1)), (11, (.one (.val (.bool w1_1))))], []⟩) := (by have t : Ev F X (.code l46_0 (h46_0 l0_0 a0 0 ) (ex46_0 (r46_0 a0 a0 0)) (fin46_0 l0_0 a0 (r46_0 a0 a0 0))) := t46_0 (l0_0 := l0_0) (a0 := a0) (by assumption) a0 []  rfl; rw [h1] at t; exact t)
   exact cp (by kernel_rfl) (.g h0 (.f f1 (.f f2 (.z 8 (.h 15 (.loop (h46_0 l0_0 a0 0 ) (.exit 0) ⟨[(8, (.one (.bor l0_0 (map b_si a0)))), (9, (.oi ((length (map b_si a0)) : Int))), (10, (.oi w0_1)), (11, (.one (.val (.bool w1_1))))], []⟩) .nil)))))
  | k1 =>
   try dsimp only
   have f1 : (⟨[(8, (.one (.bor l0_0 (map b_si a0)))), (9, (.oi ((length (map b_si a0)) : Int))), (10, (.oi 0))], []⟩ : St) = h46_0 l0_0 a0 0  := (by rfl)
   have f2 : Ev F X (.code l46_0 (h46_0 l0_0 a0 0 ) .ret ⟨[(2, (.oi 5))], []⟩) := (by have t : Ev F X (.code l46_0 (h46_0 l0_0 a0 0 ) (ex46_0 (r46_0 a0 a0 0)) (fin46_0 l0_0 a0 (r46_0 a0 a0 0))) := t46_0 (l0_0 := l0_0) (a0 := a0) (by assumption) a0 []  rfl; rw [h1] at t; exact t)
   exact cp (by kernel_rfl) (.g h0 (.f f1 (.f f2 (.z 8 (.h 15 (.loop (h46_0 l0_0 a0 0 ) .ret ⟨[(2, (.oi 5))], []⟩) .nil)))))
  | k2 =>
   try dsimp only
   have f1 : (⟨[(8, (.one (.bor l0_0 (map b_si a0)))), (9, (.oi ((length (map b_si a0)) : Int))), (10, (.oi 0))], []⟩ : St) = h46_0 l0_0 a0 0  := (by rfl)
   have f2 : Ev F X (.code l46_0 (h46_0 l0_0 a0 0 ) .ret ⟨[(2, (.oi 3))], []⟩) := (by have t : Ev F X (.code l46_0 (h46_0 l0_0 a0 0 ) (ex46_0 (r46_0 a0 a0 0)) (fin46_0 l0_0 a0 (r46_0 a0 a0 0))) := t46_0 (l0_0 := l0_0) (a0 := a0) (by assumption) a0 []  rfl; rw [h1] at t; exact t)
   exact cp (by kernel_rfl) (.g h0 (.f f1 (.f f2 (.z 8 (.h 15 (.loop (h46_0 l0_0 a0 0 ) .ret ⟨[(2, (.oi 3))], []⟩) .nil)))))
theorem len12_46 (a : List K_si) (h : ¬ ((m46 a) != 0) = true) : length a ≤ 12 := by
 unfold m46 at h
 split at h
 ·simp at h
 ·rename_i h2
  simp only [decide_eq_true_eq, length_map] at h2
  omega
theorem wok_r46 (a : List K_si) : ∀ (l : List K_si) (i : Int), (match r46_0 a l i with | .k0 .. => (0 : Int) | .k1 => 5 | .k2 => 3) = 0 → ∀ z ∈ l, 1 ≤ z.f1 ∧ z.f1 ≤ 9999
 | [], i, _, x, hx => by cases hx
 | y :: l, i, h, x, hx => by
  simp only [r46_0] at h
  by_cases h1 : (!(m113 y.f0)) = true
  ·simp [h1] at h
  ·by_cases h2 : (!(m93 y.f1 1 9999)) = true
   ·simp [h1, h2] at h
   ·simp only [if_neg h1, if_neg h2] at h
    rcases List.mem_cons.1 hx with rfl | hx
    ·exact jn93 h2
    ·exact wok_r46 a l (i + 1) h x hx
theorem wok46 (a : List K_si) (h : ¬ ((m46 a) != 0) = true) : ∀ z ∈ a, 1 ≤ z.f1 ∧ z.f1 ≤ 9999 := by
 have h2 : m46 a = 0 := by simpa using h
 unfold m46 at h2
 split at h2
 ·cases h2
 ·exact wok_r46 a a 0 h2
def m71 (a0 : Int) (a1 : Int) : Bool :=
 if (m93 a0 1 12) = true then (m93 a1 0 1000) else
 false
theorem e71 {a0 : Int} {a1 : Int} : Ev F X (.call 71 [(.one (.val (.int .i64 a0))), (.one (.val (.int .i64 a1)))] [] [] [(.one (.val (.bool (m71 a0 a1))))]) := by
 unfold m71
 have f0 := e93 (a0 := a0) (a1 := 1) (a2 := 12)
 by_cases h0 : (m93 a0 1 12) = true
 ·try simp only [if_pos h0]
  have f3 := e93 (a0 := a1) (a1 := 0) (a2 := 1000)
  exact cp (by kernel_rfl) (.r 5 [] [] f0 (.m 2 h0 (.y 8 (.y 10 (.r 11 [] [] f3 (.f h0 (.y 13 .nil)))))))
 ·try simp only [if_neg h0]
  exact cp (by kernel_rfl) (.r 5 [] [] f0 (.n 3 h0 (.z 8 (.z 10 (.z 13 .nil)))))
def m72 (a0 : Int) : Bool :=
 (m93 a0 0 1000000)
theorem e72 {a0 : Int} : Ev F X (.call 72 [(.one (.val (.int .i64 a0)))] [] [] [(.one (.val (.bool (m93 a0 0 1000000))))]) := by
 have f0 := e93 (a0 := a0) (a1 := 0) (a2 := 1000000)
 exact cp (by kernel_rfl) (.r 5 [] [] f0 .nil)
def m1014800 (a0 : K_si) (a101001 : ByteArray) : Bool :=
 (a0.f0.toList == a101001.toList)
theorem e1014800 {a0 : K_si} {l101000 : Nat} {a101001 : ByteArray} : Ev F X (.call 148 [(.agg [(.val (.string a0.f0)), (.val (.int .i64 a0.f1))]), (.bptr l101000 [(.val (.string a101001))])] [] [] [(.one (.val (.bool (a0.f0.toList == a101001.toList))))]) := by
 exact cp (by kernel_rfl) .nil
inductive O1014700_0 where
 | k0 (w0 : Int) (w1 : Bool)
 | k1 (w0 : Int)
def r1014700_0 (a0 : (List K_si)) (a2001 : ByteArray) : List K_si → Int → O1014700_0
 | x0 :: y0, i =>
  if (x0.f0.toList == a2001.toList) = true then (O1014700_0.k1 i) else
  (r1014700_0 a0 a2001 y0 (i + 1) )
 | [], i => (O1014700_0.k0 i (decide (i < ((length (map b_si a0)) : Int))))
def h1014700_0 (l0_0 : Nat) (l2000 : Nat) (a0 : (List K_si)) (a2001 : ByteArray) (i : Int)  : St := ⟨[(0, (.one (.bor l0_0 (map b_si a0)))), (1, (.clo 148 [] [(.bptr l2000 [(.val (.string a2001))])])), (7, (.one (.val (.int .i64 ((length (map b_si a0)) : Int))))), (8, (.one (.val (.int .i64 i))))], []⟩
def ex1014700_0 : O1014700_0 → VX.Exit
 | .k0 _ _ => (.exit 0)
 | .k1 _ => .ret
def fin1014700_0 (l0_0 : Nat) (l2000 : Nat) (a0 : (List K_si)) (a2001 : ByteArray) : O1014700_0 → St
 | .k0 w0 w1 => ⟨[(0, (.one (.bor l0_0 (map b_si a0)))), (1, (.clo 148 [] [(.bptr l2000 [(.val (.string a2001))])])), (7, (.one (.val (.int .i64 ((length (map b_si a0)) : Int))))), (8, (.one (.val (.int .i64 w0)))), (9, (.one (.val (.bool w1))))], []⟩
 | .k1 w0 => ⟨[(4, (.one (.val (.int .i64 w0))))], []⟩
theorem t1014700_0 {l0_0 : Nat} {l2000 : Nat} {a0 : (List K_si)} {a2001 : ByteArray} (hy0 : length a0 * 24 ≤ 140737488351232) : ∀ (y0 : List K_si) (p : List K_si) , p ++ y0 = a0 → Ev F X (.code l147_0 (h1014700_0 l0_0 l2000 a0 a2001 (length p : Int) ) (ex1014700_0 (r1014700_0 a0 a2001 y0 (length p : Int) )) (fin1014700_0 l0_0 l2000 a0 a2001 (r1014700_0 a0 a2001 y0 (length p : Int) )))
 | [], p, hp0 => by
  have hc : ¬ (decide ((length p : Int) < ((length (map b_si a0)) : Int))) = true := by
   rw [← hp0]; simp only [length_map, length_set, length_append, length_replicate, length_cons, length_nil, decide_eq_true_eq]; omega
  have st := ch b147_0 [(2, .b false)] (h1014700_0 l0_0 l2000 a0 a2001 (length p : Int)) (fin1014700_0 l0_0 l2000 a0 a2001 (.k0 (length p : Int) (decide ((length p : Int) < ((length (map b_si a0)) : Int))))) (.exit 0) 3 [(decide ((length p : Int) < ((length (map b_si a0)) : Int))) = false] (by kernel_rfl) ⟨(nt hc), trivial⟩
  exact .loopX st (show ((.exit 0) : VX.Exit) ≠ .normal from by simp)
 | x0 :: y0, p, hp0 => by
  have hc : (decide ((length p : Int) < ((length (map b_si a0)) : Int))) = true := lt1 hp0
  have Hx0 : (a0)[Int.toNat (length p : Int)]? = some x0 := by
   rw [← hp0, Int.toNat_natCast]; simp
  have hlen : length (a0) = length p + length y0 + 1 := by rw [← hp0]; simp; omega
  have hw : w64 ((length p : Int) + 1) = (length p : Int) + 1 := wrap64 (by omega)
  simp only [r1014700_0]
  by_cases h_1 : (x0.f0.toList == a2001.toList) = true
  ·try simp only [if_pos h_1]
   have st := ch b147_0 [(2, .b true), (14, .row (b_si x0)), (18, .ret [] [(.one (.val (.bool (x0.f0.toList == a2001.toList))))] [] []), (19, .b true)] (h1014700_0 l0_0 l2000 a0 a2001 (length p : Int)) (fin1014700_0 l0_0 l2000 a0 a2001 (.k1 (length p : Int))) .ret 24 [(decide ((length p : Int) < ((length (map b_si a0)) : Int))) = true, 0 ≤ (length p : Int), (map b_si a0)[(Int.toNat (length p : Int))]? = some (b_si x0), Ev F X (.call 148 [(.agg [(.val (.string x0.f0)), (.i x0.f1)]), (.bptr (l2000 + 1) [(.val (.string a2001))])] [] [] [(.one (.val (.bool (x0.f0.toList == a2001.toList))))]), (x0.f0.toList == a2001.toList) = true] (by kernel_rfl) ⟨hc, (by omega), (by rw [getElem?_map, Hx0]; rfl), (e1014800 (a0 := x0) (a101001 := a2001)), h_1, trivial⟩
   exact .loopX st (show (.ret : VX.Exit) ≠ .normal from by simp)
  ·try simp only [if_neg h_1]
   have st := ch b147_0 [(2, .b true), (14, .row (b_si x0)), (18, .ret [] [(.one (.val (.bool (x0.f0.toList == a2001.toList))))] [] []), (19, .b false)] (h1014700_0 l0_0 l2000 a0 a2001 (length p : Int)) ⟨[(0, (.one (.bor l0_0 (map b_si a0)))), (1, (.clo 148 [] [(.bptr l2000 [(.val (.string a2001))])])), (7, (.oi ((length (map b_si a0)) : Int))), (8, (.oi (w64 ((length p : Int) + 1))))], []⟩ .normal 24 [(decide ((length p : Int) < ((length (map b_si a0)) : Int))) = true, 0 ≤ (length p : Int), (map b_si a0)[(Int.toNat (length p : Int))]? = some (b_si x0), Ev F X (.call 148 [(.agg [(.val (.string x0.f0)), (.i x0.f1)]), (.bptr (l2000 + 1) [(.val (.string a2001))])] [] [] [(.one (.val (.bool (x0.f0.toList == a2001.toList))))]), (x0.f0.toList == a2001.toList) = false, True] (by kernel_rfl) ⟨hc, (by omega), (by rw [getElem?_map, Hx0]; rfl), (e1014800 (a0 := x0) (a101001 := a2001)), (nt h_1), trivial, trivial⟩
   have ih := t1014700_0 (l0_0 := l0_0) (l2000 := l2000) (a0 := a0) (a2001 := a2001) hy0 y0 (p ++ [x0])  (by rw [append_assoc]; exact hp0)
   rw [show ((p ++ [x0]).length : Int) = (p.length : Int) + 1 from by simp] at ih
   replace st := to_ (s' := h1014700_0 l0_0 l2000 a0 a2001 ((length p : Int) + 1) ) st (by unfold h1014700_0; simp only [hw]; done)
   exact .loopN st ih
def m1014700 (a0 : (List K_si)) (a2001 : ByteArray) : Int :=
 (match r1014700_0 a0 a2001 a0 0 with | .k0 w0_0 w1_0 => (-1) | .k1 w0_0 => w0_0)
theorem e1014700 {l0_0 : Nat} {a0 : (List K_si)} {l2000 : Nat} {a2001 : ByteArray} (hy0 : length a0 * 24 ≤ 140737488351232) : Ev F X (.call 147 [(.one (.bor l0_0 (map b_si a0))), (.clo 148 [] [(.bptr l2000 [(.val (.string a2001))])])] [] [] [(.one (.val (.int .i64 (m1014700 a0 a2001))))]) := by
 unfold m1014700
 cases h0 : r1014700_0 a0 a2001 a0 0 with
 | k0 w0_0 w1_0 =>
  try dsimp only
  have f0 : (⟨[(0, (.one (.bor l0_0 (map b_si a0)))), (1, (.clo 148 [] [(.bptr l2000 [(.val (.string a2001))])])), (7, (.oi ((length (map b_si a0)) : Int))), (8, (.oi 0))], []⟩ : St) = h1014700_0 l0_0 l2000 a0 a2001 0  := (by rfl)
  have f1 : Ev F X (.code l147_0 (h1014700_0 l0_0 l2000 a0 a2001 0 ) (.exit 0) ⟨[(0, (.one (.bor l0_0 (map b_si a0)))), (1, (.clo 148 [] [(.bptr l2000 [(.val (.string a2001))])])), (7, (.oi ((length (map b_si a0)) : Int))), (8, (.oi w0_0)), (9, (.one (.val (.bool w1_0))))], []⟩) := (by have t : Ev F X (.code l147_0 (h1014700_0 l0_0 l2000 a0 a2001 0 ) (ex1014700_0 (r1014700_0 a0 a2001 a0 0)) (fin1014700_0 l0_0 l2000 a0 a2001 (r1014700_0 a0 a2001 a0 0))) := t1014700_0 (l0_0 := l0_0) (l2000 := l2000) (a0 := a0) (a2001 := a2001) (by assumption) a0 []  rfl; rw [h0] at t; exact t)
  exact cp (by kernel_rfl) (.f f0 (.f f1 (.h 8 (.loop (h1014700_0 l0_0 l2000 a0 a2001 0 ) (.exit 0) ⟨[(0, (.one (.bor l0_0 (map b_si a0)))), (1, (.clo 148 [] [(.bptr l2000 [(.val (.string a2001))])])), (7, (.oi ((length (map b_si a0)) : Int))), (8, (.oi w0_0)), (9, (.one (.val (.bool w1_0))))], []⟩) .nil)))
 | k1 w0_0 =>
  try dsimp only
  have f0 : (⟨[(0, (.one (.bor l0_0 (map b_si a0)))), (1, (.clo 148 [] [(.bptr l2000 [(.val (.string a2001))])])), (7, (.oi ((length (map b_si a0)) : Int))), (8, (.oi 0))], []⟩ : St) = h1014700_0 l0_0 l2000 a0 a2001 0  := (by rfl)
  have f1 : Ev F X (.code l147_0 (h1014700_0 l0_0 l2000 a0 a2001 0 ) .ret ⟨[(4, (.oi w0_0))], []⟩) := (by have t : Ev F X (.code l147_0 (h1014700_0 l0_0 l2000 a0 a2001 0 ) (ex1014700_0 (r1014700_0 a0 a2001 a0 0)) (fin1014700_0 l0_0 l2000 a0 a2001 (r1014700_0 a0 a2001 a0 0))) := t1014700_0 (l0_0 := l0_0) (l2000 := l2000) (a0 := a0) (a2001 := a2001) (by assumption) a0 []  rfl; rw [h0] at t; exact t)
  exact cp (by kernel_rfl) (.f f0 (.f f1 (.h 8 (.loop (h1014700_0 l0_0 l2000 a0 a2001 0 ) .ret ⟨[(4, (.oi w0_0))], []⟩) .nil)))
theorem ixr1014700_0 (a0 : (List K_si)) (a2001 : ByteArray) : ∀ (l : List K_si) (i : Int), (∃ (w0 : _) (w1 : _), r1014700_0 a0 a2001 l i = .k0 w0 w1) ∨ (∃ w, r1014700_0 a0 a2001 l i = .k1 w ∧ i ≤ w ∧ w < i + l.length)
  | [], i => .inl ⟨i, (decide (i < ((length (map b_si a0)) : Int))), rfl⟩
  | x :: l, i => by
    have ih := ixr1014700_0 a0 a2001 l (i + 1)
    simp only [r1014700_0]
    (repeat' split)
    all_goals first
      | exact .inr ⟨i, rfl, by omega, by simp only [length_cons]; omega⟩
      | (rcases ih with ⟨w0, w1, h⟩ | ⟨w, h, h1, h2⟩
         · exact .inl ⟨w0, w1, h⟩
         · exact .inr ⟨w, h, by omega, by simp only [length_cons]; omega⟩)
theorem ix1014700 (a0 : (List K_si)) (a2001 : ByteArray) : -1 ≤ m1014700 a0 a2001 ∧ m1014700 a0 a2001 < (length a0 : Int) := by
 unfold m1014700
 rcases ixr1014700_0 a0 a2001 a0 0 with ⟨w0, w1, h⟩ | ⟨w, h, h1, h2⟩ <;> simp only [h] <;> omega
def m94 (a0 : (List K_si)) (a1 : ByteArray) : Int :=
 (m1014700 a0 a1)
theorem e94 {l0_0 : Nat} {a0 : (List K_si)} {a1 : ByteArray} (hy0 : length a0 * 24 ≤ 140737488351232) : Ev F X (.call 94 [(.one (.bor l0_0 (map b_si a0))), (.one (.val (.string a1)))] [] [] [(.one (.val (.int .i64 (m1014700 a0 a1))))]) := by
 have f0 : fullL [(.val (.string a1))] = true := (by trivial)
 have f1 : Ev F X (.call 147 [(.one (.bor (l0_0 + 1) (map b_si a0))), (.clo 148 [] [(.bptr 0 [(.val (.string a1))])])] [] [] [(.oi (m1014700 a0 a1))]) := (e1014700 (a0 := a0) (a2001 := a1) (by with_reducible assumption))
 exact cp (by kernel_rfl) (.f f0 (.r 9 [] [] f1 .nil))
inductive O74_0 where
 | k0 (w0 : Int) (w1 : Bool)
 | k1
def r74_0 (a0 : (List K_si)) : List K_si → Int → O74_0
 | x0 :: y0, i =>
  if (!(m113 x0.f0)) = true then (O74_0.k1) else
  if (!(m93 x0.f1 0 1000000)) = true then (O74_0.k1) else
   if (decide ((m1014700 (take (Int.toNat i) a0) x0.f0) ≥ 0)) = true then (O74_0.k1) else
    (r74_0 a0 y0 (i + 1) )
 | [], i => (O74_0.k0 i (decide (i < ((length (map b_si a0)) : Int))))
def h74_0 (l0_0 : Nat) (a0 : (List K_si)) (a1 : Int) (i : Int)  : St := ⟨[(0, (.one (.bor l0_0 (map b_si a0)))), (1, (.one (.val (.int .i64 a1)))), (7, (.one (.bor l0_0 (map b_si a0)))), (8, (.one (.val (.int .i64 ((length (map b_si a0)) : Int))))), (9, (.one (.val (.int .i64 i))))], []⟩
def ex74_0 : O74_0 → VX.Exit
 | .k0 _ _ => (.exit 0)
 | .k1 => .ret
def fin74_0 (l0_0 : Nat) (a0 : (List K_si)) (a1 : Int) : O74_0 → St
 | .k0 w0 w1 => ⟨[(0, (.one (.bor l0_0 (map b_si a0)))), (1, (.one (.val (.int .i64 a1)))), (7, (.one (.bor l0_0 (map b_si a0)))), (8, (.one (.val (.int .i64 ((length (map b_si a0)) : Int))))), (9, (.one (.val (.int .i64 w0)))), (10, (.one (.val (.bool w1))))], []⟩
 | .k1 => ⟨[(4, (.one (.val (.bool false))))], []⟩
theorem t74_0 {l0_0 : Nat} {a0 : (List K_si)} {a1 : Int} (hy0 : length a0 * 24 ≤ 140737488351232) : ∀ (y0 : List K_si) (p : List K_si) , p ++ y0 = a0 → Ev F X (.code l74_0 (h74_0 l0_0 a0 a1 (length p : Int) ) (ex74_0 (r74_0 a0 y0 (length p : Int) )) (fin74_0 l0_0 a0 a1 (r74_0 a0 y0 (length p : Int) )))
 | [], p, hp0 => by
  have hc : ¬ (decide ((length p : Int) < ((length (map b_si a0)) : Int))) = true := by
   rw [← hp0]; simp only [length_map, length_set, length_append, length_replicate, length_cons, length_nil, decide_eq_true_eq]; omega
  have st := ch b74_0 [(2, .b false)] (h74_0 l0_0 a0 a1 (length p : Int)) (fin74_0 l0_0 a0 a1 (.k0 (length p : Int) (decide ((length p : Int) < ((length (map b_si a0)) : Int))))) (.exit 0) 3 [(decide ((length p : Int) < ((length (map b_si a0)) : Int))) = false] (by kernel_rfl) ⟨(nt hc), trivial⟩
  exact .loopX st (show ((.exit 0) : VX.Exit) ≠ .normal from by simp)
 | x0 :: y0, p, hp0 => by
  have hc : (decide ((length p : Int) < ((length (map b_si a0)) : Int))) = true := lt1 hp0
  have Hx0 : (a0)[Int.toNat (length p : Int)]? = some x0 := by
   rw [← hp0, Int.toNat_natCast]; simp
  have hlen : length (a0) = length p + length y0 + 1 := by rw [← hp0]; simp; omega
  have hw : w64 ((length p : Int) + 1) = (length p : Int) + 1 := wrap64 (by omega)
  simp only [r74_0]
  by_cases h_1 : (!(m113 x0.f0)) = true
  ·try simp only [if_pos h_1]
   have st := ch b74_0 [(2, .b true), (6, .row (b_si x0)), (20, .ret [] [(.one (.val (.bool (m113 x0.f0))))] [] []), (25, .b true), (27, .b true), (29, .b true), (31, .b true), (34, .b true)] (h74_0 l0_0 a0 a1 (length p : Int)) (fin74_0 l0_0 a0 a1 (.k1)) .ret 56 [(decide ((length p : Int) < ((length (map b_si a0)) : Int))) = true, 0 ≤ (length p : Int), (map b_si a0)[(Int.toNat (length p : Int))]? = some (b_si x0), Ev F X (.call 113 [(.one (.val (.string x0.f0)))] [] [] [(.one (.val (.bool (m113 x0.f0))))]), (!(m113 x0.f0)) = true, (!(m113 x0.f0)) = true, (!(m113 x0.f0)) = true, (!(m113 x0.f0)) = true, (!(m113 x0.f0)) = true] (by kernel_rfl) ⟨hc, (by omega), (by rw [getElem?_map, Hx0]; rfl), (e113 (a0 := x0.f0)), h_1, h_1, h_1, h_1, h_1, trivial⟩
   exact .loopX st (show (.ret : VX.Exit) ≠ .normal from by simp)
  ·try simp only [if_neg h_1]
   by_cases h_2 : (!(m93 x0.f1 0 1000000)) = true
   ·try simp only [if_pos h_2]
    have st := ch b74_0 [(2, .b true), (6, .row (b_si x0)), (20, .ret [] [(.one (.val (.bool (m113 x0.f0))))] [] []), (25, .b false), (27, .b false), (29, .b false), (30, .ret [] [(.one (.val (.bool (m93 x0.f1 0 1000000))))] [] []), (31, .b false), (34, .b false), (37, .b true), (39, .b true), (41, .b true), (43, .b true), (45, .b true), (47, .b true), (49, .b true), (52, .b true)] (h74_0 l0_0 a0 a1 (length p : Int)) (fin74_0 l0_0 a0 a1 (.k1)) .ret 56 [(decide ((length p : Int) < ((length (map b_si a0)) : Int))) = true, 0 ≤ (length p : Int), (map b_si a0)[(Int.toNat (length p : Int))]? = some (b_si x0), Ev F X (.call 113 [(.one (.val (.string x0.f0)))] [] [] [(.one (.val (.bool (m113 x0.f0))))]), (!(m113 x0.f0)) = false, (!(m113 x0.f0)) = false, (!(m113 x0.f0)) = false, Ev F X (.call 72 [(.oi x0.f1)] [] [] [(.one (.val (.bool (m93 x0.f1 0 1000000))))]), (!(m113 x0.f0)) = false, (!(m113 x0.f0)) = false, (!(m93 x0.f1 0 1000000)) = true, (!(m93 x0.f1 0 1000000)) = true, (!(m93 x0.f1 0 1000000)) = true, (!(m93 x0.f1 0 1000000)) = true, (!(m93 x0.f1 0 1000000)) = true, (!(m93 x0.f1 0 1000000)) = true, (!(m93 x0.f1 0 1000000)) = true, (!(m93 x0.f1 0 1000000)) = true] (by kernel_rfl) ⟨hc, (by omega), (by rw [getElem?_map, Hx0]; rfl), (e113 (a0 := x0.f0)), (nt h_1), (nt h_1), (nt h_1), (e72 (a0 := x0.f1)), (nt h_1), (nt h_1), h_2, h_2, h_2, h_2, h_2, h_2, h_2, h_2, trivial⟩
    exact .loopX st (show (.ret : VX.Exit) ≠ .normal from by simp)
   ·try simp only [if_neg h_2]
    by_cases h_3 : (decide ((m1014700 (take (Int.toNat (length p : Int)) a0) x0.f0) ≥ 0)) = true
    ·try simp only [if_pos h_3]
     have st := ch b74_0 [(2, .b true), (6, .row (b_si x0)), (20, .ret [] [(.one (.val (.bool (m113 x0.f0))))] [] []), (25, .b false), (27, .b false), (29, .b false), (30, .ret [] [(.one (.val (.bool (m93 x0.f1 0 1000000))))] [] []), (31, .b false), (34, .b false), (37, .b false), (39, .b false), (41, .b false), (43, .b false), (45, .b false), (47, .b false), (48, .ret [] [(.oi (m1014700 (take (Int.toNat (length p : Int)) a0) x0.f0))] [] []), (49, .b false), (52, .b false), (53, .b true)] (h74_0 l0_0 a0 a1 (length p : Int)) (fin74_0 l0_0 a0 a1 (.k1)) .ret 56 [(decide ((length p : Int) < ((length (map b_si a0)) : Int))) = true, 0 ≤ (length p : Int), (map b_si a0)[(Int.toNat (length p : Int))]? = some (b_si x0), Ev F X (.call 113 [(.one (.val (.string x0.f0)))] [] [] [(.one (.val (.bool (m113 x0.f0))))]), (!(m113 x0.f0)) = false, (!(m113 x0.f0)) = false, (!(m113 x0.f0)) = false, Ev F X (.call 72 [(.oi x0.f1)] [] [] [(.one (.val (.bool (m93 x0.f1 0 1000000))))]), (!(m113 x0.f0)) = false, (!(m113 x0.f0)) = false, (!(m93 x0.f1 0 1000000)) = false, (!(m93 x0.f1 0 1000000)) = false, (!(m93 x0.f1 0 1000000)) = false, (0 ≤ (0 : Int) ∧ (0 : Int) ≤ (length p : Int) ∧ (length p : Int) ≤ ((length (map b_si a0)) : Int)) ∧ ∀ r ∈ ((map b_si a0) : List (List B)), r.length = 2, (!(m93 x0.f1 0 1000000)) = false, (!(m93 x0.f1 0 1000000)) = false, (!(m93 x0.f1 0 1000000)) = false, Ev F X (.call 94 [(.one (.bor (l0_0 + 1) (take (Int.toNat (length p : Int) - Int.toNat 0) (drop 0 (map b_si a0))))), (.one (.val (.string x0.f0)))] [] [] [(.oi (m1014700 (take (Int.toNat (length p : Int)) a0) x0.f0))]), (!(m93 x0.f1 0 1000000)) = false, (!(m93 x0.f1 0 1000000)) = false, (decide ((m1014700 (take (Int.toNat (length p : Int)) a0) x0.f0) ≥ 0)) = true] (by kernel_rfl) ⟨hc, (by omega), (by rw [getElem?_map, Hx0]; rfl), (e113 (a0 := x0.f0)), (nt h_1), (nt h_1), (nt h_1), (e72 (a0 := x0.f1)), (nt h_1), (nt h_1), (nt h_2), (nt h_2), (nt h_2), (by refine ⟨?_, lenB_si _⟩; simp only [length_map, length_set, length_append, length_replicate, length_cons, length_nil]; omega), (nt h_2), (nt h_2), (nt h_2), (by rw [show (take (Int.toNat (length p : Int) - Int.toNat 0) (drop 0 (map b_si a0))) = (map b_si (take (Int.toNat (length p : Int)) a0)) from by first | rfl | (simp [map_take, map_drop, ol85, ol86, ol27_0, ol27_1, ol27_2, ol28_0, ol28_1, ol28_2]; done) | (simp [byteRows_eq, map_take, map_drop, ol85, ol86, ol27_0, ol27_1, ol27_2, ol28_0, ol28_1, ol28_2]; done) | (simp [*, map_take, map_drop, ol85, ol86, ol27_0, ol27_1, ol27_2, ol28_0, ol28_1, ol28_2]; done)]; exact (e94 (a0 := (take (Int.toNat (length p : Int)) a0)) (a1 := x0.f0) (by simp only [length_take]; omega))), (nt h_2), (nt h_2), h_3, trivial⟩
     exact .loopX st (show (.ret : VX.Exit) ≠ .normal from by simp)
    ·try simp only [if_neg h_3]
     have st := ch b74_0 [(2, .b true), (6, .row (b_si x0)), (20, .ret [] [(.one (.val (.bool (m113 x0.f0))))] [] []), (25, .b false), (27, .b false), (29, .b false), (30, .ret [] [(.one (.val (.bool (m93 x0.f1 0 1000000))))] [] []), (31, .b false), (34, .b false), (37, .b false), (39, .b false), (41, .b false), (43, .b false), (45, .b false), (47, .b false), (48, .ret [] [(.oi (m1014700 (take (Int.toNat (length p : Int)) a0) x0.f0))] [] []), (49, .b false), (52, .b false), (53, .b false)] (h74_0 l0_0 a0 a1 (length p : Int)) ⟨[(0, (.one (.bor l0_0 (map b_si a0)))), (1, (.oi a1)), (7, (.one (.bor l0_0 (map b_si a0)))), (8, (.oi ((length (map b_si a0)) : Int))), (9, (.oi (w64 ((length p : Int) + 1))))], []⟩ .normal 58 [(decide ((length p : Int) < ((length (map b_si a0)) : Int))) = true, 0 ≤ (length p : Int), (map b_si a0)[(Int.toNat (length p : Int))]? = some (b_si x0), Ev F X (.call 113 [(.one (.val (.string x0.f0)))] [] [] [(.one (.val (.bool (m113 x0.f0))))]), (!(m113 x0.f0)) = false, (!(m113 x0.f0)) = false, (!(m113 x0.f0)) = false, Ev F X (.call 72 [(.oi x0.f1)] [] [] [(.one (.val (.bool (m93 x0.f1 0 1000000))))]), (!(m113 x0.f0)) = false, (!(m113 x0.f0)) = false, (!(m93 x0.f1 0 1000000)) = false, (!(m93 x0.f1 0 1000000)) = false, (!(m93 x0.f1 0 1000000)) = false, (0 ≤ (0 : Int) ∧ (0 : Int) ≤ (length p : Int) ∧ (length p : Int) ≤ ((length (map b_si a0)) : Int)) ∧ ∀ r ∈ ((map b_si a0) : List (List B)), r.length = 2, (!(m93 x0.f1 0 1000000)) = false, (!(m93 x0.f1 0 1000000)) = false, (!(m93 x0.f1 0 1000000)) = false, Ev F X (.call 94 [(.one (.bor (l0_0 + 1) (take (Int.toNat (length p : Int) - Int.toNat 0) (drop 0 (map b_si a0))))), (.one (.val (.string x0.f0)))] [] [] [(.oi (m1014700 (take (Int.toNat (length p : Int)) a0) x0.f0))]), (!(m93 x0.f1 0 1000000)) = false, (!(m93 x0.f1 0 1000000)) = false, (decide ((m1014700 (take (Int.toNat (length p : Int)) a0) x0.f0) ≥ 0)) = false, True] (by kernel_rfl) ⟨hc, (by omega), (by rw [getElem?_map, Hx0]; rfl), (e113 (a0 := x0.f0)), (nt h_1), (nt h_1), (nt h_1), (e72 (a0 := x0.f1)), (nt h_1), (nt h_1), (nt h_2), (nt h_2), (nt h_2), (by refine ⟨?_, lenB_si _⟩; simp only [length_map, length_set, length_append, length_replicate, length_cons, length_nil]; omega), (nt h_2), (nt h_2), (nt h_2), (by rw [show (take (Int.toNat (length p : Int) - Int.toNat 0) (drop 0 (map b_si a0))) = (map b_si (take (Int.toNat (length p : Int)) a0)) from by first | rfl | (simp [map_take, map_drop, ol85, ol86, ol27_0, ol27_1, ol27_2, ol28_0, ol28_1, ol28_2]; done) | (simp [byteRows_eq, map_take, map_drop, ol85, ol86, ol27_0, ol27_1, ol27_2, ol28_0, ol28_1, ol28_2]; done) | (simp [*, map_take, map_drop, ol85, ol86, ol27_0, ol27_1, ol27_2, ol28_0, ol28_1, ol28_2]; done)]; exact (e94 (a0 := (take (Int.toNat (length p : Int)) a0)) (a1 := x0.f0) (by simp only [length_take]; omega))), (nt h_2), (nt h_2), (nt h_3), trivial, trivial⟩
     have ih := t74_0 (l0_0 := l0_0) (a0 := a0) (a1 := a1) hy0 y0 (p ++ [x0])  (by rw [append_assoc]; exact hp0)
     rw [show ((p ++ [x0]).length : Int) = (p.length : Int) + 1 from by simp] at ih
     replace st := to_ (s' := h74_0 l0_0 a0 a1 ((length p : Int) + 1) ) st (by unfold h74_0; simp only [hw]; done)
     exact .loopN st ih
def m74 (a0 : (List K_si)) (a1 : Int) : Bool :=
 (match r74_0 a0 a0 0 with | .k0 w0_0 w1_0 => (decide (((length (map b_si a0)) : Int) ≤ a1)) | .k1 => false)
theorem e74 {l0_0 : Nat} {a0 : (List K_si)} {a1 : Int} (hy0 : length a0 * 24 ≤ 140737488351232) : Ev F X (.call 74 [(.one (.bor l0_0 (map b_si a0))), (.one (.val (.int .i64 a1)))] [] [] [(.one (.val (.bool (m74 a0 a1))))]) := by
 unfold m74
 cases h0 : r74_0 a0 a0 0 with
 | k0 w0_0 w1_0 =>
  try dsimp only
  have f0 : (⟨[(0, (.one (.bor l0_0 (map b_si a0)))), (1, (.oi a1)), (7, (.one (.bor l0_0 (map b_si a0)))), (8, (.oi ((length (map b_si a0)) : Int))), (9, (.oi 0))], []⟩ : St) = h74_0 l0_0 a0 a1 0  := (by rfl)
  have f1 : Ev F X (.code l74_0 (h74_0 l0_0 a0 a1 0 ) (.exit 0) ⟨[(0, (.one (.bor l0_0 (map b_si a0)))), (1, (.oi a1)), (7, (.one (.bor l0_0 (map b_si a0)))), (8, (.oi ((length (map b_si a0)) : Int))), (9, (.oi w0_0)), (10, (.one (.val (.bool w1_0))))], []⟩) := (by have t : Ev F X (.code l74_0 (h74_0 l0_0 a0 a1 0 ) (ex74_0 (r74_0 a0 a0 0)) (fin74_0 l0_0 a0 a1 (r74_0 a0 a0 0))) := t74_0 (l0_0 := l0_0) (a0 := a0) (a1 := a1) (by assumption) a0 []  rfl; rw [h0] at t; exact t)
  exact cp (by kernel_rfl) (.f f0 (.f f1 (.h 8 (.loop (h74_0 l0_0 a0 a1 0 ) (.exit 0) ⟨[(0, (.one (.bor l0_0 (map b_si a0)))), (1, (.oi a1)), (7, (.one (.bor l0_0 (map b_si a0)))), (8, (.oi ((length (map b_si a0)) : Int))), (9, (.oi w0_0)), (10, (.one (.val (.bool w1_0))))], []⟩) .nil)))
 | k1 =>
  try dsimp only
  have f0 : (⟨[(0, (.one (.bor l0_0 (map b_si a0)))), (1, (.oi a1)), (7, (.one (.bor l0_0 (map b_si a0)))), (8, (.oi ((length (map b_si a0)) : Int))), (9, (.oi 0))], []⟩ : St) = h74_0 l0_0 a0 a1 0  := (by rfl)
  have f1 : Ev F X (.code l74_0 (h74_0 l0_0 a0 a1 0 ) .ret ⟨[(4, (.one (.val (.bool false))))], []⟩) := (by have t : Ev F X (.code l74_0 (h74_0 l0_0 a0 a1 0 ) (ex74_0 (r74_0 a0 a0 0)) (fin74_0 l0_0 a0 a1 (r74_0 a0 a0 0))) := t74_0 (l0_0 := l0_0) (a0 := a0) (a1 := a1) (by assumption) a0 []  rfl; rw [h0] at t; exact t)
  exact cp (by kernel_rfl) (.f f0 (.f f1 (.h 8 (.loop (h74_0 l0_0 a0 a1 0 ) .ret ⟨[(4, (.one (.val (.bool false))))], []⟩) .nil)))
inductive O75_0 where
 | k0 (w0 : Int) (w1 : Int) (w2 : Bool)
def r75_0 (a0 : (List K_si)) : List K_si → Int → Int → O75_0
 | x0 :: y0, i, v0 =>
  (r75_0 a0 y0 (i + 1) (w64 (v0 + x0.f1)))
 | [], i, v0 => (O75_0.k0 v0 i (decide (i < ((length (map b_si a0)) : Int))))
def h75_0 (l0_0 : Nat) (a0 : (List K_si)) (i : Int) (v0 : Int) : St := ⟨[(3, (.one (.val (.int .i64 v0)))), (6, (.one (.bor l0_0 (map b_si a0)))), (7, (.one (.val (.int .i64 ((length (map b_si a0)) : Int))))), (8, (.one (.val (.int .i64 i))))], []⟩
def ex75_0 : O75_0 → VX.Exit
 | .k0 _ _ _ => (.exit 0)
def fin75_0 (l0_0 : Nat) (a0 : (List K_si)) : O75_0 → St
 | .k0 w0 w1 w2 => ⟨[(3, (.one (.val (.int .i64 w0)))), (6, (.one (.bor l0_0 (map b_si a0)))), (7, (.one (.val (.int .i64 ((length (map b_si a0)) : Int))))), (8, (.one (.val (.int .i64 w1)))), (9, (.one (.val (.bool w2))))], []⟩
theorem t75_0 {l0_0 : Nat} {a0 : (List K_si)} (hy0 : length a0 * 24 ≤ 140737488351232) : ∀ (y0 : List K_si) (p : List K_si) (v0 : Int), p ++ y0 = a0 → Ev F X (.code l75_0 (h75_0 l0_0 a0 (length p : Int) v0) (ex75_0 (r75_0 a0 y0 (length p : Int) v0)) (fin75_0 l0_0 a0 (r75_0 a0 y0 (length p : Int) v0)))
 | [], p, v0, hp0 => by
  have hc : ¬ (decide ((length p : Int) < ((length (map b_si a0)) : Int))) = true := by
   rw [← hp0]; simp only [length_map, length_set, length_append, length_replicate, length_cons, length_nil, decide_eq_true_eq]; omega
  have st := ch b75_0 [(2, .b false)] (h75_0 l0_0 a0 (length p : Int) v0) (fin75_0 l0_0 a0 (.k0 v0 (length p : Int) (decide ((length p : Int) < ((length (map b_si a0)) : Int))))) (.exit 0) 3 [(decide ((length p : Int) < ((length (map b_si a0)) : Int))) = false] (by kernel_rfl) ⟨(nt hc), trivial⟩
  exact .loopX st (show ((.exit 0) : VX.Exit) ≠ .normal from by simp)
 | x0 :: y0, p, v0, hp0 => by
  have hc : (decide ((length p : Int) < ((length (map b_si a0)) : Int))) = true := lt1 hp0
  have Hx0 : (a0)[Int.toNat (length p : Int)]? = some x0 := by
   rw [← hp0, Int.toNat_natCast]; simp
  have hlen : length (a0) = length p + length y0 + 1 := by rw [← hp0]; simp; omega
  have hw : w64 ((length p : Int) + 1) = (length p : Int) + 1 := wrap64 (by omega)
  simp only [r75_0]
  have st := ch b75_0 [(2, .b true), (4, .row (b_si x0))] (h75_0 l0_0 a0 (length p : Int) v0) ⟨[(3, (.oi (w64 (v0 + x0.f1)))), (6, (.one (.bor l0_0 (map b_si a0)))), (7, (.oi ((length (map b_si a0)) : Int))), (8, (.oi (w64 ((length p : Int) + 1))))], []⟩ .normal 25 [(decide ((length p : Int) < ((length (map b_si a0)) : Int))) = true, 0 ≤ (length p : Int), (map b_si a0)[(Int.toNat (length p : Int))]? = some (b_si x0), True, True] (by kernel_rfl) ⟨hc, (by omega), (by rw [getElem?_map, Hx0]; rfl), trivial, trivial, trivial⟩
  have ih := t75_0 (l0_0 := l0_0) (a0 := a0) hy0 y0 (p ++ [x0]) (w64 (v0 + x0.f1)) (by rw [append_assoc]; exact hp0)
  rw [show ((p ++ [x0]).length : Int) = (p.length : Int) + 1 from by simp] at ih
  replace st := to_ (s' := h75_0 l0_0 a0 ((length p : Int) + 1) (w64 (v0 + x0.f1))) st (by unfold h75_0; simp only [hw]; done)
  exact .loopN st ih
def m75 (a0 : (List K_si)) : Int :=
 (match r75_0 a0 a0 0 0 with | .k0 w0_0 w1_0 w2_0 => w0_0)
theorem e75 {l0_0 : Nat} {a0 : (List K_si)} (hy0 : length a0 * 24 ≤ 140737488351232) : Ev F X (.call 75 [(.one (.bor l0_0 (map b_si a0)))] [] [] [(.one (.val (.int .i64 (m75 a0))))]) := by
 unfold m75
 cases h0 : r75_0 a0 a0 0 0 with
 | k0 w0_0 w1_0 w2_0 =>
  try dsimp only
  have f0 : (⟨[(3, (.oi 0)), (6, (.one (.bor l0_0 (map b_si a0)))), (7, (.oi ((length (map b_si a0)) : Int))), (8, (.oi 0))], []⟩ : St) = h75_0 l0_0 a0 0 0 := (by rfl)
  have f1 : Ev F X (.code l75_0 (h75_0 l0_0 a0 0 0) (.exit 0) ⟨[(3, (.oi w0_0)), (6, (.one (.bor l0_0 (map b_si a0)))), (7, (.oi ((length (map b_si a0)) : Int))), (8, (.oi w1_0)), (9, (.one (.val (.bool w2_0))))], []⟩) := (by have t : Ev F X (.code l75_0 (h75_0 l0_0 a0 0 0) (ex75_0 (r75_0 a0 a0 0 0)) (fin75_0 l0_0 a0 (r75_0 a0 a0 0 0))) := t75_0 (l0_0 := l0_0) (a0 := a0) (by assumption) a0 [] 0 rfl; rw [h0] at t; exact t)
  exact cp (by kernel_rfl) (.f f0 (.f f1 (.h 10 (.loop (h75_0 l0_0 a0 0 0) (.exit 0) ⟨[(3, (.oi w0_0)), (6, (.one (.bor l0_0 (map b_si a0)))), (7, (.oi ((length (map b_si a0)) : Int))), (8, (.oi w1_0)), (9, (.one (.val (.bool w2_0))))], []⟩) .nil)))
theorem tot_r75 (a : List K_si) : ∀ (l : List K_si) (i v : Int), (∀ z ∈ l, 1 ≤ z.f1 ∧ z.f1 ≤ 119988) → 0 ≤ v → v + 119988 * l.length ≤ 1000000000 → ∃ w j b, r75_0 a l i v = .k0 w j b ∧ v + l.length ≤ w ∧ w ≤ v + 119988 * l.length
 | [], i, v, _, _, _ => ⟨v, _, _, rfl, by simp, by simp⟩
 | x :: l, i, v, h, h0, hb => by
  have hx := h x (List.mem_cons_self ..)
  simp only [length_cons] at hb
  simp only [r75_0]
  rw [wrap64 (by omega)]
  obtain ⟨w, j, b, e, h1, h2⟩ := tot_r75 a l (i + 1) (v + x.f1) (fun z hz => h z (List.mem_cons_of_mem _ hz)) (by omega) (by omega)
  exact ⟨w, j, b, e, by simp only [length_cons]; omega, by simp only [length_cons]; omega⟩
theorem tot_75 (a : List K_si) (h : ∀ z ∈ a, 1 ≤ z.f1 ∧ z.f1 ≤ 119988) (hl : a.length ≤ 12) : (a.length : Int) ≤ m75 a ∧ m75 a ≤ 119988 * a.length := by
 obtain ⟨w, j, b, e, h1, h2⟩ := tot_r75 a a 0 0 h (by omega) (by omega)
 unfold m75
 rw [e]; simp only []; omega
def m1014600 (a0 : K_R) (a101001 : Int) : Bool :=
 (a0.f0 == a101001)
theorem e1014600 {l0_3 : Nat} {a0 : K_R} {l101000 : Nat} {a101001 : Int} : Ev F X (.call 146 [(.agg [(.val (.int .i64 a0.f0)), (.val (.int .i64 a0.f1)), (.val (.int .i64 a0.f2)), (.bor l0_3 (map b_si a0.f3)), (.val (.int .i64 a0.f4))]), (.bptr l101000 [(.val (.int .i64 a101001))])] [] [] [(.one (.val (.bool (a0.f0 == a101001))))]) := by
 exact cp (by kernel_rfl) .nil
inductive O1014500_0 where
 | k0 (w0 : Int) (w1 : Bool)
 | k1 (w0 : Int)
def r1014500_0 (a0 : (List K_R)) (a2001 : Int) : List K_R → Int → O1014500_0
 | x0 :: y0, i =>
  if (x0.f0 == a2001) = true then (O1014500_0.k1 i) else
  (r1014500_0 a0 a2001 y0 (i + 1) )
 | [], i => (O1014500_0.k0 i (decide (i < ((length (map b_R a0)) : Int))))
def h1014500_0 (l0_0 : Nat) (l2000 : Nat) (a0 : (List K_R)) (a2001 : Int) (i : Int)  : St := ⟨[(0, (.one (.bor l0_0 (map b_R a0)))), (1, (.clo 146 [] [(.bptr l2000 [(.val (.int .i64 a2001))])])), (7, (.one (.val (.int .i64 ((length (map b_R a0)) : Int))))), (8, (.one (.val (.int .i64 i))))], []⟩
def ex1014500_0 : O1014500_0 → VX.Exit
 | .k0 _ _ => (.exit 0)
 | .k1 _ => .ret
def fin1014500_0 (l0_0 : Nat) (l2000 : Nat) (a0 : (List K_R)) (a2001 : Int) : O1014500_0 → St
 | .k0 w0 w1 => ⟨[(0, (.one (.bor l0_0 (map b_R a0)))), (1, (.clo 146 [] [(.bptr l2000 [(.val (.int .i64 a2001))])])), (7, (.one (.val (.int .i64 ((length (map b_R a0)) : Int))))), (8, (.one (.val (.int .i64 w0)))), (9, (.one (.val (.bool w1))))], []⟩
 | .k1 w0 => ⟨[(4, (.one (.val (.int .i64 w0))))], []⟩
theorem t1014500_0 {l0_0 : Nat} {l2000 : Nat} {a0 : (List K_R)} {a2001 : Int} (hy0 : length a0 * 56 ≤ 140737488351232) (hy1 : ∀ z ∈ a0, ok_R z) : ∀ (y0 : List K_R) (p : List K_R) , p ++ y0 = a0 → Ev F X (.code l145_0 (h1014500_0 l0_0 l2000 a0 a2001 (length p : Int) ) (ex1014500_0 (r1014500_0 a0 a2001 y0 (length p : Int) )) (fin1014500_0 l0_0 l2000 a0 a2001 (r1014500_0 a0 a2001 y0 (length p : Int) )))
 | [], p, hp0 => by
  have hc : ¬ (decide ((length p : Int) < ((length (map b_R a0)) : Int))) = true := by
   rw [← hp0]; simp only [length_map, length_set, length_append, length_replicate, length_cons, length_nil, decide_eq_true_eq]; omega
  have st := ch b145_0 [(2, .b false)] (h1014500_0 l0_0 l2000 a0 a2001 (length p : Int)) (fin1014500_0 l0_0 l2000 a0 a2001 (.k0 (length p : Int) (decide ((length p : Int) < ((length (map b_R a0)) : Int))))) (.exit 0) 3 [(decide ((length p : Int) < ((length (map b_R a0)) : Int))) = false] (by kernel_rfl) ⟨(nt hc), trivial⟩
  exact .loopX st (show ((.exit 0) : VX.Exit) ≠ .normal from by simp)
 | x0 :: y0, p, hp0 => by
  have hc : (decide ((length p : Int) < ((length (map b_R a0)) : Int))) = true := lt1 hp0
  have Hx0 : (a0)[Int.toNat (length p : Int)]? = some x0 := by
   rw [← hp0, Int.toNat_natCast]; simp
  have Mx0_0 := hy1 x0 (List.mem_of_getElem? Hx0)
  have hlen : length (a0) = length p + length y0 + 1 := by rw [← hp0]; simp; omega
  have hw : w64 ((length p : Int) + 1) = (length p : Int) + 1 := wrap64 (by omega)
  simp only [r1014500_0]
  by_cases h_1 : (x0.f0 == a2001) = true
  ·try simp only [if_pos h_1]
   have st := ch b145_0 [(2, .b true), (14, .row (b_R x0)), (18, .ret [] [(.one (.val (.bool (x0.f0 == a2001))))] [] []), (19, .b true)] (h1014500_0 l0_0 l2000 a0 a2001 (length p : Int)) (fin1014500_0 l0_0 l2000 a0 a2001 (.k1 (length p : Int))) .ret 24 [(decide ((length p : Int) < ((length (map b_R a0)) : Int))) = true, 0 ≤ (length p : Int), (map b_R a0)[(Int.toNat (length p : Int))]? = some (b_R x0), Ev F X (.call 146 [(.agg [(.i x0.f0), (.i x0.f1), (.i x0.f2), (.bor (l0_0 + 1) (map b_si x0.f3)), (.i x0.f4)]), (.bptr (l2000 + 1) [(.i a2001)])] [] [] [(.one (.val (.bool (x0.f0 == a2001))))]), (x0.f0 == a2001) = true] (by kernel_rfl) ⟨hc, (by omega), (by rw [getElem?_map, Hx0]; rfl), (e1014600 (a0 := x0) (a101001 := a2001)), h_1, trivial⟩
   exact .loopX st (show (.ret : VX.Exit) ≠ .normal from by simp)
  ·try simp only [if_neg h_1]
   have st := ch b145_0 [(2, .b true), (14, .row (b_R x0)), (18, .ret [] [(.one (.val (.bool (x0.f0 == a2001))))] [] []), (19, .b false)] (h1014500_0 l0_0 l2000 a0 a2001 (length p : Int)) ⟨[(0, (.one (.bor l0_0 (map b_R a0)))), (1, (.clo 146 [] [(.bptr l2000 [(.i a2001)])])), (7, (.oi ((length (map b_R a0)) : Int))), (8, (.oi (w64 ((length p : Int) + 1))))], []⟩ .normal 24 [(decide ((length p : Int) < ((length (map b_R a0)) : Int))) = true, 0 ≤ (length p : Int), (map b_R a0)[(Int.toNat (length p : Int))]? = some (b_R x0), Ev F X (.call 146 [(.agg [(.i x0.f0), (.i x0.f1), (.i x0.f2), (.bor (l0_0 + 1) (map b_si x0.f3)), (.i x0.f4)]), (.bptr (l2000 + 1) [(.i a2001)])] [] [] [(.one (.val (.bool (x0.f0 == a2001))))]), (x0.f0 == a2001) = false, True] (by kernel_rfl) ⟨hc, (by omega), (by rw [getElem?_map, Hx0]; rfl), (e1014600 (a0 := x0) (a101001 := a2001)), (nt h_1), trivial, trivial⟩
   have ih := t1014500_0 (l0_0 := l0_0) (l2000 := l2000) (a0 := a0) (a2001 := a2001) hy0 hy1 y0 (p ++ [x0])  (by rw [append_assoc]; exact hp0)
   rw [show ((p ++ [x0]).length : Int) = (p.length : Int) + 1 from by simp] at ih
   replace st := to_ (s' := h1014500_0 l0_0 l2000 a0 a2001 ((length p : Int) + 1) ) st (by unfold h1014500_0; simp only [hw]; done)
   exact .loopN st ih
def m1014500 (a0 : (List K_R)) (a2001 : Int) : Int :=
 (match r1014500_0 a0 a2001 a0 0 with | .k0 w0_0 w1_0 => (-1) | .k1 w0_0 => w0_0)
theorem e1014500 {l0_0 : Nat} {a0 : (List K_R)} {l2000 : Nat} {a2001 : Int} (hy0 : length a0 * 56 ≤ 140737488351232) (hy1 : ∀ z ∈ a0, ok_R z) : Ev F X (.call 145 [(.one (.bor l0_0 (map b_R a0))), (.clo 146 [] [(.bptr l2000 [(.val (.int .i64 a2001))])])] [] [] [(.one (.val (.int .i64 (m1014500 a0 a2001))))]) := by
 unfold m1014500
 cases h0 : r1014500_0 a0 a2001 a0 0 with
 | k0 w0_0 w1_0 =>
  try dsimp only
  have f0 : (⟨[(0, (.one (.bor l0_0 (map b_R a0)))), (1, (.clo 146 [] [(.bptr l2000 [(.i a2001)])])), (7, (.oi ((length (map b_R a0)) : Int))), (8, (.oi 0))], []⟩ : St) = h1014500_0 l0_0 l2000 a0 a2001 0  := (by rfl)
  have f1 : Ev F X (.code l145_0 (h1014500_0 l0_0 l2000 a0 a2001 0 ) (.exit 0) ⟨[(0, (.one (.bor l0_0 (map b_R a0)))), (1, (.clo 146 [] [(.bptr l2000 [(.i a2001)])])), (7, (.oi ((length (map b_R a0)) : Int))), (8, (.oi w0_0)), (9, (.one (.val (.bool w1_0))))], []⟩) := (by have t : Ev F X (.code l145_0 (h1014500_0 l0_0 l2000 a0 a2001 0 ) (ex1014500_0 (r1014500_0 a0 a2001 a0 0)) (fin1014500_0 l0_0 l2000 a0 a2001 (r1014500_0 a0 a2001 a0 0))) := t1014500_0 (l0_0 := l0_0) (l2000 := l2000) (a0 := a0) (a2001 := a2001) (by assumption) (by assumption) a0 []  rfl; rw [h0] at t; exact t)
  exact cp (by kernel_rfl) (.f f0 (.f f1 (.h 8 (.loop (h1014500_0 l0_0 l2000 a0 a2001 0 ) (.exit 0) ⟨[(0, (.one (.bor l0_0 (map b_R a0)))), (1, (.clo 146 [] [(.bptr l2000 [(.i a2001)])])), (7, (.oi ((length (map b_R a0)) : Int))), (8, (.oi w0_0)), (9, (.one (.val (.bool w1_0))))], []⟩) .nil)))
 | k1 w0_0 =>
  try dsimp only
  have f0 : (⟨[(0, (.one (.bor l0_0 (map b_R a0)))), (1, (.clo 146 [] [(.bptr l2000 [(.i a2001)])])), (7, (.oi ((length (map b_R a0)) : Int))), (8, (.oi 0))], []⟩ : St) = h1014500_0 l0_0 l2000 a0 a2001 0  := (by rfl)
  have f1 : Ev F X (.code l145_0 (h1014500_0 l0_0 l2000 a0 a2001 0 ) .ret ⟨[(4, (.oi w0_0))], []⟩) := (by have t : Ev F X (.code l145_0 (h1014500_0 l0_0 l2000 a0 a2001 0 ) (ex1014500_0 (r1014500_0 a0 a2001 a0 0)) (fin1014500_0 l0_0 l2000 a0 a2001 (r1014500_0 a0 a2001 a0 0))) := t1014500_0 (l0_0 := l0_0) (l2000 := l2000) (a0 := a0) (a2001 := a2001) (by assumption) (by assumption) a0 []  rfl; rw [h0] at t; exact t)
  exact cp (by kernel_rfl) (.f f0 (.f f1 (.h 8 (.loop (h1014500_0 l0_0 l2000 a0 a2001 0 ) .ret ⟨[(4, (.oi w0_0))], []⟩) .nil)))
theorem ixr1014500_0 (a0 : (List K_R)) (a2001 : Int) : ∀ (l : List K_R) (i : Int), (∃ (w0 : _) (w1 : _), r1014500_0 a0 a2001 l i = .k0 w0 w1) ∨ (∃ w, r1014500_0 a0 a2001 l i = .k1 w ∧ i ≤ w ∧ w < i + l.length)
  | [], i => .inl ⟨i, (decide (i < ((length (map b_R a0)) : Int))), rfl⟩
  | x :: l, i => by
    have ih := ixr1014500_0 a0 a2001 l (i + 1)
    simp only [r1014500_0]
    (repeat' split)
    all_goals first
      | exact .inr ⟨i, rfl, by omega, by simp only [length_cons]; omega⟩
      | (rcases ih with ⟨w0, w1, h⟩ | ⟨w, h, h1, h2⟩
         · exact .inl ⟨w0, w1, h⟩
         · exact .inr ⟨w, h, by omega, by simp only [length_cons]; omega⟩)
theorem ix1014500 (a0 : (List K_R)) (a2001 : Int) : -1 ≤ m1014500 a0 a2001 ∧ m1014500 a0 a2001 < (length a0 : Int) := by
 unfold m1014500
 rcases ixr1014500_0 a0 a2001 a0 0 with ⟨w0, w1, h⟩ | ⟨w, h, h1, h2⟩ <;> simp only [h] <;> omega
def m90 (a0 : (List K_R)) (a1 : Int) : Int :=
 (m1014500 a0 a1)
theorem e90 {l0_0 : Nat} {a0 : (List K_R)} {a1 : Int} (hy0 : length a0 * 56 ≤ 140737488351232) (hy1 : ∀ z ∈ a0, ok_R z) : Ev F X (.call 90 [(.one (.bor l0_0 (map b_R a0))), (.one (.val (.int .i64 a1)))] [] [] [(.one (.val (.int .i64 (m1014500 a0 a1))))]) := by
 have f0 : fullL [(.val (.int .i64 a1))] = true := (by trivial)
 have f1 : Ev F X (.call 145 [(.one (.bor (l0_0 + 1) (map b_R a0))), (.clo 146 [] [(.bptr 0 [(.i a1)])])] [] [] [(.oi (m1014500 a0 a1))]) := (e1014500 (a0 := a0) (a2001 := a1) (by with_reducible assumption) (by with_reducible assumption))
 exact cp (by kernel_rfl) (.f f0 (.r 9 [] [] f1 .nil))
def m100 (a0 : Int) : Bool :=
 (m93 a0 0 2147483646)
theorem e100 {a0 : Int} : Ev F X (.call 100 [(.one (.val (.int .i64 a0)))] [] [] [(.one (.val (.bool (m93 a0 0 2147483646))))]) := by
 have f0 := e93 (a0 := a0) (a1 := 0) (a2 := 2147483646)
 exact cp (by kernel_rfl) (.r 5 [] [] f0 .nil)
def m73 (a0 : K_R) (a1 : (List K_R)) : Int :=
 if (!(m93 a0.f0 0 2147483646)) = true then 3 else
 if (!(m93 a0.f1 0 1000000)) = true then 3 else
  if (!(m93 a0.f2 0 1000000)) = true then 3 else
   if (!(m93 a0.f4 1 3)) = true then 3 else
    if (!(m74 a0.f3 12)) = true then 1 else
     if ((w64 ((m75 a0.f3) + a0.f2)) != a0.f1) = true then 1 else
      if (decide ((m1014500 a1 a0.f0) ≥ 0)) = true then 6 else
       0
theorem e73 {l0_3 : Nat} {a0 : K_R} {l1_0 : Nat} {a1 : (List K_R)} (hy0 : length a0.f3 * 24 ≤ 140737488351232) (hy1 : length a1 * 56 ≤ 140737488351232) (hy2 : ∀ z ∈ a1, ok_R z) : Ev F X (.call 73 [(.agg [(.val (.int .i64 a0.f0)), (.val (.int .i64 a0.f1)), (.val (.int .i64 a0.f2)), (.bor l0_3 (map b_si a0.f3)), (.val (.int .i64 a0.f4))]), (.one (.bor l1_0 (map b_R a1)))] [] [] [(.one (.val (.int .i64 (m73 a0 a1))))]) := by
 unfold m73
 have f0 := e100 (a0 := a0.f0)
 by_cases h0 : (!(m93 a0.f0 0 2147483646)) = true
 ·try simp only [if_pos h0]
  exact cp (by kernel_rfl) (.r 9 [] [] f0 (.m 5 h0 (.y 14 (.y 16 (.y 18 (.y 20 (.y 23 .nil)))))))
 ·try simp only [if_neg h0]
  have f4 := e72 (a0 := a0.f1)
  by_cases h1 : (!(m93 a0.f1 0 1000000)) = true
  ·try simp only [if_pos h1]
   exact cp (by kernel_rfl) (.r 9 [] [] f0 (.n 3 h0 (.z 14 (.z 16 (.z 18 (.r 19 [] [] f4 (.n 2 h0 (.m 5 h1 (.z 20 (.z 23 (.y 26 (.y 28 (.y 30 (.y 32 (.y 35 .nil)))))))))))))))
  ·try simp only [if_neg h1]
   have f10 := e72 (a0 := a0.f2)
   by_cases h2 : (!(m93 a0.f2 0 1000000)) = true
   ·try simp only [if_pos h2]
    exact cp (by kernel_rfl) (.r 9 [] [] f0 (.n 3 h0 (.z 14 (.z 16 (.z 18 (.r 19 [] [] f4 (.n 2 h0 (.n 3 h1 (.z 20 (.z 23 (.z 26 (.z 28 (.z 30 (.r 31 [] [] f10 (.n 2 h1 (.m 5 h2 (.z 32 (.z 35 (.y 38 (.y 40 (.y 42 (.y 44 (.y 47 .nil)))))))))))))))))))))))
   ·try simp only [if_neg h2]
    have f16 := e93 (a0 := a0.f4) (a1 := 1) (a2 := 3)
    by_cases h3 : (!(m93 a0.f4 1 3)) = true
    ·try simp only [if_pos h3]
     exact cp (by kernel_rfl) (.r 9 [] [] f0 (.n 3 h0 (.z 14 (.z 16 (.z 18 (.r 19 [] [] f4 (.n 2 h0 (.n 3 h1 (.z 20 (.z 23 (.z 26 (.z 28 (.z 30 (.r 31 [] [] f10 (.n 2 h1 (.n 3 h2 (.z 32 (.z 35 (.z 38 (.z 40 (.z 42 (.r 43 [] [] f16 (.n 2 h2 (.f h3 (.z 44 (.z 47 (.y 50 .nil)))))))))))))))))))))))))))
    ·try simp only [if_neg h3]
     have f20 := e74 (l0_0 := l0_3 + 1) (a0 := a0.f3) (a1 := 12) (by with_reducible assumption)
     by_cases h4 : (!(m74 a0.f3 12)) = true
     ·try simp only [if_pos h4]
      exact cp (by kernel_rfl) (.r 9 [] [] f0 (.n 3 h0 (.z 14 (.z 16 (.z 18 (.r 19 [] [] f4 (.n 2 h0 (.n 3 h1 (.z 20 (.z 23 (.z 26 (.z 28 (.z 30 (.r 31 [] [] f10 (.n 2 h1 (.n 3 h2 (.z 32 (.z 35 (.z 38 (.z 40 (.z 42 (.r 43 [] [] f16 (.n 2 h2 (.g h3 (.z 44 (.z 47 (.z 50 (.r 56 [] [] f20 (.m 10 h4 (.y 61 (.y 63 (.y 65 (.y 67 (.y 69 (.y 71 (.y 73 (.y 75 (.y 77 (.y 80 .nil)))))))))))))))))))))))))))))))))))))))
     ·try simp only [if_neg h4]
      have f24 := e75 (l0_0 := l0_3 + 1) (a0 := a0.f3) (by with_reducible assumption)
      by_cases h5 : ((w64 ((m75 a0.f3) + a0.f2)) != a0.f1) = true
      ·try simp only [if_pos h5]
       exact cp (by kernel_rfl) (.r 9 [] [] f0 (.n 3 h0 (.z 14 (.z 16 (.z 18 (.r 19 [] [] f4 (.n 2 h0 (.n 3 h1 (.z 20 (.z 23 (.z 26 (.z 28 (.z 30 (.r 31 [] [] f10 (.n 2 h1 (.n 3 h2 (.z 32 (.z 35 (.z 38 (.z 40 (.z 42 (.r 43 [] [] f16 (.n 2 h2 (.g h3 (.z 44 (.z 47 (.z 50 (.r 56 [] [] f20 (.n 3 h4 (.z 61 (.z 63 (.z 65 (.r 66 [] [] f24 (.n 3 h4 (.f trivial (.n 4 h4 (.f h5 (.z 67 (.z 69 (.z 71 (.z 73 (.z 75 (.z 77 (.z 80 (.y 83 .nil)))))))))))))))))))))))))))))))))))))))))))))
      ·try simp only [if_neg h5]
       have f34 := e90 (l0_0 := l1_0 + 1) (a0 := a1) (a1 := a0.f0) (by with_reducible assumption) (by with_reducible assumption)
       by_cases h6 : (decide ((m1014500 a1 a0.f0) ≥ 0)) = true
       ·try simp only [if_pos h6]
        exact cp (by kernel_rfl) (.r 9 [] [] f0 (.n 3 h0 (.z 14 (.z 16 (.z 18 (.r 19 [] [] f4 (.n 2 h0 (.n 3 h1 (.z 20 (.z 23 (.z 26 (.z 28 (.z 30 (.r 31 [] [] f10 (.n 2 h1 (.n 3 h2 (.z 32 (.z 35 (.z 38 (.z 40 (.z 42 (.r 43 [] [] f16 (.n 2 h2 (.g h3 (.z 44 (.z 47 (.z 50 (.r 56 [] [] f20 (.n 3 h4 (.z 61 (.z 63 (.z 65 (.r 66 [] [] f24 (.n 3 h4 (.f trivial (.n 4 h4 (.g h5 (.z 67 (.z 69 (.z 71 (.z 73 (.z 75 (.z 77 (.z 80 (.z 83 (.r 91 [] [] f34 (.f h6 (.y 96 .nil))))))))))))))))))))))))))))))))))))))))))))))))
       ·try simp only [if_neg h6]
        exact cp (by kernel_rfl) (.r 9 [] [] f0 (.n 3 h0 (.z 14 (.z 16 (.z 18 (.r 19 [] [] f4 (.n 2 h0 (.n 3 h1 (.z 20 (.z 23 (.z 26 (.z 28 (.z 30 (.r 31 [] [] f10 (.n 2 h1 (.n 3 h2 (.z 32 (.z 35 (.z 38 (.z 40 (.z 42 (.r 43 [] [] f16 (.n 2 h2 (.g h3 (.z 44 (.z 47 (.z 50 (.r 56 [] [] f20 (.n 3 h4 (.z 61 (.z 63 (.z 65 (.r 66 [] [] f24 (.n 3 h4 (.f trivial (.n 4 h4 (.g h5 (.z 67 (.z 69 (.z 71 (.z 73 (.z 75 (.z 77 (.z 80 (.z 83 (.r 91 [] [] f34 (.g h6 (.z 96 .nil))))))))))))))))))))))))))))))))))))))))))))))))
inductive O76_0 where
 | k0 (w0 : Int) (w1 : Int) (w2 : Bool)
def r76_0 (a0 : (List K_R)) (a1 : Int) : List K_R → Int → Int → O76_0
 | x0 :: y0, i, v1 =>
  if (a1 == 0) = true then (r76_0 a0 a1 y0 (i + 1) (w64 (v1 + x0.f1))) else
  if (x0.f4 == a1) = true then (r76_0 a0 a1 y0 (i + 1) (w64 (v1 + x0.f1))) else
   (r76_0 a0 a1 y0 (i + 1) v1)
 | [], i, v1 => (O76_0.k0 v1 i (decide (i < ((length (map b_R a0)) : Int))))
def h76_0 (l0_0 : Nat) (a0 : (List K_R)) (a1 : Int) (i : Int) (v1 : Int) : St := ⟨[(1, (.one (.val (.int .i64 a1)))), (5, (.one (.val (.int .i64 v1)))), (8, (.one (.bor l0_0 (map b_R a0)))), (9, (.one (.val (.int .i64 ((length (map b_R a0)) : Int))))), (10, (.one (.val (.int .i64 i))))], []⟩
def ex76_0 : O76_0 → VX.Exit
 | .k0 _ _ _ => (.exit 0)
def fin76_0 (l0_0 : Nat) (a0 : (List K_R)) (a1 : Int) : O76_0 → St
 | .k0 w0 w1 w2 => ⟨[(1, (.one (.val (.int .i64 a1)))), (5, (.one (.val (.int .i64 w0)))), (8, (.one (.bor l0_0 (map b_R a0)))), (9, (.one (.val (.int .i64 ((length (map b_R a0)) : Int))))), (10, (.one (.val (.int .i64 w1)))), (11, (.one (.val (.bool w2))))], []⟩
theorem t76_0 {l0_0 : Nat} {a0 : (List K_R)} {a1 : Int} (hy0 : length a0 * 56 ≤ 140737488351232) (hy1 : ∀ z ∈ a0, ok_R z) : ∀ (y0 : List K_R) (p : List K_R) (v1 : Int), p ++ y0 = a0 → Ev F X (.code l76_0 (h76_0 l0_0 a0 a1 (length p : Int) v1) (ex76_0 (r76_0 a0 a1 y0 (length p : Int) v1)) (fin76_0 l0_0 a0 a1 (r76_0 a0 a1 y0 (length p : Int) v1)))
 | [], p, v1, hp0 => by
  have hc : ¬ (decide ((length p : Int) < ((length (map b_R a0)) : Int))) = true := by
   rw [← hp0]; simp only [length_map, length_set, length_append, length_replicate, length_cons, length_nil, decide_eq_true_eq]; omega
  have st := ch b76_0 [(2, .b false)] (h76_0 l0_0 a0 a1 (length p : Int) v1) (fin76_0 l0_0 a0 a1 (.k0 v1 (length p : Int) (decide ((length p : Int) < ((length (map b_R a0)) : Int))))) (.exit 0) 3 [(decide ((length p : Int) < ((length (map b_R a0)) : Int))) = false] (by kernel_rfl) ⟨(nt hc), trivial⟩
  exact .loopX st (show ((.exit 0) : VX.Exit) ≠ .normal from by simp)
 | x0 :: y0, p, v1, hp0 => by
  have hc : (decide ((length p : Int) < ((length (map b_R a0)) : Int))) = true := lt1 hp0
  have Hx0 : (a0)[Int.toNat (length p : Int)]? = some x0 := by
   rw [← hp0, Int.toNat_natCast]; simp
  have Mx0_0 := hy1 x0 (List.mem_of_getElem? Hx0)
  have hlen : length (a0) = length p + length y0 + 1 := by rw [← hp0]; simp; omega
  have hw : w64 ((length p : Int) + 1) = (length p : Int) + 1 := wrap64 (by omega)
  simp only [r76_0]
  by_cases h_1 : (a1 == 0) = true
  ·try simp only [if_pos h_1]
   have st := ch b76_0 [(2, .b true), (4, .row (b_R x0)), (17, .b true), (19, .b true), (21, .b true), (23, .b true), (26, .b true)] (h76_0 l0_0 a0 a1 (length p : Int) v1) ⟨[(1, (.oi a1)), (5, (.oi (w64 (v1 + x0.f1)))), (8, (.one (.bor l0_0 (map b_R a0)))), (9, (.oi ((length (map b_R a0)) : Int))), (10, (.oi (w64 ((length p : Int) + 1))))], []⟩ .normal 42 [(decide ((length p : Int) < ((length (map b_R a0)) : Int))) = true, 0 ≤ (length p : Int), (map b_R a0)[(Int.toNat (length p : Int))]? = some (b_R x0), (a1 == 0) = true, (a1 == 0) = true, (a1 == 0) = true, (a1 == 0) = true, (a1 == 0) = true, True, True] (by kernel_rfl) ⟨hc, (by omega), (by rw [getElem?_map, Hx0]; rfl), h_1, h_1, h_1, h_1, h_1, trivial, trivial, trivial⟩
   have ih := t76_0 (l0_0 := l0_0) (a0 := a0) (a1 := a1) hy0 hy1 y0 (p ++ [x0]) (w64 (v1 + x0.f1)) (by rw [append_assoc]; exact hp0)
   rw [show ((p ++ [x0]).length : Int) = (p.length : Int) + 1 from by simp] at ih
   replace st := to_ (s' := h76_0 l0_0 a0 a1 ((length p : Int) + 1) (w64 (v1 + x0.f1))) st (by unfold h76_0; simp only [hw]; done)
   exact .loopN st ih
  ·try simp only [if_neg h_1]
   by_cases h_2 : (x0.f4 == a1) = true
   ·try simp only [if_pos h_2]
    have st := ch b76_0 [(2, .b true), (4, .row (b_R x0)), (17, .b false), (19, .b false), (21, .b false), (23, .b false), (26, .b false), (27, .b true)] (h76_0 l0_0 a0 a1 (length p : Int) v1) ⟨[(1, (.oi a1)), (5, (.oi (w64 (v1 + x0.f1)))), (8, (.one (.bor l0_0 (map b_R a0)))), (9, (.oi ((length (map b_R a0)) : Int))), (10, (.oi (w64 ((length p : Int) + 1))))], []⟩ .normal 42 [(decide ((length p : Int) < ((length (map b_R a0)) : Int))) = true, 0 ≤ (length p : Int), (map b_R a0)[(Int.toNat (length p : Int))]? = some (b_R x0), (a1 == 0) = false, (a1 == 0) = false, (a1 == 0) = false, (a1 == 0) = false, (a1 == 0) = false, (x0.f4 == a1) = true, True, True] (by kernel_rfl) ⟨hc, (by omega), (by rw [getElem?_map, Hx0]; rfl), (nt h_1), (nt h_1), (nt h_1), (nt h_1), (nt h_1), h_2, trivial, trivial, trivial⟩
    have ih := t76_0 (l0_0 := l0_0) (a0 := a0) (a1 := a1) hy0 hy1 y0 (p ++ [x0]) (w64 (v1 + x0.f1)) (by rw [append_assoc]; exact hp0)
    rw [show ((p ++ [x0]).length : Int) = (p.length : Int) + 1 from by simp] at ih
    replace st := to_ (s' := h76_0 l0_0 a0 a1 ((length p : Int) + 1) (w64 (v1 + x0.f1))) st (by unfold h76_0; simp only [hw]; done)
    exact .loopN st ih
   ·try simp only [if_neg h_2]
    have st := ch b76_0 [(2, .b true), (4, .row (b_R x0)), (17, .b false), (19, .b false), (21, .b false), (23, .b false), (26, .b false), (27, .b false)] (h76_0 l0_0 a0 a1 (length p : Int) v1) ⟨[(1, (.oi a1)), (5, (.oi v1)), (8, (.one (.bor l0_0 (map b_R a0)))), (9, (.oi ((length (map b_R a0)) : Int))), (10, (.oi (w64 ((length p : Int) + 1))))], []⟩ .normal 32 [(decide ((length p : Int) < ((length (map b_R a0)) : Int))) = true, 0 ≤ (length p : Int), (map b_R a0)[(Int.toNat (length p : Int))]? = some (b_R x0), (a1 == 0) = false, (a1 == 0) = false, (a1 == 0) = false, (a1 == 0) = false, (a1 == 0) = false, (x0.f4 == a1) = false, True] (by kernel_rfl) ⟨hc, (by omega), (by rw [getElem?_map, Hx0]; rfl), (nt h_1), (nt h_1), (nt h_1), (nt h_1), (nt h_1), (nt h_2), trivial, trivial⟩
    have ih := t76_0 (l0_0 := l0_0) (a0 := a0) (a1 := a1) hy0 hy1 y0 (p ++ [x0]) v1 (by rw [append_assoc]; exact hp0)
    rw [show ((p ++ [x0]).length : Int) = (p.length : Int) + 1 from by simp] at ih
    replace st := to_ (s' := h76_0 l0_0 a0 a1 ((length p : Int) + 1) v1) st (by unfold h76_0; simp only [hw]; done)
    exact .loopN st ih
def m76 (a0 : (List K_R)) (a1 : Int) : Int :=
 (match r76_0 a0 a1 a0 0 0 with | .k0 w0_0 w1_0 w2_0 => w0_0)
theorem e76 {l0_0 : Nat} {a0 : (List K_R)} {a1 : Int} (hy0 : length a0 * 56 ≤ 140737488351232) (hy1 : ∀ z ∈ a0, ok_R z) : Ev F X (.call 76 [(.one (.bor l0_0 (map b_R a0))), (.one (.val (.int .i64 a1)))] [] [] [(.one (.val (.int .i64 (m76 a0 a1))))]) := by
 unfold m76
 cases h0 : r76_0 a0 a1 a0 0 0 with
 | k0 w0_0 w1_0 w2_0 =>
  try dsimp only
  have f0 : (⟨[(1, (.oi a1)), (5, (.oi 0)), (8, (.one (.bor l0_0 (map b_R a0)))), (9, (.oi ((length (map b_R a0)) : Int))), (10, (.oi 0))], []⟩ : St) = h76_0 l0_0 a0 a1 0 0 := (by rfl)
  have f1 : Ev F X (.code l76_0 (h76_0 l0_0 a0 a1 0 0) (.exit 0) ⟨[(1, (.oi a1)), (5, (.oi w0_0)), (8, (.one (.bor l0_0 (map b_R a0)))), (9, (.oi ((length (map b_R a0)) : Int))), (10, (.oi w1_0)), (11, (.one (.val (.bool w2_0))))], []⟩) := (by have t : Ev F X (.code l76_0 (h76_0 l0_0 a0 a1 0 0) (ex76_0 (r76_0 a0 a1 a0 0 0)) (fin76_0 l0_0 a0 a1 (r76_0 a0 a1 a0 0 0))) := t76_0 (l0_0 := l0_0) (a0 := a0) (a1 := a1) (by assumption) (by assumption) a0 [] 0 rfl; rw [h0] at t; exact t)
  exact cp (by kernel_rfl) (.f f0 (.f f1 (.h 10 (.loop (h76_0 l0_0 a0 a1 0 0) (.exit 0) ⟨[(1, (.oi a1)), (5, (.oi w0_0)), (8, (.one (.bor l0_0 (map b_R a0)))), (9, (.oi ((length (map b_R a0)) : Int))), (10, (.oi w1_0)), (11, (.one (.val (.bool w2_0))))], []⟩) .nil)))
inductive O17_0 where
 | k0 (w0 : Int) (w1 : Bool)
 | k1 (w0 : Int)
def r17_0 (a0 : K_B) : List K_R → Int → O17_0
 | x0 :: y0, i =>
  if ((m73 x0 (take (Int.toNat i) a0.f3)) != 0) = true then (O17_0.k1 (m73 x0 (take (Int.toNat i) a0.f3))) else
  (r17_0 a0 y0 (i + 1) )
 | [], i => (O17_0.k0 i (decide (i < ((length (map b_R a0.f3)) : Int))))
def h17_0 (l0_2 : Nat) (l0_3 : Nat) (l0_4 : Nat) (a0 : K_B) (i : Int)  : St := ⟨[(1, (.ptr ⟨(1, 0, 0), [], 0, 0, 8⟩)), (56, (.one (.bor l0_3 (map b_R a0.f3)))), (57, (.one (.val (.int .i64 ((length (map b_R a0.f3)) : Int))))), (58, (.one (.val (.int .i64 i))))], [((1, 0, 0), .live ⟨8, [[(.val (.int .i64 a0.f0)), (.val (.int .i64 a0.f1)), (.bor l0_2 (map b_si a0.f2)), (.bor l0_3 (map b_R a0.f3)), (.bor l0_4 (map b_si a0.f4)), (.val (.int .i64 a0.f5)), (.val (.int .i64 a0.f6)), (.val (.int .i64 a0.f7))]], []⟩)]⟩
def ex17_0 : O17_0 → VX.Exit
 | .k0 _ _ => (.exit 0)
 | .k1 _ => .ret
def fin17_0 (l0_2 : Nat) (l0_3 : Nat) (l0_4 : Nat) (a0 : K_B) : O17_0 → St
 | .k0 w0 w1 => ⟨[(1, (.ptr ⟨(1, 0, 0), [], 0, 0, 8⟩)), (56, (.one (.bor l0_3 (map b_R a0.f3)))), (57, (.one (.val (.int .i64 ((length (map b_R a0.f3)) : Int))))), (58, (.one (.val (.int .i64 w0)))), (59, (.one (.val (.bool w1))))], [((1, 0, 0), .live ⟨8, [[(.val (.int .i64 a0.f0)), (.val (.int .i64 a0.f1)), (.bor l0_2 (map b_si a0.f2)), (.bor l0_3 (map b_R a0.f3)), (.bor l0_4 (map b_si a0.f4)), (.val (.int .i64 a0.f5)), (.val (.int .i64 a0.f6)), (.val (.int .i64 a0.f7))]], []⟩)]⟩
 | .k1 w0 => ⟨[(2, (.one (.val (.int .i64 w0))))], []⟩
theorem t17_0 {l0_2 : Nat} {l0_3 : Nat} {l0_4 : Nat} {a0 : K_B} (hy0 : length a0.f2 * 24 ≤ 140737488351232) (hy1 : length a0.f3 * 56 ≤ 140737488351232) (hy2 : ∀ z ∈ a0.f3, ok_R z) (hy3 : length a0.f4 * 24 ≤ 140737488351232) : ∀ (y0 : List K_R) (p : List K_R) , p ++ y0 = a0.f3 → Ev F X (.code l17_0 (h17_0 l0_2 l0_3 l0_4 a0 (length p : Int) ) (ex17_0 (r17_0 a0 y0 (length p : Int) )) (fin17_0 l0_2 l0_3 l0_4 a0 (r17_0 a0 y0 (length p : Int) )))
 | [], p, hp0 => by
  have hc : ¬ (decide ((length p : Int) < ((length (map b_R a0.f3)) : Int))) = true := by
   rw [← hp0]; simp only [length_map, length_set, length_append, length_replicate, length_cons, length_nil, decide_eq_true_eq]; omega
  have st := ch b17_0 [(2, .b false)] (h17_0 l0_2 l0_3 l0_4 a0 (length p : Int)) (fin17_0 l0_2 l0_3 l0_4 a0 (.k0 (length p : Int) (decide ((length p : Int) < ((length (map b_R a0.f3)) : Int))))) (.exit 0) 3 [(decide ((length p : Int) < ((length (map b_R a0.f3)) : Int))) = false] (by kernel_rfl) ⟨(nt hc), trivial⟩
  exact .loopX st (show ((.exit 0) : VX.Exit) ≠ .normal from by simp)
 | x0 :: y0, p, hp0 => by
  have hc : (decide ((length p : Int) < ((length (map b_R a0.f3)) : Int))) = true := lt1 hp0
  have Hx0 : (a0.f3)[Int.toNat (length p : Int)]? = some x0 := by
   rw [← hp0, Int.toNat_natCast]; simp
  have Mx0_0 := hy2 x0 (List.mem_of_getElem? Hx0)
  have hlen : length (a0.f3) = length p + length y0 + 1 := by rw [← hp0]; simp; omega
  have hw : w64 ((length p : Int) + 1) = (length p : Int) + 1 := wrap64 (by omega)
  simp only [r17_0]
  by_cases h_1 : ((m73 x0 (take (Int.toNat (length p : Int)) a0.f3)) != 0) = true
  ·try simp only [if_pos h_1]
   have st := ch b17_0 [(2, .b true), (6, .row (b_R x0)), (26, .ret [] [(.oi (m73 x0 (take (Int.toNat (length p : Int)) a0.f3)))] [] []), (33, .b true)] (h17_0 l0_2 l0_3 l0_4 a0 (length p : Int)) (fin17_0 l0_2 l0_3 l0_4 a0 (.k1 (m73 x0 (take (Int.toNat (length p : Int)) a0.f3)))) .ret 38 [(decide ((length p : Int) < ((length (map b_R a0.f3)) : Int))) = true, 0 ≤ (length p : Int), (map b_R a0.f3)[(Int.toNat (length p : Int))]? = some (b_R x0), (0 ≤ (0 : Int) ∧ (0 : Int) ≤ (length p : Int) ∧ (length p : Int) ≤ ((length (map b_R a0.f3)) : Int)) ∧ ∀ r ∈ ((map b_R a0.f3) : List (List B)), r.length = 5, Ev F X (.call 73 [(.agg [(.i x0.f0), (.i x0.f1), (.i x0.f2), (.bor (l0_3 + 1) (map b_si x0.f3)), (.i x0.f4)]), (.one (.bor (l0_3 + 1) (take (Int.toNat (length p : Int) - Int.toNat 0) (drop 0 (map b_R a0.f3)))))] [] [] [(.oi (m73 x0 (take (Int.toNat (length p : Int)) a0.f3)))]), ((m73 x0 (take (Int.toNat (length p : Int)) a0.f3)) != 0) = true] (by kernel_rfl) ⟨hc, (by omega), (by rw [getElem?_map, Hx0]; rfl), (by refine ⟨?_, lenB_R _⟩; simp only [length_map, length_set, length_append, length_replicate, length_cons, length_nil]; omega), (by rw [show (take (Int.toNat (length p : Int) - Int.toNat 0) (drop 0 (map b_R a0.f3))) = (map b_R (take (Int.toNat (length p : Int)) a0.f3)) from by first | rfl | (simp [map_take, map_drop, ol85, ol86, ol27_0, ol27_1, ol27_2, ol28_0, ol28_1, ol28_2]; done) | (simp [byteRows_eq, map_take, map_drop, ol85, ol86, ol27_0, ol27_1, ol27_2, ol28_0, ol28_1, ol28_2]; done) | (simp [*, map_take, map_drop, ol85, ol86, ol27_0, ol27_1, ol27_2, ol28_0, ol28_1, ol28_2]; done)]; exact (e73 (a0 := x0) (a1 := (take (Int.toNat (length p : Int)) a0.f3)) (by assumption) (by simp only [length_take]; omega) (by intro z hz; exact (by assumption : ∀ z ∈ _, ok_R z) z (List.mem_of_mem_take hz)))), h_1, trivial⟩
   exact .loopX st (show (.ret : VX.Exit) ≠ .normal from by simp)
  ·try simp only [if_neg h_1]
   have st := ch b17_0 [(2, .b true), (6, .row (b_R x0)), (26, .ret [] [(.oi (m73 x0 (take (Int.toNat (length p : Int)) a0.f3)))] [] []), (33, .b false)] (h17_0 l0_2 l0_3 l0_4 a0 (length p : Int)) ⟨[(1, (.ptr ⟨(1, 0, 0), [], 0, 0, 8⟩)), (56, (.one (.bor l0_3 (map b_R a0.f3)))), (57, (.oi ((length (map b_R a0.f3)) : Int))), (58, (.oi (w64 ((length p : Int) + 1))))], [((1, 0, 0), .live ⟨8, [[(.i a0.f0), (.i a0.f1), (.bor l0_2 (map b_si a0.f2)), (.bor l0_3 (map b_R a0.f3)), (.bor l0_4 (map b_si a0.f4)), (.i a0.f5), (.i a0.f6), (.i a0.f7)]], []⟩)]⟩ .normal 38 [(decide ((length p : Int) < ((length (map b_R a0.f3)) : Int))) = true, 0 ≤ (length p : Int), (map b_R a0.f3)[(Int.toNat (length p : Int))]? = some (b_R x0), (0 ≤ (0 : Int) ∧ (0 : Int) ≤ (length p : Int) ∧ (length p : Int) ≤ ((length (map b_R a0.f3)) : Int)) ∧ ∀ r ∈ ((map b_R a0.f3) : List (List B)), r.length = 5, Ev F X (.call 73 [(.agg [(.i x0.f0), (.i x0.f1), (.i x0.f2), (.bor (l0_3 + 1) (map b_si x0.f3)), (.i x0.f4)]), (.one (.bor (l0_3 + 1) (take (Int.toNat (length p : Int) - Int.toNat 0) (drop 0 (map b_R a0.f3)))))] [] [] [(.oi (m73 x0 (take (Int.toNat (length p : Int)) a0.f3)))]), ((m73 x0 (take (Int.toNat (length p : Int)) a0.f3)) != 0) = false, True] (by kernel_rfl) ⟨hc, (by omega), (by rw [getElem?_map, Hx0]; rfl), (by refine ⟨?_, lenB_R _⟩; simp only [length_map, length_set, length_append, length_replicate, length_cons, length_nil]; omega), (by rw [show (take (Int.toNat (length p : Int) - Int.toNat 0) (drop 0 (map b_R a0.f3))) = (map b_R (take (Int.toNat (length p : Int)) a0.f3)) from by first | rfl | (simp [map_take, map_drop, ol85, ol86, ol27_0, ol27_1, ol27_2, ol28_0, ol28_1, ol28_2]; done) | (simp [byteRows_eq, map_take, map_drop, ol85, ol86, ol27_0, ol27_1, ol27_2, ol28_0, ol28_1, ol28_2]; done) | (simp [*, map_take, map_drop, ol85, ol86, ol27_0, ol27_1, ol27_2, ol28_0, ol28_1, ol28_2]; done)]; exact (e73 (a0 := x0) (a1 := (take (Int.toNat (length p : Int)) a0.f3)) (by assumption) (by simp only [length_take]; omega) (by intro z hz; exact (by assumption : ∀ z ∈ _, ok_R z) z (List.mem_of_mem_take hz)))), (nt h_1), trivial, trivial⟩
   have ih := t17_0 (l0_2 := l0_2) (l0_3 := l0_3) (l0_4 := l0_4) (a0 := a0) hy0 hy1 hy2 hy3 y0 (p ++ [x0])  (by rw [append_assoc]; exact hp0)
   rw [show ((p ++ [x0]).length : Int) = (p.length : Int) + 1 from by simp] at ih
   replace st := to_ (s' := h17_0 l0_2 l0_3 l0_4 a0 ((length p : Int) + 1) ) st (by unfold h17_0; simp only [hw]; done)
   exact .loopN st ih
def m17 (a0 : K_B) : Int :=
 if (!(m71 a0.f0 a0.f1)) = true then 3 else
 if (!(m93 a0.f5 0 1000000)) = true then 3 else
  if (!(m93 a0.f6 0 1000000)) = true then 3 else
   if (!(m93 a0.f7 0 1000000)) = true then 3 else
    if ((m46 a0.f2) != 0) = true then (m46 a0.f2) else
     if (decide (((length (map b_si a0.f2)) : Int) > a0.f0)) = true then 2 else
      if (decide (((length (map b_R a0.f3)) : Int) > 6)) = true then 2 else
       if (decide (((length (map b_si a0.f4)) : Int) > 8)) = true then 2 else
        (match r17_0 a0 a0.f3 0 with | .k0 w0_33 w1_33 => (if (!(m74 a0.f4 8)) = true then 1 else if ((w64 ((w64 ((m75 a0.f4) + a0.f6)) + a0.f5)) != (w64 ((m76 a0.f3 2) + a0.f7))) = true then 7 else if (!(m93 (m76 a0.f3 0) 0 1000000)) = true then 7 else 0) | .k1 w0_33 => w0_33)
theorem e17 {l0_2 : Nat} {l0_3 : Nat} {l0_4 : Nat} {a0 : K_B} (hy0 : length a0.f2 * 24 ≤ 140737488351232) (hy1 : length a0.f3 * 56 ≤ 140737488351232) (hy2 : ∀ z ∈ a0.f3, ok_R z) (hy3 : length a0.f4 * 24 ≤ 140737488351232) : Ev F X (.call 17 [(.agg [(.val (.int .i64 a0.f0)), (.val (.int .i64 a0.f1)), (.bor l0_2 (map b_si a0.f2)), (.bor l0_3 (map b_R a0.f3)), (.bor l0_4 (map b_si a0.f4)), (.val (.int .i64 a0.f5)), (.val (.int .i64 a0.f6)), (.val (.int .i64 a0.f7))])] [] [] [(.one (.val (.int .i64 (m17 a0))))]) := by
 unfold m17
 have f0 := e71 (a0 := a0.f0) (a1 := a0.f1)
 by_cases h0 : (!(m71 a0.f0 a0.f1)) = true
 ·try simp only [if_pos h0]
  exact cp (by kernel_rfl) (.r 13 [] [] f0 (.m 5 h0 (.y 18 (.y 20 (.y 22 (.y 24 (.y 27 .nil)))))))
 ·try simp only [if_neg h0]
  have f4 := e72 (a0 := a0.f5)
  by_cases h1 : (!(m93 a0.f5 0 1000000)) = true
  ·try simp only [if_pos h1]
   exact cp (by kernel_rfl) (.r 13 [] [] f0 (.n 3 h0 (.z 18 (.z 20 (.z 22 (.r 23 [] [] f4 (.n 2 h0 (.m 5 h1 (.z 24 (.z 27 (.y 30 (.y 32 (.y 34 (.y 36 (.y 39 .nil)))))))))))))))
  ·try simp only [if_neg h1]
   have f10 := e72 (a0 := a0.f6)
   by_cases h2 : (!(m93 a0.f6 0 1000000)) = true
   ·try simp only [if_pos h2]
    exact cp (by kernel_rfl) (.r 13 [] [] f0 (.n 3 h0 (.z 18 (.z 20 (.z 22 (.r 23 [] [] f4 (.n 2 h0 (.n 3 h1 (.z 24 (.z 27 (.z 30 (.z 32 (.z 34 (.r 35 [] [] f10 (.n 2 h1 (.m 5 h2 (.z 36 (.z 39 (.y 42 (.y 44 (.y 46 (.y 48 (.y 51 .nil)))))))))))))))))))))))
   ·try simp only [if_neg h2]
    have f16 := e72 (a0 := a0.f7)
    by_cases h3 : (!(m93 a0.f7 0 1000000)) = true
    ·try simp only [if_pos h3]
     exact cp (by kernel_rfl) (.r 13 [] [] f0 (.n 3 h0 (.z 18 (.z 20 (.z 22 (.r 23 [] [] f4 (.n 2 h0 (.n 3 h1 (.z 24 (.z 27 (.z 30 (.z 32 (.z 34 (.r 35 [] [] f10 (.n 2 h1 (.n 3 h2 (.z 36 (.z 39 (.z 42 (.z 44 (.z 46 (.r 47 [] [] f16 (.n 2 h2 (.f h3 (.z 48 (.z 51 (.y 52 .nil)))))))))))))))))))))))))))
    ·try simp only [if_neg h3]
     have f20 := e46 (l0_0 := l0_2 + 1) (a0 := a0.f2) (by with_reducible assumption)
     by_cases h4 : ((m46 a0.f2) != 0) = true
     ·try simp only [if_pos h4]
      exact cp (by kernel_rfl) (.r 13 [] [] f0 (.n 3 h0 (.z 18 (.z 20 (.z 22 (.r 23 [] [] f4 (.n 2 h0 (.n 3 h1 (.z 24 (.z 27 (.z 30 (.z 32 (.z 34 (.r 35 [] [] f10 (.n 2 h1 (.n 3 h2 (.z 36 (.z 39 (.z 42 (.z 44 (.z 46 (.r 47 [] [] f16 (.n 2 h2 (.g h3 (.z 48 (.z 51 (.z 52 (.r 58 [] [] f20 (.f h4 (.y 65 .nil))))))))))))))))))))))))))))))
     ·try simp only [if_neg h4]
      by_cases h5 : (decide (((length (map b_si a0.f2)) : Int) > a0.f0)) = true
      ·try simp only [if_pos h5]
       exact cp (by kernel_rfl) (.r 13 [] [] f0 (.n 3 h0 (.z 18 (.z 20 (.z 22 (.r 23 [] [] f4 (.n 2 h0 (.n 3 h1 (.z 24 (.z 27 (.z 30 (.z 32 (.z 34 (.r 35 [] [] f10 (.n 2 h1 (.n 3 h2 (.z 36 (.z 39 (.z 42 (.z 44 (.z 46 (.r 47 [] [] f16 (.n 2 h2 (.g h3 (.z 48 (.z 51 (.z 52 (.r 58 [] [] f20 (.g h4 (.m 5 h5 (.z 65 (.y 80 (.y 82 (.y 84 (.y 86 (.y 89 .nil))))))))))))))))))))))))))))))))))))
      ·try simp only [if_neg h5]
       by_cases h6 : (decide (((length (map b_R a0.f3)) : Int) > 6)) = true
       ·try simp only [if_pos h6]
        exact cp (by kernel_rfl) (.r 13 [] [] f0 (.n 3 h0 (.z 18 (.z 20 (.z 22 (.r 23 [] [] f4 (.n 2 h0 (.n 3 h1 (.z 24 (.z 27 (.z 30 (.z 32 (.z 34 (.r 35 [] [] f10 (.n 2 h1 (.n 3 h2 (.z 36 (.z 39 (.z 42 (.z 44 (.z 46 (.r 47 [] [] f16 (.n 2 h2 (.g h3 (.z 48 (.z 51 (.z 52 (.r 58 [] [] f20 (.g h4 (.n 5 h5 (.m 5 h6 (.z 65 (.z 80 (.z 82 (.z 84 (.z 86 (.z 89 (.y 92 (.y 94 (.y 96 (.y 98 (.y 101 .nil))))))))))))))))))))))))))))))))))))))))))
       ·try simp only [if_neg h6]
        by_cases h7 : (decide (((length (map b_si a0.f4)) : Int) > 8)) = true
        ·try simp only [if_pos h7]
         exact cp (by kernel_rfl) (.r 13 [] [] f0 (.n 3 h0 (.z 18 (.z 20 (.z 22 (.r 23 [] [] f4 (.n 2 h0 (.n 3 h1 (.z 24 (.z 27 (.z 30 (.z 32 (.z 34 (.r 35 [] [] f10 (.n 2 h1 (.n 3 h2 (.z 36 (.z 39 (.z 42 (.z 44 (.z 46 (.r 47 [] [] f16 (.n 2 h2 (.g h3 (.z 48 (.z 51 (.z 52 (.r 58 [] [] f20 (.g h4 (.n 5 h5 (.n 5 h6 (.f h7 (.z 65 (.z 80 (.z 82 (.z 84 (.z 86 (.z 89 (.z 92 (.z 94 (.z 96 (.z 98 (.z 101 (.y 102 .nil))))))))))))))))))))))))))))))))))))))))))))
        ·try simp only [if_neg h7]
         cases h8 : r17_0 a0 a0.f3 0 with
         | k0 w0_33 w1_33 =>
          try dsimp only
          have f33 : (⟨[(1, (.ptr ⟨(1, 0, 0), [], 0, 0, 8⟩)), (56, (.one (.bor l0_3 (map b_R a0.f3)))), (57, (.oi ((length (map b_R a0.f3)) : Int))), (58, (.oi 0))], [((1, 0, 0), .live ⟨8, [[(.i a0.f0), (.i a0.f1), (.bor l0_2 (map b_si a0.f2)), (.bor l0_3 (map b_R a0.f3)), (.bor l0_4 (map b_si a0.f4)), (.i a0.f5), (.i a0.f6), (.i a0.f7)]], []⟩)]⟩ : St) = h17_0 l0_2 l0_3 l0_4 a0 0  := (by rfl)
          have f34 : Ev F X (.code l17_0 (h17_0 l0_2 l0_3 l0_4 a0 0 ) (.exit 0) ⟨[(1, (.ptr ⟨(1, 0, 0), [], 0, 0, 8⟩)), (56, (.one (.bor l0_3 (map b_R a0.f3)))), (57, (.oi ((length (map b_R a0.f3)) : Int))), (58, (.oi w0_33)), (59, (.one (.val (.bool w1_33))))], [((1, 0, 0), .live ⟨8, [[(.i a0.f0), (.i a0.f1), (.bor l0_2 (map b_si a0.f2)), (.bor l0_3 (map b_R a0.f3)), (.bor l0_4 (map b_si a0.f4)), (.i a0.f5), (.i a0.f6), (.i a0.f7)]], []⟩)]⟩) := (by have t : Ev F X (.code l17_0 (h17_0 l0_2 l0_3 l0_4 a0 0 ) (ex17_0 (r17_0 a0 a0.f3 0)) (fin17_0 l0_2 l0_3 l0_4 a0 (r17_0 a0 a0.f3 0))) := t17_0 (l0_2 := l0_2) (l0_3 := l0_3) (l0_4 := l0_4) (a0 := a0) (by assumption) (by assumption) (by assumption) (by assumption) a0.f3 []  rfl; rw [h8] at t; exact t)
          have f35 := e74 (l0_0 := l0_4 + 1) (a0 := a0.f4) (a1 := 8) (by with_reducible assumption)
          by_cases h9 : (!(m74 a0.f4 8)) = true
          ·try simp only [if_pos h9]
           exact cp (by kernel_rfl) (.r 13 [] [] f0 (.n 3 h0 (.z 18 (.z 20 (.z 22 (.r 23 [] [] f4 (.n 2 h0 (.n 3 h1 (.z 24 (.z 27 (.z 30 (.z 32 (.z 34 (.r 35 [] [] f10 (.n 2 h1 (.n 3 h2 (.z 36 (.z 39 (.z 42 (.z 44 (.z 46 (.r 47 [] [] f16 (.n 2 h2 (.g h3 (.z 48 (.z 51 (.z 52 (.r 58 [] [] f20 (.g h4 (.n 5 h5 (.n 5 h6 (.g h7 (.f f33 (.f f34 (.z 65 (.z 80 (.z 82 (.z 84 (.z 86 (.z 89 (.z 92 (.z 94 (.z 96 (.z 98 (.z 101 (.z 102 (.h 111 (.loop (h17_0 l0_2 l0_3 l0_4 a0 0 ) (.exit 0) ⟨[(1, (.ptr ⟨(1, 0, 0), [], 0, 0, 8⟩)), (56, (.one (.bor l0_3 (map b_R a0.f3)))), (57, (.oi ((length (map b_R a0.f3)) : Int))), (58, (.oi w0_33)), (59, (.one (.val (.bool w1_33))))], [((1, 0, 0), .live ⟨8, [[(.i a0.f0), (.i a0.f1), (.bor l0_2 (map b_si a0.f2)), (.bor l0_3 (map b_R a0.f3)), (.bor l0_4 (map b_si a0.f4)), (.i a0.f5), (.i a0.f6), (.i a0.f7)]], []⟩)]⟩) (.r 117 [] [] f35 (.f h9 (.y 122 .nil))))))))))))))))))))))))))))))))))))))))))))))))))
          ·try simp only [if_neg h9]
           have f37 := e75 (l0_0 := l0_4 + 1) (a0 := a0.f4) (by with_reducible assumption)
           have f40 := e76 (l0_0 := l0_3 + 1) (a0 := a0.f3) (a1 := 2) (by with_reducible assumption) (by with_reducible assumption)
           by_cases h10 : ((w64 ((w64 ((m75 a0.f4) + a0.f6)) + a0.f5)) != (w64 ((m76 a0.f3 2) + a0.f7))) = true
           ·try simp only [if_pos h10]
            exact cp (by kernel_rfl) (.r 13 [] [] f0 (.n 3 h0 (.z 18 (.z 20 (.z 22 (.r 23 [] [] f4 (.n 2 h0 (.n 3 h1 (.z 24 (.z 27 (.z 30 (.z 32 (.z 34 (.r 35 [] [] f10 (.n 2 h1 (.n 3 h2 (.z 36 (.z 39 (.z 42 (.z 44 (.z 46 (.r 47 [] [] f16 (.n 2 h2 (.g h3 (.z 48 (.z 51 (.z 52 (.r 58 [] [] f20 (.g h4 (.n 5 h5 (.n 5 h6 (.g h7 (.f f33 (.f f34 (.z 65 (.z 80 (.z 82 (.z 84 (.z 86 (.z 89 (.z 92 (.z 94 (.z 96 (.z 98 (.z 101 (.z 102 (.h 111 (.loop (h17_0 l0_2 l0_3 l0_4 a0 0 ) (.exit 0) ⟨[(1, (.ptr ⟨(1, 0, 0), [], 0, 0, 8⟩)), (56, (.one (.bor l0_3 (map b_R a0.f3)))), (57, (.oi ((length (map b_R a0.f3)) : Int))), (58, (.oi w0_33)), (59, (.one (.val (.bool w1_33))))], [((1, 0, 0), .live ⟨8, [[(.i a0.f0), (.i a0.f1), (.bor l0_2 (map b_si a0.f2)), (.bor l0_3 (map b_R a0.f3)), (.bor l0_4 (map b_si a0.f4)), (.i a0.f5), (.i a0.f6), (.i a0.f7)]], []⟩)]⟩) (.r 117 [] [] f35 (.g h9 (.z 122 (.r 128 [] [] f37 (.m 2 trivial (.r 146 [] [] f40 (.f trivial (.m 6 h10 (.y 157 (.y 159 (.y 161 (.y 163 (.y 165 (.y 168 .nil)))))))))))))))))))))))))))))))))))))))))))))))))))))))))))))
           ·try simp only [if_neg h10]
            have f45 := e76 (l0_0 := l0_3 + 1) (a0 := a0.f3) (a1 := 0) (by with_reducible assumption) (by with_reducible assumption)
            have f47 := e72 (a0 := (m76 a0.f3 0))
            by_cases h11 : (!(m93 (m76 a0.f3 0) 0 1000000)) = true
            ·try simp only [if_pos h11]
             exact cp (by kernel_rfl) (.r 13 [] [] f0 (.n 3 h0 (.z 18 (.z 20 (.z 22 (.r 23 [] [] f4 (.n 2 h0 (.n 3 h1 (.z 24 (.z 27 (.z 30 (.z 32 (.z 34 (.r 35 [] [] f10 (.n 2 h1 (.n 3 h2 (.z 36 (.z 39 (.z 42 (.z 44 (.z 46 (.r 47 [] [] f16 (.n 2 h2 (.g h3 (.z 48 (.z 51 (.z 52 (.r 58 [] [] f20 (.g h4 (.n 5 h5 (.n 5 h6 (.g h7 (.f f33 (.f f34 (.z 65 (.z 80 (.z 82 (.z 84 (.z 86 (.z 89 (.z 92 (.z 94 (.z 96 (.z 98 (.z 101 (.z 102 (.h 111 (.loop (h17_0 l0_2 l0_3 l0_4 a0 0 ) (.exit 0) ⟨[(1, (.ptr ⟨(1, 0, 0), [], 0, 0, 8⟩)), (56, (.one (.bor l0_3 (map b_R a0.f3)))), (57, (.oi ((length (map b_R a0.f3)) : Int))), (58, (.oi w0_33)), (59, (.one (.val (.bool w1_33))))], [((1, 0, 0), .live ⟨8, [[(.i a0.f0), (.i a0.f1), (.bor l0_2 (map b_si a0.f2)), (.bor l0_3 (map b_R a0.f3)), (.bor l0_4 (map b_si a0.f4)), (.i a0.f5), (.i a0.f6), (.i a0.f7)]], []⟩)]⟩) (.r 117 [] [] f35 (.g h9 (.z 122 (.r 128 [] [] f37 (.m 2 trivial (.r 146 [] [] f40 (.f trivial (.n 3 h10 (.z 157 (.z 159 (.z 161 (.r 162 [] [] f45 (.g h10 (.z 163 (.r 164 [] [] f47 (.n 2 h10 (.f h11 (.z 165 (.z 168 (.y 171 .nil)))))))))))))))))))))))))))))))))))))))))))))))))))))))))))))))))))
            ·try simp only [if_neg h11]
             exact cp (by kernel_rfl) (.r 13 [] [] f0 (.n 3 h0 (.z 18 (.z 20 (.z 22 (.r 23 [] [] f4 (.n 2 h0 (.n 3 h1 (.z 24 (.z 27 (.z 30 (.z 32 (.z 34 (.r 35 [] [] f10 (.n 2 h1 (.n 3 h2 (.z 36 (.z 39 (.z 42 (.z 44 (.z 46 (.r 47 [] [] f16 (.n 2 h2 (.g h3 (.z 48 (.z 51 (.z 52 (.r 58 [] [] f20 (.g h4 (.n 5 h5 (.n 5 h6 (.g h7 (.f f33 (.f f34 (.z 65 (.z 80 (.z 82 (.z 84 (.z 86 (.z 89 (.z 92 (.z 94 (.z 96 (.z 98 (.z 101 (.z 102 (.h 111 (.loop (h17_0 l0_2 l0_3 l0_4 a0 0 ) (.exit 0) ⟨[(1, (.ptr ⟨(1, 0, 0), [], 0, 0, 8⟩)), (56, (.one (.bor l0_3 (map b_R a0.f3)))), (57, (.oi ((length (map b_R a0.f3)) : Int))), (58, (.oi w0_33)), (59, (.one (.val (.bool w1_33))))], [((1, 0, 0), .live ⟨8, [[(.i a0.f0), (.i a0.f1), (.bor l0_2 (map b_si a0.f2)), (.bor l0_3 (map b_R a0.f3)), (.bor l0_4 (map b_si a0.f4)), (.i a0.f5), (.i a0.f6), (.i a0.f7)]], []⟩)]⟩) (.r 117 [] [] f35 (.g h9 (.z 122 (.r 128 [] [] f37 (.m 2 trivial (.r 146 [] [] f40 (.f trivial (.n 3 h10 (.z 157 (.z 159 (.z 161 (.r 162 [] [] f45 (.g h10 (.z 163 (.r 164 [] [] f47 (.n 2 h10 (.g h11 (.z 165 (.z 168 (.z 171 .nil)))))))))))))))))))))))))))))))))))))))))))))))))))))))))))))))))))
         | k1 w0_33 =>
          try dsimp only
          have f33 : (⟨[(1, (.ptr ⟨(1, 0, 0), [], 0, 0, 8⟩)), (56, (.one (.bor l0_3 (map b_R a0.f3)))), (57, (.oi ((length (map b_R a0.f3)) : Int))), (58, (.oi 0))], [((1, 0, 0), .live ⟨8, [[(.i a0.f0), (.i a0.f1), (.bor l0_2 (map b_si a0.f2)), (.bor l0_3 (map b_R a0.f3)), (.bor l0_4 (map b_si a0.f4)), (.i a0.f5), (.i a0.f6), (.i a0.f7)]], []⟩)]⟩ : St) = h17_0 l0_2 l0_3 l0_4 a0 0  := (by rfl)
          have f34 : Ev F X (.code l17_0 (h17_0 l0_2 l0_3 l0_4 a0 0 ) .ret ⟨[(2, (.oi w0_33))], []⟩) := (by have t : Ev F X (.code l17_0 (h17_0 l0_2 l0_3 l0_4 a0 0 ) (ex17_0 (r17_0 a0 a0.f3 0)) (fin17_0 l0_2 l0_3 l0_4 a0 (r17_0 a0 a0.f3 0))) := t17_0 (l0_2 := l0_2) (l0_3 := l0_3) (l0_4 := l0_4) (a0 := a0) (by assumption) (by assumption) (by assumption) (by assumption) a0.f3 []  rfl; rw [h8] at t; exact t)
          exact cp (by kernel_rfl) (.r 13 [] [] f0 (.n 3 h0 (.z 18 (.z 20 (.z 22 (.r 23 [] [] f4 (.n 2 h0 (.n 3 h1 (.z 24 (.z 27 (.z 30 (.z 32 (.z 34 (.r 35 [] [] f10 (.n 2 h1 (.n 3 h2 (.z 36 (.z 39 (.z 42 (.z 44 (.z 46 (.r 47 [] [] f16 (.n 2 h2 (.g h3 (.z 48 (.z 51 (.z 52 (.r 58 [] [] f20 (.g h4 (.n 5 h5 (.n 5 h6 (.g h7 (.f f33 (.f f34 (.z 65 (.z 80 (.z 82 (.z 84 (.z 86 (.z 89 (.z 92 (.z 94 (.z 96 (.z 98 (.z 101 (.z 102 (.h 111 (.loop (h17_0 l0_2 l0_3 l0_4 a0 0 ) .ret ⟨[(2, (.oi w0_33))], []⟩) .nil)))))))))))))))))))))))))))))))))))))))))))))))
theorem ow17 {a : List K_si} {k : Int} (h : m74 a k = true) : (a.length : Int) ≤ k := by
 unfold m74 at h
 split at h
 ·simpa using h
 ·cases h
theorem rl73 {x : K_R} {a : List K_R} (h : m73 x a = 0) : x.f3.length ≤ 12 := by
 unfold m73 at h
 by_cases c : m74 x.f3 12 = true
 ·have := ow17 c; omega
 ·exfalso
  have c : m74 x.f3 12 = false := by simpa using c
  simp only [c, Bool.not_false, if_true] at h
  (repeat' split at h) <;> simp at h
theorem rz17 (a0 : K_B) : ∀ (l : List K_R) (i : Int), ((∃ u v, r17_0 a0 l i = .k0 u v) ∧ ∀ z ∈ l, z.f3.length ≤ 12) ∨ (∃ w, r17_0 a0 l i = .k1 w ∧ w ≠ 0)
 | [], i => .inl ⟨⟨_, _, rfl⟩, fun z hz => by cases hz⟩
 | x :: l, i => by
  have ih := rz17 a0 l (i + 1)
  simp only [r17_0]
  by_cases c : ((m73 x (take (Int.toNat i) a0.f3)) != 0) = true
  ·rw [if_pos c]; exact .inr ⟨_, rfl, by simpa using c⟩
  ·rw [if_neg c]
   rcases ih with ⟨h1, h2⟩ | h
   ·refine .inl ⟨h1, fun z hz => ?_⟩
    rcases List.mem_cons.1 hz with rfl | hz
    ·exact rl73 (by simpa using c)
    ·exact h2 z hz
   ·exact .inr h
theorem fs17 {a0 : K_B} (h : ¬ ((m17 a0) != 0) = true) : a0.f2.length ≤ 12 ∧ a0.f3.length ≤ 6 ∧ (∀ z ∈ a0.f3, z.f3.length ≤ 12) ∧ a0.f4.length ≤ 8 := by
 have h : m17 a0 = 0 := by simpa using h
 unfold m17 at h
 split at h
 ·cases h
 split at h
 ·cases h
 split at h
 ·cases h
 split at h
 ·cases h
 split at h
 ·rename_i h2; rw [h] at h2; simp at h2
 rename_i h2
 split at h
 ·cases h
 split at h
 ·cases h
 rename_i h4
 split at h
 ·cases h
 rename_i h5
 simp only [length_map, decide_eq_true_eq] at h4 h5
 rcases rz17 a0 a0.f3 0 with ⟨_, hz⟩ | ⟨w, hw, hn⟩
 ·exact ⟨len12_46 _ h2, by omega, hz, by omega⟩
 ·rw [hw] at h; exact absurd h hn
theorem fw17 {a0 : K_B} (h : ¬ ((m17 a0) != 0) = true) : (∀ z ∈ a0.f2, 1 ≤ z.f1 ∧ z.f1 ≤ 9999) ∧ (0 ≤ a0.f1 ∧ a0.f1 ≤ 1000) := by
 have h : m17 a0 = 0 := by simpa using h
 unfold m17 at h
 split at h
 ·cases h
 rename_i h1
 split at h
 ·cases h
 split at h
 ·cases h
 split at h
 ·cases h
 split at h
 ·rename_i h2; rw [h] at h2; simp at h2
 rename_i h2
 refine ⟨wok46 _ h2, ?_⟩
 have hr : m71 a0.f0 a0.f1 = true := by simpa using h1
 unfold m71 at hr
 split at hr
 ·exact jn93 (by rw [hr]; simp)
 ·cases hr
theorem e106 {a0 : List K_si} {l0 : Nat} (hy0 : length a0 * 24 ≤ 70368744177664) : Ev F X (.call 106 [(.one (.bor l0 (map b_si a0)))] [] [] [(.one (.own 2 (map d_si a0)))]) := by
 refine .ext (.inl ⟨rfl, ?_⟩)
 have e : fromBR l0 (map b_si a0) = map d_si a0 := by first | exact fromBR_si .. | simp [fromBR_si]
 refine ⟨l0, _, rfl, by rw [e], by rw [e]; simpa using hy0, by rw [e]; exact lenD_si _, by rw [e]; first | exact pureR_si _ | simp [pureR_si]⟩
end Go.Proofs.YtfmkbpiobddhdaaDoor.FoundReward
