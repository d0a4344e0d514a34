/- What the functions compute. -/
import Derived.Test.YtcbnpfnebinbkaaDoorEMergeWeightsA
import Derived.KernelRfl
namespace Go.Proofs.YtcbnpfnebinbkaaDoor.MergeWeights
open Go Go.Proofs.YtcbnpfnebinbkaaDoor.V
set_option linter.unusedVariables false
set_option linter.unusedSimpArgs false
set_option maxRecDepth 20000
attribute [local simp] toBR_si fullR_si pureR_si lenB_si lenD_si fromBR_si copy_si toBR_LsiE fullR_LsiE pureR_LsiE lenB_LsiE lenD_LsiE toBR_b fullR_b pureR_b lenB_b lenD_b fromBR_b copy_b toBR_i fullR_i pureR_i lenB_i lenD_i fromBR_i copy_i toBR_iLsiE fullR_iLsiE pureR_iLsiE lenB_iLsiE lenD_iLsiE toBR_s fullR_s pureR_s lenB_s lenD_s fromBR_s copy_s toBR_y fullR_y pureR_y lenB_y lenD_y fromBR_y copy_y
/-! loop.example/g00539/laws.FnExactMergeWeights -/
def m8 (a0 : (List K_si)) : Bool :=
  if (decide ((m16 a0 1048576) < 0)) = true then true else
  if (!(m33 (m38 a0) (m37 a0))) = true then false else
    if (!(m20 a0 a0)) = true then false else
      if (decide ((m34 a0 1) < 0)) = true then false else
        if (decide ((m36 (K_iLsiE.mk ((m38 a0).f0) (o35_0 (m38 a0) 1)) 1) < 0)) = true then false else
          if ((m36 (K_iLsiE.mk ((m38 a0).f0) (o35_0 (m38 a0) 1)) 1) != (m35 (m38 a0) 1)) = true then false else
            true
set_option maxHeartbeats 8000000 in
theorem e8 {l0_0 : Nat} {a0 : (List K_si)} (hy0 : List.length a0 * 24 ≤ 140737488351232) (hy1 : ∀ z ∈ a0, os_si z) : Ev F X (.call 8 [(.one (.bor l0_0 (List.map b_si a0)))] [] [] [(.one (.val (.bool (m8 a0))))]) := by
  unfold m8
  have f0 : Ev F X (.call 16 [(.one (.bor (l0_0 + 1) (List.map b_si a0))), (.one (.val (.int .i64 1048576)))] [] [] [(.one (.val (.int .i64 (m16 a0 1048576))))]) := (e16 (a0 := a0) (a1 := 1048576) (by first | with_reducible assumption | omega | assumption | (simp only [List.length_map]; omega) | (simp [ol34, ol35_0]; omega)))
  by_cases h0 : (decide ((m16 a0 1048576) < 0)) = true
  · try simp only [if_pos h0]
    exact callP_ok (ps := []) (os := []) (rs := [(.one (.val (.bool true)))]) (by kernel_rfl) (.r 9 [] [] f0 (.f h0 (.h 16 (.b true) .nil)))
  · try simp only [if_neg h0]
    have f2 : Ev F X (.call 18 [(.one (.bor (l0_0 + 1) (List.map b_si a0)))] [] [] [(.one (.own 2 (List.map d_si a0)))]) := (g18 (a0 := a0) (by first | with_reducible assumption | omega | assumption | (simp only [List.length_map]; omega) | (simp [ol34, ol35_0]; omega)))
    have f3 : 0 + (List.length (List.map d_si a0)) ≤ (List.length (List.map d_si a0)) := (by omega)
    have f4 : fullR (List.take (List.length (List.map d_si a0)) (List.drop 0 (List.map d_si a0))) = true := (ft_si _ _ _)
    have f5 : toBR (List.take (List.length (List.map d_si a0)) (List.drop 0 (List.map d_si a0))) = (List.map b_si a0) := (tb_si _)
    have f6 : Ev F X (.call 37 [(.one (.bor 0 (List.map b_si a0)))] [] [] [(.agg [(.val (.int .i64 ((m37 a0).f0))), (.own 2 (List.map d_si ((m37 a0).f1)))])]) := (e37 (a0 := a0) (by first | with_reducible assumption | omega | assumption | (simp only [List.length_map]; omega) | (simp [ol34, ol35_0]; omega)) (by first | exact True.intro | with_reducible rfl | with_reducible assumption | omega | (simp only [List.length_map, List.length_set, List.length_append, List.length_replicate, List.length_cons, List.length_nil]; omega) | (simp [ol34, ol35_0]; done) | (simp [ol34, ol35_0]; omega) | (simp [List.take_of_length_le, ol34, ol35_0]; done) | (simp [← List.map_take, ← List.map_drop, ol34, ol35_0]; done) | assumption | trivial | (simp [*, ol34, ol35_0, byteRows_eq, ints_y]; done)))
    have f7 : 0 = 0 := rfl
    have f8 : (List.length (List.map d_si ((m37 a0).f1))) = (List.length (List.map d_si ((m37 a0).f1))) := rfl
    have f9 : Ev F X (.call 18 [(.one (.bor (l0_0 + 1) (List.map b_si a0)))] [] [] [(.one (.own 2 (List.map d_si a0)))]) := (g18 (a0 := a0) (by first | with_reducible assumption | omega | assumption | (simp only [List.length_map]; omega) | (simp [ol34, ol35_0]; omega)))
    have f10 : 0 + (List.length (List.map d_si a0)) ≤ (List.length (List.map d_si a0)) := (by omega)
    have f11 : fullR (List.take (List.length (List.map d_si a0)) (List.drop 0 (List.map d_si a0))) = true := (ft_si _ _ _)
    have f12 : toBR (List.take (List.length (List.map d_si a0)) (List.drop 0 (List.map d_si a0))) = (List.map b_si a0) := (tb_si _)
    have f13 : Ev F X (.call 38 [(.one (.bor 0 (List.map b_si a0)))] [] [] [(.agg [(.val (.int .i64 ((m38 a0).f0))), (.own 2 (List.map d_si ((m38 a0).f1)))])]) := (e38 (a0 := a0) (by first | with_reducible assumption | omega | assumption | (simp only [List.length_map]; omega) | (simp [ol34, ol35_0]; omega)))
    have f14 : 0 = 0 := rfl
    have f15 : (List.length (List.map d_si ((m38 a0).f1))) = (List.length (List.map d_si ((m38 a0).f1))) := rfl
    have f16 : 0 + (List.length (List.map d_si ((m38 a0).f1))) ≤ (List.length (List.map d_si ((m38 a0).f1))) := (by omega)
    have f17 : fullR (List.take (List.length (List.map d_si ((m38 a0).f1))) (List.drop 0 (List.map d_si ((m38 a0).f1)))) = true := (ft_si _ _ _)
    have f18 : toBR (List.take (List.length (List.map d_si ((m38 a0).f1))) (List.drop 0 (List.map d_si ((m38 a0).f1)))) = (List.map b_si ((m38 a0).f1)) := (tb_si _)
    have f19 : 0 + (List.length (List.map d_si ((m37 a0).f1))) ≤ (List.length (List.map d_si ((m37 a0).f1))) := (by omega)
    have f20 : fullR (List.take (List.length (List.map d_si ((m37 a0).f1))) (List.drop 0 (List.map d_si ((m37 a0).f1)))) = true := (ft_si _ _ _)
    have f21 : toBR (List.take (List.length (List.map d_si ((m37 a0).f1))) (List.drop 0 (List.map d_si ((m37 a0).f1)))) = (List.map b_si ((m37 a0).f1)) := (tb_si _)
    have f22 : Ev F X (.call 33 [(.agg [(.val (.int .i64 ((m38 a0).f0))), (.bor 0 (List.map b_si ((m38 a0).f1)))]), (.agg [(.val (.int .i64 ((m37 a0).f0))), (.bor 0 (List.map b_si ((m37 a0).f1)))])] [] [] [(.one (.val (.bool (m33 (m38 a0) (m37 a0)))))]) := (e33 (a0 := (m38 a0)) (a1 := (m37 a0)) (by first | with_reducible assumption | omega | (have q := okm38 a0; exact q) | (unfold m38; (repeat' split) <;> simp_all <;> omega) | assumption | (simp only [List.length_map]; omega) | (simp [ol34, ol35_0]; omega)) (by first | with_reducible assumption | omega | (have q := okm37 a0; exact q) | (unfold m37; (repeat' split) <;> simp_all <;> omega) | assumption | (simp only [List.length_map]; omega) | (simp [ol34, ol35_0]; omega)))
    by_cases h1 : (!(m33 (m38 a0) (m37 a0))) = true
    · try simp only [if_pos h1]
      exact callP_ok (ps := []) (os := []) (rs := [(.one (.val (.bool false)))]) (by kernel_rfl) (.r 9 [] [] f0 (.f (nt h0) (.h 16 (.b false) (.r 20 [] [] f2 (.f f3 (.f f4 (.f f5 (.r 22 [] [(List.map b_si a0)] f6 (.f f7 (.f f8 (.r 30 [] [] f9 (.f f10 (.f f11 (.f f12 (.r 36 [] [(List.map b_si a0)] f13 (.f f14 (.f f15 (.f f16 (.f f17 (.f f18 (.f f19 (.f f20 (.f f21 (.r 46 [] [(List.map b_si ((m38 a0).f1)), (List.map b_si ((m37 a0).f1))] f22 (.f h1 (.h 49 (.b true) .nil))))))))))))))))))))))))))
    · try simp only [if_neg h1]
      have f24 : Ev F X (.call 18 [(.one (.bor (l0_0 + 1) (List.map b_si a0)))] [] [] [(.one (.own 2 (List.map d_si a0)))]) := (g18 (a0 := a0) (by first | with_reducible assumption | omega | assumption | (simp only [List.length_map]; omega) | (simp [ol34, ol35_0]; omega)))
      have f25 : 0 + (List.length (List.map d_si a0)) ≤ (List.length (List.map d_si a0)) := (by omega)
      have f26 : fullR (List.take (List.length (List.map d_si a0)) (List.drop 0 (List.map d_si a0))) = true := (ft_si _ _ _)
      have f27 : toBR (List.take (List.length (List.map d_si a0)) (List.drop 0 (List.map d_si a0))) = (List.map b_si a0) := (tb_si _)
      have f28 : 0 + (List.length (List.map d_si a0)) ≤ (List.length (List.map d_si a0)) := (by omega)
      have f29 : fullR (List.take (List.length (List.map d_si a0)) (List.drop 0 (List.map d_si a0))) = true := (ft_si _ _ _)
      have f30 : toBR (List.take (List.length (List.map d_si a0)) (List.drop 0 (List.map d_si a0))) = (List.map b_si a0) := (tb_si _)
      have f31 : Ev F X (.call 20 [(.one (.bor 0 (List.map b_si a0))), (.one (.bor 0 (List.map b_si a0)))] [] [] [(.one (.val (.bool (m20 a0 a0))))]) := (e20 (a0 := a0) (a1 := a0) (by first | with_reducible assumption | omega | assumption | (simp only [List.length_map]; omega) | (simp [ol34, ol35_0]; omega)) (by first | with_reducible assumption | omega | assumption | (simp only [List.length_map]; omega) | (simp [ol34, ol35_0]; omega)))
      by_cases h2 : (!(m20 a0 a0)) = true
      · try simp only [if_pos h2]
        exact callP_ok (ps := []) (os := []) (rs := [(.one (.val (.bool false)))]) (by kernel_rfl) (.r 9 [] [] f0 (.f (nt h0) (.h 16 (.b false) (.r 20 [] [] f2 (.f f3 (.f f4 (.f f5 (.r 22 [] [(List.map b_si a0)] f6 (.f f7 (.f f8 (.r 30 [] [] f9 (.f f10 (.f f11 (.f f12 (.r 36 [] [(List.map b_si a0)] f13 (.f f14 (.f f15 (.f f16 (.f f17 (.f f18 (.f f19 (.f f20 (.f f21 (.r 46 [] [(List.map b_si ((m38 a0).f1)), (List.map b_si ((m37 a0).f1))] f22 (.f (nt h1) (.h 49 (.b false) (.r 55 [] [] f24 (.f f25 (.f f26 (.f f27 (.f f28 (.f f29 (.f f30 (.r 57 [] [(List.map b_si a0), (List.map b_si a0)] f31 (.f h2 (.h 60 (.b true) .nil))))))))))))))))))))))))))))))))))))
      · try simp only [if_neg h2]
        have f33 : pureR (List.map d_si a0) = true := (pureR_si _)
        have f34 : Ev F X (.call 34 [(.one (.ref ⟨(0, 0, 0), [], 0, (List.length (List.map d_si a0))⟩)), (.one (.val (.int .i64 1)))] [((0, 0, 0), ⟨2, (List.map d_si a0), []⟩)] [(List.map d_si (o34_0 a0 1))] [(.one (.val (.int .i64 (m34 a0 1))))]) := (e34 (a0 := a0) (a1 := 1) (by first | with_reducible assumption | omega | assumption | (simp only [List.length_map]; omega) | (simp [ol34, ol35_0]; omega)))
        by_cases h3 : (decide ((m34 a0 1) < 0)) = true
        · try simp only [if_pos h3]
          exact callP_ok (ps := []) (os := []) (rs := [(.one (.val (.bool false)))]) (by kernel_rfl) (.r 9 [] [] f0 (.f (nt h0) (.h 16 (.b false) (.r 20 [] [] f2 (.f f3 (.f f4 (.f f5 (.r 22 [] [(List.map b_si a0)] f6 (.f f7 (.f f8 (.r 30 [] [] f9 (.f f10 (.f f11 (.f f12 (.r 36 [] [(List.map b_si a0)] f13 (.f f14 (.f f15 (.f f16 (.f f17 (.f f18 (.f f19 (.f f20 (.f f21 (.r 46 [] [(List.map b_si ((m38 a0).f1)), (List.map b_si ((m37 a0).f1))] f22 (.f (nt h1) (.h 49 (.b false) (.r 55 [] [] f24 (.f f25 (.f f26 (.f f27 (.f f28 (.f f29 (.f f30 (.r 57 [] [(List.map b_si a0), (List.map b_si a0)] f31 (.f (nt h2) (.f f33 (.h 60 (.b false) (.r 68 [true] [] f34 (.f h3 (.f h3 (.f h3 (.f h3 (.f h3 (.h 77 (.b true) (.h 79 (.b true) (.h 81 (.b true) (.h 83 (.b true) (.h 86 (.b true) .nil))))))))))))))))))))))))))))))))))))))))))))))))
        · try simp only [if_neg h3]
          have f38 : 0 + (List.length (List.map d_si ((m38 a0).f1))) ≤ (List.length (List.map d_si ((m38 a0).f1))) := (by omega)
          have f39 : fullR (List.take (List.length (List.map d_si ((m38 a0).f1))) (List.drop 0 (List.map d_si ((m38 a0).f1)))) = true := (ft_si _ _ _)
          have f40 : toBR (List.take (List.length (List.map d_si ((m38 a0).f1))) (List.drop 0 (List.map d_si ((m38 a0).f1)))) = (List.map b_si ((m38 a0).f1)) := (tb_si _)
          have f41 : 0 + (List.length (List.map d_si ((m37 a0).f1))) ≤ (List.length (List.map d_si ((m37 a0).f1))) := (by omega)
          have f42 : fullR (List.take (List.length (List.map d_si ((m37 a0).f1))) (List.drop 0 (List.map d_si ((m37 a0).f1)))) = true := (ft_si _ _ _)
          have f43 : toBR (List.take (List.length (List.map d_si ((m37 a0).f1))) (List.drop 0 (List.map d_si ((m37 a0).f1)))) = (List.map b_si ((m37 a0).f1)) := (tb_si _)
          have f44 : Ev F X (.call 33 [(.agg [(.val (.int .i64 ((m38 a0).f0))), (.bor 0 (List.map b_si ((m38 a0).f1)))]), (.agg [(.val (.int .i64 ((m37 a0).f0))), (.bor 0 (List.map b_si ((m37 a0).f1)))])] [] [] [(.one (.val (.bool (m33 (m38 a0) (m37 a0)))))]) := (e33 (a0 := (m38 a0)) (a1 := (m37 a0)) (by first | with_reducible assumption | omega | (have q := okm38 a0; exact q) | (unfold m38; (repeat' split) <;> simp_all <;> omega) | assumption | (simp only [List.length_map]; omega) | (simp [ol34, ol35_0]; omega)) (by first | with_reducible assumption | omega | (have q := okm37 a0; exact q) | (unfold m37; (repeat' split) <;> simp_all <;> omega) | assumption | (simp only [List.length_map]; omega) | (simp [ol34, ol35_0]; omega)))
          have f48 : pureR (List.map d_si ((m38 a0).f1)) = true := (by first | with_reducible assumption | (simp [ol34, ol35_0]; done) | (simp [List.take_of_length_le, ol34, ol35_0]; done) | (simp [← List.map_take, ← List.map_drop, ol34, ol35_0]; done) | (unfold m38; (repeat' split) <;> simp_all <;> omega) | assumption | trivial | (simp [*, ol34, ol35_0, b_si, d_si, byteRows_eq, ints_y]; done))
          have f49 : Ev F X (.call 35 [(.agg [(.val (.int .i64 ((m38 a0).f0))), (.ref ⟨(0, 0, 0), [], 0, (List.length (List.map d_si ((m38 a0).f1)))⟩)]), (.one (.val (.int .i64 1)))] [((0, 0, 0), ⟨2, (List.map d_si ((m38 a0).f1)), []⟩)] [(List.map d_si (o35_0 (m38 a0) 1))] [(.one (.val (.int .i64 (m35 (m38 a0) 1))))]) := (e35 (a0 := (m38 a0)) (a1 := 1) (by first | with_reducible assumption | omega | (have q := okm38 a0; exact q) | (unfold m38; (repeat' split) <;> simp_all <;> omega) | assumption | (simp only [List.length_map]; omega) | (simp [ol34, ol35_0]; omega)))
          have f50 : 0 + (List.length (List.map d_si (o35_0 (m38 a0) 1))) ≤ (List.length (List.map d_si (o35_0 (m38 a0) 1))) := (by omega)
          have f51 : fullR (List.take (List.length (List.map d_si (o35_0 (m38 a0) 1))) (List.drop 0 (List.map d_si (o35_0 (m38 a0) 1)))) = true := (ft_si _ _ _)
          have f52 : toBR (List.take (List.length (List.map d_si (o35_0 (m38 a0) 1))) (List.drop 0 (List.map d_si (o35_0 (m38 a0) 1)))) = (List.map b_si (o35_0 (m38 a0) 1)) := (tb_si _)
          have f53 : Ev F X (.call 36 [(.agg [(.val (.int .i64 ((m38 a0).f0))), (.bor 0 (List.map b_si (o35_0 (m38 a0) 1)))]), (.one (.val (.int .i64 1)))] [] [] [(.one (.val (.int .i64 (m36 (K_iLsiE.mk ((m38 a0).f0) (o35_0 (m38 a0) 1)) 1))))]) := (e36 (a0 := (K_iLsiE.mk ((m38 a0).f0) (o35_0 (m38 a0) 1))) (a1 := 1) (by first | with_reducible assumption | omega | (have q := okm38 a0; exact q) | (have q := okm38 a0; rw [ol35_0]; exact q) | (unfold m38; (repeat' split) <;> simp_all <;> omega) | assumption | (simp only [List.length_map]; omega) | (simp [ol34, ol35_0]; omega)))
          by_cases h4 : (decide ((m36 (K_iLsiE.mk ((m38 a0).f0) (o35_0 (m38 a0) 1)) 1) < 0)) = true
          · try simp only [if_pos h4]
            exact callP_ok (ps := []) (os := []) (rs := [(.one (.val (.bool false)))]) (by kernel_rfl) (.r 9 [] [] f0 (.f (nt h0) (.h 16 (.b false) (.r 20 [] [] f2 (.f f3 (.f f4 (.f f5 (.r 22 [] [(List.map b_si a0)] f6 (.f f7 (.f f8 (.r 30 [] [] f9 (.f f10 (.f f11 (.f f12 (.r 36 [] [(List.map b_si a0)] f13 (.f f14 (.f f15 (.f f16 (.f f17 (.f f18 (.f f19 (.f f20 (.f f21 (.r 46 [] [(List.map b_si ((m38 a0).f1)), (List.map b_si ((m37 a0).f1))] f22 (.f (nt h1) (.h 49 (.b false) (.r 55 [] [] f24 (.f f25 (.f f26 (.f f27 (.f f28 (.f f29 (.f f30 (.r 57 [] [(List.map b_si a0), (List.map b_si a0)] f31 (.f (nt h2) (.f f33 (.h 60 (.b false) (.r 68 [true] [] f34 (.f (nt h3) (.f (nt h3) (.f (nt h3) (.f f38 (.f f39 (.f f40 (.f f41 (.f f42 (.f f43 (.h 77 (.b false) (.h 79 (.b false) (.h 81 (.b false) (.r 82 [] [(List.map b_si ((m38 a0).f1)), (List.map b_si ((m37 a0).f1))] f44 (.f (nt h3) (.f (nt h3) (.f (nt h1) (.f f48 (.h 83 (.b false) (.h 86 (.b false) (.h 87 (.b false) (.r 95 [true] [] f49 (.f f50 (.f f51 (.f f52 (.r 105 [] [(List.map b_si (o35_0 (m38 a0) 1))] f53 (.f h4 (.h 112 (.b true) .nil)))))))))))))))))))))))))))))))))))))))))))))))))))))))))))))))))
          · try simp only [if_neg h4]
            by_cases h5 : ((m36 (K_iLsiE.mk ((m38 a0).f0) (o35_0 (m38 a0) 1)) 1) != (m35 (m38 a0) 1)) = true
            · try simp only [if_pos h5]
              exact callP_ok (ps := []) (os := []) (rs := [(.one (.val (.bool false)))]) (by kernel_rfl) (.r 9 [] [] f0 (.f (nt h0) (.h 16 (.b false) (.r 20 [] [] f2 (.f f3 (.f f4 (.f f5 (.r 22 [] [(List.map b_si a0)] f6 (.f f7 (.f f8 (.r 30 [] [] f9 (.f f10 (.f f11 (.f f12 (.r 36 [] [(List.map b_si a0)] f13 (.f f14 (.f f15 (.f f16 (.f f17 (.f f18 (.f f19 (.f f20 (.f f21 (.r 46 [] [(List.map b_si ((m38 a0).f1)), (List.map b_si ((m37 a0).f1))] f22 (.f (nt h1) (.h 49 (.b false) (.r 55 [] [] f24 (.f f25 (.f f26 (.f f27 (.f f28 (.f f29 (.f f30 (.r 57 [] [(List.map b_si a0), (List.map b_si a0)] f31 (.f (nt h2) (.f f33 (.h 60 (.b false) (.r 68 [true] [] f34 (.f (nt h3) (.f (nt h3) (.f (nt h3) (.f f38 (.f f39 (.f f40 (.f f41 (.f f42 (.f f43 (.h 77 (.b false) (.h 79 (.b false) (.h 81 (.b false) (.r 82 [] [(List.map b_si ((m38 a0).f1)), (List.map b_si ((m37 a0).f1))] f44 (.f (nt h3) (.f (nt h3) (.f (nt h1) (.f f48 (.h 83 (.b false) (.h 86 (.b false) (.h 87 (.b false) (.r 95 [true] [] f49 (.f f50 (.f f51 (.f f52 (.r 105 [] [(List.map b_si (o35_0 (m38 a0) 1))] f53 (.f (nt h4) (.f h5 (.h 112 (.b false) (.h 119 (.b true) .nil)))))))))))))))))))))))))))))))))))))))))))))))))))))))))))))))))))
            · try simp only [if_neg h5]
              have f56 : Ev F X (.call 18 [(.one (.bor (l0_0 + 1) (List.map b_si a0)))] [] [] [(.one (.own 2 (List.map d_si a0)))]) := (g18 (a0 := a0) (by first | with_reducible assumption | omega | assumption | (simp only [List.length_map]; omega) | (simp [ol34, ol35_0]; omega)))
              have f57 : 0 + (List.length (List.map d_si a0)) ≤ (List.length (List.map d_si a0)) := (by omega)
              have f58 : fullR (List.take (List.length (List.map d_si a0)) (List.drop 0 (List.map d_si a0))) = true := (ft_si _ _ _)
              have f59 : toBR (List.take (List.length (List.map d_si a0)) (List.drop 0 (List.map d_si a0))) = (List.map b_si a0) := (tb_si _)
              have f60 : Ev F X (.call 38 [(.one (.bor 0 (List.map b_si a0)))] [] [] [(.agg [(.val (.int .i64 ((m38 a0).f0))), (.own 2 (List.map d_si ((m38 a0).f1)))])]) := (e38 (a0 := a0) (by first | with_reducible assumption | omega | assumption | (simp only [List.length_map]; omega) | (simp [ol34, ol35_0]; omega)))
              have f61 : 0 = 0 := rfl
              have f62 : (List.length (List.map d_si ((m38 a0).f1))) = (List.length (List.map d_si ((m38 a0).f1))) := rfl
              have f63 : 0 + (List.length (List.map d_si ((m38 a0).f1))) ≤ (List.length (List.map d_si ((m38 a0).f1))) := (by omega)
              have f64 : fullR (List.take (List.length (List.map d_si ((m38 a0).f1))) (List.drop 0 (List.map d_si ((m38 a0).f1)))) = true := (ft_si _ _ _)
              have f65 : toBR (List.take (List.length (List.map d_si ((m38 a0).f1))) (List.drop 0 (List.map d_si ((m38 a0).f1)))) = (List.map b_si ((m38 a0).f1)) := (tb_si _)
              have f66 : 0 + (List.length (List.map d_si ((m37 a0).f1))) ≤ (List.length (List.map d_si ((m37 a0).f1))) := (by omega)
              have f67 : fullR (List.take (List.length (List.map d_si ((m37 a0).f1))) (List.drop 0 (List.map d_si ((m37 a0).f1)))) = true := (ft_si _ _ _)
              have f68 : toBR (List.take (List.length (List.map d_si ((m37 a0).f1))) (List.drop 0 (List.map d_si ((m37 a0).f1)))) = (List.map b_si ((m37 a0).f1)) := (tb_si _)
              have f69 : Ev F X (.call 33 [(.agg [(.val (.int .i64 ((m38 a0).f0))), (.bor 0 (List.map b_si ((m38 a0).f1)))]), (.agg [(.val (.int .i64 ((m37 a0).f0))), (.bor 0 (List.map b_si ((m37 a0).f1)))])] [] [] [(.one (.val (.bool (m33 (m38 a0) (m37 a0)))))]) := (e33 (a0 := (m38 a0)) (a1 := (m37 a0)) (by first | with_reducible assumption | omega | (have q := okm38 a0; exact q) | (unfold m38; (repeat' split) <;> simp_all <;> omega) | assumption | (simp only [List.length_map]; omega) | (simp [ol34, ol35_0]; omega)) (by first | with_reducible assumption | omega | (have q := okm37 a0; exact q) | (unfold m37; (repeat' split) <;> simp_all <;> omega) | assumption | (simp only [List.length_map]; omega) | (simp [ol34, ol35_0]; omega)))
              have f71 : 0 + (List.length (List.map d_si (o35_0 (m38 a0) 1))) ≤ (List.length (List.map d_si (o35_0 (m38 a0) 1))) := (by omega)
              have f72 : fullR (List.take (List.length (List.map d_si (o35_0 (m38 a0) 1))) (List.drop 0 (List.map d_si (o35_0 (m38 a0) 1)))) = true := (ft_si _ _ _)
              have f73 : toBR (List.take (List.length (List.map d_si (o35_0 (m38 a0) 1))) (List.drop 0 (List.map d_si (o35_0 (m38 a0) 1)))) = (List.map b_si (o35_0 (m38 a0) 1)) := (tb_si _)
              have f74 : Ev F X (.call 36 [(.agg [(.val (.int .i64 ((m38 a0).f0))), (.bor 0 (List.map b_si (o35_0 (m38 a0) 1)))]), (.one (.val (.int .i64 1)))] [] [] [(.one (.val (.int .i64 (m36 (K_iLsiE.mk ((m38 a0).f0) (o35_0 (m38 a0) 1)) 1))))]) := (e36 (a0 := (K_iLsiE.mk ((m38 a0).f0) (o35_0 (m38 a0) 1))) (a1 := 1) (by first | with_reducible assumption | omega | (have q := okm38 a0; exact q) | (have q := okm38 a0; rw [ol35_0]; exact q) | (unfold m38; (repeat' split) <;> simp_all <;> omega) | assumption | (simp only [List.length_map]; omega) | (simp [ol34, ol35_0]; omega)))
              exact callP_ok (ps := []) (os := []) (rs := [(.one (.val (.bool true)))]) (by kernel_rfl) (.r 9 [] [] f0 (.f (nt h0) (.h 16 (.b false) (.r 20 [] [] f2 (.f f3 (.f f4 (.f f5 (.r 22 [] [(List.map b_si a0)] f6 (.f f7 (.f f8 (.r 30 [] [] f9 (.f f10 (.f f11 (.f f12 (.r 36 [] [(List.map b_si a0)] f13 (.f f14 (.f f15 (.f f16 (.f f17 (.f f18 (.f f19 (.f f20 (.f f21 (.r 46 [] [(List.map b_si ((m38 a0).f1)), (List.map b_si ((m37 a0).f1))] f22 (.f (nt h1) (.h 49 (.b false) (.r 55 [] [] f24 (.f f25 (.f f26 (.f f27 (.f f28 (.f f29 (.f f30 (.r 57 [] [(List.map b_si a0), (List.map b_si a0)] f31 (.f (nt h2) (.f f33 (.h 60 (.b false) (.r 68 [true] [] f34 (.f (nt h3) (.f (nt h3) (.f (nt h3) (.f f38 (.f f39 (.f f40 (.f f41 (.f f42 (.f f43 (.h 77 (.b false) (.h 79 (.b false) (.h 81 (.b false) (.r 82 [] [(List.map b_si ((m38 a0).f1)), (List.map b_si ((m37 a0).f1))] f44 (.f (nt h3) (.f (nt h3) (.f (nt h1) (.f f48 (.h 83 (.b false) (.h 86 (.b false) (.h 87 (.b false) (.r 95 [true] [] f49 (.f f50 (.f f51 (.f f52 (.r 105 [] [(List.map b_si (o35_0 (m38 a0) 1))] f53 (.f (nt h4) (.f (nt h5) (.h 112 (.b false) (.h 119 (.b false) (.r 123 [] [] f56 (.f f57 (.f f58 (.f f59 (.r 125 [] [(List.map b_si a0)] f60 (.f f61 (.f f62 (.f f63 (.f f64 (.f f65 (.f f66 (.f f67 (.f f68 (.r 135 [] [(List.map b_si ((m38 a0).f1)), (List.map b_si ((m37 a0).f1))] f69 (.f (nt h1) (.f f71 (.f f72 (.f f73 (.h 138 (.b false) (.r 146 [] [(List.map b_si (o35_0 (m38 a0) 1))] f74 (.f (nt h4) (.f (nt h5) (.h 153 (.b false) (.h 160 (.b false) .nil)))))))))))))))))))))))))))))))))))))))))))))))))))))))))))))))))))))))))))))))))))))))))))
/-! weights -/
def wt_si (x : K_si) : Nat := 2
theorem wts_si : ∀ (l : List K_si), (List.map wt_si l).sum = l.length * 2
  | [] => rfl
  | x :: l => by simp only [List.map_cons, List.sum_cons, wts_si l, List.length_cons, wt_si]; omega
def wt_LsiE (x : (List K_si)) : Nat := 0 + (List.map wt_si x).sum
def wt_b (x : Bool) : Nat := 1
theorem wts_b : ∀ (l : List Bool), (List.map wt_b l).sum = l.length * 1
  | [] => rfl
  | x :: l => by simp only [List.map_cons, List.sum_cons, wts_b l, List.length_cons, wt_b]; omega
def wt_i (x : Int) : Nat := 1
theorem wts_i : ∀ (l : List Int), (List.map wt_i l).sum = l.length * 1
  | [] => rfl
  | x :: l => by simp only [List.map_cons, List.sum_cons, wts_i l, List.length_cons, wt_i]; omega
def wt_iLsiE (x : K_iLsiE) : Nat := 1 + (List.map wt_si x.f1).sum
def wt_s (x : ByteArray) : Nat := 1
theorem wts_s : ∀ (l : List ByteArray), (List.map wt_s l).sum = l.length * 1
  | [] => rfl
  | x :: l => by simp only [List.map_cons, List.sum_cons, wts_s l, List.length_cons, wt_s]; omega
def wt_y (x : Int) : Nat := 1
theorem wts_y : ∀ (l : List Int), (List.map wt_y l).sum = l.length * 1
  | [] => rfl
  | x :: l => by simp only [List.map_cons, List.sum_cons, wts_y l, List.length_cons, wt_y]; omega
/-! marks of loop.example/g00539/laws.markWeightS -/
theorem mr34_0 (a0 : List K_si) : ∀ (l p : List K_si) (v1_34_0 : Int), 0 ≤ v1_34_0 → v1_34_0 + ((List.map wt_si l).sum : Nat) ≤ 4611686018427387904 → ∃ (q : List K_si) (k' : Int) (w2 : _) (w3 : _), r34_0 a0 l (p.length : Int) (p ++ l) v1_34_0 = .k0 (p ++ q) k' w2 w3 ∧ q.length = l.length ∧ v1_34_0 ≤ k' ∧ k' ≤ v1_34_0 + ((List.map wt_si l).sum : Nat) ∧ ∀ (c : List K_si) (j : Int), ∃ u1 u2, r76_0 c q j v1_34_0 = .k0 k' u1 u2
  | [], p, v1_34_0, h0, h1 => ⟨[], v1_34_0, (p.length : Int), (decide ((p.length : Int) < ((List.length (List.map d_si a0)) : Int))), rfl, rfl, by omega, by simp, fun c j => ⟨j, (decide (j < ((List.length (List.map b_si c)) : Int))), rfl⟩⟩
  | x0_34_0 :: l, p, v1_34_0, h0, h1 => by
    simp only [List.map_cons, List.sum_cons, wt_si] at h1 ⊢
    obtain ⟨q, k', w2, w3, e1, e2, e3, e4, e5⟩ := mr34_0 a0 l (p ++ [(K_si.mk (m75 v1_34_0) (v1_34_0 + 1))]) ((v1_34_0 + 1) + 1) (by omega) (by omega)
    refine ⟨(K_si.mk (m75 v1_34_0) (v1_34_0 + 1)) :: q, k', w2, w3, ?_, by simp [e2], by omega, by omega, ?_⟩
    · have e : List.set (p ++ x0_34_0 :: l) (Int.toNat (p.length : Int)) (K_si.mk (m75 v1_34_0) (v1_34_0 + 1)) = (p ++ [(K_si.mk (m75 v1_34_0) (v1_34_0 + 1))]) ++ l := by simp
      have e0 : ((p ++ [(K_si.mk (m75 v1_34_0) (v1_34_0 + 1))]).length : Int) = (p.length : Int) + 1 := by simp
      rw [e0] at e1
      simp (disch := omega) only [r34_0, wrap64d]
      first | (rw [e, e1]; simp; done) | (simp only [e, e1]; simp; done)
    · intro c j
      obtain ⟨u1, u2, g⟩ := e5 c (j + 1)
      refine ⟨u1, u2, ?_⟩
      simp (disch := omega) only [r76_0, wrap64d]
      first | (simpa using g) | (simp_all; done)
theorem mh34 (a : List K_si) (k : Int) (h0 : 0 ≤ k) (h1 : k + ((List.map wt_si a).sum : Nat) ≤ 4611686018427387904) : m76 (o34_0 a k) k = m34 a k ∧ k ≤ m34 a k ∧ m34 a k ≤ k + ((List.map wt_si a).sum : Nat) := by
  obtain ⟨q, k', w2, w3, e1, e2, e3, e4, e5⟩ := mr34_0 a a [] k h0 h1
  obtain ⟨u1, u2, g⟩ := e5 q 0
  simp only [List.nil_append, List.length_nil] at e1
  rw [show ((0 : Nat) : Int) = 0 from rfl] at e1
  unfold m34 o34_0 m76
  rw [e1]; simp only []; rw [g]; exact ⟨rfl, e3, e4⟩
/-! marks of loop.example/g00539/laws.markWeightsResult -/
theorem mh35 (a : K_iLsiE) (k : Int) (h0 : 0 ≤ k) (h1 : k + (wt_iLsiE a : Nat) ≤ 4611686018427387904) : m36 (K_iLsiE.mk a.f0 (o35_0 a k)) k = m35 a k ∧ k ≤ m35 a k ∧ m35 a k ≤ k + (wt_iLsiE a : Nat) := by
  simp only [wt_iLsiE] at h1 ⊢
  have s0 := mh34 a.f1 k (by omega) (by first | omega | (simp only [wt_si, wt_LsiE, wt_b, wt_i, wt_iLsiE, wt_s, wt_y] at *; omega) | (simp only [List.length_map, List.length_nil, List.map_nil, List.sum_nil] at *; omega))
  have t0 := s0.1
  try simp only [List.length_map, wt_si, wt_LsiE, wt_b, wt_i, wt_iLsiE, wt_s, wt_y] at *
  unfold m36 m35 o35_0
  simp (disch := omega) only [wrap64d, t0]
  refine ⟨?_, by omega, by omega⟩
  (repeat' rw [if_neg (by first | (simp; done) | (simp only [decide_eq_true_eq]; omega))]) <;> rfl
theorem X_ok (f : FuncId) (args : List SV) (rs : List Ret) (h : X f args rs) : CallOK Tryd.prog f args [] [] rs := by
  rcases h with ⟨rfl, h⟩
  · obtain ⟨s, c, h1, h2, h3, rfl, rfl⟩ := h
    exact trim_ok s c h1 h2 h3
end Go.Proofs.YtcbnpfnebinbkaaDoor.MergeWeights
