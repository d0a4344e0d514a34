/- What the functions compute. -/
import Derived.Test.YtcbnpfnebinbkaaDoorEPushWeightA
import Derived.KernelRfl
namespace Go.Proofs.YtcbnpfnebinbkaaDoor.PushWeight
open Go Go.Proofs.YtcbnpfnebinbkaaDoor.V
set_option linter.unusedVariables false
set_option linter.unusedSimpArgs false
set_option maxRecDepth 20000
attribute [local simp] toBR_si fullR_si pureR_si lenB_si lenD_si fromBR_si copy_si toBR_LsiE fullR_LsiE pureR_LsiE lenB_LsiE lenD_LsiE toBR_i fullR_i pureR_i lenB_i lenD_i fromBR_i copy_i toBR_b fullR_b pureR_b lenB_b lenD_b fromBR_b copy_b toBR_iLsiE fullR_iLsiE pureR_iLsiE lenB_iLsiE lenD_iLsiE toBR_s fullR_s pureR_s lenB_s lenD_s fromBR_s copy_s toBR_y fullR_y pureR_y lenB_y lenD_y fromBR_y copy_y
/-! loop.example/g00539/laws.FnExactPushWeight -/
def m7 (a0 : (List K_si)) (a1 : K_si) (a2 : Int) : Bool :=
  if (decide ((m16 a0 1048576) < 0)) = true then true else
  if (decide ((m29 a1 (m16 a0 1048576)) < 0)) = true then true else
    if (!(m33 (m32 a0 a1 a2) (m30 a0 a1 a2))) = true then false else
      if (!(m20 a0 a0)) = true then false else
        if (decide ((m34 a0 1) < 0)) = true then false else
          if (decide ((m36 (K_iLsiE.mk ((m32 a0 a1 a2).f0) (o35_0 (m32 a0 a1 a2) 1)) 1) < 0)) = true then false else
            if ((m36 (K_iLsiE.mk ((m32 a0 a1 a2).f0) (o35_0 (m32 a0 a1 a2) 1)) 1) != (m35 (m32 a0 a1 a2) 1)) = true then false else
              true
set_option maxHeartbeats 8000000 in
theorem e7 {l0_0 : Nat} {a0 : (List K_si)} {a1 : K_si} {a2 : Int} (hy0 : List.length a0 * 24 ≤ 140737488351232) (hy1 : ∀ z ∈ a0, os_si z) (hy2 : ByteArray.size a1.f0 ≤ 140737488351232) : Ev F X (.call 7 [(.one (.bor l0_0 (List.map b_si a0))), (.agg [(.val (.string a1.f0)), (.val (.int .i64 a1.f1))]), (.one (.val (.int .i64 a2)))] [] [] [(.one (.val (.bool (m7 a0 a1 a2))))]) := by
  unfold m7
  have f0 : Ev F X (.call 16 [(.one (.bor (l0_0 + 1) (List.map b_si a0))), (.one (.val (.int .i64 1048576)))] [] [] [(.one (.val (.int .i64 (m16 a0 1048576))))]) := (e16 (a0 := a0) (a1 := 1048576) (by first | with_reducible assumption | omega | assumption | (simp only [List.length_map]; omega) | (simp [ol34, ol35_0]; omega)))
  by_cases h0 : (decide ((m16 a0 1048576) < 0)) = true
  · try simp only [if_pos h0]
    exact callP_ok (ps := []) (os := []) (rs := [(.one (.val (.bool true)))]) (by kernel_rfl) (.r 11 [] [] f0 (.f h0 (.h 18 (.b true) .nil)))
  · try simp only [if_neg h0]
    have f2 : Ev F X (.call 29 [(.agg [(.val (.string a1.f0)), (.val (.int .i64 a1.f1))]), (.one (.val (.int .i64 (m16 a0 1048576))))] [] [] [(.one (.val (.int .i64 (m29 a1 (m16 a0 1048576)))))]) := (e29 (a0 := a1) (a1 := (m16 a0 1048576)))
    by_cases h1 : (decide ((m29 a1 (m16 a0 1048576)) < 0)) = true
    · try simp only [if_pos h1]
      exact callP_ok (ps := []) (os := []) (rs := [(.one (.val (.bool true)))]) (by kernel_rfl) (.r 11 [] [] f0 (.f (nt h0) (.h 18 (.b false) (.r 24 [] [] f2 (.f h1 (.h 31 (.b true) .nil))))))
    · try simp only [if_neg h1]
      have f4 : Ev F X (.call 18 [(.one (.bor (l0_0 + 1) (List.map b_si a0)))] [] [] [(.one (.own 2 (List.map d_si a0)))]) := (g18 (a0 := a0) (by first | with_reducible assumption | omega | assumption | (simp only [List.length_map]; omega) | (simp [ol34, ol35_0]; omega)))
      have f5 : Ev F X (.call 31 [(.agg [(.val (.string a1.f0)), (.val (.int .i64 a1.f1))])] [] [] [(.agg [(.val (.string a1.f0)), (.val (.int .i64 a1.f1))])]) := (e31 (a0 := a1))
      have f6 : 0 + (List.length (List.map d_si a0)) ≤ (List.length (List.map d_si a0)) := (by omega)
      have f7 : fullR (List.take (List.length (List.map d_si a0)) (List.drop 0 (List.map d_si a0))) = true := (ft_si _ _ _)
      have f8 : toBR (List.take (List.length (List.map d_si a0)) (List.drop 0 (List.map d_si a0))) = (List.map b_si a0) := (tb_si _)
      have f9 : Ev F X (.call 30 [(.one (.bor 0 (List.map b_si a0))), (.agg [(.val (.string a1.f0)), (.val (.int .i64 a1.f1))]), (.one (.val (.int .i64 a2)))] [] [] [(.agg [(.val (.int .i64 ((m30 a0 a1 a2).f0))), (.own 2 (List.map d_si ((m30 a0 a1 a2).f1)))])]) := (e30 (a0 := a0) (a1 := a1) (a2 := a2) (by first | with_reducible assumption | omega | assumption | (simp only [List.length_map]; omega) | (simp [ol34, ol35_0]; omega)) (by first | exact True.intro | with_reducible rfl | with_reducible assumption | omega | (simp only [List.length_map, List.length_set, List.length_append, List.length_replicate, List.length_cons, List.length_nil]; omega) | (simp [ol34, ol35_0]; done) | (simp [ol34, ol35_0]; omega) | (simp [List.take_of_length_le, ol34, ol35_0]; done) | (simp [← List.map_take, ← List.map_drop, ol34, ol35_0]; done) | assumption | trivial | (simp [*, ol34, ol35_0, byteRows_eq, ints_y]; done)) (by first | with_reducible assumption | omega | assumption | (simp only [List.length_map]; omega) | (simp [ol34, ol35_0]; omega)))
      have f10 : 0 = 0 := rfl
      have f11 : (List.length (List.map d_si ((m30 a0 a1 a2).f1))) = (List.length (List.map d_si ((m30 a0 a1 a2).f1))) := rfl
      have f12 : Ev F X (.call 18 [(.one (.bor (l0_0 + 1) (List.map b_si a0)))] [] [] [(.one (.own 2 (List.map d_si a0)))]) := (g18 (a0 := a0) (by first | with_reducible assumption | omega | assumption | (simp only [List.length_map]; omega) | (simp [ol34, ol35_0]; omega)))
      have f13 : Ev F X (.call 31 [(.agg [(.val (.string a1.f0)), (.val (.int .i64 a1.f1))])] [] [] [(.agg [(.val (.string a1.f0)), (.val (.int .i64 a1.f1))])]) := (e31 (a0 := a1))
      have f14 : 0 + (List.length (List.map d_si a0)) ≤ (List.length (List.map d_si a0)) := (by omega)
      have f15 : fullR (List.take (List.length (List.map d_si a0)) (List.drop 0 (List.map d_si a0))) = true := (ft_si _ _ _)
      have f16 : toBR (List.take (List.length (List.map d_si a0)) (List.drop 0 (List.map d_si a0))) = (List.map b_si a0) := (tb_si _)
      have f17 : Ev F X (.call 32 [(.one (.bor 0 (List.map b_si a0))), (.agg [(.val (.string a1.f0)), (.val (.int .i64 a1.f1))]), (.one (.val (.int .i64 a2)))] [] [] [(.agg [(.val (.int .i64 ((m32 a0 a1 a2).f0))), (.own 2 (List.map d_si ((m32 a0 a1 a2).f1)))])]) := (e32 (a0 := a0) (a1 := a1) (a2 := a2) (by first | with_reducible assumption | omega | assumption | (simp only [List.length_map]; omega) | (simp [ol34, ol35_0]; omega)))
      have f18 : 0 = 0 := rfl
      have f19 : (List.length (List.map d_si ((m32 a0 a1 a2).f1))) = (List.length (List.map d_si ((m32 a0 a1 a2).f1))) := rfl
      have f20 : 0 + (List.length (List.map d_si ((m32 a0 a1 a2).f1))) ≤ (List.length (List.map d_si ((m32 a0 a1 a2).f1))) := (by omega)
      have f21 : fullR (List.take (List.length (List.map d_si ((m32 a0 a1 a2).f1))) (List.drop 0 (List.map d_si ((m32 a0 a1 a2).f1)))) = true := (ft_si _ _ _)
      have f22 : toBR (List.take (List.length (List.map d_si ((m32 a0 a1 a2).f1))) (List.drop 0 (List.map d_si ((m32 a0 a1 a2).f1)))) = (List.map b_si ((m32 a0 a1 a2).f1)) := (tb_si _)
      have f23 : 0 + (List.length (List.map d_si ((m30 a0 a1 a2).f1))) ≤ (List.length (List.map d_si ((m30 a0 a1 a2).f1))) := (by omega)
      have f24 : fullR (List.take (List.length (List.map d_si ((m30 a0 a1 a2).f1))) (List.drop 0 (List.map d_si ((m30 a0 a1 a2).f1)))) = true := (ft_si _ _ _)
      have f25 : toBR (List.take (List.length (List.map d_si ((m30 a0 a1 a2).f1))) (List.drop 0 (List.map d_si ((m30 a0 a1 a2).f1)))) = (List.map b_si ((m30 a0 a1 a2).f1)) := (tb_si _)
      have f26 : Ev F X (.call 33 [(.agg [(.val (.int .i64 ((m32 a0 a1 a2).f0))), (.bor 0 (List.map b_si ((m32 a0 a1 a2).f1)))]), (.agg [(.val (.int .i64 ((m30 a0 a1 a2).f0))), (.bor 0 (List.map b_si ((m30 a0 a1 a2).f1)))])] [] [] [(.one (.val (.bool (m33 (m32 a0 a1 a2) (m30 a0 a1 a2)))))]) := (e33 (a0 := (m32 a0 a1 a2)) (a1 := (m30 a0 a1 a2)) (by first | with_reducible assumption | omega | (have q := okm32 a0 a1 a2; exact q) | (unfold m32; (repeat' split) <;> simp_all <;> omega) | assumption | (simp only [List.length_map]; omega) | (simp [ol34, ol35_0]; omega)) (by first | with_reducible assumption | omega | (have q := okm30 a0 a1 a2; exact q) | (unfold m30; (repeat' split) <;> simp_all <;> omega) | assumption | (simp only [List.length_map]; omega) | (simp [ol34, ol35_0]; omega)))
      by_cases h2 : (!(m33 (m32 a0 a1 a2) (m30 a0 a1 a2))) = true
      · try simp only [if_pos h2]
        exact callP_ok (ps := []) (os := []) (rs := [(.one (.val (.bool false)))]) (by kernel_rfl) (.r 11 [] [] f0 (.f (nt h0) (.h 18 (.b false) (.r 24 [] [] f2 (.f (nt h1) (.h 31 (.b false) (.r 35 [] [] f4 (.r 39 [] [] f5 (.f f6 (.f f7 (.f f8 (.r 43 [] [(List.map b_si a0)] f9 (.f f10 (.f f11 (.r 51 [] [] f12 (.r 59 [] [] f13 (.f f14 (.f f15 (.f f16 (.r 63 [] [(List.map b_si a0)] f17 (.f f18 (.f f19 (.f f20 (.f f21 (.f f22 (.f f23 (.f f24 (.f f25 (.r 73 [] [(List.map b_si ((m32 a0 a1 a2).f1)), (List.map b_si ((m30 a0 a1 a2).f1))] f26 (.f h2 (.h 76 (.b true) .nil)))))))))))))))))))))))))))))))
      · try simp only [if_neg h2]
        have f28 : Ev F X (.call 18 [(.one (.bor (l0_0 + 1) (List.map b_si a0)))] [] [] [(.one (.own 2 (List.map d_si a0)))]) := (g18 (a0 := a0) (by first | with_reducible assumption | omega | assumption | (simp only [List.length_map]; omega) | (simp [ol34, ol35_0]; omega)))
        have f29 : 0 + (List.length (List.map d_si a0)) ≤ (List.length (List.map d_si a0)) := (by omega)
        have f30 : fullR (List.take (List.length (List.map d_si a0)) (List.drop 0 (List.map d_si a0))) = true := (ft_si _ _ _)
        have f31 : toBR (List.take (List.length (List.map d_si a0)) (List.drop 0 (List.map d_si a0))) = (List.map b_si a0) := (tb_si _)
        have f32 : 0 + (List.length (List.map d_si a0)) ≤ (List.length (List.map d_si a0)) := (by omega)
        have f33 : fullR (List.take (List.length (List.map d_si a0)) (List.drop 0 (List.map d_si a0))) = true := (ft_si _ _ _)
        have f34 : toBR (List.take (List.length (List.map d_si a0)) (List.drop 0 (List.map d_si a0))) = (List.map b_si a0) := (tb_si _)
        have f35 : Ev F X (.call 20 [(.one (.bor 0 (List.map b_si a0))), (.one (.bor 0 (List.map b_si a0)))] [] [] [(.one (.val (.bool (m20 a0 a0))))]) := (e20 (a0 := a0) (a1 := a0) (by first | with_reducible assumption | omega | assumption | (simp only [List.length_map]; omega) | (simp [ol34, ol35_0]; omega)) (by first | with_reducible assumption | omega | assumption | (simp only [List.length_map]; omega) | (simp [ol34, ol35_0]; omega)))
        by_cases h3 : (!(m20 a0 a0)) = true
        · try simp only [if_pos h3]
          exact callP_ok (ps := []) (os := []) (rs := [(.one (.val (.bool false)))]) (by kernel_rfl) (.r 11 [] [] f0 (.f (nt h0) (.h 18 (.b false) (.r 24 [] [] f2 (.f (nt h1) (.h 31 (.b false) (.r 35 [] [] f4 (.r 39 [] [] f5 (.f f6 (.f f7 (.f f8 (.r 43 [] [(List.map b_si a0)] f9 (.f f10 (.f f11 (.r 51 [] [] f12 (.r 59 [] [] f13 (.f f14 (.f f15 (.f f16 (.r 63 [] [(List.map b_si a0)] f17 (.f f18 (.f f19 (.f f20 (.f f21 (.f f22 (.f f23 (.f f24 (.f f25 (.r 73 [] [(List.map b_si ((m32 a0 a1 a2).f1)), (List.map b_si ((m30 a0 a1 a2).f1))] f26 (.f (nt h2) (.h 76 (.b false) (.r 82 [] [] f28 (.f f29 (.f f30 (.f f31 (.f f32 (.f f33 (.f f34 (.r 84 [] [(List.map b_si a0), (List.map b_si a0)] f35 (.f h3 (.h 87 (.b true) .nil)))))))))))))))))))))))))))))))))))))))))
        · try simp only [if_neg h3]
          have f37 : pureR (List.map d_si a0) = true := (pureR_si _)
          have f38 : Ev F X (.call 34 [(.one (.ref ⟨(0, 0, 0), [], 0, (List.length (List.map d_si a0))⟩)), (.one (.val (.int .i64 1)))] [((0, 0, 0), ⟨2, (List.map d_si a0), []⟩)] [(List.map d_si (o34_0 a0 1))] [(.one (.val (.int .i64 (m34 a0 1))))]) := (e34 (a0 := a0) (a1 := 1) (by first | with_reducible assumption | omega | assumption | (simp only [List.length_map]; omega) | (simp [ol34, ol35_0]; omega)))
          by_cases h4 : (decide ((m34 a0 1) < 0)) = true
          · try simp only [if_pos h4]
            exact callP_ok (ps := []) (os := []) (rs := [(.one (.val (.bool false)))]) (by kernel_rfl) (.r 11 [] [] f0 (.f (nt h0) (.h 18 (.b false) (.r 24 [] [] f2 (.f (nt h1) (.h 31 (.b false) (.r 35 [] [] f4 (.r 39 [] [] f5 (.f f6 (.f f7 (.f f8 (.r 43 [] [(List.map b_si a0)] f9 (.f f10 (.f f11 (.r 51 [] [] f12 (.r 59 [] [] f13 (.f f14 (.f f15 (.f f16 (.r 63 [] [(List.map b_si a0)] f17 (.f f18 (.f f19 (.f f20 (.f f21 (.f f22 (.f f23 (.f f24 (.f f25 (.r 73 [] [(List.map b_si ((m32 a0 a1 a2).f1)), (List.map b_si ((m30 a0 a1 a2).f1))] f26 (.f (nt h2) (.h 76 (.b false) (.r 82 [] [] f28 (.f f29 (.f f30 (.f f31 (.f f32 (.f f33 (.f f34 (.r 84 [] [(List.map b_si a0), (List.map b_si a0)] f35 (.f (nt h3) (.f f37 (.h 87 (.b false) (.r 95 [true] [] f38 (.f h4 (.f h4 (.f h4 (.f h4 (.f h4 (.h 104 (.b true) (.h 106 (.b true) (.h 108 (.b true) (.h 110 (.b true) (.h 113 (.b true) .nil)))))))))))))))))))))))))))))))))))))))))))))))))))))
          · try simp only [if_neg h4]
            have f42 : 0 + (List.length (List.map d_si ((m32 a0 a1 a2).f1))) ≤ (List.length (List.map d_si ((m32 a0 a1 a2).f1))) := (by omega)
            have f43 : fullR (List.take (List.length (List.map d_si ((m32 a0 a1 a2).f1))) (List.drop 0 (List.map d_si ((m32 a0 a1 a2).f1)))) = true := (ft_si _ _ _)
            have f44 : toBR (List.take (List.length (List.map d_si ((m32 a0 a1 a2).f1))) (List.drop 0 (List.map d_si ((m32 a0 a1 a2).f1)))) = (List.map b_si ((m32 a0 a1 a2).f1)) := (tb_si _)
            have f45 : 0 + (List.length (List.map d_si ((m30 a0 a1 a2).f1))) ≤ (List.length (List.map d_si ((m30 a0 a1 a2).f1))) := (by omega)
            have f46 : fullR (List.take (List.length (List.map d_si ((m30 a0 a1 a2).f1))) (List.drop 0 (List.map d_si ((m30 a0 a1 a2).f1)))) = true := (ft_si _ _ _)
            have f47 : toBR (List.take (List.length (List.map d_si ((m30 a0 a1 a2).f1))) (List.drop 0 (List.map d_si ((m30 a0 a1 a2).f1)))) = (List.map b_si ((m30 a0 a1 a2).f1)) := (tb_si _)
            have f48 : Ev F X (.call 33 [(.agg [(.val (.int .i64 ((m32 a0 a1 a2).f0))), (.bor 0 (List.map b_si ((m32 a0 a1 a2).f1)))]), (.agg [(.val (.int .i64 ((m30 a0 a1 a2).f0))), (.bor 0 (List.map b_si ((m30 a0 a1 a2).f1)))])] [] [] [(.one (.val (.bool (m33 (m32 a0 a1 a2) (m30 a0 a1 a2)))))]) := (e33 (a0 := (m32 a0 a1 a2)) (a1 := (m30 a0 a1 a2)) (by first | with_reducible assumption | omega | (have q := okm32 a0 a1 a2; exact q) | (unfold m32; (repeat' split) <;> simp_all <;> omega) | assumption | (simp only [List.length_map]; omega) | (simp [ol34, ol35_0]; omega)) (by first | with_reducible assumption | omega | (have q := okm30 a0 a1 a2; exact q) | (unfold m30; (repeat' split) <;> simp_all <;> omega) | assumption | (simp only [List.length_map]; omega) | (simp [ol34, ol35_0]; omega)))
            have f52 : pureR (List.map d_si ((m32 a0 a1 a2).f1)) = true := (by first | with_reducible assumption | (simp [ol34, ol35_0]; done) | (simp [List.take_of_length_le, ol34, ol35_0]; done) | (simp [← List.map_take, ← List.map_drop, ol34, ol35_0]; done) | (unfold m32; (repeat' split) <;> simp_all <;> omega) | assumption | trivial | (simp [*, ol34, ol35_0, b_si, d_si, byteRows_eq, ints_y]; done))
            have f53 : Ev F X (.call 35 [(.agg [(.val (.int .i64 ((m32 a0 a1 a2).f0))), (.ref ⟨(0, 0, 0), [], 0, (List.length (List.map d_si ((m32 a0 a1 a2).f1)))⟩)]), (.one (.val (.int .i64 1)))] [((0, 0, 0), ⟨2, (List.map d_si ((m32 a0 a1 a2).f1)), []⟩)] [(List.map d_si (o35_0 (m32 a0 a1 a2) 1))] [(.one (.val (.int .i64 (m35 (m32 a0 a1 a2) 1))))]) := (e35 (a0 := (m32 a0 a1 a2)) (a1 := 1) (by first | with_reducible assumption | omega | (have q := okm32 a0 a1 a2; exact q) | (unfold m32; (repeat' split) <;> simp_all <;> omega) | assumption | (simp only [List.length_map]; omega) | (simp [ol34, ol35_0]; omega)))
            have f54 : 0 + (List.length (List.map d_si (o35_0 (m32 a0 a1 a2) 1))) ≤ (List.length (List.map d_si (o35_0 (m32 a0 a1 a2) 1))) := (by omega)
            have f55 : fullR (List.take (List.length (List.map d_si (o35_0 (m32 a0 a1 a2) 1))) (List.drop 0 (List.map d_si (o35_0 (m32 a0 a1 a2) 1)))) = true := (ft_si _ _ _)
            have f56 : toBR (List.take (List.length (List.map d_si (o35_0 (m32 a0 a1 a2) 1))) (List.drop 0 (List.map d_si (o35_0 (m32 a0 a1 a2) 1)))) = (List.map b_si (o35_0 (m32 a0 a1 a2) 1)) := (tb_si _)
            have f57 : Ev F X (.call 36 [(.agg [(.val (.int .i64 ((m32 a0 a1 a2).f0))), (.bor 0 (List.map b_si (o35_0 (m32 a0 a1 a2) 1)))]), (.one (.val (.int .i64 1)))] [] [] [(.one (.val (.int .i64 (m36 (K_iLsiE.mk ((m32 a0 a1 a2).f0) (o35_0 (m32 a0 a1 a2) 1)) 1))))]) := (e36 (a0 := (K_iLsiE.mk ((m32 a0 a1 a2).f0) (o35_0 (m32 a0 a1 a2) 1))) (a1 := 1) (by first | with_reducible assumption | omega | (have q := okm32 a0 a1 a2; exact q) | (have q := okm32 a0 a1 a2; rw [ol35_0]; exact q) | (unfold m32; (repeat' split) <;> simp_all <;> omega) | assumption | (simp only [List.length_map]; omega) | (simp [ol34, ol35_0]; omega)))
            by_cases h5 : (decide ((m36 (K_iLsiE.mk ((m32 a0 a1 a2).f0) (o35_0 (m32 a0 a1 a2) 1)) 1) < 0)) = true
            · try simp only [if_pos h5]
              exact callP_ok (ps := []) (os := []) (rs := [(.one (.val (.bool false)))]) (by kernel_rfl) (.r 11 [] [] f0 (.f (nt h0) (.h 18 (.b false) (.r 24 [] [] f2 (.f (nt h1) (.h 31 (.b false) (.r 35 [] [] f4 (.r 39 [] [] f5 (.f f6 (.f f7 (.f f8 (.r 43 [] [(List.map b_si a0)] f9 (.f f10 (.f f11 (.r 51 [] [] f12 (.r 59 [] [] f13 (.f f14 (.f f15 (.f f16 (.r 63 [] [(List.map b_si a0)] f17 (.f f18 (.f f19 (.f f20 (.f f21 (.f f22 (.f f23 (.f f24 (.f f25 (.r 73 [] [(List.map b_si ((m32 a0 a1 a2).f1)), (List.map b_si ((m30 a0 a1 a2).f1))] f26 (.f (nt h2) (.h 76 (.b false) (.r 82 [] [] f28 (.f f29 (.f f30 (.f f31 (.f f32 (.f f33 (.f f34 (.r 84 [] [(List.map b_si a0), (List.map b_si a0)] f35 (.f (nt h3) (.f f37 (.h 87 (.b false) (.r 95 [true] [] f38 (.f (nt h4) (.f (nt h4) (.f (nt h4) (.f f42 (.f f43 (.f f44 (.f f45 (.f f46 (.f f47 (.h 104 (.b false) (.h 106 (.b false) (.h 108 (.b false) (.r 109 [] [(List.map b_si ((m32 a0 a1 a2).f1)), (List.map b_si ((m30 a0 a1 a2).f1))] f48 (.f (nt h4) (.f (nt h4) (.f (nt h2) (.f f52 (.h 110 (.b false) (.h 113 (.b false) (.h 114 (.b false) (.r 122 [true] [] f53 (.f f54 (.f f55 (.f f56 (.r 132 [] [(List.map b_si (o35_0 (m32 a0 a1 a2) 1))] f57 (.f h5 (.h 139 (.b true) .nil))))))))))))))))))))))))))))))))))))))))))))))))))))))))))))))))))))))
            · try simp only [if_neg h5]
              by_cases h6 : ((m36 (K_iLsiE.mk ((m32 a0 a1 a2).f0) (o35_0 (m32 a0 a1 a2) 1)) 1) != (m35 (m32 a0 a1 a2) 1)) = true
              · try simp only [if_pos h6]
                exact callP_ok (ps := []) (os := []) (rs := [(.one (.val (.bool false)))]) (by kernel_rfl) (.r 11 [] [] f0 (.f (nt h0) (.h 18 (.b false) (.r 24 [] [] f2 (.f (nt h1) (.h 31 (.b false) (.r 35 [] [] f4 (.r 39 [] [] f5 (.f f6 (.f f7 (.f f8 (.r 43 [] [(List.map b_si a0)] f9 (.f f10 (.f f11 (.r 51 [] [] f12 (.r 59 [] [] f13 (.f f14 (.f f15 (.f f16 (.r 63 [] [(List.map b_si a0)] f17 (.f f18 (.f f19 (.f f20 (.f f21 (.f f22 (.f f23 (.f f24 (.f f25 (.r 73 [] [(List.map b_si ((m32 a0 a1 a2).f1)), (List.map b_si ((m30 a0 a1 a2).f1))] f26 (.f (nt h2) (.h 76 (.b false) (.r 82 [] [] f28 (.f f29 (.f f30 (.f f31 (.f f32 (.f f33 (.f f34 (.r 84 [] [(List.map b_si a0), (List.map b_si a0)] f35 (.f (nt h3) (.f f37 (.h 87 (.b false) (.r 95 [true] [] f38 (.f (nt h4) (.f (nt h4) (.f (nt h4) (.f f42 (.f f43 (.f f44 (.f f45 (.f f46 (.f f47 (.h 104 (.b false) (.h 106 (.b false) (.h 108 (.b false) (.r 109 [] [(List.map b_si ((m32 a0 a1 a2).f1)), (List.map b_si ((m30 a0 a1 a2).f1))] f48 (.f (nt h4) (.f (nt h4) (.f (nt h2) (.f f52 (.h 110 (.b false) (.h 113 (.b false) (.h 114 (.b false) (.r 122 [true] [] f53 (.f f54 (.f f55 (.f f56 (.r 132 [] [(List.map b_si (o35_0 (m32 a0 a1 a2) 1))] f57 (.f (nt h5) (.f h6 (.h 139 (.b false) (.h 146 (.b true) .nil))))))))))))))))))))))))))))))))))))))))))))))))))))))))))))))))))))))))
              · try simp only [if_neg h6]
                have f60 : Ev F X (.call 18 [(.one (.bor (l0_0 + 1) (List.map b_si a0)))] [] [] [(.one (.own 2 (List.map d_si a0)))]) := (g18 (a0 := a0) (by first | with_reducible assumption | omega | assumption | (simp only [List.length_map]; omega) | (simp [ol34, ol35_0]; omega)))
                have f61 : Ev F X (.call 31 [(.agg [(.val (.string a1.f0)), (.val (.int .i64 a1.f1))])] [] [] [(.agg [(.val (.string a1.f0)), (.val (.int .i64 a1.f1))])]) := (e31 (a0 := a1))
                have f62 : 0 + (List.length (List.map d_si a0)) ≤ (List.length (List.map d_si a0)) := (by omega)
                have f63 : fullR (List.take (List.length (List.map d_si a0)) (List.drop 0 (List.map d_si a0))) = true := (ft_si _ _ _)
                have f64 : toBR (List.take (List.length (List.map d_si a0)) (List.drop 0 (List.map d_si a0))) = (List.map b_si a0) := (tb_si _)
                have f65 : Ev F X (.call 32 [(.one (.bor 0 (List.map b_si a0))), (.agg [(.val (.string a1.f0)), (.val (.int .i64 a1.f1))]), (.one (.val (.int .i64 a2)))] [] [] [(.agg [(.val (.int .i64 ((m32 a0 a1 a2).f0))), (.own 2 (List.map d_si ((m32 a0 a1 a2).f1)))])]) := (e32 (a0 := a0) (a1 := a1) (a2 := a2) (by first | with_reducible assumption | omega | assumption | (simp only [List.length_map]; omega) | (simp [ol34, ol35_0]; omega)))
                have f66 : 0 = 0 := rfl
                have f67 : (List.length (List.map d_si ((m32 a0 a1 a2).f1))) = (List.length (List.map d_si ((m32 a0 a1 a2).f1))) := rfl
                have f68 : 0 + (List.length (List.map d_si ((m32 a0 a1 a2).f1))) ≤ (List.length (List.map d_si ((m32 a0 a1 a2).f1))) := (by omega)
                have f69 : fullR (List.take (List.length (List.map d_si ((m32 a0 a1 a2).f1))) (List.drop 0 (List.map d_si ((m32 a0 a1 a2).f1)))) = true := (ft_si _ _ _)
                have f70 : toBR (List.take (List.length (List.map d_si ((m32 a0 a1 a2).f1))) (List.drop 0 (List.map d_si ((m32 a0 a1 a2).f1)))) = (List.map b_si ((m32 a0 a1 a2).f1)) := (tb_si _)
                have f71 : 0 + (List.length (List.map d_si ((m30 a0 a1 a2).f1))) ≤ (List.length (List.map d_si ((m30 a0 a1 a2).f1))) := (by omega)
                have f72 : fullR (List.take (List.length (List.map d_si ((m30 a0 a1 a2).f1))) (List.drop 0 (List.map d_si ((m30 a0 a1 a2).f1)))) = true := (ft_si _ _ _)
                have f73 : toBR (List.take (List.length (List.map d_si ((m30 a0 a1 a2).f1))) (List.drop 0 (List.map d_si ((m30 a0 a1 a2).f1)))) = (List.map b_si ((m30 a0 a1 a2).f1)) := (tb_si _)
                have f74 : Ev F X (.call 33 [(.agg [(.val (.int .i64 ((m32 a0 a1 a2).f0))), (.bor 0 (List.map b_si ((m32 a0 a1 a2).f1)))]), (.agg [(.val (.int .i64 ((m30 a0 a1 a2).f0))), (.bor 0 (List.map b_si ((m30 a0 a1 a2).f1)))])] [] [] [(.one (.val (.bool (m33 (m32 a0 a1 a2) (m30 a0 a1 a2)))))]) := (e33 (a0 := (m32 a0 a1 a2)) (a1 := (m30 a0 a1 a2)) (by first | with_reducible assumption | omega | (have q := okm32 a0 a1 a2; exact q) | (unfold m32; (repeat' split) <;> simp_all <;> omega) | assumption | (simp only [List.length_map]; omega) | (simp [ol34, ol35_0]; omega)) (by first | with_reducible assumption | omega | (have q := okm30 a0 a1 a2; exact q) | (unfold m30; (repeat' split) <;> simp_all <;> omega) | assumption | (simp only [List.length_map]; omega) | (simp [ol34, ol35_0]; omega)))
                have f76 : 0 + (List.length (List.map d_si (o35_0 (m32 a0 a1 a2) 1))) ≤ (List.length (List.map d_si (o35_0 (m32 a0 a1 a2) 1))) := (by omega)
                have f77 : fullR (List.take (List.length (List.map d_si (o35_0 (m32 a0 a1 a2) 1))) (List.drop 0 (List.map d_si (o35_0 (m32 a0 a1 a2) 1)))) = true := (ft_si _ _ _)
                have f78 : toBR (List.take (List.length (List.map d_si (o35_0 (m32 a0 a1 a2) 1))) (List.drop 0 (List.map d_si (o35_0 (m32 a0 a1 a2) 1)))) = (List.map b_si (o35_0 (m32 a0 a1 a2) 1)) := (tb_si _)
                have f79 : Ev F X (.call 36 [(.agg [(.val (.int .i64 ((m32 a0 a1 a2).f0))), (.bor 0 (List.map b_si (o35_0 (m32 a0 a1 a2) 1)))]), (.one (.val (.int .i64 1)))] [] [] [(.one (.val (.int .i64 (m36 (K_iLsiE.mk ((m32 a0 a1 a2).f0) (o35_0 (m32 a0 a1 a2) 1)) 1))))]) := (e36 (a0 := (K_iLsiE.mk ((m32 a0 a1 a2).f0) (o35_0 (m32 a0 a1 a2) 1))) (a1 := 1) (by first | with_reducible assumption | omega | (have q := okm32 a0 a1 a2; exact q) | (have q := okm32 a0 a1 a2; rw [ol35_0]; exact q) | (unfold m32; (repeat' split) <;> simp_all <;> omega) | assumption | (simp only [List.length_map]; omega) | (simp [ol34, ol35_0]; omega)))
                exact callP_ok (ps := []) (os := []) (rs := [(.one (.val (.bool true)))]) (by kernel_rfl) (.r 11 [] [] f0 (.f (nt h0) (.h 18 (.b false) (.r 24 [] [] f2 (.f (nt h1) (.h 31 (.b false) (.r 35 [] [] f4 (.r 39 [] [] f5 (.f f6 (.f f7 (.f f8 (.r 43 [] [(List.map b_si a0)] f9 (.f f10 (.f f11 (.r 51 [] [] f12 (.r 59 [] [] f13 (.f f14 (.f f15 (.f f16 (.r 63 [] [(List.map b_si a0)] f17 (.f f18 (.f f19 (.f f20 (.f f21 (.f f22 (.f f23 (.f f24 (.f f25 (.r 73 [] [(List.map b_si ((m32 a0 a1 a2).f1)), (List.map b_si ((m30 a0 a1 a2).f1))] f26 (.f (nt h2) (.h 76 (.b false) (.r 82 [] [] f28 (.f f29 (.f f30 (.f f31 (.f f32 (.f f33 (.f f34 (.r 84 [] [(List.map b_si a0), (List.map b_si a0)] f35 (.f (nt h3) (.f f37 (.h 87 (.b false) (.r 95 [true] [] f38 (.f (nt h4) (.f (nt h4) (.f (nt h4) (.f f42 (.f f43 (.f f44 (.f f45 (.f f46 (.f f47 (.h 104 (.b false) (.h 106 (.b false) (.h 108 (.b false) (.r 109 [] [(List.map b_si ((m32 a0 a1 a2).f1)), (List.map b_si ((m30 a0 a1 a2).f1))] f48 (.f (nt h4) (.f (nt h4) (.f (nt h2) (.f f52 (.h 110 (.b false) (.h 113 (.b false) (.h 114 (.b false) (.r 122 [true] [] f53 (.f f54 (.f f55 (.f f56 (.r 132 [] [(List.map b_si (o35_0 (m32 a0 a1 a2) 1))] f57 (.f (nt h5) (.f (nt h6) (.h 139 (.b false) (.h 146 (.b false) (.r 150 [] [] f60 (.r 154 [] [] f61 (.f f62 (.f f63 (.f f64 (.r 158 [] [(List.map b_si a0)] f65 (.f f66 (.f f67 (.f f68 (.f f69 (.f f70 (.f f71 (.f f72 (.f f73 (.r 168 [] [(List.map b_si ((m32 a0 a1 a2).f1)), (List.map b_si ((m30 a0 a1 a2).f1))] f74 (.f (nt h2) (.f f76 (.f f77 (.f f78 (.h 171 (.b false) (.r 179 [] [(List.map b_si (o35_0 (m32 a0 a1 a2) 1))] f79 (.f (nt h5) (.f (nt h6) (.h 186 (.b false) (.h 193 (.b false) .nil)))))))))))))))))))))))))))))))))))))))))))))))))))))))))))))))))))))))))))))))))))))))))))))))))
/-! weights -/
def wt_si (x : K_si) : Nat := 2
theorem wts_si : ∀ (l : List K_si), (List.map wt_si l).sum = l.length * 2
  | [] => rfl
  | x :: l => by simp only [List.map_cons, List.sum_cons, wts_si l, List.length_cons, wt_si]; omega
def wt_LsiE (x : (List K_si)) : Nat := 0 + (List.map wt_si x).sum
def wt_i (x : Int) : Nat := 1
theorem wts_i : ∀ (l : List Int), (List.map wt_i l).sum = l.length * 1
  | [] => rfl
  | x :: l => by simp only [List.map_cons, List.sum_cons, wts_i l, List.length_cons, wt_i]; omega
def wt_b (x : Bool) : Nat := 1
theorem wts_b : ∀ (l : List Bool), (List.map wt_b l).sum = l.length * 1
  | [] => rfl
  | x :: l => by simp only [List.map_cons, List.sum_cons, wts_b l, List.length_cons, wt_b]; omega
def wt_iLsiE (x : K_iLsiE) : Nat := 1 + (List.map wt_si x.f1).sum
def wt_s (x : ByteArray) : Nat := 1
theorem wts_s : ∀ (l : List ByteArray), (List.map wt_s l).sum = l.length * 1
  | [] => rfl
  | x :: l => by simp only [List.map_cons, List.sum_cons, wts_s l, List.length_cons, wt_s]; omega
def wt_y (x : Int) : Nat := 1
theorem wts_y : ∀ (l : List Int), (List.map wt_y l).sum = l.length * 1
  | [] => rfl
  | x :: l => by simp only [List.map_cons, List.sum_cons, wts_y l, List.length_cons, wt_y]; omega
/-! marks of loop.example/g00539/laws.markWeightS -/
theorem mr34_0 (a0 : List K_si) : ∀ (l p : List K_si) (v1_34_0 : Int), 0 ≤ v1_34_0 → v1_34_0 + ((List.map wt_si l).sum : Nat) ≤ 4611686018427387904 → ∃ (q : List K_si) (k' : Int) (w2 : _) (w3 : _), r34_0 a0 l (p.length : Int) (p ++ l) v1_34_0 = .k0 (p ++ q) k' w2 w3 ∧ q.length = l.length ∧ v1_34_0 ≤ k' ∧ k' ≤ v1_34_0 + ((List.map wt_si l).sum : Nat) ∧ ∀ (c : List K_si) (j : Int), ∃ u1 u2, r76_0 c q j v1_34_0 = .k0 k' u1 u2
  | [], p, v1_34_0, h0, h1 => ⟨[], v1_34_0, (p.length : Int), (decide ((p.length : Int) < ((List.length (List.map d_si a0)) : Int))), rfl, rfl, by omega, by simp, fun c j => ⟨j, (decide (j < ((List.length (List.map b_si c)) : Int))), rfl⟩⟩
  | x0_34_0 :: l, p, v1_34_0, h0, h1 => by
    simp only [List.map_cons, List.sum_cons, wt_si] at h1 ⊢
    obtain ⟨q, k', w2, w3, e1, e2, e3, e4, e5⟩ := mr34_0 a0 l (p ++ [(K_si.mk (m75 v1_34_0) (v1_34_0 + 1))]) ((v1_34_0 + 1) + 1) (by omega) (by omega)
    refine ⟨(K_si.mk (m75 v1_34_0) (v1_34_0 + 1)) :: q, k', w2, w3, ?_, by simp [e2], by omega, by omega, ?_⟩
    · have e : List.set (p ++ x0_34_0 :: l) (Int.toNat (p.length : Int)) (K_si.mk (m75 v1_34_0) (v1_34_0 + 1)) = (p ++ [(K_si.mk (m75 v1_34_0) (v1_34_0 + 1))]) ++ l := by simp
      have e0 : ((p ++ [(K_si.mk (m75 v1_34_0) (v1_34_0 + 1))]).length : Int) = (p.length : Int) + 1 := by simp
      rw [e0] at e1
      simp (disch := omega) only [r34_0, wrap64d]
      first | (rw [e, e1]; simp; done) | (simp only [e, e1]; simp; done)
    · intro c j
      obtain ⟨u1, u2, g⟩ := e5 c (j + 1)
      refine ⟨u1, u2, ?_⟩
      simp (disch := omega) only [r76_0, wrap64d]
      first | (simpa using g) | (simp_all; done)
theorem mh34 (a : List K_si) (k : Int) (h0 : 0 ≤ k) (h1 : k + ((List.map wt_si a).sum : Nat) ≤ 4611686018427387904) : m76 (o34_0 a k) k = m34 a k ∧ k ≤ m34 a k ∧ m34 a k ≤ k + ((List.map wt_si a).sum : Nat) := by
  obtain ⟨q, k', w2, w3, e1, e2, e3, e4, e5⟩ := mr34_0 a a [] k h0 h1
  obtain ⟨u1, u2, g⟩ := e5 q 0
  simp only [List.nil_append, List.length_nil] at e1
  rw [show ((0 : Nat) : Int) = 0 from rfl] at e1
  unfold m34 o34_0 m76
  rw [e1]; simp only []; rw [g]; exact ⟨rfl, e3, e4⟩
/-! marks of loop.example/g00539/laws.markWeightsResult -/
theorem mh35 (a : K_iLsiE) (k : Int) (h0 : 0 ≤ k) (h1 : k + (wt_iLsiE a : Nat) ≤ 4611686018427387904) : m36 (K_iLsiE.mk a.f0 (o35_0 a k)) k = m35 a k ∧ k ≤ m35 a k ∧ m35 a k ≤ k + (wt_iLsiE a : Nat) := by
  simp only [wt_iLsiE] at h1 ⊢
  have s0 := mh34 a.f1 k (by omega) (by first | omega | (simp only [wt_si, wt_LsiE, wt_i, wt_b, wt_iLsiE, wt_s, wt_y] at *; omega) | (simp only [List.length_map, List.length_nil, List.map_nil, List.sum_nil] at *; omega))
  have t0 := s0.1
  try simp only [List.length_map, wt_si, wt_LsiE, wt_i, wt_b, wt_iLsiE, wt_s, wt_y] at *
  unfold m36 m35 o35_0
  simp (disch := omega) only [wrap64d, t0]
  refine ⟨?_, by omega, by omega⟩
  (repeat' rw [if_neg (by first | (simp; done) | (simp only [decide_eq_true_eq]; omega))]) <;> rfl
theorem ck74 (F : FuncId → Option VFun) (X : Ext) : CkD F X 32 53 2 24 [(.val (.string (⟨#[]⟩ : ByteArray))), (.val (.int .i64 0))] := by
  intro l rows h1 h2
  exact codeH_ok (t := 0) (hs := []) (q := [0 + 0 ≤ 0, (([] : List (List D)) ++ fromBR l rows).length * 24 ≤ 70368744177664, ∀ r ∈ fromBR l rows, r.length = 2]) (by rfl) ⟨by simp, by simpa using h1, h2, trivial⟩
theorem X_ok (f : FuncId) (args : List SV) (rs : List Ret) (h : X f args rs) : CallOK Tryd.prog f args [] [] rs := by
  rcases h with ⟨rfl, h⟩ | ⟨rfl, h⟩
  · exact clone_ok (X := fun _ _ _ => False) (T := 32) (E := 53) (k := 2) (kb := 24) (zero := [(.val (.string (⟨#[]⟩ : ByteArray))), (.val (.int .i64 0))]) (by kernel_rfl) F_ok (fun _ _ _ h => h.elim) (by kernel_rfl) (ck74 _ _) h
  · obtain ⟨s, c, h1, h2, h3, rfl, rfl⟩ := h
    exact trim_ok s c h1 h2 h3
end Go.Proofs.YtcbnpfnebinbkaaDoor.PushWeight
