/- What the functions compute. -/
import Derived.Test.YtdnopbpdiineiaaDoorEServerFaultA
import Derived.KernelRfl
namespace Go.Proofs.YtdnopbpdiineiaaDoor.ServerFault
open Go Go.Proofs.YtdnopbpdiineiaaDoor.V
set_option linter.unusedVariables false
set_option linter.unusedSimpArgs false
set_option maxRecDepth 20000
attribute [local simp] toBR_sisi fullR_sisi pureR_sisi lenB_sisi lenD_sisi fromBR_sisi copy_sisi toBR_LsisiEi fullR_LsisiEi pureR_LsisiEi lenB_LsisiEi lenD_LsisiEi toBR_b fullR_b pureR_b lenB_b lenD_b fromBR_b copy_b toBR_i fullR_i pureR_i lenB_i lenD_i fromBR_i copy_i toBR_LsisiE fullR_LsisiE pureR_LsisiE lenB_LsisiE lenD_LsisiE toBR_s fullR_s pureR_s lenB_s lenD_s fromBR_s copy_s strInts_len byteRows_len toBR_y fullR_y pureR_y lenB_y lenD_y fromBR_y copy_y
/-! loop.example/g00539/laws.FnExactServerFault -/
def m7 (a0 : K_LsisiEi) : Bool :=
  if (decide ((m44 a0 1048576) < 0)) = true then true else
  if ((m47 a0) != (m90 a0)) = true then false else
    if (!(m48 a0 a0)) = true then false else
      true
set_option maxHeartbeats 8000000 in
theorem e7 {l0_0 : Nat} {a0 : K_LsisiEi} (hy0 : List.length a0.f0 * 48 ≤ 140737488351232) (hy1 : ∀ z ∈ a0.f0, os_sisi z) : Ev F X (.call 7 [(.agg [(.bor l0_0 (List.map b_sisi a0.f0)), (.val (.int .i64 a0.f1))])] [] [] [(.one (.val (.bool (m7 a0))))]) := by
  unfold m7
  have f0 : Ev F X (.call 44 [(.agg [(.bor (l0_0 + 1) (List.map b_sisi a0.f0)), (.val (.int .i64 a0.f1))]), (.one (.val (.int .i64 1048576)))] [] [] [(.one (.val (.int .i64 (m44 a0 1048576))))]) := (e44 (a0 := a0) (a1 := 1048576) (by first | with_reducible assumption | omega | assumption | (simp only [List.length_map]; omega) | (simp; omega)))
  by_cases h0 : (decide ((m44 a0 1048576) < 0)) = true
  · try simp only [if_pos h0]
    exact callP_ok (ps := []) (os := []) (rs := [(.one (.val (.bool true)))]) (by kernel_rfl) (.r 11 [] [] f0 (.f h0 (.h 18 (.b true) .nil)))
  · try simp only [if_neg h0]
    have f2 : Ev F X (.call 46 [(.agg [(.bor (l0_0 + 1) (List.map b_sisi a0.f0)), (.val (.int .i64 a0.f1))])] [] [] [(.agg [(.own 4 (List.map d_sisi a0.f0)), (.val (.int .i64 a0.f1))])]) := (e46 (a0 := a0) (by first | with_reducible assumption | omega | assumption | (simp only [List.length_map]; omega) | (simp; omega)))
    have f3 : 0 + (List.length (List.map d_sisi a0.f0)) ≤ (List.length (List.map d_sisi a0.f0)) := (by omega)
    have f4 : fullR (List.take (List.length (List.map d_sisi a0.f0)) (List.drop 0 (List.map d_sisi a0.f0))) = true := (ft_sisi _ _ _)
    have f5 : toBR (List.take (List.length (List.map d_sisi a0.f0)) (List.drop 0 (List.map d_sisi a0.f0))) = (List.map b_sisi a0.f0) := (tb_sisi _)
    have f6 : Ev F X (.call 45 [(.agg [(.bor 0 (List.map b_sisi a0.f0)), (.val (.int .i64 a0.f1))])] [] [] [(.one (.val (.int .i64 (m90 a0))))]) := (e45 (a0 := a0) (by first | with_reducible assumption | omega | assumption | (simp only [List.length_map]; omega) | (simp; omega)) (by first | exact True.intro | with_reducible rfl | with_reducible assumption | omega | (simp only [List.length_map, List.length_set, List.length_append, List.length_replicate, List.length_cons, List.length_nil]; omega) | (simp; done) | (simp; omega) | (simp [List.take_of_length_le]; done) | (simp [← List.map_take, ← List.map_drop]; done) | assumption | trivial | (simp [*, byteRows_eq, ints_y]; done)))
    have f7 : Ev F X (.call 46 [(.agg [(.bor (l0_0 + 1) (List.map b_sisi a0.f0)), (.val (.int .i64 a0.f1))])] [] [] [(.agg [(.own 4 (List.map d_sisi a0.f0)), (.val (.int .i64 a0.f1))])]) := (e46 (a0 := a0) (by first | with_reducible assumption | omega | assumption | (simp only [List.length_map]; omega) | (simp; omega)))
    have f8 : 0 = 0 := rfl
    have f9 : (List.length (List.map d_sisi a0.f0)) = (List.length (List.map d_sisi a0.f0)) := rfl
    have f10 : 0 + (List.length (List.map d_sisi a0.f0)) ≤ (List.length (List.map d_sisi a0.f0)) := (by omega)
    have f11 : fullR (List.take (List.length (List.map d_sisi a0.f0)) (List.drop 0 (List.map d_sisi a0.f0))) = true := (ft_sisi _ _ _)
    have f12 : toBR (List.take (List.length (List.map d_sisi a0.f0)) (List.drop 0 (List.map d_sisi a0.f0))) = (List.map b_sisi a0.f0) := (tb_sisi _)
    have f13 : Ev F X (.call 47 [(.agg [(.bor 0 (List.map b_sisi a0.f0)), (.val (.int .i64 a0.f1))])] [] [] [(.one (.val (.int .i64 (m47 a0))))]) := (e47 (a0 := a0) (by first | with_reducible assumption | omega | assumption | (simp only [List.length_map]; omega) | (simp; omega)))
    by_cases h1 : ((m47 a0) != (m90 a0)) = true
    · try simp only [if_pos h1]
      exact callP_ok (ps := []) (os := []) (rs := [(.one (.val (.bool false)))]) (by kernel_rfl) (.r 11 [] [] f0 (.f (nt h0) (.h 18 (.b false) (.r 22 [] [] f2 (.f f3 (.f f4 (.f f5 (.r 24 [] [(List.map b_sisi a0.f0)] f6 (.r 30 [] [] f7 (.f f8 (.f f9 (.f f10 (.f f11 (.f f12 (.r 38 [] [(List.map b_sisi a0.f0)] f13 (.f h1 (.h 47 (.b true) .nil)))))))))))))))))
    · try simp only [if_neg h1]
      have f15 : Ev F X (.call 46 [(.agg [(.bor (l0_0 + 1) (List.map b_sisi a0.f0)), (.val (.int .i64 a0.f1))])] [] [] [(.agg [(.own 4 (List.map d_sisi a0.f0)), (.val (.int .i64 a0.f1))])]) := (e46 (a0 := a0) (by first | with_reducible assumption | omega | assumption | (simp only [List.length_map]; omega) | (simp; omega)))
      have f16 : 0 + (List.length (List.map d_sisi a0.f0)) ≤ (List.length (List.map d_sisi a0.f0)) := (by omega)
      have f17 : fullR (List.take (List.length (List.map d_sisi a0.f0)) (List.drop 0 (List.map d_sisi a0.f0))) = true := (ft_sisi _ _ _)
      have f18 : toBR (List.take (List.length (List.map d_sisi a0.f0)) (List.drop 0 (List.map d_sisi a0.f0))) = (List.map b_sisi a0.f0) := (tb_sisi _)
      have f19 : 0 + (List.length (List.map d_sisi a0.f0)) ≤ (List.length (List.map d_sisi a0.f0)) := (by omega)
      have f20 : fullR (List.take (List.length (List.map d_sisi a0.f0)) (List.drop 0 (List.map d_sisi a0.f0))) = true := (ft_sisi _ _ _)
      have f21 : toBR (List.take (List.length (List.map d_sisi a0.f0)) (List.drop 0 (List.map d_sisi a0.f0))) = (List.map b_sisi a0.f0) := (tb_sisi _)
      have f22 : Ev F X (.call 48 [(.agg [(.bor 0 (List.map b_sisi a0.f0)), (.val (.int .i64 a0.f1))]), (.agg [(.bor 0 (List.map b_sisi a0.f0)), (.val (.int .i64 a0.f1))])] [] [] [(.one (.val (.bool (m48 a0 a0))))]) := (e48 (a0 := a0) (a1 := a0) (by first | with_reducible assumption | omega | assumption | (simp only [List.length_map]; omega) | (simp; omega)) (by first | with_reducible assumption | omega | assumption | (simp only [List.length_map]; omega) | (simp; omega)))
      by_cases h2 : (!(m48 a0 a0)) = true
      · try simp only [if_pos h2]
        exact callP_ok (ps := []) (os := []) (rs := [(.one (.val (.bool false)))]) (by kernel_rfl) (.r 11 [] [] f0 (.f (nt h0) (.h 18 (.b false) (.r 22 [] [] f2 (.f f3 (.f f4 (.f f5 (.r 24 [] [(List.map b_sisi a0.f0)] f6 (.r 30 [] [] f7 (.f f8 (.f f9 (.f f10 (.f f11 (.f f12 (.r 38 [] [(List.map b_sisi a0.f0)] f13 (.f (nt h1) (.h 47 (.b false) (.r 53 [] [] f15 (.f f16 (.f f17 (.f f18 (.f f19 (.f f20 (.f f21 (.r 55 [] [(List.map b_sisi a0.f0), (List.map b_sisi a0.f0)] f22 (.f h2 (.h 58 (.b true) .nil)))))))))))))))))))))))))))
      · try simp only [if_neg h2]
        exact callP_ok (ps := []) (os := []) (rs := [(.one (.val (.bool true)))]) (by kernel_rfl) (.r 11 [] [] f0 (.f (nt h0) (.h 18 (.b false) (.r 22 [] [] f2 (.f f3 (.f f4 (.f f5 (.r 24 [] [(List.map b_sisi a0.f0)] f6 (.r 30 [] [] f7 (.f f8 (.f f9 (.f f10 (.f f11 (.f f12 (.r 38 [] [(List.map b_sisi a0.f0)] f13 (.f (nt h1) (.h 47 (.b false) (.r 53 [] [] f15 (.f f16 (.f f17 (.f f18 (.f f19 (.f f20 (.f f21 (.r 55 [] [(List.map b_sisi a0.f0), (List.map b_sisi a0.f0)] f22 (.f (nt h2) (.h 58 (.b false) .nil)))))))))))))))))))))))))))
theorem X_ok (f : FuncId) (args : List SV) (rs : List Ret) (h : X f args rs) : CallOK Tryd.prog f args [] [] rs := by
  rcases h with ⟨rfl, h⟩ | ⟨rfl, h⟩
  · obtain ⟨s, c, rfl, rfl⟩ := h
    exact idx_ok s c
  · obtain ⟨s, c, h1, h2, h3, rfl, rfl⟩ := h
    exact trim_ok s c h1 h2 h3
end Go.Proofs.YtdnopbpdiineiaaDoor.ServerFault
