/- What the functions compute. -/
import Derived.Test.YtfmkbpiobddhdaaDoorEFoundRewardE
import Derived.KernelRfl
namespace Go.Proofs.YtfmkbpiobddhdaaDoor.FoundReward
open Go Go.Proofs.YtfmkbpiobddhdaaDoor.V
set_option linter.unusedVariables false
set_option linter.unusedSimpArgs false
set_option maxRecDepth 20000
open List (length_replicate length_map length_set length_append length_cons length_nil length_take length_drop take_of_length_le map_take map_drop map_set append_assoc getElem?_map map length take drop getD set)
attribute [local simp] toBR_si fullR_si pureR_si lenB_si lenD_si fromBR_si copy_si toBR_R fullR_R pureR_R lenB_R lenD_R toBR_B fullR_B pureR_B lenB_B lenD_B toBR_i fullR_i pureR_i lenB_i lenD_i fromBR_i copy_i toBR_b fullR_b pureR_b lenB_b lenD_b fromBR_b copy_b toBR_C fullR_C pureR_C lenB_C lenD_C toBR_LsiE fullR_LsiE pureR_LsiE lenB_LsiE lenD_LsiE toBR_Q fullR_Q pureR_Q lenB_Q lenD_Q toBR_s fullR_s pureR_s lenB_s lenD_s fromBR_s copy_s toBR_LiE fullR_LiE pureR_LiE lenB_LiE lenD_LiE strInts_len byteRows_len toBR_y fullR_y pureR_y lenB_y lenD_y fromBR_y copy_y
def m37 (a0 : K_B) (a1 : Int) (a2 : Int) : K_C :=
 (m1008300 a0 a1 a2)
theorem e37 {l0_2 : Nat} {l0_3 : Nat} {l0_4 : Nat} {a0 : K_B} {a1 : Int} {a2 : Int} (hy0 : length a0.f2 * 24 ≤ 140737488351232) (hy1 : length a0.f3 * 56 ≤ 140737488351232) (hy2 : ∀ z ∈ a0.f3, ok_R z) (hy3 : length a0.f4 * 24 ≤ 140737488351232) : Ev F X (.call 37 [(.agg [(.val (.int .i64 a0.f0)), (.val (.int .i64 a0.f1)), (.bor l0_2 (map b_si a0.f2)), (.bor l0_3 (map b_R a0.f3)), (.bor l0_4 (map b_si a0.f4)), (.val (.int .i64 a0.f5)), (.val (.int .i64 a0.f6)), (.val (.int .i64 a0.f7))]), (.one (.val (.int .i64 a1))), (.one (.val (.int .i64 a2)))] [] [] [(.agg [(.val (.int .i64 ((m1008300 a0 a1 a2).f0))), (.val (.int .i64 ((m1008300 a0 a1 a2).f1))), (.val (.int .i64 ((m1008300 a0 a1 a2).f2))), (.val (.int .i64 ((m1008300 a0 a1 a2).f3))), (.own 2 (map d_si ((m1008300 a0 a1 a2).f4))), (.own 5 (map d_R ((m1008300 a0 a1 a2).f5))), (.own 2 (map d_si ((m1008300 a0 a1 a2).f6))), (.val (.int .i64 ((m1008300 a0 a1 a2).f7))), (.val (.int .i64 ((m1008300 a0 a1 a2).f8))), (.val (.int .i64 ((m1008300 a0 a1 a2).f9)))])]) := by
 have f0 : fullL [(.val (.int .i64 a1))] = true := (by trivial)
 have f1 : fullL [(.val (.int .i64 a2))] = true := (by assumption)
 have f2 : Ev F X (.call 83 [(.agg [(.i a0.f0), (.i a0.f1), (.bor (l0_2 + 1) (map b_si a0.f2)), (.bor (l0_3 + 1) (map b_R a0.f3)), (.bor (l0_4 + 1) (map b_si a0.f4)), (.i a0.f5), (.i a0.f6), (.i a0.f7)]), (.clo 99 [] [(.bptr 0 [(.i a1)]), (.bptr 0 [(.i a2)])])] [] [] [(.agg [(.i ((m1008300 a0 a1 a2).f0)), (.i ((m1008300 a0 a1 a2).f1)), (.i ((m1008300 a0 a1 a2).f2)), (.i ((m1008300 a0 a1 a2).f3)), (.own 2 (map d_si ((m1008300 a0 a1 a2).f4))), (.own 5 (map d_R ((m1008300 a0 a1 a2).f5))), (.own 2 (map d_si ((m1008300 a0 a1 a2).f6))), (.i ((m1008300 a0 a1 a2).f7)), (.i ((m1008300 a0 a1 a2).f8)), (.i ((m1008300 a0 a1 a2).f9))])]) := (e1008300 (a0 := a0) (a2001 := a1) (a2003 := a2) (by with_reducible assumption) (by with_reducible assumption) (by with_reducible assumption) (by with_reducible assumption))
 exact cp (by kernel_rfl) (.f f0 (.f f1 (.r 13 [] [] f2 (.e 0 (.e (length (map d_si ((m1008300 a0 a1 a2).f4))) (.e 0 (.e (length (map d_R ((m1008300 a0 a1 a2).f5))) (.e 0 (.e (length (map d_si ((m1008300 a0 a1 a2).f6))) (.f (pureR_si ((m1008300 a0 a1 a2).f4)) (.f (pureR_R ((m1008300 a0 a1 a2).f5)) (.f (pureR_si ((m1008300 a0 a1 a2).f6)) .nil))))))))))))
def m9 (a0 : K_B) (a1 : Int) (a2 : Int) : Bool :=
 if (decide ((m14 a0 1048576) < 0)) = true then true else
 if (!(m26 (m1008300 a0 a1 a2) (m36 a0 a1 a2))) = true then false else
  if (!(m18 a0 a0)) = true then false else
   if (decide ((m27 a0 1) < 0)) = true then false else
    if (decide ((m29 (K_C.mk ((m1008300 a0 a1 a2).f0) ((m1008300 a0 a1 a2).f1) ((m1008300 a0 a1 a2).f2) ((m1008300 a0 a1 a2).f3) (o28_2 (m1008300 a0 a1 a2) 1) (o28_1 (m1008300 a0 a1 a2) 1) (o28_0 (m1008300 a0 a1 a2) 1) ((m1008300 a0 a1 a2).f7) ((m1008300 a0 a1 a2).f8) ((m1008300 a0 a1 a2).f9)) 1) < 0)) = true then false else
     if ((m29 (K_C.mk ((m1008300 a0 a1 a2).f0) ((m1008300 a0 a1 a2).f1) ((m1008300 a0 a1 a2).f2) ((m1008300 a0 a1 a2).f3) (o28_2 (m1008300 a0 a1 a2) 1) (o28_1 (m1008300 a0 a1 a2) 1) (o28_0 (m1008300 a0 a1 a2) 1) ((m1008300 a0 a1 a2).f7) ((m1008300 a0 a1 a2).f8) ((m1008300 a0 a1 a2).f9)) 1) != (m28 (m1008300 a0 a1 a2) 1)) = true then false else
      true
set_option maxHeartbeats 8000000 in
theorem e9 {l0_2 : Nat} {l0_3 : Nat} {l0_4 : Nat} {a0 : K_B} {a1 : Int} {a2 : Int} (hy0 : length a0.f2 * 24 ≤ 140737488351232) (hy1 : ∀ z ∈ a0.f2, os_si z) (hy2 : length a0.f3 * 56 ≤ 140737488351232) (hy3 : ∀ z ∈ a0.f3, os_R z) (hy4 : length a0.f4 * 24 ≤ 140737488351232) (hy5 : ∀ z ∈ a0.f4, os_si z) : Ev F X (.call 9 [(.agg [(.val (.int .i64 a0.f0)), (.val (.int .i64 a0.f1)), (.bor l0_2 (map b_si a0.f2)), (.bor l0_3 (map b_R a0.f3)), (.bor l0_4 (map b_si a0.f4)), (.val (.int .i64 a0.f5)), (.val (.int .i64 a0.f6)), (.val (.int .i64 a0.f7))]), (.one (.val (.int .i64 a1))), (.one (.val (.int .i64 a2)))] [] [] [(.one (.val (.bool (m9 a0 a1 a2))))]) := by
 unfold m9
 have f0 := e14 (l0_2 := l0_2 + 1) (l0_3 := l0_3 + 1) (l0_4 := l0_4 + 1) (a0 := a0) (a1 := 1048576) (by with_reducible assumption) (by with_reducible assumption) (by intro z hz; exact os_ok_R z ((by assumption : ∀ z ∈ a0.f3, os_R z) z hz)) (by with_reducible assumption)
 by_cases h0 : (decide ((m14 a0 1048576) < 0)) = true
 ·try simp only [if_pos h0]
  exact cp (by kernel_rfl) (.r 11 [] [] f0 (.f h0 (.y 18 .nil)))
 ·try simp only [if_neg h0]
  have f2 := e16 (l0_2 := l0_2 + 1) (l0_3 := l0_3 + 1) (l0_4 := l0_4 + 1) (a0 := a0) (by with_reducible assumption) (by with_reducible assumption) (by intro z hz; exact os_ok_R z ((by assumption : ∀ z ∈ a0.f3, os_R z) z hz)) (by with_reducible assumption)
  have f3 : 0 + (length (map d_si a0.f2)) ≤ (length (map d_si a0.f2)) := (by omega)
  have f4 : fullR (take (length (map d_si a0.f2)) (drop 0 (map d_si a0.f2))) = true := (ft_si _ _ _)
  have f5 : toBR (take (length (map d_si a0.f2)) (drop 0 (map d_si a0.f2))) = (map b_si a0.f2) := (tb_si _)
  have f6 : 0 + (length (map d_R a0.f3)) ≤ (length (map d_R a0.f3)) := (by omega)
  have f7 : fullR (take (length (map d_R a0.f3)) (drop 0 (map d_R a0.f3))) = true := (ft_R _ _ _)
  have f8 : toBR (take (length (map d_R a0.f3)) (drop 0 (map d_R a0.f3))) = (map b_R a0.f3) := (tb_R _)
  have f9 : 0 + (length (map d_si a0.f4)) ≤ (length (map d_si a0.f4)) := (by omega)
  have f10 : fullR (take (length (map d_si a0.f4)) (drop 0 (map d_si a0.f4))) = true := (ft_si _ _ _)
  have f11 : toBR (take (length (map d_si a0.f4)) (drop 0 (map d_si a0.f4))) = (map b_si a0.f4) := (tb_si _)
  have f12 := e36 (l0_2 := 0) (l0_3 := 0) (l0_4 := 0) (a0 := a0) (a1 := a1) (a2 := a2) (by with_reducible assumption) (by with_reducible assumption) (by with_reducible assumption) (by with_reducible assumption) (by with_reducible assumption) (by with_reducible assumption)
  have f14 : (length (map d_si ((m36 a0 a1 a2).f4))) = (length (map d_si ((m36 a0 a1 a2).f4))) := rfl
  have f16 : (length (map d_R ((m36 a0 a1 a2).f5))) = (length (map d_R ((m36 a0 a1 a2).f5))) := rfl
  have f18 : (length (map d_si ((m36 a0 a1 a2).f6))) = (length (map d_si ((m36 a0 a1 a2).f6))) := rfl
  have f19 := e16 (l0_2 := l0_2 + 1) (l0_3 := l0_3 + 1) (l0_4 := l0_4 + 1) (a0 := a0) (by with_reducible assumption) (by with_reducible assumption) (by intro z hz; exact os_ok_R z ((by assumption : ∀ z ∈ a0.f3, os_R z) z hz)) (by with_reducible assumption)
  have f21 : (length (map d_si a0.f2)) = (length (map d_si a0.f2)) := rfl
  have f23 : (length (map d_R a0.f3)) = (length (map d_R a0.f3)) := rfl
  have f25 : (length (map d_si a0.f4)) = (length (map d_si a0.f4)) := rfl
  have f26 : 0 + (length (map d_si a0.f2)) ≤ (length (map d_si a0.f2)) := (by omega)
  have f27 : fullR (take (length (map d_si a0.f2)) (drop 0 (map d_si a0.f2))) = true := (ft_si _ _ _)
  have f28 : toBR (take (length (map d_si a0.f2)) (drop 0 (map d_si a0.f2))) = (map b_si a0.f2) := (tb_si _)
  have f29 : 0 + (length (map d_R a0.f3)) ≤ (length (map d_R a0.f3)) := (by omega)
  have f30 : fullR (take (length (map d_R a0.f3)) (drop 0 (map d_R a0.f3))) = true := (ft_R _ _ _)
  have f31 : toBR (take (length (map d_R a0.f3)) (drop 0 (map d_R a0.f3))) = (map b_R a0.f3) := (tb_R _)
  have f32 : 0 + (length (map d_si a0.f4)) ≤ (length (map d_si a0.f4)) := (by omega)
  have f33 : fullR (take (length (map d_si a0.f4)) (drop 0 (map d_si a0.f4))) = true := (ft_si _ _ _)
  have f34 : toBR (take (length (map d_si a0.f4)) (drop 0 (map d_si a0.f4))) = (map b_si a0.f4) := (tb_si _)
  have f35 := e37 (l0_2 := 0) (l0_3 := 0) (l0_4 := 0) (a0 := a0) (a1 := a1) (a2 := a2) (by with_reducible assumption) (by with_reducible assumption) (by intro z hz; exact os_ok_R z ((by assumption : ∀ z ∈ a0.f3, os_R z) z hz)) (by with_reducible assumption)
  have f37 : (length (map d_si ((m1008300 a0 a1 a2).f4))) = (length (map d_si ((m1008300 a0 a1 a2).f4))) := rfl
  have f39 : (length (map d_R ((m1008300 a0 a1 a2).f5))) = (length (map d_R ((m1008300 a0 a1 a2).f5))) := rfl
  have f41 : (length (map d_si ((m1008300 a0 a1 a2).f6))) = (length (map d_si ((m1008300 a0 a1 a2).f6))) := rfl
  have f42 : 0 + (length (map d_si ((m1008300 a0 a1 a2).f4))) ≤ (length (map d_si ((m1008300 a0 a1 a2).f4))) := (by omega)
  have f43 : fullR (take (length (map d_si ((m1008300 a0 a1 a2).f4))) (drop 0 (map d_si ((m1008300 a0 a1 a2).f4)))) = true := (ft_si _ _ _)
  have f44 : toBR (take (length (map d_si ((m1008300 a0 a1 a2).f4))) (drop 0 (map d_si ((m1008300 a0 a1 a2).f4)))) = (map b_si ((m1008300 a0 a1 a2).f4)) := (tb_si _)
  have f45 : 0 + (length (map d_R ((m1008300 a0 a1 a2).f5))) ≤ (length (map d_R ((m1008300 a0 a1 a2).f5))) := (by omega)
  have f46 : fullR (take (length (map d_R ((m1008300 a0 a1 a2).f5))) (drop 0 (map d_R ((m1008300 a0 a1 a2).f5)))) = true := (ft_R _ _ _)
  have f47 : toBR (take (length (map d_R ((m1008300 a0 a1 a2).f5))) (drop 0 (map d_R ((m1008300 a0 a1 a2).f5)))) = (map b_R ((m1008300 a0 a1 a2).f5)) := (tb_R _)
  have f48 : 0 + (length (map d_si ((m1008300 a0 a1 a2).f6))) ≤ (length (map d_si ((m1008300 a0 a1 a2).f6))) := (by omega)
  have f49 : fullR (take (length (map d_si ((m1008300 a0 a1 a2).f6))) (drop 0 (map d_si ((m1008300 a0 a1 a2).f6)))) = true := (ft_si _ _ _)
  have f50 : toBR (take (length (map d_si ((m1008300 a0 a1 a2).f6))) (drop 0 (map d_si ((m1008300 a0 a1 a2).f6)))) = (map b_si ((m1008300 a0 a1 a2).f6)) := (tb_si _)
  have f51 : 0 + (length (map d_si ((m36 a0 a1 a2).f4))) ≤ (length (map d_si ((m36 a0 a1 a2).f4))) := (by omega)
  have f52 : fullR (take (length (map d_si ((m36 a0 a1 a2).f4))) (drop 0 (map d_si ((m36 a0 a1 a2).f4)))) = true := (ft_si _ _ _)
  have f53 : toBR (take (length (map d_si ((m36 a0 a1 a2).f4))) (drop 0 (map d_si ((m36 a0 a1 a2).f4)))) = (map b_si ((m36 a0 a1 a2).f4)) := (tb_si _)
  have f54 : 0 + (length (map d_R ((m36 a0 a1 a2).f5))) ≤ (length (map d_R ((m36 a0 a1 a2).f5))) := (by omega)
  have f55 : fullR (take (length (map d_R ((m36 a0 a1 a2).f5))) (drop 0 (map d_R ((m36 a0 a1 a2).f5)))) = true := (ft_R _ _ _)
  have f56 : toBR (take (length (map d_R ((m36 a0 a1 a2).f5))) (drop 0 (map d_R ((m36 a0 a1 a2).f5)))) = (map b_R ((m36 a0 a1 a2).f5)) := (tb_R _)
  have f57 : 0 + (length (map d_si ((m36 a0 a1 a2).f6))) ≤ (length (map d_si ((m36 a0 a1 a2).f6))) := (by omega)
  have f58 : fullR (take (length (map d_si ((m36 a0 a1 a2).f6))) (drop 0 (map d_si ((m36 a0 a1 a2).f6)))) = true := (ft_si _ _ _)
  have f59 : toBR (take (length (map d_si ((m36 a0 a1 a2).f6))) (drop 0 (map d_si ((m36 a0 a1 a2).f6)))) = (map b_si ((m36 a0 a1 a2).f6)) := (tb_si _)
  have f60 := e26 (l0_4 := 0) (l0_5 := 0) (l0_6 := 0) (l1_4 := 0) (l1_5 := 0) (l1_6 := 0) (a0 := (m1008300 a0 a1 a2)) (a1 := (m36 a0 a1 a2)) (by have q := okm1008300 a0 a1 a2; exact q.1) (by have q := okm1008300 a0 a1 a2; exact q.2.1) (by have q := okm1008300 a0 a1 a2; exact q.2.2.1) (by have q := okm1008300 a0 a1 a2; exact q.2.2.2) (by have q := okm36 a0 a1 a2; exact q.1) (by have q := okm36 a0 a1 a2; exact q.2.1) (by have q := okm36 a0 a1 a2; exact q.2.2.1) (by have q := okm36 a0 a1 a2; exact q.2.2.2)
  by_cases h1 : (!(m26 (m1008300 a0 a1 a2) (m36 a0 a1 a2))) = true
  ·try simp only [if_pos h1]
   exact cp (by kernel_rfl) (.r 11 [] [] f0 (.g h0 (.z 18 (.r 22 [] [] f2 (.f f3 (.f f4 (.f f5 (.f f6 (.f f7 (.f f8 (.f f9 (.f f10 (.f f11 (.r 28 [] [(map b_si a0.f2), (map b_R a0.f3), (map b_si a0.f4)] f12 (.e 0 (.f f14 (.e 0 (.f f16 (.e 0 (.f f18 (.r 36 [] [] f19 (.e 0 (.f f21 (.e 0 (.f f23 (.e 0 (.f f25 (.f f26 (.f f27 (.f f28 (.f f29 (.f f30 (.f f31 (.f f32 (.f f33 (.f f34 (.r 48 [] [(map b_si a0.f2), (map b_R a0.f3), (map b_si a0.f4)] f35 (.e 0 (.f f37 (.e 0 (.f f39 (.e 0 (.f f41 (.f f42 (.f f43 (.f f44 (.f f45 (.f f46 (.f f47 (.f f48 (.f f49 (.f f50 (.f f51 (.f f52 (.f f53 (.f f54 (.f f55 (.f f56 (.f f57 (.f f58 (.f f59 (.r 58 [] [(map b_si ((m1008300 a0 a1 a2).f4)), (map b_R ((m1008300 a0 a1 a2).f5)), (map b_si ((m1008300 a0 a1 a2).f6)), (map b_si ((m36 a0 a1 a2).f4)), (map b_R ((m36 a0 a1 a2).f5)), (map b_si ((m36 a0 a1 a2).f6))] f60 (.f h1 (.y 61 .nil))))))))))))))))))))))))))))))))))))))))))))))))))))))))))))))))
  ·try simp only [if_neg h1]
   have f62 := e16 (l0_2 := l0_2 + 1) (l0_3 := l0_3 + 1) (l0_4 := l0_4 + 1) (a0 := a0) (by with_reducible assumption) (by with_reducible assumption) (by intro z hz; exact os_ok_R z ((by assumption : ∀ z ∈ a0.f3, os_R z) z hz)) (by with_reducible assumption)
   have f63 : 0 + (length (map d_si a0.f2)) ≤ (length (map d_si a0.f2)) := (by omega)
   have f64 : fullR (take (length (map d_si a0.f2)) (drop 0 (map d_si a0.f2))) = true := (ft_si _ _ _)
   have f65 : toBR (take (length (map d_si a0.f2)) (drop 0 (map d_si a0.f2))) = (map b_si a0.f2) := (tb_si _)
   have f66 : 0 + (length (map d_R a0.f3)) ≤ (length (map d_R a0.f3)) := (by omega)
   have f67 : fullR (take (length (map d_R a0.f3)) (drop 0 (map d_R a0.f3))) = true := (ft_R _ _ _)
   have f68 : toBR (take (length (map d_R a0.f3)) (drop 0 (map d_R a0.f3))) = (map b_R a0.f3) := (tb_R _)
   have f69 : 0 + (length (map d_si a0.f4)) ≤ (length (map d_si a0.f4)) := (by omega)
   have f70 : fullR (take (length (map d_si a0.f4)) (drop 0 (map d_si a0.f4))) = true := (ft_si _ _ _)
   have f71 : toBR (take (length (map d_si a0.f4)) (drop 0 (map d_si a0.f4))) = (map b_si a0.f4) := (tb_si _)
   have f72 : 0 + (length (map d_si a0.f2)) ≤ (length (map d_si a0.f2)) := (by omega)
   have f73 : fullR (take (length (map d_si a0.f2)) (drop 0 (map d_si a0.f2))) = true := (ft_si _ _ _)
   have f74 : toBR (take (length (map d_si a0.f2)) (drop 0 (map d_si a0.f2))) = (map b_si a0.f2) := (tb_si _)
   have f75 : 0 + (length (map d_R a0.f3)) ≤ (length (map d_R a0.f3)) := (by omega)
   have f76 : fullR (take (length (map d_R a0.f3)) (drop 0 (map d_R a0.f3))) = true := (ft_R _ _ _)
   have f77 : toBR (take (length (map d_R a0.f3)) (drop 0 (map d_R a0.f3))) = (map b_R a0.f3) := (tb_R _)
   have f78 : 0 + (length (map d_si a0.f4)) ≤ (length (map d_si a0.f4)) := (by omega)
   have f79 : fullR (take (length (map d_si a0.f4)) (drop 0 (map d_si a0.f4))) = true := (ft_si _ _ _)
   have f80 : toBR (take (length (map d_si a0.f4)) (drop 0 (map d_si a0.f4))) = (map b_si a0.f4) := (tb_si _)
   have f81 := e18 (l0_2 := 0) (l0_3 := 0) (l0_4 := 0) (l1_2 := 0) (l1_3 := 0) (l1_4 := 0) (a0 := a0) (a1 := a0) (by with_reducible assumption) (by with_reducible assumption) (by intro z hz; exact os_ok_R z ((by assumption : ∀ z ∈ a0.f3, os_R z) z hz)) (by with_reducible assumption) (by with_reducible assumption) (by with_reducible assumption) (by intro z hz; exact os_ok_R z ((by assumption : ∀ z ∈ a0.f3, os_R z) z hz)) (by with_reducible assumption)
   by_cases h2 : (!(m18 a0 a0)) = true
   ·try simp only [if_pos h2]
    exact cp (by kernel_rfl) (.r 11 [] [] f0 (.g h0 (.z 18 (.r 22 [] [] f2 (.f f3 (.f f4 (.f f5 (.f f6 (.f f7 (.f f8 (.f f9 (.f f10 (.f f11 (.r 28 [] [(map b_si a0.f2), (map b_R a0.f3), (map b_si a0.f4)] f12 (.e 0 (.f f14 (.e 0 (.f f16 (.e 0 (.f f18 (.r 36 [] [] f19 (.e 0 (.f f21 (.e 0 (.f f23 (.e 0 (.f f25 (.f f26 (.f f27 (.f f28 (.f f29 (.f f30 (.f f31 (.f f32 (.f f33 (.f f34 (.r 48 [] [(map b_si a0.f2), (map b_R a0.f3), (map b_si a0.f4)] f35 (.e 0 (.f f37 (.e 0 (.f f39 (.e 0 (.f f41 (.f f42 (.f f43 (.f f44 (.f f45 (.f f46 (.f f47 (.f f48 (.f f49 (.f f50 (.f f51 (.f f52 (.f f53 (.f f54 (.f f55 (.f f56 (.f f57 (.f f58 (.f f59 (.r 58 [] [(map b_si ((m1008300 a0 a1 a2).f4)), (map b_R ((m1008300 a0 a1 a2).f5)), (map b_si ((m1008300 a0 a1 a2).f6)), (map b_si ((m36 a0 a1 a2).f4)), (map b_R ((m36 a0 a1 a2).f5)), (map b_si ((m36 a0 a1 a2).f6))] f60 (.g h1 (.z 61 (.r 67 [] [] f62 (.f f63 (.f f64 (.f f65 (.f f66 (.f f67 (.f f68 (.f f69 (.f f70 (.f f71 (.f f72 (.f f73 (.f f74 (.f f75 (.f f76 (.f f77 (.f f78 (.f f79 (.f f80 (.r 69 [] [(map b_si a0.f2), (map b_R a0.f3), (map b_si a0.f4), (map b_si a0.f2), (map b_R a0.f3), (map b_si a0.f4)] f81 (.f h2 (.y 72 .nil))))))))))))))))))))))))))))))))))))))))))))))))))))))))))))))))))))))))))))))))))))))
   ·try simp only [if_neg h2]
    have f83 : pureR (map d_si a0.f2) = true := (pureR_si _)
    have f84 : pureR (map d_R a0.f3) = true := (pureR_R _)
    have f85 : pureR (map d_si a0.f4) = true := (pureR_si _)
    have f86 := e27 (a0 := a0) (a1 := 1) (by with_reducible assumption) (by with_reducible assumption) (by intro z hz; exact os_ok_R z ((by assumption : ∀ z ∈ a0.f3, os_R z) z hz)) (by with_reducible assumption)
    by_cases h3 : (decide ((m27 a0 1) < 0)) = true
    ·try simp only [if_pos h3]
     exact cp (by kernel_rfl) (.r 11 [] [] f0 (.g h0 (.z 18 (.r 22 [] [] f2 (.f f3 (.f f4 (.f f5 (.f f6 (.f f7 (.f f8 (.f f9 (.f f10 (.f f11 (.r 28 [] [(map b_si a0.f2), (map b_R a0.f3), (map b_si a0.f4)] f12 (.e 0 (.f f14 (.e 0 (.f f16 (.e 0 (.f f18 (.r 36 [] [] f19 (.e 0 (.f f21 (.e 0 (.f f23 (.e 0 (.f f25 (.f f26 (.f f27 (.f f28 (.f f29 (.f f30 (.f f31 (.f f32 (.f f33 (.f f34 (.r 48 [] [(map b_si a0.f2), (map b_R a0.f3), (map b_si a0.f4)] f35 (.e 0 (.f f37 (.e 0 (.f f39 (.e 0 (.f f41 (.f f42 (.f f43 (.f f44 (.f f45 (.f f46 (.f f47 (.f f48 (.f f49 (.f f50 (.f f51 (.f f52 (.f f53 (.f f54 (.f f55 (.f f56 (.f f57 (.f f58 (.f f59 (.r 58 [] [(map b_si ((m1008300 a0 a1 a2).f4)), (map b_R ((m1008300 a0 a1 a2).f5)), (map b_si ((m1008300 a0 a1 a2).f6)), (map b_si ((m36 a0 a1 a2).f4)), (map b_R ((m36 a0 a1 a2).f5)), (map b_si ((m36 a0 a1 a2).f6))] f60 (.g h1 (.z 61 (.r 67 [] [] f62 (.f f63 (.f f64 (.f f65 (.f f66 (.f f67 (.f f68 (.f f69 (.f f70 (.f f71 (.f f72 (.f f73 (.f f74 (.f f75 (.f f76 (.f f77 (.f f78 (.f f79 (.f f80 (.r 69 [] [(map b_si a0.f2), (map b_R a0.f3), (map b_si a0.f4), (map b_si a0.f2), (map b_R a0.f3), (map b_si a0.f4)] f81 (.g h2 (.f f83 (.f f84 (.f f85 (.z 72 (.r 80 [true, true, true] [] f86 (.m 5 h3 (.y 89 (.y 91 (.y 93 (.y 95 (.y 98 .nil))))))))))))))))))))))))))))))))))))))))))))))))))))))))))))))))))))))))))))))))))))))))))))))))
    ·try simp only [if_neg h3]
     have f90 : 0 + (length (map d_si ((m1008300 a0 a1 a2).f4))) ≤ (length (map d_si ((m1008300 a0 a1 a2).f4))) := (by omega)
     have f91 : fullR (take (length (map d_si ((m1008300 a0 a1 a2).f4))) (drop 0 (map d_si ((m1008300 a0 a1 a2).f4)))) = true := (ft_si _ _ _)
     have f92 : toBR (take (length (map d_si ((m1008300 a0 a1 a2).f4))) (drop 0 (map d_si ((m1008300 a0 a1 a2).f4)))) = (map b_si ((m1008300 a0 a1 a2).f4)) := (tb_si _)
     have f93 : 0 + (length (map d_R ((m1008300 a0 a1 a2).f5))) ≤ (length (map d_R ((m1008300 a0 a1 a2).f5))) := (by omega)
     have f94 : fullR (take (length (map d_R ((m1008300 a0 a1 a2).f5))) (drop 0 (map d_R ((m1008300 a0 a1 a2).f5)))) = true := (ft_R _ _ _)
     have f95 : toBR (take (length (map d_R ((m1008300 a0 a1 a2).f5))) (drop 0 (map d_R ((m1008300 a0 a1 a2).f5)))) = (map b_R ((m1008300 a0 a1 a2).f5)) := (tb_R _)
     have f96 : 0 + (length (map d_si ((m1008300 a0 a1 a2).f6))) ≤ (length (map d_si ((m1008300 a0 a1 a2).f6))) := (by omega)
     have f97 : fullR (take (length (map d_si ((m1008300 a0 a1 a2).f6))) (drop 0 (map d_si ((m1008300 a0 a1 a2).f6)))) = true := (ft_si _ _ _)
     have f98 : toBR (take (length (map d_si ((m1008300 a0 a1 a2).f6))) (drop 0 (map d_si ((m1008300 a0 a1 a2).f6)))) = (map b_si ((m1008300 a0 a1 a2).f6)) := (tb_si _)
     have f99 : 0 + (length (map d_si ((m36 a0 a1 a2).f4))) ≤ (length (map d_si ((m36 a0 a1 a2).f4))) := (by omega)
     have f100 : fullR (take (length (map d_si ((m36 a0 a1 a2).f4))) (drop 0 (map d_si ((m36 a0 a1 a2).f4)))) = true := (ft_si _ _ _)
     have f101 : toBR (take (length (map d_si ((m36 a0 a1 a2).f4))) (drop 0 (map d_si ((m36 a0 a1 a2).f4)))) = (map b_si ((m36 a0 a1 a2).f4)) := (tb_si _)
     have f102 : 0 + (length (map d_R ((m36 a0 a1 a2).f5))) ≤ (length (map d_R ((m36 a0 a1 a2).f5))) := (by omega)
     have f103 : fullR (take (length (map d_R ((m36 a0 a1 a2).f5))) (drop 0 (map d_R ((m36 a0 a1 a2).f5)))) = true := (ft_R _ _ _)
     have f104 : toBR (take (length (map d_R ((m36 a0 a1 a2).f5))) (drop 0 (map d_R ((m36 a0 a1 a2).f5)))) = (map b_R ((m36 a0 a1 a2).f5)) := (tb_R _)
     have f105 : 0 + (length (map d_si ((m36 a0 a1 a2).f6))) ≤ (length (map d_si ((m36 a0 a1 a2).f6))) := (by omega)
     have f106 : fullR (take (length (map d_si ((m36 a0 a1 a2).f6))) (drop 0 (map d_si ((m36 a0 a1 a2).f6)))) = true := (ft_si _ _ _)
     have f107 : toBR (take (length (map d_si ((m36 a0 a1 a2).f6))) (drop 0 (map d_si ((m36 a0 a1 a2).f6)))) = (map b_si ((m36 a0 a1 a2).f6)) := (tb_si _)
     have f108 := e26 (l0_4 := 0) (l0_5 := 0) (l0_6 := 0) (l1_4 := 0) (l1_5 := 0) (l1_6 := 0) (a0 := (m1008300 a0 a1 a2)) (a1 := (m36 a0 a1 a2)) (by have q := okm1008300 a0 a1 a2; exact q.1) (by have q := okm1008300 a0 a1 a2; exact q.2.1) (by have q := okm1008300 a0 a1 a2; exact q.2.2.1) (by have q := okm1008300 a0 a1 a2; exact q.2.2.2) (by have q := okm36 a0 a1 a2; exact q.1) (by have q := okm36 a0 a1 a2; exact q.2.1) (by have q := okm36 a0 a1 a2; exact q.2.2.1) (by have q := okm36 a0 a1 a2; exact q.2.2.2)
     have f112 : pureR (map d_si ((m1008300 a0 a1 a2).f4)) = true := (pureR_si _)
     have f113 : pureR (map d_R ((m1008300 a0 a1 a2).f5)) = true := (pureR_R _)
     have f114 : pureR (map d_si ((m1008300 a0 a1 a2).f6)) = true := (pureR_si _)
     have f115 := e28 (a0 := (m1008300 a0 a1 a2)) (a1 := 1) (by have q := okm1008300 a0 a1 a2; exact q.1) (by have q := okm1008300 a0 a1 a2; exact q.2.1) (by have q := okm1008300 a0 a1 a2; exact q.2.2.1) (by have q := okm1008300 a0 a1 a2; exact q.2.2.2)
     have f116 : 0 + (length (map d_si (o28_2 (m1008300 a0 a1 a2) 1))) ≤ (length (map d_si (o28_2 (m1008300 a0 a1 a2) 1))) := (by omega)
     have f117 : fullR (take (length (map d_si (o28_2 (m1008300 a0 a1 a2) 1))) (drop 0 (map d_si (o28_2 (m1008300 a0 a1 a2) 1)))) = true := (ft_si _ _ _)
     have f118 : toBR (take (length (map d_si (o28_2 (m1008300 a0 a1 a2) 1))) (drop 0 (map d_si (o28_2 (m1008300 a0 a1 a2) 1)))) = (map b_si (o28_2 (m1008300 a0 a1 a2) 1)) := (tb_si _)
     have f119 : 0 + (length (map d_R (o28_1 (m1008300 a0 a1 a2) 1))) ≤ (length (map d_R (o28_1 (m1008300 a0 a1 a2) 1))) := (by omega)
     have f120 : fullR (take (length (map d_R (o28_1 (m1008300 a0 a1 a2) 1))) (drop 0 (map d_R (o28_1 (m1008300 a0 a1 a2) 1)))) = true := (ft_R _ _ _)
     have f121 : toBR (take (length (map d_R (o28_1 (m1008300 a0 a1 a2) 1))) (drop 0 (map d_R (o28_1 (m1008300 a0 a1 a2) 1)))) = (map b_R (o28_1 (m1008300 a0 a1 a2) 1)) := (tb_R _)
     have f122 : 0 + (length (map d_si (o28_0 (m1008300 a0 a1 a2) 1))) ≤ (length (map d_si (o28_0 (m1008300 a0 a1 a2) 1))) := (by omega)
     have f123 : fullR (take (length (map d_si (o28_0 (m1008300 a0 a1 a2) 1))) (drop 0 (map d_si (o28_0 (m1008300 a0 a1 a2) 1)))) = true := (ft_si _ _ _)
     have f124 : toBR (take (length (map d_si (o28_0 (m1008300 a0 a1 a2) 1))) (drop 0 (map d_si (o28_0 (m1008300 a0 a1 a2) 1)))) = (map b_si (o28_0 (m1008300 a0 a1 a2) 1)) := (tb_si _)
     have f125 := e29 (l0_4 := 0) (l0_5 := 0) (l0_6 := 0) (a0 := (K_C.mk ((m1008300 a0 a1 a2).f0) ((m1008300 a0 a1 a2).f1) ((m1008300 a0 a1 a2).f2) ((m1008300 a0 a1 a2).f3) (o28_2 (m1008300 a0 a1 a2) 1) (o28_1 (m1008300 a0 a1 a2) 1) (o28_0 (m1008300 a0 a1 a2) 1) ((m1008300 a0 a1 a2).f7) ((m1008300 a0 a1 a2).f8) ((m1008300 a0 a1 a2).f9))) (a1 := 1) (by have q := okm1008300 a0 a1 a2; rw [ol28_2]; exact q.1) (by have q := okm1008300 a0 a1 a2; rw [ol28_1]; exact q.2.1) (by have q := okm1008300 a0 a1 a2; exact oo86 _ _ q.2.2.1) (by have q := okm1008300 a0 a1 a2; rw [ol28_0]; exact q.2.2.2)
     by_cases h4 : (decide ((m29 (K_C.mk ((m1008300 a0 a1 a2).f0) ((m1008300 a0 a1 a2).f1) ((m1008300 a0 a1 a2).f2) ((m1008300 a0 a1 a2).f3) (o28_2 (m1008300 a0 a1 a2) 1) (o28_1 (m1008300 a0 a1 a2) 1) (o28_0 (m1008300 a0 a1 a2) 1) ((m1008300 a0 a1 a2).f7) ((m1008300 a0 a1 a2).f8) ((m1008300 a0 a1 a2).f9)) 1) < 0)) = true
     ·try simp only [if_pos h4]
      exact cp (by kernel_rfl) (.r 11 [] [] f0 (.g h0 (.z 18 (.r 22 [] [] f2 (.f f3 (.f f4 (.f f5 (.f f6 (.f f7 (.f f8 (.f f9 (.f f10 (.f f11 (.r 28 [] [(map b_si a0.f2), (map b_R a0.f3), (map b_si a0.f4)] f12 (.e 0 (.f f14 (.e 0 (.f f16 (.e 0 (.f f18 (.r 36 [] [] f19 (.e 0 (.f f21 (.e 0 (.f f23 (.e 0 (.f f25 (.f f26 (.f f27 (.f f28 (.f f29 (.f f30 (.f f31 (.f f32 (.f f33 (.f f34 (.r 48 [] [(map b_si a0.f2), (map b_R a0.f3), (map b_si a0.f4)] f35 (.e 0 (.f f37 (.e 0 (.f f39 (.e 0 (.f f41 (.f f42 (.f f43 (.f f44 (.f f45 (.f f46 (.f f47 (.f f48 (.f f49 (.f f50 (.f f51 (.f f52 (.f f53 (.f f54 (.f f55 (.f f56 (.f f57 (.f f58 (.f f59 (.r 58 [] [(map b_si ((m1008300 a0 a1 a2).f4)), (map b_R ((m1008300 a0 a1 a2).f5)), (map b_si ((m1008300 a0 a1 a2).f6)), (map b_si ((m36 a0 a1 a2).f4)), (map b_R ((m36 a0 a1 a2).f5)), (map b_si ((m36 a0 a1 a2).f6))] f60 (.g h1 (.z 61 (.r 67 [] [] f62 (.f f63 (.f f64 (.f f65 (.f f66 (.f f67 (.f f68 (.f f69 (.f f70 (.f f71 (.f f72 (.f f73 (.f f74 (.f f75 (.f f76 (.f f77 (.f f78 (.f f79 (.f f80 (.r 69 [] [(map b_si a0.f2), (map b_R a0.f3), (map b_si a0.f4), (map b_si a0.f2), (map b_R a0.f3), (map b_si a0.f4)] f81 (.g h2 (.f f83 (.f f84 (.f f85 (.z 72 (.r 80 [true, true, true] [] f86 (.n 3 h3 (.f f90 (.f f91 (.f f92 (.f f93 (.f f94 (.f f95 (.f f96 (.f f97 (.f f98 (.f f99 (.f f100 (.f f101 (.f f102 (.f f103 (.f f104 (.f f105 (.f f106 (.f f107 (.z 89 (.z 91 (.z 93 (.r 94 [] [(map b_si ((m1008300 a0 a1 a2).f4)), (map b_R ((m1008300 a0 a1 a2).f5)), (map b_si ((m1008300 a0 a1 a2).f6)), (map b_si ((m36 a0 a1 a2).f4)), (map b_R ((m36 a0 a1 a2).f5)), (map b_si ((m36 a0 a1 a2).f6))] f108 (.n 2 h3 (.g h1 (.f f112 (.f f113 (.f f114 (.z 95 (.z 98 (.z 99 (.r 107 [true, true, true] [] f115 (.f f116 (.f f117 (.f f118 (.f f119 (.f f120 (.f f121 (.f f122 (.f f123 (.f f124 (.r 117 [] [(map b_si (o28_2 (m1008300 a0 a1 a2) 1)), (map b_R (o28_1 (m1008300 a0 a1 a2) 1)), (map b_si (o28_0 (m1008300 a0 a1 a2) 1))] f125 (.f h4 (.y 124 .nil))))))))))))))))))))))))))))))))))))))))))))))))))))))))))))))))))))))))))))))))))))))))))))))))))))))))))))))))))))))))))))))))))))))
     ·try simp only [if_neg h4]
      by_cases h5 : ((m29 (K_C.mk ((m1008300 a0 a1 a2).f0) ((m1008300 a0 a1 a2).f1) ((m1008300 a0 a1 a2).f2) ((m1008300 a0 a1 a2).f3) (o28_2 (m1008300 a0 a1 a2) 1) (o28_1 (m1008300 a0 a1 a2) 1) (o28_0 (m1008300 a0 a1 a2) 1) ((m1008300 a0 a1 a2).f7) ((m1008300 a0 a1 a2).f8) ((m1008300 a0 a1 a2).f9)) 1) != (m28 (m1008300 a0 a1 a2) 1)) = true
      ·try simp only [if_pos h5]
       exact cp (by kernel_rfl) (.r 11 [] [] f0 (.g h0 (.z 18 (.r 22 [] [] f2 (.f f3 (.f f4 (.f f5 (.f f6 (.f f7 (.f f8 (.f f9 (.f f10 (.f f11 (.r 28 [] [(map b_si a0.f2), (map b_R a0.f3), (map b_si a0.f4)] f12 (.e 0 (.f f14 (.e 0 (.f f16 (.e 0 (.f f18 (.r 36 [] [] f19 (.e 0 (.f f21 (.e 0 (.f f23 (.e 0 (.f f25 (.f f26 (.f f27 (.f f28 (.f f29 (.f f30 (.f f31 (.f f32 (.f f33 (.f f34 (.r 48 [] [(map b_si a0.f2), (map b_R a0.f3), (map b_si a0.f4)] f35 (.e 0 (.f f37 (.e 0 (.f f39 (.e 0 (.f f41 (.f f42 (.f f43 (.f f44 (.f f45 (.f f46 (.f f47 (.f f48 (.f f49 (.f f50 (.f f51 (.f f52 (.f f53 (.f f54 (.f f55 (.f f56 (.f f57 (.f f58 (.f f59 (.r 58 [] [(map b_si ((m1008300 a0 a1 a2).f4)), (map b_R ((m1008300 a0 a1 a2).f5)), (map b_si ((m1008300 a0 a1 a2).f6)), (map b_si ((m36 a0 a1 a2).f4)), (map b_R ((m36 a0 a1 a2).f5)), (map b_si ((m36 a0 a1 a2).f6))] f60 (.g h1 (.z 61 (.r 67 [] [] f62 (.f f63 (.f f64 (.f f65 (.f f66 (.f f67 (.f f68 (.f f69 (.f f70 (.f f71 (.f f72 (.f f73 (.f f74 (.f f75 (.f f76 (.f f77 (.f f78 (.f f79 (.f f80 (.r 69 [] [(map b_si a0.f2), (map b_R a0.f3), (map b_si a0.f4), (map b_si a0.f2), (map b_R a0.f3), (map b_si a0.f4)] f81 (.g h2 (.f f83 (.f f84 (.f f85 (.z 72 (.r 80 [true, true, true] [] f86 (.n 3 h3 (.f f90 (.f f91 (.f f92 (.f f93 (.f f94 (.f f95 (.f f96 (.f f97 (.f f98 (.f f99 (.f f100 (.f f101 (.f f102 (.f f103 (.f f104 (.f f105 (.f f106 (.f f107 (.z 89 (.z 91 (.z 93 (.r 94 [] [(map b_si ((m1008300 a0 a1 a2).f4)), (map b_R ((m1008300 a0 a1 a2).f5)), (map b_si ((m1008300 a0 a1 a2).f6)), (map b_si ((m36 a0 a1 a2).f4)), (map b_R ((m36 a0 a1 a2).f5)), (map b_si ((m36 a0 a1 a2).f6))] f108 (.n 2 h3 (.g h1 (.f f112 (.f f113 (.f f114 (.z 95 (.z 98 (.z 99 (.r 107 [true, true, true] [] f115 (.f f116 (.f f117 (.f f118 (.f f119 (.f f120 (.f f121 (.f f122 (.f f123 (.f f124 (.r 117 [] [(map b_si (o28_2 (m1008300 a0 a1 a2) 1)), (map b_R (o28_1 (m1008300 a0 a1 a2) 1)), (map b_si (o28_0 (m1008300 a0 a1 a2) 1))] f125 (.g h4 (.f h5 (.z 124 (.y 131 .nil))))))))))))))))))))))))))))))))))))))))))))))))))))))))))))))))))))))))))))))))))))))))))))))))))))))))))))))))))))))))))))))))))))))))
      ·try simp only [if_neg h5]
       have f128 := e16 (l0_2 := l0_2 + 1) (l0_3 := l0_3 + 1) (l0_4 := l0_4 + 1) (a0 := a0) (by with_reducible assumption) (by with_reducible assumption) (by intro z hz; exact os_ok_R z ((by assumption : ∀ z ∈ a0.f3, os_R z) z hz)) (by with_reducible assumption)
       have f129 : 0 + (length (map d_si a0.f2)) ≤ (length (map d_si a0.f2)) := (by omega)
       have f130 : fullR (take (length (map d_si a0.f2)) (drop 0 (map d_si a0.f2))) = true := (ft_si _ _ _)
       have f131 : toBR (take (length (map d_si a0.f2)) (drop 0 (map d_si a0.f2))) = (map b_si a0.f2) := (tb_si _)
       have f132 : 0 + (length (map d_R a0.f3)) ≤ (length (map d_R a0.f3)) := (by omega)
       have f133 : fullR (take (length (map d_R a0.f3)) (drop 0 (map d_R a0.f3))) = true := (ft_R _ _ _)
       have f134 : toBR (take (length (map d_R a0.f3)) (drop 0 (map d_R a0.f3))) = (map b_R a0.f3) := (tb_R _)
       have f135 : 0 + (length (map d_si a0.f4)) ≤ (length (map d_si a0.f4)) := (by omega)
       have f136 : fullR (take (length (map d_si a0.f4)) (drop 0 (map d_si a0.f4))) = true := (ft_si _ _ _)
       have f137 : toBR (take (length (map d_si a0.f4)) (drop 0 (map d_si a0.f4))) = (map b_si a0.f4) := (tb_si _)
       have f138 := e37 (l0_2 := 0) (l0_3 := 0) (l0_4 := 0) (a0 := a0) (a1 := a1) (a2 := a2) (by with_reducible assumption) (by with_reducible assumption) (by intro z hz; exact os_ok_R z ((by assumption : ∀ z ∈ a0.f3, os_R z) z hz)) (by with_reducible assumption)
       have f145 : 0 + (length (map d_si ((m1008300 a0 a1 a2).f4))) ≤ (length (map d_si ((m1008300 a0 a1 a2).f4))) := (by omega)
       have f146 : fullR (take (length (map d_si ((m1008300 a0 a1 a2).f4))) (drop 0 (map d_si ((m1008300 a0 a1 a2).f4)))) = true := (ft_si _ _ _)
       have f147 : toBR (take (length (map d_si ((m1008300 a0 a1 a2).f4))) (drop 0 (map d_si ((m1008300 a0 a1 a2).f4)))) = (map b_si ((m1008300 a0 a1 a2).f4)) := (tb_si _)
       have f148 : 0 + (length (map d_R ((m1008300 a0 a1 a2).f5))) ≤ (length (map d_R ((m1008300 a0 a1 a2).f5))) := (by omega)
       have f149 : fullR (take (length (map d_R ((m1008300 a0 a1 a2).f5))) (drop 0 (map d_R ((m1008300 a0 a1 a2).f5)))) = true := (ft_R _ _ _)
       have f150 : toBR (take (length (map d_R ((m1008300 a0 a1 a2).f5))) (drop 0 (map d_R ((m1008300 a0 a1 a2).f5)))) = (map b_R ((m1008300 a0 a1 a2).f5)) := (tb_R _)
       have f151 : 0 + (length (map d_si ((m1008300 a0 a1 a2).f6))) ≤ (length (map d_si ((m1008300 a0 a1 a2).f6))) := (by omega)
       have f152 : fullR (take (length (map d_si ((m1008300 a0 a1 a2).f6))) (drop 0 (map d_si ((m1008300 a0 a1 a2).f6)))) = true := (ft_si _ _ _)
       have f153 : toBR (take (length (map d_si ((m1008300 a0 a1 a2).f6))) (drop 0 (map d_si ((m1008300 a0 a1 a2).f6)))) = (map b_si ((m1008300 a0 a1 a2).f6)) := (tb_si _)
       have f154 : 0 + (length (map d_si ((m36 a0 a1 a2).f4))) ≤ (length (map d_si ((m36 a0 a1 a2).f4))) := (by omega)
       have f155 : fullR (take (length (map d_si ((m36 a0 a1 a2).f4))) (drop 0 (map d_si ((m36 a0 a1 a2).f4)))) = true := (ft_si _ _ _)
       have f156 : toBR (take (length (map d_si ((m36 a0 a1 a2).f4))) (drop 0 (map d_si ((m36 a0 a1 a2).f4)))) = (map b_si ((m36 a0 a1 a2).f4)) := (tb_si _)
       have f157 : 0 + (length (map d_R ((m36 a0 a1 a2).f5))) ≤ (length (map d_R ((m36 a0 a1 a2).f5))) := (by omega)
       have f158 : fullR (take (length (map d_R ((m36 a0 a1 a2).f5))) (drop 0 (map d_R ((m36 a0 a1 a2).f5)))) = true := (ft_R _ _ _)
       have f159 : toBR (take (length (map d_R ((m36 a0 a1 a2).f5))) (drop 0 (map d_R ((m36 a0 a1 a2).f5)))) = (map b_R ((m36 a0 a1 a2).f5)) := (tb_R _)
       have f160 : 0 + (length (map d_si ((m36 a0 a1 a2).f6))) ≤ (length (map d_si ((m36 a0 a1 a2).f6))) := (by omega)
       have f161 : fullR (take (length (map d_si ((m36 a0 a1 a2).f6))) (drop 0 (map d_si ((m36 a0 a1 a2).f6)))) = true := (ft_si _ _ _)
       have f162 : toBR (take (length (map d_si ((m36 a0 a1 a2).f6))) (drop 0 (map d_si ((m36 a0 a1 a2).f6)))) = (map b_si ((m36 a0 a1 a2).f6)) := (tb_si _)
       have f163 := e26 (l0_4 := 0) (l0_5 := 0) (l0_6 := 0) (l1_4 := 0) (l1_5 := 0) (l1_6 := 0) (a0 := (m1008300 a0 a1 a2)) (a1 := (m36 a0 a1 a2)) (by have q := okm1008300 a0 a1 a2; exact q.1) (by have q := okm1008300 a0 a1 a2; exact q.2.1) (by have q := okm1008300 a0 a1 a2; exact q.2.2.1) (by have q := okm1008300 a0 a1 a2; exact q.2.2.2) (by have q := okm36 a0 a1 a2; exact q.1) (by have q := okm36 a0 a1 a2; exact q.2.1) (by have q := okm36 a0 a1 a2; exact q.2.2.1) (by have q := okm36 a0 a1 a2; exact q.2.2.2)
       have f165 : 0 + (length (map d_si (o28_2 (m1008300 a0 a1 a2) 1))) ≤ (length (map d_si (o28_2 (m1008300 a0 a1 a2) 1))) := (by omega)
       have f166 : fullR (take (length (map d_si (o28_2 (m1008300 a0 a1 a2) 1))) (drop 0 (map d_si (o28_2 (m1008300 a0 a1 a2) 1)))) = true := (ft_si _ _ _)
       have f167 : toBR (take (length (map d_si (o28_2 (m1008300 a0 a1 a2) 1))) (drop 0 (map d_si (o28_2 (m1008300 a0 a1 a2) 1)))) = (map b_si (o28_2 (m1008300 a0 a1 a2) 1)) := (tb_si _)
       have f168 : 0 + (length (map d_R (o28_1 (m1008300 a0 a1 a2) 1))) ≤ (length (map d_R (o28_1 (m1008300 a0 a1 a2) 1))) := (by omega)
       have f169 : fullR (take (length (map d_R (o28_1 (m1008300 a0 a1 a2) 1))) (drop 0 (map d_R (o28_1 (m1008300 a0 a1 a2) 1)))) = true := (ft_R _ _ _)
       have f170 : toBR (take (length (map d_R (o28_1 (m1008300 a0 a1 a2) 1))) (drop 0 (map d_R (o28_1 (m1008300 a0 a1 a2) 1)))) = (map b_R (o28_1 (m1008300 a0 a1 a2) 1)) := (tb_R _)
       have f171 : 0 + (length (map d_si (o28_0 (m1008300 a0 a1 a2) 1))) ≤ (length (map d_si (o28_0 (m1008300 a0 a1 a2) 1))) := (by omega)
       have f172 : fullR (take (length (map d_si (o28_0 (m1008300 a0 a1 a2) 1))) (drop 0 (map d_si (o28_0 (m1008300 a0 a1 a2) 1)))) = true := (ft_si _ _ _)
       have f173 : toBR (take (length (map d_si (o28_0 (m1008300 a0 a1 a2) 1))) (drop 0 (map d_si (o28_0 (m1008300 a0 a1 a2) 1)))) = (map b_si (o28_0 (m1008300 a0 a1 a2) 1)) := (tb_si _)
       have f174 := e29 (l0_4 := 0) (l0_5 := 0) (l0_6 := 0) (a0 := (K_C.mk ((m1008300 a0 a1 a2).f0) ((m1008300 a0 a1 a2).f1) ((m1008300 a0 a1 a2).f2) ((m1008300 a0 a1 a2).f3) (o28_2 (m1008300 a0 a1 a2) 1) (o28_1 (m1008300 a0 a1 a2) 1) (o28_0 (m1008300 a0 a1 a2) 1) ((m1008300 a0 a1 a2).f7) ((m1008300 a0 a1 a2).f8) ((m1008300 a0 a1 a2).f9))) (a1 := 1) (by have q := okm1008300 a0 a1 a2; rw [ol28_2]; exact q.1) (by have q := okm1008300 a0 a1 a2; rw [ol28_1]; exact q.2.1) (by have q := okm1008300 a0 a1 a2; exact oo86 _ _ q.2.2.1) (by have q := okm1008300 a0 a1 a2; rw [ol28_0]; exact q.2.2.2)
       exact cp (by kernel_rfl) (.r 11 [] [] f0 (.g h0 (.z 18 (.r 22 [] [] f2 (.f f3 (.f f4 (.f f5 (.f f6 (.f f7 (.f f8 (.f f9 (.f f10 (.f f11 (.r 28 [] [(map b_si a0.f2), (map b_R a0.f3), (map b_si a0.f4)] f12 (.e 0 (.f f14 (.e 0 (.f f16 (.e 0 (.f f18 (.r 36 [] [] f19 (.e 0 (.f f21 (.e 0 (.f f23 (.e 0 (.f f25 (.f f26 (.f f27 (.f f28 (.f f29 (.f f30 (.f f31 (.f f32 (.f f33 (.f f34 (.r 48 [] [(map b_si a0.f2), (map b_R a0.f3), (map b_si a0.f4)] f35 (.e 0 (.f f37 (.e 0 (.f f39 (.e 0 (.f f41 (.f f42 (.f f43 (.f f44 (.f f45 (.f f46 (.f f47 (.f f48 (.f f49 (.f f50 (.f f51 (.f f52 (.f f53 (.f f54 (.f f55 (.f f56 (.f f57 (.f f58 (.f f59 (.r 58 [] [(map b_si ((m1008300 a0 a1 a2).f4)), (map b_R ((m1008300 a0 a1 a2).f5)), (map b_si ((m1008300 a0 a1 a2).f6)), (map b_si ((m36 a0 a1 a2).f4)), (map b_R ((m36 a0 a1 a2).f5)), (map b_si ((m36 a0 a1 a2).f6))] f60 (.g h1 (.z 61 (.r 67 [] [] f62 (.f f63 (.f f64 (.f f65 (.f f66 (.f f67 (.f f68 (.f f69 (.f f70 (.f f71 (.f f72 (.f f73 (.f f74 (.f f75 (.f f76 (.f f77 (.f f78 (.f f79 (.f f80 (.r 69 [] [(map b_si a0.f2), (map b_R a0.f3), (map b_si a0.f4), (map b_si a0.f2), (map b_R a0.f3), (map b_si a0.f4)] f81 (.g h2 (.f f83 (.f f84 (.f f85 (.z 72 (.r 80 [true, true, true] [] f86 (.n 3 h3 (.f f90 (.f f91 (.f f92 (.f f93 (.f f94 (.f f95 (.f f96 (.f f97 (.f f98 (.f f99 (.f f100 (.f f101 (.f f102 (.f f103 (.f f104 (.f f105 (.f f106 (.f f107 (.z 89 (.z 91 (.z 93 (.r 94 [] [(map b_si ((m1008300 a0 a1 a2).f4)), (map b_R ((m1008300 a0 a1 a2).f5)), (map b_si ((m1008300 a0 a1 a2).f6)), (map b_si ((m36 a0 a1 a2).f4)), (map b_R ((m36 a0 a1 a2).f5)), (map b_si ((m36 a0 a1 a2).f6))] f108 (.n 2 h3 (.g h1 (.f f112 (.f f113 (.f f114 (.z 95 (.z 98 (.z 99 (.r 107 [true, true, true] [] f115 (.f f116 (.f f117 (.f f118 (.f f119 (.f f120 (.f f121 (.f f122 (.f f123 (.f f124 (.r 117 [] [(map b_si (o28_2 (m1008300 a0 a1 a2) 1)), (map b_R (o28_1 (m1008300 a0 a1 a2) 1)), (map b_si (o28_0 (m1008300 a0 a1 a2) 1))] f125 (.g h4 (.g h5 (.z 124 (.z 131 (.r 135 [] [] f128 (.f f129 (.f f130 (.f f131 (.f f132 (.f f133 (.f f134 (.f f135 (.f f136 (.f f137 (.r 141 [] [(map b_si a0.f2), (map b_R a0.f3), (map b_si a0.f4)] f138 (.e 0 (.e (length (map d_si ((m1008300 a0 a1 a2).f4))) (.e 0 (.e (length (map d_R ((m1008300 a0 a1 a2).f5))) (.e 0 (.e (length (map d_si ((m1008300 a0 a1 a2).f6))) (.f f145 (.f f146 (.f f147 (.f f148 (.f f149 (.f f150 (.f f151 (.f f152 (.f f153 (.f f154 (.f f155 (.f f156 (.f f157 (.f f158 (.f f159 (.f f160 (.f f161 (.f f162 (.r 151 [] [(map b_si ((m1008300 a0 a1 a2).f4)), (map b_R ((m1008300 a0 a1 a2).f5)), (map b_si ((m1008300 a0 a1 a2).f6)), (map b_si ((m36 a0 a1 a2).f4)), (map b_R ((m36 a0 a1 a2).f5)), (map b_si ((m36 a0 a1 a2).f6))] f163 (.g h1 (.f f165 (.f f166 (.f f167 (.f f168 (.f f169 (.f f170 (.f f171 (.f f172 (.f f173 (.z 154 (.r 162 [] [(map b_si (o28_2 (m1008300 a0 a1 a2) 1)), (map b_R (o28_1 (m1008300 a0 a1 a2) 1)), (map b_si (o28_0 (m1008300 a0 a1 a2) 1))] f174 (.g h4 (.g h5 (.z 169 (.z 176 .nil))))))))))))))))))))))))))))))))))))))))))))))))))))))))))))))))))))))))))))))))))))))))))))))))))))))))))))))))))))))))))))))))))))))))))))))))))))))))))))))))))))))))))))))))))))))))))))
def wt_si (x : K_si) : Nat := 2
theorem wts_si : ∀ (l : List K_si), (map wt_si l).sum = l.length * 2
 | [] => rfl
 | x :: l => by simp only [List.map_cons, List.sum_cons, wts_si l, length_cons, wt_si]; omega
def wt_R (x : K_R) : Nat := 4 + (map wt_si x.f3).sum
def wt_B (x : K_B) : Nat := 5 + (map wt_si x.f2).sum + (map wt_R x.f3).sum + (map wt_si x.f4).sum
def wt_i (x : Int) : Nat := 1
theorem wts_i : ∀ (l : List Int), (map wt_i l).sum = l.length * 1
 | [] => rfl
 | x :: l => by simp only [List.map_cons, List.sum_cons, wts_i l, length_cons, wt_i]; omega
def wt_b (x : Bool) : Nat := 1
theorem wts_b : ∀ (l : List Bool), (map wt_b l).sum = l.length * 1
 | [] => rfl
 | x :: l => by simp only [List.map_cons, List.sum_cons, wts_b l, length_cons, wt_b]; omega
def wt_C (x : K_C) : Nat := 7 + (map wt_si x.f4).sum + (map wt_R x.f5).sum + (map wt_si x.f6).sum
def wt_LsiE (x : (List K_si)) : Nat := 0 + (map wt_si x).sum
def wt_Q (x : (List K_R)) : Nat := 0 + (map wt_R x).sum
def wt_s (x : ByteArray) : Nat := 1
theorem wts_s : ∀ (l : List ByteArray), (map wt_s l).sum = l.length * 1
 | [] => rfl
 | x :: l => by simp only [List.map_cons, List.sum_cons, wts_s l, length_cons, wt_s]; omega
def wt_LiE (x : (List Int)) : Nat := 0 + (map wt_i x).sum
def wt_y (x : Int) : Nat := 1
theorem wts_y : ∀ (l : List Int), (map wt_y l).sum = l.length * 1
 | [] => rfl
 | x :: l => by simp only [List.map_cons, List.sum_cons, wts_y l, length_cons, wt_y]; omega
theorem mr85_0 (a0 : List K_si) : ∀ (l p : List K_si) (v1 : Int), 0 ≤ v1 → v1 + ((map wt_si l).sum : Nat) ≤ 4611686018427387904 → ∃ (q : List K_si) (k' : Int) (w2 : _) (w3 : _), r85_0 a0 l (p.length : Int) (p ++ l) v1 = .k0 (p ++ q) k' w2 w3 ∧ q.length = l.length ∧ v1 ≤ k' ∧ k' ≤ v1 + ((map wt_si l).sum : Nat) ∧ ∀ (c : List K_si) (j : Int), ∃ u1 u2, r142_0 c q j v1 = .k0 k' u1 u2
 | [], p, v1, h0, h1 => ⟨[], v1, (p.length : Int), (decide ((p.length : Int) < ((length (map d_si a0)) : Int))), rfl, rfl, by omega, by simp, fun c j => ⟨j, (decide (j < ((length (map b_si c)) : Int))), rfl⟩⟩
 | x0 :: l, p, v1, h0, h1 => by
  simp only [List.map_cons, List.sum_cons, wt_si] at h1 ⊢
  obtain ⟨q, k', w2, w3, e1, e2, e3, e4, e5⟩ := mr85_0 a0 l (p ++ [(K_si.mk (m141 v1) (v1 + 1))]) ((v1 + 1) + 1) (by omega) (by omega)
  refine ⟨(K_si.mk (m141 v1) (v1 + 1)) :: q, k', w2, w3, ?_, by simp [e2], by omega, by omega, ?_⟩
  ·have e : set (p ++ x0 :: l) (Int.toNat (p.length : Int)) (K_si.mk (m141 v1) (v1 + 1)) = (p ++ [(K_si.mk (m141 v1) (v1 + 1))]) ++ l := by simp
   have e0 : ((p ++ [(K_si.mk (m141 v1) (v1 + 1))]).length : Int) = (p.length : Int) + 1 := by simp
   rw [e0] at e1
   simp (disch := omega) only [r85_0, wrap64d]
   first | (rw [e, e1]; simp; done) | (simp only [e, e1]; simp; done)
  ·intro c j
   obtain ⟨u1, u2, g⟩ := e5 c (j + 1)
   refine ⟨u1, u2, ?_⟩
   simp (disch := omega) only [r142_0, wrap64d]
   first | (simpa using g) | (simp_all; done)
theorem mh85 (a : List K_si) (k : Int) (h0 : 0 ≤ k) (h1 : k + ((map wt_si a).sum : Nat) ≤ 4611686018427387904) : m142 (o85_0 a k) k = m85 a k ∧ k ≤ m85 a k ∧ m85 a k ≤ k + ((map wt_si a).sum : Nat) := by
 obtain ⟨q, k', w2, w3, e1, e2, e3, e4, e5⟩ := mr85_0 a a [] k h0 h1
 obtain ⟨u1, u2, g⟩ := e5 q 0
 simp only [List.nil_append, length_nil] at e1
 rw [show ((0 : Nat) : Int) = 0 from rfl] at e1
 unfold m85 o85_0 m142
 rw [e1]; simp only []; rw [g]; exact ⟨rfl, e3, e4⟩
theorem mr86_0 (a0 : List K_R) : ∀ (l p : List K_R) (v1 : Int), 0 ≤ v1 → v1 + ((map wt_R l).sum : Nat) ≤ 4611686018427387904 → ∃ (q : List K_R) (k' : Int) (w2 : _) (w3 : _), r86_0 a0 l (p.length : Int) (p ++ l) v1 = .k0 (p ++ q) k' w2 w3 ∧ q.length = l.length ∧ v1 ≤ k' ∧ k' ≤ v1 + ((map wt_R l).sum : Nat) ∧ ∀ (c : List K_R) (j : Int), ∃ u1 u2, r143_0 c q j v1 = .k0 k' u1 u2
 | [], p, v1, h0, h1 => ⟨[], v1, (p.length : Int), (decide ((p.length : Int) < ((length (map d_R a0)) : Int))), rfl, rfl, by omega, by simp, fun c j => ⟨j, (decide (j < ((length (map b_R c)) : Int))), rfl⟩⟩
 | x0 :: l, p, v1, h0, h1 => by
  simp only [List.map_cons, List.sum_cons, wt_R] at h1 ⊢
  have s0 := mh85 x0.f3 (((v1 + 1) + 1) + 1) (by omega) (by omega)
  obtain ⟨q, k', w2, w3, e1, e2, e3, e4, e5⟩ := mr86_0 a0 l (p ++ [(K_R.mk v1 (v1 + 1) ((v1 + 1) + 1) (o85_0 x0.f3 (((v1 + 1) + 1) + 1)) (m85 x0.f3 (((v1 + 1) + 1) + 1)))]) ((m85 x0.f3 (((v1 + 1) + 1) + 1)) + 1) (by omega) (by omega)
  refine ⟨(K_R.mk v1 (v1 + 1) ((v1 + 1) + 1) (o85_0 x0.f3 (((v1 + 1) + 1) + 1)) (m85 x0.f3 (((v1 + 1) + 1) + 1))) :: q, k', w2, w3, ?_, by simp [e2], by omega, by omega, ?_⟩
  ·have e : set (p ++ x0 :: l) (Int.toNat (p.length : Int)) (K_R.mk v1 (v1 + 1) ((v1 + 1) + 1) (o85_0 x0.f3 (((v1 + 1) + 1) + 1)) (m85 x0.f3 (((v1 + 1) + 1) + 1))) = (p ++ [(K_R.mk v1 (v1 + 1) ((v1 + 1) + 1) (o85_0 x0.f3 (((v1 + 1) + 1) + 1)) (m85 x0.f3 (((v1 + 1) + 1) + 1)))]) ++ l := by simp
   have e0 : ((p ++ [(K_R.mk v1 (v1 + 1) ((v1 + 1) + 1) (o85_0 x0.f3 (((v1 + 1) + 1) + 1)) (m85 x0.f3 (((v1 + 1) + 1) + 1)))]).length : Int) = (p.length : Int) + 1 := by simp
   rw [e0] at e1
   simp (disch := omega) only [r86_0, wrap64d]
   first | (rw [e, e1]; simp; done) | (simp only [e, e1]; simp; done)
  ·intro c j
   obtain ⟨u1, u2, g⟩ := e5 c (j + 1)
   refine ⟨u1, u2, ?_⟩
   have t0 := s0.1
   have n0 : ¬ (m85 x0.f3 (((v1 + 1) + 1) + 1) < 0) := by omega
   simp (disch := omega) only [r143_0, wrap64d, t0]
   first | (simpa [n0] using g) | (simp_all; done)
theorem mh86 (a : List K_R) (k : Int) (h0 : 0 ≤ k) (h1 : k + ((map wt_R a).sum : Nat) ≤ 4611686018427387904) : m143 (o86_0 a k) k = m86 a k ∧ k ≤ m86 a k ∧ m86 a k ≤ k + ((map wt_R a).sum : Nat) := by
 obtain ⟨q, k', w2, w3, e1, e2, e3, e4, e5⟩ := mr86_0 a a [] k h0 h1
 obtain ⟨u1, u2, g⟩ := e5 q 0
 simp only [List.nil_append, length_nil] at e1
 rw [show ((0 : Nat) : Int) = 0 from rfl] at e1
 unfold m86 o86_0 m143
 rw [e1]; simp only []; rw [g]; exact ⟨rfl, e3, e4⟩
theorem mh27 (a : K_B) (k : Int) (h0 : 0 ≤ k) (h1 : k + (wt_B a : Nat) ≤ 4611686018427387904) : m87 (K_B.mk a.f0 a.f1 (o27_2 a k) (o27_1 a k) (o27_0 a k) a.f5 a.f6 a.f7) k = m27 a k ∧ k ≤ m27 a k ∧ m27 a k ≤ k + (wt_B a : Nat) := by
 simp only [wt_B] at h1 ⊢
 have s0 := mh85 a.f2 k (by omega) (by omega)
 have s1 := mh86 a.f3 (m85 a.f2 k) (by omega) (by omega)
 have s2 := mh85 a.f4 (m86 a.f3 (m85 a.f2 k)) (by omega) (by omega)
 have t0 := s0.1
 have t1 := s1.1
 have t2 := s2.1
 try simp only [length_map, wt_si, wt_R, wt_B, wt_i, wt_b, wt_C, wt_LsiE, wt_Q, wt_s, wt_LiE, wt_y] at *
 unfold m87 m27 o27_0 o27_1 o27_2
 simp (disch := omega) only [wrap64d, t0, t1, t2]
 refine ⟨?_, by omega, by omega⟩
 (repeat' rw [if_neg (by simp only [decide_eq_true_eq]; omega)]) <;> rfl
theorem mh28 (a : K_C) (k : Int) (h0 : 0 ≤ k) (h1 : k + (wt_C a : Nat) ≤ 4611686018427387904) : m29 (K_C.mk a.f0 a.f1 a.f2 a.f3 (o28_2 a k) (o28_1 a k) (o28_0 a k) a.f7 a.f8 a.f9) k = m28 a k ∧ k ≤ m28 a k ∧ m28 a k ≤ k + (wt_C a : Nat) := by
 simp only [wt_C] at h1 ⊢
 have s0 := mh27 (K_B.mk a.f2 a.f3 a.f4 a.f5 a.f6 a.f7 a.f8 a.f9) k (by omega) (by simp only [wt_si, wt_R, wt_B, wt_i, wt_b, wt_C, wt_LsiE, wt_Q, wt_s, wt_LiE, wt_y] at *; omega)
 have t0 := s0.1
 try simp only [length_map, wt_si, wt_R, wt_B, wt_i, wt_b, wt_C, wt_LsiE, wt_Q, wt_s, wt_LiE, wt_y] at *
 unfold m29 m28 o28_0 o28_1 o28_2
 simp (disch := omega) only [wrap64d, t0]
 refine ⟨?_, by omega, by omega⟩
 (repeat' rw [if_neg (by simp only [decide_eq_true_eq]; omega)]) <;> rfl
theorem ck106 (F : FuncId → Option VFun) (X : Ext) : CkD F X 28 46 2 24 [(.val (.string (⟨#[]⟩ : ByteArray))), (.val (.int .i64 0))] := by
 intro l rows h1 h2
 exact codeH_ok (t := 0) (hs := []) (q := [0 + 0 ≤ 0, (([] : List (List D)) ++ fromBR l rows).length * 24 ≤ 70368744177664, ∀ r ∈ fromBR l rows, r.length = 2]) (by rfl) ⟨by simp, by simpa using h1, h2, trivial⟩
theorem X_ok (f : FuncId) (args : List SV) (rs : List Ret) (h : X f args rs) : CallOK Tryd.prog f args [] [] rs := by
 rcases h with ⟨rfl, h⟩ | ⟨rfl, h⟩
 ·exact clone_ok (X := fun _ _ _ => False) (T := 28) (E := 46) (k := 2) (kb := 24) (zero := [(.val (.string (⟨#[]⟩ : ByteArray))), (.val (.int .i64 0))]) (by kernel_rfl) F_ok (fun _ _ _ h => h.elim) (by kernel_rfl) (ck106 _ _) h
 ·obtain ⟨s, c, h1, h2, h3, rfl, rfl⟩ := h
  exact trim_ok s c h1 h2 h3
end Go.Proofs.YtfmkbpiobddhdaaDoor.FoundReward
