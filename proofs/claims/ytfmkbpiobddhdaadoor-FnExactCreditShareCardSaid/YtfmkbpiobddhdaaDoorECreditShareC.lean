/- What the functions compute. -/
import Derived.Test.YtfmkbpiobddhdaaDoorECreditShareB
import Derived.KernelRfl
namespace Go.Proofs.YtfmkbpiobddhdaaDoor.CreditShare
open Go Go.Proofs.YtfmkbpiobddhdaaDoor.V
set_option linter.unusedVariables false
set_option linter.unusedSimpArgs false
set_option maxRecDepth 20000
open List (length_replicate length_map length_set length_append length_cons length_nil length_take length_drop take_of_length_le map_take map_drop map_set append_assoc getElem?_map map length take drop getD set)
attribute [local simp] toBR_si fullR_si pureR_si lenB_si lenD_si fromBR_si copy_si toBR_R fullR_R pureR_R lenB_R lenD_R toBR_B fullR_B pureR_B lenB_B lenD_B toBR_b fullR_b pureR_b lenB_b lenD_b fromBR_b copy_b toBR_i fullR_i pureR_i lenB_i lenD_i fromBR_i copy_i toBR_C fullR_C pureR_C lenB_C lenD_C toBR_LsiE fullR_LsiE pureR_LsiE lenB_LsiE lenD_LsiE toBR_iLsiE fullR_iLsiE pureR_iLsiE lenB_iLsiE lenD_iLsiE toBR_Q fullR_Q pureR_Q lenB_Q lenD_Q toBR_s fullR_s pureR_s lenB_s lenD_s fromBR_s copy_s toBR_y fullR_y pureR_y lenB_y lenD_y fromBR_y copy_y
/-! loop.example/g00539/impl.rewardAt -/
def m90 (a0 : (List K_R)) (a1 : Int) : Int :=
  (m1014500 a0 a1)
theorem e90 {l0_0 : Nat} {a0 : (List K_R)} {a1 : Int} (hy0 : length a0 * 56 ≤ 140737488351232) (hy1 : ∀ z ∈ a0, ok_R z) : Ev F X (.call 90 [(.one (.bor l0_0 (map b_R a0))), (.one (.val (.int .i64 a1)))] [] [] [(.one (.val (.int .i64 (m1014500 a0 a1))))]) := by
  have f0 : fullL [(.val (.int .i64 a1))] = true := (by trivial)
  have f1 : Ev F X (.call 145 [(.one (.bor (l0_0 + 1) (map b_R a0))), (.clo 146 [] [(.bptr 0 [(.i a1)])])] [] [] [(.oi (m1014500 a0 a1))]) := (e1014500 (a0 := a0) (a2001 := a1) (by with_reducible assumption) (by with_reducible assumption))
  exact callP_ok (ps := []) (os := []) (rs := [(.oi (m1014500 a0 a1))]) (by kernel_rfl) (.f f0 (.r 9 [] [] f1 .nil))
/-! loop.example/g00539/impl.isSum -/
def m100 (a0 : Int) : Bool :=
  (m93 a0 0 2147483646)
theorem e100 {a0 : Int} : Ev F X (.call 100 [(.one (.val (.int .i64 a0)))] [] [] [(.one (.val (.bool (m93 a0 0 2147483646))))]) := by
  have f0 : Ev F X (.call 93 [(.oi a0), (.oi 0), (.oi 2147483646)] [] [] [(.one (.val (.bool (m93 a0 0 2147483646))))]) := (e93 (a0 := a0) (a1 := 0) (a2 := 2147483646))
  exact callP_ok (ps := []) (os := []) (rs := [(.one (.val (.bool (m93 a0 0 2147483646))))]) (by kernel_rfl) (.r 5 [] [] f0 .nil)
/-! loop.example/g00539/impl.rewardFault -/
def m73 (a0 : K_R) (a1 : (List K_R)) : Int :=
  if (!(m93 a0.f0 0 2147483646)) = true then 3 else
  if (!(m93 a0.f1 0 1000000)) = true then 3 else
    if (!(m93 a0.f2 0 1000000)) = true then 3 else
      if (!(m93 a0.f4 1 3)) = true then 3 else
        if (!(m74 a0.f3 12)) = true then 1 else
          if ((IntKind.wrap .i64 ((m75 a0.f3) + a0.f2)) != a0.f1) = true then 1 else
            if (decide ((m1014500 a1 a0.f0) ≥ 0)) = true then 6 else
              0
theorem e73 {l0_3 : Nat} {a0 : K_R} {l1_0 : Nat} {a1 : (List K_R)} (hy0 : length a0.f3 * 24 ≤ 140737488351232) (hy1 : length a1 * 56 ≤ 140737488351232) (hy2 : ∀ z ∈ a1, ok_R z) : Ev F X (.call 73 [(.agg [(.val (.int .i64 a0.f0)), (.val (.int .i64 a0.f1)), (.val (.int .i64 a0.f2)), (.bor l0_3 (map b_si a0.f3)), (.val (.int .i64 a0.f4))]), (.one (.bor l1_0 (map b_R a1)))] [] [] [(.one (.val (.int .i64 (m73 a0 a1))))]) := by
  unfold m73
  have f0 : Ev F X (.call 100 [(.oi a0.f0)] [] [] [(.one (.val (.bool (m93 a0.f0 0 2147483646))))]) := (e100 (a0 := a0.f0))
  by_cases h0 : (!(m93 a0.f0 0 2147483646)) = true
  · try simp only [if_pos h0]
    exact callP_ok (ps := []) (os := []) (rs := [(.oi 3)]) (by kernel_rfl) (.r 9 [] [] f0 (.f h0 (.f h0 (.f h0 (.f h0 (.f h0 (.h 14 (.b true) (.h 16 (.b true) (.h 18 (.b true) (.h 20 (.b true) (.h 23 (.b true) .nil)))))))))))
  · try simp only [if_neg h0]
    have f4 : Ev F X (.call 72 [(.oi a0.f1)] [] [] [(.one (.val (.bool (m93 a0.f1 0 1000000))))]) := (e72 (a0 := a0.f1))
    by_cases h1 : (!(m93 a0.f1 0 1000000)) = true
    · try simp only [if_pos h1]
      exact callP_ok (ps := []) (os := []) (rs := [(.oi 3)]) (by kernel_rfl) (.r 9 [] [] f0 (.f (nt h0) (.f (nt h0) (.f (nt h0) (.h 14 (.b false) (.h 16 (.b false) (.h 18 (.b false) (.r 19 [] [] f4 (.f (nt h0) (.f (nt h0) (.f h1 (.f h1 (.f h1 (.f h1 (.f h1 (.h 20 (.b false) (.h 23 (.b false) (.h 26 (.b true) (.h 28 (.b true) (.h 30 (.b true) (.h 32 (.b true) (.h 35 (.b true) .nil))))))))))))))))))))))
    · try simp only [if_neg h1]
      have f10 : Ev F X (.call 72 [(.oi a0.f2)] [] [] [(.one (.val (.bool (m93 a0.f2 0 1000000))))]) := (e72 (a0 := a0.f2))
      by_cases h2 : (!(m93 a0.f2 0 1000000)) = true
      · try simp only [if_pos h2]
        exact callP_ok (ps := []) (os := []) (rs := [(.oi 3)]) (by kernel_rfl) (.r 9 [] [] f0 (.f (nt h0) (.f (nt h0) (.f (nt h0) (.h 14 (.b false) (.h 16 (.b false) (.h 18 (.b false) (.r 19 [] [] f4 (.f (nt h0) (.f (nt h0) (.f (nt h1) (.f (nt h1) (.f (nt h1) (.h 20 (.b false) (.h 23 (.b false) (.h 26 (.b false) (.h 28 (.b false) (.h 30 (.b false) (.r 31 [] [] f10 (.f (nt h1) (.f (nt h1) (.f h2 (.f h2 (.f h2 (.f h2 (.f h2 (.h 32 (.b false) (.h 35 (.b false) (.h 38 (.b true) (.h 40 (.b true) (.h 42 (.b true) (.h 44 (.b true) (.h 47 (.b true) .nil)))))))))))))))))))))))))))))))))
      · try simp only [if_neg h2]
        have f16 : Ev F X (.call 93 [(.oi a0.f4), (.oi 1), (.oi 3)] [] [] [(.one (.val (.bool (m93 a0.f4 1 3))))]) := (e93 (a0 := a0.f4) (a1 := 1) (a2 := 3))
        by_cases h3 : (!(m93 a0.f4 1 3)) = true
        · try simp only [if_pos h3]
          exact callP_ok (ps := []) (os := []) (rs := [(.oi 3)]) (by kernel_rfl) (.r 9 [] [] f0 (.f (nt h0) (.f (nt h0) (.f (nt h0) (.h 14 (.b false) (.h 16 (.b false) (.h 18 (.b false) (.r 19 [] [] f4 (.f (nt h0) (.f (nt h0) (.f (nt h1) (.f (nt h1) (.f (nt h1) (.h 20 (.b false) (.h 23 (.b false) (.h 26 (.b false) (.h 28 (.b false) (.h 30 (.b false) (.r 31 [] [] f10 (.f (nt h1) (.f (nt h1) (.f (nt h2) (.f (nt h2) (.f (nt h2) (.h 32 (.b false) (.h 35 (.b false) (.h 38 (.b false) (.h 40 (.b false) (.h 42 (.b false) (.r 43 [] [] f16 (.f (nt h2) (.f (nt h2) (.f h3 (.h 44 (.b false) (.h 47 (.b false) (.h 50 (.b true) .nil))))))))))))))))))))))))))))))))))))
        · try simp only [if_neg h3]
          have f20 : Ev F X (.call 74 [(.one (.bor (l0_3 + 1) (map b_si a0.f3))), (.oi 12)] [] [] [(.one (.val (.bool (m74 a0.f3 12))))]) := (e74 (a0 := a0.f3) (a1 := 12) (by with_reducible assumption))
          by_cases h4 : (!(m74 a0.f3 12)) = true
          · try simp only [if_pos h4]
            exact callP_ok (ps := []) (os := []) (rs := [(.oi 1)]) (by kernel_rfl) (.r 9 [] [] f0 (.f (nt h0) (.f (nt h0) (.f (nt h0) (.h 14 (.b false) (.h 16 (.b false) (.h 18 (.b false) (.r 19 [] [] f4 (.f (nt h0) (.f (nt h0) (.f (nt h1) (.f (nt h1) (.f (nt h1) (.h 20 (.b false) (.h 23 (.b false) (.h 26 (.b false) (.h 28 (.b false) (.h 30 (.b false) (.r 31 [] [] f10 (.f (nt h1) (.f (nt h1) (.f (nt h2) (.f (nt h2) (.f (nt h2) (.h 32 (.b false) (.h 35 (.b false) (.h 38 (.b false) (.h 40 (.b false) (.h 42 (.b false) (.r 43 [] [] f16 (.f (nt h2) (.f (nt h2) (.f (nt h3) (.h 44 (.b false) (.h 47 (.b false) (.h 50 (.b false) (.r 56 [] [] f20 (.f h4 (.f h4 (.f h4 (.f h4 (.f h4 (.f h4 (.f h4 (.f h4 (.f h4 (.f h4 (.h 61 (.b true) (.h 63 (.b true) (.h 65 (.b true) (.h 67 (.b true) (.h 69 (.b true) (.h 71 (.b true) (.h 73 (.b true) (.h 75 (.b true) (.h 77 (.b true) (.h 80 (.b true) .nil)))))))))))))))))))))))))))))))))))))))))))))))))))))))))
          · try simp only [if_neg h4]
            have f24 : Ev F X (.call 75 [(.one (.bor (l0_3 + 1) (map b_si a0.f3)))] [] [] [(.oi (m75 a0.f3))]) := (e75 (a0 := a0.f3) (by with_reducible assumption))
            by_cases h5 : ((IntKind.wrap .i64 ((m75 a0.f3) + a0.f2)) != a0.f1) = true
            · try simp only [if_pos h5]
              exact callP_ok (ps := []) (os := []) (rs := [(.oi 1)]) (by kernel_rfl) (.r 9 [] [] f0 (.f (nt h0) (.f (nt h0) (.f (nt h0) (.h 14 (.b false) (.h 16 (.b false) (.h 18 (.b false) (.r 19 [] [] f4 (.f (nt h0) (.f (nt h0) (.f (nt h1) (.f (nt h1) (.f (nt h1) (.h 20 (.b false) (.h 23 (.b false) (.h 26 (.b false) (.h 28 (.b false) (.h 30 (.b false) (.r 31 [] [] f10 (.f (nt h1) (.f (nt h1) (.f (nt h2) (.f (nt h2) (.f (nt h2) (.h 32 (.b false) (.h 35 (.b false) (.h 38 (.b false) (.h 40 (.b false) (.h 42 (.b false) (.r 43 [] [] f16 (.f (nt h2) (.f (nt h2) (.f (nt h3) (.h 44 (.b false) (.h 47 (.b false) (.h 50 (.b false) (.r 56 [] [] f20 (.f (nt h4) (.f (nt h4) (.f (nt h4) (.h 61 (.b false) (.h 63 (.b false) (.h 65 (.b false) (.r 66 [] [] f24 (.f (nt h4) (.f (nt h4) (.f (nt h4) (.f trivial (.f (nt h4) (.f (nt h4) (.f (nt h4) (.f (nt h4) (.f h5 (.h 67 (.b false) (.h 69 (.b false) (.h 71 (.b false) (.h 73 (.b false) (.h 75 (.b false) (.h 77 (.b false) (.h 80 (.b false) (.h 83 (.b true) .nil)))))))))))))))))))))))))))))))))))))))))))))))))))))))))))))
            · try simp only [if_neg h5]
              have f34 : Ev F X (.call 90 [(.one (.bor (l1_0 + 1) (map b_R a1))), (.oi a0.f0)] [] [] [(.oi (m1014500 a1 a0.f0))]) := (e90 (a0 := a1) (a1 := a0.f0) (by with_reducible assumption) (by with_reducible assumption))
              by_cases h6 : (decide ((m1014500 a1 a0.f0) ≥ 0)) = true
              · try simp only [if_pos h6]
                exact callP_ok (ps := []) (os := []) (rs := [(.oi 6)]) (by kernel_rfl) (.r 9 [] [] f0 (.f (nt h0) (.f (nt h0) (.f (nt h0) (.h 14 (.b false) (.h 16 (.b false) (.h 18 (.b false) (.r 19 [] [] f4 (.f (nt h0) (.f (nt h0) (.f (nt h1) (.f (nt h1) (.f (nt h1) (.h 20 (.b false) (.h 23 (.b false) (.h 26 (.b false) (.h 28 (.b false) (.h 30 (.b false) (.r 31 [] [] f10 (.f (nt h1) (.f (nt h1) (.f (nt h2) (.f (nt h2) (.f (nt h2) (.h 32 (.b false) (.h 35 (.b false) (.h 38 (.b false) (.h 40 (.b false) (.h 42 (.b false) (.r 43 [] [] f16 (.f (nt h2) (.f (nt h2) (.f (nt h3) (.h 44 (.b false) (.h 47 (.b false) (.h 50 (.b false) (.r 56 [] [] f20 (.f (nt h4) (.f (nt h4) (.f (nt h4) (.h 61 (.b false) (.h 63 (.b false) (.h 65 (.b false) (.r 66 [] [] f24 (.f (nt h4) (.f (nt h4) (.f (nt h4) (.f trivial (.f (nt h4) (.f (nt h4) (.f (nt h4) (.f (nt h4) (.f (nt h5) (.h 67 (.b false) (.h 69 (.b false) (.h 71 (.b false) (.h 73 (.b false) (.h 75 (.b false) (.h 77 (.b false) (.h 80 (.b false) (.h 83 (.b false) (.r 91 [] [] f34 (.f h6 (.h 96 (.b true) .nil))))))))))))))))))))))))))))))))))))))))))))))))))))))))))))))))
              · try simp only [if_neg h6]
                exact callP_ok (ps := []) (os := []) (rs := [(.oi 0)]) (by kernel_rfl) (.r 9 [] [] f0 (.f (nt h0) (.f (nt h0) (.f (nt h0) (.h 14 (.b false) (.h 16 (.b false) (.h 18 (.b false) (.r 19 [] [] f4 (.f (nt h0) (.f (nt h0) (.f (nt h1) (.f (nt h1) (.f (nt h1) (.h 20 (.b false) (.h 23 (.b false) (.h 26 (.b false) (.h 28 (.b false) (.h 30 (.b false) (.r 31 [] [] f10 (.f (nt h1) (.f (nt h1) (.f (nt h2) (.f (nt h2) (.f (nt h2) (.h 32 (.b false) (.h 35 (.b false) (.h 38 (.b false) (.h 40 (.b false) (.h 42 (.b false) (.r 43 [] [] f16 (.f (nt h2) (.f (nt h2) (.f (nt h3) (.h 44 (.b false) (.h 47 (.b false) (.h 50 (.b false) (.r 56 [] [] f20 (.f (nt h4) (.f (nt h4) (.f (nt h4) (.h 61 (.b false) (.h 63 (.b false) (.h 65 (.b false) (.r 66 [] [] f24 (.f (nt h4) (.f (nt h4) (.f (nt h4) (.f trivial (.f (nt h4) (.f (nt h4) (.f (nt h4) (.f (nt h4) (.f (nt h5) (.h 67 (.b false) (.h 69 (.b false) (.h 71 (.b false) (.h 73 (.b false) (.h 75 (.b false) (.h 77 (.b false) (.h 80 (.b false) (.h 83 (.b false) (.r 91 [] [] f34 (.f (nt h6) (.h 96 (.b false) .nil))))))))))))))))))))))))))))))))))))))))))))))))))))))))))))))))
/-! loop 76_0 -/
inductive O76_0 where
  | k0 (w0 : Int) (w1 : Int) (w2 : Bool)
def r76_0 (a0 : (List K_R)) (a1 : Int) : List K_R → Int → Int → O76_0
  | x0 :: y0, i, v1 =>
    if (a1 == 0) = true then (r76_0 a0 a1 y0 (i + 1) (IntKind.wrap .i64 (v1 + x0.f1))) else
    if (x0.f4 == a1) = true then (r76_0 a0 a1 y0 (i + 1) (IntKind.wrap .i64 (v1 + x0.f1))) else
      (r76_0 a0 a1 y0 (i + 1) v1)
  | [], i, v1 => (O76_0.k0 v1 i (decide (i < ((length (map b_R a0)) : Int))))
def h76_0 (l0_0 : Nat) (a0 : (List K_R)) (a1 : Int) (i : Int) (v1 : Int) : St := ⟨[(1, (.one (.val (.int .i64 a1)))), (5, (.one (.val (.int .i64 v1)))), (8, (.one (.bor l0_0 (map b_R a0)))), (9, (.one (.val (.int .i64 ((length (map b_R a0)) : Int))))), (10, (.one (.val (.int .i64 i))))], []⟩
def ex76_0 : O76_0 → VX.Exit
  | .k0 _ _ _ => (.exit 0)
def fin76_0 (l0_0 : Nat) (a0 : (List K_R)) (a1 : Int) : O76_0 → St
  | .k0 w0 w1 w2 => ⟨[(1, (.one (.val (.int .i64 a1)))), (5, (.one (.val (.int .i64 w0)))), (8, (.one (.bor l0_0 (map b_R a0)))), (9, (.one (.val (.int .i64 ((length (map b_R a0)) : Int))))), (10, (.one (.val (.int .i64 w1)))), (11, (.one (.val (.bool w2))))], []⟩
theorem t76_0 {l0_0 : Nat} {a0 : (List K_R)} {a1 : Int} (hy0 : length a0 * 56 ≤ 140737488351232) (hy1 : ∀ z ∈ a0, ok_R z) : ∀ (y0 : List K_R) (p : List K_R) (v1 : Int), p ++ y0 = a0 → Ev F X (.code l76_0 (h76_0 l0_0 a0 a1 (length p : Int) v1) (ex76_0 (r76_0 a0 a1 y0 (length p : Int) v1)) (fin76_0 l0_0 a0 a1 (r76_0 a0 a1 y0 (length p : Int) v1)))
  | [], p, v1, hp0 => by
    have hc : ¬ (decide ((length p : Int) < ((length (map b_R a0)) : Int))) = true := by
      rw [← hp0]; simp only [length_map, length_set, length_append, length_replicate, length_cons, length_nil, decide_eq_true_eq]; omega
    have st := codeH_ok (F := F) (X := X) (c := b76_0) (t := 0) (hs := [(2, .b false)]) (σ := h76_0 l0_0 a0 a1 (length p : Int) v1) (σ' := fin76_0 l0_0 a0 a1 (.k0 v1 (length p : Int) (decide ((length p : Int) < ((length (map b_R a0)) : Int))))) (e := (.exit 0)) (t' := 3) (hs' := []) (q := [(decide ((length p : Int) < ((length (map b_R a0)) : Int))) = false]) (by kernel_rfl) ⟨(nt hc), trivial⟩
    exact .loopX st (show ((.exit 0) : VX.Exit) ≠ .normal from by simp)
  | x0 :: y0, p, v1, hp0 => by
    have hc : (decide ((length p : Int) < ((length (map b_R a0)) : Int))) = true := by
      rw [← hp0]; simp only [length_map, length_set, length_append, length_replicate, length_cons, length_nil, decide_eq_true_eq]; omega
    have Hx0 : (a0)[Int.toNat (length p : Int)]? = some x0 := by
      rw [← hp0, Int.toNat_natCast]; simp
    have Mx0_0 := hy1 x0 (List.mem_of_getElem? Hx0)
    have hlen : length (a0) = length p + length y0 + 1 := by rw [← hp0]; simp; omega
    have hw : IntKind.wrap .i64 ((length p : Int) + 1) = (length p : Int) + 1 := wrap64 (by omega)
    simp only [r76_0]
    by_cases h_1 : (a1 == 0) = true
    · try simp only [if_pos h_1]
      have st := codeH_ok (F := F) (X := X) (c := b76_0) (t := 0) (hs := [(2, .b true), (4, .row [(.i x0.f0), (.i x0.f1), (.i x0.f2), (.sl (map b_si x0.f3)), (.i x0.f4)]), (17, .b true), (19, .b true), (21, .b true), (23, .b true), (26, .b true)]) (σ := h76_0 l0_0 a0 a1 (length p : Int) v1) (σ' := ⟨[(1, (.oi a1)), (5, (.oi (IntKind.wrap .i64 (v1 + x0.f1)))), (8, (.one (.bor l0_0 (map b_R a0)))), (9, (.oi ((length (map b_R a0)) : Int))), (10, (.oi (IntKind.wrap .i64 ((length p : Int) + 1))))], []⟩) (e := .normal) (t' := 42) (hs' := []) (q := [(decide ((length p : Int) < ((length (map b_R a0)) : Int))) = true, 0 ≤ (length p : Int), (map b_R a0)[(Int.toNat (length p : Int))]? = some [(.i x0.f0), (.i x0.f1), (.i x0.f2), (.sl (map b_si x0.f3)), (.i x0.f4)], (a1 == 0) = true, (a1 == 0) = true, (a1 == 0) = true, (a1 == 0) = true, (a1 == 0) = true, True, True]) (by kernel_rfl) ⟨hc, (by omega), (by rw [getElem?_map, Hx0]; rfl), h_1, h_1, h_1, h_1, h_1, trivial, trivial, trivial⟩
      have ih := t76_0 (l0_0 := l0_0) (a0 := a0) (a1 := a1) hy0 hy1 y0 (p ++ [x0]) (IntKind.wrap .i64 (v1 + x0.f1)) (by rw [append_assoc]; exact hp0)
      rw [show ((p ++ [x0]).length : Int) = (p.length : Int) + 1 from by simp] at ih
      rw [show (⟨[(1, (.oi a1)), (5, (.oi (IntKind.wrap .i64 (v1 + x0.f1)))), (8, (.one (.bor l0_0 (map b_R a0)))), (9, (.oi ((length (map b_R a0)) : Int))), (10, (.oi (IntKind.wrap .i64 ((length p : Int) + 1))))], []⟩ : St) = h76_0 l0_0 a0 a1 ((length p : Int) + 1) (IntKind.wrap .i64 (v1 + x0.f1)) from (by unfold h76_0; simp only [hw]; done)] at st
      exact .loopN st ih
    · try simp only [if_neg h_1]
      by_cases h_2 : (x0.f4 == a1) = true
      · try simp only [if_pos h_2]
        have st := codeH_ok (F := F) (X := X) (c := b76_0) (t := 0) (hs := [(2, .b true), (4, .row [(.i x0.f0), (.i x0.f1), (.i x0.f2), (.sl (map b_si x0.f3)), (.i x0.f4)]), (17, .b false), (19, .b false), (21, .b false), (23, .b false), (26, .b false), (27, .b true)]) (σ := h76_0 l0_0 a0 a1 (length p : Int) v1) (σ' := ⟨[(1, (.oi a1)), (5, (.oi (IntKind.wrap .i64 (v1 + x0.f1)))), (8, (.one (.bor l0_0 (map b_R a0)))), (9, (.oi ((length (map b_R a0)) : Int))), (10, (.oi (IntKind.wrap .i64 ((length p : Int) + 1))))], []⟩) (e := .normal) (t' := 42) (hs' := []) (q := [(decide ((length p : Int) < ((length (map b_R a0)) : Int))) = true, 0 ≤ (length p : Int), (map b_R a0)[(Int.toNat (length p : Int))]? = some [(.i x0.f0), (.i x0.f1), (.i x0.f2), (.sl (map b_si x0.f3)), (.i x0.f4)], (a1 == 0) = false, (a1 == 0) = false, (a1 == 0) = false, (a1 == 0) = false, (a1 == 0) = false, (x0.f4 == a1) = true, True, True]) (by kernel_rfl) ⟨hc, (by omega), (by rw [getElem?_map, Hx0]; rfl), (nt h_1), (nt h_1), (nt h_1), (nt h_1), (nt h_1), h_2, trivial, trivial, trivial⟩
        have ih := t76_0 (l0_0 := l0_0) (a0 := a0) (a1 := a1) hy0 hy1 y0 (p ++ [x0]) (IntKind.wrap .i64 (v1 + x0.f1)) (by rw [append_assoc]; exact hp0)
        rw [show ((p ++ [x0]).length : Int) = (p.length : Int) + 1 from by simp] at ih
        rw [show (⟨[(1, (.oi a1)), (5, (.oi (IntKind.wrap .i64 (v1 + x0.f1)))), (8, (.one (.bor l0_0 (map b_R a0)))), (9, (.oi ((length (map b_R a0)) : Int))), (10, (.oi (IntKind.wrap .i64 ((length p : Int) + 1))))], []⟩ : St) = h76_0 l0_0 a0 a1 ((length p : Int) + 1) (IntKind.wrap .i64 (v1 + x0.f1)) from (by unfold h76_0; simp only [hw]; done)] at st
        exact .loopN st ih
      · try simp only [if_neg h_2]
        have st := codeH_ok (F := F) (X := X) (c := b76_0) (t := 0) (hs := [(2, .b true), (4, .row [(.i x0.f0), (.i x0.f1), (.i x0.f2), (.sl (map b_si x0.f3)), (.i x0.f4)]), (17, .b false), (19, .b false), (21, .b false), (23, .b false), (26, .b false), (27, .b false)]) (σ := h76_0 l0_0 a0 a1 (length p : Int) v1) (σ' := ⟨[(1, (.oi a1)), (5, (.oi v1)), (8, (.one (.bor l0_0 (map b_R a0)))), (9, (.oi ((length (map b_R a0)) : Int))), (10, (.oi (IntKind.wrap .i64 ((length p : Int) + 1))))], []⟩) (e := .normal) (t' := 32) (hs' := []) (q := [(decide ((length p : Int) < ((length (map b_R a0)) : Int))) = true, 0 ≤ (length p : Int), (map b_R a0)[(Int.toNat (length p : Int))]? = some [(.i x0.f0), (.i x0.f1), (.i x0.f2), (.sl (map b_si x0.f3)), (.i x0.f4)], (a1 == 0) = false, (a1 == 0) = false, (a1 == 0) = false, (a1 == 0) = false, (a1 == 0) = false, (x0.f4 == a1) = false, True]) (by kernel_rfl) ⟨hc, (by omega), (by rw [getElem?_map, Hx0]; rfl), (nt h_1), (nt h_1), (nt h_1), (nt h_1), (nt h_1), (nt h_2), trivial, trivial⟩
        have ih := t76_0 (l0_0 := l0_0) (a0 := a0) (a1 := a1) hy0 hy1 y0 (p ++ [x0]) v1 (by rw [append_assoc]; exact hp0)
        rw [show ((p ++ [x0]).length : Int) = (p.length : Int) + 1 from by simp] at ih
        rw [show (⟨[(1, (.oi a1)), (5, (.oi v1)), (8, (.one (.bor l0_0 (map b_R a0)))), (9, (.oi ((length (map b_R a0)) : Int))), (10, (.oi (IntKind.wrap .i64 ((length p : Int) + 1))))], []⟩ : St) = h76_0 l0_0 a0 a1 ((length p : Int) + 1) v1 from (by unfold h76_0; simp only [hw]; done)] at st
        exact .loopN st ih
/-! loop.example/g00539/impl.totals -/
def m76 (a0 : (List K_R)) (a1 : Int) : Int :=
  (match r76_0 a0 a1 a0 0 0 with | .k0 w0_0 w1_0 w2_0 => w0_0)
theorem e76 {l0_0 : Nat} {a0 : (List K_R)} {a1 : Int} (hy0 : length a0 * 56 ≤ 140737488351232) (hy1 : ∀ z ∈ a0, ok_R z) : Ev F X (.call 76 [(.one (.bor l0_0 (map b_R a0))), (.one (.val (.int .i64 a1)))] [] [] [(.one (.val (.int .i64 (m76 a0 a1))))]) := by
  unfold m76
  cases h0 : r76_0 a0 a1 a0 0 0 with
  | k0 w0_0 w1_0 w2_0 =>
    try dsimp only
    have f0 : (⟨[(1, (.oi a1)), (5, (.oi 0)), (8, (.one (.bor l0_0 (map b_R a0)))), (9, (.oi ((length (map b_R a0)) : Int))), (10, (.oi 0))], []⟩ : St) = h76_0 l0_0 a0 a1 0 0 := (by rfl)
    have f1 : Ev F X (.code l76_0 (h76_0 l0_0 a0 a1 0 0) (.exit 0) ⟨[(1, (.oi a1)), (5, (.oi w0_0)), (8, (.one (.bor l0_0 (map b_R a0)))), (9, (.oi ((length (map b_R a0)) : Int))), (10, (.oi w1_0)), (11, (.one (.val (.bool w2_0))))], []⟩) := (by have t : Ev F X (.code l76_0 (h76_0 l0_0 a0 a1 0 0) (ex76_0 (r76_0 a0 a1 a0 0 0)) (fin76_0 l0_0 a0 a1 (r76_0 a0 a1 a0 0 0))) := t76_0 (l0_0 := l0_0) (a0 := a0) (a1 := a1) (by assumption) (by assumption) a0 [] 0 rfl; rw [h0] at t; exact t)
    exact callP_ok (ps := []) (os := []) (rs := [(.oi w0_0)]) (by kernel_rfl) (.f f0 (.f f1 (.h 10 (.loop (h76_0 l0_0 a0 a1 0 0) (.exit 0) ⟨[(1, (.oi a1)), (5, (.oi w0_0)), (8, (.one (.bor l0_0 (map b_R a0)))), (9, (.oi ((length (map b_R a0)) : Int))), (10, (.oi w1_0)), (11, (.one (.val (.bool w2_0))))], []⟩) .nil)))
/-! loop 17_0 -/
inductive O17_0 where
  | k0 (w0 : Int) (w1 : Bool)
  | k1 (w0 : Int)
def r17_0 (a0 : K_B) : List K_R → Int → O17_0
  | x0 :: y0, i =>
    if ((m73 x0 (take (Int.toNat i) a0.f3)) != 0) = true then (O17_0.k1 (m73 x0 (take (Int.toNat i) a0.f3))) else
    (r17_0 a0 y0 (i + 1) )
  | [], i => (O17_0.k0 i (decide (i < ((length (map b_R a0.f3)) : Int))))
def h17_0 (l0_2 : Nat) (l0_3 : Nat) (l0_4 : Nat) (a0 : K_B) (i : Int)  : St := ⟨[(1, (.ptr ⟨(1, 0, 0), [], 0, 0, 8⟩)), (56, (.one (.bor l0_3 (map b_R a0.f3)))), (57, (.one (.val (.int .i64 ((length (map b_R a0.f3)) : Int))))), (58, (.one (.val (.int .i64 i))))], [((1, 0, 0), .live ⟨8, [[(.val (.int .i64 a0.f0)), (.val (.int .i64 a0.f1)), (.bor l0_2 (map b_si a0.f2)), (.bor l0_3 (map b_R a0.f3)), (.bor l0_4 (map b_si a0.f4)), (.val (.int .i64 a0.f5)), (.val (.int .i64 a0.f6)), (.val (.int .i64 a0.f7))]], []⟩)]⟩
def ex17_0 : O17_0 → VX.Exit
  | .k0 _ _ => (.exit 0)
  | .k1 _ => .ret
def fin17_0 (l0_2 : Nat) (l0_3 : Nat) (l0_4 : Nat) (a0 : K_B) : O17_0 → St
  | .k0 w0 w1 => ⟨[(1, (.ptr ⟨(1, 0, 0), [], 0, 0, 8⟩)), (56, (.one (.bor l0_3 (map b_R a0.f3)))), (57, (.one (.val (.int .i64 ((length (map b_R a0.f3)) : Int))))), (58, (.one (.val (.int .i64 w0)))), (59, (.one (.val (.bool w1))))], [((1, 0, 0), .live ⟨8, [[(.val (.int .i64 a0.f0)), (.val (.int .i64 a0.f1)), (.bor l0_2 (map b_si a0.f2)), (.bor l0_3 (map b_R a0.f3)), (.bor l0_4 (map b_si a0.f4)), (.val (.int .i64 a0.f5)), (.val (.int .i64 a0.f6)), (.val (.int .i64 a0.f7))]], []⟩)]⟩
  | .k1 w0 => ⟨[(2, (.one (.val (.int .i64 w0))))], []⟩
theorem t17_0 {l0_2 : Nat} {l0_3 : Nat} {l0_4 : Nat} {a0 : K_B} (hy0 : length a0.f2 * 24 ≤ 140737488351232) (hy1 : length a0.f3 * 56 ≤ 140737488351232) (hy2 : ∀ z ∈ a0.f3, ok_R z) (hy3 : length a0.f4 * 24 ≤ 140737488351232) : ∀ (y0 : List K_R) (p : List K_R) , p ++ y0 = a0.f3 → Ev F X (.code l17_0 (h17_0 l0_2 l0_3 l0_4 a0 (length p : Int) ) (ex17_0 (r17_0 a0 y0 (length p : Int) )) (fin17_0 l0_2 l0_3 l0_4 a0 (r17_0 a0 y0 (length p : Int) )))
  | [], p, hp0 => by
    have hc : ¬ (decide ((length p : Int) < ((length (map b_R a0.f3)) : Int))) = true := by
      rw [← hp0]; simp only [length_map, length_set, length_append, length_replicate, length_cons, length_nil, decide_eq_true_eq]; omega
    have st := codeH_ok (F := F) (X := X) (c := b17_0) (t := 0) (hs := [(2, .b false)]) (σ := h17_0 l0_2 l0_3 l0_4 a0 (length p : Int) ) (σ' := fin17_0 l0_2 l0_3 l0_4 a0 (.k0 (length p : Int) (decide ((length p : Int) < ((length (map b_R a0.f3)) : Int))))) (e := (.exit 0)) (t' := 3) (hs' := []) (q := [(decide ((length p : Int) < ((length (map b_R a0.f3)) : Int))) = false]) (by kernel_rfl) ⟨(nt hc), trivial⟩
    exact .loopX st (show ((.exit 0) : VX.Exit) ≠ .normal from by simp)
  | x0 :: y0, p, hp0 => by
    have hc : (decide ((length p : Int) < ((length (map b_R a0.f3)) : Int))) = true := by
      rw [← hp0]; simp only [length_map, length_set, length_append, length_replicate, length_cons, length_nil, decide_eq_true_eq]; omega
    have Hx0 : (a0.f3)[Int.toNat (length p : Int)]? = some x0 := by
      rw [← hp0, Int.toNat_natCast]; simp
    have Mx0_0 := hy2 x0 (List.mem_of_getElem? Hx0)
    have hlen : length (a0.f3) = length p + length y0 + 1 := by rw [← hp0]; simp; omega
    have hw : IntKind.wrap .i64 ((length p : Int) + 1) = (length p : Int) + 1 := wrap64 (by omega)
    simp only [r17_0]
    by_cases h_1 : ((m73 x0 (take (Int.toNat (length p : Int)) a0.f3)) != 0) = true
    · try simp only [if_pos h_1]
      have st := codeH_ok (F := F) (X := X) (c := b17_0) (t := 0) (hs := [(2, .b true), (6, .row [(.i x0.f0), (.i x0.f1), (.i x0.f2), (.sl (map b_si x0.f3)), (.i x0.f4)]), (26, .ret [] [(.oi (m73 x0 (take (Int.toNat (length p : Int)) a0.f3)))] [] []), (33, .b true)]) (σ := h17_0 l0_2 l0_3 l0_4 a0 (length p : Int) ) (σ' := fin17_0 l0_2 l0_3 l0_4 a0 (.k1 (m73 x0 (take (Int.toNat (length p : Int)) a0.f3)))) (e := .ret) (t' := 38) (hs' := []) (q := [(decide ((length p : Int) < ((length (map b_R a0.f3)) : Int))) = true, 0 ≤ (length p : Int), (map b_R a0.f3)[(Int.toNat (length p : Int))]? = some [(.i x0.f0), (.i x0.f1), (.i x0.f2), (.sl (map b_si x0.f3)), (.i x0.f4)], (0 ≤ (0 : Int) ∧ (0 : Int) ≤ (length p : Int) ∧ (length p : Int) ≤ ((length (map b_R a0.f3)) : Int)) ∧ ∀ r ∈ ((map b_R a0.f3) : List (List B)), r.length = 5, Ev F X (.call 73 [(.agg [(.i x0.f0), (.i x0.f1), (.i x0.f2), (.bor (l0_3 + 1) (map b_si x0.f3)), (.i x0.f4)]), (.one (.bor (l0_3 + 1) (take (Int.toNat (length p : Int) - Int.toNat 0) (drop 0 (map b_R a0.f3)))))] [] [] [(.oi (m73 x0 (take (Int.toNat (length p : Int)) a0.f3)))]), ((m73 x0 (take (Int.toNat (length p : Int)) a0.f3)) != 0) = true]) (by kernel_rfl) ⟨hc, (by omega), (by rw [getElem?_map, Hx0]; rfl), (by refine ⟨?_, lenB_R _⟩; simp only [length_map, length_set, length_append, length_replicate, length_cons, length_nil]; omega), (by rw [show (take (Int.toNat (length p : Int) - Int.toNat 0) (drop 0 (map b_R a0.f3))) = (map b_R (take (Int.toNat (length p : Int)) a0.f3)) from by first | rfl | (simp [map_take, map_drop]; done) | (simp [*, map_take, map_drop]; done)]; exact (e73 (a0 := x0) (a1 := (take (Int.toNat (length p : Int)) a0.f3)) (by assumption) (by simp only [length_take]; omega) (by intro z hz; exact (by assumption : ∀ z ∈ _, ok_R z) z (List.mem_of_mem_take hz)))), h_1, trivial⟩
      exact .loopX st (show (.ret : VX.Exit) ≠ .normal from by simp)
    · try simp only [if_neg h_1]
      have st := codeH_ok (F := F) (X := X) (c := b17_0) (t := 0) (hs := [(2, .b true), (6, .row [(.i x0.f0), (.i x0.f1), (.i x0.f2), (.sl (map b_si x0.f3)), (.i x0.f4)]), (26, .ret [] [(.oi (m73 x0 (take (Int.toNat (length p : Int)) a0.f3)))] [] []), (33, .b false)]) (σ := h17_0 l0_2 l0_3 l0_4 a0 (length p : Int) ) (σ' := ⟨[(1, (.ptr ⟨(1, 0, 0), [], 0, 0, 8⟩)), (56, (.one (.bor l0_3 (map b_R a0.f3)))), (57, (.oi ((length (map b_R a0.f3)) : Int))), (58, (.oi (IntKind.wrap .i64 ((length p : Int) + 1))))], [((1, 0, 0), .live ⟨8, [[(.i a0.f0), (.i a0.f1), (.bor l0_2 (map b_si a0.f2)), (.bor l0_3 (map b_R a0.f3)), (.bor l0_4 (map b_si a0.f4)), (.i a0.f5), (.i a0.f6), (.i a0.f7)]], []⟩)]⟩) (e := .normal) (t' := 38) (hs' := []) (q := [(decide ((length p : Int) < ((length (map b_R a0.f3)) : Int))) = true, 0 ≤ (length p : Int), (map b_R a0.f3)[(Int.toNat (length p : Int))]? = some [(.i x0.f0), (.i x0.f1), (.i x0.f2), (.sl (map b_si x0.f3)), (.i x0.f4)], (0 ≤ (0 : Int) ∧ (0 : Int) ≤ (length p : Int) ∧ (length p : Int) ≤ ((length (map b_R a0.f3)) : Int)) ∧ ∀ r ∈ ((map b_R a0.f3) : List (List B)), r.length = 5, Ev F X (.call 73 [(.agg [(.i x0.f0), (.i x0.f1), (.i x0.f2), (.bor (l0_3 + 1) (map b_si x0.f3)), (.i x0.f4)]), (.one (.bor (l0_3 + 1) (take (Int.toNat (length p : Int) - Int.toNat 0) (drop 0 (map b_R a0.f3)))))] [] [] [(.oi (m73 x0 (take (Int.toNat (length p : Int)) a0.f3)))]), ((m73 x0 (take (Int.toNat (length p : Int)) a0.f3)) != 0) = false, True]) (by kernel_rfl) ⟨hc, (by omega), (by rw [getElem?_map, Hx0]; rfl), (by refine ⟨?_, lenB_R _⟩; simp only [length_map, length_set, length_append, length_replicate, length_cons, length_nil]; omega), (by rw [show (take (Int.toNat (length p : Int) - Int.toNat 0) (drop 0 (map b_R a0.f3))) = (map b_R (take (Int.toNat (length p : Int)) a0.f3)) from by first | rfl | (simp [map_take, map_drop]; done) | (simp [*, map_take, map_drop]; done)]; exact (e73 (a0 := x0) (a1 := (take (Int.toNat (length p : Int)) a0.f3)) (by assumption) (by simp only [length_take]; omega) (by intro z hz; exact (by assumption : ∀ z ∈ _, ok_R z) z (List.mem_of_mem_take hz)))), (nt h_1), trivial, trivial⟩
      have ih := t17_0 (l0_2 := l0_2) (l0_3 := l0_3) (l0_4 := l0_4) (a0 := a0) hy0 hy1 hy2 hy3 y0 (p ++ [x0])  (by rw [append_assoc]; exact hp0)
      rw [show ((p ++ [x0]).length : Int) = (p.length : Int) + 1 from by simp] at ih
      rw [show (⟨[(1, (.ptr ⟨(1, 0, 0), [], 0, 0, 8⟩)), (56, (.one (.bor l0_3 (map b_R a0.f3)))), (57, (.oi ((length (map b_R a0.f3)) : Int))), (58, (.oi (IntKind.wrap .i64 ((length p : Int) + 1))))], [((1, 0, 0), .live ⟨8, [[(.i a0.f0), (.i a0.f1), (.bor l0_2 (map b_si a0.f2)), (.bor l0_3 (map b_R a0.f3)), (.bor l0_4 (map b_si a0.f4)), (.i a0.f5), (.i a0.f6), (.i a0.f7)]], []⟩)]⟩ : St) = h17_0 l0_2 l0_3 l0_4 a0 ((length p : Int) + 1)  from (by unfold h17_0; simp only [hw]; done)] at st
      exact .loopN st ih
/-! loop.example/g00539/impl.LedgerFault -/
def m17 (a0 : K_B) : Int :=
  if (!(m71 a0.f0 a0.f1)) = true then 3 else
  if (!(m93 a0.f5 0 1000000)) = true then 3 else
    if (!(m93 a0.f6 0 1000000)) = true then 3 else
      if (!(m93 a0.f7 0 1000000)) = true then 3 else
        if ((m46 a0.f2) != 0) = true then (m46 a0.f2) else
          if (decide (((length (map b_si a0.f2)) : Int) > a0.f0)) = true then 2 else
            if (decide (((length (map b_R a0.f3)) : Int) > 6)) = true then 2 else
              if (decide (((length (map b_si a0.f4)) : Int) > 8)) = true then 2 else
                (match r17_0 a0 a0.f3 0 with | .k0 w0_33 w1_33 => (if (!(m74 a0.f4 8)) = true then 1 else if ((IntKind.wrap .i64 ((IntKind.wrap .i64 ((m75 a0.f4) + a0.f6)) + a0.f5)) != (IntKind.wrap .i64 ((m76 a0.f3 2) + a0.f7))) = true then 7 else if (!(m93 (m76 a0.f3 0) 0 1000000)) = true then 7 else 0) | .k1 w0_33 => w0_33)
theorem e17 {l0_2 : Nat} {l0_3 : Nat} {l0_4 : Nat} {a0 : K_B} (hy0 : length a0.f2 * 24 ≤ 140737488351232) (hy1 : length a0.f3 * 56 ≤ 140737488351232) (hy2 : ∀ z ∈ a0.f3, ok_R z) (hy3 : length a0.f4 * 24 ≤ 140737488351232) : Ev F X (.call 17 [(.agg [(.val (.int .i64 a0.f0)), (.val (.int .i64 a0.f1)), (.bor l0_2 (map b_si a0.f2)), (.bor l0_3 (map b_R a0.f3)), (.bor l0_4 (map b_si a0.f4)), (.val (.int .i64 a0.f5)), (.val (.int .i64 a0.f6)), (.val (.int .i64 a0.f7))])] [] [] [(.one (.val (.int .i64 (m17 a0))))]) := by
  unfold m17
  have f0 : Ev F X (.call 71 [(.oi a0.f0), (.oi a0.f1)] [] [] [(.one (.val (.bool (m71 a0.f0 a0.f1))))]) := (e71 (a0 := a0.f0) (a1 := a0.f1))
  by_cases h0 : (!(m71 a0.f0 a0.f1)) = true
  · try simp only [if_pos h0]
    exact callP_ok (ps := []) (os := []) (rs := [(.oi 3)]) (by kernel_rfl) (.r 13 [] [] f0 (.f h0 (.f h0 (.f h0 (.f h0 (.f h0 (.h 18 (.b true) (.h 20 (.b true) (.h 22 (.b true) (.h 24 (.b true) (.h 27 (.b true) .nil)))))))))))
  · try simp only [if_neg h0]
    have f4 : Ev F X (.call 72 [(.oi a0.f5)] [] [] [(.one (.val (.bool (m93 a0.f5 0 1000000))))]) := (e72 (a0 := a0.f5))
    by_cases h1 : (!(m93 a0.f5 0 1000000)) = true
    · try simp only [if_pos h1]
      exact callP_ok (ps := []) (os := []) (rs := [(.oi 3)]) (by kernel_rfl) (.r 13 [] [] f0 (.f (nt h0) (.f (nt h0) (.f (nt h0) (.h 18 (.b false) (.h 20 (.b false) (.h 22 (.b false) (.r 23 [] [] f4 (.f (nt h0) (.f (nt h0) (.f h1 (.f h1 (.f h1 (.f h1 (.f h1 (.h 24 (.b false) (.h 27 (.b false) (.h 30 (.b true) (.h 32 (.b true) (.h 34 (.b true) (.h 36 (.b true) (.h 39 (.b true) .nil))))))))))))))))))))))
    · try simp only [if_neg h1]
      have f10 : Ev F X (.call 72 [(.oi a0.f6)] [] [] [(.one (.val (.bool (m93 a0.f6 0 1000000))))]) := (e72 (a0 := a0.f6))
      by_cases h2 : (!(m93 a0.f6 0 1000000)) = true
      · try simp only [if_pos h2]
        exact callP_ok (ps := []) (os := []) (rs := [(.oi 3)]) (by kernel_rfl) (.r 13 [] [] f0 (.f (nt h0) (.f (nt h0) (.f (nt h0) (.h 18 (.b false) (.h 20 (.b false) (.h 22 (.b false) (.r 23 [] [] f4 (.f (nt h0) (.f (nt h0) (.f (nt h1) (.f (nt h1) (.f (nt h1) (.h 24 (.b false) (.h 27 (.b false) (.h 30 (.b false) (.h 32 (.b false) (.h 34 (.b false) (.r 35 [] [] f10 (.f (nt h1) (.f (nt h1) (.f h2 (.f h2 (.f h2 (.f h2 (.f h2 (.h 36 (.b false) (.h 39 (.b false) (.h 42 (.b true) (.h 44 (.b true) (.h 46 (.b true) (.h 48 (.b true) (.h 51 (.b true) .nil)))))))))))))))))))))))))))))))))
      · try simp only [if_neg h2]
        have f16 : Ev F X (.call 72 [(.oi a0.f7)] [] [] [(.one (.val (.bool (m93 a0.f7 0 1000000))))]) := (e72 (a0 := a0.f7))
        by_cases h3 : (!(m93 a0.f7 0 1000000)) = true
        · try simp only [if_pos h3]
          exact callP_ok (ps := []) (os := []) (rs := [(.oi 3)]) (by kernel_rfl) (.r 13 [] [] f0 (.f (nt h0) (.f (nt h0) (.f (nt h0) (.h 18 (.b false) (.h 20 (.b false) (.h 22 (.b false) (.r 23 [] [] f4 (.f (nt h0) (.f (nt h0) (.f (nt h1) (.f (nt h1) (.f (nt h1) (.h 24 (.b false) (.h 27 (.b false) (.h 30 (.b false) (.h 32 (.b false) (.h 34 (.b false) (.r 35 [] [] f10 (.f (nt h1) (.f (nt h1) (.f (nt h2) (.f (nt h2) (.f (nt h2) (.h 36 (.b false) (.h 39 (.b false) (.h 42 (.b false) (.h 44 (.b false) (.h 46 (.b false) (.r 47 [] [] f16 (.f (nt h2) (.f (nt h2) (.f h3 (.h 48 (.b false) (.h 51 (.b false) (.h 52 (.b true) .nil))))))))))))))))))))))))))))))))))))
        · try simp only [if_neg h3]
          have f20 : Ev F X (.call 46 [(.one (.bor (l0_2 + 1) (map b_si a0.f2)))] [] [] [(.oi (m46 a0.f2))]) := (e46 (a0 := a0.f2) (by with_reducible assumption))
          by_cases h4 : ((m46 a0.f2) != 0) = true
          · try simp only [if_pos h4]
            exact callP_ok (ps := []) (os := []) (rs := [(.oi (m46 a0.f2))]) (by kernel_rfl) (.r 13 [] [] f0 (.f (nt h0) (.f (nt h0) (.f (nt h0) (.h 18 (.b false) (.h 20 (.b false) (.h 22 (.b false) (.r 23 [] [] f4 (.f (nt h0) (.f (nt h0) (.f (nt h1) (.f (nt h1) (.f (nt h1) (.h 24 (.b false) (.h 27 (.b false) (.h 30 (.b false) (.h 32 (.b false) (.h 34 (.b false) (.r 35 [] [] f10 (.f (nt h1) (.f (nt h1) (.f (nt h2) (.f (nt h2) (.f (nt h2) (.h 36 (.b false) (.h 39 (.b false) (.h 42 (.b false) (.h 44 (.b false) (.h 46 (.b false) (.r 47 [] [] f16 (.f (nt h2) (.f (nt h2) (.f (nt h3) (.h 48 (.b false) (.h 51 (.b false) (.h 52 (.b false) (.r 58 [] [] f20 (.f h4 (.h 65 (.b true) .nil)))))))))))))))))))))))))))))))))))))))
          · try simp only [if_neg h4]
            by_cases h5 : (decide (((length (map b_si a0.f2)) : Int) > a0.f0)) = true
            · try simp only [if_pos h5]
              exact callP_ok (ps := []) (os := []) (rs := [(.oi 2)]) (by kernel_rfl) (.r 13 [] [] f0 (.f (nt h0) (.f (nt h0) (.f (nt h0) (.h 18 (.b false) (.h 20 (.b false) (.h 22 (.b false) (.r 23 [] [] f4 (.f (nt h0) (.f (nt h0) (.f (nt h1) (.f (nt h1) (.f (nt h1) (.h 24 (.b false) (.h 27 (.b false) (.h 30 (.b false) (.h 32 (.b false) (.h 34 (.b false) (.r 35 [] [] f10 (.f (nt h1) (.f (nt h1) (.f (nt h2) (.f (nt h2) (.f (nt h2) (.h 36 (.b false) (.h 39 (.b false) (.h 42 (.b false) (.h 44 (.b false) (.h 46 (.b false) (.r 47 [] [] f16 (.f (nt h2) (.f (nt h2) (.f (nt h3) (.h 48 (.b false) (.h 51 (.b false) (.h 52 (.b false) (.r 58 [] [] f20 (.f (nt h4) (.f h5 (.f h5 (.f h5 (.f h5 (.f h5 (.h 65 (.b false) (.h 80 (.b true) (.h 82 (.b true) (.h 84 (.b true) (.h 86 (.b true) (.h 89 (.b true) .nil)))))))))))))))))))))))))))))))))))))))))))))))))
            · try simp only [if_neg h5]
              by_cases h6 : (decide (((length (map b_R a0.f3)) : Int) > 6)) = true
              · try simp only [if_pos h6]
                exact callP_ok (ps := []) (os := []) (rs := [(.oi 2)]) (by kernel_rfl) (.r 13 [] [] f0 (.f (nt h0) (.f (nt h0) (.f (nt h0) (.h 18 (.b false) (.h 20 (.b false) (.h 22 (.b false) (.r 23 [] [] f4 (.f (nt h0) (.f (nt h0) (.f (nt h1) (.f (nt h1) (.f (nt h1) (.h 24 (.b false) (.h 27 (.b false) (.h 30 (.b false) (.h 32 (.b false) (.h 34 (.b false) (.r 35 [] [] f10 (.f (nt h1) (.f (nt h1) (.f (nt h2) (.f (nt h2) (.f (nt h2) (.h 36 (.b false) (.h 39 (.b false) (.h 42 (.b false) (.h 44 (.b false) (.h 46 (.b false) (.r 47 [] [] f16 (.f (nt h2) (.f (nt h2) (.f (nt h3) (.h 48 (.b false) (.h 51 (.b false) (.h 52 (.b false) (.r 58 [] [] f20 (.f (nt h4) (.f (nt h5) (.f (nt h5) (.f (nt h5) (.f (nt h5) (.f (nt h5) (.f h6 (.f h6 (.f h6 (.f h6 (.f h6 (.h 65 (.b false) (.h 80 (.b false) (.h 82 (.b false) (.h 84 (.b false) (.h 86 (.b false) (.h 89 (.b false) (.h 92 (.b true) (.h 94 (.b true) (.h 96 (.b true) (.h 98 (.b true) (.h 101 (.b true) .nil)))))))))))))))))))))))))))))))))))))))))))))))))))))))))))
              · try simp only [if_neg h6]
                by_cases h7 : (decide (((length (map b_si a0.f4)) : Int) > 8)) = true
                · try simp only [if_pos h7]
                  exact callP_ok (ps := []) (os := []) (rs := [(.oi 2)]) (by kernel_rfl) (.r 13 [] [] f0 (.f (nt h0) (.f (nt h0) (.f (nt h0) (.h 18 (.b false) (.h 20 (.b false) (.h 22 (.b false) (.r 23 [] [] f4 (.f (nt h0) (.f (nt h0) (.f (nt h1) (.f (nt h1) (.f (nt h1) (.h 24 (.b false) (.h 27 (.b false) (.h 30 (.b false) (.h 32 (.b false) (.h 34 (.b false) (.r 35 [] [] f10 (.f (nt h1) (.f (nt h1) (.f (nt h2) (.f (nt h2) (.f (nt h2) (.h 36 (.b false) (.h 39 (.b false) (.h 42 (.b false) (.h 44 (.b false) (.h 46 (.b false) (.r 47 [] [] f16 (.f (nt h2) (.f (nt h2) (.f (nt h3) (.h 48 (.b false) (.h 51 (.b false) (.h 52 (.b false) (.r 58 [] [] f20 (.f (nt h4) (.f (nt h5) (.f (nt h5) (.f (nt h5) (.f (nt h5) (.f (nt h5) (.f (nt h6) (.f (nt h6) (.f (nt h6) (.f (nt h6) (.f (nt h6) (.f h7 (.h 65 (.b false) (.h 80 (.b false) (.h 82 (.b false) (.h 84 (.b false) (.h 86 (.b false) (.h 89 (.b false) (.h 92 (.b false) (.h 94 (.b false) (.h 96 (.b false) (.h 98 (.b false) (.h 101 (.b false) (.h 102 (.b true) .nil)))))))))))))))))))))))))))))))))))))))))))))))))))))))))))))
                · try simp only [if_neg h7]
                  cases h8 : r17_0 a0 a0.f3 0 with
                  | k0 w0_33 w1_33 =>
                    try dsimp only
                    have f33 : (⟨[(1, (.ptr ⟨(1, 0, 0), [], 0, 0, 8⟩)), (56, (.one (.bor l0_3 (map b_R a0.f3)))), (57, (.oi ((length (map b_R a0.f3)) : Int))), (58, (.oi 0))], [((1, 0, 0), .live ⟨8, [[(.i a0.f0), (.i a0.f1), (.bor l0_2 (map b_si a0.f2)), (.bor l0_3 (map b_R a0.f3)), (.bor l0_4 (map b_si a0.f4)), (.i a0.f5), (.i a0.f6), (.i a0.f7)]], []⟩)]⟩ : St) = h17_0 l0_2 l0_3 l0_4 a0 0  := (by rfl)
                    have f34 : Ev F X (.code l17_0 (h17_0 l0_2 l0_3 l0_4 a0 0 ) (.exit 0) ⟨[(1, (.ptr ⟨(1, 0, 0), [], 0, 0, 8⟩)), (56, (.one (.bor l0_3 (map b_R a0.f3)))), (57, (.oi ((length (map b_R a0.f3)) : Int))), (58, (.oi w0_33)), (59, (.one (.val (.bool w1_33))))], [((1, 0, 0), .live ⟨8, [[(.i a0.f0), (.i a0.f1), (.bor l0_2 (map b_si a0.f2)), (.bor l0_3 (map b_R a0.f3)), (.bor l0_4 (map b_si a0.f4)), (.i a0.f5), (.i a0.f6), (.i a0.f7)]], []⟩)]⟩) := (by have t : Ev F X (.code l17_0 (h17_0 l0_2 l0_3 l0_4 a0 0 ) (ex17_0 (r17_0 a0 a0.f3 0)) (fin17_0 l0_2 l0_3 l0_4 a0 (r17_0 a0 a0.f3 0))) := t17_0 (l0_2 := l0_2) (l0_3 := l0_3) (l0_4 := l0_4) (a0 := a0) (by assumption) (by assumption) (by assumption) (by assumption) a0.f3 []  rfl; rw [h8] at t; exact t)
                    have f35 : Ev F X (.call 74 [(.one (.bor (l0_4 + 1) (map b_si a0.f4))), (.oi 8)] [] [] [(.one (.val (.bool (m74 a0.f4 8))))]) := (e74 (a0 := a0.f4) (a1 := 8) (by with_reducible assumption))
                    by_cases h9 : (!(m74 a0.f4 8)) = true
                    · try simp only [if_pos h9]
                      exact callP_ok (ps := []) (os := []) (rs := [(.oi 1)]) (by kernel_rfl) (.r 13 [] [] f0 (.f (nt h0) (.f (nt h0) (.f (nt h0) (.h 18 (.b false) (.h 20 (.b false) (.h 22 (.b false) (.r 23 [] [] f4 (.f (nt h0) (.f (nt h0) (.f (nt h1) (.f (nt h1) (.f (nt h1) (.h 24 (.b false) (.h 27 (.b false) (.h 30 (.b false) (.h 32 (.b false) (.h 34 (.b false) (.r 35 [] [] f10 (.f (nt h1) (.f (nt h1) (.f (nt h2) (.f (nt h2) (.f (nt h2) (.h 36 (.b false) (.h 39 (.b false) (.h 42 (.b false) (.h 44 (.b false) (.h 46 (.b false) (.r 47 [] [] f16 (.f (nt h2) (.f (nt h2) (.f (nt h3) (.h 48 (.b false) (.h 51 (.b false) (.h 52 (.b false) (.r 58 [] [] f20 (.f (nt h4) (.f (nt h5) (.f (nt h5) (.f (nt h5) (.f (nt h5) (.f (nt h5) (.f (nt h6) (.f (nt h6) (.f (nt h6) (.f (nt h6) (.f (nt h6) (.f (nt h7) (.f f33 (.f f34 (.h 65 (.b false) (.h 80 (.b false) (.h 82 (.b false) (.h 84 (.b false) (.h 86 (.b false) (.h 89 (.b false) (.h 92 (.b false) (.h 94 (.b false) (.h 96 (.b false) (.h 98 (.b false) (.h 101 (.b false) (.h 102 (.b false) (.h 111 (.loop (h17_0 l0_2 l0_3 l0_4 a0 0 ) (.exit 0) ⟨[(1, (.ptr ⟨(1, 0, 0), [], 0, 0, 8⟩)), (56, (.one (.bor l0_3 (map b_R a0.f3)))), (57, (.oi ((length (map b_R a0.f3)) : Int))), (58, (.oi w0_33)), (59, (.one (.val (.bool w1_33))))], [((1, 0, 0), .live ⟨8, [[(.i a0.f0), (.i a0.f1), (.bor l0_2 (map b_si a0.f2)), (.bor l0_3 (map b_R a0.f3)), (.bor l0_4 (map b_si a0.f4)), (.i a0.f5), (.i a0.f6), (.i a0.f7)]], []⟩)]⟩) (.r 117 [] [] f35 (.f h9 (.h 122 (.b true) .nil)))))))))))))))))))))))))))))))))))))))))))))))))))))))))))))))))))
                    · try simp only [if_neg h9]
                      have f37 : Ev F X (.call 75 [(.one (.bor (l0_4 + 1) (map b_si a0.f4)))] [] [] [(.oi (m75 a0.f4))]) := (e75 (a0 := a0.f4) (by with_reducible assumption))
                      have f40 : Ev F X (.call 76 [(.one (.bor (l0_3 + 1) (map b_R a0.f3))), (.oi 2)] [] [] [(.oi (m76 a0.f3 2))]) := (e76 (a0 := a0.f3) (a1 := 2) (by with_reducible assumption) (by with_reducible assumption))
                      by_cases h10 : ((IntKind.wrap .i64 ((IntKind.wrap .i64 ((m75 a0.f4) + a0.f6)) + a0.f5)) != (IntKind.wrap .i64 ((m76 a0.f3 2) + a0.f7))) = true
                      · try simp only [if_pos h10]
                        exact callP_ok (ps := []) (os := []) (rs := [(.oi 7)]) (by kernel_rfl) (.r 13 [] [] f0 (.f (nt h0) (.f (nt h0) (.f (nt h0) (.h 18 (.b false) (.h 20 (.b false) (.h 22 (.b false) (.r 23 [] [] f4 (.f (nt h0) (.f (nt h0) (.f (nt h1) (.f (nt h1) (.f (nt h1) (.h 24 (.b false) (.h 27 (.b false) (.h 30 (.b false) (.h 32 (.b false) (.h 34 (.b false) (.r 35 [] [] f10 (.f (nt h1) (.f (nt h1) (.f (nt h2) (.f (nt h2) (.f (nt h2) (.h 36 (.b false) (.h 39 (.b false) (.h 42 (.b false) (.h 44 (.b false) (.h 46 (.b false) (.r 47 [] [] f16 (.f (nt h2) (.f (nt h2) (.f (nt h3) (.h 48 (.b false) (.h 51 (.b false) (.h 52 (.b false) (.r 58 [] [] f20 (.f (nt h4) (.f (nt h5) (.f (nt h5) (.f (nt h5) (.f (nt h5) (.f (nt h5) (.f (nt h6) (.f (nt h6) (.f (nt h6) (.f (nt h6) (.f (nt h6) (.f (nt h7) (.f f33 (.f f34 (.h 65 (.b false) (.h 80 (.b false) (.h 82 (.b false) (.h 84 (.b false) (.h 86 (.b false) (.h 89 (.b false) (.h 92 (.b false) (.h 94 (.b false) (.h 96 (.b false) (.h 98 (.b false) (.h 101 (.b false) (.h 102 (.b false) (.h 111 (.loop (h17_0 l0_2 l0_3 l0_4 a0 0 ) (.exit 0) ⟨[(1, (.ptr ⟨(1, 0, 0), [], 0, 0, 8⟩)), (56, (.one (.bor l0_3 (map b_R a0.f3)))), (57, (.oi ((length (map b_R a0.f3)) : Int))), (58, (.oi w0_33)), (59, (.one (.val (.bool w1_33))))], [((1, 0, 0), .live ⟨8, [[(.i a0.f0), (.i a0.f1), (.bor l0_2 (map b_si a0.f2)), (.bor l0_3 (map b_R a0.f3)), (.bor l0_4 (map b_si a0.f4)), (.i a0.f5), (.i a0.f6), (.i a0.f7)]], []⟩)]⟩) (.r 117 [] [] f35 (.f (nt h9) (.h 122 (.b false) (.r 128 [] [] f37 (.f trivial (.f trivial (.r 146 [] [] f40 (.f trivial (.f h10 (.f h10 (.f h10 (.f h10 (.f h10 (.f h10 (.h 157 (.b true) (.h 159 (.b true) (.h 161 (.b true) (.h 163 (.b true) (.h 165 (.b true) (.h 168 (.b true) .nil))))))))))))))))))))))))))))))))))))))))))))))))))))))))))))))))))))))))))))))))))))
                      · try simp only [if_neg h10]
                        have f45 : Ev F X (.call 76 [(.one (.bor (l0_3 + 1) (map b_R a0.f3))), (.oi 0)] [] [] [(.oi (m76 a0.f3 0))]) := (e76 (a0 := a0.f3) (a1 := 0) (by with_reducible assumption) (by with_reducible assumption))
                        have f47 : Ev F X (.call 72 [(.oi (m76 a0.f3 0))] [] [] [(.one (.val (.bool (m93 (m76 a0.f3 0) 0 1000000))))]) := (e72 (a0 := (m76 a0.f3 0)))
                        by_cases h11 : (!(m93 (m76 a0.f3 0) 0 1000000)) = true
                        · try simp only [if_pos h11]
                          exact callP_ok (ps := []) (os := []) (rs := [(.oi 7)]) (by kernel_rfl) (.r 13 [] [] f0 (.f (nt h0) (.f (nt h0) (.f (nt h0) (.h 18 (.b false) (.h 20 (.b false) (.h 22 (.b false) (.r 23 [] [] f4 (.f (nt h0) (.f (nt h0) (.f (nt h1) (.f (nt h1) (.f (nt h1) (.h 24 (.b false) (.h 27 (.b false) (.h 30 (.b false) (.h 32 (.b false) (.h 34 (.b false) (.r 35 [] [] f10 (.f (nt h1) (.f (nt h1) (.f (nt h2) (.f (nt h2) (.f (nt h2) (.h 36 (.b false) (.h 39 (.b false) (.h 42 (.b false) (.h 44 (.b false) (.h 46 (.b false) (.r 47 [] [] f16 (.f (nt h2) (.f (nt h2) (.f (nt h3) (.h 48 (.b false) (.h 51 (.b false) (.h 52 (.b false) (.r 58 [] [] f20 (.f (nt h4) (.f (nt h5) (.f (nt h5) (.f (nt h5) (.f (nt h5) (.f (nt h5) (.f (nt h6) (.f (nt h6) (.f (nt h6) (.f (nt h6) (.f (nt h6) (.f (nt h7) (.f f33 (.f f34 (.h 65 (.b false) (.h 80 (.b false) (.h 82 (.b false) (.h 84 (.b false) (.h 86 (.b false) (.h 89 (.b false) (.h 92 (.b false) (.h 94 (.b false) (.h 96 (.b false) (.h 98 (.b false) (.h 101 (.b false) (.h 102 (.b false) (.h 111 (.loop (h17_0 l0_2 l0_3 l0_4 a0 0 ) (.exit 0) ⟨[(1, (.ptr ⟨(1, 0, 0), [], 0, 0, 8⟩)), (56, (.one (.bor l0_3 (map b_R a0.f3)))), (57, (.oi ((length (map b_R a0.f3)) : Int))), (58, (.oi w0_33)), (59, (.one (.val (.bool w1_33))))], [((1, 0, 0), .live ⟨8, [[(.i a0.f0), (.i a0.f1), (.bor l0_2 (map b_si a0.f2)), (.bor l0_3 (map b_R a0.f3)), (.bor l0_4 (map b_si a0.f4)), (.i a0.f5), (.i a0.f6), (.i a0.f7)]], []⟩)]⟩) (.r 117 [] [] f35 (.f (nt h9) (.h 122 (.b false) (.r 128 [] [] f37 (.f trivial (.f trivial (.r 146 [] [] f40 (.f trivial (.f (nt h10) (.f (nt h10) (.f (nt h10) (.h 157 (.b false) (.h 159 (.b false) (.h 161 (.b false) (.r 162 [] [] f45 (.f (nt h10) (.h 163 (.b false) (.r 164 [] [] f47 (.f (nt h10) (.f (nt h10) (.f h11 (.h 165 (.b false) (.h 168 (.b false) (.h 171 (.b true) .nil))))))))))))))))))))))))))))))))))))))))))))))))))))))))))))))))))))))))))))))))))))))))
                        · try simp only [if_neg h11]
                          exact callP_ok (ps := []) (os := []) (rs := [(.oi 0)]) (by kernel_rfl) (.r 13 [] [] f0 (.f (nt h0) (.f (nt h0) (.f (nt h0) (.h 18 (.b false) (.h 20 (.b false) (.h 22 (.b false) (.r 23 [] [] f4 (.f (nt h0) (.f (nt h0) (.f (nt h1) (.f (nt h1) (.f (nt h1) (.h 24 (.b false) (.h 27 (.b false) (.h 30 (.b false) (.h 32 (.b false) (.h 34 (.b false) (.r 35 [] [] f10 (.f (nt h1) (.f (nt h1) (.f (nt h2) (.f (nt h2) (.f (nt h2) (.h 36 (.b false) (.h 39 (.b false) (.h 42 (.b false) (.h 44 (.b false) (.h 46 (.b false) (.r 47 [] [] f16 (.f (nt h2) (.f (nt h2) (.f (nt h3) (.h 48 (.b false) (.h 51 (.b false) (.h 52 (.b false) (.r 58 [] [] f20 (.f (nt h4) (.f (nt h5) (.f (nt h5) (.f (nt h5) (.f (nt h5) (.f (nt h5) (.f (nt h6) (.f (nt h6) (.f (nt h6) (.f (nt h6) (.f (nt h6) (.f (nt h7) (.f f33 (.f f34 (.h 65 (.b false) (.h 80 (.b false) (.h 82 (.b false) (.h 84 (.b false) (.h 86 (.b false) (.h 89 (.b false) (.h 92 (.b false) (.h 94 (.b false) (.h 96 (.b false) (.h 98 (.b false) (.h 101 (.b false) (.h 102 (.b false) (.h 111 (.loop (h17_0 l0_2 l0_3 l0_4 a0 0 ) (.exit 0) ⟨[(1, (.ptr ⟨(1, 0, 0), [], 0, 0, 8⟩)), (56, (.one (.bor l0_3 (map b_R a0.f3)))), (57, (.oi ((length (map b_R a0.f3)) : Int))), (58, (.oi w0_33)), (59, (.one (.val (.bool w1_33))))], [((1, 0, 0), .live ⟨8, [[(.i a0.f0), (.i a0.f1), (.bor l0_2 (map b_si a0.f2)), (.bor l0_3 (map b_R a0.f3)), (.bor l0_4 (map b_si a0.f4)), (.i a0.f5), (.i a0.f6), (.i a0.f7)]], []⟩)]⟩) (.r 117 [] [] f35 (.f (nt h9) (.h 122 (.b false) (.r 128 [] [] f37 (.f trivial (.f trivial (.r 146 [] [] f40 (.f trivial (.f (nt h10) (.f (nt h10) (.f (nt h10) (.h 157 (.b false) (.h 159 (.b false) (.h 161 (.b false) (.r 162 [] [] f45 (.f (nt h10) (.h 163 (.b false) (.r 164 [] [] f47 (.f (nt h10) (.f (nt h10) (.f (nt h11) (.h 165 (.b false) (.h 168 (.b false) (.h 171 (.b false) .nil))))))))))))))))))))))))))))))))))))))))))))))))))))))))))))))))))))))))))))))))))))))))
                  | k1 w0_33 =>
                    try dsimp only
                    have f33 : (⟨[(1, (.ptr ⟨(1, 0, 0), [], 0, 0, 8⟩)), (56, (.one (.bor l0_3 (map b_R a0.f3)))), (57, (.oi ((length (map b_R a0.f3)) : Int))), (58, (.oi 0))], [((1, 0, 0), .live ⟨8, [[(.i a0.f0), (.i a0.f1), (.bor l0_2 (map b_si a0.f2)), (.bor l0_3 (map b_R a0.f3)), (.bor l0_4 (map b_si a0.f4)), (.i a0.f5), (.i a0.f6), (.i a0.f7)]], []⟩)]⟩ : St) = h17_0 l0_2 l0_3 l0_4 a0 0  := (by rfl)
                    have f34 : Ev F X (.code l17_0 (h17_0 l0_2 l0_3 l0_4 a0 0 ) .ret ⟨[(2, (.oi w0_33))], []⟩) := (by have t : Ev F X (.code l17_0 (h17_0 l0_2 l0_3 l0_4 a0 0 ) (ex17_0 (r17_0 a0 a0.f3 0)) (fin17_0 l0_2 l0_3 l0_4 a0 (r17_0 a0 a0.f3 0))) := t17_0 (l0_2 := l0_2) (l0_3 := l0_3) (l0_4 := l0_4) (a0 := a0) (by assumption) (by assumption) (by assumption) (by assumption) a0.f3 []  rfl; rw [h8] at t; exact t)
                    exact callP_ok (ps := []) (os := []) (rs := [(.oi w0_33)]) (by kernel_rfl) (.r 13 [] [] f0 (.f (nt h0) (.f (nt h0) (.f (nt h0) (.h 18 (.b false) (.h 20 (.b false) (.h 22 (.b false) (.r 23 [] [] f4 (.f (nt h0) (.f (nt h0) (.f (nt h1) (.f (nt h1) (.f (nt h1) (.h 24 (.b false) (.h 27 (.b false) (.h 30 (.b false) (.h 32 (.b false) (.h 34 (.b false) (.r 35 [] [] f10 (.f (nt h1) (.f (nt h1) (.f (nt h2) (.f (nt h2) (.f (nt h2) (.h 36 (.b false) (.h 39 (.b false) (.h 42 (.b false) (.h 44 (.b false) (.h 46 (.b false) (.r 47 [] [] f16 (.f (nt h2) (.f (nt h2) (.f (nt h3) (.h 48 (.b false) (.h 51 (.b false) (.h 52 (.b false) (.r 58 [] [] f20 (.f (nt h4) (.f (nt h5) (.f (nt h5) (.f (nt h5) (.f (nt h5) (.f (nt h5) (.f (nt h6) (.f (nt h6) (.f (nt h6) (.f (nt h6) (.f (nt h6) (.f (nt h7) (.f f33 (.f f34 (.h 65 (.b false) (.h 80 (.b false) (.h 82 (.b false) (.h 84 (.b false) (.h 86 (.b false) (.h 89 (.b false) (.h 92 (.b false) (.h 94 (.b false) (.h 96 (.b false) (.h 98 (.b false) (.h 101 (.b false) (.h 102 (.b false) (.h 111 (.loop (h17_0 l0_2 l0_3 l0_4 a0 0 ) .ret ⟨[(2, (.oi w0_33))], []⟩) .nil))))))))))))))))))))))))))))))))))))))))))))))))))))))))))))))))
theorem ow17 {a : List K_si} {k : Int} (h : m74 a k = true) : (a.length : Int) ≤ k := by
  unfold m74 at h
  split at h
  · simpa using h
  · cases h
theorem rl73 {x : K_R} {a : List K_R} (h : m73 x a = 0) : x.f3.length ≤ 12 := by
  unfold m73 at h
  by_cases c : m74 x.f3 12 = true
  · have := ow17 c; omega
  · exfalso
    have c : m74 x.f3 12 = false := by simpa using c
    simp only [c, Bool.not_false, if_true] at h
    (repeat' split at h) <;> simp at h
theorem rz17 (a0 : K_B) : ∀ (l : List K_R) (i : Int), ((∃ u v, r17_0 a0 l i = .k0 u v) ∧ ∀ z ∈ l, z.f3.length ≤ 12) ∨ (∃ w, r17_0 a0 l i = .k1 w ∧ w ≠ 0)
  | [], i => .inl ⟨⟨_, _, rfl⟩, fun z hz => by cases hz⟩
  | x :: l, i => by
    have ih := rz17 a0 l (i + 1)
    simp only [r17_0]
    by_cases c : ((m73 x (take (Int.toNat i) a0.f3)) != 0) = true
    · rw [if_pos c]; exact .inr ⟨_, rfl, by simpa using c⟩
    · rw [if_neg c]
      rcases ih with ⟨h1, h2⟩ | h
      · refine .inl ⟨h1, fun z hz => ?_⟩
        rcases List.mem_cons.1 hz with rfl | hz
        · exact rl73 (by simpa using c)
        · exact h2 z hz
      · exact .inr h
theorem fs17 {a0 : K_B} (h : ¬ ((m17 a0) != 0) = true) : a0.f2.length ≤ 12 ∧ a0.f3.length ≤ 6 ∧ (∀ z ∈ a0.f3, z.f3.length ≤ 12) ∧ a0.f4.length ≤ 8 := by
  have h : m17 a0 = 0 := by simpa using h
  unfold m17 at h
  split at h
  · cases h
  split at h
  · cases h
  split at h
  · cases h
  split at h
  · cases h
  split at h
  · rename_i h2; rw [h] at h2; simp at h2
  rename_i h2
  split at h
  · cases h
  split at h
  · cases h
  rename_i h4
  split at h
  · cases h
  rename_i h5
  simp only [length_map, decide_eq_true_eq] at h4 h5
  rcases rz17 a0 a0.f3 0 with ⟨_, hz⟩ | ⟨w, hw, hn⟩
  · exact ⟨len12_46 _ h2, by omega, hz, by omega⟩
  · rw [hw] at h; exact absurd h hn
/-! slices.Clone[[]loop.example/g00539/impl.Weight,loop.example/g00539/impl.Weight] -/
theorem e106 {a0 : List K_si} {l0 : Nat} (hy0 : length a0 * 24 ≤ 70368744177664) : Ev F X (.call 106 [(.one (.bor l0 (map b_si a0)))] [] [] [(.one (.own 2 (map d_si a0)))]) := by
  refine .ext (.inl ⟨rfl, ?_⟩)
  have e : fromBR l0 (map b_si a0) = map d_si a0 := by first | exact fromBR_si .. | simp [fromBR_si]
  refine ⟨l0, _, rfl, by rw [e], by rw [e]; simpa using hy0, by rw [e]; exact lenD_si _, by rw [e]; first | exact pureR_si _ | simp [pureR_si]⟩
/-! loop 140_0 -/
inductive O140_0 where
  | k0 (w0 : List K_R) (w1 : Int) (w2 : Bool)
def r140_0 (a0 : K_B) : List K_R → Int → List K_R → O140_0
  | x0 :: y0, i, v0 =>
    (r140_0 a0 y0 (i + 1) (v0 ++ ([x0])))
  | [], i, v0 => (O140_0.k0 v0 i (decide (i < ((length (map b_R a0.f3)) : Int))))
def h140_0 (l0_2 : Nat) (l0_3 : Nat) (l0_4 : Nat) (a0 : K_B) (i : Int) (v0 : List K_R) : St := ⟨[(1, (.ptr ⟨(1, 0, 0), [], 0, 0, 8⟩)), (2, (.ptr ⟨(2, 0, 0), [], 0, 0, 8⟩)), (3, (.one (.ref ⟨(3, 0, 0), [], 0, (length (map d_R v0))⟩))), (16, (.one (.bor l0_3 (map b_R a0.f3)))), (17, (.one (.val (.int .i64 ((length (map b_R a0.f3)) : Int))))), (18, (.one (.val (.int .i64 i))))], [((1, 0, 0), .live ⟨8, [[(.val (.int .i64 a0.f0)), (.val (.int .i64 a0.f1)), (.own 2 (map d_si a0.f2)), (.bor l0_3 (map b_R a0.f3)), (.own 2 (map d_si a0.f4)), (.val (.int .i64 a0.f5)), (.val (.int .i64 a0.f6)), (.val (.int .i64 a0.f7))]], []⟩), ((2, 0, 0), .live ⟨8, [[(.val (.int .i64 0)), (.val (.int .i64 0)), (.own 2 []), (.own 5 []), (.own 2 []), (.val (.int .i64 0)), (.val (.int .i64 0)), (.val (.int .i64 0))]], []⟩), ((3, 0, 0), .live ⟨5, (map d_R v0), []⟩)]⟩
def ex140_0 : O140_0 → VX.Exit
  | .k0 _ _ _ => (.exit 0)
def fin140_0 (l0_2 : Nat) (l0_3 : Nat) (l0_4 : Nat) (a0 : K_B) : O140_0 → St
  | .k0 w0 w1 w2 => ⟨[(1, (.ptr ⟨(1, 0, 0), [], 0, 0, 8⟩)), (2, (.ptr ⟨(2, 0, 0), [], 0, 0, 8⟩)), (3, (.one (.ref ⟨(3, 0, 0), [], 0, (length (map d_R w0))⟩))), (16, (.one (.bor l0_3 (map b_R a0.f3)))), (17, (.one (.val (.int .i64 ((length (map b_R a0.f3)) : Int))))), (18, (.one (.val (.int .i64 w1)))), (19, (.one (.val (.bool w2))))], [((1, 0, 0), .live ⟨8, [[(.val (.int .i64 a0.f0)), (.val (.int .i64 a0.f1)), (.own 2 (map d_si a0.f2)), (.bor l0_3 (map b_R a0.f3)), (.own 2 (map d_si a0.f4)), (.val (.int .i64 a0.f5)), (.val (.int .i64 a0.f6)), (.val (.int .i64 a0.f7))]], []⟩), ((2, 0, 0), .live ⟨8, [[(.val (.int .i64 0)), (.val (.int .i64 0)), (.own 2 []), (.own 5 []), (.own 2 []), (.val (.int .i64 0)), (.val (.int .i64 0)), (.val (.int .i64 0))]], []⟩), ((3, 0, 0), .live ⟨5, (map d_R w0), []⟩)]⟩
theorem t140_0 {l0_2 : Nat} {l0_3 : Nat} {l0_4 : Nat} {a0 : K_B} (hy0 : length a0.f2 ≤ 100) (hy1 : length a0.f3 ≤ 100) (hy2 : ∀ z ∈ a0.f3, length z.f3 ≤ 100) (hy3 : length a0.f4 ≤ 100) (hy4 : ∀ z ∈ a0.f3, ok_R z) : ∀ (y0 : List K_R) (p : List K_R) (v0 : List K_R), p ++ y0 = a0.f3 → (length v0 + length y0) * 56 ≤ 70368744177664 → Ev F X (.code l140_0 (h140_0 l0_2 l0_3 l0_4 a0 (length p : Int) v0) (ex140_0 (r140_0 a0 y0 (length p : Int) v0)) (fin140_0 l0_2 l0_3 l0_4 a0 (r140_0 a0 y0 (length p : Int) v0)))
  | [], p, v0, hp0, hi0 => by
    have hc : ¬ (decide ((length p : Int) < ((length (map b_R a0.f3)) : Int))) = true := by
      rw [← hp0]; simp only [length_map, length_set, length_append, length_replicate, length_cons, length_nil, decide_eq_true_eq]; omega
    have hj0 := hi0; try simp only [length_map, length_set, length_append, length_replicate, length_cons, length_nil, Int.toNat_natCast] at hj0
    have st := codeH_ok (F := F) (X := X) (c := b140_0) (t := 0) (hs := [(2, .b false)]) (σ := h140_0 l0_2 l0_3 l0_4 a0 (length p : Int) v0) (σ' := fin140_0 l0_2 l0_3 l0_4 a0 (.k0 v0 (length p : Int) (decide ((length p : Int) < ((length (map b_R a0.f3)) : Int))))) (e := (.exit 0)) (t' := 3) (hs' := []) (q := [(decide ((length p : Int) < ((length (map b_R a0.f3)) : Int))) = false]) (by kernel_rfl) ⟨(nt hc), trivial⟩
    exact .loopX st (show ((.exit 0) : VX.Exit) ≠ .normal from by simp)
  | x0 :: y0, p, v0, hp0, hi0 => by
    have hc : (decide ((length p : Int) < ((length (map b_R a0.f3)) : Int))) = true := by
      rw [← hp0]; simp only [length_map, length_set, length_append, length_replicate, length_cons, length_nil, decide_eq_true_eq]; omega
    have Hx0 : (a0.f3)[Int.toNat (length p : Int)]? = some x0 := by
      rw [← hp0, Int.toNat_natCast]; simp
    have Nx0_2 := hy2 x0 (List.mem_of_getElem? Hx0)
    have Mx0_0 := hy4 x0 (List.mem_of_getElem? Hx0)
    have hlen : length (a0.f3) = length p + length y0 + 1 := by rw [← hp0]; simp; omega
    have hw : IntKind.wrap .i64 ((length p : Int) + 1) = (length p : Int) + 1 := wrap64 (by omega)
    have hj0 := hi0; try simp only [length_map, length_set, length_append, length_replicate, length_cons, length_nil, Int.toNat_natCast] at hj0
    simp only [r140_0]
    have st := codeH_ok (F := F) (X := X) (c := b140_0) (t := 0) (hs := [(2, .b true), (4, .row [(.i x0.f0), (.i x0.f1), (.i x0.f2), (.sl (map b_si x0.f3)), (.i x0.f4)]), (16, .ret [] [(.one (.own 2 (map d_si x0.f3)))] [] []), (28, .b false), (31, .norm (3, 0, 0) (map d_R (v0 ++ ([x0]))))]) (σ := h140_0 l0_2 l0_3 l0_4 a0 (length p : Int) v0) (σ' := ⟨[(1, (.ptr ⟨(1, 0, 0), [], 0, 0, 8⟩)), (2, (.ptr ⟨(2, 0, 0), [], 0, 0, 8⟩)), (3, (.one (.ref ⟨(3, 0, 0), [], 0, (length ((take (length (map d_R v0)) (drop 0 (map d_R v0))) ++ ([[(.i x0.f0), (.i x0.f1), (.i x0.f2), (.own 2 (map d_si x0.f3)), (.i x0.f4)]] : List (List D))))⟩))), (16, (.one (.bor l0_3 (map b_R a0.f3)))), (17, (.oi ((length (map b_R a0.f3)) : Int))), (18, (.oi (IntKind.wrap .i64 ((length p : Int) + 1))))], [((1, 0, 0), .live ⟨8, [[(.i a0.f0), (.i a0.f1), (.own 2 (map d_si a0.f2)), (.bor l0_3 (map b_R a0.f3)), (.own 2 (map d_si a0.f4)), (.i a0.f5), (.i a0.f6), (.i a0.f7)]], []⟩), ((2, 0, 0), .live ⟨8, [[(.i 0), (.i 0), (.own 2 []), (.own 5 []), (.own 2 []), (.i 0), (.i 0), (.i 0)]], []⟩), ((3, 0, 0), .live ⟨5, (map d_R (v0 ++ ([x0]))), []⟩)]⟩) (e := .normal) (t' := 36) (hs' := []) (q := [(decide ((length p : Int) < ((length (map b_R a0.f3)) : Int))) = true, 0 ≤ (length p : Int), (map b_R a0.f3)[(Int.toNat (length p : Int))]? = some [(.i x0.f0), (.i x0.f1), (.i x0.f2), (.sl (map b_si x0.f3)), (.i x0.f4)], Ev F X (.call 106 [(.one (.bor (l0_3 + 1) (map b_si x0.f3)))] [] [] [(.one (.own 2 (map d_si x0.f3)))]), 0 = 0, (length (map d_si x0.f3)) = (length (map d_si x0.f3)), 0 = 0, (length (map d_si x0.f3)) = (length (map d_si x0.f3)), 0 + (length (map d_R v0)) ≤ (length (map d_R v0)), 1 ≤ 1, ((take 1 (drop 0 [[(.i x0.f0), (.i x0.f1), (.i x0.f2), (.own 2 (map d_si x0.f3)), (.i x0.f4)]])).all fun x => x.all copyable) = false, 0 = 0, 1 = 1, (length ((take (length (map d_R v0)) (drop 0 (map d_R v0))) ++ ([[(.i x0.f0), (.i x0.f1), (.i x0.f2), (.own 2 (map d_si x0.f3)), (.i x0.f4)]] : List (List D)))) * 56 ≤ 70368744177664, ∀ r ∈ ([[(.i x0.f0), (.i x0.f1), (.i x0.f2), (.own 2 (map d_si x0.f3)), (.i x0.f4)]] : List (List D)), r.length = 5, ((take (length (map d_R v0)) (drop 0 (map d_R v0))) ++ ([[(.i x0.f0), (.i x0.f1), (.i x0.f2), (.own 2 (map d_si x0.f3)), (.i x0.f4)]] : List (List D))) = (map d_R (v0 ++ ([x0]))), True]) (by kernel_rfl) ⟨hc, (by omega), (by rw [getElem?_map, Hx0]; rfl), (e106 (a0 := x0.f3) (by omega)), rfl, rfl, rfl, rfl, (by omega), (by omega), (by trivial), rfl, rfl, (by simp only [length_map, length_append, length_cons, length_nil, length_take, length_drop]; omega), (by simp; done), (by simp [byteRows_eq, ints_y, take_of_length_le, d_si, d_R, d_B, d_b, d_i, d_C, d_LsiE, d_iLsiE, d_Q, d_s, d_y, fromBR_si, fromBR_b, fromBR_i, fromBR_s, fromBR_y]; done), trivial, trivial⟩
    have ih := t140_0 (l0_2 := l0_2) (l0_3 := l0_3) (l0_4 := l0_4) (a0 := a0) hy0 hy1 hy2 hy3 hy4 y0 (p ++ [x0]) (v0 ++ ([x0])) (by rw [append_assoc]; exact hp0) (by simp only [length_map, length_set, length_append, length_replicate, length_cons, length_nil]; omega)
    rw [show ((p ++ [x0]).length : Int) = (p.length : Int) + 1 from by simp] at ih
    rw [show (⟨[(1, (.ptr ⟨(1, 0, 0), [], 0, 0, 8⟩)), (2, (.ptr ⟨(2, 0, 0), [], 0, 0, 8⟩)), (3, (.one (.ref ⟨(3, 0, 0), [], 0, (length ((take (length (map d_R v0)) (drop 0 (map d_R v0))) ++ ([[(.i x0.f0), (.i x0.f1), (.i x0.f2), (.own 2 (map d_si x0.f3)), (.i x0.f4)]] : List (List D))))⟩))), (16, (.one (.bor l0_3 (map b_R a0.f3)))), (17, (.oi ((length (map b_R a0.f3)) : Int))), (18, (.oi (IntKind.wrap .i64 ((length p : Int) + 1))))], [((1, 0, 0), .live ⟨8, [[(.i a0.f0), (.i a0.f1), (.own 2 (map d_si a0.f2)), (.bor l0_3 (map b_R a0.f3)), (.own 2 (map d_si a0.f4)), (.i a0.f5), (.i a0.f6), (.i a0.f7)]], []⟩), ((2, 0, 0), .live ⟨8, [[(.i 0), (.i 0), (.own 2 []), (.own 5 []), (.own 2 []), (.i 0), (.i 0), (.i 0)]], []⟩), ((3, 0, 0), .live ⟨5, (map d_R (v0 ++ ([x0]))), []⟩)]⟩ : St) = h140_0 l0_2 l0_3 l0_4 a0 ((length p : Int) + 1) (v0 ++ ([x0])) from (by unfold h140_0; simp [hw, byteRows_eq, ints_y, take_of_length_le, d_si, d_R, d_B, d_b, d_i, d_C, d_LsiE, d_iLsiE, d_Q, d_s, d_y, fromBR_si, fromBR_b, fromBR_i, fromBR_s, fromBR_y]; done)] at st
    exact .loopN st ih
def post140_0 (n0 : Nat) : O140_0 → Prop
  | .k0 w0 _ _ => length w0 = n0
theorem z140_0 {a0 : K_B} : ∀ (y0 : List K_R) (i : Int) (v0 : List K_R), post140_0 (length v0 + length y0) (r140_0 a0 y0 i v0)
  | [], i, v0 => by
    first | trivial | (simp only [post140_0, length_nil, Nat.add_zero]; done) | (simp [post140_0]; done)
  | x0 :: y0, i, v0 => by
    simp only [r140_0]
    have z := z140_0 (a0 := a0) y0 (i + 1) (v0 ++ ([x0]))
    rw [show (length v0 + length (x0 :: y0)) = (length (v0 ++ ([x0])) + length y0) from by first | omega | (simp only [length_map, length_set, length_append, length_replicate, length_cons, length_nil]; done) | (simp only [length_map, length_set, length_append, length_replicate, length_cons, length_nil]; omega)]
    exact z
/-! loop.example/g00539/impl.cloneLedger -/
def m140 (a0 : K_B) : K_B :=
  (match r140_0 a0 a0.f3 0 ([]) with | .k0 w0_2 w1_2 w2_2 => (K_B.mk a0.f0 a0.f1 a0.f2 w0_2 a0.f4 a0.f5 a0.f6 a0.f7))
theorem e140 {l0_2 : Nat} {l0_3 : Nat} {l0_4 : Nat} {a0 : K_B} (hy0 : length a0.f2 ≤ 100) (hy1 : length a0.f3 ≤ 100) (hy2 : ∀ z ∈ a0.f3, length z.f3 ≤ 100) (hy3 : length a0.f4 ≤ 100) (hy4 : ∀ z ∈ a0.f3, ok_R z) : Ev F X (.call 140 [(.agg [(.val (.int .i64 a0.f0)), (.val (.int .i64 a0.f1)), (.bor l0_2 (map b_si a0.f2)), (.bor l0_3 (map b_R a0.f3)), (.bor l0_4 (map b_si a0.f4)), (.val (.int .i64 a0.f5)), (.val (.int .i64 a0.f6)), (.val (.int .i64 a0.f7))])] [] [] [(.agg [(.val (.int .i64 ((m140 a0).f0))), (.val (.int .i64 ((m140 a0).f1))), (.own 2 (map d_si ((m140 a0).f2))), (.own 5 (map d_R ((m140 a0).f3))), (.own 2 (map d_si ((m140 a0).f4))), (.val (.int .i64 ((m140 a0).f5))), (.val (.int .i64 ((m140 a0).f6))), (.val (.int .i64 ((m140 a0).f7)))])]) := by
  unfold m140
  have f0 : Ev F X (.call 106 [(.one (.bor (l0_2 + 1) (map b_si a0.f2)))] [] [] [(.one (.own 2 (map d_si a0.f2)))]) := (e106 (a0 := a0.f2) (by omega))
  have f1 : Ev F X (.call 106 [(.one (.bor (l0_4 + 1) (map b_si a0.f4)))] [] [] [(.one (.own 2 (map d_si a0.f4)))]) := (e106 (a0 := a0.f4) (by omega))
  have f2 : 0 = 0 := rfl
  have f3 : (length (map d_si a0.f2)) = (length (map d_si a0.f2)) := rfl
  have f4 : 0 = 0 := rfl
  have f5 : (length (map d_si a0.f4)) = (length (map d_si a0.f4)) := rfl
  cases h0 : r140_0 a0 a0.f3 0 ([]) with
  | k0 w0_2 w1_2 w2_2 =>
    try dsimp only
    have zh0 := z140_0 (a0 := a0) a0.f3 0 ([]); rw [h0] at zh0; simp only [post140_0, length_map, length_set, length_append, length_replicate, length_cons, length_nil, Int.toNat_natCast] at zh0
    have f6 : (⟨[(1, (.ptr ⟨(1, 0, 0), [], 0, 0, 8⟩)), (2, (.ptr ⟨(2, 0, 0), [], 0, 0, 8⟩)), (3, (.one (.ref ⟨(3, 0, 0), [], 0, 0⟩))), (16, (.one (.bor l0_3 (map b_R a0.f3)))), (17, (.oi ((length (map b_R a0.f3)) : Int))), (18, (.oi 0))], [((1, 0, 0), .live ⟨8, [[(.i a0.f0), (.i a0.f1), (.own 2 (map d_si a0.f2)), (.bor l0_3 (map b_R a0.f3)), (.own 2 (map d_si a0.f4)), (.i a0.f5), (.i a0.f6), (.i a0.f7)]], []⟩), ((2, 0, 0), .live ⟨8, [[(.i 0), (.i 0), (.own 2 []), (.own 5 []), (.own 2 []), (.i 0), (.i 0), (.i 0)]], []⟩), ((3, 0, 0), .live ⟨5, [], []⟩)]⟩ : St) = h140_0 l0_2 l0_3 l0_4 a0 0 ([]) := (by rfl)
    have f7 : Ev F X (.code l140_0 (h140_0 l0_2 l0_3 l0_4 a0 0 ([])) (.exit 0) ⟨[(1, (.ptr ⟨(1, 0, 0), [], 0, 0, 8⟩)), (2, (.ptr ⟨(2, 0, 0), [], 0, 0, 8⟩)), (3, (.one (.ref ⟨(3, 0, 0), [], 0, (length (map d_R w0_2))⟩))), (16, (.one (.bor l0_3 (map b_R a0.f3)))), (17, (.oi ((length (map b_R a0.f3)) : Int))), (18, (.oi w1_2)), (19, (.one (.val (.bool w2_2))))], [((1, 0, 0), .live ⟨8, [[(.i a0.f0), (.i a0.f1), (.own 2 (map d_si a0.f2)), (.bor l0_3 (map b_R a0.f3)), (.own 2 (map d_si a0.f4)), (.i a0.f5), (.i a0.f6), (.i a0.f7)]], []⟩), ((2, 0, 0), .live ⟨8, [[(.i 0), (.i 0), (.own 2 []), (.own 5 []), (.own 2 []), (.i 0), (.i 0), (.i 0)]], []⟩), ((3, 0, 0), .live ⟨5, (map d_R w0_2), []⟩)]⟩) := (by have t : Ev F X (.code l140_0 (h140_0 l0_2 l0_3 l0_4 a0 0 ([])) (ex140_0 (r140_0 a0 a0.f3 0 ([]))) (fin140_0 l0_2 l0_3 l0_4 a0 (r140_0 a0 a0.f3 0 ([])))) := t140_0 (l0_2 := l0_2) (l0_3 := l0_3) (l0_4 := l0_4) (a0 := a0) (by assumption) (by assumption) (by assumption) (by assumption) (by assumption) a0.f3 [] ([]) rfl (by simp only [length_map, length_set, length_append, length_replicate, length_cons, length_nil]; omega); rw [h0] at t; exact t)
    have f8 : 0 = 0 := rfl
    have f9 : (length (map d_R w0_2)) = (length (map d_R w0_2)) := rfl
    have f10 : 0 = 0 := rfl
    have f11 : (length (map d_si a0.f2)) = (length (map d_si a0.f2)) := rfl
    have f12 : 0 = 0 := rfl
    have f13 : (length (map d_R w0_2)) = (length (map d_R w0_2)) := rfl
    have f14 : 0 = 0 := rfl
    have f15 : (length (map d_si a0.f4)) = (length (map d_si a0.f4)) := rfl
    have f16 : pureR (map d_si a0.f2) = true := (pureR_si _)
    have f17 : pureR (map d_R w0_2) = true := (pureR_R _)
    have f18 : pureR (map d_si a0.f4) = true := (pureR_si _)
    exact callP_ok (ps := []) (os := []) (rs := [(.agg [(.i a0.f0), (.i a0.f1), (.own 2 (map d_si a0.f2)), (.own 5 (map d_R w0_2)), (.own 2 (map d_si a0.f4)), (.i a0.f5), (.i a0.f6), (.i a0.f7)])]) (by kernel_rfl) (.r 9 [] [] f0 (.r 15 [] [] f1 (.f f2 (.f f3 (.f f4 (.f f5 (.f f6 (.f f7 (.f f8 (.f f9 (.f f10 (.f f11 (.f f12 (.f f13 (.f f14 (.f f15 (.f f16 (.f f17 (.f f18 (.h 36 (.loop (h140_0 l0_2 l0_3 l0_4 a0 0 ([])) (.exit 0) ⟨[(1, (.ptr ⟨(1, 0, 0), [], 0, 0, 8⟩)), (2, (.ptr ⟨(2, 0, 0), [], 0, 0, 8⟩)), (3, (.one (.ref ⟨(3, 0, 0), [], 0, (length (map d_R w0_2))⟩))), (16, (.one (.bor l0_3 (map b_R a0.f3)))), (17, (.oi ((length (map b_R a0.f3)) : Int))), (18, (.oi w1_2)), (19, (.one (.val (.bool w2_2))))], [((1, 0, 0), .live ⟨8, [[(.i a0.f0), (.i a0.f1), (.own 2 (map d_si a0.f2)), (.bor l0_3 (map b_R a0.f3)), (.own 2 (map d_si a0.f4)), (.i a0.f5), (.i a0.f6), (.i a0.f7)]], []⟩), ((2, 0, 0), .live ⟨8, [[(.i 0), (.i 0), (.own 2 []), (.own 5 []), (.own 2 []), (.i 0), (.i 0), (.i 0)]], []⟩), ((3, 0, 0), .live ⟨5, (map d_R w0_2), []⟩)]⟩) .nil))))))))))))))))))))
theorem cl140 (a0 : K_B) : ∀ (l : List K_R) (i : Int) (v : List K_R), ∃ j b, r140_0 a0 l i v = .k0 (v ++ l) j b
  | [], i, v => ⟨_, _, by rw [List.append_nil]; rfl⟩
  | x :: l, i, v => by
    obtain ⟨j, b, h⟩ := cl140 a0 l (i + 1) (v ++ [x])
    refine ⟨j, b, ?_⟩
    simp only [r140_0]
    rw [show v ++ x :: l = (v ++ [x]) ++ l by simp, ← h]
theorem cp140 (a0 : K_B) : m140 a0 = a0 := by
  unfold m140
  obtain ⟨j, b, h⟩ := cl140 a0 a0.f3 0 []
  rw [h]; rfl
/-! loop.example/g00539/impl.PushWeight -/
def m40 (a0 : (List K_si)) (a1 : K_si) (a2 : Int) : K_iLsiE :=
  if ((m46 a0) != 0) = true then (K_iLsiE.mk (m46 a0) []) else
  if ((m46 [a1]) != 0) = true then (K_iLsiE.mk (m46 [a1]) []) else
    if (!(m93 a2 1 12)) = true then (K_iLsiE.mk 3 []) else
      (K_iLsiE.mk 0 (take (Int.toNat ((length ((take (length (map d_si a0)) (drop 0 (map d_si a0))) ++ ([[(.val (.string a1.f0)), (.val (.int .i64 a1.f1))]] : List (List D)))) : Int) - Int.toNat (vmax (IntKind.wrap .i64 (((length ((take (length (map d_si a0)) (drop 0 (map d_si a0))) ++ ([[(.val (.string a1.f0)), (.val (.int .i64 a1.f1))]] : List (List D)))) : Int) - a2)) 0)) (drop (0 + (Int.toNat (vmax (IntKind.wrap .i64 (((length ((take (length (map d_si a0)) (drop 0 (map d_si a0))) ++ ([[(.val (.string a1.f0)), (.val (.int .i64 a1.f1))]] : List (List D)))) : Int) - a2)) 0))) (a0 ++ ([a1])))))
theorem e40 {l0_0 : Nat} {a0 : (List K_si)} {a1 : K_si} {a2 : Int} (hy0 : length a0 * 24 ≤ 140737488351232) : Ev F X (.call 40 [(.one (.bor l0_0 (map b_si a0))), (.agg [(.val (.string a1.f0)), (.val (.int .i64 a1.f1))]), (.one (.val (.int .i64 a2)))] [] [] [(.agg [(.val (.int .i64 ((m40 a0 a1 a2).f0))), (.own 2 (map d_si ((m40 a0 a1 a2).f1)))])]) := by
  unfold m40
  have f0 : Ev F X (.call 46 [(.one (.bor (l0_0 + 1) (map b_si a0)))] [] [] [(.oi (m46 a0))]) := (e46 (a0 := a0) (by with_reducible assumption))
  by_cases h0 : ((m46 a0) != 0) = true
  · try simp only [if_pos h0]
    have f2 : pureR [] = true := (by trivial)
    exact callP_ok (ps := []) (os := []) (rs := [(.agg [(.i (m46 a0)), (.own 2 [])])]) (by kernel_rfl) (.r 7 [] [] f0 (.f h0 (.f f2 (.h 14 (.b true) .nil))))
  · try simp only [if_neg h0]
    have f2 : 1 ≤ 1 := (by omega)
    have f3 : fullR (take 1 (drop 0 [[(.val (.string a1.f0)), (.val (.int .i64 a1.f1))]])) = true := (by trivial)
    have f4 : toBR (take 1 (drop 0 [[(.val (.string a1.f0)), (.val (.int .i64 a1.f1))]])) = [[(.val (.string a1.f0)), (.val (.int .i64 a1.f1))]] := (by trivial)
    have f5 : Ev F X (.call 46 [(.one (.bor 0 [[(.val (.string a1.f0)), (.i a1.f1)]]))] [] [] [(.oi (m46 [a1]))]) := (e46 (a0 := [a1]) (by have q1 := len12_46 a0 (by with_reducible assumption); simp only [length_map, length_append, length_cons, length_nil, length_take, length_drop, Nat.sub_zero, Nat.min_self]; omega))
    by_cases h1 : ((m46 [a1]) != 0) = true
    · try simp only [if_pos h1]
      have f7 : pureR [] = true := (by assumption)
      exact callP_ok (ps := []) (os := []) (rs := [(.agg [(.i (m46 [a1])), (.own 2 [])])]) (by kernel_rfl) (.r 7 [] [] f0 (.f (nt h0) (.f f2 (.f f3 (.f f4 (.h 14 (.b false) (.r 20 [] [[[(.val (.string a1.f0)), (.i a1.f1)]]] f5 (.f h1 (.f f7 (.h 27 (.b true) .nil))))))))))
    · try simp only [if_neg h1]
      have f7 : Ev F X (.call 93 [(.oi a2), (.oi 1), (.oi 12)] [] [] [(.one (.val (.bool (m93 a2 1 12))))]) := (e93 (a0 := a2) (a1 := 1) (a2 := 12))
      by_cases h2 : (!(m93 a2 1 12)) = true
      · try simp only [if_pos h2]
        have f9 : pureR [] = true := (by assumption)
        exact callP_ok (ps := []) (os := []) (rs := [(.agg [(.i 3), (.own 2 [])])]) (by kernel_rfl) (.r 7 [] [] f0 (.f (nt h0) (.f f2 (.f f3 (.f f4 (.h 14 (.b false) (.r 20 [] [[[(.val (.string a1.f0)), (.i a1.f1)]]] f5 (.f (nt h1) (.h 27 (.b false) (.r 31 [] [] f7 (.f h2 (.f f9 (.h 34 (.b true) .nil)))))))))))))
      · try simp only [if_neg h2]
        have f9 : Ev F X (.call 106 [(.one (.bor (l0_0 + 1) (map b_si a0)))] [] [] [(.one (.own 2 (map d_si a0)))]) := (e106 (a0 := a0) (by have q := len12_46 a0 (by assumption); omega))
        have f10 : 0 + (length (map d_si a0)) ≤ (length (map d_si a0)) := (by omega)
        have f11 : 1 ≤ 1 := (by omega)
        have f12 : ((take 1 (drop 0 [[(.val (.string a1.f0)), (.val (.int .i64 a1.f1))]])).all fun x => x.all copyable) = true := (by assumption)
        have f13 : (length ((take (length (map d_si a0)) (drop 0 (map d_si a0))) ++ ([[(.val (.string a1.f0)), (.val (.int .i64 a1.f1))]] : List (List D)))) * 24 ≤ 70368744177664 := (by have q1 := len12_46 a0 (by with_reducible assumption); simp only [length_map, length_append, length_cons, length_nil, length_take, length_drop, Nat.sub_zero, Nat.min_self]; omega)
        have f14 : ∀ r ∈ ([[(.val (.string a1.f0)), (.val (.int .i64 a1.f1))]] : List (List D)), r.length = 2 := (by simp; done)
        have f15 : ((take (length (map d_si a0)) (drop 0 (map d_si a0))) ++ ([[(.val (.string a1.f0)), (.val (.int .i64 a1.f1))]] : List (List D))) = (map d_si (a0 ++ ([a1]))) := (by simp [byteRows_eq, ints_y, take_of_length_le, d_si, d_R, d_B, d_b, d_i, d_C, d_LsiE, d_iLsiE, d_Q, d_s, d_y, fromBR_si, fromBR_b, fromBR_i, fromBR_s, fromBR_y]; done)
        have f16 : 0 + (length ((take (length (map d_si a0)) (drop 0 (map d_si a0))) ++ ([[(.val (.string a1.f0)), (.val (.int .i64 a1.f1))]] : List (List D)))) ≤ (length (map d_si (a0 ++ ([a1])))) := (by have q1 := len12_46 a0 (by with_reducible assumption); simp only [length_map, length_append, length_cons, length_nil, length_take, length_drop, Nat.sub_zero, Nat.min_self]; omega)
        have f17 : 0 ≤ (vmax (IntKind.wrap .i64 (((length ((take (length (map d_si a0)) (drop 0 (map d_si a0))) ++ ([[(.val (.string a1.f0)), (.val (.int .i64 a1.f1))]] : List (List D)))) : Int) - a2)) 0) ∧ (vmax (IntKind.wrap .i64 (((length ((take (length (map d_si a0)) (drop 0 (map d_si a0))) ++ ([[(.val (.string a1.f0)), (.val (.int .i64 a1.f1))]] : List (List D)))) : Int) - a2)) 0) ≤ ((length ((take (length (map d_si a0)) (drop 0 (map d_si a0))) ++ ([[(.val (.string a1.f0)), (.val (.int .i64 a1.f1))]] : List (List D)))) : Int) ∧ ((length ((take (length (map d_si a0)) (drop 0 (map d_si a0))) ++ ([[(.val (.string a1.f0)), (.val (.int .i64 a1.f1))]] : List (List D)))) : Int) ≤ ((length ((take (length (map d_si a0)) (drop 0 (map d_si a0))) ++ ([[(.val (.string a1.f0)), (.val (.int .i64 a1.f1))]] : List (List D)))) : Int) := (by have q1 := len12_46 a0 (by with_reducible assumption); have q2 := jn93 (a := a2) (b := 1) (c := 12) (by with_reducible assumption); simp only [length_map, length_append, length_cons, length_nil, length_take, length_drop, Nat.sub_zero, Nat.min_self]; rw [wrap64 (by omega)]; unfold vmax; split <;> omega)
        have f18 : (0 + (Int.toNat (vmax (IntKind.wrap .i64 (((length ((take (length (map d_si a0)) (drop 0 (map d_si a0))) ++ ([[(.val (.string a1.f0)), (.val (.int .i64 a1.f1))]] : List (List D)))) : Int) - a2)) 0))) + (Int.toNat ((length ((take (length (map d_si a0)) (drop 0 (map d_si a0))) ++ ([[(.val (.string a1.f0)), (.val (.int .i64 a1.f1))]] : List (List D)))) : Int) - Int.toNat (vmax (IntKind.wrap .i64 (((length ((take (length (map d_si a0)) (drop 0 (map d_si a0))) ++ ([[(.val (.string a1.f0)), (.val (.int .i64 a1.f1))]] : List (List D)))) : Int) - a2)) 0)) ≤ (length (map d_si (a0 ++ ([a1])))) := (by omega)
        have f19 : fullR (take (Int.toNat ((length ((take (length (map d_si a0)) (drop 0 (map d_si a0))) ++ ([[(.val (.string a1.f0)), (.val (.int .i64 a1.f1))]] : List (List D)))) : Int) - Int.toNat (vmax (IntKind.wrap .i64 (((length ((take (length (map d_si a0)) (drop 0 (map d_si a0))) ++ ([[(.val (.string a1.f0)), (.val (.int .i64 a1.f1))]] : List (List D)))) : Int) - a2)) 0)) (drop (0 + (Int.toNat (vmax (IntKind.wrap .i64 (((length ((take (length (map d_si a0)) (drop 0 (map d_si a0))) ++ ([[(.val (.string a1.f0)), (.val (.int .i64 a1.f1))]] : List (List D)))) : Int) - a2)) 0))) (map d_si (a0 ++ ([a1]))))) = true := (ft_si _ _ _)
        have f20 : toBR (take (Int.toNat ((length ((take (length (map d_si a0)) (drop 0 (map d_si a0))) ++ ([[(.val (.string a1.f0)), (.val (.int .i64 a1.f1))]] : List (List D)))) : Int) - Int.toNat (vmax (IntKind.wrap .i64 (((length ((take (length (map d_si a0)) (drop 0 (map d_si a0))) ++ ([[(.val (.string a1.f0)), (.val (.int .i64 a1.f1))]] : List (List D)))) : Int) - a2)) 0)) (drop (0 + (Int.toNat (vmax (IntKind.wrap .i64 (((length ((take (length (map d_si a0)) (drop 0 (map d_si a0))) ++ ([[(.val (.string a1.f0)), (.val (.int .i64 a1.f1))]] : List (List D)))) : Int) - a2)) 0))) (map d_si (a0 ++ ([a1]))))) = (map b_si (take (Int.toNat ((length ((take (length (map d_si a0)) (drop 0 (map d_si a0))) ++ ([[(.val (.string a1.f0)), (.val (.int .i64 a1.f1))]] : List (List D)))) : Int) - Int.toNat (vmax (IntKind.wrap .i64 (((length ((take (length (map d_si a0)) (drop 0 (map d_si a0))) ++ ([[(.val (.string a1.f0)), (.val (.int .i64 a1.f1))]] : List (List D)))) : Int) - a2)) 0)) (drop (0 + (Int.toNat (vmax (IntKind.wrap .i64 (((length ((take (length (map d_si a0)) (drop 0 (map d_si a0))) ++ ([[(.val (.string a1.f0)), (.val (.int .i64 a1.f1))]] : List (List D)))) : Int) - a2)) 0))) (a0 ++ ([a1]))))) := (by exact tbt_si _ _ _)
        have f21 : Ev F X (.call 106 [(.one (.bor 0 (map b_si (take (Int.toNat ((length ((take (length (map d_si a0)) (drop 0 (map d_si a0))) ++ ([[(.val (.string a1.f0)), (.i a1.f1)]] : List (List D)))) : Int) - Int.toNat (vmax (IntKind.wrap .i64 (((length ((take (length (map d_si a0)) (drop 0 (map d_si a0))) ++ ([[(.val (.string a1.f0)), (.i a1.f1)]] : List (List D)))) : Int) - a2)) 0)) (drop (0 + (Int.toNat (vmax (IntKind.wrap .i64 (((length ((take (length (map d_si a0)) (drop 0 (map d_si a0))) ++ ([[(.val (.string a1.f0)), (.i a1.f1)]] : List (List D)))) : Int) - a2)) 0))) (a0 ++ ([a1])))))))] [] [] [(.one (.own 2 (map d_si (take (Int.toNat ((length ((take (length (map d_si a0)) (drop 0 (map d_si a0))) ++ ([[(.val (.string a1.f0)), (.i a1.f1)]] : List (List D)))) : Int) - Int.toNat (vmax (IntKind.wrap .i64 (((length ((take (length (map d_si a0)) (drop 0 (map d_si a0))) ++ ([[(.val (.string a1.f0)), (.i a1.f1)]] : List (List D)))) : Int) - a2)) 0)) (drop (0 + (Int.toNat (vmax (IntKind.wrap .i64 (((length ((take (length (map d_si a0)) (drop 0 (map d_si a0))) ++ ([[(.val (.string a1.f0)), (.i a1.f1)]] : List (List D)))) : Int) - a2)) 0))) (a0 ++ ([a1])))))))]) := (e106 (a0 := _) (by have q1 := len12_46 a0 (by with_reducible assumption); simp only [length_map, length_append, length_cons, length_nil, length_take, length_drop, Nat.sub_zero, Nat.min_self]; omega))
        have f22 : 0 = 0 := rfl
        have f23 : (length (map d_si (take (Int.toNat ((length ((take (length (map d_si a0)) (drop 0 (map d_si a0))) ++ ([[(.val (.string a1.f0)), (.val (.int .i64 a1.f1))]] : List (List D)))) : Int) - Int.toNat (vmax (IntKind.wrap .i64 (((length ((take (length (map d_si a0)) (drop 0 (map d_si a0))) ++ ([[(.val (.string a1.f0)), (.val (.int .i64 a1.f1))]] : List (List D)))) : Int) - a2)) 0)) (drop (0 + (Int.toNat (vmax (IntKind.wrap .i64 (((length ((take (length (map d_si a0)) (drop 0 (map d_si a0))) ++ ([[(.val (.string a1.f0)), (.val (.int .i64 a1.f1))]] : List (List D)))) : Int) - a2)) 0))) (a0 ++ ([a1])))))) = (length (map d_si (take (Int.toNat ((length ((take (length (map d_si a0)) (drop 0 (map d_si a0))) ++ ([[(.val (.string a1.f0)), (.val (.int .i64 a1.f1))]] : List (List D)))) : Int) - Int.toNat (vmax (IntKind.wrap .i64 (((length ((take (length (map d_si a0)) (drop 0 (map d_si a0))) ++ ([[(.val (.string a1.f0)), (.val (.int .i64 a1.f1))]] : List (List D)))) : Int) - a2)) 0)) (drop (0 + (Int.toNat (vmax (IntKind.wrap .i64 (((length ((take (length (map d_si a0)) (drop 0 (map d_si a0))) ++ ([[(.val (.string a1.f0)), (.val (.int .i64 a1.f1))]] : List (List D)))) : Int) - a2)) 0))) (a0 ++ ([a1])))))) := rfl
        have f24 : pureR (map d_si (take (Int.toNat ((length ((take (length (map d_si a0)) (drop 0 (map d_si a0))) ++ ([[(.val (.string a1.f0)), (.val (.int .i64 a1.f1))]] : List (List D)))) : Int) - Int.toNat (vmax (IntKind.wrap .i64 (((length ((take (length (map d_si a0)) (drop 0 (map d_si a0))) ++ ([[(.val (.string a1.f0)), (.val (.int .i64 a1.f1))]] : List (List D)))) : Int) - a2)) 0)) (drop (0 + (Int.toNat (vmax (IntKind.wrap .i64 (((length ((take (length (map d_si a0)) (drop 0 (map d_si a0))) ++ ([[(.val (.string a1.f0)), (.val (.int .i64 a1.f1))]] : List (List D)))) : Int) - a2)) 0))) (a0 ++ ([a1]))))) = true := (pureR_si _)
        exact callP_ok (ps := []) (os := []) (rs := [(.agg [(.i 0), (.own 2 (map d_si (take (Int.toNat ((length ((take (length (map d_si a0)) (drop 0 (map d_si a0))) ++ ([[(.val (.string a1.f0)), (.i a1.f1)]] : List (List D)))) : Int) - Int.toNat (vmax (IntKind.wrap .i64 (((length ((take (length (map d_si a0)) (drop 0 (map d_si a0))) ++ ([[(.val (.string a1.f0)), (.i a1.f1)]] : List (List D)))) : Int) - a2)) 0)) (drop (0 + (Int.toNat (vmax (IntKind.wrap .i64 (((length ((take (length (map d_si a0)) (drop 0 (map d_si a0))) ++ ([[(.val (.string a1.f0)), (.i a1.f1)]] : List (List D)))) : Int) - a2)) 0))) (a0 ++ ([a1]))))))])]) (by kernel_rfl) (.r 7 [] [] f0 (.f (nt h0) (.f f2 (.f f3 (.f f4 (.h 14 (.b false) (.r 20 [] [[[(.val (.string a1.f0)), (.i a1.f1)]]] f5 (.f (nt h1) (.h 27 (.b false) (.r 31 [] [] f7 (.f (nt h2) (.h 34 (.b false) (.r 38 [] [] f9 (.f f10 (.f f11 (.f f12 (.f f13 (.f f14 (.f f15 (.f f16 (.f f17 (.f f18 (.f f19 (.f f20 (.h 44 (.b true) (.h 47 (.norm (9, 0, 0) (map d_si (a0 ++ ([a1])))) (.r 63 [] [(map b_si (take (Int.toNat ((length ((take (length (map d_si a0)) (drop 0 (map d_si a0))) ++ ([[(.val (.string a1.f0)), (.i a1.f1)]] : List (List D)))) : Int) - Int.toNat (vmax (IntKind.wrap .i64 (((length ((take (length (map d_si a0)) (drop 0 (map d_si a0))) ++ ([[(.val (.string a1.f0)), (.i a1.f1)]] : List (List D)))) : Int) - a2)) 0)) (drop (0 + (Int.toNat (vmax (IntKind.wrap .i64 (((length ((take (length (map d_si a0)) (drop 0 (map d_si a0))) ++ ([[(.val (.string a1.f0)), (.i a1.f1)]] : List (List D)))) : Int) - a2)) 0))) (a0 ++ ([a1])))))] f21 (.f f22 (.f f23 (.f f24 .nil))))))))))))))))))))))))))))))
theorem okm40 (a0 : (List K_si)) (a1 : K_si) (a2 : Int) : ok_iLsiE (m40 a0 a1 a2) := by
  unfold m40
  split
  · simp [ok_R, ok_B, ok_C, ok_LsiE, ok_iLsiE, ok_Q]
  · split
    · simp [ok_R, ok_B, ok_C, ok_LsiE, ok_iLsiE, ok_Q]
    · split
      · simp [ok_R, ok_B, ok_C, ok_LsiE, ok_iLsiE, ok_Q]
      · have q1 := len12_46 a0 (by assumption)
        simp only [ok_R, ok_B, ok_C, ok_LsiE, ok_iLsiE, ok_Q, length_take, length_drop, length_append, length_cons, length_nil]; omega
/-! loop.example/g00539/impl.CreditShare$1 -/
def o1008400_0 (a0 : K_B) (a101001 : ByteArray) (a101002 : Int) : K_B :=
  (K_B.mk a0.f0 a0.f1 ((m40 a0.f2 (K_si.mk a101001 a101002) a0.f0).f1) a0.f3 a0.f4 a0.f5 a0.f6 a0.f7)
def m1008400 (a0 : K_B) (a101001 : ByteArray) (a101002 : Int) : Int :=
  ((m40 a0.f2 (K_si.mk a101001 a101002) a0.f0).f0)
theorem e1008400 {a0 : K_B} {l101000 : Nat} {a101001 : ByteArray} {a101002 : Int} (hy0 : length a0.f2 ≤ 100) (hy1 : length a0.f3 ≤ 100) (hy2 : ∀ z ∈ a0.f3, length z.f3 ≤ 100) (hy3 : length a0.f4 ≤ 100) (hy4 : ∀ z ∈ a0.f3, ok_R z) : Ev F X (.call 84 [(.ptr ⟨(0, 0, 0), [], 0, 0, 8⟩), (.bptr l101000 [(.val (.string a101001)), (.val (.int .i64 a101002))])] [((0, 0, 0), ⟨8, [[(.val (.int .i64 a0.f0)), (.val (.int .i64 a0.f1)), (.own 2 (map d_si a0.f2)), (.own 5 (map d_R a0.f3)), (.own 2 (map d_si a0.f4)), (.val (.int .i64 a0.f5)), (.val (.int .i64 a0.f6)), (.val (.int .i64 a0.f7))]], []⟩)] [[[(.val (.int .i64 ((o1008400_0 a0 a101001 a101002).f0))), (.val (.int .i64 ((o1008400_0 a0 a101001 a101002).f1))), (.own 2 (map d_si ((o1008400_0 a0 a101001 a101002).f2))), (.own 5 (map d_R ((o1008400_0 a0 a101001 a101002).f3))), (.own 2 (map d_si ((o1008400_0 a0 a101001 a101002).f4))), (.val (.int .i64 ((o1008400_0 a0 a101001 a101002).f5))), (.val (.int .i64 ((o1008400_0 a0 a101001 a101002).f6))), (.val (.int .i64 ((o1008400_0 a0 a101001 a101002).f7)))]]] [(.one (.val (.int .i64 (m1008400 a0 a101001 a101002))))]) := by
  have f0 : 0 + (length (map d_si a0.f2)) ≤ (length (map d_si a0.f2)) := (by omega)
  have f1 : fullR (take (length (map d_si a0.f2)) (drop 0 (map d_si a0.f2))) = true := (ft_si _ _ _)
  have f2 : toBR (take (length (map d_si a0.f2)) (drop 0 (map d_si a0.f2))) = (map b_si a0.f2) := (tb_si _)
  have f3 : Ev F X (.call 40 [(.one (.bor 0 (map b_si a0.f2))), (.agg [(.val (.string a101001)), (.i a101002)]), (.oi a0.f0)] [] [] [(.agg [(.i ((m40 a0.f2 (K_si.mk a101001 a101002) a0.f0).f0)), (.own 2 (map d_si ((m40 a0.f2 (K_si.mk a101001 a101002) a0.f0).f1)))])]) := (e40 (a0 := a0.f2) (a1 := (K_si.mk a101001 a101002)) (a2 := a0.f0) (by omega))
  have f4 : 0 = 0 := rfl
  have f5 : (length (map d_si ((m40 a0.f2 (K_si.mk a101001 a101002) a0.f0).f1))) = (length (map d_si ((m40 a0.f2 (K_si.mk a101001 a101002) a0.f0).f1))) := rfl
  have f6 : 0 = 0 := rfl
  have f7 : (length (map d_si ((m40 a0.f2 (K_si.mk a101001 a101002) a0.f0).f1))) = (length (map d_si ((m40 a0.f2 (K_si.mk a101001 a101002) a0.f0).f1))) := rfl
  have f8 : pureR (map d_si ((m40 a0.f2 (K_si.mk a101001 a101002) a0.f0).f1)) = true := (by simp; done)
  have f9 : pureR (map d_R a0.f3) = true := (pureR_R _)
  have f10 : pureR (map d_si a0.f4) = true := (pureR_si _)
  exact callP_ok (ps := [false]) (os := [[[(.i a0.f0), (.i a0.f1), (.own 2 (map d_si ((m40 a0.f2 (K_si.mk a101001 a101002) a0.f0).f1))), (.own 5 (map d_R a0.f3)), (.own 2 (map d_si a0.f4)), (.i a0.f5), (.i a0.f6), (.i a0.f7)]]]) (rs := [(.oi ((m40 a0.f2 (K_si.mk a101001 a101002) a0.f0).f0))]) (by kernel_rfl) (.f f0 (.f f1 (.f f2 (.r 21 [] [(map b_si a0.f2)] f3 (.f f4 (.f f5 (.f f6 (.f f7 (.f f8 (.f f9 (.f f10 .nil)))))))))))
/-! loop.example/g00539/impl.changed -/
def m1008300 (a0 : K_B) (a2001 : ByteArray) (a2002 : Int) : K_C :=
  if ((m17 a0) != 0) = true then (K_C.mk (m17 a0) 0 0 0 [] [] [] 0 0 0) else
  if ((m1008400 (m140 a0) a2001 a2002) != 0) = true then (K_C.mk (m1008400 (m140 a0) a2001 a2002) 0 0 0 [] [] [] 0 0 0) else
    (K_C.mk 0 0 ((o1008400_0 (m140 a0) a2001 a2002).f0) ((o1008400_0 (m140 a0) a2001 a2002).f1) ((o1008400_0 (m140 a0) a2001 a2002).f2) ((o1008400_0 (m140 a0) a2001 a2002).f3) ((o1008400_0 (m140 a0) a2001 a2002).f4) ((o1008400_0 (m140 a0) a2001 a2002).f5) ((o1008400_0 (m140 a0) a2001 a2002).f6) ((o1008400_0 (m140 a0) a2001 a2002).f7))
theorem e1008300 {l0_2 : Nat} {l0_3 : Nat} {l0_4 : Nat} {a0 : K_B} {l2000 : Nat} {a2001 : ByteArray} {a2002 : Int} (hy0 : length a0.f2 * 24 ≤ 140737488351232) (hy1 : length a0.f3 * 56 ≤ 140737488351232) (hy2 : ∀ z ∈ a0.f3, ok_R z) (hy3 : length a0.f4 * 24 ≤ 140737488351232) : Ev F X (.call 83 [(.agg [(.val (.int .i64 a0.f0)), (.val (.int .i64 a0.f1)), (.bor l0_2 (map b_si a0.f2)), (.bor l0_3 (map b_R a0.f3)), (.bor l0_4 (map b_si a0.f4)), (.val (.int .i64 a0.f5)), (.val (.int .i64 a0.f6)), (.val (.int .i64 a0.f7))]), (.clo 84 [] [(.bptr l2000 [(.val (.string a2001)), (.val (.int .i64 a2002))])])] [] [] [(.agg [(.val (.int .i64 ((m1008300 a0 a2001 a2002).f0))), (.val (.int .i64 ((m1008300 a0 a2001 a2002).f1))), (.val (.int .i64 ((m1008300 a0 a2001 a2002).f2))), (.val (.int .i64 ((m1008300 a0 a2001 a2002).f3))), (.own 2 (map d_si ((m1008300 a0 a2001 a2002).f4))), (.own 5 (map d_R ((m1008300 a0 a2001 a2002).f5))), (.own 2 (map d_si ((m1008300 a0 a2001 a2002).f6))), (.val (.int .i64 ((m1008300 a0 a2001 a2002).f7))), (.val (.int .i64 ((m1008300 a0 a2001 a2002).f8))), (.val (.int .i64 ((m1008300 a0 a2001 a2002).f9)))])]) := by
  unfold m1008300
  have f0 : Ev F X (.call 17 [(.agg [(.i a0.f0), (.i a0.f1), (.bor (l0_2 + 1) (map b_si a0.f2)), (.bor (l0_3 + 1) (map b_R a0.f3)), (.bor (l0_4 + 1) (map b_si a0.f4)), (.i a0.f5), (.i a0.f6), (.i a0.f7)])] [] [] [(.oi (m17 a0))]) := (e17 (a0 := a0) (by with_reducible assumption) (by with_reducible assumption) (by with_reducible assumption) (by with_reducible assumption))
  by_cases h0 : ((m17 a0) != 0) = true
  · try simp only [if_pos h0]
    have f2 : pureR [] = true := (by trivial)
    have f3 : pureR [] = true := (by with_reducible assumption)
    have f4 : pureR [] = true := (by with_reducible assumption)
    exact callP_ok (ps := []) (os := []) (rs := [(.agg [(.i (m17 a0)), (.i 0), (.i 0), (.i 0), (.own 2 []), (.own 5 []), (.own 2 []), (.i 0), (.i 0), (.i 0)])]) (by kernel_rfl) (.r 7 [] [] f0 (.f h0 (.f f2 (.f f3 (.f f4 (.h 14 (.b true) .nil))))))
  · try simp only [if_neg h0]
    have f2 : Ev F X (.call 140 [(.agg [(.i a0.f0), (.i a0.f1), (.bor (l0_2 + 1) (map b_si a0.f2)), (.bor (l0_3 + 1) (map b_R a0.f3)), (.bor (l0_4 + 1) (map b_si a0.f4)), (.i a0.f5), (.i a0.f6), (.i a0.f7)])] [] [] [(.agg [(.i ((m140 a0).f0)), (.i ((m140 a0).f1)), (.own 2 (map d_si ((m140 a0).f2))), (.own 5 (map d_R ((m140 a0).f3))), (.own 2 (map d_si ((m140 a0).f4))), (.i ((m140 a0).f5)), (.i ((m140 a0).f6)), (.i ((m140 a0).f7))])]) := (e140 (a0 := a0) (by have q := fs17 (a0 := a0) (by with_reducible assumption); omega) (by have q := fs17 (a0 := a0) (by with_reducible assumption); omega) (by have q := fs17 (a0 := a0) (by with_reducible assumption); intro z hz; have q2 := q.2.2.1 z hz; omega) (by have q := fs17 (a0 := a0) (by with_reducible assumption); omega) (by with_reducible assumption))
    have f3 : 0 = 0 := rfl
    have f4 : (length (map d_si ((m140 a0).f2))) = (length (map d_si ((m140 a0).f2))) := rfl
    have f5 : 0 = 0 := rfl
    have f6 : (length (map d_R ((m140 a0).f3))) = (length (map d_R ((m140 a0).f3))) := rfl
    have f7 : 0 = 0 := rfl
    have f8 : (length (map d_si ((m140 a0).f4))) = (length (map d_si ((m140 a0).f4))) := rfl
    have f9 : pureR (map d_si ((m140 a0).f2)) = true := (by simp; done)
    have f10 : pureR (map d_R ((m140 a0).f3)) = true := (by simp; done)
    have f11 : pureR (map d_si ((m140 a0).f4)) = true := (by simp; done)
    have f12 : Ev F X (.call 84 [(.ptr ⟨(0, 0, 0), [], 0, 0, 8⟩), (.bptr (l2000 + 1) [(.val (.string a2001)), (.i a2002)])] [((0, 0, 0), ⟨8, [[(.i ((m140 a0).f0)), (.i ((m140 a0).f1)), (.own 2 (map d_si ((m140 a0).f2))), (.own 5 (map d_R ((m140 a0).f3))), (.own 2 (map d_si ((m140 a0).f4))), (.i ((m140 a0).f5)), (.i ((m140 a0).f6)), (.i ((m140 a0).f7))]], []⟩)] [[[(.i ((o1008400_0 (m140 a0) a2001 a2002).f0)), (.i ((o1008400_0 (m140 a0) a2001 a2002).f1)), (.own 2 (map d_si ((o1008400_0 (m140 a0) a2001 a2002).f2))), (.own 5 (map d_R ((o1008400_0 (m140 a0) a2001 a2002).f3))), (.own 2 (map d_si ((o1008400_0 (m140 a0) a2001 a2002).f4))), (.i ((o1008400_0 (m140 a0) a2001 a2002).f5)), (.i ((o1008400_0 (m140 a0) a2001 a2002).f6)), (.i ((o1008400_0 (m140 a0) a2001 a2002).f7))]]] [(.oi (m1008400 (m140 a0) a2001 a2002))]) := (e1008400 (a0 := (m140 a0)) (a101001 := a2001) (a101002 := a2002) (by rw [cp140]; have q := fs17 (a0 := a0) (by with_reducible assumption); omega) (by rw [cp140]; have q := fs17 (a0 := a0) (by with_reducible assumption); omega) (by rw [cp140]; have q := fs17 (a0 := a0) (by with_reducible assumption); intro z hz; have q2 := q.2.2.1 z hz; omega) (by rw [cp140]; have q := fs17 (a0 := a0) (by with_reducible assumption); omega) (by rw [cp140]; assumption))
    by_cases h1 : ((m1008400 (m140 a0) a2001 a2002) != 0) = true
    · try simp only [if_pos h1]
      have f14 : pureR [] = true := (by trivial)
      have f15 : pureR [] = true := (by with_reducible assumption)
      have f16 : pureR [] = true := (by with_reducible assumption)
      exact callP_ok (ps := []) (os := []) (rs := [(.agg [(.i (m1008400 (m140 a0) a2001 a2002)), (.i 0), (.i 0), (.i 0), (.own 2 []), (.own 5 []), (.own 2 []), (.i 0), (.i 0), (.i 0)])]) (by kernel_rfl) (.r 7 [] [] f0 (.f (nt h0) (.h 14 (.b false) (.r 18 [] [] f2 (.f f3 (.f f4 (.f f5 (.f f6 (.f f7 (.f f8 (.f f9 (.f f10 (.f f11 (.r 26 [false] [] f12 (.f h1 (.f f14 (.f f15 (.f f16 (.h 33 (.b true) .nil)))))))))))))))))))
    · try simp only [if_neg h1]
      have f14 : 0 = 0 := rfl
      have f15 : (length (map d_si ((o1008400_0 (m140 a0) a2001 a2002).f2))) = (length (map d_si ((o1008400_0 (m140 a0) a2001 a2002).f2))) := rfl
      have f16 : 0 = 0 := rfl
      have f17 : (length (map d_R ((o1008400_0 (m140 a0) a2001 a2002).f3))) = (length (map d_R ((o1008400_0 (m140 a0) a2001 a2002).f3))) := rfl
      have f18 : 0 = 0 := rfl
      have f19 : (length (map d_si ((o1008400_0 (m140 a0) a2001 a2002).f4))) = (length (map d_si ((o1008400_0 (m140 a0) a2001 a2002).f4))) := rfl
      have f20 : pureR (map d_si ((o1008400_0 (m140 a0) a2001 a2002).f2)) = true := (by simp; done)
      have f21 : pureR (map d_R ((o1008400_0 (m140 a0) a2001 a2002).f3)) = true := (by simp; done)
      have f22 : pureR (map d_si ((o1008400_0 (m140 a0) a2001 a2002).f4)) = true := (by simp; done)
      exact callP_ok (ps := []) (os := []) (rs := [(.agg [(.i 0), (.i 0), (.i ((o1008400_0 (m140 a0) a2001 a2002).f0)), (.i ((o1008400_0 (m140 a0) a2001 a2002).f1)), (.own 2 (map d_si ((o1008400_0 (m140 a0) a2001 a2002).f2))), (.own 5 (map d_R ((o1008400_0 (m140 a0) a2001 a2002).f3))), (.own 2 (map d_si ((o1008400_0 (m140 a0) a2001 a2002).f4))), (.i ((o1008400_0 (m140 a0) a2001 a2002).f5)), (.i ((o1008400_0 (m140 a0) a2001 a2002).f6)), (.i ((o1008400_0 (m140 a0) a2001 a2002).f7))])]) (by kernel_rfl) (.r 7 [] [] f0 (.f (nt h0) (.h 14 (.b false) (.r 18 [] [] f2 (.f f3 (.f f4 (.f f5 (.f f6 (.f f7 (.f f8 (.f f9 (.f f10 (.f f11 (.r 26 [false] [] f12 (.f (nt h1) (.f f14 (.f f15 (.f f16 (.f f17 (.f f18 (.f f19 (.f f20 (.f f21 (.f f22 (.h 33 (.b false) .nil)))))))))))))))))))))))))
theorem okm1008300 (a0 : K_B) (a2001 : ByteArray) (a2002 : Int) : ok_C (m1008300 a0 a2001 a2002) := by
  unfold m1008300
  split
  · simp [ok_R, ok_B, ok_C, ok_LsiE, ok_iLsiE, ok_Q]
  · rename_i h
    obtain ⟨q1, q2, q3, q4⟩ := fs17 h
    simp only [cp140]
    split
    · simp [ok_R, ok_B, ok_C, ok_LsiE, ok_iLsiE, ok_Q]
    · unfold o1008400_0
      (repeat' split) <;> simp only [ok_R, ok_B, ok_C, ok_LsiE, ok_iLsiE, ok_Q] <;> first | (refine ⟨by simp, by simp, by simp, by simp⟩) | (refine ⟨?_, ?_, ?_, ?_⟩ <;> first | omega | (simp only [length_set, length_append, length_cons, length_nil, length_take, length_drop]; omega) | exact oall q3 | exact oset q3 (oget q3 _) | exact oset q3 (by simp) | exact oapp q3 (by simp) | exact (okm40 _ _ _))
/-! loop.example/g00539/impl.CreditShare -/
def m25 (a0 : K_B) (a1 : K_si) : K_C :=
  (m1008300 a0 a1.f0 a1.f1)
theorem e25 {l0_2 : Nat} {l0_3 : Nat} {l0_4 : Nat} {a0 : K_B} {a1 : K_si} (hy0 : length a0.f2 * 24 ≤ 140737488351232) (hy1 : length a0.f3 * 56 ≤ 140737488351232) (hy2 : ∀ z ∈ a0.f3, ok_R z) (hy3 : length a0.f4 * 24 ≤ 140737488351232) : Ev F X (.call 25 [(.agg [(.val (.int .i64 a0.f0)), (.val (.int .i64 a0.f1)), (.bor l0_2 (map b_si a0.f2)), (.bor l0_3 (map b_R a0.f3)), (.bor l0_4 (map b_si a0.f4)), (.val (.int .i64 a0.f5)), (.val (.int .i64 a0.f6)), (.val (.int .i64 a0.f7))]), (.agg [(.val (.string a1.f0)), (.val (.int .i64 a1.f1))])] [] [] [(.agg [(.val (.int .i64 ((m1008300 a0 a1.f0 a1.f1).f0))), (.val (.int .i64 ((m1008300 a0 a1.f0 a1.f1).f1))), (.val (.int .i64 ((m1008300 a0 a1.f0 a1.f1).f2))), (.val (.int .i64 ((m1008300 a0 a1.f0 a1.f1).f3))), (.own 2 (map d_si ((m1008300 a0 a1.f0 a1.f1).f4))), (.own 5 (map d_R ((m1008300 a0 a1.f0 a1.f1).f5))), (.own 2 (map d_si ((m1008300 a0 a1.f0 a1.f1).f6))), (.val (.int .i64 ((m1008300 a0 a1.f0 a1.f1).f7))), (.val (.int .i64 ((m1008300 a0 a1.f0 a1.f1).f8))), (.val (.int .i64 ((m1008300 a0 a1.f0 a1.f1).f9)))])]) := by
  have f0 : fullL [(.val (.string a1.f0)), (.val (.int .i64 a1.f1))] = true := (by trivial)
  have f1 : Ev F X (.call 83 [(.agg [(.i a0.f0), (.i a0.f1), (.bor (l0_2 + 1) (map b_si a0.f2)), (.bor (l0_3 + 1) (map b_R a0.f3)), (.bor (l0_4 + 1) (map b_si a0.f4)), (.i a0.f5), (.i a0.f6), (.i a0.f7)]), (.clo 84 [] [(.bptr 0 [(.val (.string a1.f0)), (.i a1.f1)])])] [] [] [(.agg [(.i ((m1008300 a0 a1.f0 a1.f1).f0)), (.i ((m1008300 a0 a1.f0 a1.f1).f1)), (.i ((m1008300 a0 a1.f0 a1.f1).f2)), (.i ((m1008300 a0 a1.f0 a1.f1).f3)), (.own 2 (map d_si ((m1008300 a0 a1.f0 a1.f1).f4))), (.own 5 (map d_R ((m1008300 a0 a1.f0 a1.f1).f5))), (.own 2 (map d_si ((m1008300 a0 a1.f0 a1.f1).f6))), (.i ((m1008300 a0 a1.f0 a1.f1).f7)), (.i ((m1008300 a0 a1.f0 a1.f1).f8)), (.i ((m1008300 a0 a1.f0 a1.f1).f9))])]) := (e1008300 (a0 := a0) (a2001 := a1.f0) (a2002 := a1.f1) (by with_reducible assumption) (by with_reducible assumption) (by with_reducible assumption) (by with_reducible assumption))
  have f2 : 0 = 0 := rfl
  have f3 : (length (map d_si ((m1008300 a0 a1.f0 a1.f1).f4))) = (length (map d_si ((m1008300 a0 a1.f0 a1.f1).f4))) := rfl
  have f4 : 0 = 0 := rfl
  have f5 : (length (map d_R ((m1008300 a0 a1.f0 a1.f1).f5))) = (length (map d_R ((m1008300 a0 a1.f0 a1.f1).f5))) := rfl
  have f6 : 0 = 0 := rfl
  have f7 : (length (map d_si ((m1008300 a0 a1.f0 a1.f1).f6))) = (length (map d_si ((m1008300 a0 a1.f0 a1.f1).f6))) := rfl
  have f8 : pureR (map d_si ((m1008300 a0 a1.f0 a1.f1).f4)) = true := (by simp; done)
  have f9 : pureR (map d_R ((m1008300 a0 a1.f0 a1.f1).f5)) = true := (by simp; done)
  have f10 : pureR (map d_si ((m1008300 a0 a1.f0 a1.f1).f6)) = true := (by simp; done)
  exact callP_ok (ps := []) (os := []) (rs := [(.agg [(.i ((m1008300 a0 a1.f0 a1.f1).f0)), (.i ((m1008300 a0 a1.f0 a1.f1).f1)), (.i ((m1008300 a0 a1.f0 a1.f1).f2)), (.i ((m1008300 a0 a1.f0 a1.f1).f3)), (.own 2 (map d_si ((m1008300 a0 a1.f0 a1.f1).f4))), (.own 5 (map d_R ((m1008300 a0 a1.f0 a1.f1).f5))), (.own 2 (map d_si ((m1008300 a0 a1.f0 a1.f1).f6))), (.i ((m1008300 a0 a1.f0 a1.f1).f7)), (.i ((m1008300 a0 a1.f0 a1.f1).f8)), (.i ((m1008300 a0 a1.f0 a1.f1).f9))])]) (by kernel_rfl) (.f f0 (.r 11 [] [] f1 (.f f2 (.f f3 (.f f4 (.f f5 (.f f6 (.f f7 (.f f8 (.f f9 (.f f10 .nil)))))))))))
/-! loop.example/g00539/laws.eqLedgerResult -/
def m26 (a0 : K_C) (a1 : K_C) : Bool :=
  if (a0.f0 != a1.f0) = true then false else
  if (a0.f1 != a1.f1) = true then false else
    if (!(m18 (K_B.mk a0.f2 a0.f3 a0.f4 a0.f5 a0.f6 a0.f7 a0.f8 a0.f9) (K_B.mk a1.f2 a1.f3 a1.f4 a1.f5 a1.f6 a1.f7 a1.f8 a1.f9))) = true then false else
      true
theorem e26 {l0_4 : Nat} {l0_5 : Nat} {l0_6 : Nat} {a0 : K_C} {l1_4 : Nat} {l1_5 : Nat} {l1_6 : Nat} {a1 : K_C} (hy0 : length a0.f4 * 24 ≤ 140737488351232) (hy1 : length a0.f5 * 56 ≤ 140737488351232) (hy2 : ∀ z ∈ a0.f5, ok_R z) (hy3 : length a0.f6 * 24 ≤ 140737488351232) (hy4 : length a1.f4 * 24 ≤ 140737488351232) (hy5 : length a1.f5 * 56 ≤ 140737488351232) (hy6 : ∀ z ∈ a1.f5, ok_R z) (hy7 : length a1.f6 * 24 ≤ 140737488351232) : Ev F X (.call 26 [(.agg [(.val (.int .i64 a0.f0)), (.val (.int .i64 a0.f1)), (.val (.int .i64 a0.f2)), (.val (.int .i64 a0.f3)), (.bor l0_4 (map b_si a0.f4)), (.bor l0_5 (map b_R a0.f5)), (.bor l0_6 (map b_si a0.f6)), (.val (.int .i64 a0.f7)), (.val (.int .i64 a0.f8)), (.val (.int .i64 a0.f9))]), (.agg [(.val (.int .i64 a1.f0)), (.val (.int .i64 a1.f1)), (.val (.int .i64 a1.f2)), (.val (.int .i64 a1.f3)), (.bor l1_4 (map b_si a1.f4)), (.bor l1_5 (map b_R a1.f5)), (.bor l1_6 (map b_si a1.f6)), (.val (.int .i64 a1.f7)), (.val (.int .i64 a1.f8)), (.val (.int .i64 a1.f9))])] [] [] [(.one (.val (.bool (m26 a0 a1))))]) := by
  unfold m26
  by_cases h0 : (a0.f0 != a1.f0) = true
  · try simp only [if_pos h0]
    exact callP_ok (ps := []) (os := []) (rs := [(.one (.val (.bool false)))]) (by kernel_rfl) (.f h0 (.h 16 (.b true) .nil))
  · try simp only [if_neg h0]
    by_cases h1 : (a0.f1 != a1.f1) = true
    · try simp only [if_pos h1]
      exact callP_ok (ps := []) (os := []) (rs := [(.one (.val (.bool false)))]) (by kernel_rfl) (.f (nt h0) (.f h1 (.h 16 (.b false) (.h 27 (.b true) .nil))))
    · try simp only [if_neg h1]
      have f2 : Ev F X (.call 18 [(.agg [(.i a0.f2), (.i a0.f3), (.bor (l0_4 + 1) (map b_si a0.f4)), (.bor (l0_5 + 1) (map b_R a0.f5)), (.bor (l0_6 + 1) (map b_si a0.f6)), (.i a0.f7), (.i a0.f8), (.i a0.f9)]), (.agg [(.i a1.f2), (.i a1.f3), (.bor (l1_4 + 1) (map b_si a1.f4)), (.bor (l1_5 + 1) (map b_R a1.f5)), (.bor (l1_6 + 1) (map b_si a1.f6)), (.i a1.f7), (.i a1.f8), (.i a1.f9)])] [] [] [(.one (.val (.bool (m18 (K_B.mk a0.f2 a0.f3 a0.f4 a0.f5 a0.f6 a0.f7 a0.f8 a0.f9) (K_B.mk a1.f2 a1.f3 a1.f4 a1.f5 a1.f6 a1.f7 a1.f8 a1.f9)))))]) := (e18 (a0 := (K_B.mk a0.f2 a0.f3 a0.f4 a0.f5 a0.f6 a0.f7 a0.f8 a0.f9)) (a1 := (K_B.mk a1.f2 a1.f3 a1.f4 a1.f5 a1.f6 a1.f7 a1.f8 a1.f9)) (by with_reducible assumption) (by with_reducible assumption) (by with_reducible assumption) (by with_reducible assumption) (by with_reducible assumption) (by with_reducible assumption) (by with_reducible assumption) (by with_reducible assumption))
      by_cases h2 : (!(m18 (K_B.mk a0.f2 a0.f3 a0.f4 a0.f5 a0.f6 a0.f7 a0.f8 a0.f9) (K_B.mk a1.f2 a1.f3 a1.f4 a1.f5 a1.f6 a1.f7 a1.f8 a1.f9))) = true
      · try simp only [if_pos h2]
        exact callP_ok (ps := []) (os := []) (rs := [(.one (.val (.bool false)))]) (by kernel_rfl) (.f (nt h0) (.f (nt h1) (.h 16 (.b false) (.h 27 (.b false) (.r 37 [] [] f2 (.f h2 (.h 40 (.b true) .nil)))))))
      · try simp only [if_neg h2]
        exact callP_ok (ps := []) (os := []) (rs := [(.one (.val (.bool true)))]) (by kernel_rfl) (.f (nt h0) (.f (nt h1) (.h 16 (.b false) (.h 27 (.b false) (.r 37 [] [] f2 (.f (nt h2) (.h 40 (.b false) .nil)))))))
open Classical in
theorem eqd26 (a b : K_C) : m26 a b = decide (a = b) := by
  rw [Bool.eq_iff_iff, decide_eq_true_eq]
  constructor
  · intro h
    unfold m26 at h
    cases a; cases b
    (repeat' split at h) <;> simp_all [ba_eq, eqd18]
  · rintro rfl
    simp [m26, ba_eq, eqd18]
/-! loop 141_0 -/
inductive O141_0 where
  | k0 (w0 : Int) (w1 : ByteArray) (w2 : Bool)
def r141_0  : Nat → Int → ByteArray → O141_0
  | n + 1, v0, v1 =>
    if (decide (v0 > 0)) = true then (r141_0 n (IntKind.wrap .i64 (Int.tdiv v0 10)) ((bytesOf [(IntKind.wrap .u8 ((IntKind.wrap .i64 (48 + (Int.tmod v0 10)))))]) ++ v1)) else
    (O141_0.k0 v0 v1 (decide (v0 > 0)))
  | 0, v0, v1 => (O141_0.k0 v0 v1 (decide (v0 > 0)))
def h141_0 (a0 : Int) (v0 : Int) (v1 : ByteArray) : St := ⟨[(0, (.one (.val (.int .i64 v0)))), (3, (.one (.val (.string v1))))], []⟩
def ex141_0 : O141_0 → VX.Exit
  | .k0 _ _ _ => (.exit 0)
def fin141_0 (a0 : Int) : O141_0 → St
  | .k0 w0 w1 w2 => ⟨[(0, (.one (.val (.int .i64 w0)))), (3, (.one (.val (.string w1)))), (7, (.one (.val (.bool w2))))], []⟩
theorem t141_0 {a0 : Int}  : ∀ (n : Nat) (v0 : Int) (v1 : ByteArray), ByteArray.size v1 + pot64 v0 ≤ 100 → fuel64 v0 ≤ n → Ev F X (.code l141_0 (h141_0 a0 v0 v1) (ex141_0 (r141_0 n v0 v1)) (fin141_0 a0 (r141_0 n v0 v1)))
  | 0, v0, v1, hi0, hn => by
    have hc : ¬ (decide (v0 > 0)) = true := by first | (exact fuel64_zero hn) | (simp only [decide_eq_true_eq] at *; omega) | (simp at *; omega)
    have st := codeP_ok (F := F) (X := X) (c := b141_0) (t := 0) (σ := h141_0 a0 v0 v1) (σ' := ⟨[(0, (.oi v0)), (3, (.one (.val (.string v1)))), (7, (.one (.val (.bool (decide (v0 > 0))))))], []⟩) (e := (.exit 0)) (t' := 5) (by kernel_rfl) (.f (nt hc) (.h 4 (.b false) .nil))
    rw [show (⟨[(0, (.oi v0)), (3, (.one (.val (.string v1)))), (7, (.one (.val (.bool (decide (v0 > 0))))))], []⟩ : St) = fin141_0 a0 (.k0 v0 v1 (decide (v0 > 0))) from (by rfl)] at st
    exact .loopX st (show ((.exit 0) : VX.Exit) ≠ .normal from by simp)
  | n + 1, v0, v1, hi0, hn => by
    simp only [r141_0]
    by_cases h_0 : (decide (v0 > 0)) = true
    · try simp only [if_pos h_0]
      have f1 : (10 : Int) ≠ 0 := (by omega)
      have f3 : 1 ≤ 1 := (by omega)
      have f4 : rowsInts .u8 [[(.val (.int .u8 (IntKind.wrap .u8 ((IntKind.wrap .i64 (48 + (Int.tmod v0 10)))))))]] = some [(IntKind.wrap .u8 ((IntKind.wrap .i64 (48 + (Int.tmod v0 10)))))] := (by trivial)
      have f5 : ByteArray.size (bytesOf [(IntKind.wrap .u8 ((IntKind.wrap .i64 (48 + (Int.tmod v0 10)))))]) + ByteArray.size v1 ≤ 9223372036854775807 := (by simp only [bytesOf_size, length_cons, length_nil]; omega)
      have f6 : (10 : Int) ≠ 0 := (by with_reducible assumption)
      have st := codeP_ok (F := F) (X := X) (c := b141_0) (t := 0) (σ := h141_0 a0 v0 v1) (σ' := ⟨[(0, (.oi (IntKind.wrap .i64 (Int.tdiv v0 10)))), (3, (.one (.val (.string ((bytesOf [(IntKind.wrap .u8 ((IntKind.wrap .i64 (48 + (Int.tmod v0 10)))))]) ++ v1)))))], []⟩) (e := .normal) (t' := 29) (by kernel_rfl) (.f h_0 (.f f1 (.f trivial (.f f3 (.f f4 (.f f5 (.f f6 (.h 4 (.b true) (.h 16 (.ints [(IntKind.wrap .u8 ((IntKind.wrap .i64 (48 + (Int.tmod v0 10)))))]) .nil)))))))))
      have ih := t141_0 (a0 := a0)  n (IntKind.wrap .i64 (Int.tdiv v0 10)) ((bytesOf [(IntKind.wrap .u8 ((IntKind.wrap .i64 (48 + (Int.tmod v0 10)))))]) ++ v1) (by have q := pot64_tdiv (x := v0) (by assumption); simp only [ByteArray.size_append, bytesOf_size, length_cons, length_nil]; omega) (by exact fuel64_tdiv (by assumption) hn)
      rw [show (⟨[(0, (.oi (IntKind.wrap .i64 (Int.tdiv v0 10)))), (3, (.one (.val (.string ((bytesOf [(IntKind.wrap .u8 ((IntKind.wrap .i64 (48 + (Int.tmod v0 10)))))]) ++ v1)))))], []⟩ : St) = h141_0 a0 (IntKind.wrap .i64 (Int.tdiv v0 10)) ((bytesOf [(IntKind.wrap .u8 ((IntKind.wrap .i64 (48 + (Int.tmod v0 10)))))]) ++ v1) from (by rfl)] at st
      exact .loopN st ih
    · try simp only [if_neg h_0]
      have st := codeP_ok (F := F) (X := X) (c := b141_0) (t := 0) (σ := h141_0 a0 v0 v1) (σ' := ⟨[(0, (.oi v0)), (3, (.one (.val (.string v1)))), (7, (.one (.val (.bool (decide (v0 > 0))))))], []⟩) (e := (.exit 0)) (t' := 5) (by kernel_rfl) (.f (nt h_0) (.h 4 (.b false) .nil))
      rw [show (⟨[(0, (.oi v0)), (3, (.one (.val (.string v1)))), (7, (.one (.val (.bool (decide (v0 > 0))))))], []⟩ : St) = fin141_0 a0 (.k0 v0 v1 (decide (v0 > 0))) from (by rfl)] at st
      exact .loopX st (show ((.exit 0) : VX.Exit) ≠ .normal from by simp)
/-! loop 141_0, behind -/
def post141_0 (a0 : Int) : O141_0 → Prop
  | .k0 _ w1 _ => ByteArray.size w1 ≤ 100
theorem z141_0 {a0 : Int}  : ∀ (n : Nat) (v0 : Int) (v1 : ByteArray), ByteArray.size v1 + pot64 v0 ≤ 100 → post141_0 a0 (r141_0 n v0 v1)
  | 0, v0, v1, hi0 => by
    simp only [r141_0]
    first | trivial | (show _ ; simp only [post141_0]; omega) | (simp only [post141_0] at *; omega) | (have q := pot64_tdiv (x := v0) (by assumption); simp only [ByteArray.size_append, bytesOf_size, length_cons, length_nil]; omega) | (simp only [decide_eq_true_eq] at *; omega)
  | n + 1, v0, v1, hi0 => by
    simp only [r141_0]
    by_cases h_0 : (decide (v0 > 0)) = true
    · try simp only [if_pos h_0]
      exact z141_0 (a0 := a0) n (IntKind.wrap .i64 (Int.tdiv v0 10)) ((bytesOf [(IntKind.wrap .u8 ((IntKind.wrap .i64 (48 + (Int.tmod v0 10)))))]) ++ v1) (by have q := pot64_tdiv (x := v0) (by assumption); simp only [ByteArray.size_append, bytesOf_size, length_cons, length_nil]; omega)
    · try simp only [if_neg h_0]
      first | trivial | (show _ ; simp only [post141_0]; omega) | (simp only [post141_0] at *; omega) | (have q := pot64_tdiv (x := v0) (by assumption); simp only [ByteArray.size_append, bytesOf_size, length_cons, length_nil]; omega) | (simp only [decide_eq_true_eq] at *; omega)
/-! loop.example/g00539/laws.markText -/
def m141 (a0 : Int) : ByteArray :=
  if (decide (a0 ≤ 0)) = true then (⟨#[109, 48]⟩ : ByteArray) else
  (match r141_0 (fuel64 a0) a0 (⟨#[]⟩ : ByteArray) with | .k0 w0_1 w1_1 w2_1 => ((⟨#[109]⟩ : ByteArray) ++ w1_1))
theorem e141 {a0 : Int} : Ev F X (.call 141 [(.one (.val (.int .i64 a0)))] [] [] [(.one (.val (.string (m141 a0))))]) := by
  unfold m141
  by_cases h0 : (decide (a0 ≤ 0)) = true
  · try simp only [if_pos h0]
    exact callP_ok (ps := []) (os := []) (rs := [(.one (.val (.string (⟨#[109, 48]⟩ : ByteArray))))]) (by kernel_rfl) (.f h0 (.h 6 (.b true) .nil))
  · try simp only [if_neg h0]
    cases h1 : r141_0 (fuel64 a0) a0 (⟨#[]⟩ : ByteArray) with
    | k0 w0_1 w1_1 w2_1 =>
      try dsimp only
      have zh1 := z141_0 (a0 := a0) (fuel64 a0) a0 (⟨#[]⟩ : ByteArray) (by have q := pot64_le a0; show 0 + pot64 a0 ≤ 100; omega); rw [h1] at zh1; simp only [post141_0] at zh1
      have f1 : (⟨[(0, (.oi a0)), (3, (.one (.val (.string (⟨#[]⟩ : ByteArray)))))], []⟩ : St) = h141_0 a0 a0 (⟨#[]⟩ : ByteArray) := (by rfl)
      have f2 : Ev F X (.code l141_0 (h141_0 a0 a0 (⟨#[]⟩ : ByteArray)) (.exit 0) ⟨[(0, (.oi w0_1)), (3, (.one (.val (.string w1_1)))), (7, (.one (.val (.bool w2_1))))], []⟩) := (by have t : Ev F X (.code l141_0 (h141_0 a0 a0 (⟨#[]⟩ : ByteArray)) (ex141_0 (r141_0 (fuel64 a0) a0 (⟨#[]⟩ : ByteArray))) (fin141_0 a0 (r141_0 (fuel64 a0) a0 (⟨#[]⟩ : ByteArray)))) := t141_0 (a0 := a0)  (fuel64 a0) a0 (⟨#[]⟩ : ByteArray)  (by have q := pot64_le a0; show 0 + pot64 a0 ≤ 100; omega) (Nat.le_refl _); rw [h1] at t; exact t)
      have f3 : ByteArray.size (⟨#[109]⟩ : ByteArray) + ByteArray.size w1_1 ≤ 9223372036854775807 := (by show 1 + _ ≤ _; omega)
      exact callP_ok (ps := []) (os := []) (rs := [(.one (.val (.string ((⟨#[109]⟩ : ByteArray) ++ w1_1))))]) (by kernel_rfl) (.f (nt h0) (.f f1 (.f f2 (.f f3 (.h 6 (.b false) (.h 9 (.loop (h141_0 a0 a0 (⟨#[]⟩ : ByteArray)) (.exit 0) ⟨[(0, (.oi w0_1)), (3, (.one (.val (.string w1_1)))), (7, (.one (.val (.bool w2_1))))], []⟩) .nil))))))
/-! loop 85_0 -/
inductive O85_0 where
  | k0 (w0 : List K_si) (w1 : Int) (w2 : Int) (w3 : Bool)
def r85_0 (a0 : (List K_si)) : List K_si → Int → List K_si → Int → O85_0
  | x0 :: y0, i, v0, v1 =>
    (r85_0 a0 y0 (i + 1) (set v0 (Int.toNat i) (K_si.mk (m141 v1) (IntKind.wrap .i64 (v1 + 1)))) (IntKind.wrap .i64 ((IntKind.wrap .i64 (v1 + 1)) + 1)))
  | [], i, v0, v1 => (O85_0.k0 v0 v1 i (decide (i < ((length (map d_si a0)) : Int))))
def h85_0 (a0 : (List K_si)) (a1 : Int) (i : Int) (v0 : List K_si) (v1 : Int) : St := ⟨[(0, (.one (.ref ⟨(0, 0, 0), [], 0, (length (map d_si a0))⟩))), (1, (.one (.val (.int .i64 v1)))), (5, (.one (.val (.int .i64 i))))], [((0, 0, 0), .live ⟨2, (map d_si v0), []⟩)]⟩
def ex85_0 : O85_0 → VX.Exit
  | .k0 _ _ _ _ => (.exit 0)
def fin85_0 (a0 : (List K_si)) (a1 : Int) : O85_0 → St
  | .k0 w0 w1 w2 w3 => ⟨[(0, (.one (.ref ⟨(0, 0, 0), [], 0, (length (map d_si a0))⟩))), (1, (.one (.val (.int .i64 w1)))), (5, (.one (.val (.int .i64 w2)))), (9, (.one (.val (.bool w3))))], [((0, 0, 0), .live ⟨2, (map d_si w0), []⟩)]⟩
theorem t85_0 {a0 : (List K_si)} {a1 : Int} (hy0 : length a0 * 24 ≤ 140737488351232) : ∀ (y0 : List K_si) (p : List K_si) (v0 : List K_si) (v1 : Int), p ++ y0 = a0 → length v0 = (length (map d_si a0)) → drop (length p) v0 = y0 → Ev F X (.code l85_0 (h85_0 a0 a1 (length p : Int) v0 v1) (ex85_0 (r85_0 a0 y0 (length p : Int) v0 v1)) (fin85_0 a0 a1 (r85_0 a0 y0 (length p : Int) v0 v1)))
  | [], p, v0, v1, hp0, hi0, hi1 => by
    have hc : ¬ (decide ((length p : Int) < ((length (map d_si a0)) : Int))) = true := by
      rw [← hp0]; simp only [length_map, length_set, length_append, length_replicate, length_cons, length_nil, decide_eq_true_eq]; omega
    have hj0 := hi0; try simp only [length_map, length_set, length_append, length_replicate, length_cons, length_nil, Int.toNat_natCast] at hj0
    have hj1 := hi1; try simp only [length_map, length_set, length_append, length_replicate, length_cons, length_nil, Int.toNat_natCast] at hj1
    have st := codeH_ok (F := F) (X := X) (c := b85_0) (t := 0) (hs := [(8, .b false)]) (σ := h85_0 a0 a1 (length p : Int) v0 v1) (σ' := fin85_0 a0 a1 (.k0 v0 v1 (length p : Int) (decide ((length p : Int) < ((length (map d_si a0)) : Int))))) (e := (.exit 0)) (t' := 9) (hs' := []) (q := [(decide ((length p : Int) < ((length (map d_si a0)) : Int))) = false]) (by kernel_rfl) ⟨(nt hc), trivial⟩
    exact .loopX st (show ((.exit 0) : VX.Exit) ≠ .normal from by simp)
  | x0 :: y0, p, v0, v1, hp0, hi0, hi1 => by
    have hc : (decide ((length p : Int) < ((length (map d_si a0)) : Int))) = true := by
      rw [← hp0]; simp only [length_map, length_set, length_append, length_replicate, length_cons, length_nil, decide_eq_true_eq]; omega
    have Hx0 : (a0)[Int.toNat (length p : Int)]? = some x0 := by
      rw [← hp0, Int.toNat_natCast]; simp
    have hlen : length (a0) = length p + length y0 + 1 := by rw [← hp0]; simp; omega
    have hw : IntKind.wrap .i64 ((length p : Int) + 1) = (length p : Int) + 1 := wrap64 (by omega)
    have hj0 := hi0; try simp only [length_map, length_set, length_append, length_replicate, length_cons, length_nil, Int.toNat_natCast] at hj0
    have hj1 := hi1; try simp only [length_map, length_set, length_append, length_replicate, length_cons, length_nil, Int.toNat_natCast] at hj1
    have Hv0 : v0[Int.toNat (length p : Int)]? = some x0 := by rw [Int.toNat_natCast]; exact drop_at hi1
    simp only [r85_0]
    have st := codeH_ok (F := F) (X := X) (c := b85_0) (t := 0) (hs := [(8, .b true), (16, .ret [] [(.one (.val (.string (m141 v1))))] [] []), (22, .rowD [(.val (.string x0.f0)), (.i x0.f1)]), (23, .norm (0, 0, 0) (map d_si (set v0 (Int.toNat (length p : Int)) (K_si.mk (m141 v1) x0.f1)))), (41, .rowD [(.val (.string (m141 v1))), (.i x0.f1)]), (42, .norm (0, 0, 0) (map d_si (set v0 (Int.toNat (length p : Int)) (K_si.mk (m141 v1) (IntKind.wrap .i64 (v1 + 1))))))]) (σ := h85_0 a0 a1 (length p : Int) v0 v1) (σ' := ⟨[(0, (.one (.ref ⟨(0, 0, 0), [], 0, (length (map d_si a0))⟩))), (1, (.oi (IntKind.wrap .i64 ((IntKind.wrap .i64 (v1 + 1)) + 1)))), (5, (.oi (IntKind.wrap .i64 ((length p : Int) + 1))))], [((0, 0, 0), .live ⟨2, (map d_si (set v0 (Int.toNat (length p : Int)) (K_si.mk (m141 v1) (IntKind.wrap .i64 (v1 + 1))))), []⟩)]⟩) (e := .normal) (t' := 55) (hs' := []) (q := [(decide ((length p : Int) < ((length (map d_si a0)) : Int))) = true, Ev F X (.call 141 [(.oi v1)] [] [] [(.one (.val (.string (m141 v1))))]), 0 + (length (map d_si a0)) ≤ (length (map d_si v0)), 0 ≤ (length p : Int) ∧ (length p : Int) < ((length (map d_si a0)) : Int), (map d_si v0)[(0 + (Int.toNat (length p : Int)))]? = some [(.val (.string x0.f0)), (.i x0.f1)], (set (map d_si v0) (0 + (Int.toNat (length p : Int))) [(.val (.string (m141 v1))), (.i x0.f1)]) = (map d_si (set v0 (Int.toNat (length p : Int)) (K_si.mk (m141 v1) x0.f1))), True, 0 + (length (map d_si a0)) ≤ (length (map d_si (set v0 (Int.toNat (length p : Int)) (K_si.mk (m141 v1) x0.f1)))), 0 ≤ (length p : Int) ∧ (length p : Int) < ((length (map d_si a0)) : Int), (map d_si (set v0 (Int.toNat (length p : Int)) (K_si.mk (m141 v1) x0.f1)))[(0 + (Int.toNat (length p : Int)))]? = some [(.val (.string (m141 v1))), (.i x0.f1)], (set (map d_si (set v0 (Int.toNat (length p : Int)) (K_si.mk (m141 v1) x0.f1))) (0 + (Int.toNat (length p : Int))) [(.val (.string (m141 v1))), (.i (IntKind.wrap .i64 (v1 + 1)))]) = (map d_si (set v0 (Int.toNat (length p : Int)) (K_si.mk (m141 v1) (IntKind.wrap .i64 (v1 + 1))))), True, True]) (by kernel_rfl) ⟨hc, (e141 (a0 := v1)), (by simp only [length_map]; omega), (by omega), (by rw [Nat.zero_add, getElem?_map, Hv0]; rfl), (by simp [byteRows_eq, ints_y, take_of_length_le, d_si, d_R, d_B, d_b, d_i, d_C, d_LsiE, d_iLsiE, d_Q, d_s, d_y, fromBR_si, fromBR_b, fromBR_i, fromBR_s, fromBR_y]; done), trivial, (by unfold m141; (repeat' split) <;> simp_all <;> omega), (by omega), (by rw [Nat.zero_add, map_set, List.getElem?_set_self (by simp only [length_map]; omega)]; rfl), (by simp [byteRows_eq, ints_y, take_of_length_le, d_si, d_R, d_B, d_b, d_i, d_C, d_LsiE, d_iLsiE, d_Q, d_s, d_y, fromBR_si, fromBR_b, fromBR_i, fromBR_s, fromBR_y]; done), trivial, trivial, trivial⟩
    have ih := t85_0 (a0 := a0) (a1 := a1) hy0 y0 (p ++ [x0]) (set v0 (Int.toNat (length p : Int)) (K_si.mk (m141 v1) (IntKind.wrap .i64 (v1 + 1)))) (IntKind.wrap .i64 ((IntKind.wrap .i64 (v1 + 1)) + 1)) (by rw [append_assoc]; exact hp0) (by simp only [length_map, length_set, length_append, length_replicate, length_cons, length_nil]; omega) (by simp only [length_map, length_set, length_append, length_replicate, length_cons, length_nil, Int.toNat_natCast]; first | exact drop_set_next hi1 _ | exact drop_next hi1)
    rw [show ((p ++ [x0]).length : Int) = (p.length : Int) + 1 from by simp] at ih
    rw [show (⟨[(0, (.one (.ref ⟨(0, 0, 0), [], 0, (length (map d_si a0))⟩))), (1, (.oi (IntKind.wrap .i64 ((IntKind.wrap .i64 (v1 + 1)) + 1)))), (5, (.oi (IntKind.wrap .i64 ((length p : Int) + 1))))], [((0, 0, 0), .live ⟨2, (map d_si (set v0 (Int.toNat (length p : Int)) (K_si.mk (m141 v1) (IntKind.wrap .i64 (v1 + 1))))), []⟩)]⟩ : St) = h85_0 a0 a1 ((length p : Int) + 1) (set v0 (Int.toNat (length p : Int)) (K_si.mk (m141 v1) (IntKind.wrap .i64 (v1 + 1)))) (IntKind.wrap .i64 ((IntKind.wrap .i64 (v1 + 1)) + 1)) from (by unfold h85_0; simp only [hw]; done)] at st
    exact .loopN st ih
def post85_0 (n0 : Nat) : O85_0 → Prop
  | .k0 w0 _ _ _ => length w0 = n0
theorem z85_0 {a0 : (List K_si)} : ∀ (y0 : List K_si) (i : Int) (v0 : List K_si) (v1 : Int), post85_0 (length v0) (r85_0 a0 y0 i v0 v1)
  | [], i, v0, v1 => by
    first | trivial | (simp only [post85_0, length_nil, Nat.add_zero]; done) | (simp [post85_0]; done)
  | x0 :: y0, i, v0, v1 => by
    simp only [r85_0]
    have z := z85_0 (a0 := a0) y0 (i + 1) (set v0 (Int.toNat i) (K_si.mk (m141 v1) (IntKind.wrap .i64 (v1 + 1)))) (IntKind.wrap .i64 ((IntKind.wrap .i64 (v1 + 1)) + 1))
    rw [show (length v0) = (length (set v0 (Int.toNat i) (K_si.mk (m141 v1) (IntKind.wrap .i64 (v1 + 1))))) from by first | omega | (simp only [length_map, length_set, length_append, length_replicate, length_cons, length_nil]; done) | (simp only [length_map, length_set, length_append, length_replicate, length_cons, length_nil]; omega)]
    exact z
/-! loop.example/g00539/laws.markWeightS -/
def o85_0 (a0 : (List K_si)) (a1 : Int) : List K_si :=
  (match r85_0 a0 a0 0 a0 a1 with | .k0 w0_0 w1_0 w2_0 w3_0 => w0_0)
def m85 (a0 : (List K_si)) (a1 : Int) : Int :=
  (match r85_0 a0 a0 0 a0 a1 with | .k0 w0_0 w1_0 w2_0 w3_0 => w1_0)
theorem e85 {a0 : (List K_si)} {a1 : Int} (hy0 : length a0 * 24 ≤ 140737488351232) : Ev F X (.call 85 [(.one (.ref ⟨(0, 0, 0), [], 0, (length (map d_si a0))⟩)), (.one (.val (.int .i64 a1)))] [((0, 0, 0), ⟨2, (map d_si a0), []⟩)] [(map d_si (o85_0 a0 a1))] [(.one (.val (.int .i64 (m85 a0 a1))))]) := by
  unfold m85 o85_0
  cases h0 : r85_0 a0 a0 0 a0 a1 with
  | k0 w0_0 w1_0 w2_0 w3_0 =>
    try dsimp only
    have zh0 := z85_0 (a0 := a0) a0 0 a0 a1; rw [h0] at zh0; simp only [post85_0, length_map, length_set, length_append, length_replicate, length_cons, length_nil, Int.toNat_natCast] at zh0
    have f0 : (⟨[(0, (.one (.ref ⟨(0, 0, 0), [], 0, (length (map d_si a0))⟩))), (1, (.oi a1)), (5, (.oi 0))], [((0, 0, 0), .live ⟨2, (map d_si a0), []⟩)]⟩ : St) = h85_0 a0 a1 0 a0 a1 := (by rfl)
    have f1 : Ev F X (.code l85_0 (h85_0 a0 a1 0 a0 a1) (.exit 0) ⟨[(0, (.one (.ref ⟨(0, 0, 0), [], 0, (length (map d_si a0))⟩))), (1, (.oi w1_0)), (5, (.oi w2_0)), (9, (.one (.val (.bool w3_0))))], [((0, 0, 0), .live ⟨2, (map d_si w0_0), []⟩)]⟩) := (by have t : Ev F X (.code l85_0 (h85_0 a0 a1 0 a0 a1) (ex85_0 (r85_0 a0 a0 0 a0 a1)) (fin85_0 a0 a1 (r85_0 a0 a0 0 a0 a1))) := t85_0 (a0 := a0) (a1 := a1) (by assumption) a0 [] a0 a1 rfl (by simp only [length_map, length_set, length_append, length_replicate, length_cons, length_nil]; done) (by rfl); rw [h0] at t; exact t)
    have f2 : pureR (map d_si w0_0) = true := (pureR_si _)
    exact callP_ok (ps := [true]) (os := [(map d_si w0_0)]) (rs := [(.oi w1_0)]) (by kernel_rfl) (.f f0 (.f f1 (.f f2 (.h 4 (.loop (h85_0 a0 a1 0 a0 a1) (.exit 0) ⟨[(0, (.one (.ref ⟨(0, 0, 0), [], 0, (length (map d_si a0))⟩))), (1, (.oi w1_0)), (5, (.oi w2_0)), (9, (.one (.val (.bool w3_0))))], [((0, 0, 0), .live ⟨2, (map d_si w0_0), []⟩)]⟩) .nil))))
theorem ow85_0 (a0 : List K_si) : ∀ (l p : List K_si) (v1 : Int), ∃ (q : List K_si) (w1 : _) (w2 : _) (w3 : _), r85_0 a0 l (p.length : Int) (p ++ l) v1 = .k0 (p ++ q) w1 w2 w3 ∧ q.length = l.length
  | [], p, v1 => ⟨[], v1, (p.length : Int), (decide ((p.length : Int) < ((length (map d_si a0)) : Int))), rfl, rfl⟩
  | x0 :: l, p, v1 => by
    obtain ⟨q, w1, w2, w3, e1, e2⟩ := ow85_0 a0 l (p ++ [(K_si.mk (m141 v1) (IntKind.wrap .i64 (v1 + 1)))]) (IntKind.wrap .i64 ((IntKind.wrap .i64 (v1 + 1)) + 1))
    refine ⟨(K_si.mk (m141 v1) (IntKind.wrap .i64 (v1 + 1))) :: q, w1, w2, w3, ?_, by simp [e2]⟩
    · have e : set (p ++ x0 :: l) (Int.toNat (p.length : Int)) (K_si.mk (m141 v1) (IntKind.wrap .i64 (v1 + 1))) = (p ++ [(K_si.mk (m141 v1) (IntKind.wrap .i64 (v1 + 1)))]) ++ l := by simp
      have e0 : ((p ++ [(K_si.mk (m141 v1) (IntKind.wrap .i64 (v1 + 1)))]).length : Int) = (p.length : Int) + 1 := by simp
      rw [e0] at e1
      simp only [r85_0]
      first | (rw [e, e1]; simp; done) | (simp only [e, e1]; simp; done)

theorem ol85 (a : List K_si) (k : Int) : (o85_0 a k).length = a.length := by
  obtain ⟨q, w1, w2, w3, e1, e2⟩ := ow85_0 a a [] k
  simp only [List.nil_append, length_nil] at e1
  rw [show ((0 : Nat) : Int) = 0 from rfl] at e1
  unfold o85_0
  rw [e1]; exact e2
/-! loop 86_0 -/
inductive O86_0 where
  | k0 (w0 : List K_R) (w1 : Int) (w2 : Int) (w3 : Bool)
def r86_0 (a0 : (List K_R)) : List K_R → Int → List K_R → Int → O86_0
  | x0 :: y0, i, v0, v1 =>
    (r86_0 a0 y0 (i + 1) (set v0 (Int.toNat i) (K_R.mk v1 (IntKind.wrap .i64 (v1 + 1)) (IntKind.wrap .i64 ((IntKind.wrap .i64 (v1 + 1)) + 1)) (o85_0 x0.f3 (IntKind.wrap .i64 ((IntKind.wrap .i64 ((IntKind.wrap .i64 (v1 + 1)) + 1)) + 1))) (m85 x0.f3 (IntKind.wrap .i64 ((IntKind.wrap .i64 ((IntKind.wrap .i64 (v1 + 1)) + 1)) + 1))))) (IntKind.wrap .i64 ((m85 x0.f3 (IntKind.wrap .i64 ((IntKind.wrap .i64 ((IntKind.wrap .i64 (v1 + 1)) + 1)) + 1))) + 1)))
  | [], i, v0, v1 => (O86_0.k0 v0 v1 i (decide (i < ((length (map d_R a0)) : Int))))
def h86_0 (a0 : (List K_R)) (a1 : Int) (i : Int) (v0 : List K_R) (v1 : Int) : St := ⟨[(0, (.one (.ref ⟨(0, 0, 0), [], 0, (length (map d_R a0))⟩))), (1, (.one (.val (.int .i64 v1)))), (5, (.one (.val (.int .i64 i))))], [((0, 0, 0), .live ⟨5, (map d_R v0), []⟩)]⟩
def ex86_0 : O86_0 → VX.Exit
  | .k0 _ _ _ _ => (.exit 0)
def fin86_0 (a0 : (List K_R)) (a1 : Int) : O86_0 → St
  | .k0 w0 w1 w2 w3 => ⟨[(0, (.one (.ref ⟨(0, 0, 0), [], 0, (length (map d_R a0))⟩))), (1, (.one (.val (.int .i64 w1)))), (5, (.one (.val (.int .i64 w2)))), (9, (.one (.val (.bool w3))))], [((0, 0, 0), .live ⟨5, (map d_R w0), []⟩)]⟩
theorem t86_0 {a0 : (List K_R)} {a1 : Int} (hy0 : length a0 * 56 ≤ 140737488351232) (hy1 : ∀ z ∈ a0, ok_R z) : ∀ (y0 : List K_R) (p : List K_R) (v0 : List K_R) (v1 : Int), p ++ y0 = a0 → length v0 = (length (map d_R a0)) → drop (length p) v0 = y0 → Ev F X (.code l86_0 (h86_0 a0 a1 (length p : Int) v0 v1) (ex86_0 (r86_0 a0 y0 (length p : Int) v0 v1)) (fin86_0 a0 a1 (r86_0 a0 y0 (length p : Int) v0 v1)))
  | [], p, v0, v1, hp0, hi0, hi1 => by
    have hc : ¬ (decide ((length p : Int) < ((length (map d_R a0)) : Int))) = true := by
      rw [← hp0]; simp only [length_map, length_set, length_append, length_replicate, length_cons, length_nil, decide_eq_true_eq]; omega
    have hj0 := hi0; try simp only [length_map, length_set, length_append, length_replicate, length_cons, length_nil, Int.toNat_natCast] at hj0
    have hj1 := hi1; try simp only [length_map, length_set, length_append, length_replicate, length_cons, length_nil, Int.toNat_natCast] at hj1
    have st := codeH_ok (F := F) (X := X) (c := b86_0) (t := 0) (hs := [(8, .b false)]) (σ := h86_0 a0 a1 (length p : Int) v0 v1) (σ' := fin86_0 a0 a1 (.k0 v0 v1 (length p : Int) (decide ((length p : Int) < ((length (map d_R a0)) : Int))))) (e := (.exit 0)) (t' := 9) (hs' := []) (q := [(decide ((length p : Int) < ((length (map d_R a0)) : Int))) = false]) (by kernel_rfl) ⟨(nt hc), trivial⟩
    exact .loopX st (show ((.exit 0) : VX.Exit) ≠ .normal from by simp)
  | x0 :: y0, p, v0, v1, hp0, hi0, hi1 => by
    have hc : (decide ((length p : Int) < ((length (map d_R a0)) : Int))) = true := by
      rw [← hp0]; simp only [length_map, length_set, length_append, length_replicate, length_cons, length_nil, decide_eq_true_eq]; omega
    have Hx0 : (a0)[Int.toNat (length p : Int)]? = some x0 := by
      rw [← hp0, Int.toNat_natCast]; simp
    have Mx0_0 := hy1 x0 (List.mem_of_getElem? Hx0)
    have hlen : length (a0) = length p + length y0 + 1 := by rw [← hp0]; simp; omega
    have hw : IntKind.wrap .i64 ((length p : Int) + 1) = (length p : Int) + 1 := wrap64 (by omega)
    have hj0 := hi0; try simp only [length_map, length_set, length_append, length_replicate, length_cons, length_nil, Int.toNat_natCast] at hj0
    have hj1 := hi1; try simp only [length_map, length_set, length_append, length_replicate, length_cons, length_nil, Int.toNat_natCast] at hj1
    have Hv0 : v0[Int.toNat (length p : Int)]? = some x0 := by rw [Int.toNat_natCast]; exact drop_at hi1
    simp only [r86_0]
    have st := codeH_ok (F := F) (X := X) (c := b86_0) (t := 0) (hs := [(8, .b true), (20, .rowD [(.i x0.f0), (.i x0.f1), (.i x0.f2), (.own 2 (map d_si x0.f3)), (.i x0.f4)]), (21, .norm (0, 0, 0) (map d_R (set v0 (Int.toNat (length p : Int)) (K_R.mk v1 x0.f1 x0.f2 x0.f3 x0.f4)))), (39, .rowD [(.i v1), (.i x0.f1), (.i x0.f2), (.own 2 (map d_si x0.f3)), (.i x0.f4)]), (40, .norm (0, 0, 0) (map d_R (set v0 (Int.toNat (length p : Int)) (K_R.mk v1 (IntKind.wrap .i64 (v1 + 1)) x0.f2 x0.f3 x0.f4)))), (58, .rowD [(.i v1), (.i (IntKind.wrap .i64 (v1 + 1))), (.i x0.f2), (.own 2 (map d_si x0.f3)), (.i x0.f4)]), (59, .norm (0, 0, 0) (map d_R (set v0 (Int.toNat (length p : Int)) (K_R.mk v1 (IntKind.wrap .i64 (v1 + 1)) (IntKind.wrap .i64 ((IntKind.wrap .i64 (v1 + 1)) + 1)) x0.f3 x0.f4)))), (75, .rowD [(.i v1), (.i (IntKind.wrap .i64 (v1 + 1))), (.i (IntKind.wrap .i64 ((IntKind.wrap .i64 (v1 + 1)) + 1))), (.own 2 (map d_si x0.f3)), (.i x0.f4)]), (79, .nav [((0, 0, 0), [3], 2, (map d_si x0.f3))] [[([((0 + (Int.toNat (length p : Int))), 3)], true)]] (.ret [(map d_si (o85_0 x0.f3 (IntKind.wrap .i64 ((IntKind.wrap .i64 ((IntKind.wrap .i64 (v1 + 1)) + 1)) + 1))))] [(.oi (m85 x0.f3 (IntKind.wrap .i64 ((IntKind.wrap .i64 ((IntKind.wrap .i64 (v1 + 1)) + 1)) + 1))))] [true] [])), (82, .norm (0, 0, 0) (map d_R (set v0 (Int.toNat (length p : Int)) (K_R.mk v1 (IntKind.wrap .i64 (v1 + 1)) (IntKind.wrap .i64 ((IntKind.wrap .i64 (v1 + 1)) + 1)) (o85_0 x0.f3 (IntKind.wrap .i64 ((IntKind.wrap .i64 ((IntKind.wrap .i64 (v1 + 1)) + 1)) + 1))) x0.f4)))), (94, .rowD [(.i v1), (.i (IntKind.wrap .i64 (v1 + 1))), (.i (IntKind.wrap .i64 ((IntKind.wrap .i64 (v1 + 1)) + 1))), (.own 2 (map d_si (o85_0 x0.f3 (IntKind.wrap .i64 ((IntKind.wrap .i64 ((IntKind.wrap .i64 (v1 + 1)) + 1)) + 1))))), (.i x0.f4)]), (95, .norm (0, 0, 0) (map d_R (set v0 (Int.toNat (length p : Int)) (K_R.mk v1 (IntKind.wrap .i64 (v1 + 1)) (IntKind.wrap .i64 ((IntKind.wrap .i64 (v1 + 1)) + 1)) (o85_0 x0.f3 (IntKind.wrap .i64 ((IntKind.wrap .i64 ((IntKind.wrap .i64 (v1 + 1)) + 1)) + 1))) (m85 x0.f3 (IntKind.wrap .i64 ((IntKind.wrap .i64 ((IntKind.wrap .i64 (v1 + 1)) + 1)) + 1)))))))]) (σ := h86_0 a0 a1 (length p : Int) v0 v1) (σ' := ⟨[(0, (.one (.ref ⟨(0, 0, 0), [], 0, (length (map d_R a0))⟩))), (1, (.oi (IntKind.wrap .i64 ((m85 x0.f3 (IntKind.wrap .i64 ((IntKind.wrap .i64 ((IntKind.wrap .i64 (v1 + 1)) + 1)) + 1))) + 1)))), (5, (.oi (IntKind.wrap .i64 ((length p : Int) + 1))))], [((0, 0, 0), .live ⟨5, (map d_R (set v0 (Int.toNat (length p : Int)) (K_R.mk v1 (IntKind.wrap .i64 (v1 + 1)) (IntKind.wrap .i64 ((IntKind.wrap .i64 (v1 + 1)) + 1)) (o85_0 x0.f3 (IntKind.wrap .i64 ((IntKind.wrap .i64 ((IntKind.wrap .i64 (v1 + 1)) + 1)) + 1))) (m85 x0.f3 (IntKind.wrap .i64 ((IntKind.wrap .i64 ((IntKind.wrap .i64 (v1 + 1)) + 1)) + 1)))))), []⟩)]⟩) (e := .normal) (t' := 108) (hs' := []) (q := [(decide ((length p : Int) < ((length (map d_R a0)) : Int))) = true, 0 + (length (map d_R a0)) ≤ (length (map d_R v0)), 0 ≤ (length p : Int) ∧ (length p : Int) < ((length (map d_R a0)) : Int), (map d_R v0)[(0 + (Int.toNat (length p : Int)))]? = some [(.i x0.f0), (.i x0.f1), (.i x0.f2), (.own 2 (map d_si x0.f3)), (.i x0.f4)], (set (map d_R v0) (0 + (Int.toNat (length p : Int))) [(.i v1), (.i x0.f1), (.i x0.f2), (.own 2 (map d_si x0.f3)), (.i x0.f4)]) = (map d_R (set v0 (Int.toNat (length p : Int)) (K_R.mk v1 x0.f1 x0.f2 x0.f3 x0.f4))), True, 0 + (length (map d_R a0)) ≤ (length (map d_R (set v0 (Int.toNat (length p : Int)) (K_R.mk v1 x0.f1 x0.f2 x0.f3 x0.f4)))), 0 ≤ (length p : Int) ∧ (length p : Int) < ((length (map d_R a0)) : Int), (map d_R (set v0 (Int.toNat (length p : Int)) (K_R.mk v1 x0.f1 x0.f2 x0.f3 x0.f4)))[(0 + (Int.toNat (length p : Int)))]? = some [(.i v1), (.i x0.f1), (.i x0.f2), (.own 2 (map d_si x0.f3)), (.i x0.f4)], (set (map d_R (set v0 (Int.toNat (length p : Int)) (K_R.mk v1 x0.f1 x0.f2 x0.f3 x0.f4))) (0 + (Int.toNat (length p : Int))) [(.i v1), (.i (IntKind.wrap .i64 (v1 + 1))), (.i x0.f2), (.own 2 (map d_si x0.f3)), (.i x0.f4)]) = (map d_R (set v0 (Int.toNat (length p : Int)) (K_R.mk v1 (IntKind.wrap .i64 (v1 + 1)) x0.f2 x0.f3 x0.f4))), True, 0 + (length (map d_R a0)) ≤ (length (map d_R (set v0 (Int.toNat (length p : Int)) (K_R.mk v1 (IntKind.wrap .i64 (v1 + 1)) x0.f2 x0.f3 x0.f4)))), 0 ≤ (length p : Int) ∧ (length p : Int) < ((length (map d_R a0)) : Int), (map d_R (set v0 (Int.toNat (length p : Int)) (K_R.mk v1 (IntKind.wrap .i64 (v1 + 1)) x0.f2 x0.f3 x0.f4)))[(0 + (Int.toNat (length p : Int)))]? = some [(.i v1), (.i (IntKind.wrap .i64 (v1 + 1))), (.i x0.f2), (.own 2 (map d_si x0.f3)), (.i x0.f4)], (set (map d_R (set v0 (Int.toNat (length p : Int)) (K_R.mk v1 (IntKind.wrap .i64 (v1 + 1)) x0.f2 x0.f3 x0.f4))) (0 + (Int.toNat (length p : Int))) [(.i v1), (.i (IntKind.wrap .i64 (v1 + 1))), (.i (IntKind.wrap .i64 ((IntKind.wrap .i64 (v1 + 1)) + 1))), (.own 2 (map d_si x0.f3)), (.i x0.f4)]) = (map d_R (set v0 (Int.toNat (length p : Int)) (K_R.mk v1 (IntKind.wrap .i64 (v1 + 1)) (IntKind.wrap .i64 ((IntKind.wrap .i64 (v1 + 1)) + 1)) x0.f3 x0.f4))), True, 0 + (length (map d_R a0)) ≤ (length (map d_R (set v0 (Int.toNat (length p : Int)) (K_R.mk v1 (IntKind.wrap .i64 (v1 + 1)) (IntKind.wrap .i64 ((IntKind.wrap .i64 (v1 + 1)) + 1)) x0.f3 x0.f4)))), 0 ≤ (length p : Int) ∧ (length p : Int) < ((length (map d_R a0)) : Int), (map d_R (set v0 (Int.toNat (length p : Int)) (K_R.mk v1 (IntKind.wrap .i64 (v1 + 1)) (IntKind.wrap .i64 ((IntKind.wrap .i64 (v1 + 1)) + 1)) x0.f3 x0.f4)))[(0 + (Int.toNat (length p : Int)))]? = some [(.i v1), (.i (IntKind.wrap .i64 (v1 + 1))), (.i (IntKind.wrap .i64 ((IntKind.wrap .i64 (v1 + 1)) + 1))), (.own 2 (map d_si x0.f3)), (.i x0.f4)], nav 5 (map d_R (set v0 (Int.toNat (length p : Int)) (K_R.mk v1 (IntKind.wrap .i64 (v1 + 1)) (IntKind.wrap .i64 ((IntKind.wrap .i64 (v1 + 1)) + 1)) x0.f3 x0.f4))) [((0 + (Int.toNat (length p : Int))), 3)] = some (2, (map d_si x0.f3)), pureR (map d_si x0.f3) = true, Ev F X (.call 85 [(.one (.ref ⟨(0, 0, 0), [], 0, (length (map d_si x0.f3))⟩)), (.oi (IntKind.wrap .i64 ((IntKind.wrap .i64 ((IntKind.wrap .i64 (v1 + 1)) + 1)) + 1)))] [((0, 0, 0), ⟨2, (map d_si x0.f3), []⟩)] [(map d_si (o85_0 x0.f3 (IntKind.wrap .i64 ((IntKind.wrap .i64 ((IntKind.wrap .i64 (v1 + 1)) + 1)) + 1))))] [(.oi (m85 x0.f3 (IntKind.wrap .i64 ((IntKind.wrap .i64 ((IntKind.wrap .i64 (v1 + 1)) + 1)) + 1))))]), undirt [((0 + (Int.toNat (length p : Int))), 3)] [([((0 + (Int.toNat (length p : Int))), 3)], false)] = [([((0 + (Int.toNat (length p : Int))), 3)], true)], (setCell (setCell (map d_R (set v0 (Int.toNat (length p : Int)) (K_R.mk v1 (IntKind.wrap .i64 (v1 + 1)) (IntKind.wrap .i64 ((IntKind.wrap .i64 (v1 + 1)) + 1)) x0.f3 x0.f4))) [((0 + (Int.toNat (length p : Int))), 3)] .hole) [((0 + (Int.toNat (length p : Int))), 3)] (.own 2 (map d_si (o85_0 x0.f3 (IntKind.wrap .i64 ((IntKind.wrap .i64 ((IntKind.wrap .i64 (v1 + 1)) + 1)) + 1)))))) = (map d_R (set v0 (Int.toNat (length p : Int)) (K_R.mk v1 (IntKind.wrap .i64 (v1 + 1)) (IntKind.wrap .i64 ((IntKind.wrap .i64 (v1 + 1)) + 1)) (o85_0 x0.f3 (IntKind.wrap .i64 ((IntKind.wrap .i64 ((IntKind.wrap .i64 (v1 + 1)) + 1)) + 1))) x0.f4))), 0 + (length (map d_R a0)) ≤ (length (map d_R (set v0 (Int.toNat (length p : Int)) (K_R.mk v1 (IntKind.wrap .i64 (v1 + 1)) (IntKind.wrap .i64 ((IntKind.wrap .i64 (v1 + 1)) + 1)) (o85_0 x0.f3 (IntKind.wrap .i64 ((IntKind.wrap .i64 ((IntKind.wrap .i64 (v1 + 1)) + 1)) + 1))) x0.f4)))), 0 ≤ (length p : Int) ∧ (length p : Int) < ((length (map d_R a0)) : Int), (map d_R (set v0 (Int.toNat (length p : Int)) (K_R.mk v1 (IntKind.wrap .i64 (v1 + 1)) (IntKind.wrap .i64 ((IntKind.wrap .i64 (v1 + 1)) + 1)) (o85_0 x0.f3 (IntKind.wrap .i64 ((IntKind.wrap .i64 ((IntKind.wrap .i64 (v1 + 1)) + 1)) + 1))) x0.f4)))[(0 + (Int.toNat (length p : Int)))]? = some [(.i v1), (.i (IntKind.wrap .i64 (v1 + 1))), (.i (IntKind.wrap .i64 ((IntKind.wrap .i64 (v1 + 1)) + 1))), (.own 2 (map d_si (o85_0 x0.f3 (IntKind.wrap .i64 ((IntKind.wrap .i64 ((IntKind.wrap .i64 (v1 + 1)) + 1)) + 1))))), (.i x0.f4)], (set (map d_R (set v0 (Int.toNat (length p : Int)) (K_R.mk v1 (IntKind.wrap .i64 (v1 + 1)) (IntKind.wrap .i64 ((IntKind.wrap .i64 (v1 + 1)) + 1)) (o85_0 x0.f3 (IntKind.wrap .i64 ((IntKind.wrap .i64 ((IntKind.wrap .i64 (v1 + 1)) + 1)) + 1))) x0.f4))) (0 + (Int.toNat (length p : Int))) [(.i v1), (.i (IntKind.wrap .i64 (v1 + 1))), (.i (IntKind.wrap .i64 ((IntKind.wrap .i64 (v1 + 1)) + 1))), (.own 2 (map d_si (o85_0 x0.f3 (IntKind.wrap .i64 ((IntKind.wrap .i64 ((IntKind.wrap .i64 (v1 + 1)) + 1)) + 1))))), (.i (m85 x0.f3 (IntKind.wrap .i64 ((IntKind.wrap .i64 ((IntKind.wrap .i64 (v1 + 1)) + 1)) + 1))))]) = (map d_R (set v0 (Int.toNat (length p : Int)) (K_R.mk v1 (IntKind.wrap .i64 (v1 + 1)) (IntKind.wrap .i64 ((IntKind.wrap .i64 (v1 + 1)) + 1)) (o85_0 x0.f3 (IntKind.wrap .i64 ((IntKind.wrap .i64 ((IntKind.wrap .i64 (v1 + 1)) + 1)) + 1))) (m85 x0.f3 (IntKind.wrap .i64 ((IntKind.wrap .i64 ((IntKind.wrap .i64 (v1 + 1)) + 1)) + 1)))))), True, True]) (by kernel_rfl) ⟨hc, (by simp only [length_map]; omega), (by omega), (by rw [Nat.zero_add, getElem?_map, Hv0]; rfl), (by simp [byteRows_eq, ints_y, take_of_length_le, d_si, d_R, d_B, d_b, d_i, d_C, d_LsiE, d_iLsiE, d_Q, d_s, d_y, fromBR_si, fromBR_b, fromBR_i, fromBR_s, fromBR_y, ol85]; done), trivial, (by simp only [length_map, length_set]; omega), (by omega), (by rw [Nat.zero_add, map_set, List.getElem?_set_self (by simp only [length_map]; omega)]; rfl), (by simp [byteRows_eq, ints_y, take_of_length_le, d_si, d_R, d_B, d_b, d_i, d_C, d_LsiE, d_iLsiE, d_Q, d_s, d_y, fromBR_si, fromBR_b, fromBR_i, fromBR_s, fromBR_y, ol85]; done), trivial, (by simp only [length_map, length_set]; omega), (by omega), (by rw [Nat.zero_add, map_set, List.getElem?_set_self (by simp only [length_map]; omega)]; rfl), (by simp [byteRows_eq, ints_y, take_of_length_le, d_si, d_R, d_B, d_b, d_i, d_C, d_LsiE, d_iLsiE, d_Q, d_s, d_y, fromBR_si, fromBR_b, fromBR_i, fromBR_s, fromBR_y, ol85]; done), trivial, (by simp only [length_map, length_set]; omega), (by omega), (by rw [Nat.zero_add, map_set, List.getElem?_set_self (by simp only [length_map]; omega)]; rfl), (by simp only [nav]; (rw [Nat.zero_add, map_set, List.getElem?_set_self (by simp only [length_map]; omega)]); rfl), (pureR_si _), (e85 (a0 := x0.f3) (a1 := (IntKind.wrap .i64 ((IntKind.wrap .i64 ((IntKind.wrap .i64 (v1 + 1)) + 1)) + 1))) (by assumption)), (by simp [undirt]), (by rw [setCell2At (i := (0 + (Int.toNat (length p : Int)))) (j := 3) (row := [(.i v1), (.i (IntKind.wrap .i64 (v1 + 1))), (.i (IntKind.wrap .i64 ((IntKind.wrap .i64 (v1 + 1)) + 1))), (.own 2 (map d_si x0.f3)), (.i x0.f4)]) (by rw [Nat.zero_add, map_set, List.getElem?_set_self (by simp only [length_map]; omega)]; rfl)]; first | rfl | (simp [byteRows_eq, ints_y, take_of_length_le, d_si, d_R, d_B, d_b, d_i, d_C, d_LsiE, d_iLsiE, d_Q, d_s, d_y, fromBR_si, fromBR_b, fromBR_i, fromBR_s, fromBR_y, ol85]; done) | (simp [map_set, byteRows_eq, ints_y, take_of_length_le, d_si, d_R, d_B, d_b, d_i, d_C, d_LsiE, d_iLsiE, d_Q, d_s, d_y, fromBR_si, fromBR_b, fromBR_i, fromBR_s, fromBR_y, ol85]; done)), (by simp only [length_map, length_set]; omega), (by omega), (by rw [Nat.zero_add, map_set, List.getElem?_set_self (by simp only [length_map]; omega)]; rfl), (by simp [byteRows_eq, ints_y, take_of_length_le, d_si, d_R, d_B, d_b, d_i, d_C, d_LsiE, d_iLsiE, d_Q, d_s, d_y, fromBR_si, fromBR_b, fromBR_i, fromBR_s, fromBR_y, ol85]; done), trivial, trivial, trivial⟩
    have ih := t86_0 (a0 := a0) (a1 := a1) hy0 hy1 y0 (p ++ [x0]) (set v0 (Int.toNat (length p : Int)) (K_R.mk v1 (IntKind.wrap .i64 (v1 + 1)) (IntKind.wrap .i64 ((IntKind.wrap .i64 (v1 + 1)) + 1)) (o85_0 x0.f3 (IntKind.wrap .i64 ((IntKind.wrap .i64 ((IntKind.wrap .i64 (v1 + 1)) + 1)) + 1))) (m85 x0.f3 (IntKind.wrap .i64 ((IntKind.wrap .i64 ((IntKind.wrap .i64 (v1 + 1)) + 1)) + 1))))) (IntKind.wrap .i64 ((m85 x0.f3 (IntKind.wrap .i64 ((IntKind.wrap .i64 ((IntKind.wrap .i64 (v1 + 1)) + 1)) + 1))) + 1)) (by rw [append_assoc]; exact hp0) (by simp only [length_map, length_set, length_append, length_replicate, length_cons, length_nil]; omega) (by simp only [length_map, length_set, length_append, length_replicate, length_cons, length_nil, Int.toNat_natCast]; first | exact drop_set_next hi1 _ | exact drop_next hi1)
    rw [show ((p ++ [x0]).length : Int) = (p.length : Int) + 1 from by simp] at ih
    rw [show (⟨[(0, (.one (.ref ⟨(0, 0, 0), [], 0, (length (map d_R a0))⟩))), (1, (.oi (IntKind.wrap .i64 ((m85 x0.f3 (IntKind.wrap .i64 ((IntKind.wrap .i64 ((IntKind.wrap .i64 (v1 + 1)) + 1)) + 1))) + 1)))), (5, (.oi (IntKind.wrap .i64 ((length p : Int) + 1))))], [((0, 0, 0), .live ⟨5, (map d_R (set v0 (Int.toNat (length p : Int)) (K_R.mk v1 (IntKind.wrap .i64 (v1 + 1)) (IntKind.wrap .i64 ((IntKind.wrap .i64 (v1 + 1)) + 1)) (o85_0 x0.f3 (IntKind.wrap .i64 ((IntKind.wrap .i64 ((IntKind.wrap .i64 (v1 + 1)) + 1)) + 1))) (m85 x0.f3 (IntKind.wrap .i64 ((IntKind.wrap .i64 ((IntKind.wrap .i64 (v1 + 1)) + 1)) + 1)))))), []⟩)]⟩ : St) = h86_0 a0 a1 ((length p : Int) + 1) (set v0 (Int.toNat (length p : Int)) (K_R.mk v1 (IntKind.wrap .i64 (v1 + 1)) (IntKind.wrap .i64 ((IntKind.wrap .i64 (v1 + 1)) + 1)) (o85_0 x0.f3 (IntKind.wrap .i64 ((IntKind.wrap .i64 ((IntKind.wrap .i64 (v1 + 1)) + 1)) + 1))) (m85 x0.f3 (IntKind.wrap .i64 ((IntKind.wrap .i64 ((IntKind.wrap .i64 (v1 + 1)) + 1)) + 1))))) (IntKind.wrap .i64 ((m85 x0.f3 (IntKind.wrap .i64 ((IntKind.wrap .i64 ((IntKind.wrap .i64 (v1 + 1)) + 1)) + 1))) + 1)) from (by unfold h86_0; simp only [hw]; done)] at st
    exact .loopN st ih
def post86_0 (n0 : Nat) : O86_0 → Prop
  | .k0 w0 _ _ _ => length w0 = n0
theorem z86_0 {a0 : (List K_R)} : ∀ (y0 : List K_R) (i : Int) (v0 : List K_R) (v1 : Int), post86_0 (length v0) (r86_0 a0 y0 i v0 v1)
  | [], i, v0, v1 => by
    first | trivial | (simp only [post86_0, length_nil, Nat.add_zero]; done) | (simp [post86_0]; done)
  | x0 :: y0, i, v0, v1 => by
    simp only [r86_0]
    have z := z86_0 (a0 := a0) y0 (i + 1) (set v0 (Int.toNat i) (K_R.mk v1 (IntKind.wrap .i64 (v1 + 1)) (IntKind.wrap .i64 ((IntKind.wrap .i64 (v1 + 1)) + 1)) (o85_0 x0.f3 (IntKind.wrap .i64 ((IntKind.wrap .i64 ((IntKind.wrap .i64 (v1 + 1)) + 1)) + 1))) (m85 x0.f3 (IntKind.wrap .i64 ((IntKind.wrap .i64 ((IntKind.wrap .i64 (v1 + 1)) + 1)) + 1))))) (IntKind.wrap .i64 ((m85 x0.f3 (IntKind.wrap .i64 ((IntKind.wrap .i64 ((IntKind.wrap .i64 (v1 + 1)) + 1)) + 1))) + 1))
    rw [show (length v0) = (length (set v0 (Int.toNat i) (K_R.mk v1 (IntKind.wrap .i64 (v1 + 1)) (IntKind.wrap .i64 ((IntKind.wrap .i64 (v1 + 1)) + 1)) (o85_0 x0.f3 (IntKind.wrap .i64 ((IntKind.wrap .i64 ((IntKind.wrap .i64 (v1 + 1)) + 1)) + 1))) (m85 x0.f3 (IntKind.wrap .i64 ((IntKind.wrap .i64 ((IntKind.wrap .i64 (v1 + 1)) + 1)) + 1)))))) from by first | omega | (simp only [length_map, length_set, length_append, length_replicate, length_cons, length_nil]; done) | (simp only [length_map, length_set, length_append, length_replicate, length_cons, length_nil]; omega)]
    exact z
end Go.Proofs.YtfmkbpiobddhdaaDoor.CreditShare
