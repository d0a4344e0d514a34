/- What the functions compute. -/
import Derived.Test.YtfmkbpiobddhdaaDoorEPayWorkerC
import Derived.KernelRfl
namespace Go.Proofs.YtfmkbpiobddhdaaDoor.PayWorker
open Go Go.Proofs.YtfmkbpiobddhdaaDoor.V
set_option linter.unusedVariables false
set_option linter.unusedSimpArgs false
set_option maxRecDepth 20000
open List (length_replicate length_map length_set length_append length_cons length_nil length_take length_drop take_of_length_le map_take map_drop map_set append_assoc getElem?_map map length take drop getD set)
attribute [local simp] toBR_si fullR_si pureR_si lenB_si lenD_si fromBR_si copy_si toBR_R fullR_R pureR_R lenB_R lenD_R toBR_B fullR_B pureR_B lenB_B lenD_B toBR_s fullR_s pureR_s lenB_s lenD_s fromBR_s copy_s toBR_i fullR_i pureR_i lenB_i lenD_i fromBR_i copy_i toBR_b fullR_b pureR_b lenB_b lenD_b fromBR_b copy_b toBR_C fullR_C pureR_C lenB_C lenD_C toBR_LsiE fullR_LsiE pureR_LsiE lenB_LsiE lenD_LsiE toBR_Q fullR_Q pureR_Q lenB_Q lenD_Q toBR_y fullR_y pureR_y lenB_y lenD_y fromBR_y copy_y
/-! loop 17_0 -/
inductive O17_0 where
  | k0 (w0 : Int) (w1 : Bool)
  | k1 (w0 : Int)
def r17_0 (a0 : K_B) : List K_R → Int → O17_0
  | x0 :: y0, i =>
    if ((m73 x0 (take (Int.toNat i) a0.f3)) != 0) = true then (O17_0.k1 (m73 x0 (take (Int.toNat i) a0.f3))) else
    (r17_0 a0 y0 (i + 1) )
  | [], i => (O17_0.k0 i (decide (i < ((length (map b_R a0.f3)) : Int))))
def h17_0 (l0_2 : Nat) (l0_3 : Nat) (l0_4 : Nat) (a0 : K_B) (i : Int)  : St := ⟨[(1, (.ptr ⟨(1, 0, 0), [], 0, 0, 8⟩)), (56, (.one (.bor l0_3 (map b_R a0.f3)))), (57, (.one (.val (.int .i64 ((length (map b_R a0.f3)) : Int))))), (58, (.one (.val (.int .i64 i))))], [((1, 0, 0), .live ⟨8, [[(.val (.int .i64 a0.f0)), (.val (.int .i64 a0.f1)), (.bor l0_2 (map b_si a0.f2)), (.bor l0_3 (map b_R a0.f3)), (.bor l0_4 (map b_si a0.f4)), (.val (.int .i64 a0.f5)), (.val (.int .i64 a0.f6)), (.val (.int .i64 a0.f7))]], []⟩)]⟩
def ex17_0 : O17_0 → VX.Exit
  | .k0 _ _ => (.exit 0)
  | .k1 _ => .ret
def fin17_0 (l0_2 : Nat) (l0_3 : Nat) (l0_4 : Nat) (a0 : K_B) : O17_0 → St
  | .k0 w0 w1 => ⟨[(1, (.ptr ⟨(1, 0, 0), [], 0, 0, 8⟩)), (56, (.one (.bor l0_3 (map b_R a0.f3)))), (57, (.one (.val (.int .i64 ((length (map b_R a0.f3)) : Int))))), (58, (.one (.val (.int .i64 w0)))), (59, (.one (.val (.bool w1))))], [((1, 0, 0), .live ⟨8, [[(.val (.int .i64 a0.f0)), (.val (.int .i64 a0.f1)), (.bor l0_2 (map b_si a0.f2)), (.bor l0_3 (map b_R a0.f3)), (.bor l0_4 (map b_si a0.f4)), (.val (.int .i64 a0.f5)), (.val (.int .i64 a0.f6)), (.val (.int .i64 a0.f7))]], []⟩)]⟩
  | .k1 w0 => ⟨[(2, (.one (.val (.int .i64 w0))))], []⟩
theorem t17_0 {l0_2 : Nat} {l0_3 : Nat} {l0_4 : Nat} {a0 : K_B} (hy0 : length a0.f2 * 24 ≤ 140737488351232) (hy1 : length a0.f3 * 56 ≤ 140737488351232) (hy2 : ∀ z ∈ a0.f3, ok_R z) (hy3 : length a0.f4 * 24 ≤ 140737488351232) : ∀ (y0 : List K_R) (p : List K_R) , p ++ y0 = a0.f3 → Ev F X (.code l17_0 (h17_0 l0_2 l0_3 l0_4 a0 (length p : Int) ) (ex17_0 (r17_0 a0 y0 (length p : Int) )) (fin17_0 l0_2 l0_3 l0_4 a0 (r17_0 a0 y0 (length p : Int) )))
  | [], p, hp0 => by
    have hc : ¬ (decide ((length p : Int) < ((length (map b_R a0.f3)) : Int))) = true := by
      rw [← hp0]; simp only [length_map, length_set, length_append, length_replicate, length_cons, length_nil, decide_eq_true_eq]; omega
    have st := codeH_ok (F := F) (X := X) (c := b17_0) (t := 0) (hs := [(2, .b false)]) (σ := h17_0 l0_2 l0_3 l0_4 a0 (length p : Int) ) (σ' := fin17_0 l0_2 l0_3 l0_4 a0 (.k0 (length p : Int) (decide ((length p : Int) < ((length (map b_R a0.f3)) : Int))))) (e := (.exit 0)) (t' := 3) (hs' := []) (q := [(decide ((length p : Int) < ((length (map b_R a0.f3)) : Int))) = false]) (by kernel_rfl) ⟨(nt hc), trivial⟩
    exact .loopX st (show ((.exit 0) : VX.Exit) ≠ .normal from by simp)
  | x0 :: y0, p, hp0 => by
    have hc : (decide ((length p : Int) < ((length (map b_R a0.f3)) : Int))) = true := by
      rw [← hp0]; simp only [length_map, length_set, length_append, length_replicate, length_cons, length_nil, decide_eq_true_eq]; omega
    have Hx0 : (a0.f3)[Int.toNat (length p : Int)]? = some x0 := by
      rw [← hp0, Int.toNat_natCast]; simp
    have Mx0_0 := hy2 x0 (List.mem_of_getElem? Hx0)
    have hlen : length (a0.f3) = length p + length y0 + 1 := by rw [← hp0]; simp; omega
    have hw : IntKind.wrap .i64 ((length p : Int) + 1) = (length p : Int) + 1 := wrap64 (by omega)
    simp only [r17_0]
    by_cases h_1 : ((m73 x0 (take (Int.toNat (length p : Int)) a0.f3)) != 0) = true
    · try simp only [if_pos h_1]
      have st := codeH_ok (F := F) (X := X) (c := b17_0) (t := 0) (hs := [(2, .b true), (6, .row [(.i x0.f0), (.i x0.f1), (.i x0.f2), (.sl (map b_si x0.f3)), (.i x0.f4)]), (26, .ret [] [(.oi (m73 x0 (take (Int.toNat (length p : Int)) a0.f3)))] [] []), (33, .b true)]) (σ := h17_0 l0_2 l0_3 l0_4 a0 (length p : Int) ) (σ' := fin17_0 l0_2 l0_3 l0_4 a0 (.k1 (m73 x0 (take (Int.toNat (length p : Int)) a0.f3)))) (e := .ret) (t' := 38) (hs' := []) (q := [(decide ((length p : Int) < ((length (map b_R a0.f3)) : Int))) = true, 0 ≤ (length p : Int), (map b_R a0.f3)[(Int.toNat (length p : Int))]? = some [(.i x0.f0), (.i x0.f1), (.i x0.f2), (.sl (map b_si x0.f3)), (.i x0.f4)], (0 ≤ (0 : Int) ∧ (0 : Int) ≤ (length p : Int) ∧ (length p : Int) ≤ ((length (map b_R a0.f3)) : Int)) ∧ ∀ r ∈ ((map b_R a0.f3) : List (List B)), r.length = 5, Ev F X (.call 73 [(.agg [(.i x0.f0), (.i x0.f1), (.i x0.f2), (.bor (l0_3 + 1) (map b_si x0.f3)), (.i x0.f4)]), (.one (.bor (l0_3 + 1) (take (Int.toNat (length p : Int) - Int.toNat 0) (drop 0 (map b_R a0.f3)))))] [] [] [(.oi (m73 x0 (take (Int.toNat (length p : Int)) a0.f3)))]), ((m73 x0 (take (Int.toNat (length p : Int)) a0.f3)) != 0) = true]) (by kernel_rfl) ⟨hc, (by omega), (by rw [getElem?_map, Hx0]; rfl), (by refine ⟨?_, lenB_R _⟩; simp only [length_map, length_set, length_append, length_replicate, length_cons, length_nil]; omega), (by rw [show (take (Int.toNat (length p : Int) - Int.toNat 0) (drop 0 (map b_R a0.f3))) = (map b_R (take (Int.toNat (length p : Int)) a0.f3)) from by first | rfl | (simp [map_take, map_drop, ol85, ol86, ol27_0, ol27_1, ol27_2, ol28_0, ol28_1, ol28_2]; done) | (simp [*, map_take, map_drop, ol85, ol86, ol27_0, ol27_1, ol27_2, ol28_0, ol28_1, ol28_2]; done)]; exact (e73 (a0 := x0) (a1 := (take (Int.toNat (length p : Int)) a0.f3)) (by assumption) (by simp only [length_take]; omega) (by intro z hz; exact (by assumption : ∀ z ∈ _, ok_R z) z (List.mem_of_mem_take hz)))), h_1, trivial⟩
      exact .loopX st (show (.ret : VX.Exit) ≠ .normal from by simp)
    · try simp only [if_neg h_1]
      have st := codeH_ok (F := F) (X := X) (c := b17_0) (t := 0) (hs := [(2, .b true), (6, .row [(.i x0.f0), (.i x0.f1), (.i x0.f2), (.sl (map b_si x0.f3)), (.i x0.f4)]), (26, .ret [] [(.oi (m73 x0 (take (Int.toNat (length p : Int)) a0.f3)))] [] []), (33, .b false)]) (σ := h17_0 l0_2 l0_3 l0_4 a0 (length p : Int) ) (σ' := ⟨[(1, (.ptr ⟨(1, 0, 0), [], 0, 0, 8⟩)), (56, (.one (.bor l0_3 (map b_R a0.f3)))), (57, (.oi ((length (map b_R a0.f3)) : Int))), (58, (.oi (IntKind.wrap .i64 ((length p : Int) + 1))))], [((1, 0, 0), .live ⟨8, [[(.i a0.f0), (.i a0.f1), (.bor l0_2 (map b_si a0.f2)), (.bor l0_3 (map b_R a0.f3)), (.bor l0_4 (map b_si a0.f4)), (.i a0.f5), (.i a0.f6), (.i a0.f7)]], []⟩)]⟩) (e := .normal) (t' := 38) (hs' := []) (q := [(decide ((length p : Int) < ((length (map b_R a0.f3)) : Int))) = true, 0 ≤ (length p : Int), (map b_R a0.f3)[(Int.toNat (length p : Int))]? = some [(.i x0.f0), (.i x0.f1), (.i x0.f2), (.sl (map b_si x0.f3)), (.i x0.f4)], (0 ≤ (0 : Int) ∧ (0 : Int) ≤ (length p : Int) ∧ (length p : Int) ≤ ((length (map b_R a0.f3)) : Int)) ∧ ∀ r ∈ ((map b_R a0.f3) : List (List B)), r.length = 5, Ev F X (.call 73 [(.agg [(.i x0.f0), (.i x0.f1), (.i x0.f2), (.bor (l0_3 + 1) (map b_si x0.f3)), (.i x0.f4)]), (.one (.bor (l0_3 + 1) (take (Int.toNat (length p : Int) - Int.toNat 0) (drop 0 (map b_R a0.f3)))))] [] [] [(.oi (m73 x0 (take (Int.toNat (length p : Int)) a0.f3)))]), ((m73 x0 (take (Int.toNat (length p : Int)) a0.f3)) != 0) = false, True]) (by kernel_rfl) ⟨hc, (by omega), (by rw [getElem?_map, Hx0]; rfl), (by refine ⟨?_, lenB_R _⟩; simp only [length_map, length_set, length_append, length_replicate, length_cons, length_nil]; omega), (by rw [show (take (Int.toNat (length p : Int) - Int.toNat 0) (drop 0 (map b_R a0.f3))) = (map b_R (take (Int.toNat (length p : Int)) a0.f3)) from by first | rfl | (simp [map_take, map_drop, ol85, ol86, ol27_0, ol27_1, ol27_2, ol28_0, ol28_1, ol28_2]; done) | (simp [*, map_take, map_drop, ol85, ol86, ol27_0, ol27_1, ol27_2, ol28_0, ol28_1, ol28_2]; done)]; exact (e73 (a0 := x0) (a1 := (take (Int.toNat (length p : Int)) a0.f3)) (by assumption) (by simp only [length_take]; omega) (by intro z hz; exact (by assumption : ∀ z ∈ _, ok_R z) z (List.mem_of_mem_take hz)))), (nt h_1), trivial, trivial⟩
      have ih := t17_0 (l0_2 := l0_2) (l0_3 := l0_3) (l0_4 := l0_4) (a0 := a0) hy0 hy1 hy2 hy3 y0 (p ++ [x0])  (by rw [append_assoc]; exact hp0)
      rw [show ((p ++ [x0]).length : Int) = (p.length : Int) + 1 from by simp] at ih
      rw [show (⟨[(1, (.ptr ⟨(1, 0, 0), [], 0, 0, 8⟩)), (56, (.one (.bor l0_3 (map b_R a0.f3)))), (57, (.oi ((length (map b_R a0.f3)) : Int))), (58, (.oi (IntKind.wrap .i64 ((length p : Int) + 1))))], [((1, 0, 0), .live ⟨8, [[(.i a0.f0), (.i a0.f1), (.bor l0_2 (map b_si a0.f2)), (.bor l0_3 (map b_R a0.f3)), (.bor l0_4 (map b_si a0.f4)), (.i a0.f5), (.i a0.f6), (.i a0.f7)]], []⟩)]⟩ : St) = h17_0 l0_2 l0_3 l0_4 a0 ((length p : Int) + 1)  from (by unfold h17_0; simp only [hw]; done)] at st
      exact .loopN st ih
/-! loop.example/g00539/impl.LedgerFault -/
def m17 (a0 : K_B) : Int :=
  if (!(m71 a0.f0 a0.f1)) = true then 3 else
  if (!(m93 a0.f5 0 1000000)) = true then 3 else
    if (!(m93 a0.f6 0 1000000)) = true then 3 else
      if (!(m93 a0.f7 0 1000000)) = true then 3 else
        if ((m46 a0.f2) != 0) = true then (m46 a0.f2) else
          if (decide (((length (map b_si a0.f2)) : Int) > a0.f0)) = true then 2 else
            if (decide (((length (map b_R a0.f3)) : Int) > 6)) = true then 2 else
              if (decide (((length (map b_si a0.f4)) : Int) > 8)) = true then 2 else
                (match r17_0 a0 a0.f3 0 with | .k0 w0_33 w1_33 => (if (!(m74 a0.f4 8)) = true then 1 else if ((IntKind.wrap .i64 ((IntKind.wrap .i64 ((m75 a0.f4) + a0.f6)) + a0.f5)) != (IntKind.wrap .i64 ((m76 a0.f3 2) + a0.f7))) = true then 7 else if (!(m93 (m76 a0.f3 0) 0 1000000)) = true then 7 else 0) | .k1 w0_33 => w0_33)
theorem e17 {l0_2 : Nat} {l0_3 : Nat} {l0_4 : Nat} {a0 : K_B} (hy0 : length a0.f2 * 24 ≤ 140737488351232) (hy1 : length a0.f3 * 56 ≤ 140737488351232) (hy2 : ∀ z ∈ a0.f3, ok_R z) (hy3 : length a0.f4 * 24 ≤ 140737488351232) : Ev F X (.call 17 [(.agg [(.val (.int .i64 a0.f0)), (.val (.int .i64 a0.f1)), (.bor l0_2 (map b_si a0.f2)), (.bor l0_3 (map b_R a0.f3)), (.bor l0_4 (map b_si a0.f4)), (.val (.int .i64 a0.f5)), (.val (.int .i64 a0.f6)), (.val (.int .i64 a0.f7))])] [] [] [(.one (.val (.int .i64 (m17 a0))))]) := by
  unfold m17
  have f0 : Ev F X (.call 71 [(.oi a0.f0), (.oi a0.f1)] [] [] [(.one (.val (.bool (m71 a0.f0 a0.f1))))]) := (e71 (a0 := a0.f0) (a1 := a0.f1))
  by_cases h0 : (!(m71 a0.f0 a0.f1)) = true
  · try simp only [if_pos h0]
    exact callP_ok (ps := []) (os := []) (rs := [(.oi 3)]) (by kernel_rfl) (.r 13 [] [] f0 (.f h0 (.f h0 (.f h0 (.f h0 (.f h0 (.h 18 (.b true) (.h 20 (.b true) (.h 22 (.b true) (.h 24 (.b true) (.h 27 (.b true) .nil)))))))))))
  · try simp only [if_neg h0]
    have f4 : Ev F X (.call 72 [(.oi a0.f5)] [] [] [(.one (.val (.bool (m93 a0.f5 0 1000000))))]) := (e72 (a0 := a0.f5))
    by_cases h1 : (!(m93 a0.f5 0 1000000)) = true
    · try simp only [if_pos h1]
      exact callP_ok (ps := []) (os := []) (rs := [(.oi 3)]) (by kernel_rfl) (.r 13 [] [] f0 (.f (nt h0) (.f (nt h0) (.f (nt h0) (.h 18 (.b false) (.h 20 (.b false) (.h 22 (.b false) (.r 23 [] [] f4 (.f (nt h0) (.f (nt h0) (.f h1 (.f h1 (.f h1 (.f h1 (.f h1 (.h 24 (.b false) (.h 27 (.b false) (.h 30 (.b true) (.h 32 (.b true) (.h 34 (.b true) (.h 36 (.b true) (.h 39 (.b true) .nil))))))))))))))))))))))
    · try simp only [if_neg h1]
      have f10 : Ev F X (.call 72 [(.oi a0.f6)] [] [] [(.one (.val (.bool (m93 a0.f6 0 1000000))))]) := (e72 (a0 := a0.f6))
      by_cases h2 : (!(m93 a0.f6 0 1000000)) = true
      · try simp only [if_pos h2]
        exact callP_ok (ps := []) (os := []) (rs := [(.oi 3)]) (by kernel_rfl) (.r 13 [] [] f0 (.f (nt h0) (.f (nt h0) (.f (nt h0) (.h 18 (.b false) (.h 20 (.b false) (.h 22 (.b false) (.r 23 [] [] f4 (.f (nt h0) (.f (nt h0) (.f (nt h1) (.f (nt h1) (.f (nt h1) (.h 24 (.b false) (.h 27 (.b false) (.h 30 (.b false) (.h 32 (.b false) (.h 34 (.b false) (.r 35 [] [] f10 (.f (nt h1) (.f (nt h1) (.f h2 (.f h2 (.f h2 (.f h2 (.f h2 (.h 36 (.b false) (.h 39 (.b false) (.h 42 (.b true) (.h 44 (.b true) (.h 46 (.b true) (.h 48 (.b true) (.h 51 (.b true) .nil)))))))))))))))))))))))))))))))))
      · try simp only [if_neg h2]
        have f16 : Ev F X (.call 72 [(.oi a0.f7)] [] [] [(.one (.val (.bool (m93 a0.f7 0 1000000))))]) := (e72 (a0 := a0.f7))
        by_cases h3 : (!(m93 a0.f7 0 1000000)) = true
        · try simp only [if_pos h3]
          exact callP_ok (ps := []) (os := []) (rs := [(.oi 3)]) (by kernel_rfl) (.r 13 [] [] f0 (.f (nt h0) (.f (nt h0) (.f (nt h0) (.h 18 (.b false) (.h 20 (.b false) (.h 22 (.b false) (.r 23 [] [] f4 (.f (nt h0) (.f (nt h0) (.f (nt h1) (.f (nt h1) (.f (nt h1) (.h 24 (.b false) (.h 27 (.b false) (.h 30 (.b false) (.h 32 (.b false) (.h 34 (.b false) (.r 35 [] [] f10 (.f (nt h1) (.f (nt h1) (.f (nt h2) (.f (nt h2) (.f (nt h2) (.h 36 (.b false) (.h 39 (.b false) (.h 42 (.b false) (.h 44 (.b false) (.h 46 (.b false) (.r 47 [] [] f16 (.f (nt h2) (.f (nt h2) (.f h3 (.h 48 (.b false) (.h 51 (.b false) (.h 52 (.b true) .nil))))))))))))))))))))))))))))))))))))
        · try simp only [if_neg h3]
          have f20 : Ev F X (.call 46 [(.one (.bor (l0_2 + 1) (map b_si a0.f2)))] [] [] [(.oi (m46 a0.f2))]) := (e46 (a0 := a0.f2) (by with_reducible assumption))
          by_cases h4 : ((m46 a0.f2) != 0) = true
          · try simp only [if_pos h4]
            exact callP_ok (ps := []) (os := []) (rs := [(.oi (m46 a0.f2))]) (by kernel_rfl) (.r 13 [] [] f0 (.f (nt h0) (.f (nt h0) (.f (nt h0) (.h 18 (.b false) (.h 20 (.b false) (.h 22 (.b false) (.r 23 [] [] f4 (.f (nt h0) (.f (nt h0) (.f (nt h1) (.f (nt h1) (.f (nt h1) (.h 24 (.b false) (.h 27 (.b false) (.h 30 (.b false) (.h 32 (.b false) (.h 34 (.b false) (.r 35 [] [] f10 (.f (nt h1) (.f (nt h1) (.f (nt h2) (.f (nt h2) (.f (nt h2) (.h 36 (.b false) (.h 39 (.b false) (.h 42 (.b false) (.h 44 (.b false) (.h 46 (.b false) (.r 47 [] [] f16 (.f (nt h2) (.f (nt h2) (.f (nt h3) (.h 48 (.b false) (.h 51 (.b false) (.h 52 (.b false) (.r 58 [] [] f20 (.f h4 (.h 65 (.b true) .nil)))))))))))))))))))))))))))))))))))))))
          · try simp only [if_neg h4]
            by_cases h5 : (decide (((length (map b_si a0.f2)) : Int) > a0.f0)) = true
            · try simp only [if_pos h5]
              exact callP_ok (ps := []) (os := []) (rs := [(.oi 2)]) (by kernel_rfl) (.r 13 [] [] f0 (.f (nt h0) (.f (nt h0) (.f (nt h0) (.h 18 (.b false) (.h 20 (.b false) (.h 22 (.b false) (.r 23 [] [] f4 (.f (nt h0) (.f (nt h0) (.f (nt h1) (.f (nt h1) (.f (nt h1) (.h 24 (.b false) (.h 27 (.b false) (.h 30 (.b false) (.h 32 (.b false) (.h 34 (.b false) (.r 35 [] [] f10 (.f (nt h1) (.f (nt h1) (.f (nt h2) (.f (nt h2) (.f (nt h2) (.h 36 (.b false) (.h 39 (.b false) (.h 42 (.b false) (.h 44 (.b false) (.h 46 (.b false) (.r 47 [] [] f16 (.f (nt h2) (.f (nt h2) (.f (nt h3) (.h 48 (.b false) (.h 51 (.b false) (.h 52 (.b false) (.r 58 [] [] f20 (.f (nt h4) (.f h5 (.f h5 (.f h5 (.f h5 (.f h5 (.h 65 (.b false) (.h 80 (.b true) (.h 82 (.b true) (.h 84 (.b true) (.h 86 (.b true) (.h 89 (.b true) .nil)))))))))))))))))))))))))))))))))))))))))))))))))
            · try simp only [if_neg h5]
              by_cases h6 : (decide (((length (map b_R a0.f3)) : Int) > 6)) = true
              · try simp only [if_pos h6]
                exact callP_ok (ps := []) (os := []) (rs := [(.oi 2)]) (by kernel_rfl) (.r 13 [] [] f0 (.f (nt h0) (.f (nt h0) (.f (nt h0) (.h 18 (.b false) (.h 20 (.b false) (.h 22 (.b false) (.r 23 [] [] f4 (.f (nt h0) (.f (nt h0) (.f (nt h1) (.f (nt h1) (.f (nt h1) (.h 24 (.b false) (.h 27 (.b false) (.h 30 (.b false) (.h 32 (.b false) (.h 34 (.b false) (.r 35 [] [] f10 (.f (nt h1) (.f (nt h1) (.f (nt h2) (.f (nt h2) (.f (nt h2) (.h 36 (.b false) (.h 39 (.b false) (.h 42 (.b false) (.h 44 (.b false) (.h 46 (.b false) (.r 47 [] [] f16 (.f (nt h2) (.f (nt h2) (.f (nt h3) (.h 48 (.b false) (.h 51 (.b false) (.h 52 (.b false) (.r 58 [] [] f20 (.f (nt h4) (.f (nt h5) (.f (nt h5) (.f (nt h5) (.f (nt h5) (.f (nt h5) (.f h6 (.f h6 (.f h6 (.f h6 (.f h6 (.h 65 (.b false) (.h 80 (.b false) (.h 82 (.b false) (.h 84 (.b false) (.h 86 (.b false) (.h 89 (.b false) (.h 92 (.b true) (.h 94 (.b true) (.h 96 (.b true) (.h 98 (.b true) (.h 101 (.b true) .nil)))))))))))))))))))))))))))))))))))))))))))))))))))))))))))
              · try simp only [if_neg h6]
                by_cases h7 : (decide (((length (map b_si a0.f4)) : Int) > 8)) = true
                · try simp only [if_pos h7]
                  exact callP_ok (ps := []) (os := []) (rs := [(.oi 2)]) (by kernel_rfl) (.r 13 [] [] f0 (.f (nt h0) (.f (nt h0) (.f (nt h0) (.h 18 (.b false) (.h 20 (.b false) (.h 22 (.b false) (.r 23 [] [] f4 (.f (nt h0) (.f (nt h0) (.f (nt h1) (.f (nt h1) (.f (nt h1) (.h 24 (.b false) (.h 27 (.b false) (.h 30 (.b false) (.h 32 (.b false) (.h 34 (.b false) (.r 35 [] [] f10 (.f (nt h1) (.f (nt h1) (.f (nt h2) (.f (nt h2) (.f (nt h2) (.h 36 (.b false) (.h 39 (.b false) (.h 42 (.b false) (.h 44 (.b false) (.h 46 (.b false) (.r 47 [] [] f16 (.f (nt h2) (.f (nt h2) (.f (nt h3) (.h 48 (.b false) (.h 51 (.b false) (.h 52 (.b false) (.r 58 [] [] f20 (.f (nt h4) (.f (nt h5) (.f (nt h5) (.f (nt h5) (.f (nt h5) (.f (nt h5) (.f (nt h6) (.f (nt h6) (.f (nt h6) (.f (nt h6) (.f (nt h6) (.f h7 (.h 65 (.b false) (.h 80 (.b false) (.h 82 (.b false) (.h 84 (.b false) (.h 86 (.b false) (.h 89 (.b false) (.h 92 (.b false) (.h 94 (.b false) (.h 96 (.b false) (.h 98 (.b false) (.h 101 (.b false) (.h 102 (.b true) .nil)))))))))))))))))))))))))))))))))))))))))))))))))))))))))))))
                · try simp only [if_neg h7]
                  cases h8 : r17_0 a0 a0.f3 0 with
                  | k0 w0_33 w1_33 =>
                    try dsimp only
                    have f33 : (⟨[(1, (.ptr ⟨(1, 0, 0), [], 0, 0, 8⟩)), (56, (.one (.bor l0_3 (map b_R a0.f3)))), (57, (.oi ((length (map b_R a0.f3)) : Int))), (58, (.oi 0))], [((1, 0, 0), .live ⟨8, [[(.i a0.f0), (.i a0.f1), (.bor l0_2 (map b_si a0.f2)), (.bor l0_3 (map b_R a0.f3)), (.bor l0_4 (map b_si a0.f4)), (.i a0.f5), (.i a0.f6), (.i a0.f7)]], []⟩)]⟩ : St) = h17_0 l0_2 l0_3 l0_4 a0 0  := (by rfl)
                    have f34 : Ev F X (.code l17_0 (h17_0 l0_2 l0_3 l0_4 a0 0 ) (.exit 0) ⟨[(1, (.ptr ⟨(1, 0, 0), [], 0, 0, 8⟩)), (56, (.one (.bor l0_3 (map b_R a0.f3)))), (57, (.oi ((length (map b_R a0.f3)) : Int))), (58, (.oi w0_33)), (59, (.one (.val (.bool w1_33))))], [((1, 0, 0), .live ⟨8, [[(.i a0.f0), (.i a0.f1), (.bor l0_2 (map b_si a0.f2)), (.bor l0_3 (map b_R a0.f3)), (.bor l0_4 (map b_si a0.f4)), (.i a0.f5), (.i a0.f6), (.i a0.f7)]], []⟩)]⟩) := (by have t : Ev F X (.code l17_0 (h17_0 l0_2 l0_3 l0_4 a0 0 ) (ex17_0 (r17_0 a0 a0.f3 0)) (fin17_0 l0_2 l0_3 l0_4 a0 (r17_0 a0 a0.f3 0))) := t17_0 (l0_2 := l0_2) (l0_3 := l0_3) (l0_4 := l0_4) (a0 := a0) (by assumption) (by assumption) (by assumption) (by assumption) a0.f3 []  rfl; rw [h8] at t; exact t)
                    have f35 : Ev F X (.call 74 [(.one (.bor (l0_4 + 1) (map b_si a0.f4))), (.oi 8)] [] [] [(.one (.val (.bool (m74 a0.f4 8))))]) := (e74 (a0 := a0.f4) (a1 := 8) (by with_reducible assumption))
                    by_cases h9 : (!(m74 a0.f4 8)) = true
                    · try simp only [if_pos h9]
                      exact callP_ok (ps := []) (os := []) (rs := [(.oi 1)]) (by kernel_rfl) (.r 13 [] [] f0 (.f (nt h0) (.f (nt h0) (.f (nt h0) (.h 18 (.b false) (.h 20 (.b false) (.h 22 (.b false) (.r 23 [] [] f4 (.f (nt h0) (.f (nt h0) (.f (nt h1) (.f (nt h1) (.f (nt h1) (.h 24 (.b false) (.h 27 (.b false) (.h 30 (.b false) (.h 32 (.b false) (.h 34 (.b false) (.r 35 [] [] f10 (.f (nt h1) (.f (nt h1) (.f (nt h2) (.f (nt h2) (.f (nt h2) (.h 36 (.b false) (.h 39 (.b false) (.h 42 (.b false) (.h 44 (.b false) (.h 46 (.b false) (.r 47 [] [] f16 (.f (nt h2) (.f (nt h2) (.f (nt h3) (.h 48 (.b false) (.h 51 (.b false) (.h 52 (.b false) (.r 58 [] [] f20 (.f (nt h4) (.f (nt h5) (.f (nt h5) (.f (nt h5) (.f (nt h5) (.f (nt h5) (.f (nt h6) (.f (nt h6) (.f (nt h6) (.f (nt h6) (.f (nt h6) (.f (nt h7) (.f f33 (.f f34 (.h 65 (.b false) (.h 80 (.b false) (.h 82 (.b false) (.h 84 (.b false) (.h 86 (.b false) (.h 89 (.b false) (.h 92 (.b false) (.h 94 (.b false) (.h 96 (.b false) (.h 98 (.b false) (.h 101 (.b false) (.h 102 (.b false) (.h 111 (.loop (h17_0 l0_2 l0_3 l0_4 a0 0 ) (.exit 0) ⟨[(1, (.ptr ⟨(1, 0, 0), [], 0, 0, 8⟩)), (56, (.one (.bor l0_3 (map b_R a0.f3)))), (57, (.oi ((length (map b_R a0.f3)) : Int))), (58, (.oi w0_33)), (59, (.one (.val (.bool w1_33))))], [((1, 0, 0), .live ⟨8, [[(.i a0.f0), (.i a0.f1), (.bor l0_2 (map b_si a0.f2)), (.bor l0_3 (map b_R a0.f3)), (.bor l0_4 (map b_si a0.f4)), (.i a0.f5), (.i a0.f6), (.i a0.f7)]], []⟩)]⟩) (.r 117 [] [] f35 (.f h9 (.h 122 (.b true) .nil)))))))))))))))))))))))))))))))))))))))))))))))))))))))))))))))))))
                    · try simp only [if_neg h9]
                      have f37 : Ev F X (.call 75 [(.one (.bor (l0_4 + 1) (map b_si a0.f4)))] [] [] [(.oi (m75 a0.f4))]) := (e75 (a0 := a0.f4) (by with_reducible assumption))
                      have f40 : Ev F X (.call 76 [(.one (.bor (l0_3 + 1) (map b_R a0.f3))), (.oi 2)] [] [] [(.oi (m76 a0.f3 2))]) := (e76 (a0 := a0.f3) (a1 := 2) (by with_reducible assumption) (by with_reducible assumption))
                      by_cases h10 : ((IntKind.wrap .i64 ((IntKind.wrap .i64 ((m75 a0.f4) + a0.f6)) + a0.f5)) != (IntKind.wrap .i64 ((m76 a0.f3 2) + a0.f7))) = true
                      · try simp only [if_pos h10]
                        exact callP_ok (ps := []) (os := []) (rs := [(.oi 7)]) (by kernel_rfl) (.r 13 [] [] f0 (.f (nt h0) (.f (nt h0) (.f (nt h0) (.h 18 (.b false) (.h 20 (.b false) (.h 22 (.b false) (.r 23 [] [] f4 (.f (nt h0) (.f (nt h0) (.f (nt h1) (.f (nt h1) (.f (nt h1) (.h 24 (.b false) (.h 27 (.b false) (.h 30 (.b false) (.h 32 (.b false) (.h 34 (.b false) (.r 35 [] [] f10 (.f (nt h1) (.f (nt h1) (.f (nt h2) (.f (nt h2) (.f (nt h2) (.h 36 (.b false) (.h 39 (.b false) (.h 42 (.b false) (.h 44 (.b false) (.h 46 (.b false) (.r 47 [] [] f16 (.f (nt h2) (.f (nt h2) (.f (nt h3) (.h 48 (.b false) (.h 51 (.b false) (.h 52 (.b false) (.r 58 [] [] f20 (.f (nt h4) (.f (nt h5) (.f (nt h5) (.f (nt h5) (.f (nt h5) (.f (nt h5) (.f (nt h6) (.f (nt h6) (.f (nt h6) (.f (nt h6) (.f (nt h6) (.f (nt h7) (.f f33 (.f f34 (.h 65 (.b false) (.h 80 (.b false) (.h 82 (.b false) (.h 84 (.b false) (.h 86 (.b false) (.h 89 (.b false) (.h 92 (.b false) (.h 94 (.b false) (.h 96 (.b false) (.h 98 (.b false) (.h 101 (.b false) (.h 102 (.b false) (.h 111 (.loop (h17_0 l0_2 l0_3 l0_4 a0 0 ) (.exit 0) ⟨[(1, (.ptr ⟨(1, 0, 0), [], 0, 0, 8⟩)), (56, (.one (.bor l0_3 (map b_R a0.f3)))), (57, (.oi ((length (map b_R a0.f3)) : Int))), (58, (.oi w0_33)), (59, (.one (.val (.bool w1_33))))], [((1, 0, 0), .live ⟨8, [[(.i a0.f0), (.i a0.f1), (.bor l0_2 (map b_si a0.f2)), (.bor l0_3 (map b_R a0.f3)), (.bor l0_4 (map b_si a0.f4)), (.i a0.f5), (.i a0.f6), (.i a0.f7)]], []⟩)]⟩) (.r 117 [] [] f35 (.f (nt h9) (.h 122 (.b false) (.r 128 [] [] f37 (.f trivial (.f trivial (.r 146 [] [] f40 (.f trivial (.f h10 (.f h10 (.f h10 (.f h10 (.f h10 (.f h10 (.h 157 (.b true) (.h 159 (.b true) (.h 161 (.b true) (.h 163 (.b true) (.h 165 (.b true) (.h 168 (.b true) .nil))))))))))))))))))))))))))))))))))))))))))))))))))))))))))))))))))))))))))))))))))))
                      · try simp only [if_neg h10]
                        have f45 : Ev F X (.call 76 [(.one (.bor (l0_3 + 1) (map b_R a0.f3))), (.oi 0)] [] [] [(.oi (m76 a0.f3 0))]) := (e76 (a0 := a0.f3) (a1 := 0) (by with_reducible assumption) (by with_reducible assumption))
                        have f47 : Ev F X (.call 72 [(.oi (m76 a0.f3 0))] [] [] [(.one (.val (.bool (m93 (m76 a0.f3 0) 0 1000000))))]) := (e72 (a0 := (m76 a0.f3 0)))
                        by_cases h11 : (!(m93 (m76 a0.f3 0) 0 1000000)) = true
                        · try simp only [if_pos h11]
                          exact callP_ok (ps := []) (os := []) (rs := [(.oi 7)]) (by kernel_rfl) (.r 13 [] [] f0 (.f (nt h0) (.f (nt h0) (.f (nt h0) (.h 18 (.b false) (.h 20 (.b false) (.h 22 (.b false) (.r 23 [] [] f4 (.f (nt h0) (.f (nt h0) (.f (nt h1) (.f (nt h1) (.f (nt h1) (.h 24 (.b false) (.h 27 (.b false) (.h 30 (.b false) (.h 32 (.b false) (.h 34 (.b false) (.r 35 [] [] f10 (.f (nt h1) (.f (nt h1) (.f (nt h2) (.f (nt h2) (.f (nt h2) (.h 36 (.b false) (.h 39 (.b false) (.h 42 (.b false) (.h 44 (.b false) (.h 46 (.b false) (.r 47 [] [] f16 (.f (nt h2) (.f (nt h2) (.f (nt h3) (.h 48 (.b false) (.h 51 (.b false) (.h 52 (.b false) (.r 58 [] [] f20 (.f (nt h4) (.f (nt h5) (.f (nt h5) (.f (nt h5) (.f (nt h5) (.f (nt h5) (.f (nt h6) (.f (nt h6) (.f (nt h6) (.f (nt h6) (.f (nt h6) (.f (nt h7) (.f f33 (.f f34 (.h 65 (.b false) (.h 80 (.b false) (.h 82 (.b false) (.h 84 (.b false) (.h 86 (.b false) (.h 89 (.b false) (.h 92 (.b false) (.h 94 (.b false) (.h 96 (.b false) (.h 98 (.b false) (.h 101 (.b false) (.h 102 (.b false) (.h 111 (.loop (h17_0 l0_2 l0_3 l0_4 a0 0 ) (.exit 0) ⟨[(1, (.ptr ⟨(1, 0, 0), [], 0, 0, 8⟩)), (56, (.one (.bor l0_3 (map b_R a0.f3)))), (57, (.oi ((length (map b_R a0.f3)) : Int))), (58, (.oi w0_33)), (59, (.one (.val (.bool w1_33))))], [((1, 0, 0), .live ⟨8, [[(.i a0.f0), (.i a0.f1), (.bor l0_2 (map b_si a0.f2)), (.bor l0_3 (map b_R a0.f3)), (.bor l0_4 (map b_si a0.f4)), (.i a0.f5), (.i a0.f6), (.i a0.f7)]], []⟩)]⟩) (.r 117 [] [] f35 (.f (nt h9) (.h 122 (.b false) (.r 128 [] [] f37 (.f trivial (.f trivial (.r 146 [] [] f40 (.f trivial (.f (nt h10) (.f (nt h10) (.f (nt h10) (.h 157 (.b false) (.h 159 (.b false) (.h 161 (.b false) (.r 162 [] [] f45 (.f (nt h10) (.h 163 (.b false) (.r 164 [] [] f47 (.f (nt h10) (.f (nt h10) (.f h11 (.h 165 (.b false) (.h 168 (.b false) (.h 171 (.b true) .nil))))))))))))))))))))))))))))))))))))))))))))))))))))))))))))))))))))))))))))))))))))))))
                        · try simp only [if_neg h11]
                          exact callP_ok (ps := []) (os := []) (rs := [(.oi 0)]) (by kernel_rfl) (.r 13 [] [] f0 (.f (nt h0) (.f (nt h0) (.f (nt h0) (.h 18 (.b false) (.h 20 (.b false) (.h 22 (.b false) (.r 23 [] [] f4 (.f (nt h0) (.f (nt h0) (.f (nt h1) (.f (nt h1) (.f (nt h1) (.h 24 (.b false) (.h 27 (.b false) (.h 30 (.b false) (.h 32 (.b false) (.h 34 (.b false) (.r 35 [] [] f10 (.f (nt h1) (.f (nt h1) (.f (nt h2) (.f (nt h2) (.f (nt h2) (.h 36 (.b false) (.h 39 (.b false) (.h 42 (.b false) (.h 44 (.b false) (.h 46 (.b false) (.r 47 [] [] f16 (.f (nt h2) (.f (nt h2) (.f (nt h3) (.h 48 (.b false) (.h 51 (.b false) (.h 52 (.b false) (.r 58 [] [] f20 (.f (nt h4) (.f (nt h5) (.f (nt h5) (.f (nt h5) (.f (nt h5) (.f (nt h5) (.f (nt h6) (.f (nt h6) (.f (nt h6) (.f (nt h6) (.f (nt h6) (.f (nt h7) (.f f33 (.f f34 (.h 65 (.b false) (.h 80 (.b false) (.h 82 (.b false) (.h 84 (.b false) (.h 86 (.b false) (.h 89 (.b false) (.h 92 (.b false) (.h 94 (.b false) (.h 96 (.b false) (.h 98 (.b false) (.h 101 (.b false) (.h 102 (.b false) (.h 111 (.loop (h17_0 l0_2 l0_3 l0_4 a0 0 ) (.exit 0) ⟨[(1, (.ptr ⟨(1, 0, 0), [], 0, 0, 8⟩)), (56, (.one (.bor l0_3 (map b_R a0.f3)))), (57, (.oi ((length (map b_R a0.f3)) : Int))), (58, (.oi w0_33)), (59, (.one (.val (.bool w1_33))))], [((1, 0, 0), .live ⟨8, [[(.i a0.f0), (.i a0.f1), (.bor l0_2 (map b_si a0.f2)), (.bor l0_3 (map b_R a0.f3)), (.bor l0_4 (map b_si a0.f4)), (.i a0.f5), (.i a0.f6), (.i a0.f7)]], []⟩)]⟩) (.r 117 [] [] f35 (.f (nt h9) (.h 122 (.b false) (.r 128 [] [] f37 (.f trivial (.f trivial (.r 146 [] [] f40 (.f trivial (.f (nt h10) (.f (nt h10) (.f (nt h10) (.h 157 (.b false) (.h 159 (.b false) (.h 161 (.b false) (.r 162 [] [] f45 (.f (nt h10) (.h 163 (.b false) (.r 164 [] [] f47 (.f (nt h10) (.f (nt h10) (.f (nt h11) (.h 165 (.b false) (.h 168 (.b false) (.h 171 (.b false) .nil))))))))))))))))))))))))))))))))))))))))))))))))))))))))))))))))))))))))))))))))))))))))
                  | k1 w0_33 =>
                    try dsimp only
                    have f33 : (⟨[(1, (.ptr ⟨(1, 0, 0), [], 0, 0, 8⟩)), (56, (.one (.bor l0_3 (map b_R a0.f3)))), (57, (.oi ((length (map b_R a0.f3)) : Int))), (58, (.oi 0))], [((1, 0, 0), .live ⟨8, [[(.i a0.f0), (.i a0.f1), (.bor l0_2 (map b_si a0.f2)), (.bor l0_3 (map b_R a0.f3)), (.bor l0_4 (map b_si a0.f4)), (.i a0.f5), (.i a0.f6), (.i a0.f7)]], []⟩)]⟩ : St) = h17_0 l0_2 l0_3 l0_4 a0 0  := (by rfl)
                    have f34 : Ev F X (.code l17_0 (h17_0 l0_2 l0_3 l0_4 a0 0 ) .ret ⟨[(2, (.oi w0_33))], []⟩) := (by have t : Ev F X (.code l17_0 (h17_0 l0_2 l0_3 l0_4 a0 0 ) (ex17_0 (r17_0 a0 a0.f3 0)) (fin17_0 l0_2 l0_3 l0_4 a0 (r17_0 a0 a0.f3 0))) := t17_0 (l0_2 := l0_2) (l0_3 := l0_3) (l0_4 := l0_4) (a0 := a0) (by assumption) (by assumption) (by assumption) (by assumption) a0.f3 []  rfl; rw [h8] at t; exact t)
                    exact callP_ok (ps := []) (os := []) (rs := [(.oi w0_33)]) (by kernel_rfl) (.r 13 [] [] f0 (.f (nt h0) (.f (nt h0) (.f (nt h0) (.h 18 (.b false) (.h 20 (.b false) (.h 22 (.b false) (.r 23 [] [] f4 (.f (nt h0) (.f (nt h0) (.f (nt h1) (.f (nt h1) (.f (nt h1) (.h 24 (.b false) (.h 27 (.b false) (.h 30 (.b false) (.h 32 (.b false) (.h 34 (.b false) (.r 35 [] [] f10 (.f (nt h1) (.f (nt h1) (.f (nt h2) (.f (nt h2) (.f (nt h2) (.h 36 (.b false) (.h 39 (.b false) (.h 42 (.b false) (.h 44 (.b false) (.h 46 (.b false) (.r 47 [] [] f16 (.f (nt h2) (.f (nt h2) (.f (nt h3) (.h 48 (.b false) (.h 51 (.b false) (.h 52 (.b false) (.r 58 [] [] f20 (.f (nt h4) (.f (nt h5) (.f (nt h5) (.f (nt h5) (.f (nt h5) (.f (nt h5) (.f (nt h6) (.f (nt h6) (.f (nt h6) (.f (nt h6) (.f (nt h6) (.f (nt h7) (.f f33 (.f f34 (.h 65 (.b false) (.h 80 (.b false) (.h 82 (.b false) (.h 84 (.b false) (.h 86 (.b false) (.h 89 (.b false) (.h 92 (.b false) (.h 94 (.b false) (.h 96 (.b false) (.h 98 (.b false) (.h 101 (.b false) (.h 102 (.b false) (.h 111 (.loop (h17_0 l0_2 l0_3 l0_4 a0 0 ) .ret ⟨[(2, (.oi w0_33))], []⟩) .nil))))))))))))))))))))))))))))))))))))))))))))))))))))))))))))))))
theorem ow17 {a : List K_si} {k : Int} (h : m74 a k = true) : (a.length : Int) ≤ k := by
  unfold m74 at h
  split at h
  · simpa using h
  · cases h
theorem rl73 {x : K_R} {a : List K_R} (h : m73 x a = 0) : x.f3.length ≤ 12 := by
  unfold m73 at h
  by_cases c : m74 x.f3 12 = true
  · have := ow17 c; omega
  · exfalso
    have c : m74 x.f3 12 = false := by simpa using c
    simp only [c, Bool.not_false, if_true] at h
    (repeat' split at h) <;> simp at h
theorem rz17 (a0 : K_B) : ∀ (l : List K_R) (i : Int), ((∃ u v, r17_0 a0 l i = .k0 u v) ∧ ∀ z ∈ l, z.f3.length ≤ 12) ∨ (∃ w, r17_0 a0 l i = .k1 w ∧ w ≠ 0)
  | [], i => .inl ⟨⟨_, _, rfl⟩, fun z hz => by cases hz⟩
  | x :: l, i => by
    have ih := rz17 a0 l (i + 1)
    simp only [r17_0]
    by_cases c : ((m73 x (take (Int.toNat i) a0.f3)) != 0) = true
    · rw [if_pos c]; exact .inr ⟨_, rfl, by simpa using c⟩
    · rw [if_neg c]
      rcases ih with ⟨h1, h2⟩ | h
      · refine .inl ⟨h1, fun z hz => ?_⟩
        rcases List.mem_cons.1 hz with rfl | hz
        · exact rl73 (by simpa using c)
        · exact h2 z hz
      · exact .inr h
theorem fs17 {a0 : K_B} (h : ¬ ((m17 a0) != 0) = true) : a0.f2.length ≤ 12 ∧ a0.f3.length ≤ 6 ∧ (∀ z ∈ a0.f3, z.f3.length ≤ 12) ∧ a0.f4.length ≤ 8 := by
  have h : m17 a0 = 0 := by simpa using h
  unfold m17 at h
  split at h
  · cases h
  split at h
  · cases h
  split at h
  · cases h
  split at h
  · cases h
  split at h
  · rename_i h2; rw [h] at h2; simp at h2
  rename_i h2
  split at h
  · cases h
  split at h
  · cases h
  rename_i h4
  split at h
  · cases h
  rename_i h5
  simp only [length_map, decide_eq_true_eq] at h4 h5
  rcases rz17 a0 a0.f3 0 with ⟨_, hz⟩ | ⟨w, hw, hn⟩
  · exact ⟨len12_46 _ h2, by omega, hz, by omega⟩
  · rw [hw] at h; exact absurd h hn
/-! slices.Clone[[]loop.example/g00539/impl.Weight,loop.example/g00539/impl.Weight] -/
theorem e106 {a0 : List K_si} {l0 : Nat} (hy0 : length a0 * 24 ≤ 70368744177664) : Ev F X (.call 106 [(.one (.bor l0 (map b_si a0)))] [] [] [(.one (.own 2 (map d_si a0)))]) := by
  refine .ext (.inl ⟨rfl, ?_⟩)
  have e : fromBR l0 (map b_si a0) = map d_si a0 := by first | exact fromBR_si .. | simp [fromBR_si]
  refine ⟨l0, _, rfl, by rw [e], by rw [e]; simpa using hy0, by rw [e]; exact lenD_si _, by rw [e]; first | exact pureR_si _ | simp [pureR_si]⟩
/-! loop 140_0 -/
inductive O140_0 where
  | k0 (w0 : List K_R) (w1 : Int) (w2 : Bool)
def r140_0 (a0 : K_B) : List K_R → Int → List K_R → O140_0
  | x0 :: y0, i, v0 =>
    (r140_0 a0 y0 (i + 1) (v0 ++ ([x0])))
  | [], i, v0 => (O140_0.k0 v0 i (decide (i < ((length (map b_R a0.f3)) : Int))))
def h140_0 (l0_2 : Nat) (l0_3 : Nat) (l0_4 : Nat) (a0 : K_B) (i : Int) (v0 : List K_R) : St := ⟨[(1, (.ptr ⟨(1, 0, 0), [], 0, 0, 8⟩)), (2, (.ptr ⟨(2, 0, 0), [], 0, 0, 8⟩)), (3, (.one (.ref ⟨(3, 0, 0), [], 0, (length (map d_R v0))⟩))), (16, (.one (.bor l0_3 (map b_R a0.f3)))), (17, (.one (.val (.int .i64 ((length (map b_R a0.f3)) : Int))))), (18, (.one (.val (.int .i64 i))))], [((1, 0, 0), .live ⟨8, [[(.val (.int .i64 a0.f0)), (.val (.int .i64 a0.f1)), (.own 2 (map d_si a0.f2)), (.bor l0_3 (map b_R a0.f3)), (.own 2 (map d_si a0.f4)), (.val (.int .i64 a0.f5)), (.val (.int .i64 a0.f6)), (.val (.int .i64 a0.f7))]], []⟩), ((2, 0, 0), .live ⟨8, [[(.val (.int .i64 0)), (.val (.int .i64 0)), (.own 2 []), (.own 5 []), (.own 2 []), (.val (.int .i64 0)), (.val (.int .i64 0)), (.val (.int .i64 0))]], []⟩), ((3, 0, 0), .live ⟨5, (map d_R v0), []⟩)]⟩
def ex140_0 : O140_0 → VX.Exit
  | .k0 _ _ _ => (.exit 0)
def fin140_0 (l0_2 : Nat) (l0_3 : Nat) (l0_4 : Nat) (a0 : K_B) : O140_0 → St
  | .k0 w0 w1 w2 => ⟨[(1, (.ptr ⟨(1, 0, 0), [], 0, 0, 8⟩)), (2, (.ptr ⟨(2, 0, 0), [], 0, 0, 8⟩)), (3, (.one (.ref ⟨(3, 0, 0), [], 0, (length (map d_R w0))⟩))), (16, (.one (.bor l0_3 (map b_R a0.f3)))), (17, (.one (.val (.int .i64 ((length (map b_R a0.f3)) : Int))))), (18, (.one (.val (.int .i64 w1)))), (19, (.one (.val (.bool w2))))], [((1, 0, 0), .live ⟨8, [[(.val (.int .i64 a0.f0)), (.val (.int .i64 a0.f1)), (.own 2 (map d_si a0.f2)), (.bor l0_3 (map b_R a0.f3)), (.own 2 (map d_si a0.f4)), (.val (.int .i64 a0.f5)), (.val (.int .i64 a0.f6)), (.val (.int .i64 a0.f7))]], []⟩), ((2, 0, 0), .live ⟨8, [[(.val (.int .i64 0)), (.val (.int .i64 0)), (.own 2 []), (.own 5 []), (.own 2 []), (.val (.int .i64 0)), (.val (.int .i64 0)), (.val (.int .i64 0))]], []⟩), ((3, 0, 0), .live ⟨5, (map d_R w0), []⟩)]⟩
theorem t140_0 {l0_2 : Nat} {l0_3 : Nat} {l0_4 : Nat} {a0 : K_B} (hy0 : length a0.f2 ≤ 100) (hy1 : length a0.f3 ≤ 100) (hy2 : ∀ z ∈ a0.f3, length z.f3 ≤ 100) (hy3 : length a0.f4 ≤ 100) (hy4 : ∀ z ∈ a0.f3, ok_R z) : ∀ (y0 : List K_R) (p : List K_R) (v0 : List K_R), p ++ y0 = a0.f3 → (length v0 + length y0) * 56 ≤ 70368744177664 → Ev F X (.code l140_0 (h140_0 l0_2 l0_3 l0_4 a0 (length p : Int) v0) (ex140_0 (r140_0 a0 y0 (length p : Int) v0)) (fin140_0 l0_2 l0_3 l0_4 a0 (r140_0 a0 y0 (length p : Int) v0)))
  | [], p, v0, hp0, hi0 => by
    have hc : ¬ (decide ((length p : Int) < ((length (map b_R a0.f3)) : Int))) = true := by
      rw [← hp0]; simp only [length_map, length_set, length_append, length_replicate, length_cons, length_nil, decide_eq_true_eq]; omega
    have hj0 := hi0; try simp only [length_map, length_set, length_append, length_replicate, length_cons, length_nil, Int.toNat_natCast] at hj0
    have st := codeH_ok (F := F) (X := X) (c := b140_0) (t := 0) (hs := [(2, .b false)]) (σ := h140_0 l0_2 l0_3 l0_4 a0 (length p : Int) v0) (σ' := fin140_0 l0_2 l0_3 l0_4 a0 (.k0 v0 (length p : Int) (decide ((length p : Int) < ((length (map b_R a0.f3)) : Int))))) (e := (.exit 0)) (t' := 3) (hs' := []) (q := [(decide ((length p : Int) < ((length (map b_R a0.f3)) : Int))) = false]) (by kernel_rfl) ⟨(nt hc), trivial⟩
    exact .loopX st (show ((.exit 0) : VX.Exit) ≠ .normal from by simp)
  | x0 :: y0, p, v0, hp0, hi0 => by
    have hc : (decide ((length p : Int) < ((length (map b_R a0.f3)) : Int))) = true := by
      rw [← hp0]; simp only [length_map, length_set, length_append, length_replicate, length_cons, length_nil, decide_eq_true_eq]; omega
    have Hx0 : (a0.f3)[Int.toNat (length p : Int)]? = some x0 := by
      rw [← hp0, Int.toNat_natCast]; simp
    have Nx0_2 := hy2 x0 (List.mem_of_getElem? Hx0)
    have Mx0_0 := hy4 x0 (List.mem_of_getElem? Hx0)
    have hlen : length (a0.f3) = length p + length y0 + 1 := by rw [← hp0]; simp; omega
    have hw : IntKind.wrap .i64 ((length p : Int) + 1) = (length p : Int) + 1 := wrap64 (by omega)
    have hj0 := hi0; try simp only [length_map, length_set, length_append, length_replicate, length_cons, length_nil, Int.toNat_natCast] at hj0
    simp only [r140_0]
    have st := codeH_ok (F := F) (X := X) (c := b140_0) (t := 0) (hs := [(2, .b true), (4, .row [(.i x0.f0), (.i x0.f1), (.i x0.f2), (.sl (map b_si x0.f3)), (.i x0.f4)]), (16, .ret [] [(.one (.own 2 (map d_si x0.f3)))] [] []), (28, .b false), (31, .norm (3, 0, 0) (map d_R (v0 ++ ([x0]))))]) (σ := h140_0 l0_2 l0_3 l0_4 a0 (length p : Int) v0) (σ' := ⟨[(1, (.ptr ⟨(1, 0, 0), [], 0, 0, 8⟩)), (2, (.ptr ⟨(2, 0, 0), [], 0, 0, 8⟩)), (3, (.one (.ref ⟨(3, 0, 0), [], 0, (length ((take (length (map d_R v0)) (drop 0 (map d_R v0))) ++ ([[(.i x0.f0), (.i x0.f1), (.i x0.f2), (.own 2 (map d_si x0.f3)), (.i x0.f4)]] : List (List D))))⟩))), (16, (.one (.bor l0_3 (map b_R a0.f3)))), (17, (.oi ((length (map b_R a0.f3)) : Int))), (18, (.oi (IntKind.wrap .i64 ((length p : Int) + 1))))], [((1, 0, 0), .live ⟨8, [[(.i a0.f0), (.i a0.f1), (.own 2 (map d_si a0.f2)), (.bor l0_3 (map b_R a0.f3)), (.own 2 (map d_si a0.f4)), (.i a0.f5), (.i a0.f6), (.i a0.f7)]], []⟩), ((2, 0, 0), .live ⟨8, [[(.i 0), (.i 0), (.own 2 []), (.own 5 []), (.own 2 []), (.i 0), (.i 0), (.i 0)]], []⟩), ((3, 0, 0), .live ⟨5, (map d_R (v0 ++ ([x0]))), []⟩)]⟩) (e := .normal) (t' := 36) (hs' := []) (q := [(decide ((length p : Int) < ((length (map b_R a0.f3)) : Int))) = true, 0 ≤ (length p : Int), (map b_R a0.f3)[(Int.toNat (length p : Int))]? = some [(.i x0.f0), (.i x0.f1), (.i x0.f2), (.sl (map b_si x0.f3)), (.i x0.f4)], Ev F X (.call 106 [(.one (.bor (l0_3 + 1) (map b_si x0.f3)))] [] [] [(.one (.own 2 (map d_si x0.f3)))]), 0 = 0, (length (map d_si x0.f3)) = (length (map d_si x0.f3)), 0 = 0, (length (map d_si x0.f3)) = (length (map d_si x0.f3)), 0 + (length (map d_R v0)) ≤ (length (map d_R v0)), 1 ≤ 1, ((take 1 (drop 0 [[(.i x0.f0), (.i x0.f1), (.i x0.f2), (.own 2 (map d_si x0.f3)), (.i x0.f4)]])).all fun x => x.all copyable) = false, 0 = 0, 1 = 1, (length ((take (length (map d_R v0)) (drop 0 (map d_R v0))) ++ ([[(.i x0.f0), (.i x0.f1), (.i x0.f2), (.own 2 (map d_si x0.f3)), (.i x0.f4)]] : List (List D)))) * 56 ≤ 70368744177664, ∀ r ∈ ([[(.i x0.f0), (.i x0.f1), (.i x0.f2), (.own 2 (map d_si x0.f3)), (.i x0.f4)]] : List (List D)), r.length = 5, ((take (length (map d_R v0)) (drop 0 (map d_R v0))) ++ ([[(.i x0.f0), (.i x0.f1), (.i x0.f2), (.own 2 (map d_si x0.f3)), (.i x0.f4)]] : List (List D))) = (map d_R (v0 ++ ([x0]))), True]) (by kernel_rfl) ⟨hc, (by omega), (by rw [getElem?_map, Hx0]; rfl), (e106 (a0 := x0.f3) (by omega)), rfl, rfl, rfl, rfl, (by omega), (by omega), (by trivial), rfl, rfl, (by simp only [length_map, length_append, length_cons, length_nil, length_take, length_drop]; omega), (by simp [ol85, ol86, ol27_0, ol27_1, ol27_2, ol28_0, ol28_1, ol28_2]; done), (by simp [byteRows_eq, ints_y, take_of_length_le, d_si, d_R, d_B, d_s, d_i, d_b, d_C, d_LsiE, d_Q, d_y, fromBR_si, fromBR_s, fromBR_i, fromBR_b, fromBR_y, ol85, ol86, ol27_0, ol27_1, ol27_2, ol28_0, ol28_1, ol28_2]; done), trivial, trivial⟩
    have ih := t140_0 (l0_2 := l0_2) (l0_3 := l0_3) (l0_4 := l0_4) (a0 := a0) hy0 hy1 hy2 hy3 hy4 y0 (p ++ [x0]) (v0 ++ ([x0])) (by rw [append_assoc]; exact hp0) (by simp only [length_map, length_set, length_append, length_replicate, length_cons, length_nil]; omega)
    rw [show ((p ++ [x0]).length : Int) = (p.length : Int) + 1 from by simp] at ih
    rw [show (⟨[(1, (.ptr ⟨(1, 0, 0), [], 0, 0, 8⟩)), (2, (.ptr ⟨(2, 0, 0), [], 0, 0, 8⟩)), (3, (.one (.ref ⟨(3, 0, 0), [], 0, (length ((take (length (map d_R v0)) (drop 0 (map d_R v0))) ++ ([[(.i x0.f0), (.i x0.f1), (.i x0.f2), (.own 2 (map d_si x0.f3)), (.i x0.f4)]] : List (List D))))⟩))), (16, (.one (.bor l0_3 (map b_R a0.f3)))), (17, (.oi ((length (map b_R a0.f3)) : Int))), (18, (.oi (IntKind.wrap .i64 ((length p : Int) + 1))))], [((1, 0, 0), .live ⟨8, [[(.i a0.f0), (.i a0.f1), (.own 2 (map d_si a0.f2)), (.bor l0_3 (map b_R a0.f3)), (.own 2 (map d_si a0.f4)), (.i a0.f5), (.i a0.f6), (.i a0.f7)]], []⟩), ((2, 0, 0), .live ⟨8, [[(.i 0), (.i 0), (.own 2 []), (.own 5 []), (.own 2 []), (.i 0), (.i 0), (.i 0)]], []⟩), ((3, 0, 0), .live ⟨5, (map d_R (v0 ++ ([x0]))), []⟩)]⟩ : St) = h140_0 l0_2 l0_3 l0_4 a0 ((length p : Int) + 1) (v0 ++ ([x0])) from (by unfold h140_0; simp [hw, byteRows_eq, ints_y, take_of_length_le, d_si, d_R, d_B, d_s, d_i, d_b, d_C, d_LsiE, d_Q, d_y, fromBR_si, fromBR_s, fromBR_i, fromBR_b, fromBR_y, ol85, ol86, ol27_0, ol27_1, ol27_2, ol28_0, ol28_1, ol28_2]; done)] at st
    exact .loopN st ih
def post140_0 (n0 : Nat) : O140_0 → Prop
  | .k0 w0 _ _ => length w0 = n0
theorem z140_0 {a0 : K_B} : ∀ (y0 : List K_R) (i : Int) (v0 : List K_R), post140_0 (length v0 + length y0) (r140_0 a0 y0 i v0)
  | [], i, v0 => by
    first | trivial | (simp only [post140_0, length_nil, Nat.add_zero]; done) | (simp [post140_0]; done)
  | x0 :: y0, i, v0 => by
    simp only [r140_0]
    have z := z140_0 (a0 := a0) y0 (i + 1) (v0 ++ ([x0]))
    rw [show (length v0 + length (x0 :: y0)) = (length (v0 ++ ([x0])) + length y0) from by first | omega | (simp only [length_map, length_set, length_append, length_replicate, length_cons, length_nil]; done) | (simp only [length_map, length_set, length_append, length_replicate, length_cons, length_nil]; omega)]
    exact z
/-! loop.example/g00539/impl.cloneLedger -/
def m140 (a0 : K_B) : K_B :=
  (match r140_0 a0 a0.f3 0 ([]) with | .k0 w0_2 w1_2 w2_2 => (K_B.mk a0.f0 a0.f1 a0.f2 w0_2 a0.f4 a0.f5 a0.f6 a0.f7))
theorem e140 {l0_2 : Nat} {l0_3 : Nat} {l0_4 : Nat} {a0 : K_B} (hy0 : length a0.f2 ≤ 100) (hy1 : length a0.f3 ≤ 100) (hy2 : ∀ z ∈ a0.f3, length z.f3 ≤ 100) (hy3 : length a0.f4 ≤ 100) (hy4 : ∀ z ∈ a0.f3, ok_R z) : Ev F X (.call 140 [(.agg [(.val (.int .i64 a0.f0)), (.val (.int .i64 a0.f1)), (.bor l0_2 (map b_si a0.f2)), (.bor l0_3 (map b_R a0.f3)), (.bor l0_4 (map b_si a0.f4)), (.val (.int .i64 a0.f5)), (.val (.int .i64 a0.f6)), (.val (.int .i64 a0.f7))])] [] [] [(.agg [(.val (.int .i64 ((m140 a0).f0))), (.val (.int .i64 ((m140 a0).f1))), (.own 2 (map d_si ((m140 a0).f2))), (.own 5 (map d_R ((m140 a0).f3))), (.own 2 (map d_si ((m140 a0).f4))), (.val (.int .i64 ((m140 a0).f5))), (.val (.int .i64 ((m140 a0).f6))), (.val (.int .i64 ((m140 a0).f7)))])]) := by
  unfold m140
  have f0 : Ev F X (.call 106 [(.one (.bor (l0_2 + 1) (map b_si a0.f2)))] [] [] [(.one (.own 2 (map d_si a0.f2)))]) := (e106 (a0 := a0.f2) (by omega))
  have f1 : Ev F X (.call 106 [(.one (.bor (l0_4 + 1) (map b_si a0.f4)))] [] [] [(.one (.own 2 (map d_si a0.f4)))]) := (e106 (a0 := a0.f4) (by omega))
  have f2 : 0 = 0 := rfl
  have f3 : (length (map d_si a0.f2)) = (length (map d_si a0.f2)) := rfl
  have f4 : 0 = 0 := rfl
  have f5 : (length (map d_si a0.f4)) = (length (map d_si a0.f4)) := rfl
  cases h0 : r140_0 a0 a0.f3 0 ([]) with
  | k0 w0_2 w1_2 w2_2 =>
    try dsimp only
    have zh0 := z140_0 (a0 := a0) a0.f3 0 ([]); rw [h0] at zh0; simp only [post140_0, length_map, length_set, length_append, length_replicate, length_cons, length_nil, Int.toNat_natCast] at zh0
    have f6 : (⟨[(1, (.ptr ⟨(1, 0, 0), [], 0, 0, 8⟩)), (2, (.ptr ⟨(2, 0, 0), [], 0, 0, 8⟩)), (3, (.one (.ref ⟨(3, 0, 0), [], 0, 0⟩))), (16, (.one (.bor l0_3 (map b_R a0.f3)))), (17, (.oi ((length (map b_R a0.f3)) : Int))), (18, (.oi 0))], [((1, 0, 0), .live ⟨8, [[(.i a0.f0), (.i a0.f1), (.own 2 (map d_si a0.f2)), (.bor l0_3 (map b_R a0.f3)), (.own 2 (map d_si a0.f4)), (.i a0.f5), (.i a0.f6), (.i a0.f7)]], []⟩), ((2, 0, 0), .live ⟨8, [[(.i 0), (.i 0), (.own 2 []), (.own 5 []), (.own 2 []), (.i 0), (.i 0), (.i 0)]], []⟩), ((3, 0, 0), .live ⟨5, [], []⟩)]⟩ : St) = h140_0 l0_2 l0_3 l0_4 a0 0 ([]) := (by rfl)
    have f7 : Ev F X (.code l140_0 (h140_0 l0_2 l0_3 l0_4 a0 0 ([])) (.exit 0) ⟨[(1, (.ptr ⟨(1, 0, 0), [], 0, 0, 8⟩)), (2, (.ptr ⟨(2, 0, 0), [], 0, 0, 8⟩)), (3, (.one (.ref ⟨(3, 0, 0), [], 0, (length (map d_R w0_2))⟩))), (16, (.one (.bor l0_3 (map b_R a0.f3)))), (17, (.oi ((length (map b_R a0.f3)) : Int))), (18, (.oi w1_2)), (19, (.one (.val (.bool w2_2))))], [((1, 0, 0), .live ⟨8, [[(.i a0.f0), (.i a0.f1), (.own 2 (map d_si a0.f2)), (.bor l0_3 (map b_R a0.f3)), (.own 2 (map d_si a0.f4)), (.i a0.f5), (.i a0.f6), (.i a0.f7)]], []⟩), ((2, 0, 0), .live ⟨8, [[(.i 0), (.i 0), (.own 2 []), (.own 5 []), (.own 2 []), (.i 0), (.i 0), (.i 0)]], []⟩), ((3, 0, 0), .live ⟨5, (map d_R w0_2), []⟩)]⟩) := (by have t : Ev F X (.code l140_0 (h140_0 l0_2 l0_3 l0_4 a0 0 ([])) (ex140_0 (r140_0 a0 a0.f3 0 ([]))) (fin140_0 l0_2 l0_3 l0_4 a0 (r140_0 a0 a0.f3 0 ([])))) := t140_0 (l0_2 := l0_2) (l0_3 := l0_3) (l0_4 := l0_4) (a0 := a0) (by assumption) (by assumption) (by assumption) (by assumption) (by assumption) a0.f3 [] ([]) rfl (by simp only [length_map, length_set, length_append, length_replicate, length_cons, length_nil]; omega); rw [h0] at t; exact t)
    have f8 : 0 = 0 := rfl
    have f9 : (length (map d_R w0_2)) = (length (map d_R w0_2)) := rfl
    have f10 : 0 = 0 := rfl
    have f11 : (length (map d_si a0.f2)) = (length (map d_si a0.f2)) := rfl
    have f12 : 0 = 0 := rfl
    have f13 : (length (map d_R w0_2)) = (length (map d_R w0_2)) := rfl
    have f14 : 0 = 0 := rfl
    have f15 : (length (map d_si a0.f4)) = (length (map d_si a0.f4)) := rfl
    have f16 : pureR (map d_si a0.f2) = true := (pureR_si _)
    have f17 : pureR (map d_R w0_2) = true := (pureR_R _)
    have f18 : pureR (map d_si a0.f4) = true := (pureR_si _)
    exact callP_ok (ps := []) (os := []) (rs := [(.agg [(.i a0.f0), (.i a0.f1), (.own 2 (map d_si a0.f2)), (.own 5 (map d_R w0_2)), (.own 2 (map d_si a0.f4)), (.i a0.f5), (.i a0.f6), (.i a0.f7)])]) (by kernel_rfl) (.r 9 [] [] f0 (.r 15 [] [] f1 (.f f2 (.f f3 (.f f4 (.f f5 (.f f6 (.f f7 (.f f8 (.f f9 (.f f10 (.f f11 (.f f12 (.f f13 (.f f14 (.f f15 (.f f16 (.f f17 (.f f18 (.h 36 (.loop (h140_0 l0_2 l0_3 l0_4 a0 0 ([])) (.exit 0) ⟨[(1, (.ptr ⟨(1, 0, 0), [], 0, 0, 8⟩)), (2, (.ptr ⟨(2, 0, 0), [], 0, 0, 8⟩)), (3, (.one (.ref ⟨(3, 0, 0), [], 0, (length (map d_R w0_2))⟩))), (16, (.one (.bor l0_3 (map b_R a0.f3)))), (17, (.oi ((length (map b_R a0.f3)) : Int))), (18, (.oi w1_2)), (19, (.one (.val (.bool w2_2))))], [((1, 0, 0), .live ⟨8, [[(.i a0.f0), (.i a0.f1), (.own 2 (map d_si a0.f2)), (.bor l0_3 (map b_R a0.f3)), (.own 2 (map d_si a0.f4)), (.i a0.f5), (.i a0.f6), (.i a0.f7)]], []⟩), ((2, 0, 0), .live ⟨8, [[(.i 0), (.i 0), (.own 2 []), (.own 5 []), (.own 2 []), (.i 0), (.i 0), (.i 0)]], []⟩), ((3, 0, 0), .live ⟨5, (map d_R w0_2), []⟩)]⟩) .nil))))))))))))))))))))
theorem cl140 (a0 : K_B) : ∀ (l : List K_R) (i : Int) (v : List K_R), ∃ j b, r140_0 a0 l i v = .k0 (v ++ l) j b
  | [], i, v => ⟨_, _, by rw [List.append_nil]; rfl⟩
  | x :: l, i, v => by
    obtain ⟨j, b, h⟩ := cl140 a0 l (i + 1) (v ++ [x])
    refine ⟨j, b, ?_⟩
    simp only [r140_0]
    rw [show v ++ x :: l = (v ++ [x]) ++ l by simp, ← h]
theorem cp140 (a0 : K_B) : m140 a0 = a0 := by
  unfold m140
  obtain ⟨j, b, h⟩ := cl140 a0 a0.f3 0 []
  rw [h]; rfl
/-! loop 80_0 -/
inductive O80_0 where
  | k0 (w0 : Int) (w1 : Int) (w2 : Bool)
def r80_0 (a0 : (List K_si)) (a1 : ByteArray) : List K_si → Int → Int → O80_0
  | x0 :: y0, i, v1 =>
    if (x0.f0.toList == a1.toList) = true then (r80_0 a0 a1 y0 (i + 1) (IntKind.wrap .i64 (v1 + x0.f1))) else
    (r80_0 a0 a1 y0 (i + 1) v1)
  | [], i, v1 => (O80_0.k0 v1 i (decide (i < ((length (map b_si a0)) : Int))))
def h80_0 (l0_0 : Nat) (a0 : (List K_si)) (a1 : ByteArray) (i : Int) (v1 : Int) : St := ⟨[(1, (.one (.val (.string a1)))), (5, (.one (.val (.int .i64 v1)))), (8, (.one (.bor l0_0 (map b_si a0)))), (9, (.one (.val (.int .i64 ((length (map b_si a0)) : Int))))), (10, (.one (.val (.int .i64 i))))], []⟩
def ex80_0 : O80_0 → VX.Exit
  | .k0 _ _ _ => (.exit 0)
def fin80_0 (l0_0 : Nat) (a0 : (List K_si)) (a1 : ByteArray) : O80_0 → St
  | .k0 w0 w1 w2 => ⟨[(1, (.one (.val (.string a1)))), (5, (.one (.val (.int .i64 w0)))), (8, (.one (.bor l0_0 (map b_si a0)))), (9, (.one (.val (.int .i64 ((length (map b_si a0)) : Int))))), (10, (.one (.val (.int .i64 w1)))), (11, (.one (.val (.bool w2))))], []⟩
theorem t80_0 {l0_0 : Nat} {a0 : (List K_si)} {a1 : ByteArray} (hy0 : length a0 * 24 ≤ 140737488351232) : ∀ (y0 : List K_si) (p : List K_si) (v1 : Int), p ++ y0 = a0 → Ev F X (.code l80_0 (h80_0 l0_0 a0 a1 (length p : Int) v1) (ex80_0 (r80_0 a0 a1 y0 (length p : Int) v1)) (fin80_0 l0_0 a0 a1 (r80_0 a0 a1 y0 (length p : Int) v1)))
  | [], p, v1, hp0 => by
    have hc : ¬ (decide ((length p : Int) < ((length (map b_si a0)) : Int))) = true := by
      rw [← hp0]; simp only [length_map, length_set, length_append, length_replicate, length_cons, length_nil, decide_eq_true_eq]; omega
    have st := codeH_ok (F := F) (X := X) (c := b80_0) (t := 0) (hs := [(2, .b false)]) (σ := h80_0 l0_0 a0 a1 (length p : Int) v1) (σ' := fin80_0 l0_0 a0 a1 (.k0 v1 (length p : Int) (decide ((length p : Int) < ((length (map b_si a0)) : Int))))) (e := (.exit 0)) (t' := 3) (hs' := []) (q := [(decide ((length p : Int) < ((length (map b_si a0)) : Int))) = false]) (by kernel_rfl) ⟨(nt hc), trivial⟩
    exact .loopX st (show ((.exit 0) : VX.Exit) ≠ .normal from by simp)
  | x0 :: y0, p, v1, hp0 => by
    have hc : (decide ((length p : Int) < ((length (map b_si a0)) : Int))) = true := by
      rw [← hp0]; simp only [length_map, length_set, length_append, length_replicate, length_cons, length_nil, decide_eq_true_eq]; omega
    have Hx0 : (a0)[Int.toNat (length p : Int)]? = some x0 := by
      rw [← hp0, Int.toNat_natCast]; simp
    have hlen : length (a0) = length p + length y0 + 1 := by rw [← hp0]; simp; omega
    have hw : IntKind.wrap .i64 ((length p : Int) + 1) = (length p : Int) + 1 := wrap64 (by omega)
    simp only [r80_0]
    by_cases h_1 : (x0.f0.toList == a1.toList) = true
    · try simp only [if_pos h_1]
      have st := codeH_ok (F := F) (X := X) (c := b80_0) (t := 0) (hs := [(2, .b true), (4, .row [(.val (.string x0.f0)), (.i x0.f1)]), (19, .b true)]) (σ := h80_0 l0_0 a0 a1 (length p : Int) v1) (σ' := ⟨[(1, (.one (.val (.string a1)))), (5, (.oi (IntKind.wrap .i64 (v1 + x0.f1)))), (8, (.one (.bor l0_0 (map b_si a0)))), (9, (.oi ((length (map b_si a0)) : Int))), (10, (.oi (IntKind.wrap .i64 ((length p : Int) + 1))))], []⟩) (e := .normal) (t' := 34) (hs' := []) (q := [(decide ((length p : Int) < ((length (map b_si a0)) : Int))) = true, 0 ≤ (length p : Int), (map b_si a0)[(Int.toNat (length p : Int))]? = some [(.val (.string x0.f0)), (.i x0.f1)], (x0.f0.toList == a1.toList) = true, True, True]) (by kernel_rfl) ⟨hc, (by omega), (by rw [getElem?_map, Hx0]; rfl), h_1, trivial, trivial, trivial⟩
      have ih := t80_0 (l0_0 := l0_0) (a0 := a0) (a1 := a1) hy0 y0 (p ++ [x0]) (IntKind.wrap .i64 (v1 + x0.f1)) (by rw [append_assoc]; exact hp0)
      rw [show ((p ++ [x0]).length : Int) = (p.length : Int) + 1 from by simp] at ih
      rw [show (⟨[(1, (.one (.val (.string a1)))), (5, (.oi (IntKind.wrap .i64 (v1 + x0.f1)))), (8, (.one (.bor l0_0 (map b_si a0)))), (9, (.oi ((length (map b_si a0)) : Int))), (10, (.oi (IntKind.wrap .i64 ((length p : Int) + 1))))], []⟩ : St) = h80_0 l0_0 a0 a1 ((length p : Int) + 1) (IntKind.wrap .i64 (v1 + x0.f1)) from (by unfold h80_0; simp only [hw]; done)] at st
      exact .loopN st ih
    · try simp only [if_neg h_1]
      have st := codeH_ok (F := F) (X := X) (c := b80_0) (t := 0) (hs := [(2, .b true), (4, .row [(.val (.string x0.f0)), (.i x0.f1)]), (19, .b false)]) (σ := h80_0 l0_0 a0 a1 (length p : Int) v1) (σ' := ⟨[(1, (.one (.val (.string a1)))), (5, (.oi v1)), (8, (.one (.bor l0_0 (map b_si a0)))), (9, (.oi ((length (map b_si a0)) : Int))), (10, (.oi (IntKind.wrap .i64 ((length p : Int) + 1))))], []⟩) (e := .normal) (t' := 24) (hs' := []) (q := [(decide ((length p : Int) < ((length (map b_si a0)) : Int))) = true, 0 ≤ (length p : Int), (map b_si a0)[(Int.toNat (length p : Int))]? = some [(.val (.string x0.f0)), (.i x0.f1)], (x0.f0.toList == a1.toList) = false, True]) (by kernel_rfl) ⟨hc, (by omega), (by rw [getElem?_map, Hx0]; rfl), (nt h_1), trivial, trivial⟩
      have ih := t80_0 (l0_0 := l0_0) (a0 := a0) (a1 := a1) hy0 y0 (p ++ [x0]) v1 (by rw [append_assoc]; exact hp0)
      rw [show ((p ++ [x0]).length : Int) = (p.length : Int) + 1 from by simp] at ih
      rw [show (⟨[(1, (.one (.val (.string a1)))), (5, (.oi v1)), (8, (.one (.bor l0_0 (map b_si a0)))), (9, (.oi ((length (map b_si a0)) : Int))), (10, (.oi (IntKind.wrap .i64 ((length p : Int) + 1))))], []⟩ : St) = h80_0 l0_0 a0 a1 ((length p : Int) + 1) v1 from (by unfold h80_0; simp only [hw]; done)] at st
      exact .loopN st ih
/-! loop.example/g00539/impl.amountOf -/
def m80 (a0 : (List K_si)) (a1 : ByteArray) : Int :=
  (match r80_0 a0 a1 a0 0 0 with | .k0 w0_0 w1_0 w2_0 => w0_0)
theorem e80 {l0_0 : Nat} {a0 : (List K_si)} {a1 : ByteArray} (hy0 : length a0 * 24 ≤ 140737488351232) : Ev F X (.call 80 [(.one (.bor l0_0 (map b_si a0))), (.one (.val (.string a1)))] [] [] [(.one (.val (.int .i64 (m80 a0 a1))))]) := by
  unfold m80
  cases h0 : r80_0 a0 a1 a0 0 0 with
  | k0 w0_0 w1_0 w2_0 =>
    try dsimp only
    have f0 : (⟨[(1, (.one (.val (.string a1)))), (5, (.oi 0)), (8, (.one (.bor l0_0 (map b_si a0)))), (9, (.oi ((length (map b_si a0)) : Int))), (10, (.oi 0))], []⟩ : St) = h80_0 l0_0 a0 a1 0 0 := (by rfl)
    have f1 : Ev F X (.code l80_0 (h80_0 l0_0 a0 a1 0 0) (.exit 0) ⟨[(1, (.one (.val (.string a1)))), (5, (.oi w0_0)), (8, (.one (.bor l0_0 (map b_si a0)))), (9, (.oi ((length (map b_si a0)) : Int))), (10, (.oi w1_0)), (11, (.one (.val (.bool w2_0))))], []⟩) := (by have t : Ev F X (.code l80_0 (h80_0 l0_0 a0 a1 0 0) (ex80_0 (r80_0 a0 a1 a0 0 0)) (fin80_0 l0_0 a0 a1 (r80_0 a0 a1 a0 0 0))) := t80_0 (l0_0 := l0_0) (a0 := a0) (a1 := a1) (by assumption) a0 [] 0 rfl; rw [h0] at t; exact t)
    exact callP_ok (ps := []) (os := []) (rs := [(.oi w0_0)]) (by kernel_rfl) (.f f0 (.f f1 (.h 10 (.loop (h80_0 l0_0 a0 a1 0 0) (.exit 0) ⟨[(1, (.one (.val (.string a1)))), (5, (.oi w0_0)), (8, (.one (.bor l0_0 (map b_si a0)))), (9, (.oi ((length (map b_si a0)) : Int))), (10, (.oi w1_0)), (11, (.one (.val (.bool w2_0))))], []⟩) .nil)))
theorem al80 (a : List K_si) (w : ByteArray) : ∀ (l : List K_si) (i j v : Int), (match r80_0 a w l i v with | .k0 z _ _ => z) = v ∨ (∃ z, r1014700_0 a w l j = .k1 z ∧ j ≤ z)
  | [], i, j, v => .inl rfl
  | y :: l, i, j, v => by
    have ih := al80 a w l (i + 1) (j + 1) v
    simp only [r80_0, r1014700_0]
    by_cases c : (y.f0.toList == w.toList) = true
    · simp only [if_pos c]; exact .inr ⟨_, rfl, Int.le_refl _⟩
    · simp only [if_neg c]
      rcases ih with h | ⟨z, h1, h2⟩
      · exact .inl h
      · exact .inr ⟨z, h1, by omega⟩
theorem am80 {a : List K_si} {w : ByteArray} (h : ¬ ((m80 a w) == 0) = true) : 0 ≤ m1014700 a w := by
  rcases al80 a w a 0 0 0 with h1 | ⟨z, h1, h2⟩
  · exact absurd (show ((m80 a w) == 0) = true by rw [show m80 a w = 0 from h1]; rfl) h
  · unfold m1014700; rw [h1]; exact h2
/-! loop.example/g00539/impl.PayWorker$1 -/
def o1009200_0 (a0 : K_B) (a101001 : ByteArray) (a102001 : Int) : K_B :=
  if ((m80 a0.f4 a101001) == 0) = true then a0 else
  if (!(m93 a102001 1 (m80 a0.f4 a101001))) = true then a0 else
    if (!(m93 (IntKind.wrap .i64 (a0.f5 + a102001)) 0 1000000)) = true then a0 else
      (K_B.mk a0.f0 a0.f1 a0.f2 a0.f3 (set a0.f4 (Int.toNat (m1014700 a0.f4 a101001)) (K_si.mk ((getD a0.f4 (Int.toNat (m1014700 a0.f4 a101001)) (K_si.mk (⟨#[]⟩ : ByteArray) 0)).f0) (IntKind.wrap .i64 (((getD a0.f4 (Int.toNat (m1014700 a0.f4 a101001)) (K_si.mk (⟨#[]⟩ : ByteArray) 0)).f1) - a102001)))) (IntKind.wrap .i64 (a0.f5 + a102001)) a0.f6 a0.f7)
def m1009200 (a0 : K_B) (a101001 : ByteArray) (a102001 : Int) : Int :=
  if ((m80 a0.f4 a101001) == 0) = true then 4 else
  if (!(m93 a102001 1 (m80 a0.f4 a101001))) = true then 3 else
    if (!(m93 (IntKind.wrap .i64 (a0.f5 + a102001)) 0 1000000)) = true then 7 else
      0
theorem e1009200 {a0 : K_B} {l101000 : Nat} {a101001 : ByteArray} {l102000 : Nat} {a102001 : Int} (hy0 : length a0.f2 ≤ 100) (hy1 : length a0.f3 ≤ 100) (hy2 : ∀ z ∈ a0.f3, length z.f3 ≤ 100) (hy3 : length a0.f4 ≤ 100) (hy4 : ∀ z ∈ a0.f3, ok_R z) : Ev F X (.call 92 [(.ptr ⟨(0, 0, 0), [], 0, 0, 8⟩), (.bptr l101000 [(.val (.string a101001))]), (.bptr l102000 [(.val (.int .i64 a102001))])] [((0, 0, 0), ⟨8, [[(.val (.int .i64 a0.f0)), (.val (.int .i64 a0.f1)), (.own 2 (map d_si a0.f2)), (.own 5 (map d_R a0.f3)), (.own 2 (map d_si a0.f4)), (.val (.int .i64 a0.f5)), (.val (.int .i64 a0.f6)), (.val (.int .i64 a0.f7))]], []⟩)] [[[(.val (.int .i64 ((o1009200_0 a0 a101001 a102001).f0))), (.val (.int .i64 ((o1009200_0 a0 a101001 a102001).f1))), (.own 2 (map d_si ((o1009200_0 a0 a101001 a102001).f2))), (.own 5 (map d_R ((o1009200_0 a0 a101001 a102001).f3))), (.own 2 (map d_si ((o1009200_0 a0 a101001 a102001).f4))), (.val (.int .i64 ((o1009200_0 a0 a101001 a102001).f5))), (.val (.int .i64 ((o1009200_0 a0 a101001 a102001).f6))), (.val (.int .i64 ((o1009200_0 a0 a101001 a102001).f7)))]]] [(.one (.val (.int .i64 (m1009200 a0 a101001 a102001))))]) := by
  unfold m1009200 o1009200_0
  have f0 : 0 + (length (map d_si a0.f4)) ≤ (length (map d_si a0.f4)) := (by omega)
  have f1 : fullR (take (length (map d_si a0.f4)) (drop 0 (map d_si a0.f4))) = true := (ft_si _ _ _)
  have f2 : toBR (take (length (map d_si a0.f4)) (drop 0 (map d_si a0.f4))) = (map b_si a0.f4) := (tb_si _)
  have f3 : Ev F X (.call 80 [(.one (.bor 0 (map b_si a0.f4))), (.one (.val (.string a101001)))] [] [] [(.oi (m80 a0.f4 a101001))]) := (e80 (a0 := a0.f4) (a1 := a101001) (by omega))
  by_cases h0 : ((m80 a0.f4 a101001) == 0) = true
  · try simp only [if_pos h0]
    have f5 : pureR (map d_si a0.f2) = true := (pureR_si _)
    have f6 : pureR (map d_R a0.f3) = true := (pureR_R _)
    have f7 : pureR (map d_si a0.f4) = true := (pureR_si _)
    exact callP_ok (ps := [false]) (os := [[[(.i a0.f0), (.i a0.f1), (.own 2 (map d_si a0.f2)), (.own 5 (map d_R a0.f3)), (.own 2 (map d_si a0.f4)), (.i a0.f5), (.i a0.f6), (.i a0.f7)]]]) (rs := [(.oi 4)]) (by kernel_rfl) (.f f0 (.f f1 (.f f2 (.r 13 [] [(map b_si a0.f4)] f3 (.f h0 (.f f5 (.f f6 (.f f7 (.h 22 (.b true) .nil)))))))))
  · try simp only [if_neg h0]
    have f5 : Ev F X (.call 93 [(.oi a102001), (.oi 1), (.oi (m80 a0.f4 a101001))] [] [] [(.one (.val (.bool (m93 a102001 1 (m80 a0.f4 a101001)))))]) := (e93 (a0 := a102001) (a1 := 1) (a2 := (m80 a0.f4 a101001)))
    by_cases h1 : (!(m93 a102001 1 (m80 a0.f4 a101001))) = true
    · try simp only [if_pos h1]
      have f7 : pureR (map d_si a0.f2) = true := (pureR_si _)
      have f8 : pureR (map d_R a0.f3) = true := (pureR_R _)
      have f9 : pureR (map d_si a0.f4) = true := (pureR_si _)
      exact callP_ok (ps := [false]) (os := [[[(.i a0.f0), (.i a0.f1), (.own 2 (map d_si a0.f2)), (.own 5 (map d_R a0.f3)), (.own 2 (map d_si a0.f4)), (.i a0.f5), (.i a0.f6), (.i a0.f7)]]]) (rs := [(.oi 3)]) (by kernel_rfl) (.f f0 (.f f1 (.f f2 (.r 13 [] [(map b_si a0.f4)] f3 (.f (nt h0) (.h 22 (.b false) (.r 28 [] [] f5 (.f h1 (.f f7 (.f f8 (.f f9 (.h 33 (.b true) .nil))))))))))))
    · try simp only [if_neg h1]
      have f8 : Ev F X (.call 72 [(.oi (IntKind.wrap .i64 (a0.f5 + a102001)))] [] [] [(.one (.val (.bool (m93 (IntKind.wrap .i64 (a0.f5 + a102001)) 0 1000000))))]) := (e72 (a0 := (IntKind.wrap .i64 (a0.f5 + a102001))))
      by_cases h2 : (!(m93 (IntKind.wrap .i64 (a0.f5 + a102001)) 0 1000000)) = true
      · try simp only [if_pos h2]
        have f10 : pureR (map d_si a0.f2) = true := (pureR_si _)
        have f11 : pureR (map d_R a0.f3) = true := (pureR_R _)
        have f12 : pureR (map d_si a0.f4) = true := (pureR_si _)
        exact callP_ok (ps := [false]) (os := [[[(.i a0.f0), (.i a0.f1), (.own 2 (map d_si a0.f2)), (.own 5 (map d_R a0.f3)), (.own 2 (map d_si a0.f4)), (.i a0.f5), (.i a0.f6), (.i a0.f7)]]]) (rs := [(.oi 7)]) (by kernel_rfl) (.f f0 (.f f1 (.f f2 (.r 13 [] [(map b_si a0.f4)] f3 (.f (nt h0) (.h 22 (.b false) (.r 28 [] [] f5 (.f (nt h1) (.f trivial (.h 33 (.b false) (.r 47 [] [] f8 (.f h2 (.f f10 (.f f11 (.f f12 (.h 52 (.b true) .nil))))))))))))))))
      · try simp only [if_neg h2]
        have f10 : 0 + (length (map d_si a0.f4)) ≤ (length (map d_si a0.f4)) := (by omega)
        have f11 : fullR (take (length (map d_si a0.f4)) (drop 0 (map d_si a0.f4))) = true := (ft_si _ _ _)
        have f12 : toBR (take (length (map d_si a0.f4)) (drop 0 (map d_si a0.f4))) = (map b_si a0.f4) := (tb_si _)
        have f13 : Ev F X (.call 94 [(.one (.bor 0 (map b_si a0.f4))), (.one (.val (.string a101001)))] [] [] [(.oi (m1014700 a0.f4 a101001))]) := (e94 (a0 := a0.f4) (a1 := a101001) (by omega))
        have f14 : 0 + (length (map d_si a0.f4)) ≤ (length (map d_si a0.f4)) := (by omega)
        have f15 : 0 ≤ (m1014700 a0.f4 a101001) ∧ (m1014700 a0.f4 a101001) < ((length (map d_si a0.f4)) : Int) := (by have q := ix1014700 a0.f4 a101001; have q2 := am80 (a := a0.f4) (w := a101001) (by with_reducible assumption); simp only [decide_eq_true_eq, length_map] at *; omega)
        have f16 : (map d_si a0.f4)[(0 + (Int.toNat (m1014700 a0.f4 a101001)))]? = some [(.val (.string ((getD a0.f4 (Int.toNat (m1014700 a0.f4 a101001)) (K_si.mk (⟨#[]⟩ : ByteArray) 0)).f0))), (.val (.int .i64 ((getD a0.f4 (Int.toNat (m1014700 a0.f4 a101001)) (K_si.mk (⟨#[]⟩ : ByteArray) 0)).f1)))] := (by rw [Nat.zero_add, getElem?_map, getD_at a0.f4 (Int.toNat (m1014700 a0.f4 a101001)) (K_si.mk (⟨#[]⟩ : ByteArray) 0) (by first | exact True.intro | with_reducible rfl | with_reducible assumption | omega | (have q := ix1014700 a0.f4 a101001; have q2 := am80 (a := a0.f4) (w := a101001) (by with_reducible assumption); simp only [decide_eq_true_eq, length_map] at *; omega) | (have q := ix1014700 a0.f4 a101001; simp only [decide_eq_true_eq, length_map] at *; omega) | (unfold m1014700; (repeat' split) <;> simp_all <;> omega) | (simp only [decide_eq_true_eq] at *; omega) | (simp only [length_map]; omega) | (simp [ol85, ol86, ol27_0, ol27_1, ol27_2, ol28_0, ol28_1, ol28_2]; omega) | (simp [take_of_length_le, ol85, ol86, ol27_0, ol27_1, ol27_2, ol28_0, ol28_1, ol28_2]; done) | assumption | trivial | (simp [*, ol85, ol86, ol27_0, ol27_1, ol27_2, ol28_0, ol28_1, ol28_2, byteRows_eq, ints_y]; done))]; rfl)
        have f17 : 0 + (length (map d_si a0.f4)) ≤ (length (map d_si a0.f4)) := (by omega)
        have f18 : 0 ≤ (m1014700 a0.f4 a101001) ∧ (m1014700 a0.f4 a101001) < ((length (map d_si a0.f4)) : Int) := (by with_reducible assumption)
        have f19 : (map d_si a0.f4)[(0 + (Int.toNat (m1014700 a0.f4 a101001)))]? = some [(.val (.string ((getD a0.f4 (Int.toNat (m1014700 a0.f4 a101001)) (K_si.mk (⟨#[]⟩ : ByteArray) 0)).f0))), (.val (.int .i64 ((getD a0.f4 (Int.toNat (m1014700 a0.f4 a101001)) (K_si.mk (⟨#[]⟩ : ByteArray) 0)).f1)))] := (by rw [Nat.zero_add, getElem?_map, getD_at a0.f4 (Int.toNat (m1014700 a0.f4 a101001)) (K_si.mk (⟨#[]⟩ : ByteArray) 0) (by first | exact True.intro | with_reducible rfl | with_reducible assumption | omega | (have q := ix1014700 a0.f4 a101001; have q2 := am80 (a := a0.f4) (w := a101001) (by with_reducible assumption); simp only [decide_eq_true_eq, length_map] at *; omega) | (have q := ix1014700 a0.f4 a101001; simp only [decide_eq_true_eq, length_map] at *; omega) | (unfold m1014700; (repeat' split) <;> simp_all <;> omega) | (simp only [decide_eq_true_eq] at *; omega) | (simp only [length_map]; omega) | (simp [ol85, ol86, ol27_0, ol27_1, ol27_2, ol28_0, ol28_1, ol28_2]; omega) | (simp [take_of_length_le, ol85, ol86, ol27_0, ol27_1, ol27_2, ol28_0, ol28_1, ol28_2]; done) | assumption | trivial | (simp [*, ol85, ol86, ol27_0, ol27_1, ol27_2, ol28_0, ol28_1, ol28_2, byteRows_eq, ints_y]; done))]; rfl)
        have f20 : ([[(.val (.int .i64 a0.f0)), (.val (.int .i64 a0.f1)), (.own 2 (map d_si a0.f2)), (.own 5 (map d_R a0.f3)), (.own 2 (set (map d_si a0.f4) (0 + (Int.toNat (m1014700 a0.f4 a101001))) [(.val (.string ((getD a0.f4 (Int.toNat (m1014700 a0.f4 a101001)) (K_si.mk (⟨#[]⟩ : ByteArray) 0)).f0))), (.val (.int .i64 (IntKind.wrap .i64 (((getD a0.f4 (Int.toNat (m1014700 a0.f4 a101001)) (K_si.mk (⟨#[]⟩ : ByteArray) 0)).f1) - a102001))))])), (.val (.int .i64 a0.f5)), (.val (.int .i64 a0.f6)), (.val (.int .i64 a0.f7))]] : List (List D)) = [[(.val (.int .i64 a0.f0)), (.val (.int .i64 a0.f1)), (.own 2 (map d_si a0.f2)), (.own 5 (map d_R a0.f3)), (.own 2 (map d_si (set a0.f4 (Int.toNat (m1014700 a0.f4 a101001)) (K_si.mk ((getD a0.f4 (Int.toNat (m1014700 a0.f4 a101001)) (K_si.mk (⟨#[]⟩ : ByteArray) 0)).f0) (IntKind.wrap .i64 (((getD a0.f4 (Int.toNat (m1014700 a0.f4 a101001)) (K_si.mk (⟨#[]⟩ : ByteArray) 0)).f1) - a102001)))))), (.val (.int .i64 a0.f5)), (.val (.int .i64 a0.f6)), (.val (.int .i64 a0.f7))]] := (by simp [byteRows_eq, ints_y, take_of_length_le, d_si, d_R, d_B, d_s, d_i, d_b, d_C, d_LsiE, d_Q, d_y, fromBR_si, fromBR_s, fromBR_i, fromBR_b, fromBR_y, ol85, ol86, ol27_0, ol27_1, ol27_2, ol28_0, ol28_1, ol28_2]; done)
        have f22 : pureR (map d_si a0.f2) = true := (pureR_si _)
        have f23 : pureR (map d_R a0.f3) = true := (pureR_R _)
        have f24 : pureR (map d_si (set a0.f4 (Int.toNat (m1014700 a0.f4 a101001)) (K_si.mk ((getD a0.f4 (Int.toNat (m1014700 a0.f4 a101001)) (K_si.mk (⟨#[]⟩ : ByteArray) 0)).f0) (IntKind.wrap .i64 (((getD a0.f4 (Int.toNat (m1014700 a0.f4 a101001)) (K_si.mk (⟨#[]⟩ : ByteArray) 0)).f1) - a102001))))) = true := (pureR_si _)
        exact callP_ok (ps := [false]) (os := [[[(.i a0.f0), (.i a0.f1), (.own 2 (map d_si a0.f2)), (.own 5 (map d_R a0.f3)), (.own 2 (map d_si (set a0.f4 (Int.toNat (m1014700 a0.f4 a101001)) (K_si.mk ((getD a0.f4 (Int.toNat (m1014700 a0.f4 a101001)) (K_si.mk (⟨#[]⟩ : ByteArray) 0)).f0) (IntKind.wrap .i64 (((getD a0.f4 (Int.toNat (m1014700 a0.f4 a101001)) (K_si.mk (⟨#[]⟩ : ByteArray) 0)).f1) - a102001)))))), (.i (IntKind.wrap .i64 (a0.f5 + a102001))), (.i a0.f6), (.i a0.f7)]]]) (rs := [(.oi 0)]) (by kernel_rfl) (.f f0 (.f f1 (.f f2 (.r 13 [] [(map b_si a0.f4)] f3 (.f (nt h0) (.h 22 (.b false) (.r 28 [] [] f5 (.f (nt h1) (.f trivial (.h 33 (.b false) (.r 47 [] [] f8 (.f (nt h2) (.f f10 (.f f11 (.f f12 (.h 52 (.b false) (.r 72 [] [(map b_si a0.f4)] f13 (.f f14 (.f f15 (.f f16 (.f f17 (.f f18 (.f f19 (.f f20 (.f trivial (.f f22 (.f f23 (.f f24 (.h 78 (.rowD [(.val (.string ((getD a0.f4 (Int.toNat (m1014700 a0.f4 a101001)) (K_si.mk (⟨#[]⟩ : ByteArray) 0)).f0))), (.i ((getD a0.f4 (Int.toNat (m1014700 a0.f4 a101001)) (K_si.mk (⟨#[]⟩ : ByteArray) 0)).f1))]) (.h 88 (.rowD [(.val (.string ((getD a0.f4 (Int.toNat (m1014700 a0.f4 a101001)) (K_si.mk (⟨#[]⟩ : ByteArray) 0)).f0))), (.i ((getD a0.f4 (Int.toNat (m1014700 a0.f4 a101001)) (K_si.mk (⟨#[]⟩ : ByteArray) 0)).f1))]) (.h 89 (.norm (0, 0, 0) [[(.i a0.f0), (.i a0.f1), (.own 2 (map d_si a0.f2)), (.own 5 (map d_R a0.f3)), (.own 2 (map d_si (set a0.f4 (Int.toNat (m1014700 a0.f4 a101001)) (K_si.mk ((getD a0.f4 (Int.toNat (m1014700 a0.f4 a101001)) (K_si.mk (⟨#[]⟩ : ByteArray) 0)).f0) (IntKind.wrap .i64 (((getD a0.f4 (Int.toNat (m1014700 a0.f4 a101001)) (K_si.mk (⟨#[]⟩ : ByteArray) 0)).f1) - a102001)))))), (.i a0.f5), (.i a0.f6), (.i a0.f7)]]) .nil)))))))))))))))))))))))))))))))
/-! loop.example/g00539/impl.changed -/
def m1008300 (a0 : K_B) (a2001 : ByteArray) (a2003 : Int) : K_C :=
  if ((m17 a0) != 0) = true then (K_C.mk (m17 a0) 0 0 0 [] [] [] 0 0 0) else
  if ((m1009200 (m140 a0) a2001 a2003) != 0) = true then (K_C.mk (m1009200 (m140 a0) a2001 a2003) 0 0 0 [] [] [] 0 0 0) else
    (K_C.mk 0 0 ((o1009200_0 (m140 a0) a2001 a2003).f0) ((o1009200_0 (m140 a0) a2001 a2003).f1) ((o1009200_0 (m140 a0) a2001 a2003).f2) ((o1009200_0 (m140 a0) a2001 a2003).f3) ((o1009200_0 (m140 a0) a2001 a2003).f4) ((o1009200_0 (m140 a0) a2001 a2003).f5) ((o1009200_0 (m140 a0) a2001 a2003).f6) ((o1009200_0 (m140 a0) a2001 a2003).f7))
theorem e1008300 {l0_2 : Nat} {l0_3 : Nat} {l0_4 : Nat} {a0 : K_B} {l2000 : Nat} {a2001 : ByteArray} {l2002 : Nat} {a2003 : Int} (hy0 : length a0.f2 * 24 ≤ 140737488351232) (hy1 : length a0.f3 * 56 ≤ 140737488351232) (hy2 : ∀ z ∈ a0.f3, ok_R z) (hy3 : length a0.f4 * 24 ≤ 140737488351232) : Ev F X (.call 83 [(.agg [(.val (.int .i64 a0.f0)), (.val (.int .i64 a0.f1)), (.bor l0_2 (map b_si a0.f2)), (.bor l0_3 (map b_R a0.f3)), (.bor l0_4 (map b_si a0.f4)), (.val (.int .i64 a0.f5)), (.val (.int .i64 a0.f6)), (.val (.int .i64 a0.f7))]), (.clo 92 [] [(.bptr l2000 [(.val (.string a2001))]), (.bptr l2002 [(.val (.int .i64 a2003))])])] [] [] [(.agg [(.val (.int .i64 ((m1008300 a0 a2001 a2003).f0))), (.val (.int .i64 ((m1008300 a0 a2001 a2003).f1))), (.val (.int .i64 ((m1008300 a0 a2001 a2003).f2))), (.val (.int .i64 ((m1008300 a0 a2001 a2003).f3))), (.own 2 (map d_si ((m1008300 a0 a2001 a2003).f4))), (.own 5 (map d_R ((m1008300 a0 a2001 a2003).f5))), (.own 2 (map d_si ((m1008300 a0 a2001 a2003).f6))), (.val (.int .i64 ((m1008300 a0 a2001 a2003).f7))), (.val (.int .i64 ((m1008300 a0 a2001 a2003).f8))), (.val (.int .i64 ((m1008300 a0 a2001 a2003).f9)))])]) := by
  unfold m1008300
  have f0 : Ev F X (.call 17 [(.agg [(.i a0.f0), (.i a0.f1), (.bor (l0_2 + 1) (map b_si a0.f2)), (.bor (l0_3 + 1) (map b_R a0.f3)), (.bor (l0_4 + 1) (map b_si a0.f4)), (.i a0.f5), (.i a0.f6), (.i a0.f7)])] [] [] [(.oi (m17 a0))]) := (e17 (a0 := a0) (by with_reducible assumption) (by with_reducible assumption) (by with_reducible assumption) (by with_reducible assumption))
  by_cases h0 : ((m17 a0) != 0) = true
  · try simp only [if_pos h0]
    have f2 : pureR [] = true := (by trivial)
    have f3 : pureR [] = true := (by with_reducible assumption)
    have f4 : pureR [] = true := (by with_reducible assumption)
    exact callP_ok (ps := []) (os := []) (rs := [(.agg [(.i (m17 a0)), (.i 0), (.i 0), (.i 0), (.own 2 []), (.own 5 []), (.own 2 []), (.i 0), (.i 0), (.i 0)])]) (by kernel_rfl) (.r 7 [] [] f0 (.f h0 (.f f2 (.f f3 (.f f4 (.h 14 (.b true) .nil))))))
  · try simp only [if_neg h0]
    have f2 : Ev F X (.call 140 [(.agg [(.i a0.f0), (.i a0.f1), (.bor (l0_2 + 1) (map b_si a0.f2)), (.bor (l0_3 + 1) (map b_R a0.f3)), (.bor (l0_4 + 1) (map b_si a0.f4)), (.i a0.f5), (.i a0.f6), (.i a0.f7)])] [] [] [(.agg [(.i ((m140 a0).f0)), (.i ((m140 a0).f1)), (.own 2 (map d_si ((m140 a0).f2))), (.own 5 (map d_R ((m140 a0).f3))), (.own 2 (map d_si ((m140 a0).f4))), (.i ((m140 a0).f5)), (.i ((m140 a0).f6)), (.i ((m140 a0).f7))])]) := (e140 (a0 := a0) (by have q := fs17 (a0 := a0) (by with_reducible assumption); omega) (by have q := fs17 (a0 := a0) (by with_reducible assumption); omega) (by have q := fs17 (a0 := a0) (by with_reducible assumption); intro z hz; have q2 := q.2.2.1 z hz; omega) (by have q := fs17 (a0 := a0) (by with_reducible assumption); omega) (by with_reducible assumption))
    have f3 : 0 = 0 := rfl
    have f4 : (length (map d_si ((m140 a0).f2))) = (length (map d_si ((m140 a0).f2))) := rfl
    have f5 : 0 = 0 := rfl
    have f6 : (length (map d_R ((m140 a0).f3))) = (length (map d_R ((m140 a0).f3))) := rfl
    have f7 : 0 = 0 := rfl
    have f8 : (length (map d_si ((m140 a0).f4))) = (length (map d_si ((m140 a0).f4))) := rfl
    have f9 : pureR (map d_si ((m140 a0).f2)) = true := (by simp [ol85, ol86, ol27_0, ol27_1, ol27_2, ol28_0, ol28_1, ol28_2]; done)
    have f10 : pureR (map d_R ((m140 a0).f3)) = true := (by simp [ol85, ol86, ol27_0, ol27_1, ol27_2, ol28_0, ol28_1, ol28_2]; done)
    have f11 : pureR (map d_si ((m140 a0).f4)) = true := (by simp [ol85, ol86, ol27_0, ol27_1, ol27_2, ol28_0, ol28_1, ol28_2]; done)
    have f12 : Ev F X (.call 92 [(.ptr ⟨(0, 0, 0), [], 0, 0, 8⟩), (.bptr (l2000 + 1) [(.val (.string a2001))]), (.bptr (l2002 + 1) [(.i a2003)])] [((0, 0, 0), ⟨8, [[(.i ((m140 a0).f0)), (.i ((m140 a0).f1)), (.own 2 (map d_si ((m140 a0).f2))), (.own 5 (map d_R ((m140 a0).f3))), (.own 2 (map d_si ((m140 a0).f4))), (.i ((m140 a0).f5)), (.i ((m140 a0).f6)), (.i ((m140 a0).f7))]], []⟩)] [[[(.i ((o1009200_0 (m140 a0) a2001 a2003).f0)), (.i ((o1009200_0 (m140 a0) a2001 a2003).f1)), (.own 2 (map d_si ((o1009200_0 (m140 a0) a2001 a2003).f2))), (.own 5 (map d_R ((o1009200_0 (m140 a0) a2001 a2003).f3))), (.own 2 (map d_si ((o1009200_0 (m140 a0) a2001 a2003).f4))), (.i ((o1009200_0 (m140 a0) a2001 a2003).f5)), (.i ((o1009200_0 (m140 a0) a2001 a2003).f6)), (.i ((o1009200_0 (m140 a0) a2001 a2003).f7))]]] [(.oi (m1009200 (m140 a0) a2001 a2003))]) := (e1009200 (a0 := (m140 a0)) (a101001 := a2001) (a102001 := a2003) (by rw [cp140]; have q := fs17 (a0 := a0) (by with_reducible assumption); omega) (by rw [cp140]; have q := fs17 (a0 := a0) (by with_reducible assumption); omega) (by rw [cp140]; have q := fs17 (a0 := a0) (by with_reducible assumption); intro z hz; have q2 := q.2.2.1 z hz; omega) (by rw [cp140]; have q := fs17 (a0 := a0) (by with_reducible assumption); omega) (by rw [cp140]; assumption))
    by_cases h1 : ((m1009200 (m140 a0) a2001 a2003) != 0) = true
    · try simp only [if_pos h1]
      have f14 : pureR [] = true := (by trivial)
      have f15 : pureR [] = true := (by with_reducible assumption)
      have f16 : pureR [] = true := (by with_reducible assumption)
      exact callP_ok (ps := []) (os := []) (rs := [(.agg [(.i (m1009200 (m140 a0) a2001 a2003)), (.i 0), (.i 0), (.i 0), (.own 2 []), (.own 5 []), (.own 2 []), (.i 0), (.i 0), (.i 0)])]) (by kernel_rfl) (.r 7 [] [] f0 (.f (nt h0) (.h 14 (.b false) (.r 18 [] [] f2 (.f f3 (.f f4 (.f f5 (.f f6 (.f f7 (.f f8 (.f f9 (.f f10 (.f f11 (.r 26 [false] [] f12 (.f h1 (.f f14 (.f f15 (.f f16 (.h 33 (.b true) .nil)))))))))))))))))))
    · try simp only [if_neg h1]
      have f14 : 0 = 0 := rfl
      have f15 : (length (map d_si ((o1009200_0 (m140 a0) a2001 a2003).f2))) = (length (map d_si ((o1009200_0 (m140 a0) a2001 a2003).f2))) := rfl
      have f16 : 0 = 0 := rfl
      have f17 : (length (map d_R ((o1009200_0 (m140 a0) a2001 a2003).f3))) = (length (map d_R ((o1009200_0 (m140 a0) a2001 a2003).f3))) := rfl
      have f18 : 0 = 0 := rfl
      have f19 : (length (map d_si ((o1009200_0 (m140 a0) a2001 a2003).f4))) = (length (map d_si ((o1009200_0 (m140 a0) a2001 a2003).f4))) := rfl
      have f20 : pureR (map d_si ((o1009200_0 (m140 a0) a2001 a2003).f2)) = true := (by simp [ol85, ol86, ol27_0, ol27_1, ol27_2, ol28_0, ol28_1, ol28_2]; done)
      have f21 : pureR (map d_R ((o1009200_0 (m140 a0) a2001 a2003).f3)) = true := (by simp [ol85, ol86, ol27_0, ol27_1, ol27_2, ol28_0, ol28_1, ol28_2]; done)
      have f22 : pureR (map d_si ((o1009200_0 (m140 a0) a2001 a2003).f4)) = true := (by simp [ol85, ol86, ol27_0, ol27_1, ol27_2, ol28_0, ol28_1, ol28_2]; done)
      exact callP_ok (ps := []) (os := []) (rs := [(.agg [(.i 0), (.i 0), (.i ((o1009200_0 (m140 a0) a2001 a2003).f0)), (.i ((o1009200_0 (m140 a0) a2001 a2003).f1)), (.own 2 (map d_si ((o1009200_0 (m140 a0) a2001 a2003).f2))), (.own 5 (map d_R ((o1009200_0 (m140 a0) a2001 a2003).f3))), (.own 2 (map d_si ((o1009200_0 (m140 a0) a2001 a2003).f4))), (.i ((o1009200_0 (m140 a0) a2001 a2003).f5)), (.i ((o1009200_0 (m140 a0) a2001 a2003).f6)), (.i ((o1009200_0 (m140 a0) a2001 a2003).f7))])]) (by kernel_rfl) (.r 7 [] [] f0 (.f (nt h0) (.h 14 (.b false) (.r 18 [] [] f2 (.f f3 (.f f4 (.f f5 (.f f6 (.f f7 (.f f8 (.f f9 (.f f10 (.f f11 (.r 26 [false] [] f12 (.f (nt h1) (.f f14 (.f f15 (.f f16 (.f f17 (.f f18 (.f f19 (.f f20 (.f f21 (.f f22 (.h 33 (.b false) .nil)))))))))))))))))))))))))
theorem okm1008300 (a0 : K_B) (a2001 : ByteArray) (a2003 : Int) : ok_C (m1008300 a0 a2001 a2003) := by
  unfold m1008300
  split
  · simp [ok_R, ok_B, ok_C, ok_LsiE, ok_Q]
  · rename_i h
    obtain ⟨q1, q2, q3, q4⟩ := fs17 h
    simp only [cp140]
    split
    · simp [ok_R, ok_B, ok_C, ok_LsiE, ok_Q]
    · unfold o1009200_0
      (repeat' split) <;> simp only [ok_R, ok_B, ok_C, ok_LsiE, ok_Q] <;> first | (refine ⟨by simp, by simp, by simp, by simp⟩) | (refine ⟨?_, ?_, ?_, ?_⟩ <;> first | omega | (simp only [length_set, length_append, length_cons, length_nil, length_take, length_drop]; omega) | exact oall q3 | exact oset q3 (oget q3 _) | exact oset q3 (by simp) | exact oapp q3 (by simp))
/-! loop.example/g00539/impl.PayWorker -/
def m33 (a0 : K_B) (a1 : ByteArray) (a2 : Int) : K_C :=
  (m1008300 a0 a1 a2)
theorem e33 {l0_2 : Nat} {l0_3 : Nat} {l0_4 : Nat} {a0 : K_B} {a1 : ByteArray} {a2 : Int} (hy0 : length a0.f2 * 24 ≤ 140737488351232) (hy1 : length a0.f3 * 56 ≤ 140737488351232) (hy2 : ∀ z ∈ a0.f3, ok_R z) (hy3 : length a0.f4 * 24 ≤ 140737488351232) : Ev F X (.call 33 [(.agg [(.val (.int .i64 a0.f0)), (.val (.int .i64 a0.f1)), (.bor l0_2 (map b_si a0.f2)), (.bor l0_3 (map b_R a0.f3)), (.bor l0_4 (map b_si a0.f4)), (.val (.int .i64 a0.f5)), (.val (.int .i64 a0.f6)), (.val (.int .i64 a0.f7))]), (.one (.val (.string a1))), (.one (.val (.int .i64 a2)))] [] [] [(.agg [(.val (.int .i64 ((m1008300 a0 a1 a2).f0))), (.val (.int .i64 ((m1008300 a0 a1 a2).f1))), (.val (.int .i64 ((m1008300 a0 a1 a2).f2))), (.val (.int .i64 ((m1008300 a0 a1 a2).f3))), (.own 2 (map d_si ((m1008300 a0 a1 a2).f4))), (.own 5 (map d_R ((m1008300 a0 a1 a2).f5))), (.own 2 (map d_si ((m1008300 a0 a1 a2).f6))), (.val (.int .i64 ((m1008300 a0 a1 a2).f7))), (.val (.int .i64 ((m1008300 a0 a1 a2).f8))), (.val (.int .i64 ((m1008300 a0 a1 a2).f9)))])]) := by
  have f0 : fullL [(.val (.string a1))] = true := (by trivial)
  have f1 : fullL [(.val (.int .i64 a2))] = true := (by assumption)
  have f2 : Ev F X (.call 83 [(.agg [(.i a0.f0), (.i a0.f1), (.bor (l0_2 + 1) (map b_si a0.f2)), (.bor (l0_3 + 1) (map b_R a0.f3)), (.bor (l0_4 + 1) (map b_si a0.f4)), (.i a0.f5), (.i a0.f6), (.i a0.f7)]), (.clo 92 [] [(.bptr 0 [(.val (.string a1))]), (.bptr 0 [(.i a2)])])] [] [] [(.agg [(.i ((m1008300 a0 a1 a2).f0)), (.i ((m1008300 a0 a1 a2).f1)), (.i ((m1008300 a0 a1 a2).f2)), (.i ((m1008300 a0 a1 a2).f3)), (.own 2 (map d_si ((m1008300 a0 a1 a2).f4))), (.own 5 (map d_R ((m1008300 a0 a1 a2).f5))), (.own 2 (map d_si ((m1008300 a0 a1 a2).f6))), (.i ((m1008300 a0 a1 a2).f7)), (.i ((m1008300 a0 a1 a2).f8)), (.i ((m1008300 a0 a1 a2).f9))])]) := (e1008300 (a0 := a0) (a2001 := a1) (a2003 := a2) (by with_reducible assumption) (by with_reducible assumption) (by with_reducible assumption) (by with_reducible assumption))
  have f3 : 0 = 0 := rfl
  have f4 : (length (map d_si ((m1008300 a0 a1 a2).f4))) = (length (map d_si ((m1008300 a0 a1 a2).f4))) := rfl
  have f5 : 0 = 0 := rfl
  have f6 : (length (map d_R ((m1008300 a0 a1 a2).f5))) = (length (map d_R ((m1008300 a0 a1 a2).f5))) := rfl
  have f7 : 0 = 0 := rfl
  have f8 : (length (map d_si ((m1008300 a0 a1 a2).f6))) = (length (map d_si ((m1008300 a0 a1 a2).f6))) := rfl
  have f9 : pureR (map d_si ((m1008300 a0 a1 a2).f4)) = true := (by simp [ol85, ol86, ol27_0, ol27_1, ol27_2, ol28_0, ol28_1, ol28_2]; done)
  have f10 : pureR (map d_R ((m1008300 a0 a1 a2).f5)) = true := (by simp [ol85, ol86, ol27_0, ol27_1, ol27_2, ol28_0, ol28_1, ol28_2]; done)
  have f11 : pureR (map d_si ((m1008300 a0 a1 a2).f6)) = true := (by simp [ol85, ol86, ol27_0, ol27_1, ol27_2, ol28_0, ol28_1, ol28_2]; done)
  exact callP_ok (ps := []) (os := []) (rs := [(.agg [(.i ((m1008300 a0 a1 a2).f0)), (.i ((m1008300 a0 a1 a2).f1)), (.i ((m1008300 a0 a1 a2).f2)), (.i ((m1008300 a0 a1 a2).f3)), (.own 2 (map d_si ((m1008300 a0 a1 a2).f4))), (.own 5 (map d_R ((m1008300 a0 a1 a2).f5))), (.own 2 (map d_si ((m1008300 a0 a1 a2).f6))), (.i ((m1008300 a0 a1 a2).f7)), (.i ((m1008300 a0 a1 a2).f8)), (.i ((m1008300 a0 a1 a2).f9))])]) (by kernel_rfl) (.f f0 (.f f1 (.r 13 [] [] f2 (.f f3 (.f f4 (.f f5 (.f f6 (.f f7 (.f f8 (.f f9 (.f f10 (.f f11 .nil))))))))))))
/-! loop.example/g00539/laws.FnExactPayWorker -/
def m7 (a0 : K_B) (a1 : ByteArray) (a2 : Int) : Bool :=
  if (decide ((ByteArray.size a1 : Int) > 1048576)) = true then true else
  if (decide ((m14 a0 1048576) < 0)) = true then true else
    if (!(m26 (m1008300 a0 a1 a2) (m32 a0 a1 a2))) = true then false else
      if (!(m18 a0 a0)) = true then false else
        if (decide ((m27 a0 1) < 0)) = true then false else
          if (decide ((m29 (K_C.mk ((m1008300 a0 a1 a2).f0) ((m1008300 a0 a1 a2).f1) ((m1008300 a0 a1 a2).f2) ((m1008300 a0 a1 a2).f3) (o28_2 (m1008300 a0 a1 a2) 1) (o28_1 (m1008300 a0 a1 a2) 1) (o28_0 (m1008300 a0 a1 a2) 1) ((m1008300 a0 a1 a2).f7) ((m1008300 a0 a1 a2).f8) ((m1008300 a0 a1 a2).f9)) 1) < 0)) = true then false else
            if ((m29 (K_C.mk ((m1008300 a0 a1 a2).f0) ((m1008300 a0 a1 a2).f1) ((m1008300 a0 a1 a2).f2) ((m1008300 a0 a1 a2).f3) (o28_2 (m1008300 a0 a1 a2) 1) (o28_1 (m1008300 a0 a1 a2) 1) (o28_0 (m1008300 a0 a1 a2) 1) ((m1008300 a0 a1 a2).f7) ((m1008300 a0 a1 a2).f8) ((m1008300 a0 a1 a2).f9)) 1) != (m28 (m1008300 a0 a1 a2) 1)) = true then false else
              true
set_option maxHeartbeats 8000000 in
theorem e7 {l0_2 : Nat} {l0_3 : Nat} {l0_4 : Nat} {a0 : K_B} {a1 : ByteArray} {a2 : Int} (hy0 : length a0.f2 * 24 ≤ 140737488351232) (hy1 : ∀ z ∈ a0.f2, os_si z) (hy2 : length a0.f3 * 56 ≤ 140737488351232) (hy3 : ∀ z ∈ a0.f3, os_R z) (hy4 : length a0.f4 * 24 ≤ 140737488351232) (hy5 : ∀ z ∈ a0.f4, os_si z) (hy6 : ByteArray.size a1 ≤ 140737488351232) : Ev F X (.call 7 [(.agg [(.val (.int .i64 a0.f0)), (.val (.int .i64 a0.f1)), (.bor l0_2 (map b_si a0.f2)), (.bor l0_3 (map b_R a0.f3)), (.bor l0_4 (map b_si a0.f4)), (.val (.int .i64 a0.f5)), (.val (.int .i64 a0.f6)), (.val (.int .i64 a0.f7))]), (.one (.val (.string a1))), (.one (.val (.int .i64 a2)))] [] [] [(.one (.val (.bool (m7 a0 a1 a2))))]) := by
  unfold m7
  by_cases h0 : (decide ((ByteArray.size a1 : Int) > 1048576)) = true
  · try simp only [if_pos h0]
    exact callP_ok (ps := []) (os := []) (rs := [(.one (.val (.bool true)))]) (by kernel_rfl) (.f h0 (.h 10 (.b true) .nil))
  · try simp only [if_neg h0]
    have f1 : Ev F X (.call 14 [(.agg [(.i a0.f0), (.i a0.f1), (.bor (l0_2 + 1) (map b_si a0.f2)), (.bor (l0_3 + 1) (map b_R a0.f3)), (.bor (l0_4 + 1) (map b_si a0.f4)), (.i a0.f5), (.i a0.f6), (.i a0.f7)]), (.oi 1048576)] [] [] [(.oi (m14 a0 1048576))]) := (e14 (a0 := a0) (a1 := 1048576) (by with_reducible assumption) (by with_reducible assumption) (by intro z hz; exact os_ok_R z ((by assumption : ∀ z ∈ a0.f3, os_R z) z hz)) (by with_reducible assumption))
    by_cases h1 : (decide ((m14 a0 1048576) < 0)) = true
    · try simp only [if_pos h1]
      exact callP_ok (ps := []) (os := []) (rs := [(.one (.val (.bool true)))]) (by kernel_rfl) (.f (nt h0) (.h 10 (.b false) (.r 18 [] [] f1 (.f h1 (.h 25 (.b true) .nil)))))
    · try simp only [if_neg h1]
      have f3 : Ev F X (.call 16 [(.agg [(.i a0.f0), (.i a0.f1), (.bor (l0_2 + 1) (map b_si a0.f2)), (.bor (l0_3 + 1) (map b_R a0.f3)), (.bor (l0_4 + 1) (map b_si a0.f4)), (.i a0.f5), (.i a0.f6), (.i a0.f7)])] [] [] [(.agg [(.i a0.f0), (.i a0.f1), (.own 2 (map d_si a0.f2)), (.own 5 (map d_R a0.f3)), (.own 2 (map d_si a0.f4)), (.i a0.f5), (.i a0.f6), (.i a0.f7)])]) := (e16 (a0 := a0) (by with_reducible assumption) (by with_reducible assumption) (by intro z hz; exact os_ok_R z ((by assumption : ∀ z ∈ a0.f3, os_R z) z hz)) (by with_reducible assumption))
      have f4 : 0 + (length (map d_si a0.f2)) ≤ (length (map d_si a0.f2)) := (by omega)
      have f5 : fullR (take (length (map d_si a0.f2)) (drop 0 (map d_si a0.f2))) = true := (ft_si _ _ _)
      have f6 : toBR (take (length (map d_si a0.f2)) (drop 0 (map d_si a0.f2))) = (map b_si a0.f2) := (tb_si _)
      have f7 : 0 + (length (map d_R a0.f3)) ≤ (length (map d_R a0.f3)) := (by omega)
      have f8 : fullR (take (length (map d_R a0.f3)) (drop 0 (map d_R a0.f3))) = true := (ft_R _ _ _)
      have f9 : toBR (take (length (map d_R a0.f3)) (drop 0 (map d_R a0.f3))) = (map b_R a0.f3) := (tb_R _)
      have f10 : 0 + (length (map d_si a0.f4)) ≤ (length (map d_si a0.f4)) := (by omega)
      have f11 : fullR (take (length (map d_si a0.f4)) (drop 0 (map d_si a0.f4))) = true := (ft_si _ _ _)
      have f12 : toBR (take (length (map d_si a0.f4)) (drop 0 (map d_si a0.f4))) = (map b_si a0.f4) := (tb_si _)
      have f13 : Ev F X (.call 32 [(.agg [(.i a0.f0), (.i a0.f1), (.bor 0 (map b_si a0.f2)), (.bor 0 (map b_R a0.f3)), (.bor 0 (map b_si a0.f4)), (.i a0.f5), (.i a0.f6), (.i a0.f7)]), (.one (.val (.string a1))), (.oi a2)] [] [] [(.agg [(.i ((m32 a0 a1 a2).f0)), (.i ((m32 a0 a1 a2).f1)), (.i ((m32 a0 a1 a2).f2)), (.i ((m32 a0 a1 a2).f3)), (.own 2 (map d_si ((m32 a0 a1 a2).f4))), (.own 5 (map d_R ((m32 a0 a1 a2).f5))), (.own 2 (map d_si ((m32 a0 a1 a2).f6))), (.i ((m32 a0 a1 a2).f7)), (.i ((m32 a0 a1 a2).f8)), (.i ((m32 a0 a1 a2).f9))])]) := (e32 (a0 := a0) (a1 := a1) (a2 := a2) (by with_reducible assumption) (by with_reducible assumption) (by with_reducible assumption) (by with_reducible assumption) (by with_reducible assumption) (by with_reducible assumption) (by with_reducible assumption))
      have f14 : 0 = 0 := rfl
      have f15 : (length (map d_si ((m32 a0 a1 a2).f4))) = (length (map d_si ((m32 a0 a1 a2).f4))) := rfl
      have f16 : 0 = 0 := rfl
      have f17 : (length (map d_R ((m32 a0 a1 a2).f5))) = (length (map d_R ((m32 a0 a1 a2).f5))) := rfl
      have f18 : 0 = 0 := rfl
      have f19 : (length (map d_si ((m32 a0 a1 a2).f6))) = (length (map d_si ((m32 a0 a1 a2).f6))) := rfl
      have f20 : Ev F X (.call 16 [(.agg [(.i a0.f0), (.i a0.f1), (.bor (l0_2 + 1) (map b_si a0.f2)), (.bor (l0_3 + 1) (map b_R a0.f3)), (.bor (l0_4 + 1) (map b_si a0.f4)), (.i a0.f5), (.i a0.f6), (.i a0.f7)])] [] [] [(.agg [(.i a0.f0), (.i a0.f1), (.own 2 (map d_si a0.f2)), (.own 5 (map d_R a0.f3)), (.own 2 (map d_si a0.f4)), (.i a0.f5), (.i a0.f6), (.i a0.f7)])]) := (e16 (a0 := a0) (by with_reducible assumption) (by with_reducible assumption) (by intro z hz; exact os_ok_R z ((by assumption : ∀ z ∈ a0.f3, os_R z) z hz)) (by with_reducible assumption))
      have f21 : 0 = 0 := rfl
      have f22 : (length (map d_si a0.f2)) = (length (map d_si a0.f2)) := rfl
      have f23 : 0 = 0 := rfl
      have f24 : (length (map d_R a0.f3)) = (length (map d_R a0.f3)) := rfl
      have f25 : 0 = 0 := rfl
      have f26 : (length (map d_si a0.f4)) = (length (map d_si a0.f4)) := rfl
      have f27 : 0 + (length (map d_si a0.f2)) ≤ (length (map d_si a0.f2)) := (by omega)
      have f28 : fullR (take (length (map d_si a0.f2)) (drop 0 (map d_si a0.f2))) = true := (ft_si _ _ _)
      have f29 : toBR (take (length (map d_si a0.f2)) (drop 0 (map d_si a0.f2))) = (map b_si a0.f2) := (tb_si _)
      have f30 : 0 + (length (map d_R a0.f3)) ≤ (length (map d_R a0.f3)) := (by omega)
      have f31 : fullR (take (length (map d_R a0.f3)) (drop 0 (map d_R a0.f3))) = true := (ft_R _ _ _)
      have f32 : toBR (take (length (map d_R a0.f3)) (drop 0 (map d_R a0.f3))) = (map b_R a0.f3) := (tb_R _)
      have f33 : 0 + (length (map d_si a0.f4)) ≤ (length (map d_si a0.f4)) := (by omega)
      have f34 : fullR (take (length (map d_si a0.f4)) (drop 0 (map d_si a0.f4))) = true := (ft_si _ _ _)
      have f35 : toBR (take (length (map d_si a0.f4)) (drop 0 (map d_si a0.f4))) = (map b_si a0.f4) := (tb_si _)
      have f36 : Ev F X (.call 33 [(.agg [(.i a0.f0), (.i a0.f1), (.bor 0 (map b_si a0.f2)), (.bor 0 (map b_R a0.f3)), (.bor 0 (map b_si a0.f4)), (.i a0.f5), (.i a0.f6), (.i a0.f7)]), (.one (.val (.string a1))), (.oi a2)] [] [] [(.agg [(.i ((m1008300 a0 a1 a2).f0)), (.i ((m1008300 a0 a1 a2).f1)), (.i ((m1008300 a0 a1 a2).f2)), (.i ((m1008300 a0 a1 a2).f3)), (.own 2 (map d_si ((m1008300 a0 a1 a2).f4))), (.own 5 (map d_R ((m1008300 a0 a1 a2).f5))), (.own 2 (map d_si ((m1008300 a0 a1 a2).f6))), (.i ((m1008300 a0 a1 a2).f7)), (.i ((m1008300 a0 a1 a2).f8)), (.i ((m1008300 a0 a1 a2).f9))])]) := (e33 (a0 := a0) (a1 := a1) (a2 := a2) (by with_reducible assumption) (by with_reducible assumption) (by intro z hz; exact os_ok_R z ((by assumption : ∀ z ∈ a0.f3, os_R z) z hz)) (by with_reducible assumption))
      have f37 : 0 = 0 := rfl
      have f38 : (length (map d_si ((m1008300 a0 a1 a2).f4))) = (length (map d_si ((m1008300 a0 a1 a2).f4))) := rfl
      have f39 : 0 = 0 := rfl
      have f40 : (length (map d_R ((m1008300 a0 a1 a2).f5))) = (length (map d_R ((m1008300 a0 a1 a2).f5))) := rfl
      have f41 : 0 = 0 := rfl
      have f42 : (length (map d_si ((m1008300 a0 a1 a2).f6))) = (length (map d_si ((m1008300 a0 a1 a2).f6))) := rfl
      have f43 : 0 + (length (map d_si ((m1008300 a0 a1 a2).f4))) ≤ (length (map d_si ((m1008300 a0 a1 a2).f4))) := (by omega)
      have f44 : fullR (take (length (map d_si ((m1008300 a0 a1 a2).f4))) (drop 0 (map d_si ((m1008300 a0 a1 a2).f4)))) = true := (ft_si _ _ _)
      have f45 : toBR (take (length (map d_si ((m1008300 a0 a1 a2).f4))) (drop 0 (map d_si ((m1008300 a0 a1 a2).f4)))) = (map b_si ((m1008300 a0 a1 a2).f4)) := (tb_si _)
      have f46 : 0 + (length (map d_R ((m1008300 a0 a1 a2).f5))) ≤ (length (map d_R ((m1008300 a0 a1 a2).f5))) := (by omega)
      have f47 : fullR (take (length (map d_R ((m1008300 a0 a1 a2).f5))) (drop 0 (map d_R ((m1008300 a0 a1 a2).f5)))) = true := (ft_R _ _ _)
      have f48 : toBR (take (length (map d_R ((m1008300 a0 a1 a2).f5))) (drop 0 (map d_R ((m1008300 a0 a1 a2).f5)))) = (map b_R ((m1008300 a0 a1 a2).f5)) := (tb_R _)
      have f49 : 0 + (length (map d_si ((m1008300 a0 a1 a2).f6))) ≤ (length (map d_si ((m1008300 a0 a1 a2).f6))) := (by omega)
      have f50 : fullR (take (length (map d_si ((m1008300 a0 a1 a2).f6))) (drop 0 (map d_si ((m1008300 a0 a1 a2).f6)))) = true := (ft_si _ _ _)
      have f51 : toBR (take (length (map d_si ((m1008300 a0 a1 a2).f6))) (drop 0 (map d_si ((m1008300 a0 a1 a2).f6)))) = (map b_si ((m1008300 a0 a1 a2).f6)) := (tb_si _)
      have f52 : 0 + (length (map d_si ((m32 a0 a1 a2).f4))) ≤ (length (map d_si ((m32 a0 a1 a2).f4))) := (by omega)
      have f53 : fullR (take (length (map d_si ((m32 a0 a1 a2).f4))) (drop 0 (map d_si ((m32 a0 a1 a2).f4)))) = true := (ft_si _ _ _)
      have f54 : toBR (take (length (map d_si ((m32 a0 a1 a2).f4))) (drop 0 (map d_si ((m32 a0 a1 a2).f4)))) = (map b_si ((m32 a0 a1 a2).f4)) := (tb_si _)
      have f55 : 0 + (length (map d_R ((m32 a0 a1 a2).f5))) ≤ (length (map d_R ((m32 a0 a1 a2).f5))) := (by omega)
      have f56 : fullR (take (length (map d_R ((m32 a0 a1 a2).f5))) (drop 0 (map d_R ((m32 a0 a1 a2).f5)))) = true := (ft_R _ _ _)
      have f57 : toBR (take (length (map d_R ((m32 a0 a1 a2).f5))) (drop 0 (map d_R ((m32 a0 a1 a2).f5)))) = (map b_R ((m32 a0 a1 a2).f5)) := (tb_R _)
      have f58 : 0 + (length (map d_si ((m32 a0 a1 a2).f6))) ≤ (length (map d_si ((m32 a0 a1 a2).f6))) := (by omega)
      have f59 : fullR (take (length (map d_si ((m32 a0 a1 a2).f6))) (drop 0 (map d_si ((m32 a0 a1 a2).f6)))) = true := (ft_si _ _ _)
      have f60 : toBR (take (length (map d_si ((m32 a0 a1 a2).f6))) (drop 0 (map d_si ((m32 a0 a1 a2).f6)))) = (map b_si ((m32 a0 a1 a2).f6)) := (tb_si _)
      have f61 : Ev F X (.call 26 [(.agg [(.i ((m1008300 a0 a1 a2).f0)), (.i ((m1008300 a0 a1 a2).f1)), (.i ((m1008300 a0 a1 a2).f2)), (.i ((m1008300 a0 a1 a2).f3)), (.bor 0 (map b_si ((m1008300 a0 a1 a2).f4))), (.bor 0 (map b_R ((m1008300 a0 a1 a2).f5))), (.bor 0 (map b_si ((m1008300 a0 a1 a2).f6))), (.i ((m1008300 a0 a1 a2).f7)), (.i ((m1008300 a0 a1 a2).f8)), (.i ((m1008300 a0 a1 a2).f9))]), (.agg [(.i ((m32 a0 a1 a2).f0)), (.i ((m32 a0 a1 a2).f1)), (.i ((m32 a0 a1 a2).f2)), (.i ((m32 a0 a1 a2).f3)), (.bor 0 (map b_si ((m32 a0 a1 a2).f4))), (.bor 0 (map b_R ((m32 a0 a1 a2).f5))), (.bor 0 (map b_si ((m32 a0 a1 a2).f6))), (.i ((m32 a0 a1 a2).f7)), (.i ((m32 a0 a1 a2).f8)), (.i ((m32 a0 a1 a2).f9))])] [] [] [(.one (.val (.bool (m26 (m1008300 a0 a1 a2) (m32 a0 a1 a2)))))]) := (e26 (a0 := (m1008300 a0 a1 a2)) (a1 := (m32 a0 a1 a2)) (by have q := okm1008300 a0 a1 a2; exact q.1) (by have q := okm1008300 a0 a1 a2; exact q.2.1) (by have q := okm1008300 a0 a1 a2; exact q.2.2.1) (by have q := okm1008300 a0 a1 a2; exact q.2.2.2) (by have q := okm32 a0 a1 a2; exact q.1) (by have q := okm32 a0 a1 a2; exact q.2.1) (by have q := okm32 a0 a1 a2; exact q.2.2.1) (by have q := okm32 a0 a1 a2; exact q.2.2.2))
      by_cases h2 : (!(m26 (m1008300 a0 a1 a2) (m32 a0 a1 a2))) = true
      · try simp only [if_pos h2]
        exact callP_ok (ps := []) (os := []) (rs := [(.one (.val (.bool false)))]) (by kernel_rfl) (.f (nt h0) (.h 10 (.b false) (.r 18 [] [] f1 (.f (nt h1) (.h 25 (.b false) (.r 29 [] [] f3 (.f f4 (.f f5 (.f f6 (.f f7 (.f f8 (.f f9 (.f f10 (.f f11 (.f f12 (.r 35 [] [(map b_si a0.f2), (map b_R a0.f3), (map b_si a0.f4)] f13 (.f f14 (.f f15 (.f f16 (.f f17 (.f f18 (.f f19 (.r 43 [] [] f20 (.f f21 (.f f22 (.f f23 (.f f24 (.f f25 (.f f26 (.f f27 (.f f28 (.f f29 (.f f30 (.f f31 (.f f32 (.f f33 (.f f34 (.f f35 (.r 55 [] [(map b_si a0.f2), (map b_R a0.f3), (map b_si a0.f4)] f36 (.f f37 (.f f38 (.f f39 (.f f40 (.f f41 (.f f42 (.f f43 (.f f44 (.f f45 (.f f46 (.f f47 (.f f48 (.f f49 (.f f50 (.f f51 (.f f52 (.f f53 (.f f54 (.f f55 (.f f56 (.f f57 (.f f58 (.f f59 (.f f60 (.r 65 [] [(map b_si ((m1008300 a0 a1 a2).f4)), (map b_R ((m1008300 a0 a1 a2).f5)), (map b_si ((m1008300 a0 a1 a2).f6)), (map b_si ((m32 a0 a1 a2).f4)), (map b_R ((m32 a0 a1 a2).f5)), (map b_si ((m32 a0 a1 a2).f6))] f61 (.f h2 (.h 68 (.b true) .nil))))))))))))))))))))))))))))))))))))))))))))))))))))))))))))))))))
      · try simp only [if_neg h2]
        have f63 : Ev F X (.call 16 [(.agg [(.i a0.f0), (.i a0.f1), (.bor (l0_2 + 1) (map b_si a0.f2)), (.bor (l0_3 + 1) (map b_R a0.f3)), (.bor (l0_4 + 1) (map b_si a0.f4)), (.i a0.f5), (.i a0.f6), (.i a0.f7)])] [] [] [(.agg [(.i a0.f0), (.i a0.f1), (.own 2 (map d_si a0.f2)), (.own 5 (map d_R a0.f3)), (.own 2 (map d_si a0.f4)), (.i a0.f5), (.i a0.f6), (.i a0.f7)])]) := (e16 (a0 := a0) (by with_reducible assumption) (by with_reducible assumption) (by intro z hz; exact os_ok_R z ((by assumption : ∀ z ∈ a0.f3, os_R z) z hz)) (by with_reducible assumption))
        have f64 : 0 + (length (map d_si a0.f2)) ≤ (length (map d_si a0.f2)) := (by omega)
        have f65 : fullR (take (length (map d_si a0.f2)) (drop 0 (map d_si a0.f2))) = true := (ft_si _ _ _)
        have f66 : toBR (take (length (map d_si a0.f2)) (drop 0 (map d_si a0.f2))) = (map b_si a0.f2) := (tb_si _)
        have f67 : 0 + (length (map d_R a0.f3)) ≤ (length (map d_R a0.f3)) := (by omega)
        have f68 : fullR (take (length (map d_R a0.f3)) (drop 0 (map d_R a0.f3))) = true := (ft_R _ _ _)
        have f69 : toBR (take (length (map d_R a0.f3)) (drop 0 (map d_R a0.f3))) = (map b_R a0.f3) := (tb_R _)
        have f70 : 0 + (length (map d_si a0.f4)) ≤ (length (map d_si a0.f4)) := (by omega)
        have f71 : fullR (take (length (map d_si a0.f4)) (drop 0 (map d_si a0.f4))) = true := (ft_si _ _ _)
        have f72 : toBR (take (length (map d_si a0.f4)) (drop 0 (map d_si a0.f4))) = (map b_si a0.f4) := (tb_si _)
        have f73 : 0 + (length (map d_si a0.f2)) ≤ (length (map d_si a0.f2)) := (by omega)
        have f74 : fullR (take (length (map d_si a0.f2)) (drop 0 (map d_si a0.f2))) = true := (ft_si _ _ _)
        have f75 : toBR (take (length (map d_si a0.f2)) (drop 0 (map d_si a0.f2))) = (map b_si a0.f2) := (tb_si _)
        have f76 : 0 + (length (map d_R a0.f3)) ≤ (length (map d_R a0.f3)) := (by omega)
        have f77 : fullR (take (length (map d_R a0.f3)) (drop 0 (map d_R a0.f3))) = true := (ft_R _ _ _)
        have f78 : toBR (take (length (map d_R a0.f3)) (drop 0 (map d_R a0.f3))) = (map b_R a0.f3) := (tb_R _)
        have f79 : 0 + (length (map d_si a0.f4)) ≤ (length (map d_si a0.f4)) := (by omega)
        have f80 : fullR (take (length (map d_si a0.f4)) (drop 0 (map d_si a0.f4))) = true := (ft_si _ _ _)
        have f81 : toBR (take (length (map d_si a0.f4)) (drop 0 (map d_si a0.f4))) = (map b_si a0.f4) := (tb_si _)
        have f82 : Ev F X (.call 18 [(.agg [(.i a0.f0), (.i a0.f1), (.bor 0 (map b_si a0.f2)), (.bor 0 (map b_R a0.f3)), (.bor 0 (map b_si a0.f4)), (.i a0.f5), (.i a0.f6), (.i a0.f7)]), (.agg [(.i a0.f0), (.i a0.f1), (.bor 0 (map b_si a0.f2)), (.bor 0 (map b_R a0.f3)), (.bor 0 (map b_si a0.f4)), (.i a0.f5), (.i a0.f6), (.i a0.f7)])] [] [] [(.one (.val (.bool (m18 a0 a0))))]) := (e18 (a0 := a0) (a1 := a0) (by with_reducible assumption) (by with_reducible assumption) (by intro z hz; exact os_ok_R z ((by assumption : ∀ z ∈ a0.f3, os_R z) z hz)) (by with_reducible assumption) (by with_reducible assumption) (by with_reducible assumption) (by intro z hz; exact os_ok_R z ((by assumption : ∀ z ∈ a0.f3, os_R z) z hz)) (by with_reducible assumption))
        by_cases h3 : (!(m18 a0 a0)) = true
        · try simp only [if_pos h3]
          exact callP_ok (ps := []) (os := []) (rs := [(.one (.val (.bool false)))]) (by kernel_rfl) (.f (nt h0) (.h 10 (.b false) (.r 18 [] [] f1 (.f (nt h1) (.h 25 (.b false) (.r 29 [] [] f3 (.f f4 (.f f5 (.f f6 (.f f7 (.f f8 (.f f9 (.f f10 (.f f11 (.f f12 (.r 35 [] [(map b_si a0.f2), (map b_R a0.f3), (map b_si a0.f4)] f13 (.f f14 (.f f15 (.f f16 (.f f17 (.f f18 (.f f19 (.r 43 [] [] f20 (.f f21 (.f f22 (.f f23 (.f f24 (.f f25 (.f f26 (.f f27 (.f f28 (.f f29 (.f f30 (.f f31 (.f f32 (.f f33 (.f f34 (.f f35 (.r 55 [] [(map b_si a0.f2), (map b_R a0.f3), (map b_si a0.f4)] f36 (.f f37 (.f f38 (.f f39 (.f f40 (.f f41 (.f f42 (.f f43 (.f f44 (.f f45 (.f f46 (.f f47 (.f f48 (.f f49 (.f f50 (.f f51 (.f f52 (.f f53 (.f f54 (.f f55 (.f f56 (.f f57 (.f f58 (.f f59 (.f f60 (.r 65 [] [(map b_si ((m1008300 a0 a1 a2).f4)), (map b_R ((m1008300 a0 a1 a2).f5)), (map b_si ((m1008300 a0 a1 a2).f6)), (map b_si ((m32 a0 a1 a2).f4)), (map b_R ((m32 a0 a1 a2).f5)), (map b_si ((m32 a0 a1 a2).f6))] f61 (.f (nt h2) (.h 68 (.b false) (.r 74 [] [] f63 (.f f64 (.f f65 (.f f66 (.f f67 (.f f68 (.f f69 (.f f70 (.f f71 (.f f72 (.f f73 (.f f74 (.f f75 (.f f76 (.f f77 (.f f78 (.f f79 (.f f80 (.f f81 (.r 76 [] [(map b_si a0.f2), (map b_R a0.f3), (map b_si a0.f4), (map b_si a0.f2), (map b_R a0.f3), (map b_si a0.f4)] f82 (.f h3 (.h 79 (.b true) .nil))))))))))))))))))))))))))))))))))))))))))))))))))))))))))))))))))))))))))))))))))))))))
        · try simp only [if_neg h3]
          have f84 : pureR (map d_si a0.f2) = true := (pureR_si _)
          have f85 : pureR (map d_R a0.f3) = true := (pureR_R _)
          have f86 : pureR (map d_si a0.f4) = true := (pureR_si _)
          have f87 : Ev F X (.call 27 [(.agg [(.i a0.f0), (.i a0.f1), (.ref ⟨(0, 0, 0), [], 0, (length (map d_si a0.f2))⟩), (.ref ⟨(0, 1, 0), [], 0, (length (map d_R a0.f3))⟩), (.ref ⟨(0, 2, 0), [], 0, (length (map d_si a0.f4))⟩), (.i a0.f5), (.i a0.f6), (.i a0.f7)]), (.oi 1)] [((0, 2, 0), ⟨2, (map d_si a0.f4), []⟩), ((0, 1, 0), ⟨5, (map d_R a0.f3), []⟩), ((0, 0, 0), ⟨2, (map d_si a0.f2), []⟩)] [(map d_si (o27_0 a0 1)), (map d_R (o27_1 a0 1)), (map d_si (o27_2 a0 1))] [(.oi (m27 a0 1))]) := (e27 (a0 := a0) (a1 := 1) (by with_reducible assumption) (by with_reducible assumption) (by intro z hz; exact os_ok_R z ((by assumption : ∀ z ∈ a0.f3, os_R z) z hz)) (by with_reducible assumption))
          by_cases h4 : (decide ((m27 a0 1) < 0)) = true
          · try simp only [if_pos h4]
            exact callP_ok (ps := []) (os := []) (rs := [(.one (.val (.bool false)))]) (by kernel_rfl) (.f (nt h0) (.h 10 (.b false) (.r 18 [] [] f1 (.f (nt h1) (.h 25 (.b false) (.r 29 [] [] f3 (.f f4 (.f f5 (.f f6 (.f f7 (.f f8 (.f f9 (.f f10 (.f f11 (.f f12 (.r 35 [] [(map b_si a0.f2), (map b_R a0.f3), (map b_si a0.f4)] f13 (.f f14 (.f f15 (.f f16 (.f f17 (.f f18 (.f f19 (.r 43 [] [] f20 (.f f21 (.f f22 (.f f23 (.f f24 (.f f25 (.f f26 (.f f27 (.f f28 (.f f29 (.f f30 (.f f31 (.f f32 (.f f33 (.f f34 (.f f35 (.r 55 [] [(map b_si a0.f2), (map b_R a0.f3), (map b_si a0.f4)] f36 (.f f37 (.f f38 (.f f39 (.f f40 (.f f41 (.f f42 (.f f43 (.f f44 (.f f45 (.f f46 (.f f47 (.f f48 (.f f49 (.f f50 (.f f51 (.f f52 (.f f53 (.f f54 (.f f55 (.f f56 (.f f57 (.f f58 (.f f59 (.f f60 (.r 65 [] [(map b_si ((m1008300 a0 a1 a2).f4)), (map b_R ((m1008300 a0 a1 a2).f5)), (map b_si ((m1008300 a0 a1 a2).f6)), (map b_si ((m32 a0 a1 a2).f4)), (map b_R ((m32 a0 a1 a2).f5)), (map b_si ((m32 a0 a1 a2).f6))] f61 (.f (nt h2) (.h 68 (.b false) (.r 74 [] [] f63 (.f f64 (.f f65 (.f f66 (.f f67 (.f f68 (.f f69 (.f f70 (.f f71 (.f f72 (.f f73 (.f f74 (.f f75 (.f f76 (.f f77 (.f f78 (.f f79 (.f f80 (.f f81 (.r 76 [] [(map b_si a0.f2), (map b_R a0.f3), (map b_si a0.f4), (map b_si a0.f2), (map b_R a0.f3), (map b_si a0.f4)] f82 (.f (nt h3) (.f f84 (.f f85 (.f f86 (.h 79 (.b false) (.r 87 [true, true, true] [] f87 (.f h4 (.f h4 (.f h4 (.f h4 (.f h4 (.h 96 (.b true) (.h 98 (.b true) (.h 100 (.b true) (.h 102 (.b true) (.h 105 (.b true) .nil))))))))))))))))))))))))))))))))))))))))))))))))))))))))))))))))))))))))))))))))))))))))))))))))))))))
          · try simp only [if_neg h4]
            have f91 : 0 + (length (map d_si ((m1008300 a0 a1 a2).f4))) ≤ (length (map d_si ((m1008300 a0 a1 a2).f4))) := (by omega)
            have f92 : fullR (take (length (map d_si ((m1008300 a0 a1 a2).f4))) (drop 0 (map d_si ((m1008300 a0 a1 a2).f4)))) = true := (ft_si _ _ _)
            have f93 : toBR (take (length (map d_si ((m1008300 a0 a1 a2).f4))) (drop 0 (map d_si ((m1008300 a0 a1 a2).f4)))) = (map b_si ((m1008300 a0 a1 a2).f4)) := (tb_si _)
            have f94 : 0 + (length (map d_R ((m1008300 a0 a1 a2).f5))) ≤ (length (map d_R ((m1008300 a0 a1 a2).f5))) := (by omega)
            have f95 : fullR (take (length (map d_R ((m1008300 a0 a1 a2).f5))) (drop 0 (map d_R ((m1008300 a0 a1 a2).f5)))) = true := (ft_R _ _ _)
            have f96 : toBR (take (length (map d_R ((m1008300 a0 a1 a2).f5))) (drop 0 (map d_R ((m1008300 a0 a1 a2).f5)))) = (map b_R ((m1008300 a0 a1 a2).f5)) := (tb_R _)
            have f97 : 0 + (length (map d_si ((m1008300 a0 a1 a2).f6))) ≤ (length (map d_si ((m1008300 a0 a1 a2).f6))) := (by omega)
            have f98 : fullR (take (length (map d_si ((m1008300 a0 a1 a2).f6))) (drop 0 (map d_si ((m1008300 a0 a1 a2).f6)))) = true := (ft_si _ _ _)
            have f99 : toBR (take (length (map d_si ((m1008300 a0 a1 a2).f6))) (drop 0 (map d_si ((m1008300 a0 a1 a2).f6)))) = (map b_si ((m1008300 a0 a1 a2).f6)) := (tb_si _)
            have f100 : 0 + (length (map d_si ((m32 a0 a1 a2).f4))) ≤ (length (map d_si ((m32 a0 a1 a2).f4))) := (by omega)
            have f101 : fullR (take (length (map d_si ((m32 a0 a1 a2).f4))) (drop 0 (map d_si ((m32 a0 a1 a2).f4)))) = true := (ft_si _ _ _)
            have f102 : toBR (take (length (map d_si ((m32 a0 a1 a2).f4))) (drop 0 (map d_si ((m32 a0 a1 a2).f4)))) = (map b_si ((m32 a0 a1 a2).f4)) := (tb_si _)
            have f103 : 0 + (length (map d_R ((m32 a0 a1 a2).f5))) ≤ (length (map d_R ((m32 a0 a1 a2).f5))) := (by omega)
            have f104 : fullR (take (length (map d_R ((m32 a0 a1 a2).f5))) (drop 0 (map d_R ((m32 a0 a1 a2).f5)))) = true := (ft_R _ _ _)
            have f105 : toBR (take (length (map d_R ((m32 a0 a1 a2).f5))) (drop 0 (map d_R ((m32 a0 a1 a2).f5)))) = (map b_R ((m32 a0 a1 a2).f5)) := (tb_R _)
            have f106 : 0 + (length (map d_si ((m32 a0 a1 a2).f6))) ≤ (length (map d_si ((m32 a0 a1 a2).f6))) := (by omega)
            have f107 : fullR (take (length (map d_si ((m32 a0 a1 a2).f6))) (drop 0 (map d_si ((m32 a0 a1 a2).f6)))) = true := (ft_si _ _ _)
            have f108 : toBR (take (length (map d_si ((m32 a0 a1 a2).f6))) (drop 0 (map d_si ((m32 a0 a1 a2).f6)))) = (map b_si ((m32 a0 a1 a2).f6)) := (tb_si _)
            have f109 : Ev F X (.call 26 [(.agg [(.i ((m1008300 a0 a1 a2).f0)), (.i ((m1008300 a0 a1 a2).f1)), (.i ((m1008300 a0 a1 a2).f2)), (.i ((m1008300 a0 a1 a2).f3)), (.bor 0 (map b_si ((m1008300 a0 a1 a2).f4))), (.bor 0 (map b_R ((m1008300 a0 a1 a2).f5))), (.bor 0 (map b_si ((m1008300 a0 a1 a2).f6))), (.i ((m1008300 a0 a1 a2).f7)), (.i ((m1008300 a0 a1 a2).f8)), (.i ((m1008300 a0 a1 a2).f9))]), (.agg [(.i ((m32 a0 a1 a2).f0)), (.i ((m32 a0 a1 a2).f1)), (.i ((m32 a0 a1 a2).f2)), (.i ((m32 a0 a1 a2).f3)), (.bor 0 (map b_si ((m32 a0 a1 a2).f4))), (.bor 0 (map b_R ((m32 a0 a1 a2).f5))), (.bor 0 (map b_si ((m32 a0 a1 a2).f6))), (.i ((m32 a0 a1 a2).f7)), (.i ((m32 a0 a1 a2).f8)), (.i ((m32 a0 a1 a2).f9))])] [] [] [(.one (.val (.bool (m26 (m1008300 a0 a1 a2) (m32 a0 a1 a2)))))]) := (e26 (a0 := (m1008300 a0 a1 a2)) (a1 := (m32 a0 a1 a2)) (by have q := okm1008300 a0 a1 a2; exact q.1) (by have q := okm1008300 a0 a1 a2; exact q.2.1) (by have q := okm1008300 a0 a1 a2; exact q.2.2.1) (by have q := okm1008300 a0 a1 a2; exact q.2.2.2) (by have q := okm32 a0 a1 a2; exact q.1) (by have q := okm32 a0 a1 a2; exact q.2.1) (by have q := okm32 a0 a1 a2; exact q.2.2.1) (by have q := okm32 a0 a1 a2; exact q.2.2.2))
            have f113 : pureR (map d_si ((m1008300 a0 a1 a2).f4)) = true := (by simp [ol85, ol86, ol27_0, ol27_1, ol27_2, ol28_0, ol28_1, ol28_2]; done)
            have f114 : pureR (map d_R ((m1008300 a0 a1 a2).f5)) = true := (by simp [ol85, ol86, ol27_0, ol27_1, ol27_2, ol28_0, ol28_1, ol28_2]; done)
            have f115 : pureR (map d_si ((m1008300 a0 a1 a2).f6)) = true := (by simp [ol85, ol86, ol27_0, ol27_1, ol27_2, ol28_0, ol28_1, ol28_2]; done)
            have f116 : Ev F X (.call 28 [(.agg [(.i ((m1008300 a0 a1 a2).f0)), (.i ((m1008300 a0 a1 a2).f1)), (.i ((m1008300 a0 a1 a2).f2)), (.i ((m1008300 a0 a1 a2).f3)), (.ref ⟨(0, 0, 0), [], 0, (length (map d_si ((m1008300 a0 a1 a2).f4)))⟩), (.ref ⟨(0, 1, 0), [], 0, (length (map d_R ((m1008300 a0 a1 a2).f5)))⟩), (.ref ⟨(0, 2, 0), [], 0, (length (map d_si ((m1008300 a0 a1 a2).f6)))⟩), (.i ((m1008300 a0 a1 a2).f7)), (.i ((m1008300 a0 a1 a2).f8)), (.i ((m1008300 a0 a1 a2).f9))]), (.oi 1)] [((0, 2, 0), ⟨2, (map d_si ((m1008300 a0 a1 a2).f6)), []⟩), ((0, 1, 0), ⟨5, (map d_R ((m1008300 a0 a1 a2).f5)), []⟩), ((0, 0, 0), ⟨2, (map d_si ((m1008300 a0 a1 a2).f4)), []⟩)] [(map d_si (o28_0 (m1008300 a0 a1 a2) 1)), (map d_R (o28_1 (m1008300 a0 a1 a2) 1)), (map d_si (o28_2 (m1008300 a0 a1 a2) 1))] [(.oi (m28 (m1008300 a0 a1 a2) 1))]) := (e28 (a0 := (m1008300 a0 a1 a2)) (a1 := 1) (by have q := okm1008300 a0 a1 a2; exact q.1) (by have q := okm1008300 a0 a1 a2; exact q.2.1) (by have q := okm1008300 a0 a1 a2; exact q.2.2.1) (by have q := okm1008300 a0 a1 a2; exact q.2.2.2))
            have f117 : 0 + (length (map d_si (o28_2 (m1008300 a0 a1 a2) 1))) ≤ (length (map d_si (o28_2 (m1008300 a0 a1 a2) 1))) := (by omega)
            have f118 : fullR (take (length (map d_si (o28_2 (m1008300 a0 a1 a2) 1))) (drop 0 (map d_si (o28_2 (m1008300 a0 a1 a2) 1)))) = true := (ft_si _ _ _)
            have f119 : toBR (take (length (map d_si (o28_2 (m1008300 a0 a1 a2) 1))) (drop 0 (map d_si (o28_2 (m1008300 a0 a1 a2) 1)))) = (map b_si (o28_2 (m1008300 a0 a1 a2) 1)) := (tb_si _)
            have f120 : 0 + (length (map d_R (o28_1 (m1008300 a0 a1 a2) 1))) ≤ (length (map d_R (o28_1 (m1008300 a0 a1 a2) 1))) := (by omega)
            have f121 : fullR (take (length (map d_R (o28_1 (m1008300 a0 a1 a2) 1))) (drop 0 (map d_R (o28_1 (m1008300 a0 a1 a2) 1)))) = true := (ft_R _ _ _)
            have f122 : toBR (take (length (map d_R (o28_1 (m1008300 a0 a1 a2) 1))) (drop 0 (map d_R (o28_1 (m1008300 a0 a1 a2) 1)))) = (map b_R (o28_1 (m1008300 a0 a1 a2) 1)) := (tb_R _)
            have f123 : 0 + (length (map d_si (o28_0 (m1008300 a0 a1 a2) 1))) ≤ (length (map d_si (o28_0 (m1008300 a0 a1 a2) 1))) := (by omega)
            have f124 : fullR (take (length (map d_si (o28_0 (m1008300 a0 a1 a2) 1))) (drop 0 (map d_si (o28_0 (m1008300 a0 a1 a2) 1)))) = true := (ft_si _ _ _)
            have f125 : toBR (take (length (map d_si (o28_0 (m1008300 a0 a1 a2) 1))) (drop 0 (map d_si (o28_0 (m1008300 a0 a1 a2) 1)))) = (map b_si (o28_0 (m1008300 a0 a1 a2) 1)) := (tb_si _)
            have f126 : Ev F X (.call 29 [(.agg [(.i ((m1008300 a0 a1 a2).f0)), (.i ((m1008300 a0 a1 a2).f1)), (.i ((m1008300 a0 a1 a2).f2)), (.i ((m1008300 a0 a1 a2).f3)), (.bor 0 (map b_si (o28_2 (m1008300 a0 a1 a2) 1))), (.bor 0 (map b_R (o28_1 (m1008300 a0 a1 a2) 1))), (.bor 0 (map b_si (o28_0 (m1008300 a0 a1 a2) 1))), (.i ((m1008300 a0 a1 a2).f7)), (.i ((m1008300 a0 a1 a2).f8)), (.i ((m1008300 a0 a1 a2).f9))]), (.oi 1)] [] [] [(.oi (m29 (K_C.mk ((m1008300 a0 a1 a2).f0) ((m1008300 a0 a1 a2).f1) ((m1008300 a0 a1 a2).f2) ((m1008300 a0 a1 a2).f3) (o28_2 (m1008300 a0 a1 a2) 1) (o28_1 (m1008300 a0 a1 a2) 1) (o28_0 (m1008300 a0 a1 a2) 1) ((m1008300 a0 a1 a2).f7) ((m1008300 a0 a1 a2).f8) ((m1008300 a0 a1 a2).f9)) 1))]) := (e29 (a0 := (K_C.mk ((m1008300 a0 a1 a2).f0) ((m1008300 a0 a1 a2).f1) ((m1008300 a0 a1 a2).f2) ((m1008300 a0 a1 a2).f3) (o28_2 (m1008300 a0 a1 a2) 1) (o28_1 (m1008300 a0 a1 a2) 1) (o28_0 (m1008300 a0 a1 a2) 1) ((m1008300 a0 a1 a2).f7) ((m1008300 a0 a1 a2).f8) ((m1008300 a0 a1 a2).f9))) (a1 := 1) (by have q := okm1008300 a0 a1 a2; rw [ol28_2]; exact q.1) (by have q := okm1008300 a0 a1 a2; rw [ol28_1]; exact q.2.1) (by have q := okm1008300 a0 a1 a2; exact oo86 _ _ q.2.2.1) (by have q := okm1008300 a0 a1 a2; rw [ol28_0]; exact q.2.2.2))
            by_cases h5 : (decide ((m29 (K_C.mk ((m1008300 a0 a1 a2).f0) ((m1008300 a0 a1 a2).f1) ((m1008300 a0 a1 a2).f2) ((m1008300 a0 a1 a2).f3) (o28_2 (m1008300 a0 a1 a2) 1) (o28_1 (m1008300 a0 a1 a2) 1) (o28_0 (m1008300 a0 a1 a2) 1) ((m1008300 a0 a1 a2).f7) ((m1008300 a0 a1 a2).f8) ((m1008300 a0 a1 a2).f9)) 1) < 0)) = true
            · try simp only [if_pos h5]
              exact callP_ok (ps := []) (os := []) (rs := [(.one (.val (.bool false)))]) (by kernel_rfl) (.f (nt h0) (.h 10 (.b false) (.r 18 [] [] f1 (.f (nt h1) (.h 25 (.b false) (.r 29 [] [] f3 (.f f4 (.f f5 (.f f6 (.f f7 (.f f8 (.f f9 (.f f10 (.f f11 (.f f12 (.r 35 [] [(map b_si a0.f2), (map b_R a0.f3), (map b_si a0.f4)] f13 (.f f14 (.f f15 (.f f16 (.f f17 (.f f18 (.f f19 (.r 43 [] [] f20 (.f f21 (.f f22 (.f f23 (.f f24 (.f f25 (.f f26 (.f f27 (.f f28 (.f f29 (.f f30 (.f f31 (.f f32 (.f f33 (.f f34 (.f f35 (.r 55 [] [(map b_si a0.f2), (map b_R a0.f3), (map b_si a0.f4)] f36 (.f f37 (.f f38 (.f f39 (.f f40 (.f f41 (.f f42 (.f f43 (.f f44 (.f f45 (.f f46 (.f f47 (.f f48 (.f f49 (.f f50 (.f f51 (.f f52 (.f f53 (.f f54 (.f f55 (.f f56 (.f f57 (.f f58 (.f f59 (.f f60 (.r 65 [] [(map b_si ((m1008300 a0 a1 a2).f4)), (map b_R ((m1008300 a0 a1 a2).f5)), (map b_si ((m1008300 a0 a1 a2).f6)), (map b_si ((m32 a0 a1 a2).f4)), (map b_R ((m32 a0 a1 a2).f5)), (map b_si ((m32 a0 a1 a2).f6))] f61 (.f (nt h2) (.h 68 (.b false) (.r 74 [] [] f63 (.f f64 (.f f65 (.f f66 (.f f67 (.f f68 (.f f69 (.f f70 (.f f71 (.f f72 (.f f73 (.f f74 (.f f75 (.f f76 (.f f77 (.f f78 (.f f79 (.f f80 (.f f81 (.r 76 [] [(map b_si a0.f2), (map b_R a0.f3), (map b_si a0.f4), (map b_si a0.f2), (map b_R a0.f3), (map b_si a0.f4)] f82 (.f (nt h3) (.f f84 (.f f85 (.f f86 (.h 79 (.b false) (.r 87 [true, true, true] [] f87 (.f (nt h4) (.f (nt h4) (.f (nt h4) (.f f91 (.f f92 (.f f93 (.f f94 (.f f95 (.f f96 (.f f97 (.f f98 (.f f99 (.f f100 (.f f101 (.f f102 (.f f103 (.f f104 (.f f105 (.f f106 (.f f107 (.f f108 (.h 96 (.b false) (.h 98 (.b false) (.h 100 (.b false) (.r 101 [] [(map b_si ((m1008300 a0 a1 a2).f4)), (map b_R ((m1008300 a0 a1 a2).f5)), (map b_si ((m1008300 a0 a1 a2).f6)), (map b_si ((m32 a0 a1 a2).f4)), (map b_R ((m32 a0 a1 a2).f5)), (map b_si ((m32 a0 a1 a2).f6))] f109 (.f (nt h4) (.f (nt h4) (.f (nt h2) (.f f113 (.f f114 (.f f115 (.h 102 (.b false) (.h 105 (.b false) (.h 106 (.b false) (.r 114 [true, true, true] [] f116 (.f f117 (.f f118 (.f f119 (.f f120 (.f f121 (.f f122 (.f f123 (.f f124 (.f f125 (.r 124 [] [(map b_si (o28_2 (m1008300 a0 a1 a2) 1)), (map b_R (o28_1 (m1008300 a0 a1 a2) 1)), (map b_si (o28_0 (m1008300 a0 a1 a2) 1))] f126 (.f h5 (.h 131 (.b true) .nil)))))))))))))))))))))))))))))))))))))))))))))))))))))))))))))))))))))))))))))))))))))))))))))))))))))))))))))))))))))))))))))))))))))))))))
            · try simp only [if_neg h5]
              by_cases h6 : ((m29 (K_C.mk ((m1008300 a0 a1 a2).f0) ((m1008300 a0 a1 a2).f1) ((m1008300 a0 a1 a2).f2) ((m1008300 a0 a1 a2).f3) (o28_2 (m1008300 a0 a1 a2) 1) (o28_1 (m1008300 a0 a1 a2) 1) (o28_0 (m1008300 a0 a1 a2) 1) ((m1008300 a0 a1 a2).f7) ((m1008300 a0 a1 a2).f8) ((m1008300 a0 a1 a2).f9)) 1) != (m28 (m1008300 a0 a1 a2) 1)) = true
              · try simp only [if_pos h6]
                exact callP_ok (ps := []) (os := []) (rs := [(.one (.val (.bool false)))]) (by kernel_rfl) (.f (nt h0) (.h 10 (.b false) (.r 18 [] [] f1 (.f (nt h1) (.h 25 (.b false) (.r 29 [] [] f3 (.f f4 (.f f5 (.f f6 (.f f7 (.f f8 (.f f9 (.f f10 (.f f11 (.f f12 (.r 35 [] [(map b_si a0.f2), (map b_R a0.f3), (map b_si a0.f4)] f13 (.f f14 (.f f15 (.f f16 (.f f17 (.f f18 (.f f19 (.r 43 [] [] f20 (.f f21 (.f f22 (.f f23 (.f f24 (.f f25 (.f f26 (.f f27 (.f f28 (.f f29 (.f f30 (.f f31 (.f f32 (.f f33 (.f f34 (.f f35 (.r 55 [] [(map b_si a0.f2), (map b_R a0.f3), (map b_si a0.f4)] f36 (.f f37 (.f f38 (.f f39 (.f f40 (.f f41 (.f f42 (.f f43 (.f f44 (.f f45 (.f f46 (.f f47 (.f f48 (.f f49 (.f f50 (.f f51 (.f f52 (.f f53 (.f f54 (.f f55 (.f f56 (.f f57 (.f f58 (.f f59 (.f f60 (.r 65 [] [(map b_si ((m1008300 a0 a1 a2).f4)), (map b_R ((m1008300 a0 a1 a2).f5)), (map b_si ((m1008300 a0 a1 a2).f6)), (map b_si ((m32 a0 a1 a2).f4)), (map b_R ((m32 a0 a1 a2).f5)), (map b_si ((m32 a0 a1 a2).f6))] f61 (.f (nt h2) (.h 68 (.b false) (.r 74 [] [] f63 (.f f64 (.f f65 (.f f66 (.f f67 (.f f68 (.f f69 (.f f70 (.f f71 (.f f72 (.f f73 (.f f74 (.f f75 (.f f76 (.f f77 (.f f78 (.f f79 (.f f80 (.f f81 (.r 76 [] [(map b_si a0.f2), (map b_R a0.f3), (map b_si a0.f4), (map b_si a0.f2), (map b_R a0.f3), (map b_si a0.f4)] f82 (.f (nt h3) (.f f84 (.f f85 (.f f86 (.h 79 (.b false) (.r 87 [true, true, true] [] f87 (.f (nt h4) (.f (nt h4) (.f (nt h4) (.f f91 (.f f92 (.f f93 (.f f94 (.f f95 (.f f96 (.f f97 (.f f98 (.f f99 (.f f100 (.f f101 (.f f102 (.f f103 (.f f104 (.f f105 (.f f106 (.f f107 (.f f108 (.h 96 (.b false) (.h 98 (.b false) (.h 100 (.b false) (.r 101 [] [(map b_si ((m1008300 a0 a1 a2).f4)), (map b_R ((m1008300 a0 a1 a2).f5)), (map b_si ((m1008300 a0 a1 a2).f6)), (map b_si ((m32 a0 a1 a2).f4)), (map b_R ((m32 a0 a1 a2).f5)), (map b_si ((m32 a0 a1 a2).f6))] f109 (.f (nt h4) (.f (nt h4) (.f (nt h2) (.f f113 (.f f114 (.f f115 (.h 102 (.b false) (.h 105 (.b false) (.h 106 (.b false) (.r 114 [true, true, true] [] f116 (.f f117 (.f f118 (.f f119 (.f f120 (.f f121 (.f f122 (.f f123 (.f f124 (.f f125 (.r 124 [] [(map b_si (o28_2 (m1008300 a0 a1 a2) 1)), (map b_R (o28_1 (m1008300 a0 a1 a2) 1)), (map b_si (o28_0 (m1008300 a0 a1 a2) 1))] f126 (.f (nt h5) (.f h6 (.h 131 (.b false) (.h 138 (.b true) .nil)))))))))))))))))))))))))))))))))))))))))))))))))))))))))))))))))))))))))))))))))))))))))))))))))))))))))))))))))))))))))))))))))))))))))))))
              · try simp only [if_neg h6]
                have f129 : Ev F X (.call 16 [(.agg [(.i a0.f0), (.i a0.f1), (.bor (l0_2 + 1) (map b_si a0.f2)), (.bor (l0_3 + 1) (map b_R a0.f3)), (.bor (l0_4 + 1) (map b_si a0.f4)), (.i a0.f5), (.i a0.f6), (.i a0.f7)])] [] [] [(.agg [(.i a0.f0), (.i a0.f1), (.own 2 (map d_si a0.f2)), (.own 5 (map d_R a0.f3)), (.own 2 (map d_si a0.f4)), (.i a0.f5), (.i a0.f6), (.i a0.f7)])]) := (e16 (a0 := a0) (by with_reducible assumption) (by with_reducible assumption) (by intro z hz; exact os_ok_R z ((by assumption : ∀ z ∈ a0.f3, os_R z) z hz)) (by with_reducible assumption))
                have f130 : 0 + (length (map d_si a0.f2)) ≤ (length (map d_si a0.f2)) := (by omega)
                have f131 : fullR (take (length (map d_si a0.f2)) (drop 0 (map d_si a0.f2))) = true := (ft_si _ _ _)
                have f132 : toBR (take (length (map d_si a0.f2)) (drop 0 (map d_si a0.f2))) = (map b_si a0.f2) := (tb_si _)
                have f133 : 0 + (length (map d_R a0.f3)) ≤ (length (map d_R a0.f3)) := (by omega)
                have f134 : fullR (take (length (map d_R a0.f3)) (drop 0 (map d_R a0.f3))) = true := (ft_R _ _ _)
                have f135 : toBR (take (length (map d_R a0.f3)) (drop 0 (map d_R a0.f3))) = (map b_R a0.f3) := (tb_R _)
                have f136 : 0 + (length (map d_si a0.f4)) ≤ (length (map d_si a0.f4)) := (by omega)
                have f137 : fullR (take (length (map d_si a0.f4)) (drop 0 (map d_si a0.f4))) = true := (ft_si _ _ _)
                have f138 : toBR (take (length (map d_si a0.f4)) (drop 0 (map d_si a0.f4))) = (map b_si a0.f4) := (tb_si _)
                have f139 : Ev F X (.call 33 [(.agg [(.i a0.f0), (.i a0.f1), (.bor 0 (map b_si a0.f2)), (.bor 0 (map b_R a0.f3)), (.bor 0 (map b_si a0.f4)), (.i a0.f5), (.i a0.f6), (.i a0.f7)]), (.one (.val (.string a1))), (.oi a2)] [] [] [(.agg [(.i ((m1008300 a0 a1 a2).f0)), (.i ((m1008300 a0 a1 a2).f1)), (.i ((m1008300 a0 a1 a2).f2)), (.i ((m1008300 a0 a1 a2).f3)), (.own 2 (map d_si ((m1008300 a0 a1 a2).f4))), (.own 5 (map d_R ((m1008300 a0 a1 a2).f5))), (.own 2 (map d_si ((m1008300 a0 a1 a2).f6))), (.i ((m1008300 a0 a1 a2).f7)), (.i ((m1008300 a0 a1 a2).f8)), (.i ((m1008300 a0 a1 a2).f9))])]) := (e33 (a0 := a0) (a1 := a1) (a2 := a2) (by with_reducible assumption) (by with_reducible assumption) (by intro z hz; exact os_ok_R z ((by assumption : ∀ z ∈ a0.f3, os_R z) z hz)) (by with_reducible assumption))
                have f140 : 0 = 0 := rfl
                have f141 : (length (map d_si ((m1008300 a0 a1 a2).f4))) = (length (map d_si ((m1008300 a0 a1 a2).f4))) := rfl
                have f142 : 0 = 0 := rfl
                have f143 : (length (map d_R ((m1008300 a0 a1 a2).f5))) = (length (map d_R ((m1008300 a0 a1 a2).f5))) := rfl
                have f144 : 0 = 0 := rfl
                have f145 : (length (map d_si ((m1008300 a0 a1 a2).f6))) = (length (map d_si ((m1008300 a0 a1 a2).f6))) := rfl
                have f146 : 0 + (length (map d_si ((m1008300 a0 a1 a2).f4))) ≤ (length (map d_si ((m1008300 a0 a1 a2).f4))) := (by omega)
                have f147 : fullR (take (length (map d_si ((m1008300 a0 a1 a2).f4))) (drop 0 (map d_si ((m1008300 a0 a1 a2).f4)))) = true := (ft_si _ _ _)
                have f148 : toBR (take (length (map d_si ((m1008300 a0 a1 a2).f4))) (drop 0 (map d_si ((m1008300 a0 a1 a2).f4)))) = (map b_si ((m1008300 a0 a1 a2).f4)) := (tb_si _)
                have f149 : 0 + (length (map d_R ((m1008300 a0 a1 a2).f5))) ≤ (length (map d_R ((m1008300 a0 a1 a2).f5))) := (by omega)
                have f150 : fullR (take (length (map d_R ((m1008300 a0 a1 a2).f5))) (drop 0 (map d_R ((m1008300 a0 a1 a2).f5)))) = true := (ft_R _ _ _)
                have f151 : toBR (take (length (map d_R ((m1008300 a0 a1 a2).f5))) (drop 0 (map d_R ((m1008300 a0 a1 a2).f5)))) = (map b_R ((m1008300 a0 a1 a2).f5)) := (tb_R _)
                have f152 : 0 + (length (map d_si ((m1008300 a0 a1 a2).f6))) ≤ (length (map d_si ((m1008300 a0 a1 a2).f6))) := (by omega)
                have f153 : fullR (take (length (map d_si ((m1008300 a0 a1 a2).f6))) (drop 0 (map d_si ((m1008300 a0 a1 a2).f6)))) = true := (ft_si _ _ _)
                have f154 : toBR (take (length (map d_si ((m1008300 a0 a1 a2).f6))) (drop 0 (map d_si ((m1008300 a0 a1 a2).f6)))) = (map b_si ((m1008300 a0 a1 a2).f6)) := (tb_si _)
                have f155 : 0 + (length (map d_si ((m32 a0 a1 a2).f4))) ≤ (length (map d_si ((m32 a0 a1 a2).f4))) := (by omega)
                have f156 : fullR (take (length (map d_si ((m32 a0 a1 a2).f4))) (drop 0 (map d_si ((m32 a0 a1 a2).f4)))) = true := (ft_si _ _ _)
                have f157 : toBR (take (length (map d_si ((m32 a0 a1 a2).f4))) (drop 0 (map d_si ((m32 a0 a1 a2).f4)))) = (map b_si ((m32 a0 a1 a2).f4)) := (tb_si _)
                have f158 : 0 + (length (map d_R ((m32 a0 a1 a2).f5))) ≤ (length (map d_R ((m32 a0 a1 a2).f5))) := (by omega)
                have f159 : fullR (take (length (map d_R ((m32 a0 a1 a2).f5))) (drop 0 (map d_R ((m32 a0 a1 a2).f5)))) = true := (ft_R _ _ _)
                have f160 : toBR (take (length (map d_R ((m32 a0 a1 a2).f5))) (drop 0 (map d_R ((m32 a0 a1 a2).f5)))) = (map b_R ((m32 a0 a1 a2).f5)) := (tb_R _)
                have f161 : 0 + (length (map d_si ((m32 a0 a1 a2).f6))) ≤ (length (map d_si ((m32 a0 a1 a2).f6))) := (by omega)
                have f162 : fullR (take (length (map d_si ((m32 a0 a1 a2).f6))) (drop 0 (map d_si ((m32 a0 a1 a2).f6)))) = true := (ft_si _ _ _)
                have f163 : toBR (take (length (map d_si ((m32 a0 a1 a2).f6))) (drop 0 (map d_si ((m32 a0 a1 a2).f6)))) = (map b_si ((m32 a0 a1 a2).f6)) := (tb_si _)
                have f164 : Ev F X (.call 26 [(.agg [(.i ((m1008300 a0 a1 a2).f0)), (.i ((m1008300 a0 a1 a2).f1)), (.i ((m1008300 a0 a1 a2).f2)), (.i ((m1008300 a0 a1 a2).f3)), (.bor 0 (map b_si ((m1008300 a0 a1 a2).f4))), (.bor 0 (map b_R ((m1008300 a0 a1 a2).f5))), (.bor 0 (map b_si ((m1008300 a0 a1 a2).f6))), (.i ((m1008300 a0 a1 a2).f7)), (.i ((m1008300 a0 a1 a2).f8)), (.i ((m1008300 a0 a1 a2).f9))]), (.agg [(.i ((m32 a0 a1 a2).f0)), (.i ((m32 a0 a1 a2).f1)), (.i ((m32 a0 a1 a2).f2)), (.i ((m32 a0 a1 a2).f3)), (.bor 0 (map b_si ((m32 a0 a1 a2).f4))), (.bor 0 (map b_R ((m32 a0 a1 a2).f5))), (.bor 0 (map b_si ((m32 a0 a1 a2).f6))), (.i ((m32 a0 a1 a2).f7)), (.i ((m32 a0 a1 a2).f8)), (.i ((m32 a0 a1 a2).f9))])] [] [] [(.one (.val (.bool (m26 (m1008300 a0 a1 a2) (m32 a0 a1 a2)))))]) := (e26 (a0 := (m1008300 a0 a1 a2)) (a1 := (m32 a0 a1 a2)) (by have q := okm1008300 a0 a1 a2; exact q.1) (by have q := okm1008300 a0 a1 a2; exact q.2.1) (by have q := okm1008300 a0 a1 a2; exact q.2.2.1) (by have q := okm1008300 a0 a1 a2; exact q.2.2.2) (by have q := okm32 a0 a1 a2; exact q.1) (by have q := okm32 a0 a1 a2; exact q.2.1) (by have q := okm32 a0 a1 a2; exact q.2.2.1) (by have q := okm32 a0 a1 a2; exact q.2.2.2))
                have f166 : 0 + (length (map d_si (o28_2 (m1008300 a0 a1 a2) 1))) ≤ (length (map d_si (o28_2 (m1008300 a0 a1 a2) 1))) := (by omega)
                have f167 : fullR (take (length (map d_si (o28_2 (m1008300 a0 a1 a2) 1))) (drop 0 (map d_si (o28_2 (m1008300 a0 a1 a2) 1)))) = true := (ft_si _ _ _)
                have f168 : toBR (take (length (map d_si (o28_2 (m1008300 a0 a1 a2) 1))) (drop 0 (map d_si (o28_2 (m1008300 a0 a1 a2) 1)))) = (map b_si (o28_2 (m1008300 a0 a1 a2) 1)) := (tb_si _)
                have f169 : 0 + (length (map d_R (o28_1 (m1008300 a0 a1 a2) 1))) ≤ (length (map d_R (o28_1 (m1008300 a0 a1 a2) 1))) := (by omega)
                have f170 : fullR (take (length (map d_R (o28_1 (m1008300 a0 a1 a2) 1))) (drop 0 (map d_R (o28_1 (m1008300 a0 a1 a2) 1)))) = true := (ft_R _ _ _)
                have f171 : toBR (take (length (map d_R (o28_1 (m1008300 a0 a1 a2) 1))) (drop 0 (map d_R (o28_1 (m1008300 a0 a1 a2) 1)))) = (map b_R (o28_1 (m1008300 a0 a1 a2) 1)) := (tb_R _)
                have f172 : 0 + (length (map d_si (o28_0 (m1008300 a0 a1 a2) 1))) ≤ (length (map d_si (o28_0 (m1008300 a0 a1 a2) 1))) := (by omega)
                have f173 : fullR (take (length (map d_si (o28_0 (m1008300 a0 a1 a2) 1))) (drop 0 (map d_si (o28_0 (m1008300 a0 a1 a2) 1)))) = true := (ft_si _ _ _)
                have f174 : toBR (take (length (map d_si (o28_0 (m1008300 a0 a1 a2) 1))) (drop 0 (map d_si (o28_0 (m1008300 a0 a1 a2) 1)))) = (map b_si (o28_0 (m1008300 a0 a1 a2) 1)) := (tb_si _)
                have f175 : Ev F X (.call 29 [(.agg [(.i ((m1008300 a0 a1 a2).f0)), (.i ((m1008300 a0 a1 a2).f1)), (.i ((m1008300 a0 a1 a2).f2)), (.i ((m1008300 a0 a1 a2).f3)), (.bor 0 (map b_si (o28_2 (m1008300 a0 a1 a2) 1))), (.bor 0 (map b_R (o28_1 (m1008300 a0 a1 a2) 1))), (.bor 0 (map b_si (o28_0 (m1008300 a0 a1 a2) 1))), (.i ((m1008300 a0 a1 a2).f7)), (.i ((m1008300 a0 a1 a2).f8)), (.i ((m1008300 a0 a1 a2).f9))]), (.oi 1)] [] [] [(.oi (m29 (K_C.mk ((m1008300 a0 a1 a2).f0) ((m1008300 a0 a1 a2).f1) ((m1008300 a0 a1 a2).f2) ((m1008300 a0 a1 a2).f3) (o28_2 (m1008300 a0 a1 a2) 1) (o28_1 (m1008300 a0 a1 a2) 1) (o28_0 (m1008300 a0 a1 a2) 1) ((m1008300 a0 a1 a2).f7) ((m1008300 a0 a1 a2).f8) ((m1008300 a0 a1 a2).f9)) 1))]) := (e29 (a0 := (K_C.mk ((m1008300 a0 a1 a2).f0) ((m1008300 a0 a1 a2).f1) ((m1008300 a0 a1 a2).f2) ((m1008300 a0 a1 a2).f3) (o28_2 (m1008300 a0 a1 a2) 1) (o28_1 (m1008300 a0 a1 a2) 1) (o28_0 (m1008300 a0 a1 a2) 1) ((m1008300 a0 a1 a2).f7) ((m1008300 a0 a1 a2).f8) ((m1008300 a0 a1 a2).f9))) (a1 := 1) (by have q := okm1008300 a0 a1 a2; rw [ol28_2]; exact q.1) (by have q := okm1008300 a0 a1 a2; rw [ol28_1]; exact q.2.1) (by have q := okm1008300 a0 a1 a2; exact oo86 _ _ q.2.2.1) (by have q := okm1008300 a0 a1 a2; rw [ol28_0]; exact q.2.2.2))
                exact callP_ok (ps := []) (os := []) (rs := [(.one (.val (.bool true)))]) (by kernel_rfl) (.f (nt h0) (.h 10 (.b false) (.r 18 [] [] f1 (.f (nt h1) (.h 25 (.b false) (.r 29 [] [] f3 (.f f4 (.f f5 (.f f6 (.f f7 (.f f8 (.f f9 (.f f10 (.f f11 (.f f12 (.r 35 [] [(map b_si a0.f2), (map b_R a0.f3), (map b_si a0.f4)] f13 (.f f14 (.f f15 (.f f16 (.f f17 (.f f18 (.f f19 (.r 43 [] [] f20 (.f f21 (.f f22 (.f f23 (.f f24 (.f f25 (.f f26 (.f f27 (.f f28 (.f f29 (.f f30 (.f f31 (.f f32 (.f f33 (.f f34 (.f f35 (.r 55 [] [(map b_si a0.f2), (map b_R a0.f3), (map b_si a0.f4)] f36 (.f f37 (.f f38 (.f f39 (.f f40 (.f f41 (.f f42 (.f f43 (.f f44 (.f f45 (.f f46 (.f f47 (.f f48 (.f f49 (.f f50 (.f f51 (.f f52 (.f f53 (.f f54 (.f f55 (.f f56 (.f f57 (.f f58 (.f f59 (.f f60 (.r 65 [] [(map b_si ((m1008300 a0 a1 a2).f4)), (map b_R ((m1008300 a0 a1 a2).f5)), (map b_si ((m1008300 a0 a1 a2).f6)), (map b_si ((m32 a0 a1 a2).f4)), (map b_R ((m32 a0 a1 a2).f5)), (map b_si ((m32 a0 a1 a2).f6))] f61 (.f (nt h2) (.h 68 (.b false) (.r 74 [] [] f63 (.f f64 (.f f65 (.f f66 (.f f67 (.f f68 (.f f69 (.f f70 (.f f71 (.f f72 (.f f73 (.f f74 (.f f75 (.f f76 (.f f77 (.f f78 (.f f79 (.f f80 (.f f81 (.r 76 [] [(map b_si a0.f2), (map b_R a0.f3), (map b_si a0.f4), (map b_si a0.f2), (map b_R a0.f3), (map b_si a0.f4)] f82 (.f (nt h3) (.f f84 (.f f85 (.f f86 (.h 79 (.b false) (.r 87 [true, true, true] [] f87 (.f (nt h4) (.f (nt h4) (.f (nt h4) (.f f91 (.f f92 (.f f93 (.f f94 (.f f95 (.f f96 (.f f97 (.f f98 (.f f99 (.f f100 (.f f101 (.f f102 (.f f103 (.f f104 (.f f105 (.f f106 (.f f107 (.f f108 (.h 96 (.b false) (.h 98 (.b false) (.h 100 (.b false) (.r 101 [] [(map b_si ((m1008300 a0 a1 a2).f4)), (map b_R ((m1008300 a0 a1 a2).f5)), (map b_si ((m1008300 a0 a1 a2).f6)), (map b_si ((m32 a0 a1 a2).f4)), (map b_R ((m32 a0 a1 a2).f5)), (map b_si ((m32 a0 a1 a2).f6))] f109 (.f (nt h4) (.f (nt h4) (.f (nt h2) (.f f113 (.f f114 (.f f115 (.h 102 (.b false) (.h 105 (.b false) (.h 106 (.b false) (.r 114 [true, true, true] [] f116 (.f f117 (.f f118 (.f f119 (.f f120 (.f f121 (.f f122 (.f f123 (.f f124 (.f f125 (.r 124 [] [(map b_si (o28_2 (m1008300 a0 a1 a2) 1)), (map b_R (o28_1 (m1008300 a0 a1 a2) 1)), (map b_si (o28_0 (m1008300 a0 a1 a2) 1))] f126 (.f (nt h5) (.f (nt h6) (.h 131 (.b false) (.h 138 (.b false) (.r 142 [] [] f129 (.f f130 (.f f131 (.f f132 (.f f133 (.f f134 (.f f135 (.f f136 (.f f137 (.f f138 (.r 148 [] [(map b_si a0.f2), (map b_R a0.f3), (map b_si a0.f4)] f139 (.f f140 (.f f141 (.f f142 (.f f143 (.f f144 (.f f145 (.f f146 (.f f147 (.f f148 (.f f149 (.f f150 (.f f151 (.f f152 (.f f153 (.f f154 (.f f155 (.f f156 (.f f157 (.f f158 (.f f159 (.f f160 (.f f161 (.f f162 (.f f163 (.r 158 [] [(map b_si ((m1008300 a0 a1 a2).f4)), (map b_R ((m1008300 a0 a1 a2).f5)), (map b_si ((m1008300 a0 a1 a2).f6)), (map b_si ((m32 a0 a1 a2).f4)), (map b_R ((m32 a0 a1 a2).f5)), (map b_si ((m32 a0 a1 a2).f6))] f164 (.f (nt h2) (.f f166 (.f f167 (.f f168 (.f f169 (.f f170 (.f f171 (.f f172 (.f f173 (.f f174 (.h 161 (.b false) (.r 169 [] [(map b_si (o28_2 (m1008300 a0 a1 a2) 1)), (map b_R (o28_1 (m1008300 a0 a1 a2) 1)), (map b_si (o28_0 (m1008300 a0 a1 a2) 1))] f175 (.f (nt h5) (.f (nt h6) (.h 176 (.b false) (.h 183 (.b false) .nil)))))))))))))))))))))))))))))))))))))))))))))))))))))))))))))))))))))))))))))))))))))))))))))))))))))))))))))))))))))))))))))))))))))))))))))))))))))))))))))))))))))))))))))))))))))))))))))))))
/-! weights -/
def wt_si (x : K_si) : Nat := 2
theorem wts_si : ∀ (l : List K_si), (map wt_si l).sum = l.length * 2
  | [] => rfl
  | x :: l => by simp only [List.map_cons, List.sum_cons, wts_si l, length_cons, wt_si]; omega
def wt_R (x : K_R) : Nat := 4 + (map wt_si x.f3).sum
def wt_B (x : K_B) : Nat := 5 + (map wt_si x.f2).sum + (map wt_R x.f3).sum + (map wt_si x.f4).sum
def wt_s (x : ByteArray) : Nat := 1
theorem wts_s : ∀ (l : List ByteArray), (map wt_s l).sum = l.length * 1
  | [] => rfl
  | x :: l => by simp only [List.map_cons, List.sum_cons, wts_s l, length_cons, wt_s]; omega
def wt_i (x : Int) : Nat := 1
theorem wts_i : ∀ (l : List Int), (map wt_i l).sum = l.length * 1
  | [] => rfl
  | x :: l => by simp only [List.map_cons, List.sum_cons, wts_i l, length_cons, wt_i]; omega
def wt_b (x : Bool) : Nat := 1
theorem wts_b : ∀ (l : List Bool), (map wt_b l).sum = l.length * 1
  | [] => rfl
  | x :: l => by simp only [List.map_cons, List.sum_cons, wts_b l, length_cons, wt_b]; omega
def wt_C (x : K_C) : Nat := 7 + (map wt_si x.f4).sum + (map wt_R x.f5).sum + (map wt_si x.f6).sum
def wt_LsiE (x : (List K_si)) : Nat := 0 + (map wt_si x).sum
def wt_Q (x : (List K_R)) : Nat := 0 + (map wt_R x).sum
def wt_y (x : Int) : Nat := 1
theorem wts_y : ∀ (l : List Int), (map wt_y l).sum = l.length * 1
  | [] => rfl
  | x :: l => by simp only [List.map_cons, List.sum_cons, wts_y l, length_cons, wt_y]; omega
/-! marks of loop.example/g00539/laws.markWeightS -/
theorem mr85_0 (a0 : List K_si) : ∀ (l p : List K_si) (v1 : Int), 0 ≤ v1 → v1 + ((map wt_si l).sum : Nat) ≤ 4611686018427387904 → ∃ (q : List K_si) (k' : Int) (w2 : _) (w3 : _), r85_0 a0 l (p.length : Int) (p ++ l) v1 = .k0 (p ++ q) k' w2 w3 ∧ q.length = l.length ∧ v1 ≤ k' ∧ k' ≤ v1 + ((map wt_si l).sum : Nat) ∧ ∀ (c : List K_si) (j : Int), ∃ u1 u2, r142_0 c q j v1 = .k0 k' u1 u2
  | [], p, v1, h0, h1 => ⟨[], v1, (p.length : Int), (decide ((p.length : Int) < ((length (map d_si a0)) : Int))), rfl, rfl, by omega, by simp, fun c j => ⟨j, (decide (j < ((length (map b_si c)) : Int))), rfl⟩⟩
  | x0 :: l, p, v1, h0, h1 => by
    simp only [List.map_cons, List.sum_cons, wt_si] at h1 ⊢
    obtain ⟨q, k', w2, w3, e1, e2, e3, e4, e5⟩ := mr85_0 a0 l (p ++ [(K_si.mk (m141 v1) (v1 + 1))]) ((v1 + 1) + 1) (by omega) (by omega)
    refine ⟨(K_si.mk (m141 v1) (v1 + 1)) :: q, k', w2, w3, ?_, by simp [e2], by omega, by omega, ?_⟩
    · have e : set (p ++ x0 :: l) (Int.toNat (p.length : Int)) (K_si.mk (m141 v1) (v1 + 1)) = (p ++ [(K_si.mk (m141 v1) (v1 + 1))]) ++ l := by simp
      have e0 : ((p ++ [(K_si.mk (m141 v1) (v1 + 1))]).length : Int) = (p.length : Int) + 1 := by simp
      rw [e0] at e1
      simp (disch := omega) only [r85_0, wrap64d]
      first | (rw [e, e1]; simp; done) | (simp only [e, e1]; simp; done)
    · intro c j
      obtain ⟨u1, u2, g⟩ := e5 c (j + 1)
      refine ⟨u1, u2, ?_⟩
      simp (disch := omega) only [r142_0, wrap64d]
      first | (simpa using g) | (simp_all; done)
theorem mh85 (a : List K_si) (k : Int) (h0 : 0 ≤ k) (h1 : k + ((map wt_si a).sum : Nat) ≤ 4611686018427387904) : m142 (o85_0 a k) k = m85 a k ∧ k ≤ m85 a k ∧ m85 a k ≤ k + ((map wt_si a).sum : Nat) := by
  obtain ⟨q, k', w2, w3, e1, e2, e3, e4, e5⟩ := mr85_0 a a [] k h0 h1
  obtain ⟨u1, u2, g⟩ := e5 q 0
  simp only [List.nil_append, length_nil] at e1
  rw [show ((0 : Nat) : Int) = 0 from rfl] at e1
  unfold m85 o85_0 m142
  rw [e1]; simp only []; rw [g]; exact ⟨rfl, e3, e4⟩
/-! marks of loop.example/g00539/laws.markRewardS -/
theorem mr86_0 (a0 : List K_R) : ∀ (l p : List K_R) (v1 : Int), 0 ≤ v1 → v1 + ((map wt_R l).sum : Nat) ≤ 4611686018427387904 → ∃ (q : List K_R) (k' : Int) (w2 : _) (w3 : _), r86_0 a0 l (p.length : Int) (p ++ l) v1 = .k0 (p ++ q) k' w2 w3 ∧ q.length = l.length ∧ v1 ≤ k' ∧ k' ≤ v1 + ((map wt_R l).sum : Nat) ∧ ∀ (c : List K_R) (j : Int), ∃ u1 u2, r143_0 c q j v1 = .k0 k' u1 u2
  | [], p, v1, h0, h1 => ⟨[], v1, (p.length : Int), (decide ((p.length : Int) < ((length (map d_R a0)) : Int))), rfl, rfl, by omega, by simp, fun c j => ⟨j, (decide (j < ((length (map b_R c)) : Int))), rfl⟩⟩
  | x0 :: l, p, v1, h0, h1 => by
    simp only [List.map_cons, List.sum_cons, wt_R] at h1 ⊢
    have s0 := mh85 x0.f3 (((v1 + 1) + 1) + 1) (by omega) (by omega)
    obtain ⟨q, k', w2, w3, e1, e2, e3, e4, e5⟩ := mr86_0 a0 l (p ++ [(K_R.mk v1 (v1 + 1) ((v1 + 1) + 1) (o85_0 x0.f3 (((v1 + 1) + 1) + 1)) (m85 x0.f3 (((v1 + 1) + 1) + 1)))]) ((m85 x0.f3 (((v1 + 1) + 1) + 1)) + 1) (by omega) (by omega)
    refine ⟨(K_R.mk v1 (v1 + 1) ((v1 + 1) + 1) (o85_0 x0.f3 (((v1 + 1) + 1) + 1)) (m85 x0.f3 (((v1 + 1) + 1) + 1))) :: q, k', w2, w3, ?_, by simp [e2], by omega, by omega, ?_⟩
    · have e : set (p ++ x0 :: l) (Int.toNat (p.length : Int)) (K_R.mk v1 (v1 + 1) ((v1 + 1) + 1) (o85_0 x0.f3 (((v1 + 1) + 1) + 1)) (m85 x0.f3 (((v1 + 1) + 1) + 1))) = (p ++ [(K_R.mk v1 (v1 + 1) ((v1 + 1) + 1) (o85_0 x0.f3 (((v1 + 1) + 1) + 1)) (m85 x0.f3 (((v1 + 1) + 1) + 1)))]) ++ l := by simp
      have e0 : ((p ++ [(K_R.mk v1 (v1 + 1) ((v1 + 1) + 1) (o85_0 x0.f3 (((v1 + 1) + 1) + 1)) (m85 x0.f3 (((v1 + 1) + 1) + 1)))]).length : Int) = (p.length : Int) + 1 := by simp
      rw [e0] at e1
      simp (disch := omega) only [r86_0, wrap64d]
      first | (rw [e, e1]; simp; done) | (simp only [e, e1]; simp; done)
    · intro c j
      obtain ⟨u1, u2, g⟩ := e5 c (j + 1)
      refine ⟨u1, u2, ?_⟩
      have t0 := s0.1
      have n0 : ¬ (m85 x0.f3 (((v1 + 1) + 1) + 1) < 0) := by omega
      simp (disch := omega) only [r143_0, wrap64d, t0]
      first | (simpa [n0] using g) | (simp_all; done)
theorem mh86 (a : List K_R) (k : Int) (h0 : 0 ≤ k) (h1 : k + ((map wt_R a).sum : Nat) ≤ 4611686018427387904) : m143 (o86_0 a k) k = m86 a k ∧ k ≤ m86 a k ∧ m86 a k ≤ k + ((map wt_R a).sum : Nat) := by
  obtain ⟨q, k', w2, w3, e1, e2, e3, e4, e5⟩ := mr86_0 a a [] k h0 h1
  obtain ⟨u1, u2, g⟩ := e5 q 0
  simp only [List.nil_append, length_nil] at e1
  rw [show ((0 : Nat) : Int) = 0 from rfl] at e1
  unfold m86 o86_0 m143
  rw [e1]; simp only []; rw [g]; exact ⟨rfl, e3, e4⟩
/-! marks of loop.example/g00539/laws.markLedger -/
theorem mh27 (a : K_B) (k : Int) (h0 : 0 ≤ k) (h1 : k + (wt_B a : Nat) ≤ 4611686018427387904) : m87 (K_B.mk a.f0 a.f1 (o27_2 a k) (o27_1 a k) (o27_0 a k) a.f5 a.f6 a.f7) k = m27 a k ∧ k ≤ m27 a k ∧ m27 a k ≤ k + (wt_B a : Nat) := by
  simp only [wt_B] at h1 ⊢
  have s0 := mh85 a.f2 k (by omega) (by omega)
  have s1 := mh86 a.f3 (m85 a.f2 k) (by omega) (by omega)
  have s2 := mh85 a.f4 (m86 a.f3 (m85 a.f2 k)) (by omega) (by omega)
  have t0 := s0.1
  have t1 := s1.1
  have t2 := s2.1
  try simp only [length_map, wt_si, wt_R, wt_B, wt_s, wt_i, wt_b, wt_C, wt_LsiE, wt_Q, wt_y] at *
  unfold m87 m27 o27_0 o27_1 o27_2
  simp (disch := omega) only [wrap64d, t0, t1, t2]
  refine ⟨?_, by omega, by omega⟩
  (repeat' rw [if_neg (by simp only [decide_eq_true_eq]; omega)]) <;> rfl
/-! marks of loop.example/g00539/laws.markLedgerResult -/
theorem mh28 (a : K_C) (k : Int) (h0 : 0 ≤ k) (h1 : k + (wt_C a : Nat) ≤ 4611686018427387904) : m29 (K_C.mk a.f0 a.f1 a.f2 a.f3 (o28_2 a k) (o28_1 a k) (o28_0 a k) a.f7 a.f8 a.f9) k = m28 a k ∧ k ≤ m28 a k ∧ m28 a k ≤ k + (wt_C a : Nat) := by
  simp only [wt_C] at h1 ⊢
  have s0 := mh27 (K_B.mk a.f2 a.f3 a.f4 a.f5 a.f6 a.f7 a.f8 a.f9) k (by omega) (by simp only [wt_si, wt_R, wt_B, wt_s, wt_i, wt_b, wt_C, wt_LsiE, wt_Q, wt_y] at *; omega)
  have t0 := s0.1
  try simp only [length_map, wt_si, wt_R, wt_B, wt_s, wt_i, wt_b, wt_C, wt_LsiE, wt_Q, wt_y] at *
  unfold m29 m28 o28_0 o28_1 o28_2
  simp (disch := omega) only [wrap64d, t0]
  refine ⟨?_, by omega, by omega⟩
  (repeat' rw [if_neg (by simp only [decide_eq_true_eq]; omega)]) <;> rfl
theorem ck106 (F : FuncId → Option VFun) (X : Ext) : CkD F X 28 46 2 24 [(.val (.string (⟨#[]⟩ : ByteArray))), (.val (.int .i64 0))] := by
  intro l rows h1 h2
  exact codeH_ok (t := 0) (hs := []) (q := [0 + 0 ≤ 0, (([] : List (List D)) ++ fromBR l rows).length * 24 ≤ 70368744177664, ∀ r ∈ fromBR l rows, r.length = 2]) (by rfl) ⟨by simp, by simpa using h1, h2, trivial⟩
theorem X_ok (f : FuncId) (args : List SV) (rs : List Ret) (h : X f args rs) : CallOK Tryd.prog f args [] [] rs := by
  rcases h with ⟨rfl, h⟩ | ⟨rfl, h⟩
  · exact clone_ok (X := fun _ _ _ => False) (T := 28) (E := 46) (k := 2) (kb := 24) (zero := [(.val (.string (⟨#[]⟩ : ByteArray))), (.val (.int .i64 0))]) (by kernel_rfl) F_ok (fun _ _ _ h => h.elim) (by kernel_rfl) (ck106 _ _) h
  · obtain ⟨s, c, h1, h2, h3, rfl, rfl⟩ := h
    exact trim_ok s c h1 h2 h3
end Go.Proofs.YtfmkbpiobddhdaaDoor.PayWorker
