/- What the functions compute. -/
import Derived.Test.YtfmkbpiobddhdaaDoorEPayWorkerB
import Derived.KernelRfl
namespace Go.Proofs.YtfmkbpiobddhdaaDoor.PayWorker
open Go Go.Proofs.YtfmkbpiobddhdaaDoor.V
set_option linter.unusedVariables false
set_option linter.unusedSimpArgs false
set_option maxRecDepth 20000
open List (length_replicate length_map length_set length_append length_cons length_nil length_take length_drop take_of_length_le map_take map_drop map_set append_assoc getElem?_map map length take drop getD set)
attribute [local simp] toBR_si fullR_si pureR_si lenB_si lenD_si fromBR_si copy_si toBR_R fullR_R pureR_R lenB_R lenD_R toBR_B fullR_B pureR_B lenB_B lenD_B toBR_s fullR_s pureR_s lenB_s lenD_s fromBR_s copy_s toBR_i fullR_i pureR_i lenB_i lenD_i fromBR_i copy_i toBR_b fullR_b pureR_b lenB_b lenD_b fromBR_b copy_b toBR_C fullR_C pureR_C lenB_C lenD_C toBR_LsiE fullR_LsiE pureR_LsiE lenB_LsiE lenD_LsiE toBR_Q fullR_Q pureR_Q lenB_Q lenD_Q toBR_y fullR_y pureR_y lenB_y lenD_y fromBR_y copy_y
/-! loop 68_0 -/
inductive O68_0 where
  | k0 (w0 : Int) (w1 : Bool)
  | k1 (w0 : Int)
def r68_0 (a0 : K_B) : List K_R → Int → O68_0
  | x0 :: y0, i =>
    if ((m132 a0.f3 i) != 0) = true then (O68_0.k1 (m132 a0.f3 i)) else
    (r68_0 a0 y0 (i + 1) )
  | [], i => (O68_0.k0 i (decide (i < ((length (map b_R a0.f3)) : Int))))
def h68_0 (l0 : Nat) (a0 : K_B) (i : Int)  : St := ⟨[(0, (.bptr l0 [(.val (.int .i64 a0.f0)), (.val (.int .i64 a0.f1)), (.sl (map b_si a0.f2)), (.sl (map b_R a0.f3)), (.sl (map b_si a0.f4)), (.val (.int .i64 a0.f5)), (.val (.int .i64 a0.f6)), (.val (.int .i64 a0.f7))])), (4, (.one (.val (.int .i64 i))))], []⟩
def ex68_0 : O68_0 → VX.Exit
  | .k0 _ _ => (.exit 0)
  | .k1 _ => .ret
def fin68_0 (l0 : Nat) (a0 : K_B) : O68_0 → St
  | .k0 w0 w1 => ⟨[(0, (.bptr l0 [(.val (.int .i64 a0.f0)), (.val (.int .i64 a0.f1)), (.sl (map b_si a0.f2)), (.sl (map b_R a0.f3)), (.sl (map b_si a0.f4)), (.val (.int .i64 a0.f5)), (.val (.int .i64 a0.f6)), (.val (.int .i64 a0.f7))])), (4, (.one (.val (.int .i64 w0)))), (49, (.one (.val (.bool w1))))], []⟩
  | .k1 w0 => ⟨[(2, (.one (.val (.int .i64 w0))))], []⟩
theorem t68_0 {l0 : Nat} {a0 : K_B} (hy0 : length a0.f2 * 24 ≤ 140737488351232) (hy1 : ∀ z ∈ a0.f2, os_si z) (hy2 : length a0.f3 * 56 ≤ 140737488351232) (hy3 : ∀ z ∈ a0.f3, os_R z) (hy4 : length a0.f4 * 24 ≤ 140737488351232) (hy5 : ∀ z ∈ a0.f4, os_si z) : ∀ (y0 : List K_R) (p : List K_R) , p ++ y0 = a0.f3 → Ev F X (.code l68_0 (h68_0 l0 a0 (length p : Int) ) (ex68_0 (r68_0 a0 y0 (length p : Int) )) (fin68_0 l0 a0 (r68_0 a0 y0 (length p : Int) )))
  | [], p, hp0 => by
    have hc : ¬ (decide ((length p : Int) < ((length (map b_R a0.f3)) : Int))) = true := by
      rw [← hp0]; simp only [length_map, length_set, length_append, length_replicate, length_cons, length_nil, decide_eq_true_eq]; omega
    have st := codeH_ok (F := F) (X := X) (c := b68_0) (t := 0) (hs := [(14, .b false)]) (σ := h68_0 l0 a0 (length p : Int) ) (σ' := fin68_0 l0 a0 (.k0 (length p : Int) (decide ((length p : Int) < ((length (map b_R a0.f3)) : Int))))) (e := (.exit 0)) (t' := 15) (hs' := []) (q := [(decide ((length p : Int) < ((length (map b_R a0.f3)) : Int))) = false]) (by kernel_rfl) ⟨(nt hc), trivial⟩
    exact .loopX st (show ((.exit 0) : VX.Exit) ≠ .normal from by simp)
  | x0 :: y0, p, hp0 => by
    have hc : (decide ((length p : Int) < ((length (map b_R a0.f3)) : Int))) = true := by
      rw [← hp0]; simp only [length_map, length_set, length_append, length_replicate, length_cons, length_nil, decide_eq_true_eq]; omega
    have Hx0 : (a0.f3)[Int.toNat (length p : Int)]? = some x0 := by
      rw [← hp0, Int.toNat_natCast]; simp
    obtain ⟨Mx0_0, Mx0_1⟩ := hy3 x0 (List.mem_of_getElem? Hx0)
    have hlen : length (a0.f3) = length p + length y0 + 1 := by rw [← hp0]; simp; omega
    have hw : IntKind.wrap .i64 ((length p : Int) + 1) = (length p : Int) + 1 := wrap64 (by omega)
    simp only [r68_0]
    by_cases h_1 : ((m132 a0.f3 (length p : Int)) != 0) = true
    · try simp only [if_pos h_1]
      have st := codeH_ok (F := F) (X := X) (c := b68_0) (t := 0) (hs := [(14, .b true), (26, .ret [] [(.oi (m132 a0.f3 (length p : Int)))] [] []), (33, .b true)]) (σ := h68_0 l0 a0 (length p : Int) ) (σ' := fin68_0 l0 a0 (.k1 (m132 a0.f3 (length p : Int)))) (e := .ret) (t' := 38) (hs' := []) (q := [(decide ((length p : Int) < ((length (map b_R a0.f3)) : Int))) = true, Ev F X (.call 132 [(.one (.bor (l0 + 1) (map b_R a0.f3))), (.oi (length p : Int))] [] [] [(.oi (m132 a0.f3 (length p : Int)))]), ((m132 a0.f3 (length p : Int)) != 0) = true]) (by kernel_rfl) ⟨hc, (e132 (a0 := a0.f3) (a1 := (length p : Int)) (by with_reducible assumption) (by with_reducible assumption) (by omega) (by omega)), h_1, trivial⟩
      exact .loopX st (show (.ret : VX.Exit) ≠ .normal from by simp)
    · try simp only [if_neg h_1]
      have st := codeH_ok (F := F) (X := X) (c := b68_0) (t := 0) (hs := [(14, .b true), (26, .ret [] [(.oi (m132 a0.f3 (length p : Int)))] [] []), (33, .b false)]) (σ := h68_0 l0 a0 (length p : Int) ) (σ' := ⟨[(0, (.bptr l0 [(.i a0.f0), (.i a0.f1), (.sl (map b_si a0.f2)), (.sl (map b_R a0.f3)), (.sl (map b_si a0.f4)), (.i a0.f5), (.i a0.f6), (.i a0.f7)])), (4, (.oi (IntKind.wrap .i64 ((length p : Int) + 1))))], []⟩) (e := .normal) (t' := 40) (hs' := []) (q := [(decide ((length p : Int) < ((length (map b_R a0.f3)) : Int))) = true, Ev F X (.call 132 [(.one (.bor (l0 + 1) (map b_R a0.f3))), (.oi (length p : Int))] [] [] [(.oi (m132 a0.f3 (length p : Int)))]), ((m132 a0.f3 (length p : Int)) != 0) = false, True]) (by kernel_rfl) ⟨hc, (e132 (a0 := a0.f3) (a1 := (length p : Int)) (by with_reducible assumption) (by with_reducible assumption) (by omega) (by omega)), (nt h_1), trivial, trivial⟩
      have ih := t68_0 (l0 := l0) (a0 := a0) hy0 hy1 hy2 hy3 hy4 hy5 y0 (p ++ [x0])  (by rw [append_assoc]; exact hp0)
      rw [show ((p ++ [x0]).length : Int) = (p.length : Int) + 1 from by simp] at ih
      rw [show (⟨[(0, (.bptr l0 [(.i a0.f0), (.i a0.f1), (.sl (map b_si a0.f2)), (.sl (map b_R a0.f3)), (.sl (map b_si a0.f4)), (.i a0.f5), (.i a0.f6), (.i a0.f7)])), (4, (.oi (IntKind.wrap .i64 ((length p : Int) + 1))))], []⟩ : St) = h68_0 l0 a0 ((length p : Int) + 1)  from (by unfold h68_0; simp only [hw]; done)] at st
      exact .loopN st ih
/-! loop.example/g00539/spec.l14Fault -/
def m68 (a0 : K_B) : Int :=
  if (!(m131 a0)) = true then 3 else
  if ((m107 a0.f2) != 0) = true then (m107 a0.f2) else
    if (decide (((length (map b_si a0.f2)) : Int) > a0.f0)) = true then 2 else
      if (decide (((length (map b_R a0.f3)) : Int) > 6)) = true then 2 else
        if (decide (((length (map b_si a0.f4)) : Int) > 8)) = true then 2 else
          (match r68_0 a0 a0.f3 0 with | .k0 w0_19 w1_19 => (if (!(m133 a0.f4)) = true then 1 else if ((IntKind.wrap .i64 ((IntKind.wrap .i64 ((m134 a0.f4) + a0.f6)) + a0.f5)) != (IntKind.wrap .i64 ((m135 a0.f3 true) + a0.f7))) = true then 7 else if (!(m110 (m135 a0.f3 false) 0 1000000)) = true then 7 else 0) | .k1 w0_19 => w0_19)
theorem e68 {l0 : Nat} {a0 : K_B} (hy0 : length a0.f2 * 24 ≤ 140737488351232) (hy1 : ∀ z ∈ a0.f2, os_si z) (hy2 : length a0.f3 * 56 ≤ 140737488351232) (hy3 : ∀ z ∈ a0.f3, os_R z) (hy4 : length a0.f4 * 24 ≤ 140737488351232) (hy5 : ∀ z ∈ a0.f4, os_si z) : Ev F X (.call 68 [(.bptr l0 [(.val (.int .i64 a0.f0)), (.val (.int .i64 a0.f1)), (.sl (map b_si a0.f2)), (.sl (map b_R a0.f3)), (.sl (map b_si a0.f4)), (.val (.int .i64 a0.f5)), (.val (.int .i64 a0.f6)), (.val (.int .i64 a0.f7))])] [] [] [(.one (.val (.int .i64 (m68 a0))))]) := by
  unfold m68
  have f0 : Ev F X (.call 131 [(.bptr (l0 + 1) [(.i a0.f0), (.i a0.f1), (.sl (map b_si a0.f2)), (.sl (map b_R a0.f3)), (.sl (map b_si a0.f4)), (.i a0.f5), (.i a0.f6), (.i a0.f7)])] [] [] [(.one (.val (.bool (m131 a0))))]) := (e131 (a0 := a0))
  by_cases h0 : (!(m131 a0)) = true
  · try simp only [if_pos h0]
    exact callP_ok (ps := []) (os := []) (rs := [(.oi 3)]) (by kernel_rfl) (.r 5 [] [] f0 (.f h0 (.h 8 (.b true) .nil)))
  · try simp only [if_neg h0]
    have f2 : Ev F X (.call 107 [(.one (.bor (l0 + 1) (map b_si a0.f2)))] [] [] [(.oi (m107 a0.f2))]) := (e107 (a0 := a0.f2) (by with_reducible assumption) (by with_reducible assumption))
    by_cases h1 : ((m107 a0.f2) != 0) = true
    · try simp only [if_pos h1]
      exact callP_ok (ps := []) (os := []) (rs := [(.oi (m107 a0.f2))]) (by kernel_rfl) (.r 5 [] [] f0 (.f (nt h0) (.h 8 (.b false) (.r 18 [] [] f2 (.f h1 (.h 25 (.b true) .nil))))))
    · try simp only [if_neg h1]
      by_cases h2 : (decide (((length (map b_si a0.f2)) : Int) > a0.f0)) = true
      · try simp only [if_pos h2]
        exact callP_ok (ps := []) (os := []) (rs := [(.oi 2)]) (by kernel_rfl) (.r 5 [] [] f0 (.f (nt h0) (.h 8 (.b false) (.r 18 [] [] f2 (.f (nt h1) (.f h2 (.f h2 (.f h2 (.f h2 (.f h2 (.f h2 (.f h2 (.h 25 (.b false) (.h 48 (.b true) (.h 50 (.b true) (.h 52 (.b true) (.h 54 (.b true) (.h 56 (.b true) (.h 58 (.b true) (.h 61 (.b true) .nil))))))))))))))))))))
      · try simp only [if_neg h2]
        by_cases h3 : (decide (((length (map b_R a0.f3)) : Int) > 6)) = true
        · try simp only [if_pos h3]
          exact callP_ok (ps := []) (os := []) (rs := [(.oi 2)]) (by kernel_rfl) (.r 5 [] [] f0 (.f (nt h0) (.h 8 (.b false) (.r 18 [] [] f2 (.f (nt h1) (.f (nt h2) (.f (nt h2) (.f (nt h2) (.f (nt h2) (.f (nt h2) (.f (nt h2) (.f (nt h2) (.f h3 (.f h3 (.f h3 (.f h3 (.f h3 (.f h3 (.f h3 (.h 25 (.b false) (.h 48 (.b false) (.h 50 (.b false) (.h 52 (.b false) (.h 54 (.b false) (.h 56 (.b false) (.h 58 (.b false) (.h 61 (.b false) (.h 64 (.b true) (.h 66 (.b true) (.h 68 (.b true) (.h 70 (.b true) (.h 72 (.b true) (.h 74 (.b true) (.h 77 (.b true) .nil))))))))))))))))))))))))))))))))))
        · try simp only [if_neg h3]
          by_cases h4 : (decide (((length (map b_si a0.f4)) : Int) > 8)) = true
          · try simp only [if_pos h4]
            exact callP_ok (ps := []) (os := []) (rs := [(.oi 2)]) (by kernel_rfl) (.r 5 [] [] f0 (.f (nt h0) (.h 8 (.b false) (.r 18 [] [] f2 (.f (nt h1) (.f (nt h2) (.f (nt h2) (.f (nt h2) (.f (nt h2) (.f (nt h2) (.f (nt h2) (.f (nt h2) (.f (nt h3) (.f (nt h3) (.f (nt h3) (.f (nt h3) (.f (nt h3) (.f (nt h3) (.f (nt h3) (.f h4 (.h 25 (.b false) (.h 48 (.b false) (.h 50 (.b false) (.h 52 (.b false) (.h 54 (.b false) (.h 56 (.b false) (.h 58 (.b false) (.h 61 (.b false) (.h 64 (.b false) (.h 66 (.b false) (.h 68 (.b false) (.h 70 (.b false) (.h 72 (.b false) (.h 74 (.b false) (.h 77 (.b false) (.h 78 (.b true) .nil))))))))))))))))))))))))))))))))))))
          · try simp only [if_neg h4]
            cases h5 : r68_0 a0 a0.f3 0 with
            | k0 w0_19 w1_19 =>
              try dsimp only
              have f19 : (⟨[(0, (.bptr l0 [(.i a0.f0), (.i a0.f1), (.sl (map b_si a0.f2)), (.sl (map b_R a0.f3)), (.sl (map b_si a0.f4)), (.i a0.f5), (.i a0.f6), (.i a0.f7)])), (4, (.oi 0))], []⟩ : St) = h68_0 l0 a0 0  := (by rfl)
              have f20 : Ev F X (.code l68_0 (h68_0 l0 a0 0 ) (.exit 0) ⟨[(0, (.bptr l0 [(.i a0.f0), (.i a0.f1), (.sl (map b_si a0.f2)), (.sl (map b_R a0.f3)), (.sl (map b_si a0.f4)), (.i a0.f5), (.i a0.f6), (.i a0.f7)])), (4, (.oi w0_19)), (49, (.one (.val (.bool w1_19))))], []⟩) := (by have t : Ev F X (.code l68_0 (h68_0 l0 a0 0 ) (ex68_0 (r68_0 a0 a0.f3 0)) (fin68_0 l0 a0 (r68_0 a0 a0.f3 0))) := t68_0 (l0 := l0) (a0 := a0) (by assumption) (by assumption) (by assumption) (by assumption) (by assumption) (by assumption) a0.f3 []  rfl; rw [h5] at t; exact t)
              have f21 : Ev F X (.call 133 [(.one (.bor (l0 + 1) (map b_si a0.f4)))] [] [] [(.one (.val (.bool (m133 a0.f4))))]) := (e133 (a0 := a0.f4) (by with_reducible assumption) (by with_reducible assumption))
              by_cases h6 : (!(m133 a0.f4)) = true
              · try simp only [if_pos h6]
                exact callP_ok (ps := []) (os := []) (rs := [(.oi 1)]) (by kernel_rfl) (.r 5 [] [] f0 (.f (nt h0) (.h 8 (.b false) (.r 18 [] [] f2 (.f (nt h1) (.f (nt h2) (.f (nt h2) (.f (nt h2) (.f (nt h2) (.f (nt h2) (.f (nt h2) (.f (nt h2) (.f (nt h3) (.f (nt h3) (.f (nt h3) (.f (nt h3) (.f (nt h3) (.f (nt h3) (.f (nt h3) (.f (nt h4) (.f f19 (.f f20 (.h 25 (.b false) (.h 48 (.b false) (.h 50 (.b false) (.h 52 (.b false) (.h 54 (.b false) (.h 56 (.b false) (.h 58 (.b false) (.h 61 (.b false) (.h 64 (.b false) (.h 66 (.b false) (.h 68 (.b false) (.h 70 (.b false) (.h 72 (.b false) (.h 74 (.b false) (.h 77 (.b false) (.h 78 (.b false) (.h 81 (.loop (h68_0 l0 a0 0 ) (.exit 0) ⟨[(0, (.bptr l0 [(.i a0.f0), (.i a0.f1), (.sl (map b_si a0.f2)), (.sl (map b_R a0.f3)), (.sl (map b_si a0.f4)), (.i a0.f5), (.i a0.f6), (.i a0.f7)])), (4, (.oi w0_19)), (49, (.one (.val (.bool w1_19))))], []⟩) (.r 91 [] [] f21 (.f h6 (.h 94 (.b true) .nil))))))))))))))))))))))))))))))))))))))))))
              · try simp only [if_neg h6]
                have f23 : Ev F X (.call 134 [(.one (.bor (l0 + 1) (map b_si a0.f4)))] [] [] [(.oi (m134 a0.f4))]) := (e134 (a0 := a0.f4) (by with_reducible assumption))
                have f26 : Ev F X (.call 135 [(.one (.bor (l0 + 1) (map b_R a0.f3))), (.one (.val (.bool true)))] [] [] [(.oi (m135 a0.f3 true))]) := (e135 (a0 := a0.f3) (a1 := true) (by with_reducible assumption) (by intro z hz; exact os_ok_R z ((by assumption : ∀ z ∈ a0.f3, os_R z) z hz)))
                by_cases h7 : ((IntKind.wrap .i64 ((IntKind.wrap .i64 ((m134 a0.f4) + a0.f6)) + a0.f5)) != (IntKind.wrap .i64 ((m135 a0.f3 true) + a0.f7))) = true
                · try simp only [if_pos h7]
                  exact callP_ok (ps := []) (os := []) (rs := [(.oi 7)]) (by kernel_rfl) (.r 5 [] [] f0 (.f (nt h0) (.h 8 (.b false) (.r 18 [] [] f2 (.f (nt h1) (.f (nt h2) (.f (nt h2) (.f (nt h2) (.f (nt h2) (.f (nt h2) (.f (nt h2) (.f (nt h2) (.f (nt h3) (.f (nt h3) (.f (nt h3) (.f (nt h3) (.f (nt h3) (.f (nt h3) (.f (nt h3) (.f (nt h4) (.f f19 (.f f20 (.h 25 (.b false) (.h 48 (.b false) (.h 50 (.b false) (.h 52 (.b false) (.h 54 (.b false) (.h 56 (.b false) (.h 58 (.b false) (.h 61 (.b false) (.h 64 (.b false) (.h 66 (.b false) (.h 68 (.b false) (.h 70 (.b false) (.h 72 (.b false) (.h 74 (.b false) (.h 77 (.b false) (.h 78 (.b false) (.h 81 (.loop (h68_0 l0 a0 0 ) (.exit 0) ⟨[(0, (.bptr l0 [(.i a0.f0), (.i a0.f1), (.sl (map b_si a0.f2)), (.sl (map b_R a0.f3)), (.sl (map b_si a0.f4)), (.i a0.f5), (.i a0.f6), (.i a0.f7)])), (4, (.oi w0_19)), (49, (.one (.val (.bool w1_19))))], []⟩) (.r 91 [] [] f21 (.f (nt h6) (.h 94 (.b false) (.r 104 [] [] f23 (.f trivial (.f trivial (.r 134 [] [] f26 (.f trivial (.f h7 (.f h7 (.f h7 (.f h7 (.f h7 (.f h7 (.f h7 (.f h7 (.h 149 (.b true) (.h 151 (.b true) (.h 153 (.b true) (.h 155 (.b true) (.h 157 (.b true) (.h 159 (.b true) (.h 161 (.b true) (.h 164 (.b true) .nil)))))))))))))))))))))))))))))))))))))))))))))))))))))))))))))))
                · try simp only [if_neg h7]
                  have f33 : Ev F X (.call 135 [(.one (.bor (l0 + 1) (map b_R a0.f3))), (.one (.val (.bool false)))] [] [] [(.oi (m135 a0.f3 false))]) := (e135 (a0 := a0.f3) (a1 := false) (by with_reducible assumption) (by intro z hz; exact os_ok_R z ((by assumption : ∀ z ∈ a0.f3, os_R z) z hz)))
                  have f35 : Ev F X (.call 115 [(.oi (m135 a0.f3 false))] [] [] [(.one (.val (.bool (m110 (m135 a0.f3 false) 0 1000000))))]) := (e115 (a0 := (m135 a0.f3 false)))
                  by_cases h8 : (!(m110 (m135 a0.f3 false) 0 1000000)) = true
                  · try simp only [if_pos h8]
                    exact callP_ok (ps := []) (os := []) (rs := [(.oi 7)]) (by kernel_rfl) (.r 5 [] [] f0 (.f (nt h0) (.h 8 (.b false) (.r 18 [] [] f2 (.f (nt h1) (.f (nt h2) (.f (nt h2) (.f (nt h2) (.f (nt h2) (.f (nt h2) (.f (nt h2) (.f (nt h2) (.f (nt h3) (.f (nt h3) (.f (nt h3) (.f (nt h3) (.f (nt h3) (.f (nt h3) (.f (nt h3) (.f (nt h4) (.f f19 (.f f20 (.h 25 (.b false) (.h 48 (.b false) (.h 50 (.b false) (.h 52 (.b false) (.h 54 (.b false) (.h 56 (.b false) (.h 58 (.b false) (.h 61 (.b false) (.h 64 (.b false) (.h 66 (.b false) (.h 68 (.b false) (.h 70 (.b false) (.h 72 (.b false) (.h 74 (.b false) (.h 77 (.b false) (.h 78 (.b false) (.h 81 (.loop (h68_0 l0 a0 0 ) (.exit 0) ⟨[(0, (.bptr l0 [(.i a0.f0), (.i a0.f1), (.sl (map b_si a0.f2)), (.sl (map b_R a0.f3)), (.sl (map b_si a0.f4)), (.i a0.f5), (.i a0.f6), (.i a0.f7)])), (4, (.oi w0_19)), (49, (.one (.val (.bool w1_19))))], []⟩) (.r 91 [] [] f21 (.f (nt h6) (.h 94 (.b false) (.r 104 [] [] f23 (.f trivial (.f trivial (.r 134 [] [] f26 (.f trivial (.f (nt h7) (.f (nt h7) (.f (nt h7) (.f (nt h7) (.f (nt h7) (.h 149 (.b false) (.h 151 (.b false) (.h 153 (.b false) (.h 155 (.b false) (.h 157 (.b false) (.r 158 [] [] f33 (.f (nt h7) (.h 159 (.b false) (.r 160 [] [] f35 (.f (nt h7) (.f (nt h7) (.f h8 (.h 161 (.b false) (.h 164 (.b false) (.h 165 (.b true) .nil)))))))))))))))))))))))))))))))))))))))))))))))))))))))))))))))))))
                  · try simp only [if_neg h8]
                    exact callP_ok (ps := []) (os := []) (rs := [(.oi 0)]) (by kernel_rfl) (.r 5 [] [] f0 (.f (nt h0) (.h 8 (.b false) (.r 18 [] [] f2 (.f (nt h1) (.f (nt h2) (.f (nt h2) (.f (nt h2) (.f (nt h2) (.f (nt h2) (.f (nt h2) (.f (nt h2) (.f (nt h3) (.f (nt h3) (.f (nt h3) (.f (nt h3) (.f (nt h3) (.f (nt h3) (.f (nt h3) (.f (nt h4) (.f f19 (.f f20 (.h 25 (.b false) (.h 48 (.b false) (.h 50 (.b false) (.h 52 (.b false) (.h 54 (.b false) (.h 56 (.b false) (.h 58 (.b false) (.h 61 (.b false) (.h 64 (.b false) (.h 66 (.b false) (.h 68 (.b false) (.h 70 (.b false) (.h 72 (.b false) (.h 74 (.b false) (.h 77 (.b false) (.h 78 (.b false) (.h 81 (.loop (h68_0 l0 a0 0 ) (.exit 0) ⟨[(0, (.bptr l0 [(.i a0.f0), (.i a0.f1), (.sl (map b_si a0.f2)), (.sl (map b_R a0.f3)), (.sl (map b_si a0.f4)), (.i a0.f5), (.i a0.f6), (.i a0.f7)])), (4, (.oi w0_19)), (49, (.one (.val (.bool w1_19))))], []⟩) (.r 91 [] [] f21 (.f (nt h6) (.h 94 (.b false) (.r 104 [] [] f23 (.f trivial (.f trivial (.r 134 [] [] f26 (.f trivial (.f (nt h7) (.f (nt h7) (.f (nt h7) (.f (nt h7) (.f (nt h7) (.h 149 (.b false) (.h 151 (.b false) (.h 153 (.b false) (.h 155 (.b false) (.h 157 (.b false) (.r 158 [] [] f33 (.f (nt h7) (.h 159 (.b false) (.r 160 [] [] f35 (.f (nt h7) (.f (nt h7) (.f (nt h8) (.h 161 (.b false) (.h 164 (.b false) (.h 165 (.b false) .nil)))))))))))))))))))))))))))))))))))))))))))))))))))))))))))))))))))
            | k1 w0_19 =>
              try dsimp only
              have f19 : (⟨[(0, (.bptr l0 [(.i a0.f0), (.i a0.f1), (.sl (map b_si a0.f2)), (.sl (map b_R a0.f3)), (.sl (map b_si a0.f4)), (.i a0.f5), (.i a0.f6), (.i a0.f7)])), (4, (.oi 0))], []⟩ : St) = h68_0 l0 a0 0  := (by rfl)
              have f20 : Ev F X (.code l68_0 (h68_0 l0 a0 0 ) .ret ⟨[(2, (.oi w0_19))], []⟩) := (by have t : Ev F X (.code l68_0 (h68_0 l0 a0 0 ) (ex68_0 (r68_0 a0 a0.f3 0)) (fin68_0 l0 a0 (r68_0 a0 a0.f3 0))) := t68_0 (l0 := l0) (a0 := a0) (by assumption) (by assumption) (by assumption) (by assumption) (by assumption) (by assumption) a0.f3 []  rfl; rw [h5] at t; exact t)
              exact callP_ok (ps := []) (os := []) (rs := [(.oi w0_19)]) (by kernel_rfl) (.r 5 [] [] f0 (.f (nt h0) (.h 8 (.b false) (.r 18 [] [] f2 (.f (nt h1) (.f (nt h2) (.f (nt h2) (.f (nt h2) (.f (nt h2) (.f (nt h2) (.f (nt h2) (.f (nt h2) (.f (nt h3) (.f (nt h3) (.f (nt h3) (.f (nt h3) (.f (nt h3) (.f (nt h3) (.f (nt h3) (.f (nt h4) (.f f19 (.f f20 (.h 25 (.b false) (.h 48 (.b false) (.h 50 (.b false) (.h 52 (.b false) (.h 54 (.b false) (.h 56 (.b false) (.h 58 (.b false) (.h 61 (.b false) (.h 64 (.b false) (.h 66 (.b false) (.h 68 (.b false) (.h 70 (.b false) (.h 72 (.b false) (.h 74 (.b false) (.h 77 (.b false) (.h 78 (.b false) (.h 81 (.loop (h68_0 l0 a0 0 ) .ret ⟨[(2, (.oi w0_19))], []⟩) .nil)))))))))))))))))))))))))))))))))))))))
theorem rl132 {a : List K_R} {i : Int} (h : m132 a i = 0) : (getD a (Int.toNat i) (K_R.mk 0 0 0 [] 0)).f3.length ≤ 12 := by
  unfold m132 at h
  simp only [length_map] at h
  by_cases c : ((getD a (Int.toNat i) (K_R.mk 0 0 0 [] 0)).f3.length : Int) > 12
  · exfalso
    simp only [c, decide_true, if_true] at h
    (repeat' split at h) <;> simp at h
  · omega
theorem rz68 (a0 : K_B) : ∀ (l : List K_R) (i : Nat), ((∃ u v, r68_0 a0 l i = .k0 u v) ∧ ∀ j : Nat, j < l.length → m132 a0.f3 ((i + j : Nat) : Int) = 0) ∨ (∃ w, r68_0 a0 l i = .k1 w ∧ w ≠ 0)
  | [], i => .inl ⟨⟨_, _, rfl⟩, fun j hj => by simp at hj⟩
  | x :: l, i => by
    have ih := rz68 a0 l (i + 1)
    simp only [r68_0]
    by_cases c : ((m132 a0.f3 (i : Int)) != 0) = true
    · rw [if_pos c]; exact .inr ⟨_, rfl, by simpa using c⟩
    · rw [if_neg c]
      rcases ih with ⟨h1, h2⟩ | h
      · refine .inl ⟨h1, fun j hj => ?_⟩
        cases j with
        | zero => simpa using c
        | succ j => have := h2 j (by simpa using hj); rw [← this]; congr 1; omega
      · exact .inr h
theorem fs68 {a0 : K_B} (h : ¬ ((m68 a0) != 0) = true) : a0.f2.length ≤ 12 ∧ a0.f3.length ≤ 6 ∧ (∀ z ∈ a0.f3, z.f3.length ≤ 12) ∧ a0.f4.length ≤ 8 := by
  have h : m68 a0 = 0 := by simpa using h
  unfold m68 at h
  split at h
  · cases h
  split at h
  · rename_i h2; rw [h] at h2; simp at h2
  rename_i h2
  split at h
  · cases h
  split at h
  · cases h
  rename_i h4
  split at h
  · cases h
  rename_i h5
  simp only [length_map, decide_eq_true_eq] at h4 h5
  rcases rz68 a0 a0.f3 0 with ⟨_, hz⟩ | ⟨w, hw, hn⟩
  · refine ⟨len12_107 _ h2, by omega, fun z hz2 => ?_, by omega⟩
    obtain ⟨j, hj⟩ := List.getElem?_of_mem hz2
    have hlt : j < a0.f3.length := by
      have := List.getElem?_eq_some_iff.1 hj; exact this.1
    have := rl132 (hz j hlt)
    rw [Nat.zero_add, Int.toNat_natCast, List.getD_eq_getElem?_getD, hj] at this
    exact this
  · rw [show ((0 : Nat) : Int) = 0 from rfl] at hw
    rw [hw] at h; exact absurd h hn
theorem oset {l : List K_R} {i : Nat} {x : K_R} (h : ∀ z ∈ l, z.f3.length ≤ 12) (hx : x.f3.length ≤ 12) : ∀ z ∈ l.set i x, ok_R z := by
  intro z hz
  rcases List.mem_or_eq_of_mem_set hz with hz | rfl
  · have := h z hz; unfold ok_R; omega
  · unfold ok_R; omega
theorem oall {l : List K_R} (h : ∀ z ∈ l, z.f3.length ≤ 12) : ∀ z ∈ l, ok_R z := by
  intro z hz; have := h z hz; unfold ok_R; omega
theorem oapp {l : List K_R} {x : K_R} (h : ∀ z ∈ l, z.f3.length ≤ 12) (hx : x.f3.length ≤ 12) : ∀ z ∈ l ++ [x], ok_R z := by
  intro z hz
  rcases List.mem_append.1 hz with hz | hz
  · have := h z hz; unfold ok_R; omega
  · cases List.mem_singleton.1 hz; unfold ok_R; omega
theorem oget {l : List K_R} (h : ∀ z ∈ l, z.f3.length ≤ 12) (i : Nat) : (getD l i (K_R.mk 0 0 0 [] 0)).f3.length ≤ 12 := by
  rw [List.getD_eq_getElem?_getD]
  cases h2 : l[i]? with
  | none => simp
  | some x => exact h x (List.mem_of_getElem? h2)
/-! loop.example/g00539/spec.l14Bad -/
def m81 (a0 : Int) : K_C :=
  (K_C.mk a0 0 0 0 [] [] [] 0 0 0)
theorem e81 {a0 : Int} : Ev F X (.call 81 [(.one (.val (.int .i64 a0)))] [] [] [(.agg [(.val (.int .i64 ((K_C.mk a0 0 0 0 [] [] [] 0 0 0).f0))), (.val (.int .i64 ((K_C.mk a0 0 0 0 [] [] [] 0 0 0).f1))), (.val (.int .i64 ((K_C.mk a0 0 0 0 [] [] [] 0 0 0).f2))), (.val (.int .i64 ((K_C.mk a0 0 0 0 [] [] [] 0 0 0).f3))), (.own 2 (map d_si ((K_C.mk a0 0 0 0 [] [] [] 0 0 0).f4))), (.own 5 (map d_R ((K_C.mk a0 0 0 0 [] [] [] 0 0 0).f5))), (.own 2 (map d_si ((K_C.mk a0 0 0 0 [] [] [] 0 0 0).f6))), (.val (.int .i64 ((K_C.mk a0 0 0 0 [] [] [] 0 0 0).f7))), (.val (.int .i64 ((K_C.mk a0 0 0 0 [] [] [] 0 0 0).f8))), (.val (.int .i64 ((K_C.mk a0 0 0 0 [] [] [] 0 0 0).f9)))])]) := by
  have f0 : pureR [] = true := (by trivial)
  have f1 : pureR [] = true := (by with_reducible assumption)
  have f2 : pureR [] = true := (by with_reducible assumption)
  exact callP_ok (ps := []) (os := []) (rs := [(.agg [(.i a0), (.i 0), (.i 0), (.i 0), (.own 2 []), (.own 5 []), (.own 2 []), (.i 0), (.i 0), (.i 0)])]) (by kernel_rfl) (.f f0 (.f f1 (.f f2 .nil)))
/-! loop.example/g00539/spec.l14Weights -/
def m170 (a0 : (List K_si)) : (List K_si) :=
  (([]) ++ a0)
theorem e170 {l0_0 : Nat} {a0 : (List K_si)} (hy0 : length a0 * 24 ≤ 70368744177664) : Ev F X (.call 170 [(.one (.bor l0_0 (map b_si a0)))] [] [] [(.one (.own 2 (map d_si (([]) ++ a0))))]) := by
  have f0 : 0 + 0 ≤ 0 := (by omega)
  have f1 : (length ([] ++ (fromBR l0_0 (map b_si a0)))) * 24 ≤ 70368744177664 := (by simp [ol85, ol86, ol27_0, ol27_1, ol27_2, ol28_0, ol28_1, ol28_2]; omega)
  have f2 : ∀ r ∈ ((fromBR l0_0 (map b_si a0)) : List (List D)), r.length = 2 := (by simp [*, ol85, ol86, ol27_0, ol27_1, ol27_2, ol28_0, ol28_1, ol28_2, b_si, d_si, byteRows_eq, ints_y]; done)
  have f3 : ([] ++ (fromBR l0_0 (map b_si a0))) = (map d_si (([]) ++ a0)) := (by simp [byteRows_eq, ints_y, take_of_length_le, d_si, d_R, d_B, d_s, d_i, d_b, d_C, d_LsiE, d_Q, d_y, fromBR_si, fromBR_s, fromBR_i, fromBR_b, fromBR_y, ol85, ol86, ol27_0, ol27_1, ol27_2, ol28_0, ol28_1, ol28_2]; done)
  have f4 : 0 = 0 := rfl
  have f5 : (length ([] ++ (fromBR l0_0 (map b_si a0)))) = (length (map d_si (([]) ++ a0))) := (by simp [ol85, ol86, ol27_0, ol27_1, ol27_2, ol28_0, ol28_1, ol28_2]; done)
  have f6 : pureR (map d_si (([]) ++ a0)) = true := (by simp [ol85, ol86, ol27_0, ol27_1, ol27_2, ol28_0, ol28_1, ol28_2]; done)
  exact callP_ok (ps := []) (os := []) (rs := [(.one (.own 2 (map d_si (([]) ++ a0))))]) (by kernel_rfl) (.f f0 (.f f1 (.f f2 (.f f3 (.f f4 (.f f5 (.f f6 (.h 10 (.norm (2, 0, 0) (map d_si (([]) ++ a0))) .nil))))))))
/-! loop 139_0 -/
inductive O139_0 where
  | k0 (w0 : List K_R) (w1 : Int) (w2 : Bool)
def r139_0 (a0 : K_B) : List K_R → Int → List K_R → O139_0
  | x0 :: y0, i, v0 =>
    (r139_0 a0 y0 (i + 1) (v0 ++ ([(K_R.mk x0.f0 x0.f1 x0.f2 (([]) ++ x0.f3) x0.f4)])))
  | [], i, v0 => (O139_0.k0 v0 i (decide (i < ((length (map b_R a0.f3)) : Int))))
def h139_0 (l0_2 : Nat) (l0_3 : Nat) (l0_4 : Nat) (a0 : K_B) (i : Int) (v0 : List K_R) : St := ⟨[(1, (.ptr ⟨(1, 0, 0), [], 0, 0, 8⟩)), (2, (.ptr ⟨(2, 0, 0), [], 0, 0, 8⟩)), (3, (.ptr ⟨(3, 0, 0), [], 0, 0, 8⟩)), (4, (.one (.val (.int .i64 i))))], [((1, 0, 0), .live ⟨8, [[(.val (.int .i64 a0.f0)), (.val (.int .i64 a0.f1)), (.bor l0_2 (map b_si a0.f2)), (.bor l0_3 (map b_R a0.f3)), (.bor l0_4 (map b_si a0.f4)), (.val (.int .i64 a0.f5)), (.val (.int .i64 a0.f6)), (.val (.int .i64 a0.f7))]], []⟩), ((2, 0, 0), .live ⟨8, [[(.val (.int .i64 0)), (.val (.int .i64 0)), (.own 2 []), (.own 5 []), (.own 2 []), (.val (.int .i64 0)), (.val (.int .i64 0)), (.val (.int .i64 0))]], []⟩), ((3, 0, 0), .live ⟨8, [[(.val (.int .i64 a0.f0)), (.val (.int .i64 a0.f1)), (.own 2 (map d_si (([]) ++ a0.f2))), (.own 5 (map d_R v0)), (.own 2 (map d_si (([]) ++ a0.f4))), (.val (.int .i64 a0.f5)), (.val (.int .i64 a0.f6)), (.val (.int .i64 a0.f7))]], []⟩)]⟩
def ex139_0 : O139_0 → VX.Exit
  | .k0 _ _ _ => (.exit 0)
def fin139_0 (l0_2 : Nat) (l0_3 : Nat) (l0_4 : Nat) (a0 : K_B) : O139_0 → St
  | .k0 w0 w1 w2 => ⟨[(1, (.ptr ⟨(1, 0, 0), [], 0, 0, 8⟩)), (2, (.ptr ⟨(2, 0, 0), [], 0, 0, 8⟩)), (3, (.ptr ⟨(3, 0, 0), [], 0, 0, 8⟩)), (4, (.one (.val (.int .i64 w1)))), (20, (.one (.val (.bool w2))))], [((1, 0, 0), .live ⟨8, [[(.val (.int .i64 a0.f0)), (.val (.int .i64 a0.f1)), (.bor l0_2 (map b_si a0.f2)), (.bor l0_3 (map b_R a0.f3)), (.bor l0_4 (map b_si a0.f4)), (.val (.int .i64 a0.f5)), (.val (.int .i64 a0.f6)), (.val (.int .i64 a0.f7))]], []⟩), ((2, 0, 0), .live ⟨8, [[(.val (.int .i64 0)), (.val (.int .i64 0)), (.own 2 []), (.own 5 []), (.own 2 []), (.val (.int .i64 0)), (.val (.int .i64 0)), (.val (.int .i64 0))]], []⟩), ((3, 0, 0), .live ⟨8, [[(.val (.int .i64 a0.f0)), (.val (.int .i64 a0.f1)), (.own 2 (map d_si (([]) ++ a0.f2))), (.own 5 (map d_R w0)), (.own 2 (map d_si (([]) ++ a0.f4))), (.val (.int .i64 a0.f5)), (.val (.int .i64 a0.f6)), (.val (.int .i64 a0.f7))]], []⟩)]⟩
theorem t139_0 {l0_2 : Nat} {l0_3 : Nat} {l0_4 : Nat} {a0 : K_B} (hy0 : length a0.f2 ≤ 100) (hy1 : length a0.f3 ≤ 100) (hy2 : ∀ z ∈ a0.f3, length z.f3 ≤ 100) (hy3 : length a0.f4 ≤ 100) (hy4 : ∀ z ∈ a0.f3, ok_R z) : ∀ (y0 : List K_R) (p : List K_R) (v0 : List K_R), p ++ y0 = a0.f3 → (length v0 + length y0) * 56 ≤ 70368744177664 → Ev F X (.code l139_0 (h139_0 l0_2 l0_3 l0_4 a0 (length p : Int) v0) (ex139_0 (r139_0 a0 y0 (length p : Int) v0)) (fin139_0 l0_2 l0_3 l0_4 a0 (r139_0 a0 y0 (length p : Int) v0)))
  | [], p, v0, hp0, hi0 => by
    have hc : ¬ (decide ((length p : Int) < ((length (map b_R a0.f3)) : Int))) = true := by
      rw [← hp0]; simp only [length_map, length_set, length_append, length_replicate, length_cons, length_nil, decide_eq_true_eq]; omega
    have hj0 := hi0; try simp only [length_map, length_set, length_append, length_replicate, length_cons, length_nil, Int.toNat_natCast] at hj0
    have st := codeH_ok (F := F) (X := X) (c := b139_0) (t := 0) (hs := [(10, .b false)]) (σ := h139_0 l0_2 l0_3 l0_4 a0 (length p : Int) v0) (σ' := fin139_0 l0_2 l0_3 l0_4 a0 (.k0 v0 (length p : Int) (decide ((length p : Int) < ((length (map b_R a0.f3)) : Int))))) (e := (.exit 0)) (t' := 11) (hs' := []) (q := [(decide ((length p : Int) < ((length (map b_R a0.f3)) : Int))) = false]) (by kernel_rfl) ⟨(nt hc), trivial⟩
    exact .loopX st (show ((.exit 0) : VX.Exit) ≠ .normal from by simp)
  | x0 :: y0, p, v0, hp0, hi0 => by
    have hc : (decide ((length p : Int) < ((length (map b_R a0.f3)) : Int))) = true := by
      rw [← hp0]; simp only [length_map, length_set, length_append, length_replicate, length_cons, length_nil, decide_eq_true_eq]; omega
    have Hx0 : (a0.f3)[Int.toNat (length p : Int)]? = some x0 := by
      rw [← hp0, Int.toNat_natCast]; simp
    have Nx0_2 := hy2 x0 (List.mem_of_getElem? Hx0)
    have Mx0_0 := hy4 x0 (List.mem_of_getElem? Hx0)
    have hlen : length (a0.f3) = length p + length y0 + 1 := by rw [← hp0]; simp; omega
    have hw : IntKind.wrap .i64 ((length p : Int) + 1) = (length p : Int) + 1 := wrap64 (by omega)
    have hj0 := hi0; try simp only [length_map, length_set, length_append, length_replicate, length_cons, length_nil, Int.toNat_natCast] at hj0
    simp only [r139_0]
    have st := codeH_ok (F := F) (X := X) (c := b139_0) (t := 0) (hs := [(10, .b true), (18, .row [(.i x0.f0), (.i x0.f1), (.i x0.f2), (.sl (map b_si x0.f3)), (.i x0.f4)]), (30, .ret [] [(.one (.own 2 (map d_si (([]) ++ x0.f3))))] [] []), (44, .b false), (49, .norm (3, 0, 0) [[(.i a0.f0), (.i a0.f1), (.own 2 (map d_si (([]) ++ a0.f2))), (.own 5 (map d_R (v0 ++ ([(K_R.mk x0.f0 x0.f1 x0.f2 (([]) ++ x0.f3) x0.f4)])))), (.own 2 (map d_si (([]) ++ a0.f4))), (.i a0.f5), (.i a0.f6), (.i a0.f7)]])]) (σ := h139_0 l0_2 l0_3 l0_4 a0 (length p : Int) v0) (σ' := ⟨[(1, (.ptr ⟨(1, 0, 0), [], 0, 0, 8⟩)), (2, (.ptr ⟨(2, 0, 0), [], 0, 0, 8⟩)), (3, (.ptr ⟨(3, 0, 0), [], 0, 0, 8⟩)), (4, (.oi (IntKind.wrap .i64 ((length p : Int) + 1))))], [((1, 0, 0), .live ⟨8, [[(.i a0.f0), (.i a0.f1), (.bor l0_2 (map b_si a0.f2)), (.bor l0_3 (map b_R a0.f3)), (.bor l0_4 (map b_si a0.f4)), (.i a0.f5), (.i a0.f6), (.i a0.f7)]], []⟩), ((2, 0, 0), .live ⟨8, [[(.i 0), (.i 0), (.own 2 []), (.own 5 []), (.own 2 []), (.i 0), (.i 0), (.i 0)]], []⟩), ((3, 0, 0), .live ⟨8, [[(.i a0.f0), (.i a0.f1), (.own 2 (map d_si (([]) ++ a0.f2))), (.own 5 (map d_R (v0 ++ ([(K_R.mk x0.f0 x0.f1 x0.f2 (([]) ++ x0.f3) x0.f4)])))), (.own 2 (map d_si (([]) ++ a0.f4))), (.i a0.f5), (.i a0.f6), (.i a0.f7)]], []⟩)]⟩) (e := .normal) (t' := 56) (hs' := []) (q := [(decide ((length p : Int) < ((length (map b_R a0.f3)) : Int))) = true, 0 ≤ (length p : Int), (map b_R a0.f3)[(Int.toNat (length p : Int))]? = some [(.i x0.f0), (.i x0.f1), (.i x0.f2), (.sl (map b_si x0.f3)), (.i x0.f4)], Ev F X (.call 170 [(.one (.bor (l0_3 + 1) (map b_si x0.f3)))] [] [] [(.one (.own 2 (map d_si (([]) ++ x0.f3))))]), 0 = 0, (length (map d_si (([]) ++ x0.f3))) = (length (map d_si (([]) ++ x0.f3))), 0 = 0, (length (map d_si (([]) ++ x0.f3))) = (length (map d_si (([]) ++ x0.f3))), 0 + (length (map d_R v0)) ≤ (length (map d_R v0)), 1 ≤ 1, ((take 1 (drop 0 [[(.i x0.f0), (.i x0.f1), (.i x0.f2), (.own 2 (map d_si (([]) ++ x0.f3))), (.i x0.f4)]])).all fun x => x.all copyable) = false, 0 = 0, 1 = 1, (length ((take (length (map d_R v0)) (drop 0 (map d_R v0))) ++ ([[(.i x0.f0), (.i x0.f1), (.i x0.f2), (.own 2 (map d_si (([]) ++ x0.f3))), (.i x0.f4)]] : List (List D)))) * 56 ≤ 70368744177664, ∀ r ∈ ([[(.i x0.f0), (.i x0.f1), (.i x0.f2), (.own 2 (map d_si (([]) ++ x0.f3))), (.i x0.f4)]] : List (List D)), r.length = 5, 0 = 0, (length ((take (length (map d_R v0)) (drop 0 (map d_R v0))) ++ ([[(.i x0.f0), (.i x0.f1), (.i x0.f2), (.own 2 (map d_si (([]) ++ x0.f3))), (.i x0.f4)]] : List (List D)))) = (length ((take (length (map d_R v0)) (drop 0 (map d_R v0))) ++ ([[(.i x0.f0), (.i x0.f1), (.i x0.f2), (.own 2 (map d_si (([]) ++ x0.f3))), (.i x0.f4)]] : List (List D)))), ([[(.i a0.f0), (.i a0.f1), (.own 2 (map d_si (([]) ++ a0.f2))), (.own 5 ((take (length (map d_R v0)) (drop 0 (map d_R v0))) ++ ([[(.i x0.f0), (.i x0.f1), (.i x0.f2), (.own 2 (map d_si (([]) ++ x0.f3))), (.i x0.f4)]] : List (List D)))), (.own 2 (map d_si (([]) ++ a0.f4))), (.i a0.f5), (.i a0.f6), (.i a0.f7)]] : List (List D)) = [[(.i a0.f0), (.i a0.f1), (.own 2 (map d_si (([]) ++ a0.f2))), (.own 5 (map d_R (v0 ++ ([(K_R.mk x0.f0 x0.f1 x0.f2 (([]) ++ x0.f3) x0.f4)])))), (.own 2 (map d_si (([]) ++ a0.f4))), (.i a0.f5), (.i a0.f6), (.i a0.f7)]], True]) (by kernel_rfl) ⟨hc, (by omega), (by rw [getElem?_map, Hx0]; rfl), (e170 (a0 := x0.f3) (by omega)), rfl, rfl, rfl, rfl, (by omega), (by omega), (by trivial), rfl, rfl, (by simp only [length_map, length_append, length_cons, length_nil, length_take, length_drop]; omega), (by simp [ol85, ol86, ol27_0, ol27_1, ol27_2, ol28_0, ol28_1, ol28_2]; done), rfl, rfl, (by simp [byteRows_eq, ints_y, take_of_length_le, d_si, d_R, d_B, d_s, d_i, d_b, d_C, d_LsiE, d_Q, d_y, fromBR_si, fromBR_s, fromBR_i, fromBR_b, fromBR_y, ol85, ol86, ol27_0, ol27_1, ol27_2, ol28_0, ol28_1, ol28_2]; done), trivial, trivial⟩
    have ih := t139_0 (l0_2 := l0_2) (l0_3 := l0_3) (l0_4 := l0_4) (a0 := a0) hy0 hy1 hy2 hy3 hy4 y0 (p ++ [x0]) (v0 ++ ([(K_R.mk x0.f0 x0.f1 x0.f2 (([]) ++ x0.f3) x0.f4)])) (by rw [append_assoc]; exact hp0) (by simp only [length_map, length_set, length_append, length_replicate, length_cons, length_nil]; omega)
    rw [show ((p ++ [x0]).length : Int) = (p.length : Int) + 1 from by simp] at ih
    rw [show (⟨[(1, (.ptr ⟨(1, 0, 0), [], 0, 0, 8⟩)), (2, (.ptr ⟨(2, 0, 0), [], 0, 0, 8⟩)), (3, (.ptr ⟨(3, 0, 0), [], 0, 0, 8⟩)), (4, (.oi (IntKind.wrap .i64 ((length p : Int) + 1))))], [((1, 0, 0), .live ⟨8, [[(.i a0.f0), (.i a0.f1), (.bor l0_2 (map b_si a0.f2)), (.bor l0_3 (map b_R a0.f3)), (.bor l0_4 (map b_si a0.f4)), (.i a0.f5), (.i a0.f6), (.i a0.f7)]], []⟩), ((2, 0, 0), .live ⟨8, [[(.i 0), (.i 0), (.own 2 []), (.own 5 []), (.own 2 []), (.i 0), (.i 0), (.i 0)]], []⟩), ((3, 0, 0), .live ⟨8, [[(.i a0.f0), (.i a0.f1), (.own 2 (map d_si (([]) ++ a0.f2))), (.own 5 (map d_R (v0 ++ ([(K_R.mk x0.f0 x0.f1 x0.f2 (([]) ++ x0.f3) x0.f4)])))), (.own 2 (map d_si (([]) ++ a0.f4))), (.i a0.f5), (.i a0.f6), (.i a0.f7)]], []⟩)]⟩ : St) = h139_0 l0_2 l0_3 l0_4 a0 ((length p : Int) + 1) (v0 ++ ([(K_R.mk x0.f0 x0.f1 x0.f2 (([]) ++ x0.f3) x0.f4)])) from (by unfold h139_0; simp only [hw]; done)] at st
    exact .loopN st ih
def post139_0 (n0 : Nat) : O139_0 → Prop
  | .k0 w0 _ _ => length w0 = n0
theorem z139_0 {a0 : K_B} : ∀ (y0 : List K_R) (i : Int) (v0 : List K_R), post139_0 (length v0 + length y0) (r139_0 a0 y0 i v0)
  | [], i, v0 => by
    first | trivial | (simp only [post139_0, length_nil, Nat.add_zero]; done) | (simp [post139_0]; done)
  | x0 :: y0, i, v0 => by
    simp only [r139_0]
    have z := z139_0 (a0 := a0) y0 (i + 1) (v0 ++ ([(K_R.mk x0.f0 x0.f1 x0.f2 (([]) ++ x0.f3) x0.f4)]))
    rw [show (length v0 + length (x0 :: y0)) = (length (v0 ++ ([(K_R.mk x0.f0 x0.f1 x0.f2 (([]) ++ x0.f3) x0.f4)])) + length y0) from by first | omega | (simp only [length_map, length_set, length_append, length_replicate, length_cons, length_nil]; done) | (simp only [length_map, length_set, length_append, length_replicate, length_cons, length_nil]; omega)]
    exact z
/-! loop.example/g00539/spec.l14Copy -/
def m139 (a0 : K_B) : K_B :=
  (match r139_0 a0 a0.f3 0 [] with | .k0 w0_2 w1_2 w2_2 => (K_B.mk a0.f0 a0.f1 (([]) ++ a0.f2) w0_2 (([]) ++ a0.f4) a0.f5 a0.f6 a0.f7))
theorem e139 {l0_2 : Nat} {l0_3 : Nat} {l0_4 : Nat} {a0 : K_B} (hy0 : length a0.f2 ≤ 100) (hy1 : length a0.f3 ≤ 100) (hy2 : ∀ z ∈ a0.f3, length z.f3 ≤ 100) (hy3 : length a0.f4 ≤ 100) (hy4 : ∀ z ∈ a0.f3, ok_R z) : Ev F X (.call 139 [(.agg [(.val (.int .i64 a0.f0)), (.val (.int .i64 a0.f1)), (.bor l0_2 (map b_si a0.f2)), (.bor l0_3 (map b_R a0.f3)), (.bor l0_4 (map b_si a0.f4)), (.val (.int .i64 a0.f5)), (.val (.int .i64 a0.f6)), (.val (.int .i64 a0.f7))])] [] [] [(.agg [(.val (.int .i64 ((m139 a0).f0))), (.val (.int .i64 ((m139 a0).f1))), (.own 2 (map d_si ((m139 a0).f2))), (.own 5 (map d_R ((m139 a0).f3))), (.own 2 (map d_si ((m139 a0).f4))), (.val (.int .i64 ((m139 a0).f5))), (.val (.int .i64 ((m139 a0).f6))), (.val (.int .i64 ((m139 a0).f7)))])]) := by
  unfold m139
  have f0 : Ev F X (.call 170 [(.one (.bor (l0_2 + 1) (map b_si a0.f2)))] [] [] [(.one (.own 2 (map d_si (([]) ++ a0.f2))))]) := (e170 (a0 := a0.f2) (by omega))
  have f1 : 0 = 0 := rfl
  have f2 : (length (map d_si (([]) ++ a0.f2))) = (length (map d_si (([]) ++ a0.f2))) := rfl
  have f3 : Ev F X (.call 170 [(.one (.bor (l0_4 + 1) (map b_si a0.f4)))] [] [] [(.one (.own 2 (map d_si (([]) ++ a0.f4))))]) := (e170 (a0 := a0.f4) (by omega))
  have f4 : 0 = 0 := rfl
  have f5 : (length (map d_si (([]) ++ a0.f4))) = (length (map d_si (([]) ++ a0.f4))) := rfl
  cases h0 : r139_0 a0 a0.f3 0 [] with
  | k0 w0_2 w1_2 w2_2 =>
    try dsimp only
    have zh0 := z139_0 (a0 := a0) a0.f3 0 []; rw [h0] at zh0; simp only [post139_0, length_map, length_set, length_append, length_replicate, length_cons, length_nil, Int.toNat_natCast] at zh0
    have f6 : (⟨[(1, (.ptr ⟨(1, 0, 0), [], 0, 0, 8⟩)), (2, (.ptr ⟨(2, 0, 0), [], 0, 0, 8⟩)), (3, (.ptr ⟨(3, 0, 0), [], 0, 0, 8⟩)), (4, (.oi 0))], [((1, 0, 0), .live ⟨8, [[(.i a0.f0), (.i a0.f1), (.bor l0_2 (map b_si a0.f2)), (.bor l0_3 (map b_R a0.f3)), (.bor l0_4 (map b_si a0.f4)), (.i a0.f5), (.i a0.f6), (.i a0.f7)]], []⟩), ((2, 0, 0), .live ⟨8, [[(.i 0), (.i 0), (.own 2 []), (.own 5 []), (.own 2 []), (.i 0), (.i 0), (.i 0)]], []⟩), ((3, 0, 0), .live ⟨8, [[(.i a0.f0), (.i a0.f1), (.own 2 (map d_si (([]) ++ a0.f2))), (.own 5 []), (.own 2 (map d_si (([]) ++ a0.f4))), (.i a0.f5), (.i a0.f6), (.i a0.f7)]], []⟩)]⟩ : St) = h139_0 l0_2 l0_3 l0_4 a0 0 [] := (by rfl)
    have f7 : Ev F X (.code l139_0 (h139_0 l0_2 l0_3 l0_4 a0 0 []) (.exit 0) ⟨[(1, (.ptr ⟨(1, 0, 0), [], 0, 0, 8⟩)), (2, (.ptr ⟨(2, 0, 0), [], 0, 0, 8⟩)), (3, (.ptr ⟨(3, 0, 0), [], 0, 0, 8⟩)), (4, (.oi w1_2)), (20, (.one (.val (.bool w2_2))))], [((1, 0, 0), .live ⟨8, [[(.i a0.f0), (.i a0.f1), (.bor l0_2 (map b_si a0.f2)), (.bor l0_3 (map b_R a0.f3)), (.bor l0_4 (map b_si a0.f4)), (.i a0.f5), (.i a0.f6), (.i a0.f7)]], []⟩), ((2, 0, 0), .live ⟨8, [[(.i 0), (.i 0), (.own 2 []), (.own 5 []), (.own 2 []), (.i 0), (.i 0), (.i 0)]], []⟩), ((3, 0, 0), .live ⟨8, [[(.i a0.f0), (.i a0.f1), (.own 2 (map d_si (([]) ++ a0.f2))), (.own 5 (map d_R w0_2)), (.own 2 (map d_si (([]) ++ a0.f4))), (.i a0.f5), (.i a0.f6), (.i a0.f7)]], []⟩)]⟩) := (by have t : Ev F X (.code l139_0 (h139_0 l0_2 l0_3 l0_4 a0 0 []) (ex139_0 (r139_0 a0 a0.f3 0 [])) (fin139_0 l0_2 l0_3 l0_4 a0 (r139_0 a0 a0.f3 0 []))) := t139_0 (l0_2 := l0_2) (l0_3 := l0_3) (l0_4 := l0_4) (a0 := a0) (by assumption) (by assumption) (by assumption) (by assumption) (by assumption) a0.f3 [] [] rfl (by simp only [length_map, length_set, length_append, length_replicate, length_cons, length_nil]; omega); rw [h0] at t; exact t)
    have f8 : 0 = 0 := rfl
    have f9 : (length (map d_si (([]) ++ a0.f2))) = (length (map d_si (([]) ++ a0.f2))) := rfl
    have f10 : 0 = 0 := rfl
    have f11 : (length (map d_R w0_2)) = (length (map d_R w0_2)) := rfl
    have f12 : 0 = 0 := rfl
    have f13 : (length (map d_si (([]) ++ a0.f4))) = (length (map d_si (([]) ++ a0.f4))) := rfl
    have f14 : pureR (map d_si (([]) ++ a0.f2)) = true := (by simp [ol85, ol86, ol27_0, ol27_1, ol27_2, ol28_0, ol28_1, ol28_2]; done)
    have f15 : pureR (map d_R w0_2) = true := (pureR_R _)
    have f16 : pureR (map d_si (([]) ++ a0.f4)) = true := (by simp [ol85, ol86, ol27_0, ol27_1, ol27_2, ol28_0, ol28_1, ol28_2]; done)
    exact callP_ok (ps := []) (os := []) (rs := [(.agg [(.i a0.f0), (.i a0.f1), (.own 2 (map d_si (([]) ++ a0.f2))), (.own 5 (map d_R w0_2)), (.own 2 (map d_si (([]) ++ a0.f4))), (.i a0.f5), (.i a0.f6), (.i a0.f7)])]) (by kernel_rfl) (.r 15 [] [] f0 (.f f1 (.f f2 (.r 25 [] [] f3 (.f f4 (.f f5 (.f f6 (.f f7 (.f f8 (.f f9 (.f f10 (.f f11 (.f f12 (.f f13 (.f f14 (.f f15 (.f f16 (.h 36 (.loop (h139_0 l0_2 l0_3 l0_4 a0 0 []) (.exit 0) ⟨[(1, (.ptr ⟨(1, 0, 0), [], 0, 0, 8⟩)), (2, (.ptr ⟨(2, 0, 0), [], 0, 0, 8⟩)), (3, (.ptr ⟨(3, 0, 0), [], 0, 0, 8⟩)), (4, (.oi w1_2)), (20, (.one (.val (.bool w2_2))))], [((1, 0, 0), .live ⟨8, [[(.i a0.f0), (.i a0.f1), (.bor l0_2 (map b_si a0.f2)), (.bor l0_3 (map b_R a0.f3)), (.bor l0_4 (map b_si a0.f4)), (.i a0.f5), (.i a0.f6), (.i a0.f7)]], []⟩), ((2, 0, 0), .live ⟨8, [[(.i 0), (.i 0), (.own 2 []), (.own 5 []), (.own 2 []), (.i 0), (.i 0), (.i 0)]], []⟩), ((3, 0, 0), .live ⟨8, [[(.i a0.f0), (.i a0.f1), (.own 2 (map d_si (([]) ++ a0.f2))), (.own 5 (map d_R w0_2)), (.own 2 (map d_si (([]) ++ a0.f4))), (.i a0.f5), (.i a0.f6), (.i a0.f7)]], []⟩)]⟩) .nil))))))))))))))))))
theorem cl139 (a0 : K_B) : ∀ (l : List K_R) (i : Int) (v : List K_R), ∃ j b, r139_0 a0 l i v = .k0 (v ++ l) j b
  | [], i, v => ⟨_, _, by rw [List.append_nil]; rfl⟩
  | x :: l, i, v => by
    obtain ⟨j, b, h⟩ := cl139 a0 l (i + 1) (v ++ [x])
    refine ⟨j, b, ?_⟩
    simp only [r139_0]
    rw [show v ++ x :: l = (v ++ [x]) ++ l by simp, ← h]
    first | rfl | (simp only [List.nil_append]; done)
theorem cp139 (a0 : K_B) : m139 a0 = a0 := by
  unfold m139
  obtain ⟨j, b, h⟩ := cl139 a0 a0.f3 0 []
  rw [h]; rfl
/-! loop.example/g00539/spec.l14Pay -/
def m91 (a0 : K_B) (a1 : ByteArray) (a2 : Int) : K_C :=
  if (decide ((m79 a0.f4 a1) < 0)) = true then (K_C.mk 4 0 0 0 ([]) ([]) ([]) 0 0 0) else
  if (((getD a0.f4 (Int.toNat (m79 a0.f4 a1)) (K_si.mk (⟨#[]⟩ : ByteArray) 0)).f1) == 0) = true then (K_C.mk 4 0 0 0 ([]) ([]) ([]) 0 0 0) else
    if (!(m110 a2 1 ((getD a0.f4 (Int.toNat (m79 a0.f4 a1)) (K_si.mk (⟨#[]⟩ : ByteArray) 0)).f1))) = true then (K_C.mk 3 0 0 0 ([]) ([]) ([]) 0 0 0) else
      if (!(m110 (IntKind.wrap .i64 (a0.f5 + a2)) 0 1000000)) = true then (K_C.mk 7 0 0 0 ([]) ([]) ([]) 0 0 0) else
        (K_C.mk 0 0 ((m139 a0).f0) ((m139 a0).f1) ((m139 a0).f2) ((m139 a0).f3) (set ((m139 a0).f4) (Int.toNat (m79 a0.f4 a1)) (K_si.mk ((getD ((m139 a0).f4) (Int.toNat (m79 a0.f4 a1)) (K_si.mk (⟨#[]⟩ : ByteArray) 0)).f0) (IntKind.wrap .i64 (((getD a0.f4 (Int.toNat (m79 a0.f4 a1)) (K_si.mk (⟨#[]⟩ : ByteArray) 0)).f1) - a2)))) (IntKind.wrap .i64 (a0.f5 + a2)) ((m139 a0).f6) ((m139 a0).f7))
theorem e91 {l0_2 : Nat} {l0_3 : Nat} {l0_4 : Nat} {a0 : K_B} {a1 : ByteArray} {a2 : Int} (hy0 : length a0.f2 ≤ 100) (hy1 : length a0.f3 ≤ 100) (hy2 : ∀ z ∈ a0.f3, length z.f3 ≤ 100) (hy3 : length a0.f4 ≤ 100) (hy4 : ∀ z ∈ a0.f3, ok_R z) : Ev F X (.call 91 [(.agg [(.val (.int .i64 a0.f0)), (.val (.int .i64 a0.f1)), (.bor l0_2 (map b_si a0.f2)), (.bor l0_3 (map b_R a0.f3)), (.bor l0_4 (map b_si a0.f4)), (.val (.int .i64 a0.f5)), (.val (.int .i64 a0.f6)), (.val (.int .i64 a0.f7))]), (.one (.val (.string a1))), (.one (.val (.int .i64 a2)))] [] [] [(.agg [(.val (.int .i64 ((m91 a0 a1 a2).f0))), (.val (.int .i64 ((m91 a0 a1 a2).f1))), (.val (.int .i64 ((m91 a0 a1 a2).f2))), (.val (.int .i64 ((m91 a0 a1 a2).f3))), (.own 2 (map d_si ((m91 a0 a1 a2).f4))), (.own 5 (map d_R ((m91 a0 a1 a2).f5))), (.own 2 (map d_si ((m91 a0 a1 a2).f6))), (.val (.int .i64 ((m91 a0 a1 a2).f7))), (.val (.int .i64 ((m91 a0 a1 a2).f8))), (.val (.int .i64 ((m91 a0 a1 a2).f9)))])]) := by
  unfold m91
  have f0 : Ev F X (.call 79 [(.one (.bor (l0_4 + 1) (map b_si a0.f4))), (.one (.val (.string a1)))] [] [] [(.oi (m79 a0.f4 a1))]) := (e79 (a0 := a0.f4) (a1 := a1) (by omega))
  by_cases h0 : (decide ((m79 a0.f4 a1) < 0)) = true
  · try simp only [if_pos h0]
    have f9 : Ev F X (.call 81 [(.oi 4)] [] [] [(.agg [(.i 4), (.i 0), (.i 0), (.i 0), (.own 2 (map d_si ([]))), (.own 5 (map d_R ([]))), (.own 2 (map d_si ([]))), (.i 0), (.i 0), (.i 0)])]) := (e81 (a0 := 4))
    have f10 : 0 = 0 := rfl
    have f11 : (length (map d_si ([]))) = (length (map d_si ([]))) := rfl
    have f12 : 0 = 0 := rfl
    have f13 : (length (map d_R ([]))) = (length (map d_R ([]))) := rfl
    have f14 : 0 = 0 := rfl
    have f15 : (length (map d_si ([]))) = (length (map d_si ([]))) := rfl
    have f16 : pureR (map d_si ([])) = true := (pureR_si _)
    have f17 : pureR (map d_R ([])) = true := (pureR_R _)
    have f18 : pureR (map d_si ([])) = true := (pureR_si _)
    exact callP_ok (ps := []) (os := []) (rs := [(.agg [(.i 4), (.i 0), (.i 0), (.i 0), (.own 2 (map d_si ([]))), (.own 5 (map d_R ([]))), (.own 2 (map d_si ([]))), (.i 0), (.i 0), (.i 0)])]) (by kernel_rfl) (.r 11 [] [] f0 (.f h0 (.f h0 (.f h0 (.f h0 (.f h0 (.f h0 (.f h0 (.f h0 (.h 20 (.b true) (.h 22 (.b true) (.h 24 (.b true) (.h 26 (.b true) (.h 28 (.b true) (.h 30 (.b true) (.h 32 (.b true) (.h 35 (.b true) (.r 38 [] [] f9 (.f f10 (.f f11 (.f f12 (.f f13 (.f f14 (.f f15 (.f f16 (.f f17 (.f f18 .nil)))))))))))))))))))))))))))
  · try simp only [if_neg h0]
    have f5 : 0 ≤ (m79 a0.f4 a1) := (by have q := ix79 a0.f4 a1; simp only [decide_eq_true_eq, length_map] at *; omega)
    have f6 : (map b_si a0.f4)[(Int.toNat (m79 a0.f4 a1))]? = some [(.val (.string ((getD a0.f4 (Int.toNat (m79 a0.f4 a1)) (K_si.mk (⟨#[]⟩ : ByteArray) 0)).f0))), (.val (.int .i64 ((getD a0.f4 (Int.toNat (m79 a0.f4 a1)) (K_si.mk (⟨#[]⟩ : ByteArray) 0)).f1)))] := (by rw [getElem?_map, getD_at a0.f4 (Int.toNat (m79 a0.f4 a1)) (K_si.mk (⟨#[]⟩ : ByteArray) 0) (by first | exact True.intro | with_reducible rfl | with_reducible assumption | omega | (rw [cp139]; omega) | (rw [cp139]; assumption) | (simp only [cp139, length_map]; have q := ix144 a0.f3 a1; simp only [decide_eq_true_eq] at *; omega) | (simp only [cp139, length_map]; have q := ix79 a0.f4 a1; simp only [decide_eq_true_eq] at *; omega) | (have q := ix79 a0.f4 a1; simp only [decide_eq_true_eq, length_map] at *; omega) | (unfold m79; (repeat' split) <;> simp_all <;> omega) | (simp only [decide_eq_true_eq] at *; omega) | (simp only [length_map]; omega) | (simp [ol85, ol86, ol27_0, ol27_1, ol27_2, ol28_0, ol28_1, ol28_2]; omega) | (simp [take_of_length_le, ol85, ol86, ol27_0, ol27_1, ol27_2, ol28_0, ol28_1, ol28_2]; done) | assumption | trivial | (simp [*, ol85, ol86, ol27_0, ol27_1, ol27_2, ol28_0, ol28_1, ol28_2, byteRows_eq, ints_y]; done))]; rfl)
    by_cases h1 : (((getD a0.f4 (Int.toNat (m79 a0.f4 a1)) (K_si.mk (⟨#[]⟩ : ByteArray) 0)).f1) == 0) = true
    · try simp only [if_pos h1]
      have f12 : Ev F X (.call 81 [(.oi 4)] [] [] [(.agg [(.i 4), (.i 0), (.i 0), (.i 0), (.own 2 (map d_si ([]))), (.own 5 (map d_R ([]))), (.own 2 (map d_si ([]))), (.i 0), (.i 0), (.i 0)])]) := (e81 (a0 := 4))
      have f13 : 0 = 0 := rfl
      have f14 : (length (map d_si ([]))) = (length (map d_si ([]))) := rfl
      have f15 : 0 = 0 := rfl
      have f16 : (length (map d_R ([]))) = (length (map d_R ([]))) := rfl
      have f17 : 0 = 0 := rfl
      have f18 : (length (map d_si ([]))) = (length (map d_si ([]))) := rfl
      have f19 : pureR (map d_si ([])) = true := (pureR_si _)
      have f20 : pureR (map d_R ([])) = true := (pureR_R _)
      have f21 : pureR (map d_si ([])) = true := (pureR_si _)
      exact callP_ok (ps := []) (os := []) (rs := [(.agg [(.i 4), (.i 0), (.i 0), (.i 0), (.own 2 (map d_si ([]))), (.own 5 (map d_R ([]))), (.own 2 (map d_si ([]))), (.i 0), (.i 0), (.i 0)])]) (by kernel_rfl) (.r 11 [] [] f0 (.f (nt h0) (.f (nt h0) (.f (nt h0) (.f (nt h0) (.f f5 (.f f6 (.f (nt h0) (.f (nt h0) (.f (nt h0) (.f (nt h0) (.f h1 (.h 20 (.b false) (.h 22 (.b false) (.h 24 (.b false) (.h 26 (.b false) (.h 27 (.row [(.val (.string ((getD a0.f4 (Int.toNat (m79 a0.f4 a1)) (K_si.mk (⟨#[]⟩ : ByteArray) 0)).f0))), (.i ((getD a0.f4 (Int.toNat (m79 a0.f4 a1)) (K_si.mk (⟨#[]⟩ : ByteArray) 0)).f1))]) (.h 28 (.b false) (.h 30 (.b false) (.h 32 (.b false) (.h 35 (.b false) (.h 36 (.b true) (.r 38 [] [] f12 (.f f13 (.f f14 (.f f15 (.f f16 (.f f17 (.f f18 (.f f19 (.f f20 (.f f21 .nil))))))))))))))))))))))))))))))))
    · try simp only [if_neg h1]
      have f12 : 0 ≤ (m79 a0.f4 a1) := (by with_reducible assumption)
      have f13 : (map b_si a0.f4)[(Int.toNat (m79 a0.f4 a1))]? = some [(.val (.string ((getD a0.f4 (Int.toNat (m79 a0.f4 a1)) (K_si.mk (⟨#[]⟩ : ByteArray) 0)).f0))), (.val (.int .i64 ((getD a0.f4 (Int.toNat (m79 a0.f4 a1)) (K_si.mk (⟨#[]⟩ : ByteArray) 0)).f1)))] := (by rw [getElem?_map, getD_at a0.f4 (Int.toNat (m79 a0.f4 a1)) (K_si.mk (⟨#[]⟩ : ByteArray) 0) (by first | exact True.intro | with_reducible rfl | with_reducible assumption | omega | (rw [cp139]; omega) | (rw [cp139]; assumption) | (simp only [cp139, length_map]; have q := ix144 a0.f3 a1; simp only [decide_eq_true_eq] at *; omega) | (simp only [cp139, length_map]; have q := ix79 a0.f4 a1; simp only [decide_eq_true_eq] at *; omega) | (have q := ix79 a0.f4 a1; simp only [decide_eq_true_eq, length_map] at *; omega) | (unfold m79; (repeat' split) <;> simp_all <;> omega) | (simp only [decide_eq_true_eq] at *; omega) | (simp only [length_map]; omega) | (simp [ol85, ol86, ol27_0, ol27_1, ol27_2, ol28_0, ol28_1, ol28_2]; omega) | (simp [take_of_length_le, ol85, ol86, ol27_0, ol27_1, ol27_2, ol28_0, ol28_1, ol28_2]; done) | assumption | trivial | (simp [*, ol85, ol86, ol27_0, ol27_1, ol27_2, ol28_0, ol28_1, ol28_2, byteRows_eq, ints_y]; done))]; rfl)
      have f14 : Ev F X (.call 110 [(.oi a2), (.oi 1), (.oi ((getD a0.f4 (Int.toNat (m79 a0.f4 a1)) (K_si.mk (⟨#[]⟩ : ByteArray) 0)).f1))] [] [] [(.one (.val (.bool (m110 a2 1 ((getD a0.f4 (Int.toNat (m79 a0.f4 a1)) (K_si.mk (⟨#[]⟩ : ByteArray) 0)).f1)))))]) := (e110 (a0 := a2) (a1 := 1) (a2 := ((getD a0.f4 (Int.toNat (m79 a0.f4 a1)) (K_si.mk (⟨#[]⟩ : ByteArray) 0)).f1)))
      by_cases h2 : (!(m110 a2 1 ((getD a0.f4 (Int.toNat (m79 a0.f4 a1)) (K_si.mk (⟨#[]⟩ : ByteArray) 0)).f1))) = true
      · try simp only [if_pos h2]
        have f16 : Ev F X (.call 81 [(.oi 3)] [] [] [(.agg [(.i 3), (.i 0), (.i 0), (.i 0), (.own 2 (map d_si ([]))), (.own 5 (map d_R ([]))), (.own 2 (map d_si ([]))), (.i 0), (.i 0), (.i 0)])]) := (e81 (a0 := 3))
        have f17 : 0 = 0 := rfl
        have f18 : (length (map d_si ([]))) = (length (map d_si ([]))) := rfl
        have f19 : 0 = 0 := rfl
        have f20 : (length (map d_R ([]))) = (length (map d_R ([]))) := rfl
        have f21 : 0 = 0 := rfl
        have f22 : (length (map d_si ([]))) = (length (map d_si ([]))) := rfl
        have f23 : pureR (map d_si ([])) = true := (pureR_si _)
        have f24 : pureR (map d_R ([])) = true := (pureR_R _)
        have f25 : pureR (map d_si ([])) = true := (pureR_si _)
        exact callP_ok (ps := []) (os := []) (rs := [(.agg [(.i 3), (.i 0), (.i 0), (.i 0), (.own 2 (map d_si ([]))), (.own 5 (map d_R ([]))), (.own 2 (map d_si ([]))), (.i 0), (.i 0), (.i 0)])]) (by kernel_rfl) (.r 11 [] [] f0 (.f (nt h0) (.f (nt h0) (.f (nt h0) (.f (nt h0) (.f f5 (.f f6 (.f (nt h0) (.f (nt h0) (.f (nt h0) (.f (nt h0) (.f (nt h1) (.f f12 (.f f13 (.h 20 (.b false) (.h 22 (.b false) (.h 24 (.b false) (.h 26 (.b false) (.h 27 (.row [(.val (.string ((getD a0.f4 (Int.toNat (m79 a0.f4 a1)) (K_si.mk (⟨#[]⟩ : ByteArray) 0)).f0))), (.i ((getD a0.f4 (Int.toNat (m79 a0.f4 a1)) (K_si.mk (⟨#[]⟩ : ByteArray) 0)).f1))]) (.h 28 (.b false) (.h 30 (.b false) (.h 32 (.b false) (.h 35 (.b false) (.h 36 (.b false) (.h 46 (.row [(.val (.string ((getD a0.f4 (Int.toNat (m79 a0.f4 a1)) (K_si.mk (⟨#[]⟩ : ByteArray) 0)).f0))), (.i ((getD a0.f4 (Int.toNat (m79 a0.f4 a1)) (K_si.mk (⟨#[]⟩ : ByteArray) 0)).f1))]) (.r 52 [] [] f14 (.f h2 (.h 55 (.b true) (.r 57 [] [] f16 (.f f17 (.f f18 (.f f19 (.f f20 (.f f21 (.f f22 (.f f23 (.f f24 (.f f25 .nil))))))))))))))))))))))))))))))))))))))
      · try simp only [if_neg h2]
        have f17 : Ev F X (.call 115 [(.oi (IntKind.wrap .i64 (a0.f5 + a2)))] [] [] [(.one (.val (.bool (m110 (IntKind.wrap .i64 (a0.f5 + a2)) 0 1000000))))]) := (e115 (a0 := (IntKind.wrap .i64 (a0.f5 + a2))))
        by_cases h3 : (!(m110 (IntKind.wrap .i64 (a0.f5 + a2)) 0 1000000)) = true
        · try simp only [if_pos h3]
          have f19 : Ev F X (.call 81 [(.oi 7)] [] [] [(.agg [(.i 7), (.i 0), (.i 0), (.i 0), (.own 2 (map d_si ([]))), (.own 5 (map d_R ([]))), (.own 2 (map d_si ([]))), (.i 0), (.i 0), (.i 0)])]) := (e81 (a0 := 7))
          have f20 : 0 = 0 := rfl
          have f21 : (length (map d_si ([]))) = (length (map d_si ([]))) := rfl
          have f22 : 0 = 0 := rfl
          have f23 : (length (map d_R ([]))) = (length (map d_R ([]))) := rfl
          have f24 : 0 = 0 := rfl
          have f25 : (length (map d_si ([]))) = (length (map d_si ([]))) := rfl
          have f26 : pureR (map d_si ([])) = true := (pureR_si _)
          have f27 : pureR (map d_R ([])) = true := (pureR_R _)
          have f28 : pureR (map d_si ([])) = true := (pureR_si _)
          exact callP_ok (ps := []) (os := []) (rs := [(.agg [(.i 7), (.i 0), (.i 0), (.i 0), (.own 2 (map d_si ([]))), (.own 5 (map d_R ([]))), (.own 2 (map d_si ([]))), (.i 0), (.i 0), (.i 0)])]) (by kernel_rfl) (.r 11 [] [] f0 (.f (nt h0) (.f (nt h0) (.f (nt h0) (.f (nt h0) (.f f5 (.f f6 (.f (nt h0) (.f (nt h0) (.f (nt h0) (.f (nt h0) (.f (nt h1) (.f f12 (.f f13 (.h 20 (.b false) (.h 22 (.b false) (.h 24 (.b false) (.h 26 (.b false) (.h 27 (.row [(.val (.string ((getD a0.f4 (Int.toNat (m79 a0.f4 a1)) (K_si.mk (⟨#[]⟩ : ByteArray) 0)).f0))), (.i ((getD a0.f4 (Int.toNat (m79 a0.f4 a1)) (K_si.mk (⟨#[]⟩ : ByteArray) 0)).f1))]) (.h 28 (.b false) (.h 30 (.b false) (.h 32 (.b false) (.h 35 (.b false) (.h 36 (.b false) (.h 46 (.row [(.val (.string ((getD a0.f4 (Int.toNat (m79 a0.f4 a1)) (K_si.mk (⟨#[]⟩ : ByteArray) 0)).f0))), (.i ((getD a0.f4 (Int.toNat (m79 a0.f4 a1)) (K_si.mk (⟨#[]⟩ : ByteArray) 0)).f1))]) (.r 52 [] [] f14 (.f (nt h2) (.f trivial (.h 55 (.b false) (.r 65 [] [] f17 (.f h3 (.h 68 (.b true) (.r 70 [] [] f19 (.f f20 (.f f21 (.f f22 (.f f23 (.f f24 (.f f25 (.f f26 (.f f27 (.f f28 .nil))))))))))))))))))))))))))))))))))))))))))
        · try simp only [if_neg h3]
          have f19 : Ev F X (.call 139 [(.agg [(.i a0.f0), (.i a0.f1), (.bor (l0_2 + 1) (map b_si a0.f2)), (.bor (l0_3 + 1) (map b_R a0.f3)), (.bor (l0_4 + 1) (map b_si a0.f4)), (.i a0.f5), (.i a0.f6), (.i a0.f7)])] [] [] [(.agg [(.i ((m139 a0).f0)), (.i ((m139 a0).f1)), (.own 2 (map d_si ((m139 a0).f2))), (.own 5 (map d_R ((m139 a0).f3))), (.own 2 (map d_si ((m139 a0).f4))), (.i ((m139 a0).f5)), (.i ((m139 a0).f6)), (.i ((m139 a0).f7))])]) := (e139 (a0 := a0) (by with_reducible assumption) (by with_reducible assumption) (by with_reducible assumption) (by with_reducible assumption) (by with_reducible assumption))
          have f20 : 0 = 0 := rfl
          have f21 : (length (map d_si ((m139 a0).f2))) = (length (map d_si ((m139 a0).f2))) := rfl
          have f22 : 0 = 0 := rfl
          have f23 : (length (map d_R ((m139 a0).f3))) = (length (map d_R ((m139 a0).f3))) := rfl
          have f24 : 0 = 0 := rfl
          have f25 : (length (map d_si ((m139 a0).f4))) = (length (map d_si ((m139 a0).f4))) := rfl
          have f26 : 0 ≤ (m79 a0.f4 a1) := (by with_reducible assumption)
          have f27 : (map b_si a0.f4)[(Int.toNat (m79 a0.f4 a1))]? = some [(.val (.string ((getD a0.f4 (Int.toNat (m79 a0.f4 a1)) (K_si.mk (⟨#[]⟩ : ByteArray) 0)).f0))), (.val (.int .i64 ((getD a0.f4 (Int.toNat (m79 a0.f4 a1)) (K_si.mk (⟨#[]⟩ : ByteArray) 0)).f1)))] := (by rw [getElem?_map, getD_at a0.f4 (Int.toNat (m79 a0.f4 a1)) (K_si.mk (⟨#[]⟩ : ByteArray) 0) (by first | exact True.intro | with_reducible rfl | with_reducible assumption | omega | (rw [cp139]; omega) | (rw [cp139]; assumption) | (simp only [cp139, length_map]; have q := ix144 a0.f3 a1; simp only [decide_eq_true_eq] at *; omega) | (simp only [cp139, length_map]; have q := ix79 a0.f4 a1; simp only [decide_eq_true_eq] at *; omega) | (have q := ix79 a0.f4 a1; simp only [decide_eq_true_eq, length_map] at *; omega) | (unfold m79; (repeat' split) <;> simp_all <;> omega) | (simp only [decide_eq_true_eq] at *; omega) | (simp only [length_map]; omega) | (simp [ol85, ol86, ol27_0, ol27_1, ol27_2, ol28_0, ol28_1, ol28_2]; omega) | (simp [take_of_length_le, ol85, ol86, ol27_0, ol27_1, ol27_2, ol28_0, ol28_1, ol28_2]; done) | assumption | trivial | (simp [*, ol85, ol86, ol27_0, ol27_1, ol27_2, ol28_0, ol28_1, ol28_2, byteRows_eq, ints_y]; done))]; rfl)
          have f28 : 0 + (length (map d_si ((m139 a0).f4))) ≤ (length (map d_si ((m139 a0).f4))) := (by omega)
          have f29 : 0 ≤ (m79 a0.f4 a1) ∧ (m79 a0.f4 a1) < ((length (map d_si ((m139 a0).f4))) : Int) := (by simp only [cp139, length_map]; have q := ix79 a0.f4 a1; simp only [decide_eq_true_eq] at *; omega)
          have f30 : (map d_si ((m139 a0).f4))[(0 + (Int.toNat (m79 a0.f4 a1)))]? = some [(.val (.string ((getD ((m139 a0).f4) (Int.toNat (m79 a0.f4 a1)) (K_si.mk (⟨#[]⟩ : ByteArray) 0)).f0))), (.val (.int .i64 ((getD ((m139 a0).f4) (Int.toNat (m79 a0.f4 a1)) (K_si.mk (⟨#[]⟩ : ByteArray) 0)).f1)))] := (by rw [Nat.zero_add, getElem?_map, getD_at ((m139 a0).f4) (Int.toNat (m79 a0.f4 a1)) (K_si.mk (⟨#[]⟩ : ByteArray) 0) (by first | exact True.intro | with_reducible rfl | with_reducible assumption | omega | (rw [cp139]; omega) | (rw [cp139]; assumption) | (simp only [cp139, length_map]; have q := ix144 a0.f3 a1; simp only [decide_eq_true_eq] at *; omega) | (simp only [cp139, length_map]; have q := ix79 a0.f4 a1; simp only [decide_eq_true_eq] at *; omega) | (have q := ix79 a0.f4 a1; simp only [decide_eq_true_eq, length_map] at *; omega) | (unfold m79 m139; (repeat' split) <;> simp_all <;> omega) | (simp only [decide_eq_true_eq] at *; omega) | (simp only [length_map]; omega) | (simp [ol85, ol86, ol27_0, ol27_1, ol27_2, ol28_0, ol28_1, ol28_2]; omega) | (simp [take_of_length_le, ol85, ol86, ol27_0, ol27_1, ol27_2, ol28_0, ol28_1, ol28_2]; done) | assumption | trivial | (simp [*, ol85, ol86, ol27_0, ol27_1, ol27_2, ol28_0, ol28_1, ol28_2, byteRows_eq, ints_y]; done))]; rfl)
          have f31 : ([[(.val (.int .i64 ((m139 a0).f0))), (.val (.int .i64 ((m139 a0).f1))), (.own 2 (map d_si ((m139 a0).f2))), (.own 5 (map d_R ((m139 a0).f3))), (.own 2 (set (map d_si ((m139 a0).f4)) (0 + (Int.toNat (m79 a0.f4 a1))) [(.val (.string ((getD ((m139 a0).f4) (Int.toNat (m79 a0.f4 a1)) (K_si.mk (⟨#[]⟩ : ByteArray) 0)).f0))), (.val (.int .i64 (IntKind.wrap .i64 (((getD a0.f4 (Int.toNat (m79 a0.f4 a1)) (K_si.mk (⟨#[]⟩ : ByteArray) 0)).f1) - a2))))])), (.val (.int .i64 ((m139 a0).f5))), (.val (.int .i64 ((m139 a0).f6))), (.val (.int .i64 ((m139 a0).f7)))]] : List (List D)) = [[(.val (.int .i64 ((m139 a0).f0))), (.val (.int .i64 ((m139 a0).f1))), (.own 2 (map d_si ((m139 a0).f2))), (.own 5 (map d_R ((m139 a0).f3))), (.own 2 (map d_si (set ((m139 a0).f4) (Int.toNat (m79 a0.f4 a1)) (K_si.mk ((getD ((m139 a0).f4) (Int.toNat (m79 a0.f4 a1)) (K_si.mk (⟨#[]⟩ : ByteArray) 0)).f0) (IntKind.wrap .i64 (((getD a0.f4 (Int.toNat (m79 a0.f4 a1)) (K_si.mk (⟨#[]⟩ : ByteArray) 0)).f1) - a2)))))), (.val (.int .i64 ((m139 a0).f5))), (.val (.int .i64 ((m139 a0).f6))), (.val (.int .i64 ((m139 a0).f7)))]] := (by simp [byteRows_eq, ints_y, take_of_length_le, d_si, d_R, d_B, d_s, d_i, d_b, d_C, d_LsiE, d_Q, d_y, fromBR_si, fromBR_s, fromBR_i, fromBR_b, fromBR_y, ol85, ol86, ol27_0, ol27_1, ol27_2, ol28_0, ol28_1, ol28_2]; done)
          have f33 : 0 = 0 := rfl
          have f34 : (length (map d_si ((m139 a0).f2))) = (length (map d_si ((m139 a0).f2))) := rfl
          have f35 : 0 = 0 := rfl
          have f36 : (length (map d_R ((m139 a0).f3))) = (length (map d_R ((m139 a0).f3))) := rfl
          have f37 : 0 = 0 := rfl
          have f38 : (length (map d_si (set ((m139 a0).f4) (Int.toNat (m79 a0.f4 a1)) (K_si.mk ((getD ((m139 a0).f4) (Int.toNat (m79 a0.f4 a1)) (K_si.mk (⟨#[]⟩ : ByteArray) 0)).f0) (IntKind.wrap .i64 (((getD a0.f4 (Int.toNat (m79 a0.f4 a1)) (K_si.mk (⟨#[]⟩ : ByteArray) 0)).f1) - a2)))))) = (length (map d_si (set ((m139 a0).f4) (Int.toNat (m79 a0.f4 a1)) (K_si.mk ((getD ((m139 a0).f4) (Int.toNat (m79 a0.f4 a1)) (K_si.mk (⟨#[]⟩ : ByteArray) 0)).f0) (IntKind.wrap .i64 (((getD a0.f4 (Int.toNat (m79 a0.f4 a1)) (K_si.mk (⟨#[]⟩ : ByteArray) 0)).f1) - a2)))))) := rfl
          have f39 : pureR (map d_si ((m139 a0).f2)) = true := (by simp [ol85, ol86, ol27_0, ol27_1, ol27_2, ol28_0, ol28_1, ol28_2]; done)
          have f40 : pureR (map d_R ((m139 a0).f3)) = true := (by simp [ol85, ol86, ol27_0, ol27_1, ol27_2, ol28_0, ol28_1, ol28_2]; done)
          have f41 : pureR (map d_si (set ((m139 a0).f4) (Int.toNat (m79 a0.f4 a1)) (K_si.mk ((getD ((m139 a0).f4) (Int.toNat (m79 a0.f4 a1)) (K_si.mk (⟨#[]⟩ : ByteArray) 0)).f0) (IntKind.wrap .i64 (((getD a0.f4 (Int.toNat (m79 a0.f4 a1)) (K_si.mk (⟨#[]⟩ : ByteArray) 0)).f1) - a2))))) = true := (pureR_si _)
          exact callP_ok (ps := []) (os := []) (rs := [(.agg [(.i 0), (.i 0), (.i ((m139 a0).f0)), (.i ((m139 a0).f1)), (.own 2 (map d_si ((m139 a0).f2))), (.own 5 (map d_R ((m139 a0).f3))), (.own 2 (map d_si (set ((m139 a0).f4) (Int.toNat (m79 a0.f4 a1)) (K_si.mk ((getD ((m139 a0).f4) (Int.toNat (m79 a0.f4 a1)) (K_si.mk (⟨#[]⟩ : ByteArray) 0)).f0) (IntKind.wrap .i64 (((getD a0.f4 (Int.toNat (m79 a0.f4 a1)) (K_si.mk (⟨#[]⟩ : ByteArray) 0)).f1) - a2)))))), (.i (IntKind.wrap .i64 (a0.f5 + a2))), (.i ((m139 a0).f6)), (.i ((m139 a0).f7))])]) (by kernel_rfl) (.r 11 [] [] f0 (.f (nt h0) (.f (nt h0) (.f (nt h0) (.f (nt h0) (.f f5 (.f f6 (.f (nt h0) (.f (nt h0) (.f (nt h0) (.f (nt h0) (.f (nt h1) (.f f12 (.f f13 (.h 20 (.b false) (.h 22 (.b false) (.h 24 (.b false) (.h 26 (.b false) (.h 27 (.row [(.val (.string ((getD a0.f4 (Int.toNat (m79 a0.f4 a1)) (K_si.mk (⟨#[]⟩ : ByteArray) 0)).f0))), (.i ((getD a0.f4 (Int.toNat (m79 a0.f4 a1)) (K_si.mk (⟨#[]⟩ : ByteArray) 0)).f1))]) (.h 28 (.b false) (.h 30 (.b false) (.h 32 (.b false) (.h 35 (.b false) (.h 36 (.b false) (.h 46 (.row [(.val (.string ((getD a0.f4 (Int.toNat (m79 a0.f4 a1)) (K_si.mk (⟨#[]⟩ : ByteArray) 0)).f0))), (.i ((getD a0.f4 (Int.toNat (m79 a0.f4 a1)) (K_si.mk (⟨#[]⟩ : ByteArray) 0)).f1))]) (.r 52 [] [] f14 (.f (nt h2) (.f trivial (.h 55 (.b false) (.r 65 [] [] f17 (.f (nt h3) (.h 68 (.b false) (.r 72 [] [] f19 (.f f20 (.f f21 (.f f22 (.f f23 (.f f24 (.f f25 (.f f26 (.f f27 (.f f28 (.f f29 (.f f30 (.f f31 (.f trivial (.f f33 (.f f34 (.f f35 (.f f36 (.f f37 (.f f38 (.f f39 (.f f40 (.f f41 (.h 90 (.row [(.val (.string ((getD a0.f4 (Int.toNat (m79 a0.f4 a1)) (K_si.mk (⟨#[]⟩ : ByteArray) 0)).f0))), (.i ((getD a0.f4 (Int.toNat (m79 a0.f4 a1)) (K_si.mk (⟨#[]⟩ : ByteArray) 0)).f1))]) (.h 104 (.rowD [(.val (.string ((getD ((m139 a0).f4) (Int.toNat (m79 a0.f4 a1)) (K_si.mk (⟨#[]⟩ : ByteArray) 0)).f0))), (.i ((getD ((m139 a0).f4) (Int.toNat (m79 a0.f4 a1)) (K_si.mk (⟨#[]⟩ : ByteArray) 0)).f1))]) (.h 105 (.norm (8, 0, 0) [[(.i ((m139 a0).f0)), (.i ((m139 a0).f1)), (.own 2 (map d_si ((m139 a0).f2))), (.own 5 (map d_R ((m139 a0).f3))), (.own 2 (map d_si (set ((m139 a0).f4) (Int.toNat (m79 a0.f4 a1)) (K_si.mk ((getD ((m139 a0).f4) (Int.toNat (m79 a0.f4 a1)) (K_si.mk (⟨#[]⟩ : ByteArray) 0)).f0) (IntKind.wrap .i64 (((getD a0.f4 (Int.toNat (m79 a0.f4 a1)) (K_si.mk (⟨#[]⟩ : ByteArray) 0)).f1) - a2)))))), (.i ((m139 a0).f5)), (.i ((m139 a0).f6)), (.i ((m139 a0).f7))]]) .nil))))))))))))))))))))))))))))))))))))))))))))))))))))))))))
/-! loop.example/g00539/spec.PayWorker -/
def m32 (a0 : K_B) (a1 : ByteArray) (a2 : Int) : K_C :=
  if ((m68 a0) != 0) = true then (K_C.mk (m68 a0) 0 0 0 ([]) ([]) ([]) 0 0 0) else
  (m91 a0 a1 a2)
theorem e32 {l0_2 : Nat} {l0_3 : Nat} {l0_4 : Nat} {a0 : K_B} {a1 : ByteArray} {a2 : Int} (hy0 : length a0.f2 * 24 ≤ 140737488351232) (hy1 : ∀ z ∈ a0.f2, os_si z) (hy2 : length a0.f3 * 56 ≤ 140737488351232) (hy3 : ∀ z ∈ a0.f3, os_R z) (hy4 : length a0.f4 * 24 ≤ 140737488351232) (hy5 : ∀ z ∈ a0.f4, os_si z) (hy6 : ByteArray.size a1 ≤ 140737488351232) : Ev F X (.call 32 [(.agg [(.val (.int .i64 a0.f0)), (.val (.int .i64 a0.f1)), (.bor l0_2 (map b_si a0.f2)), (.bor l0_3 (map b_R a0.f3)), (.bor l0_4 (map b_si a0.f4)), (.val (.int .i64 a0.f5)), (.val (.int .i64 a0.f6)), (.val (.int .i64 a0.f7))]), (.one (.val (.string a1))), (.one (.val (.int .i64 a2)))] [] [] [(.agg [(.val (.int .i64 ((m32 a0 a1 a2).f0))), (.val (.int .i64 ((m32 a0 a1 a2).f1))), (.val (.int .i64 ((m32 a0 a1 a2).f2))), (.val (.int .i64 ((m32 a0 a1 a2).f3))), (.own 2 (map d_si ((m32 a0 a1 a2).f4))), (.own 5 (map d_R ((m32 a0 a1 a2).f5))), (.own 2 (map d_si ((m32 a0 a1 a2).f6))), (.val (.int .i64 ((m32 a0 a1 a2).f7))), (.val (.int .i64 ((m32 a0 a1 a2).f8))), (.val (.int .i64 ((m32 a0 a1 a2).f9)))])]) := by
  unfold m32
  have f0 : fullL [(.val (.int .i64 a0.f0)), (.val (.int .i64 a0.f1)), (.bor l0_2 (map b_si a0.f2)), (.bor l0_3 (map b_R a0.f3)), (.bor l0_4 (map b_si a0.f4)), (.val (.int .i64 a0.f5)), (.val (.int .i64 a0.f6)), (.val (.int .i64 a0.f7))] = true := (by trivial)
  have f1 : Ev F X (.call 68 [(.bptr 0 [(.i a0.f0), (.i a0.f1), (.sl (map b_si a0.f2)), (.sl (map b_R a0.f3)), (.sl (map b_si a0.f4)), (.i a0.f5), (.i a0.f6), (.i a0.f7)])] [] [] [(.oi (m68 a0))]) := (e68 (a0 := a0) (by with_reducible assumption) (by with_reducible assumption) (by with_reducible assumption) (by with_reducible assumption) (by with_reducible assumption) (by with_reducible assumption))
  by_cases h0 : ((m68 a0) != 0) = true
  · try simp only [if_pos h0]
    have f3 : Ev F X (.call 81 [(.oi (m68 a0))] [] [] [(.agg [(.i (m68 a0)), (.i 0), (.i 0), (.i 0), (.own 2 (map d_si ([]))), (.own 5 (map d_R ([]))), (.own 2 (map d_si ([]))), (.i 0), (.i 0), (.i 0)])]) := (e81 (a0 := (m68 a0)))
    have f4 : 0 = 0 := rfl
    have f5 : (length (map d_si ([]))) = (length (map d_si ([]))) := rfl
    have f6 : 0 = 0 := rfl
    have f7 : (length (map d_R ([]))) = (length (map d_R ([]))) := rfl
    have f8 : 0 = 0 := rfl
    have f9 : (length (map d_si ([]))) = (length (map d_si ([]))) := rfl
    have f10 : pureR (map d_si ([])) = true := (pureR_si _)
    have f11 : pureR (map d_R ([])) = true := (pureR_R _)
    have f12 : pureR (map d_si ([])) = true := (pureR_si _)
    exact callP_ok (ps := []) (os := []) (rs := [(.agg [(.i (m68 a0)), (.i 0), (.i 0), (.i 0), (.own 2 (map d_si ([]))), (.own 5 (map d_R ([]))), (.own 2 (map d_si ([]))), (.i 0), (.i 0), (.i 0)])]) (by kernel_rfl) (.f f0 (.r 5 [] [] f1 (.f h0 (.h 12 (.b true) (.r 16 [] [] f3 (.f f4 (.f f5 (.f f6 (.f f7 (.f f8 (.f f9 (.f f10 (.f f11 (.f f12 .nil))))))))))))))
  · try simp only [if_neg h0]
    have f3 : Ev F X (.call 91 [(.agg [(.i a0.f0), (.i a0.f1), (.bor (l0_2 + 1) (map b_si a0.f2)), (.bor (l0_3 + 1) (map b_R a0.f3)), (.bor (l0_4 + 1) (map b_si a0.f4)), (.i a0.f5), (.i a0.f6), (.i a0.f7)]), (.one (.val (.string a1))), (.oi a2)] [] [] [(.agg [(.i ((m91 a0 a1 a2).f0)), (.i ((m91 a0 a1 a2).f1)), (.i ((m91 a0 a1 a2).f2)), (.i ((m91 a0 a1 a2).f3)), (.own 2 (map d_si ((m91 a0 a1 a2).f4))), (.own 5 (map d_R ((m91 a0 a1 a2).f5))), (.own 2 (map d_si ((m91 a0 a1 a2).f6))), (.i ((m91 a0 a1 a2).f7)), (.i ((m91 a0 a1 a2).f8)), (.i ((m91 a0 a1 a2).f9))])]) := (e91 (a0 := a0) (a1 := a1) (a2 := a2) (by have q := fs68 (a0 := a0) (by with_reducible assumption); omega) (by have q := fs68 (a0 := a0) (by with_reducible assumption); omega) (by have q := fs68 (a0 := a0) (by with_reducible assumption); intro z hz; have q2 := q.2.2.1 z hz; omega) (by have q := fs68 (a0 := a0) (by with_reducible assumption); omega) (by intro z hz; exact os_ok_R z ((by assumption : ∀ z ∈ a0.f3, os_R z) z hz)))
    have f4 : 0 = 0 := rfl
    have f5 : (length (map d_si ((m91 a0 a1 a2).f4))) = (length (map d_si ((m91 a0 a1 a2).f4))) := rfl
    have f6 : 0 = 0 := rfl
    have f7 : (length (map d_R ((m91 a0 a1 a2).f5))) = (length (map d_R ((m91 a0 a1 a2).f5))) := rfl
    have f8 : 0 = 0 := rfl
    have f9 : (length (map d_si ((m91 a0 a1 a2).f6))) = (length (map d_si ((m91 a0 a1 a2).f6))) := rfl
    have f10 : pureR (map d_si ((m91 a0 a1 a2).f4)) = true := (by simp [ol85, ol86, ol27_0, ol27_1, ol27_2, ol28_0, ol28_1, ol28_2]; done)
    have f11 : pureR (map d_R ((m91 a0 a1 a2).f5)) = true := (by simp [ol85, ol86, ol27_0, ol27_1, ol27_2, ol28_0, ol28_1, ol28_2]; done)
    have f12 : pureR (map d_si ((m91 a0 a1 a2).f6)) = true := (by simp [ol85, ol86, ol27_0, ol27_1, ol27_2, ol28_0, ol28_1, ol28_2]; done)
    exact callP_ok (ps := []) (os := []) (rs := [(.agg [(.i ((m91 a0 a1 a2).f0)), (.i ((m91 a0 a1 a2).f1)), (.i ((m91 a0 a1 a2).f2)), (.i ((m91 a0 a1 a2).f3)), (.own 2 (map d_si ((m91 a0 a1 a2).f4))), (.own 5 (map d_R ((m91 a0 a1 a2).f5))), (.own 2 (map d_si ((m91 a0 a1 a2).f6))), (.i ((m91 a0 a1 a2).f7)), (.i ((m91 a0 a1 a2).f8)), (.i ((m91 a0 a1 a2).f9))])]) (by kernel_rfl) (.f f0 (.r 5 [] [] f1 (.f (nt h0) (.h 12 (.b false) (.r 20 [] [] f3 (.f f4 (.f f5 (.f f6 (.f f7 (.f f8 (.f f9 (.f f10 (.f f11 (.f f12 .nil))))))))))))))
theorem okm32 (a0 : K_B) (a1 : ByteArray) (a2 : Int) : ok_C (m32 a0 a1 a2) := by
  unfold m32
  split
  · simp [ok_R, ok_B, ok_C, ok_LsiE, ok_Q]
  · rename_i h
    obtain ⟨q1, q2, q3, q4⟩ := fs68 h
    unfold m91
    simp only [cp139]
    (repeat' split) <;> simp only [ok_R, ok_B, ok_C, ok_LsiE, ok_Q] <;> first | (refine ⟨by simp, by simp, by simp, by simp⟩) | (refine ⟨?_, ?_, ?_, ?_⟩ <;> first | omega | (simp only [length_set, length_append, length_cons, length_nil, length_take, length_drop]; omega) | exact oall q3 | exact oset q3 (oget q3 _) | exact oset q3 (by simp) | exact oapp q3 (by simp))
/-! loop.example/g00539/impl.in -/
def m93 (a0 : Int) (a1 : Int) (a2 : Int) : Bool :=
  if (decide (a0 ≥ a1)) = true then (decide (a0 ≤ a2)) else
  false
theorem e93 {a0 : Int} {a1 : Int} {a2 : Int} : Ev F X (.call 93 [(.one (.val (.int .i64 a0))), (.one (.val (.int .i64 a1))), (.one (.val (.int .i64 a2)))] [] [] [(.one (.val (.bool (m93 a0 a1 a2))))]) := by
  unfold m93
  by_cases h0 : (decide (a0 ≥ a1)) = true
  · try simp only [if_pos h0]
    exact callP_ok (ps := []) (os := []) (rs := [(.one (.val (.bool (decide (a0 ≤ a2)))))]) (by kernel_rfl) (.f h0 (.f h0 (.f h0 (.f h0 (.h 10 (.b true) (.h 12 (.b true) (.h 14 (.b true) (.h 17 (.b true) .nil))))))))
  · try simp only [if_neg h0]
    exact callP_ok (ps := []) (os := []) (rs := [(.one (.val (.bool false)))]) (by kernel_rfl) (.f (nt h0) (.f (nt h0) (.f (nt h0) (.f (nt h0) (.h 10 (.b false) (.h 12 (.b false) (.h 14 (.b false) (.h 17 (.b false) .nil))))))))
/-! strings.Trim -/
theorem e172 {a0 a1 : ByteArray} (hy0 : ByteArray.size a0 ≤ 9223372036854775807) (hy1 : ByteArray.size a1 < 4294967281) (hy2 : asciiB a1 = true) : Ev F X (.call 172 [(.one (.val (.string a0))), (.one (.val (.string a1)))] [] [] [(.one (.val (.string (trimB a0 a1))))]) :=
  .ext (.inr (⟨rfl, (⟨a0, a1, hy0, hy1, hy2, rfl, rfl⟩)⟩))
/-! loop.example/g00539/impl.argOk -/
def m155 (a0 : ByteArray) : Bool :=
  if (decide ((ByteArray.size a0 : Int) ≤ 12)) = true then ((trimB a0 (⟨#[97, 98, 99, 100, 101, 102, 103, 104, 105, 106, 107, 108, 109, 110, 111, 112, 113, 114, 115, 116, 117, 118, 119, 120, 121, 122, 65, 66, 67, 68, 69, 70, 71, 72, 73, 74, 75, 76, 77, 78, 79, 80, 81, 82, 83, 84, 85, 86, 87, 88, 89, 90, 48, 49, 50, 51, 52, 53, 54, 55, 56, 57]⟩ : ByteArray)).toList == (⟨#[]⟩ : ByteArray).toList) else
  false
theorem e155 {a0 : ByteArray} : Ev F X (.call 155 [(.one (.val (.string a0)))] [] [] [(.one (.val (.bool (m155 a0))))]) := by
  unfold m155
  by_cases h0 : (decide ((ByteArray.size a0 : Int) ≤ 12)) = true
  · try simp only [if_pos h0]
    have f2 : Ev F X (.call 172 [(.one (.val (.string a0))), (.one (.val (.string (⟨#[97, 98, 99, 100, 101, 102, 103, 104, 105, 106, 107, 108, 109, 110, 111, 112, 113, 114, 115, 116, 117, 118, 119, 120, 121, 122, 65, 66, 67, 68, 69, 70, 71, 72, 73, 74, 75, 76, 77, 78, 79, 80, 81, 82, 83, 84, 85, 86, 87, 88, 89, 90, 48, 49, 50, 51, 52, 53, 54, 55, 56, 57]⟩ : ByteArray))))] [] [] [(.one (.val (.string (trimB a0 (⟨#[97, 98, 99, 100, 101, 102, 103, 104, 105, 106, 107, 108, 109, 110, 111, 112, 113, 114, 115, 116, 117, 118, 119, 120, 121, 122, 65, 66, 67, 68, 69, 70, 71, 72, 73, 74, 75, 76, 77, 78, 79, 80, 81, 82, 83, 84, 85, 86, 87, 88, 89, 90, 48, 49, 50, 51, 52, 53, 54, 55, 56, 57]⟩ : ByteArray)))))]) := (e172 (a0 := a0) (a1 := (⟨#[97, 98, 99, 100, 101, 102, 103, 104, 105, 106, 107, 108, 109, 110, 111, 112, 113, 114, 115, 116, 117, 118, 119, 120, 121, 122, 65, 66, 67, 68, 69, 70, 71, 72, 73, 74, 75, 76, 77, 78, 79, 80, 81, 82, 83, 84, 85, 86, 87, 88, 89, 90, 48, 49, 50, 51, 52, 53, 54, 55, 56, 57]⟩ : ByteArray)) (by simp only [decide_eq_true_eq] at *; omega) (by decide) (by decide))
    exact callP_ok (ps := []) (os := []) (rs := [(.one (.val (.bool ((trimB a0 (⟨#[97, 98, 99, 100, 101, 102, 103, 104, 105, 106, 107, 108, 109, 110, 111, 112, 113, 114, 115, 116, 117, 118, 119, 120, 121, 122, 65, 66, 67, 68, 69, 70, 71, 72, 73, 74, 75, 76, 77, 78, 79, 80, 81, 82, 83, 84, 85, 86, 87, 88, 89, 90, 48, 49, 50, 51, 52, 53, 54, 55, 56, 57]⟩ : ByteArray)).toList == (⟨#[]⟩ : ByteArray).toList))))]) (by kernel_rfl) (.f h0 (.f h0 (.h 10 (.b true) (.h 12 (.b true) (.r 13 [] [] f2 (.f h0 (.f h0 (.h 14 (.b true) (.h 17 (.b true) .nil)))))))))
  · try simp only [if_neg h0]
    exact callP_ok (ps := []) (os := []) (rs := [(.one (.val (.bool false)))]) (by kernel_rfl) (.f (nt h0) (.f (nt h0) (.f (nt h0) (.f (nt h0) (.h 10 (.b false) (.h 12 (.b false) (.h 14 (.b false) (.h 17 (.b false) .nil))))))))
/-! loop.example/g00539/impl.workerOk -/
def m113 (a0 : ByteArray) : Bool :=
  if (!(a0.toList == (⟨#[]⟩ : ByteArray).toList)) = true then (m155 a0) else
  false
theorem e113 {a0 : ByteArray} : Ev F X (.call 113 [(.one (.val (.string a0)))] [] [] [(.one (.val (.bool (m113 a0))))]) := by
  unfold m113
  by_cases h0 : (!(a0.toList == (⟨#[]⟩ : ByteArray).toList)) = true
  · try simp only [if_pos h0]
    have f2 : Ev F X (.call 155 [(.one (.val (.string a0)))] [] [] [(.one (.val (.bool (m155 a0))))]) := (e155 (a0 := a0))
    exact callP_ok (ps := []) (os := []) (rs := [(.one (.val (.bool (m155 a0))))]) (by kernel_rfl) (.f h0 (.f h0 (.h 8 (.b true) (.h 10 (.b true) (.r 11 [] [] f2 (.f h0 (.h 13 (.b true) .nil)))))))
  · try simp only [if_neg h0]
    exact callP_ok (ps := []) (os := []) (rs := [(.one (.val (.bool false)))]) (by kernel_rfl) (.f (nt h0) (.f (nt h0) (.f (nt h0) (.h 8 (.b false) (.h 10 (.b false) (.h 13 (.b false) .nil))))))
/-! loop 46_0 -/
inductive O46_0 where
  | k0 (w0 : Int) (w1 : Bool)
  | k1
  | k2
def r46_0 (a0 : (List K_si)) : List K_si → Int → O46_0
  | x0 :: y0, i =>
    if (!(m113 x0.f0)) = true then (O46_0.k1) else
    if (!(m93 x0.f1 1 9999)) = true then (O46_0.k2) else
      (r46_0 a0 y0 (i + 1) )
  | [], i => (O46_0.k0 i (decide (i < ((length (map b_si a0)) : Int))))
def h46_0 (l0_0 : Nat) (a0 : (List K_si)) (i : Int)  : St := ⟨[(8, (.one (.bor l0_0 (map b_si a0)))), (9, (.one (.val (.int .i64 ((length (map b_si a0)) : Int))))), (10, (.one (.val (.int .i64 i))))], []⟩
def ex46_0 : O46_0 → VX.Exit
  | .k0 _ _ => (.exit 0)
  | .k1 => .ret
  | .k2 => .ret
def fin46_0 (l0_0 : Nat) (a0 : (List K_si)) : O46_0 → St
  | .k0 w0 w1 => ⟨[(8, (.one (.bor l0_0 (map b_si a0)))), (9, (.one (.val (.int .i64 ((length (map b_si a0)) : Int))))), (10, (.one (.val (.int .i64 w0)))), (11, (.one (.val (.bool w1))))], []⟩
  | .k1 => ⟨[(2, (.one (.val (.int .i64 5))))], []⟩
  | .k2 => ⟨[(2, (.one (.val (.int .i64 3))))], []⟩
theorem t46_0 {l0_0 : Nat} {a0 : (List K_si)} (hy0 : length a0 * 24 ≤ 140737488351232) : ∀ (y0 : List K_si) (p : List K_si) , p ++ y0 = a0 → Ev F X (.code l46_0 (h46_0 l0_0 a0 (length p : Int) ) (ex46_0 (r46_0 a0 y0 (length p : Int) )) (fin46_0 l0_0 a0 (r46_0 a0 y0 (length p : Int) )))
  | [], p, hp0 => by
    have hc : ¬ (decide ((length p : Int) < ((length (map b_si a0)) : Int))) = true := by
      rw [← hp0]; simp only [length_map, length_set, length_append, length_replicate, length_cons, length_nil, decide_eq_true_eq]; omega
    have st := codeH_ok (F := F) (X := X) (c := b46_0) (t := 0) (hs := [(2, .b false)]) (σ := h46_0 l0_0 a0 (length p : Int) ) (σ' := fin46_0 l0_0 a0 (.k0 (length p : Int) (decide ((length p : Int) < ((length (map b_si a0)) : Int))))) (e := (.exit 0)) (t' := 3) (hs' := []) (q := [(decide ((length p : Int) < ((length (map b_si a0)) : Int))) = false]) (by kernel_rfl) ⟨(nt hc), trivial⟩
    exact .loopX st (show ((.exit 0) : VX.Exit) ≠ .normal from by simp)
  | x0 :: y0, p, hp0 => by
    have hc : (decide ((length p : Int) < ((length (map b_si a0)) : Int))) = true := by
      rw [← hp0]; simp only [length_map, length_set, length_append, length_replicate, length_cons, length_nil, decide_eq_true_eq]; omega
    have Hx0 : (a0)[Int.toNat (length p : Int)]? = some x0 := by
      rw [← hp0, Int.toNat_natCast]; simp
    have hlen : length (a0) = length p + length y0 + 1 := by rw [← hp0]; simp; omega
    have hw : IntKind.wrap .i64 ((length p : Int) + 1) = (length p : Int) + 1 := wrap64 (by omega)
    simp only [r46_0]
    by_cases h_1 : (!(m113 x0.f0)) = true
    · try simp only [if_pos h_1]
      have st := codeH_ok (F := F) (X := X) (c := b46_0) (t := 0) (hs := [(2, .b true), (4, .row [(.val (.string x0.f0)), (.i x0.f1)]), (16, .ret [] [(.one (.val (.bool (m113 x0.f0))))] [] []), (21, .b true)]) (σ := h46_0 l0_0 a0 (length p : Int) ) (σ' := fin46_0 l0_0 a0 (.k1)) (e := .ret) (t' := 24) (hs' := []) (q := [(decide ((length p : Int) < ((length (map b_si a0)) : Int))) = true, 0 ≤ (length p : Int), (map b_si a0)[(Int.toNat (length p : Int))]? = some [(.val (.string x0.f0)), (.i x0.f1)], Ev F X (.call 113 [(.one (.val (.string x0.f0)))] [] [] [(.one (.val (.bool (m113 x0.f0))))]), (!(m113 x0.f0)) = true]) (by kernel_rfl) ⟨hc, (by omega), (by rw [getElem?_map, Hx0]; rfl), (e113 (a0 := x0.f0)), h_1, trivial⟩
      exact .loopX st (show (.ret : VX.Exit) ≠ .normal from by simp)
    · try simp only [if_neg h_1]
      by_cases h_2 : (!(m93 x0.f1 1 9999)) = true
      · try simp only [if_pos h_2]
        have st := codeH_ok (F := F) (X := X) (c := b46_0) (t := 0) (hs := [(2, .b true), (4, .row [(.val (.string x0.f0)), (.i x0.f1)]), (16, .ret [] [(.one (.val (.bool (m113 x0.f0))))] [] []), (21, .b false), (27, .ret [] [(.one (.val (.bool (m93 x0.f1 1 9999))))] [] []), (32, .b true)]) (σ := h46_0 l0_0 a0 (length p : Int) ) (σ' := fin46_0 l0_0 a0 (.k2)) (e := .ret) (t' := 35) (hs' := []) (q := [(decide ((length p : Int) < ((length (map b_si a0)) : Int))) = true, 0 ≤ (length p : Int), (map b_si a0)[(Int.toNat (length p : Int))]? = some [(.val (.string x0.f0)), (.i x0.f1)], Ev F X (.call 113 [(.one (.val (.string x0.f0)))] [] [] [(.one (.val (.bool (m113 x0.f0))))]), (!(m113 x0.f0)) = false, Ev F X (.call 93 [(.oi x0.f1), (.oi 1), (.oi 9999)] [] [] [(.one (.val (.bool (m93 x0.f1 1 9999))))]), (!(m93 x0.f1 1 9999)) = true]) (by kernel_rfl) ⟨hc, (by omega), (by rw [getElem?_map, Hx0]; rfl), (e113 (a0 := x0.f0)), (nt h_1), (e93 (a0 := x0.f1) (a1 := 1) (a2 := 9999)), h_2, trivial⟩
        exact .loopX st (show (.ret : VX.Exit) ≠ .normal from by simp)
      · try simp only [if_neg h_2]
        have st := codeH_ok (F := F) (X := X) (c := b46_0) (t := 0) (hs := [(2, .b true), (4, .row [(.val (.string x0.f0)), (.i x0.f1)]), (16, .ret [] [(.one (.val (.bool (m113 x0.f0))))] [] []), (21, .b false), (27, .ret [] [(.one (.val (.bool (m93 x0.f1 1 9999))))] [] []), (32, .b false)]) (σ := h46_0 l0_0 a0 (length p : Int) ) (σ' := ⟨[(8, (.one (.bor l0_0 (map b_si a0)))), (9, (.oi ((length (map b_si a0)) : Int))), (10, (.oi (IntKind.wrap .i64 ((length p : Int) + 1))))], []⟩) (e := .normal) (t' := 37) (hs' := []) (q := [(decide ((length p : Int) < ((length (map b_si a0)) : Int))) = true, 0 ≤ (length p : Int), (map b_si a0)[(Int.toNat (length p : Int))]? = some [(.val (.string x0.f0)), (.i x0.f1)], Ev F X (.call 113 [(.one (.val (.string x0.f0)))] [] [] [(.one (.val (.bool (m113 x0.f0))))]), (!(m113 x0.f0)) = false, Ev F X (.call 93 [(.oi x0.f1), (.oi 1), (.oi 9999)] [] [] [(.one (.val (.bool (m93 x0.f1 1 9999))))]), (!(m93 x0.f1 1 9999)) = false, True]) (by kernel_rfl) ⟨hc, (by omega), (by rw [getElem?_map, Hx0]; rfl), (e113 (a0 := x0.f0)), (nt h_1), (e93 (a0 := x0.f1) (a1 := 1) (a2 := 9999)), (nt h_2), trivial, trivial⟩
        have ih := t46_0 (l0_0 := l0_0) (a0 := a0) hy0 y0 (p ++ [x0])  (by rw [append_assoc]; exact hp0)
        rw [show ((p ++ [x0]).length : Int) = (p.length : Int) + 1 from by simp] at ih
        rw [show (⟨[(8, (.one (.bor l0_0 (map b_si a0)))), (9, (.oi ((length (map b_si a0)) : Int))), (10, (.oi (IntKind.wrap .i64 ((length p : Int) + 1))))], []⟩ : St) = h46_0 l0_0 a0 ((length p : Int) + 1)  from (by unfold h46_0; simp only [hw]; done)] at st
        exact .loopN st ih
/-! loop.example/g00539/impl.WindowFault -/
def m46 (a0 : (List K_si)) : Int :=
  if (decide (((length (map b_si a0)) : Int) > 12)) = true then 2 else
  (match r46_0 a0 a0 0 with | .k0 w0_1 w1_1 => 0 | .k1 => 5 | .k2 => 3)
theorem e46 {l0_0 : Nat} {a0 : (List K_si)} (hy0 : length a0 * 24 ≤ 140737488351232) : Ev F X (.call 46 [(.one (.bor l0_0 (map b_si a0)))] [] [] [(.one (.val (.int .i64 (m46 a0))))]) := by
  unfold m46
  by_cases h0 : (decide (((length (map b_si a0)) : Int) > 12)) = true
  · try simp only [if_pos h0]
    exact callP_ok (ps := []) (os := []) (rs := [(.oi 2)]) (by kernel_rfl) (.f h0 (.h 8 (.b true) .nil))
  · try simp only [if_neg h0]
    cases h1 : r46_0 a0 a0 0 with
    | k0 w0_1 w1_1 =>
      try dsimp only
      have f1 : (⟨[(8, (.one (.bor l0_0 (map b_si a0)))), (9, (.oi ((length (map b_si a0)) : Int))), (10, (.oi 0))], []⟩ : St) = h46_0 l0_0 a0 0  := (by rfl)
      have f2 : Ev F X (.code l46_0 (h46_0 l0_0 a0 0 ) (.exit 0) ⟨[(8, (.one (.bor l0_0 (map b_si a0)))), (9, (.oi ((length (map b_si a0)) : Int))), (10, (.oi w0_1)), (11, (.one (.val (.bool w1_1))))], []⟩) := (by have t : Ev F X (.code l46_0 (h46_0 l0_0 a0 0 ) (ex46_0 (r46_0 a0 a0 0)) (fin46_0 l0_0 a0 (r46_0 a0 a0 0))) := t46_0 (l0_0 := l0_0) (a0 := a0) (by assumption) a0 []  rfl; rw [h1] at t; exact t)
      exact callP_ok (ps := []) (os := []) (rs := [(.oi 0)]) (by kernel_rfl) (.f (nt h0) (.f f1 (.f f2 (.h 8 (.b false) (.h 15 (.loop (h46_0 l0_0 a0 0 ) (.exit 0) ⟨[(8, (.one (.bor l0_0 (map b_si a0)))), (9, (.oi ((length (map b_si a0)) : Int))), (10, (.oi w0_1)), (11, (.one (.val (.bool w1_1))))], []⟩) .nil)))))
    | k1 =>
      try dsimp only
      have f1 : (⟨[(8, (.one (.bor l0_0 (map b_si a0)))), (9, (.oi ((length (map b_si a0)) : Int))), (10, (.oi 0))], []⟩ : St) = h46_0 l0_0 a0 0  := (by rfl)
      have f2 : Ev F X (.code l46_0 (h46_0 l0_0 a0 0 ) .ret ⟨[(2, (.oi 5))], []⟩) := (by have t : Ev F X (.code l46_0 (h46_0 l0_0 a0 0 ) (ex46_0 (r46_0 a0 a0 0)) (fin46_0 l0_0 a0 (r46_0 a0 a0 0))) := t46_0 (l0_0 := l0_0) (a0 := a0) (by assumption) a0 []  rfl; rw [h1] at t; exact t)
      exact callP_ok (ps := []) (os := []) (rs := [(.oi 5)]) (by kernel_rfl) (.f (nt h0) (.f f1 (.f f2 (.h 8 (.b false) (.h 15 (.loop (h46_0 l0_0 a0 0 ) .ret ⟨[(2, (.oi 5))], []⟩) .nil)))))
    | k2 =>
      try dsimp only
      have f1 : (⟨[(8, (.one (.bor l0_0 (map b_si a0)))), (9, (.oi ((length (map b_si a0)) : Int))), (10, (.oi 0))], []⟩ : St) = h46_0 l0_0 a0 0  := (by rfl)
      have f2 : Ev F X (.code l46_0 (h46_0 l0_0 a0 0 ) .ret ⟨[(2, (.oi 3))], []⟩) := (by have t : Ev F X (.code l46_0 (h46_0 l0_0 a0 0 ) (ex46_0 (r46_0 a0 a0 0)) (fin46_0 l0_0 a0 (r46_0 a0 a0 0))) := t46_0 (l0_0 := l0_0) (a0 := a0) (by assumption) a0 []  rfl; rw [h1] at t; exact t)
      exact callP_ok (ps := []) (os := []) (rs := [(.oi 3)]) (by kernel_rfl) (.f (nt h0) (.f f1 (.f f2 (.h 8 (.b false) (.h 15 (.loop (h46_0 l0_0 a0 0 ) .ret ⟨[(2, (.oi 3))], []⟩) .nil)))))
theorem len12_46 (a : List K_si) (h : ¬ ((m46 a) != 0) = true) : length a ≤ 12 := by
  unfold m46 at h
  split at h
  · simp at h
  · rename_i h2
    simp only [decide_eq_true_eq, length_map] at h2
    omega
/-! loop.example/g00539/impl.sizesOk -/
def m71 (a0 : Int) (a1 : Int) : Bool :=
  if (m93 a0 1 12) = true then (m93 a1 0 1000) else
  false
theorem e71 {a0 : Int} {a1 : Int} : Ev F X (.call 71 [(.one (.val (.int .i64 a0))), (.one (.val (.int .i64 a1)))] [] [] [(.one (.val (.bool (m71 a0 a1))))]) := by
  unfold m71
  have f0 : Ev F X (.call 93 [(.oi a0), (.oi 1), (.oi 12)] [] [] [(.one (.val (.bool (m93 a0 1 12))))]) := (e93 (a0 := a0) (a1 := 1) (a2 := 12))
  by_cases h0 : (m93 a0 1 12) = true
  · try simp only [if_pos h0]
    have f3 : Ev F X (.call 93 [(.oi a1), (.oi 0), (.oi 1000)] [] [] [(.one (.val (.bool (m93 a1 0 1000))))]) := (e93 (a0 := a1) (a1 := 0) (a2 := 1000))
    exact callP_ok (ps := []) (os := []) (rs := [(.one (.val (.bool (m93 a1 0 1000))))]) (by kernel_rfl) (.r 5 [] [] f0 (.f h0 (.f h0 (.h 8 (.b true) (.h 10 (.b true) (.r 11 [] [] f3 (.f h0 (.h 13 (.b true) .nil))))))))
  · try simp only [if_neg h0]
    exact callP_ok (ps := []) (os := []) (rs := [(.one (.val (.bool false)))]) (by kernel_rfl) (.r 5 [] [] f0 (.f (nt h0) (.f (nt h0) (.f (nt h0) (.h 8 (.b false) (.h 10 (.b false) (.h 13 (.b false) .nil)))))))
/-! loop.example/g00539/impl.isAmount -/
def m72 (a0 : Int) : Bool :=
  (m93 a0 0 1000000)
theorem e72 {a0 : Int} : Ev F X (.call 72 [(.one (.val (.int .i64 a0)))] [] [] [(.one (.val (.bool (m93 a0 0 1000000))))]) := by
  have f0 : Ev F X (.call 93 [(.oi a0), (.oi 0), (.oi 1000000)] [] [] [(.one (.val (.bool (m93 a0 0 1000000))))]) := (e93 (a0 := a0) (a1 := 0) (a2 := 1000000))
  exact callP_ok (ps := []) (os := []) (rs := [(.one (.val (.bool (m93 a0 0 1000000))))]) (by kernel_rfl) (.r 5 [] [] f0 .nil)
/-! loop.example/g00539/impl.weightAt$1 -/
def m1014800 (a0 : K_si) (a101001 : ByteArray) : Bool :=
  (a0.f0.toList == a101001.toList)
theorem e1014800 {a0 : K_si} {l101000 : Nat} {a101001 : ByteArray} : Ev F X (.call 148 [(.agg [(.val (.string a0.f0)), (.val (.int .i64 a0.f1))]), (.bptr l101000 [(.val (.string a101001))])] [] [] [(.one (.val (.bool (a0.f0.toList == a101001.toList))))]) := by
  exact callP_ok (ps := []) (os := []) (rs := [(.one (.val (.bool (a0.f0.toList == a101001.toList))))]) (by kernel_rfl) .nil
/-! loop 1014700_0 -/
inductive O1014700_0 where
  | k0 (w0 : Int) (w1 : Bool)
  | k1 (w0 : Int)
def r1014700_0 (a0 : (List K_si)) (a2001 : ByteArray) : List K_si → Int → O1014700_0
  | x0 :: y0, i =>
    if (x0.f0.toList == a2001.toList) = true then (O1014700_0.k1 i) else
    (r1014700_0 a0 a2001 y0 (i + 1) )
  | [], i => (O1014700_0.k0 i (decide (i < ((length (map b_si a0)) : Int))))
def h1014700_0 (l0_0 : Nat) (l2000 : Nat) (a0 : (List K_si)) (a2001 : ByteArray) (i : Int)  : St := ⟨[(0, (.one (.bor l0_0 (map b_si a0)))), (1, (.clo 148 [] [(.bptr l2000 [(.val (.string a2001))])])), (7, (.one (.val (.int .i64 ((length (map b_si a0)) : Int))))), (8, (.one (.val (.int .i64 i))))], []⟩
def ex1014700_0 : O1014700_0 → VX.Exit
  | .k0 _ _ => (.exit 0)
  | .k1 _ => .ret
def fin1014700_0 (l0_0 : Nat) (l2000 : Nat) (a0 : (List K_si)) (a2001 : ByteArray) : O1014700_0 → St
  | .k0 w0 w1 => ⟨[(0, (.one (.bor l0_0 (map b_si a0)))), (1, (.clo 148 [] [(.bptr l2000 [(.val (.string a2001))])])), (7, (.one (.val (.int .i64 ((length (map b_si a0)) : Int))))), (8, (.one (.val (.int .i64 w0)))), (9, (.one (.val (.bool w1))))], []⟩
  | .k1 w0 => ⟨[(4, (.one (.val (.int .i64 w0))))], []⟩
theorem t1014700_0 {l0_0 : Nat} {l2000 : Nat} {a0 : (List K_si)} {a2001 : ByteArray} (hy0 : length a0 * 24 ≤ 140737488351232) : ∀ (y0 : List K_si) (p : List K_si) , p ++ y0 = a0 → Ev F X (.code l147_0 (h1014700_0 l0_0 l2000 a0 a2001 (length p : Int) ) (ex1014700_0 (r1014700_0 a0 a2001 y0 (length p : Int) )) (fin1014700_0 l0_0 l2000 a0 a2001 (r1014700_0 a0 a2001 y0 (length p : Int) )))
  | [], p, hp0 => by
    have hc : ¬ (decide ((length p : Int) < ((length (map b_si a0)) : Int))) = true := by
      rw [← hp0]; simp only [length_map, length_set, length_append, length_replicate, length_cons, length_nil, decide_eq_true_eq]; omega
    have st := codeH_ok (F := F) (X := X) (c := b147_0) (t := 0) (hs := [(2, .b false)]) (σ := h1014700_0 l0_0 l2000 a0 a2001 (length p : Int) ) (σ' := fin1014700_0 l0_0 l2000 a0 a2001 (.k0 (length p : Int) (decide ((length p : Int) < ((length (map b_si a0)) : Int))))) (e := (.exit 0)) (t' := 3) (hs' := []) (q := [(decide ((length p : Int) < ((length (map b_si a0)) : Int))) = false]) (by kernel_rfl) ⟨(nt hc), trivial⟩
    exact .loopX st (show ((.exit 0) : VX.Exit) ≠ .normal from by simp)
  | x0 :: y0, p, hp0 => by
    have hc : (decide ((length p : Int) < ((length (map b_si a0)) : Int))) = true := by
      rw [← hp0]; simp only [length_map, length_set, length_append, length_replicate, length_cons, length_nil, decide_eq_true_eq]; omega
    have Hx0 : (a0)[Int.toNat (length p : Int)]? = some x0 := by
      rw [← hp0, Int.toNat_natCast]; simp
    have hlen : length (a0) = length p + length y0 + 1 := by rw [← hp0]; simp; omega
    have hw : IntKind.wrap .i64 ((length p : Int) + 1) = (length p : Int) + 1 := wrap64 (by omega)
    simp only [r1014700_0]
    by_cases h_1 : (x0.f0.toList == a2001.toList) = true
    · try simp only [if_pos h_1]
      have st := codeH_ok (F := F) (X := X) (c := b147_0) (t := 0) (hs := [(2, .b true), (14, .row [(.val (.string x0.f0)), (.i x0.f1)]), (18, .ret [] [(.one (.val (.bool (x0.f0.toList == a2001.toList))))] [] []), (19, .b true)]) (σ := h1014700_0 l0_0 l2000 a0 a2001 (length p : Int) ) (σ' := fin1014700_0 l0_0 l2000 a0 a2001 (.k1 (length p : Int))) (e := .ret) (t' := 24) (hs' := []) (q := [(decide ((length p : Int) < ((length (map b_si a0)) : Int))) = true, 0 ≤ (length p : Int), (map b_si a0)[(Int.toNat (length p : Int))]? = some [(.val (.string x0.f0)), (.i x0.f1)], Ev F X (.call 148 [(.agg [(.val (.string x0.f0)), (.i x0.f1)]), (.bptr (l2000 + 1) [(.val (.string a2001))])] [] [] [(.one (.val (.bool (x0.f0.toList == a2001.toList))))]), (x0.f0.toList == a2001.toList) = true]) (by kernel_rfl) ⟨hc, (by omega), (by rw [getElem?_map, Hx0]; rfl), (e1014800 (a0 := x0) (a101001 := a2001)), h_1, trivial⟩
      exact .loopX st (show (.ret : VX.Exit) ≠ .normal from by simp)
    · try simp only [if_neg h_1]
      have st := codeH_ok (F := F) (X := X) (c := b147_0) (t := 0) (hs := [(2, .b true), (14, .row [(.val (.string x0.f0)), (.i x0.f1)]), (18, .ret [] [(.one (.val (.bool (x0.f0.toList == a2001.toList))))] [] []), (19, .b false)]) (σ := h1014700_0 l0_0 l2000 a0 a2001 (length p : Int) ) (σ' := ⟨[(0, (.one (.bor l0_0 (map b_si a0)))), (1, (.clo 148 [] [(.bptr l2000 [(.val (.string a2001))])])), (7, (.oi ((length (map b_si a0)) : Int))), (8, (.oi (IntKind.wrap .i64 ((length p : Int) + 1))))], []⟩) (e := .normal) (t' := 24) (hs' := []) (q := [(decide ((length p : Int) < ((length (map b_si a0)) : Int))) = true, 0 ≤ (length p : Int), (map b_si a0)[(Int.toNat (length p : Int))]? = some [(.val (.string x0.f0)), (.i x0.f1)], Ev F X (.call 148 [(.agg [(.val (.string x0.f0)), (.i x0.f1)]), (.bptr (l2000 + 1) [(.val (.string a2001))])] [] [] [(.one (.val (.bool (x0.f0.toList == a2001.toList))))]), (x0.f0.toList == a2001.toList) = false, True]) (by kernel_rfl) ⟨hc, (by omega), (by rw [getElem?_map, Hx0]; rfl), (e1014800 (a0 := x0) (a101001 := a2001)), (nt h_1), trivial, trivial⟩
      have ih := t1014700_0 (l0_0 := l0_0) (l2000 := l2000) (a0 := a0) (a2001 := a2001) hy0 y0 (p ++ [x0])  (by rw [append_assoc]; exact hp0)
      rw [show ((p ++ [x0]).length : Int) = (p.length : Int) + 1 from by simp] at ih
      rw [show (⟨[(0, (.one (.bor l0_0 (map b_si a0)))), (1, (.clo 148 [] [(.bptr l2000 [(.val (.string a2001))])])), (7, (.oi ((length (map b_si a0)) : Int))), (8, (.oi (IntKind.wrap .i64 ((length p : Int) + 1))))], []⟩ : St) = h1014700_0 l0_0 l2000 a0 a2001 ((length p : Int) + 1)  from (by unfold h1014700_0; simp only [hw]; done)] at st
      exact .loopN st ih
/-! slices.IndexFunc[[]loop.example/g00539/impl.Weight,loop.example/g00539/impl.Weight] -/
def m1014700 (a0 : (List K_si)) (a2001 : ByteArray) : Int :=
  (match r1014700_0 a0 a2001 a0 0 with | .k0 w0_0 w1_0 => (-1) | .k1 w0_0 => w0_0)
theorem e1014700 {l0_0 : Nat} {a0 : (List K_si)} {l2000 : Nat} {a2001 : ByteArray} (hy0 : length a0 * 24 ≤ 140737488351232) : Ev F X (.call 147 [(.one (.bor l0_0 (map b_si a0))), (.clo 148 [] [(.bptr l2000 [(.val (.string a2001))])])] [] [] [(.one (.val (.int .i64 (m1014700 a0 a2001))))]) := by
  unfold m1014700
  cases h0 : r1014700_0 a0 a2001 a0 0 with
  | k0 w0_0 w1_0 =>
    try dsimp only
    have f0 : (⟨[(0, (.one (.bor l0_0 (map b_si a0)))), (1, (.clo 148 [] [(.bptr l2000 [(.val (.string a2001))])])), (7, (.oi ((length (map b_si a0)) : Int))), (8, (.oi 0))], []⟩ : St) = h1014700_0 l0_0 l2000 a0 a2001 0  := (by rfl)
    have f1 : Ev F X (.code l147_0 (h1014700_0 l0_0 l2000 a0 a2001 0 ) (.exit 0) ⟨[(0, (.one (.bor l0_0 (map b_si a0)))), (1, (.clo 148 [] [(.bptr l2000 [(.val (.string a2001))])])), (7, (.oi ((length (map b_si a0)) : Int))), (8, (.oi w0_0)), (9, (.one (.val (.bool w1_0))))], []⟩) := (by have t : Ev F X (.code l147_0 (h1014700_0 l0_0 l2000 a0 a2001 0 ) (ex1014700_0 (r1014700_0 a0 a2001 a0 0)) (fin1014700_0 l0_0 l2000 a0 a2001 (r1014700_0 a0 a2001 a0 0))) := t1014700_0 (l0_0 := l0_0) (l2000 := l2000) (a0 := a0) (a2001 := a2001) (by assumption) a0 []  rfl; rw [h0] at t; exact t)
    exact callP_ok (ps := []) (os := []) (rs := [(.oi (-1))]) (by kernel_rfl) (.f f0 (.f f1 (.h 8 (.loop (h1014700_0 l0_0 l2000 a0 a2001 0 ) (.exit 0) ⟨[(0, (.one (.bor l0_0 (map b_si a0)))), (1, (.clo 148 [] [(.bptr l2000 [(.val (.string a2001))])])), (7, (.oi ((length (map b_si a0)) : Int))), (8, (.oi w0_0)), (9, (.one (.val (.bool w1_0))))], []⟩) .nil)))
  | k1 w0_0 =>
    try dsimp only
    have f0 : (⟨[(0, (.one (.bor l0_0 (map b_si a0)))), (1, (.clo 148 [] [(.bptr l2000 [(.val (.string a2001))])])), (7, (.oi ((length (map b_si a0)) : Int))), (8, (.oi 0))], []⟩ : St) = h1014700_0 l0_0 l2000 a0 a2001 0  := (by rfl)
    have f1 : Ev F X (.code l147_0 (h1014700_0 l0_0 l2000 a0 a2001 0 ) .ret ⟨[(4, (.oi w0_0))], []⟩) := (by have t : Ev F X (.code l147_0 (h1014700_0 l0_0 l2000 a0 a2001 0 ) (ex1014700_0 (r1014700_0 a0 a2001 a0 0)) (fin1014700_0 l0_0 l2000 a0 a2001 (r1014700_0 a0 a2001 a0 0))) := t1014700_0 (l0_0 := l0_0) (l2000 := l2000) (a0 := a0) (a2001 := a2001) (by assumption) a0 []  rfl; rw [h0] at t; exact t)
    exact callP_ok (ps := []) (os := []) (rs := [(.oi w0_0)]) (by kernel_rfl) (.f f0 (.f f1 (.h 8 (.loop (h1014700_0 l0_0 l2000 a0 a2001 0 ) .ret ⟨[(4, (.oi w0_0))], []⟩) .nil)))
theorem ixr1014700_0 (a0 : (List K_si)) (a2001 : ByteArray) : ∀ (l : List K_si) (i : Int), (∃ (w0 : _) (w1 : _), r1014700_0 a0 a2001 l i = .k0 w0 w1) ∨ (∃ w, r1014700_0 a0 a2001 l i = .k1 w ∧ i ≤ w ∧ w < i + l.length)
  | [], i => .inl ⟨i, (decide (i < ((length (map b_si a0)) : Int))), rfl⟩
  | x :: l, i => by
    have ih := ixr1014700_0 a0 a2001 l (i + 1)
    simp only [r1014700_0]
    (repeat' split)
    all_goals first
      | exact .inr ⟨i, rfl, by omega, by simp only [length_cons]; omega⟩
      | (rcases ih with ⟨w0, w1, h⟩ | ⟨w, h, h1, h2⟩
         · exact .inl ⟨w0, w1, h⟩
         · exact .inr ⟨w, h, by omega, by simp only [length_cons]; omega⟩)
theorem ix1014700 (a0 : (List K_si)) (a2001 : ByteArray) : -1 ≤ m1014700 a0 a2001 ∧ m1014700 a0 a2001 < (length a0 : Int) := by
  unfold m1014700
  rcases ixr1014700_0 a0 a2001 a0 0 with ⟨w0, w1, h⟩ | ⟨w, h, h1, h2⟩ <;> simp only [h] <;> omega
/-! loop.example/g00539/impl.weightAt -/
def m94 (a0 : (List K_si)) (a1 : ByteArray) : Int :=
  (m1014700 a0 a1)
theorem e94 {l0_0 : Nat} {a0 : (List K_si)} {a1 : ByteArray} (hy0 : length a0 * 24 ≤ 140737488351232) : Ev F X (.call 94 [(.one (.bor l0_0 (map b_si a0))), (.one (.val (.string a1)))] [] [] [(.one (.val (.int .i64 (m1014700 a0 a1))))]) := by
  have f0 : fullL [(.val (.string a1))] = true := (by trivial)
  have f1 : Ev F X (.call 147 [(.one (.bor (l0_0 + 1) (map b_si a0))), (.clo 148 [] [(.bptr 0 [(.val (.string a1))])])] [] [] [(.oi (m1014700 a0 a1))]) := (e1014700 (a0 := a0) (a2001 := a1) (by with_reducible assumption))
  exact callP_ok (ps := []) (os := []) (rs := [(.oi (m1014700 a0 a1))]) (by kernel_rfl) (.f f0 (.r 9 [] [] f1 .nil))
/-! loop 74_0 -/
inductive O74_0 where
  | k0 (w0 : Int) (w1 : Bool)
  | k1
def r74_0 (a0 : (List K_si)) : List K_si → Int → O74_0
  | x0 :: y0, i =>
    if (!(m113 x0.f0)) = true then (O74_0.k1) else
    if (!(m93 x0.f1 0 1000000)) = true then (O74_0.k1) else
      if (decide ((m1014700 (take (Int.toNat i) a0) x0.f0) ≥ 0)) = true then (O74_0.k1) else
        (r74_0 a0 y0 (i + 1) )
  | [], i => (O74_0.k0 i (decide (i < ((length (map b_si a0)) : Int))))
def h74_0 (l0_0 : Nat) (a0 : (List K_si)) (a1 : Int) (i : Int)  : St := ⟨[(0, (.one (.bor l0_0 (map b_si a0)))), (1, (.one (.val (.int .i64 a1)))), (7, (.one (.bor l0_0 (map b_si a0)))), (8, (.one (.val (.int .i64 ((length (map b_si a0)) : Int))))), (9, (.one (.val (.int .i64 i))))], []⟩
def ex74_0 : O74_0 → VX.Exit
  | .k0 _ _ => (.exit 0)
  | .k1 => .ret
def fin74_0 (l0_0 : Nat) (a0 : (List K_si)) (a1 : Int) : O74_0 → St
  | .k0 w0 w1 => ⟨[(0, (.one (.bor l0_0 (map b_si a0)))), (1, (.one (.val (.int .i64 a1)))), (7, (.one (.bor l0_0 (map b_si a0)))), (8, (.one (.val (.int .i64 ((length (map b_si a0)) : Int))))), (9, (.one (.val (.int .i64 w0)))), (10, (.one (.val (.bool w1))))], []⟩
  | .k1 => ⟨[(4, (.one (.val (.bool false))))], []⟩
theorem t74_0 {l0_0 : Nat} {a0 : (List K_si)} {a1 : Int} (hy0 : length a0 * 24 ≤ 140737488351232) : ∀ (y0 : List K_si) (p : List K_si) , p ++ y0 = a0 → Ev F X (.code l74_0 (h74_0 l0_0 a0 a1 (length p : Int) ) (ex74_0 (r74_0 a0 y0 (length p : Int) )) (fin74_0 l0_0 a0 a1 (r74_0 a0 y0 (length p : Int) )))
  | [], p, hp0 => by
    have hc : ¬ (decide ((length p : Int) < ((length (map b_si a0)) : Int))) = true := by
      rw [← hp0]; simp only [length_map, length_set, length_append, length_replicate, length_cons, length_nil, decide_eq_true_eq]; omega
    have st := codeH_ok (F := F) (X := X) (c := b74_0) (t := 0) (hs := [(2, .b false)]) (σ := h74_0 l0_0 a0 a1 (length p : Int) ) (σ' := fin74_0 l0_0 a0 a1 (.k0 (length p : Int) (decide ((length p : Int) < ((length (map b_si a0)) : Int))))) (e := (.exit 0)) (t' := 3) (hs' := []) (q := [(decide ((length p : Int) < ((length (map b_si a0)) : Int))) = false]) (by kernel_rfl) ⟨(nt hc), trivial⟩
    exact .loopX st (show ((.exit 0) : VX.Exit) ≠ .normal from by simp)
  | x0 :: y0, p, hp0 => by
    have hc : (decide ((length p : Int) < ((length (map b_si a0)) : Int))) = true := by
      rw [← hp0]; simp only [length_map, length_set, length_append, length_replicate, length_cons, length_nil, decide_eq_true_eq]; omega
    have Hx0 : (a0)[Int.toNat (length p : Int)]? = some x0 := by
      rw [← hp0, Int.toNat_natCast]; simp
    have hlen : length (a0) = length p + length y0 + 1 := by rw [← hp0]; simp; omega
    have hw : IntKind.wrap .i64 ((length p : Int) + 1) = (length p : Int) + 1 := wrap64 (by omega)
    simp only [r74_0]
    by_cases h_1 : (!(m113 x0.f0)) = true
    · try simp only [if_pos h_1]
      have st := codeH_ok (F := F) (X := X) (c := b74_0) (t := 0) (hs := [(2, .b true), (6, .row [(.val (.string x0.f0)), (.i x0.f1)]), (20, .ret [] [(.one (.val (.bool (m113 x0.f0))))] [] []), (25, .b true), (27, .b true), (29, .b true), (31, .b true), (34, .b true)]) (σ := h74_0 l0_0 a0 a1 (length p : Int) ) (σ' := fin74_0 l0_0 a0 a1 (.k1)) (e := .ret) (t' := 56) (hs' := []) (q := [(decide ((length p : Int) < ((length (map b_si a0)) : Int))) = true, 0 ≤ (length p : Int), (map b_si a0)[(Int.toNat (length p : Int))]? = some [(.val (.string x0.f0)), (.i x0.f1)], Ev F X (.call 113 [(.one (.val (.string x0.f0)))] [] [] [(.one (.val (.bool (m113 x0.f0))))]), (!(m113 x0.f0)) = true, (!(m113 x0.f0)) = true, (!(m113 x0.f0)) = true, (!(m113 x0.f0)) = true, (!(m113 x0.f0)) = true]) (by kernel_rfl) ⟨hc, (by omega), (by rw [getElem?_map, Hx0]; rfl), (e113 (a0 := x0.f0)), h_1, h_1, h_1, h_1, h_1, trivial⟩
      exact .loopX st (show (.ret : VX.Exit) ≠ .normal from by simp)
    · try simp only [if_neg h_1]
      by_cases h_2 : (!(m93 x0.f1 0 1000000)) = true
      · try simp only [if_pos h_2]
        have st := codeH_ok (F := F) (X := X) (c := b74_0) (t := 0) (hs := [(2, .b true), (6, .row [(.val (.string x0.f0)), (.i x0.f1)]), (20, .ret [] [(.one (.val (.bool (m113 x0.f0))))] [] []), (25, .b false), (27, .b false), (29, .b false), (30, .ret [] [(.one (.val (.bool (m93 x0.f1 0 1000000))))] [] []), (31, .b false), (34, .b false), (37, .b true), (39, .b true), (41, .b true), (43, .b true), (45, .b true), (47, .b true), (49, .b true), (52, .b true)]) (σ := h74_0 l0_0 a0 a1 (length p : Int) ) (σ' := fin74_0 l0_0 a0 a1 (.k1)) (e := .ret) (t' := 56) (hs' := []) (q := [(decide ((length p : Int) < ((length (map b_si a0)) : Int))) = true, 0 ≤ (length p : Int), (map b_si a0)[(Int.toNat (length p : Int))]? = some [(.val (.string x0.f0)), (.i x0.f1)], Ev F X (.call 113 [(.one (.val (.string x0.f0)))] [] [] [(.one (.val (.bool (m113 x0.f0))))]), (!(m113 x0.f0)) = false, (!(m113 x0.f0)) = false, (!(m113 x0.f0)) = false, Ev F X (.call 72 [(.oi x0.f1)] [] [] [(.one (.val (.bool (m93 x0.f1 0 1000000))))]), (!(m113 x0.f0)) = false, (!(m113 x0.f0)) = false, (!(m93 x0.f1 0 1000000)) = true, (!(m93 x0.f1 0 1000000)) = true, (!(m93 x0.f1 0 1000000)) = true, (!(m93 x0.f1 0 1000000)) = true, (!(m93 x0.f1 0 1000000)) = true, (!(m93 x0.f1 0 1000000)) = true, (!(m93 x0.f1 0 1000000)) = true, (!(m93 x0.f1 0 1000000)) = true]) (by kernel_rfl) ⟨hc, (by omega), (by rw [getElem?_map, Hx0]; rfl), (e113 (a0 := x0.f0)), (nt h_1), (nt h_1), (nt h_1), (e72 (a0 := x0.f1)), (nt h_1), (nt h_1), h_2, h_2, h_2, h_2, h_2, h_2, h_2, h_2, trivial⟩
        exact .loopX st (show (.ret : VX.Exit) ≠ .normal from by simp)
      · try simp only [if_neg h_2]
        by_cases h_3 : (decide ((m1014700 (take (Int.toNat (length p : Int)) a0) x0.f0) ≥ 0)) = true
        · try simp only [if_pos h_3]
          have st := codeH_ok (F := F) (X := X) (c := b74_0) (t := 0) (hs := [(2, .b true), (6, .row [(.val (.string x0.f0)), (.i x0.f1)]), (20, .ret [] [(.one (.val (.bool (m113 x0.f0))))] [] []), (25, .b false), (27, .b false), (29, .b false), (30, .ret [] [(.one (.val (.bool (m93 x0.f1 0 1000000))))] [] []), (31, .b false), (34, .b false), (37, .b false), (39, .b false), (41, .b false), (43, .b false), (45, .b false), (47, .b false), (48, .ret [] [(.oi (m1014700 (take (Int.toNat (length p : Int)) a0) x0.f0))] [] []), (49, .b false), (52, .b false), (53, .b true)]) (σ := h74_0 l0_0 a0 a1 (length p : Int) ) (σ' := fin74_0 l0_0 a0 a1 (.k1)) (e := .ret) (t' := 56) (hs' := []) (q := [(decide ((length p : Int) < ((length (map b_si a0)) : Int))) = true, 0 ≤ (length p : Int), (map b_si a0)[(Int.toNat (length p : Int))]? = some [(.val (.string x0.f0)), (.i x0.f1)], Ev F X (.call 113 [(.one (.val (.string x0.f0)))] [] [] [(.one (.val (.bool (m113 x0.f0))))]), (!(m113 x0.f0)) = false, (!(m113 x0.f0)) = false, (!(m113 x0.f0)) = false, Ev F X (.call 72 [(.oi x0.f1)] [] [] [(.one (.val (.bool (m93 x0.f1 0 1000000))))]), (!(m113 x0.f0)) = false, (!(m113 x0.f0)) = false, (!(m93 x0.f1 0 1000000)) = false, (!(m93 x0.f1 0 1000000)) = false, (!(m93 x0.f1 0 1000000)) = false, (0 ≤ (0 : Int) ∧ (0 : Int) ≤ (length p : Int) ∧ (length p : Int) ≤ ((length (map b_si a0)) : Int)) ∧ ∀ r ∈ ((map b_si a0) : List (List B)), r.length = 2, (!(m93 x0.f1 0 1000000)) = false, (!(m93 x0.f1 0 1000000)) = false, (!(m93 x0.f1 0 1000000)) = false, Ev F X (.call 94 [(.one (.bor (l0_0 + 1) (take (Int.toNat (length p : Int) - Int.toNat 0) (drop 0 (map b_si a0))))), (.one (.val (.string x0.f0)))] [] [] [(.oi (m1014700 (take (Int.toNat (length p : Int)) a0) x0.f0))]), (!(m93 x0.f1 0 1000000)) = false, (!(m93 x0.f1 0 1000000)) = false, (decide ((m1014700 (take (Int.toNat (length p : Int)) a0) x0.f0) ≥ 0)) = true]) (by kernel_rfl) ⟨hc, (by omega), (by rw [getElem?_map, Hx0]; rfl), (e113 (a0 := x0.f0)), (nt h_1), (nt h_1), (nt h_1), (e72 (a0 := x0.f1)), (nt h_1), (nt h_1), (nt h_2), (nt h_2), (nt h_2), (by refine ⟨?_, lenB_si _⟩; simp only [length_map, length_set, length_append, length_replicate, length_cons, length_nil]; omega), (nt h_2), (nt h_2), (nt h_2), (by rw [show (take (Int.toNat (length p : Int) - Int.toNat 0) (drop 0 (map b_si a0))) = (map b_si (take (Int.toNat (length p : Int)) a0)) from by first | rfl | (simp [map_take, map_drop, ol85, ol86, ol27_0, ol27_1, ol27_2, ol28_0, ol28_1, ol28_2]; done) | (simp [*, map_take, map_drop, ol85, ol86, ol27_0, ol27_1, ol27_2, ol28_0, ol28_1, ol28_2]; done)]; exact (e94 (a0 := (take (Int.toNat (length p : Int)) a0)) (a1 := x0.f0) (by simp only [length_take]; omega))), (nt h_2), (nt h_2), h_3, trivial⟩
          exact .loopX st (show (.ret : VX.Exit) ≠ .normal from by simp)
        · try simp only [if_neg h_3]
          have st := codeH_ok (F := F) (X := X) (c := b74_0) (t := 0) (hs := [(2, .b true), (6, .row [(.val (.string x0.f0)), (.i x0.f1)]), (20, .ret [] [(.one (.val (.bool (m113 x0.f0))))] [] []), (25, .b false), (27, .b false), (29, .b false), (30, .ret [] [(.one (.val (.bool (m93 x0.f1 0 1000000))))] [] []), (31, .b false), (34, .b false), (37, .b false), (39, .b false), (41, .b false), (43, .b false), (45, .b false), (47, .b false), (48, .ret [] [(.oi (m1014700 (take (Int.toNat (length p : Int)) a0) x0.f0))] [] []), (49, .b false), (52, .b false), (53, .b false)]) (σ := h74_0 l0_0 a0 a1 (length p : Int) ) (σ' := ⟨[(0, (.one (.bor l0_0 (map b_si a0)))), (1, (.oi a1)), (7, (.one (.bor l0_0 (map b_si a0)))), (8, (.oi ((length (map b_si a0)) : Int))), (9, (.oi (IntKind.wrap .i64 ((length p : Int) + 1))))], []⟩) (e := .normal) (t' := 58) (hs' := []) (q := [(decide ((length p : Int) < ((length (map b_si a0)) : Int))) = true, 0 ≤ (length p : Int), (map b_si a0)[(Int.toNat (length p : Int))]? = some [(.val (.string x0.f0)), (.i x0.f1)], Ev F X (.call 113 [(.one (.val (.string x0.f0)))] [] [] [(.one (.val (.bool (m113 x0.f0))))]), (!(m113 x0.f0)) = false, (!(m113 x0.f0)) = false, (!(m113 x0.f0)) = false, Ev F X (.call 72 [(.oi x0.f1)] [] [] [(.one (.val (.bool (m93 x0.f1 0 1000000))))]), (!(m113 x0.f0)) = false, (!(m113 x0.f0)) = false, (!(m93 x0.f1 0 1000000)) = false, (!(m93 x0.f1 0 1000000)) = false, (!(m93 x0.f1 0 1000000)) = false, (0 ≤ (0 : Int) ∧ (0 : Int) ≤ (length p : Int) ∧ (length p : Int) ≤ ((length (map b_si a0)) : Int)) ∧ ∀ r ∈ ((map b_si a0) : List (List B)), r.length = 2, (!(m93 x0.f1 0 1000000)) = false, (!(m93 x0.f1 0 1000000)) = false, (!(m93 x0.f1 0 1000000)) = false, Ev F X (.call 94 [(.one (.bor (l0_0 + 1) (take (Int.toNat (length p : Int) - Int.toNat 0) (drop 0 (map b_si a0))))), (.one (.val (.string x0.f0)))] [] [] [(.oi (m1014700 (take (Int.toNat (length p : Int)) a0) x0.f0))]), (!(m93 x0.f1 0 1000000)) = false, (!(m93 x0.f1 0 1000000)) = false, (decide ((m1014700 (take (Int.toNat (length p : Int)) a0) x0.f0) ≥ 0)) = false, True]) (by kernel_rfl) ⟨hc, (by omega), (by rw [getElem?_map, Hx0]; rfl), (e113 (a0 := x0.f0)), (nt h_1), (nt h_1), (nt h_1), (e72 (a0 := x0.f1)), (nt h_1), (nt h_1), (nt h_2), (nt h_2), (nt h_2), (by refine ⟨?_, lenB_si _⟩; simp only [length_map, length_set, length_append, length_replicate, length_cons, length_nil]; omega), (nt h_2), (nt h_2), (nt h_2), (by rw [show (take (Int.toNat (length p : Int) - Int.toNat 0) (drop 0 (map b_si a0))) = (map b_si (take (Int.toNat (length p : Int)) a0)) from by first | rfl | (simp [map_take, map_drop, ol85, ol86, ol27_0, ol27_1, ol27_2, ol28_0, ol28_1, ol28_2]; done) | (simp [*, map_take, map_drop, ol85, ol86, ol27_0, ol27_1, ol27_2, ol28_0, ol28_1, ol28_2]; done)]; exact (e94 (a0 := (take (Int.toNat (length p : Int)) a0)) (a1 := x0.f0) (by simp only [length_take]; omega))), (nt h_2), (nt h_2), (nt h_3), trivial, trivial⟩
          have ih := t74_0 (l0_0 := l0_0) (a0 := a0) (a1 := a1) hy0 y0 (p ++ [x0])  (by rw [append_assoc]; exact hp0)
          rw [show ((p ++ [x0]).length : Int) = (p.length : Int) + 1 from by simp] at ih
          rw [show (⟨[(0, (.one (.bor l0_0 (map b_si a0)))), (1, (.oi a1)), (7, (.one (.bor l0_0 (map b_si a0)))), (8, (.oi ((length (map b_si a0)) : Int))), (9, (.oi (IntKind.wrap .i64 ((length p : Int) + 1))))], []⟩ : St) = h74_0 l0_0 a0 a1 ((length p : Int) + 1)  from (by unfold h74_0; simp only [hw]; done)] at st
          exact .loopN st ih
/-! loop.example/g00539/impl.owedOk -/
def m74 (a0 : (List K_si)) (a1 : Int) : Bool :=
  (match r74_0 a0 a0 0 with | .k0 w0_0 w1_0 => (decide (((length (map b_si a0)) : Int) ≤ a1)) | .k1 => false)
theorem e74 {l0_0 : Nat} {a0 : (List K_si)} {a1 : Int} (hy0 : length a0 * 24 ≤ 140737488351232) : Ev F X (.call 74 [(.one (.bor l0_0 (map b_si a0))), (.one (.val (.int .i64 a1)))] [] [] [(.one (.val (.bool (m74 a0 a1))))]) := by
  unfold m74
  cases h0 : r74_0 a0 a0 0 with
  | k0 w0_0 w1_0 =>
    try dsimp only
    have f0 : (⟨[(0, (.one (.bor l0_0 (map b_si a0)))), (1, (.oi a1)), (7, (.one (.bor l0_0 (map b_si a0)))), (8, (.oi ((length (map b_si a0)) : Int))), (9, (.oi 0))], []⟩ : St) = h74_0 l0_0 a0 a1 0  := (by rfl)
    have f1 : Ev F X (.code l74_0 (h74_0 l0_0 a0 a1 0 ) (.exit 0) ⟨[(0, (.one (.bor l0_0 (map b_si a0)))), (1, (.oi a1)), (7, (.one (.bor l0_0 (map b_si a0)))), (8, (.oi ((length (map b_si a0)) : Int))), (9, (.oi w0_0)), (10, (.one (.val (.bool w1_0))))], []⟩) := (by have t : Ev F X (.code l74_0 (h74_0 l0_0 a0 a1 0 ) (ex74_0 (r74_0 a0 a0 0)) (fin74_0 l0_0 a0 a1 (r74_0 a0 a0 0))) := t74_0 (l0_0 := l0_0) (a0 := a0) (a1 := a1) (by assumption) a0 []  rfl; rw [h0] at t; exact t)
    exact callP_ok (ps := []) (os := []) (rs := [(.one (.val (.bool (decide (((length (map b_si a0)) : Int) ≤ a1)))))]) (by kernel_rfl) (.f f0 (.f f1 (.h 8 (.loop (h74_0 l0_0 a0 a1 0 ) (.exit 0) ⟨[(0, (.one (.bor l0_0 (map b_si a0)))), (1, (.oi a1)), (7, (.one (.bor l0_0 (map b_si a0)))), (8, (.oi ((length (map b_si a0)) : Int))), (9, (.oi w0_0)), (10, (.one (.val (.bool w1_0))))], []⟩) .nil)))
  | k1 =>
    try dsimp only
    have f0 : (⟨[(0, (.one (.bor l0_0 (map b_si a0)))), (1, (.oi a1)), (7, (.one (.bor l0_0 (map b_si a0)))), (8, (.oi ((length (map b_si a0)) : Int))), (9, (.oi 0))], []⟩ : St) = h74_0 l0_0 a0 a1 0  := (by rfl)
    have f1 : Ev F X (.code l74_0 (h74_0 l0_0 a0 a1 0 ) .ret ⟨[(4, (.one (.val (.bool false))))], []⟩) := (by have t : Ev F X (.code l74_0 (h74_0 l0_0 a0 a1 0 ) (ex74_0 (r74_0 a0 a0 0)) (fin74_0 l0_0 a0 a1 (r74_0 a0 a0 0))) := t74_0 (l0_0 := l0_0) (a0 := a0) (a1 := a1) (by assumption) a0 []  rfl; rw [h0] at t; exact t)
    exact callP_ok (ps := []) (os := []) (rs := [(.one (.val (.bool false)))]) (by kernel_rfl) (.f f0 (.f f1 (.h 8 (.loop (h74_0 l0_0 a0 a1 0 ) .ret ⟨[(4, (.one (.val (.bool false))))], []⟩) .nil)))
/-! loop 75_0 -/
inductive O75_0 where
  | k0 (w0 : Int) (w1 : Int) (w2 : Bool)
def r75_0 (a0 : (List K_si)) : List K_si → Int → Int → O75_0
  | x0 :: y0, i, v0 =>
    (r75_0 a0 y0 (i + 1) (IntKind.wrap .i64 (v0 + x0.f1)))
  | [], i, v0 => (O75_0.k0 v0 i (decide (i < ((length (map b_si a0)) : Int))))
def h75_0 (l0_0 : Nat) (a0 : (List K_si)) (i : Int) (v0 : Int) : St := ⟨[(3, (.one (.val (.int .i64 v0)))), (6, (.one (.bor l0_0 (map b_si a0)))), (7, (.one (.val (.int .i64 ((length (map b_si a0)) : Int))))), (8, (.one (.val (.int .i64 i))))], []⟩
def ex75_0 : O75_0 → VX.Exit
  | .k0 _ _ _ => (.exit 0)
def fin75_0 (l0_0 : Nat) (a0 : (List K_si)) : O75_0 → St
  | .k0 w0 w1 w2 => ⟨[(3, (.one (.val (.int .i64 w0)))), (6, (.one (.bor l0_0 (map b_si a0)))), (7, (.one (.val (.int .i64 ((length (map b_si a0)) : Int))))), (8, (.one (.val (.int .i64 w1)))), (9, (.one (.val (.bool w2))))], []⟩
theorem t75_0 {l0_0 : Nat} {a0 : (List K_si)} (hy0 : length a0 * 24 ≤ 140737488351232) : ∀ (y0 : List K_si) (p : List K_si) (v0 : Int), p ++ y0 = a0 → Ev F X (.code l75_0 (h75_0 l0_0 a0 (length p : Int) v0) (ex75_0 (r75_0 a0 y0 (length p : Int) v0)) (fin75_0 l0_0 a0 (r75_0 a0 y0 (length p : Int) v0)))
  | [], p, v0, hp0 => by
    have hc : ¬ (decide ((length p : Int) < ((length (map b_si a0)) : Int))) = true := by
      rw [← hp0]; simp only [length_map, length_set, length_append, length_replicate, length_cons, length_nil, decide_eq_true_eq]; omega
    have st := codeH_ok (F := F) (X := X) (c := b75_0) (t := 0) (hs := [(2, .b false)]) (σ := h75_0 l0_0 a0 (length p : Int) v0) (σ' := fin75_0 l0_0 a0 (.k0 v0 (length p : Int) (decide ((length p : Int) < ((length (map b_si a0)) : Int))))) (e := (.exit 0)) (t' := 3) (hs' := []) (q := [(decide ((length p : Int) < ((length (map b_si a0)) : Int))) = false]) (by kernel_rfl) ⟨(nt hc), trivial⟩
    exact .loopX st (show ((.exit 0) : VX.Exit) ≠ .normal from by simp)
  | x0 :: y0, p, v0, hp0 => by
    have hc : (decide ((length p : Int) < ((length (map b_si a0)) : Int))) = true := by
      rw [← hp0]; simp only [length_map, length_set, length_append, length_replicate, length_cons, length_nil, decide_eq_true_eq]; omega
    have Hx0 : (a0)[Int.toNat (length p : Int)]? = some x0 := by
      rw [← hp0, Int.toNat_natCast]; simp
    have hlen : length (a0) = length p + length y0 + 1 := by rw [← hp0]; simp; omega
    have hw : IntKind.wrap .i64 ((length p : Int) + 1) = (length p : Int) + 1 := wrap64 (by omega)
    simp only [r75_0]
    have st := codeH_ok (F := F) (X := X) (c := b75_0) (t := 0) (hs := [(2, .b true), (4, .row [(.val (.string x0.f0)), (.i x0.f1)])]) (σ := h75_0 l0_0 a0 (length p : Int) v0) (σ' := ⟨[(3, (.oi (IntKind.wrap .i64 (v0 + x0.f1)))), (6, (.one (.bor l0_0 (map b_si a0)))), (7, (.oi ((length (map b_si a0)) : Int))), (8, (.oi (IntKind.wrap .i64 ((length p : Int) + 1))))], []⟩) (e := .normal) (t' := 25) (hs' := []) (q := [(decide ((length p : Int) < ((length (map b_si a0)) : Int))) = true, 0 ≤ (length p : Int), (map b_si a0)[(Int.toNat (length p : Int))]? = some [(.val (.string x0.f0)), (.i x0.f1)], True, True]) (by kernel_rfl) ⟨hc, (by omega), (by rw [getElem?_map, Hx0]; rfl), trivial, trivial, trivial⟩
    have ih := t75_0 (l0_0 := l0_0) (a0 := a0) hy0 y0 (p ++ [x0]) (IntKind.wrap .i64 (v0 + x0.f1)) (by rw [append_assoc]; exact hp0)
    rw [show ((p ++ [x0]).length : Int) = (p.length : Int) + 1 from by simp] at ih
    rw [show (⟨[(3, (.oi (IntKind.wrap .i64 (v0 + x0.f1)))), (6, (.one (.bor l0_0 (map b_si a0)))), (7, (.oi ((length (map b_si a0)) : Int))), (8, (.oi (IntKind.wrap .i64 ((length p : Int) + 1))))], []⟩ : St) = h75_0 l0_0 a0 ((length p : Int) + 1) (IntKind.wrap .i64 (v0 + x0.f1)) from (by unfold h75_0; simp only [hw]; done)] at st
    exact .loopN st ih
/-! loop.example/g00539/impl.amounts -/
def m75 (a0 : (List K_si)) : Int :=
  (match r75_0 a0 a0 0 0 with | .k0 w0_0 w1_0 w2_0 => w0_0)
theorem e75 {l0_0 : Nat} {a0 : (List K_si)} (hy0 : length a0 * 24 ≤ 140737488351232) : Ev F X (.call 75 [(.one (.bor l0_0 (map b_si a0)))] [] [] [(.one (.val (.int .i64 (m75 a0))))]) := by
  unfold m75
  cases h0 : r75_0 a0 a0 0 0 with
  | k0 w0_0 w1_0 w2_0 =>
    try dsimp only
    have f0 : (⟨[(3, (.oi 0)), (6, (.one (.bor l0_0 (map b_si a0)))), (7, (.oi ((length (map b_si a0)) : Int))), (8, (.oi 0))], []⟩ : St) = h75_0 l0_0 a0 0 0 := (by rfl)
    have f1 : Ev F X (.code l75_0 (h75_0 l0_0 a0 0 0) (.exit 0) ⟨[(3, (.oi w0_0)), (6, (.one (.bor l0_0 (map b_si a0)))), (7, (.oi ((length (map b_si a0)) : Int))), (8, (.oi w1_0)), (9, (.one (.val (.bool w2_0))))], []⟩) := (by have t : Ev F X (.code l75_0 (h75_0 l0_0 a0 0 0) (ex75_0 (r75_0 a0 a0 0 0)) (fin75_0 l0_0 a0 (r75_0 a0 a0 0 0))) := t75_0 (l0_0 := l0_0) (a0 := a0) (by assumption) a0 [] 0 rfl; rw [h0] at t; exact t)
    exact callP_ok (ps := []) (os := []) (rs := [(.oi w0_0)]) (by kernel_rfl) (.f f0 (.f f1 (.h 10 (.loop (h75_0 l0_0 a0 0 0) (.exit 0) ⟨[(3, (.oi w0_0)), (6, (.one (.bor l0_0 (map b_si a0)))), (7, (.oi ((length (map b_si a0)) : Int))), (8, (.oi w1_0)), (9, (.one (.val (.bool w2_0))))], []⟩) .nil)))
/-! loop.example/g00539/impl.rewardAt$1 -/
def m1014600 (a0 : K_R) (a101001 : Int) : Bool :=
  (a0.f0 == a101001)
theorem e1014600 {l0_3 : Nat} {a0 : K_R} {l101000 : Nat} {a101001 : Int} : Ev F X (.call 146 [(.agg [(.val (.int .i64 a0.f0)), (.val (.int .i64 a0.f1)), (.val (.int .i64 a0.f2)), (.bor l0_3 (map b_si a0.f3)), (.val (.int .i64 a0.f4))]), (.bptr l101000 [(.val (.int .i64 a101001))])] [] [] [(.one (.val (.bool (a0.f0 == a101001))))]) := by
  exact callP_ok (ps := []) (os := []) (rs := [(.one (.val (.bool (a0.f0 == a101001))))]) (by kernel_rfl) .nil
/-! loop 1014500_0 -/
inductive O1014500_0 where
  | k0 (w0 : Int) (w1 : Bool)
  | k1 (w0 : Int)
def r1014500_0 (a0 : (List K_R)) (a2001 : Int) : List K_R → Int → O1014500_0
  | x0 :: y0, i =>
    if (x0.f0 == a2001) = true then (O1014500_0.k1 i) else
    (r1014500_0 a0 a2001 y0 (i + 1) )
  | [], i => (O1014500_0.k0 i (decide (i < ((length (map b_R a0)) : Int))))
def h1014500_0 (l0_0 : Nat) (l2000 : Nat) (a0 : (List K_R)) (a2001 : Int) (i : Int)  : St := ⟨[(0, (.one (.bor l0_0 (map b_R a0)))), (1, (.clo 146 [] [(.bptr l2000 [(.val (.int .i64 a2001))])])), (7, (.one (.val (.int .i64 ((length (map b_R a0)) : Int))))), (8, (.one (.val (.int .i64 i))))], []⟩
def ex1014500_0 : O1014500_0 → VX.Exit
  | .k0 _ _ => (.exit 0)
  | .k1 _ => .ret
def fin1014500_0 (l0_0 : Nat) (l2000 : Nat) (a0 : (List K_R)) (a2001 : Int) : O1014500_0 → St
  | .k0 w0 w1 => ⟨[(0, (.one (.bor l0_0 (map b_R a0)))), (1, (.clo 146 [] [(.bptr l2000 [(.val (.int .i64 a2001))])])), (7, (.one (.val (.int .i64 ((length (map b_R a0)) : Int))))), (8, (.one (.val (.int .i64 w0)))), (9, (.one (.val (.bool w1))))], []⟩
  | .k1 w0 => ⟨[(4, (.one (.val (.int .i64 w0))))], []⟩
theorem t1014500_0 {l0_0 : Nat} {l2000 : Nat} {a0 : (List K_R)} {a2001 : Int} (hy0 : length a0 * 56 ≤ 140737488351232) (hy1 : ∀ z ∈ a0, ok_R z) : ∀ (y0 : List K_R) (p : List K_R) , p ++ y0 = a0 → Ev F X (.code l145_0 (h1014500_0 l0_0 l2000 a0 a2001 (length p : Int) ) (ex1014500_0 (r1014500_0 a0 a2001 y0 (length p : Int) )) (fin1014500_0 l0_0 l2000 a0 a2001 (r1014500_0 a0 a2001 y0 (length p : Int) )))
  | [], p, hp0 => by
    have hc : ¬ (decide ((length p : Int) < ((length (map b_R a0)) : Int))) = true := by
      rw [← hp0]; simp only [length_map, length_set, length_append, length_replicate, length_cons, length_nil, decide_eq_true_eq]; omega
    have st := codeH_ok (F := F) (X := X) (c := b145_0) (t := 0) (hs := [(2, .b false)]) (σ := h1014500_0 l0_0 l2000 a0 a2001 (length p : Int) ) (σ' := fin1014500_0 l0_0 l2000 a0 a2001 (.k0 (length p : Int) (decide ((length p : Int) < ((length (map b_R a0)) : Int))))) (e := (.exit 0)) (t' := 3) (hs' := []) (q := [(decide ((length p : Int) < ((length (map b_R a0)) : Int))) = false]) (by kernel_rfl) ⟨(nt hc), trivial⟩
    exact .loopX st (show ((.exit 0) : VX.Exit) ≠ .normal from by simp)
  | x0 :: y0, p, hp0 => by
    have hc : (decide ((length p : Int) < ((length (map b_R a0)) : Int))) = true := by
      rw [← hp0]; simp only [length_map, length_set, length_append, length_replicate, length_cons, length_nil, decide_eq_true_eq]; omega
    have Hx0 : (a0)[Int.toNat (length p : Int)]? = some x0 := by
      rw [← hp0, Int.toNat_natCast]; simp
    have Mx0_0 := hy1 x0 (List.mem_of_getElem? Hx0)
    have hlen : length (a0) = length p + length y0 + 1 := by rw [← hp0]; simp; omega
    have hw : IntKind.wrap .i64 ((length p : Int) + 1) = (length p : Int) + 1 := wrap64 (by omega)
    simp only [r1014500_0]
    by_cases h_1 : (x0.f0 == a2001) = true
    · try simp only [if_pos h_1]
      have st := codeH_ok (F := F) (X := X) (c := b145_0) (t := 0) (hs := [(2, .b true), (14, .row [(.i x0.f0), (.i x0.f1), (.i x0.f2), (.sl (map b_si x0.f3)), (.i x0.f4)]), (18, .ret [] [(.one (.val (.bool (x0.f0 == a2001))))] [] []), (19, .b true)]) (σ := h1014500_0 l0_0 l2000 a0 a2001 (length p : Int) ) (σ' := fin1014500_0 l0_0 l2000 a0 a2001 (.k1 (length p : Int))) (e := .ret) (t' := 24) (hs' := []) (q := [(decide ((length p : Int) < ((length (map b_R a0)) : Int))) = true, 0 ≤ (length p : Int), (map b_R a0)[(Int.toNat (length p : Int))]? = some [(.i x0.f0), (.i x0.f1), (.i x0.f2), (.sl (map b_si x0.f3)), (.i x0.f4)], Ev F X (.call 146 [(.agg [(.i x0.f0), (.i x0.f1), (.i x0.f2), (.bor (l0_0 + 1) (map b_si x0.f3)), (.i x0.f4)]), (.bptr (l2000 + 1) [(.i a2001)])] [] [] [(.one (.val (.bool (x0.f0 == a2001))))]), (x0.f0 == a2001) = true]) (by kernel_rfl) ⟨hc, (by omega), (by rw [getElem?_map, Hx0]; rfl), (e1014600 (a0 := x0) (a101001 := a2001)), h_1, trivial⟩
      exact .loopX st (show (.ret : VX.Exit) ≠ .normal from by simp)
    · try simp only [if_neg h_1]
      have st := codeH_ok (F := F) (X := X) (c := b145_0) (t := 0) (hs := [(2, .b true), (14, .row [(.i x0.f0), (.i x0.f1), (.i x0.f2), (.sl (map b_si x0.f3)), (.i x0.f4)]), (18, .ret [] [(.one (.val (.bool (x0.f0 == a2001))))] [] []), (19, .b false)]) (σ := h1014500_0 l0_0 l2000 a0 a2001 (length p : Int) ) (σ' := ⟨[(0, (.one (.bor l0_0 (map b_R a0)))), (1, (.clo 146 [] [(.bptr l2000 [(.i a2001)])])), (7, (.oi ((length (map b_R a0)) : Int))), (8, (.oi (IntKind.wrap .i64 ((length p : Int) + 1))))], []⟩) (e := .normal) (t' := 24) (hs' := []) (q := [(decide ((length p : Int) < ((length (map b_R a0)) : Int))) = true, 0 ≤ (length p : Int), (map b_R a0)[(Int.toNat (length p : Int))]? = some [(.i x0.f0), (.i x0.f1), (.i x0.f2), (.sl (map b_si x0.f3)), (.i x0.f4)], Ev F X (.call 146 [(.agg [(.i x0.f0), (.i x0.f1), (.i x0.f2), (.bor (l0_0 + 1) (map b_si x0.f3)), (.i x0.f4)]), (.bptr (l2000 + 1) [(.i a2001)])] [] [] [(.one (.val (.bool (x0.f0 == a2001))))]), (x0.f0 == a2001) = false, True]) (by kernel_rfl) ⟨hc, (by omega), (by rw [getElem?_map, Hx0]; rfl), (e1014600 (a0 := x0) (a101001 := a2001)), (nt h_1), trivial, trivial⟩
      have ih := t1014500_0 (l0_0 := l0_0) (l2000 := l2000) (a0 := a0) (a2001 := a2001) hy0 hy1 y0 (p ++ [x0])  (by rw [append_assoc]; exact hp0)
      rw [show ((p ++ [x0]).length : Int) = (p.length : Int) + 1 from by simp] at ih
      rw [show (⟨[(0, (.one (.bor l0_0 (map b_R a0)))), (1, (.clo 146 [] [(.bptr l2000 [(.i a2001)])])), (7, (.oi ((length (map b_R a0)) : Int))), (8, (.oi (IntKind.wrap .i64 ((length p : Int) + 1))))], []⟩ : St) = h1014500_0 l0_0 l2000 a0 a2001 ((length p : Int) + 1)  from (by unfold h1014500_0; simp only [hw]; done)] at st
      exact .loopN st ih
/-! slices.IndexFunc[[]loop.example/g00539/impl.Reward,loop.example/g00539/impl.Reward] -/
def m1014500 (a0 : (List K_R)) (a2001 : Int) : Int :=
  (match r1014500_0 a0 a2001 a0 0 with | .k0 w0_0 w1_0 => (-1) | .k1 w0_0 => w0_0)
theorem e1014500 {l0_0 : Nat} {a0 : (List K_R)} {l2000 : Nat} {a2001 : Int} (hy0 : length a0 * 56 ≤ 140737488351232) (hy1 : ∀ z ∈ a0, ok_R z) : Ev F X (.call 145 [(.one (.bor l0_0 (map b_R a0))), (.clo 146 [] [(.bptr l2000 [(.val (.int .i64 a2001))])])] [] [] [(.one (.val (.int .i64 (m1014500 a0 a2001))))]) := by
  unfold m1014500
  cases h0 : r1014500_0 a0 a2001 a0 0 with
  | k0 w0_0 w1_0 =>
    try dsimp only
    have f0 : (⟨[(0, (.one (.bor l0_0 (map b_R a0)))), (1, (.clo 146 [] [(.bptr l2000 [(.i a2001)])])), (7, (.oi ((length (map b_R a0)) : Int))), (8, (.oi 0))], []⟩ : St) = h1014500_0 l0_0 l2000 a0 a2001 0  := (by rfl)
    have f1 : Ev F X (.code l145_0 (h1014500_0 l0_0 l2000 a0 a2001 0 ) (.exit 0) ⟨[(0, (.one (.bor l0_0 (map b_R a0)))), (1, (.clo 146 [] [(.bptr l2000 [(.i a2001)])])), (7, (.oi ((length (map b_R a0)) : Int))), (8, (.oi w0_0)), (9, (.one (.val (.bool w1_0))))], []⟩) := (by have t : Ev F X (.code l145_0 (h1014500_0 l0_0 l2000 a0 a2001 0 ) (ex1014500_0 (r1014500_0 a0 a2001 a0 0)) (fin1014500_0 l0_0 l2000 a0 a2001 (r1014500_0 a0 a2001 a0 0))) := t1014500_0 (l0_0 := l0_0) (l2000 := l2000) (a0 := a0) (a2001 := a2001) (by assumption) (by assumption) a0 []  rfl; rw [h0] at t; exact t)
    exact callP_ok (ps := []) (os := []) (rs := [(.oi (-1))]) (by kernel_rfl) (.f f0 (.f f1 (.h 8 (.loop (h1014500_0 l0_0 l2000 a0 a2001 0 ) (.exit 0) ⟨[(0, (.one (.bor l0_0 (map b_R a0)))), (1, (.clo 146 [] [(.bptr l2000 [(.i a2001)])])), (7, (.oi ((length (map b_R a0)) : Int))), (8, (.oi w0_0)), (9, (.one (.val (.bool w1_0))))], []⟩) .nil)))
  | k1 w0_0 =>
    try dsimp only
    have f0 : (⟨[(0, (.one (.bor l0_0 (map b_R a0)))), (1, (.clo 146 [] [(.bptr l2000 [(.i a2001)])])), (7, (.oi ((length (map b_R a0)) : Int))), (8, (.oi 0))], []⟩ : St) = h1014500_0 l0_0 l2000 a0 a2001 0  := (by rfl)
    have f1 : Ev F X (.code l145_0 (h1014500_0 l0_0 l2000 a0 a2001 0 ) .ret ⟨[(4, (.oi w0_0))], []⟩) := (by have t : Ev F X (.code l145_0 (h1014500_0 l0_0 l2000 a0 a2001 0 ) (ex1014500_0 (r1014500_0 a0 a2001 a0 0)) (fin1014500_0 l0_0 l2000 a0 a2001 (r1014500_0 a0 a2001 a0 0))) := t1014500_0 (l0_0 := l0_0) (l2000 := l2000) (a0 := a0) (a2001 := a2001) (by assumption) (by assumption) a0 []  rfl; rw [h0] at t; exact t)
    exact callP_ok (ps := []) (os := []) (rs := [(.oi w0_0)]) (by kernel_rfl) (.f f0 (.f f1 (.h 8 (.loop (h1014500_0 l0_0 l2000 a0 a2001 0 ) .ret ⟨[(4, (.oi w0_0))], []⟩) .nil)))
theorem ixr1014500_0 (a0 : (List K_R)) (a2001 : Int) : ∀ (l : List K_R) (i : Int), (∃ (w0 : _) (w1 : _), r1014500_0 a0 a2001 l i = .k0 w0 w1) ∨ (∃ w, r1014500_0 a0 a2001 l i = .k1 w ∧ i ≤ w ∧ w < i + l.length)
  | [], i => .inl ⟨i, (decide (i < ((length (map b_R a0)) : Int))), rfl⟩
  | x :: l, i => by
    have ih := ixr1014500_0 a0 a2001 l (i + 1)
    simp only [r1014500_0]
    (repeat' split)
    all_goals first
      | exact .inr ⟨i, rfl, by omega, by simp only [length_cons]; omega⟩
      | (rcases ih with ⟨w0, w1, h⟩ | ⟨w, h, h1, h2⟩
         · exact .inl ⟨w0, w1, h⟩
         · exact .inr ⟨w, h, by omega, by simp only [length_cons]; omega⟩)
theorem ix1014500 (a0 : (List K_R)) (a2001 : Int) : -1 ≤ m1014500 a0 a2001 ∧ m1014500 a0 a2001 < (length a0 : Int) := by
  unfold m1014500
  rcases ixr1014500_0 a0 a2001 a0 0 with ⟨w0, w1, h⟩ | ⟨w, h, h1, h2⟩ <;> simp only [h] <;> omega
/-! loop.example/g00539/impl.rewardAt -/
def m90 (a0 : (List K_R)) (a1 : Int) : Int :=
  (m1014500 a0 a1)
theorem e90 {l0_0 : Nat} {a0 : (List K_R)} {a1 : Int} (hy0 : length a0 * 56 ≤ 140737488351232) (hy1 : ∀ z ∈ a0, ok_R z) : Ev F X (.call 90 [(.one (.bor l0_0 (map b_R a0))), (.one (.val (.int .i64 a1)))] [] [] [(.one (.val (.int .i64 (m1014500 a0 a1))))]) := by
  have f0 : fullL [(.val (.int .i64 a1))] = true := (by trivial)
  have f1 : Ev F X (.call 145 [(.one (.bor (l0_0 + 1) (map b_R a0))), (.clo 146 [] [(.bptr 0 [(.i a1)])])] [] [] [(.oi (m1014500 a0 a1))]) := (e1014500 (a0 := a0) (a2001 := a1) (by with_reducible assumption) (by with_reducible assumption))
  exact callP_ok (ps := []) (os := []) (rs := [(.oi (m1014500 a0 a1))]) (by kernel_rfl) (.f f0 (.r 9 [] [] f1 .nil))
/-! loop.example/g00539/impl.isSum -/
def m100 (a0 : Int) : Bool :=
  (m93 a0 0 2147483646)
theorem e100 {a0 : Int} : Ev F X (.call 100 [(.one (.val (.int .i64 a0)))] [] [] [(.one (.val (.bool (m93 a0 0 2147483646))))]) := by
  have f0 : Ev F X (.call 93 [(.oi a0), (.oi 0), (.oi 2147483646)] [] [] [(.one (.val (.bool (m93 a0 0 2147483646))))]) := (e93 (a0 := a0) (a1 := 0) (a2 := 2147483646))
  exact callP_ok (ps := []) (os := []) (rs := [(.one (.val (.bool (m93 a0 0 2147483646))))]) (by kernel_rfl) (.r 5 [] [] f0 .nil)
/-! loop.example/g00539/impl.rewardFault -/
def m73 (a0 : K_R) (a1 : (List K_R)) : Int :=
  if (!(m93 a0.f0 0 2147483646)) = true then 3 else
  if (!(m93 a0.f1 0 1000000)) = true then 3 else
    if (!(m93 a0.f2 0 1000000)) = true then 3 else
      if (!(m93 a0.f4 1 3)) = true then 3 else
        if (!(m74 a0.f3 12)) = true then 1 else
          if ((IntKind.wrap .i64 ((m75 a0.f3) + a0.f2)) != a0.f1) = true then 1 else
            if (decide ((m1014500 a1 a0.f0) ≥ 0)) = true then 6 else
              0
theorem e73 {l0_3 : Nat} {a0 : K_R} {l1_0 : Nat} {a1 : (List K_R)} (hy0 : length a0.f3 * 24 ≤ 140737488351232) (hy1 : length a1 * 56 ≤ 140737488351232) (hy2 : ∀ z ∈ a1, ok_R z) : Ev F X (.call 73 [(.agg [(.val (.int .i64 a0.f0)), (.val (.int .i64 a0.f1)), (.val (.int .i64 a0.f2)), (.bor l0_3 (map b_si a0.f3)), (.val (.int .i64 a0.f4))]), (.one (.bor l1_0 (map b_R a1)))] [] [] [(.one (.val (.int .i64 (m73 a0 a1))))]) := by
  unfold m73
  have f0 : Ev F X (.call 100 [(.oi a0.f0)] [] [] [(.one (.val (.bool (m93 a0.f0 0 2147483646))))]) := (e100 (a0 := a0.f0))
  by_cases h0 : (!(m93 a0.f0 0 2147483646)) = true
  · try simp only [if_pos h0]
    exact callP_ok (ps := []) (os := []) (rs := [(.oi 3)]) (by kernel_rfl) (.r 9 [] [] f0 (.f h0 (.f h0 (.f h0 (.f h0 (.f h0 (.h 14 (.b true) (.h 16 (.b true) (.h 18 (.b true) (.h 20 (.b true) (.h 23 (.b true) .nil)))))))))))
  · try simp only [if_neg h0]
    have f4 : Ev F X (.call 72 [(.oi a0.f1)] [] [] [(.one (.val (.bool (m93 a0.f1 0 1000000))))]) := (e72 (a0 := a0.f1))
    by_cases h1 : (!(m93 a0.f1 0 1000000)) = true
    · try simp only [if_pos h1]
      exact callP_ok (ps := []) (os := []) (rs := [(.oi 3)]) (by kernel_rfl) (.r 9 [] [] f0 (.f (nt h0) (.f (nt h0) (.f (nt h0) (.h 14 (.b false) (.h 16 (.b false) (.h 18 (.b false) (.r 19 [] [] f4 (.f (nt h0) (.f (nt h0) (.f h1 (.f h1 (.f h1 (.f h1 (.f h1 (.h 20 (.b false) (.h 23 (.b false) (.h 26 (.b true) (.h 28 (.b true) (.h 30 (.b true) (.h 32 (.b true) (.h 35 (.b true) .nil))))))))))))))))))))))
    · try simp only [if_neg h1]
      have f10 : Ev F X (.call 72 [(.oi a0.f2)] [] [] [(.one (.val (.bool (m93 a0.f2 0 1000000))))]) := (e72 (a0 := a0.f2))
      by_cases h2 : (!(m93 a0.f2 0 1000000)) = true
      · try simp only [if_pos h2]
        exact callP_ok (ps := []) (os := []) (rs := [(.oi 3)]) (by kernel_rfl) (.r 9 [] [] f0 (.f (nt h0) (.f (nt h0) (.f (nt h0) (.h 14 (.b false) (.h 16 (.b false) (.h 18 (.b false) (.r 19 [] [] f4 (.f (nt h0) (.f (nt h0) (.f (nt h1) (.f (nt h1) (.f (nt h1) (.h 20 (.b false) (.h 23 (.b false) (.h 26 (.b false) (.h 28 (.b false) (.h 30 (.b false) (.r 31 [] [] f10 (.f (nt h1) (.f (nt h1) (.f h2 (.f h2 (.f h2 (.f h2 (.f h2 (.h 32 (.b false) (.h 35 (.b false) (.h 38 (.b true) (.h 40 (.b true) (.h 42 (.b true) (.h 44 (.b true) (.h 47 (.b true) .nil)))))))))))))))))))))))))))))))))
      · try simp only [if_neg h2]
        have f16 : Ev F X (.call 93 [(.oi a0.f4), (.oi 1), (.oi 3)] [] [] [(.one (.val (.bool (m93 a0.f4 1 3))))]) := (e93 (a0 := a0.f4) (a1 := 1) (a2 := 3))
        by_cases h3 : (!(m93 a0.f4 1 3)) = true
        · try simp only [if_pos h3]
          exact callP_ok (ps := []) (os := []) (rs := [(.oi 3)]) (by kernel_rfl) (.r 9 [] [] f0 (.f (nt h0) (.f (nt h0) (.f (nt h0) (.h 14 (.b false) (.h 16 (.b false) (.h 18 (.b false) (.r 19 [] [] f4 (.f (nt h0) (.f (nt h0) (.f (nt h1) (.f (nt h1) (.f (nt h1) (.h 20 (.b false) (.h 23 (.b false) (.h 26 (.b false) (.h 28 (.b false) (.h 30 (.b false) (.r 31 [] [] f10 (.f (nt h1) (.f (nt h1) (.f (nt h2) (.f (nt h2) (.f (nt h2) (.h 32 (.b false) (.h 35 (.b false) (.h 38 (.b false) (.h 40 (.b false) (.h 42 (.b false) (.r 43 [] [] f16 (.f (nt h2) (.f (nt h2) (.f h3 (.h 44 (.b false) (.h 47 (.b false) (.h 50 (.b true) .nil))))))))))))))))))))))))))))))))))))
        · try simp only [if_neg h3]
          have f20 : Ev F X (.call 74 [(.one (.bor (l0_3 + 1) (map b_si a0.f3))), (.oi 12)] [] [] [(.one (.val (.bool (m74 a0.f3 12))))]) := (e74 (a0 := a0.f3) (a1 := 12) (by with_reducible assumption))
          by_cases h4 : (!(m74 a0.f3 12)) = true
          · try simp only [if_pos h4]
            exact callP_ok (ps := []) (os := []) (rs := [(.oi 1)]) (by kernel_rfl) (.r 9 [] [] f0 (.f (nt h0) (.f (nt h0) (.f (nt h0) (.h 14 (.b false) (.h 16 (.b false) (.h 18 (.b false) (.r 19 [] [] f4 (.f (nt h0) (.f (nt h0) (.f (nt h1) (.f (nt h1) (.f (nt h1) (.h 20 (.b false) (.h 23 (.b false) (.h 26 (.b false) (.h 28 (.b false) (.h 30 (.b false) (.r 31 [] [] f10 (.f (nt h1) (.f (nt h1) (.f (nt h2) (.f (nt h2) (.f (nt h2) (.h 32 (.b false) (.h 35 (.b false) (.h 38 (.b false) (.h 40 (.b false) (.h 42 (.b false) (.r 43 [] [] f16 (.f (nt h2) (.f (nt h2) (.f (nt h3) (.h 44 (.b false) (.h 47 (.b false) (.h 50 (.b false) (.r 56 [] [] f20 (.f h4 (.f h4 (.f h4 (.f h4 (.f h4 (.f h4 (.f h4 (.f h4 (.f h4 (.f h4 (.h 61 (.b true) (.h 63 (.b true) (.h 65 (.b true) (.h 67 (.b true) (.h 69 (.b true) (.h 71 (.b true) (.h 73 (.b true) (.h 75 (.b true) (.h 77 (.b true) (.h 80 (.b true) .nil)))))))))))))))))))))))))))))))))))))))))))))))))))))))))
          · try simp only [if_neg h4]
            have f24 : Ev F X (.call 75 [(.one (.bor (l0_3 + 1) (map b_si a0.f3)))] [] [] [(.oi (m75 a0.f3))]) := (e75 (a0 := a0.f3) (by with_reducible assumption))
            by_cases h5 : ((IntKind.wrap .i64 ((m75 a0.f3) + a0.f2)) != a0.f1) = true
            · try simp only [if_pos h5]
              exact callP_ok (ps := []) (os := []) (rs := [(.oi 1)]) (by kernel_rfl) (.r 9 [] [] f0 (.f (nt h0) (.f (nt h0) (.f (nt h0) (.h 14 (.b false) (.h 16 (.b false) (.h 18 (.b false) (.r 19 [] [] f4 (.f (nt h0) (.f (nt h0) (.f (nt h1) (.f (nt h1) (.f (nt h1) (.h 20 (.b false) (.h 23 (.b false) (.h 26 (.b false) (.h 28 (.b false) (.h 30 (.b false) (.r 31 [] [] f10 (.f (nt h1) (.f (nt h1) (.f (nt h2) (.f (nt h2) (.f (nt h2) (.h 32 (.b false) (.h 35 (.b false) (.h 38 (.b false) (.h 40 (.b false) (.h 42 (.b false) (.r 43 [] [] f16 (.f (nt h2) (.f (nt h2) (.f (nt h3) (.h 44 (.b false) (.h 47 (.b false) (.h 50 (.b false) (.r 56 [] [] f20 (.f (nt h4) (.f (nt h4) (.f (nt h4) (.h 61 (.b false) (.h 63 (.b false) (.h 65 (.b false) (.r 66 [] [] f24 (.f (nt h4) (.f (nt h4) (.f (nt h4) (.f trivial (.f (nt h4) (.f (nt h4) (.f (nt h4) (.f (nt h4) (.f h5 (.h 67 (.b false) (.h 69 (.b false) (.h 71 (.b false) (.h 73 (.b false) (.h 75 (.b false) (.h 77 (.b false) (.h 80 (.b false) (.h 83 (.b true) .nil)))))))))))))))))))))))))))))))))))))))))))))))))))))))))))))
            · try simp only [if_neg h5]
              have f34 : Ev F X (.call 90 [(.one (.bor (l1_0 + 1) (map b_R a1))), (.oi a0.f0)] [] [] [(.oi (m1014500 a1 a0.f0))]) := (e90 (a0 := a1) (a1 := a0.f0) (by with_reducible assumption) (by with_reducible assumption))
              by_cases h6 : (decide ((m1014500 a1 a0.f0) ≥ 0)) = true
              · try simp only [if_pos h6]
                exact callP_ok (ps := []) (os := []) (rs := [(.oi 6)]) (by kernel_rfl) (.r 9 [] [] f0 (.f (nt h0) (.f (nt h0) (.f (nt h0) (.h 14 (.b false) (.h 16 (.b false) (.h 18 (.b false) (.r 19 [] [] f4 (.f (nt h0) (.f (nt h0) (.f (nt h1) (.f (nt h1) (.f (nt h1) (.h 20 (.b false) (.h 23 (.b false) (.h 26 (.b false) (.h 28 (.b false) (.h 30 (.b false) (.r 31 [] [] f10 (.f (nt h1) (.f (nt h1) (.f (nt h2) (.f (nt h2) (.f (nt h2) (.h 32 (.b false) (.h 35 (.b false) (.h 38 (.b false) (.h 40 (.b false) (.h 42 (.b false) (.r 43 [] [] f16 (.f (nt h2) (.f (nt h2) (.f (nt h3) (.h 44 (.b false) (.h 47 (.b false) (.h 50 (.b false) (.r 56 [] [] f20 (.f (nt h4) (.f (nt h4) (.f (nt h4) (.h 61 (.b false) (.h 63 (.b false) (.h 65 (.b false) (.r 66 [] [] f24 (.f (nt h4) (.f (nt h4) (.f (nt h4) (.f trivial (.f (nt h4) (.f (nt h4) (.f (nt h4) (.f (nt h4) (.f (nt h5) (.h 67 (.b false) (.h 69 (.b false) (.h 71 (.b false) (.h 73 (.b false) (.h 75 (.b false) (.h 77 (.b false) (.h 80 (.b false) (.h 83 (.b false) (.r 91 [] [] f34 (.f h6 (.h 96 (.b true) .nil))))))))))))))))))))))))))))))))))))))))))))))))))))))))))))))))
              · try simp only [if_neg h6]
                exact callP_ok (ps := []) (os := []) (rs := [(.oi 0)]) (by kernel_rfl) (.r 9 [] [] f0 (.f (nt h0) (.f (nt h0) (.f (nt h0) (.h 14 (.b false) (.h 16 (.b false) (.h 18 (.b false) (.r 19 [] [] f4 (.f (nt h0) (.f (nt h0) (.f (nt h1) (.f (nt h1) (.f (nt h1) (.h 20 (.b false) (.h 23 (.b false) (.h 26 (.b false) (.h 28 (.b false) (.h 30 (.b false) (.r 31 [] [] f10 (.f (nt h1) (.f (nt h1) (.f (nt h2) (.f (nt h2) (.f (nt h2) (.h 32 (.b false) (.h 35 (.b false) (.h 38 (.b false) (.h 40 (.b false) (.h 42 (.b false) (.r 43 [] [] f16 (.f (nt h2) (.f (nt h2) (.f (nt h3) (.h 44 (.b false) (.h 47 (.b false) (.h 50 (.b false) (.r 56 [] [] f20 (.f (nt h4) (.f (nt h4) (.f (nt h4) (.h 61 (.b false) (.h 63 (.b false) (.h 65 (.b false) (.r 66 [] [] f24 (.f (nt h4) (.f (nt h4) (.f (nt h4) (.f trivial (.f (nt h4) (.f (nt h4) (.f (nt h4) (.f (nt h4) (.f (nt h5) (.h 67 (.b false) (.h 69 (.b false) (.h 71 (.b false) (.h 73 (.b false) (.h 75 (.b false) (.h 77 (.b false) (.h 80 (.b false) (.h 83 (.b false) (.r 91 [] [] f34 (.f (nt h6) (.h 96 (.b false) .nil))))))))))))))))))))))))))))))))))))))))))))))))))))))))))))))))
/-! loop 76_0 -/
inductive O76_0 where
  | k0 (w0 : Int) (w1 : Int) (w2 : Bool)
def r76_0 (a0 : (List K_R)) (a1 : Int) : List K_R → Int → Int → O76_0
  | x0 :: y0, i, v1 =>
    if (a1 == 0) = true then (r76_0 a0 a1 y0 (i + 1) (IntKind.wrap .i64 (v1 + x0.f1))) else
    if (x0.f4 == a1) = true then (r76_0 a0 a1 y0 (i + 1) (IntKind.wrap .i64 (v1 + x0.f1))) else
      (r76_0 a0 a1 y0 (i + 1) v1)
  | [], i, v1 => (O76_0.k0 v1 i (decide (i < ((length (map b_R a0)) : Int))))
def h76_0 (l0_0 : Nat) (a0 : (List K_R)) (a1 : Int) (i : Int) (v1 : Int) : St := ⟨[(1, (.one (.val (.int .i64 a1)))), (5, (.one (.val (.int .i64 v1)))), (8, (.one (.bor l0_0 (map b_R a0)))), (9, (.one (.val (.int .i64 ((length (map b_R a0)) : Int))))), (10, (.one (.val (.int .i64 i))))], []⟩
def ex76_0 : O76_0 → VX.Exit
  | .k0 _ _ _ => (.exit 0)
def fin76_0 (l0_0 : Nat) (a0 : (List K_R)) (a1 : Int) : O76_0 → St
  | .k0 w0 w1 w2 => ⟨[(1, (.one (.val (.int .i64 a1)))), (5, (.one (.val (.int .i64 w0)))), (8, (.one (.bor l0_0 (map b_R a0)))), (9, (.one (.val (.int .i64 ((length (map b_R a0)) : Int))))), (10, (.one (.val (.int .i64 w1)))), (11, (.one (.val (.bool w2))))], []⟩
theorem t76_0 {l0_0 : Nat} {a0 : (List K_R)} {a1 : Int} (hy0 : length a0 * 56 ≤ 140737488351232) (hy1 : ∀ z ∈ a0, ok_R z) : ∀ (y0 : List K_R) (p : List K_R) (v1 : Int), p ++ y0 = a0 → Ev F X (.code l76_0 (h76_0 l0_0 a0 a1 (length p : Int) v1) (ex76_0 (r76_0 a0 a1 y0 (length p : Int) v1)) (fin76_0 l0_0 a0 a1 (r76_0 a0 a1 y0 (length p : Int) v1)))
  | [], p, v1, hp0 => by
    have hc : ¬ (decide ((length p : Int) < ((length (map b_R a0)) : Int))) = true := by
      rw [← hp0]; simp only [length_map, length_set, length_append, length_replicate, length_cons, length_nil, decide_eq_true_eq]; omega
    have st := codeH_ok (F := F) (X := X) (c := b76_0) (t := 0) (hs := [(2, .b false)]) (σ := h76_0 l0_0 a0 a1 (length p : Int) v1) (σ' := fin76_0 l0_0 a0 a1 (.k0 v1 (length p : Int) (decide ((length p : Int) < ((length (map b_R a0)) : Int))))) (e := (.exit 0)) (t' := 3) (hs' := []) (q := [(decide ((length p : Int) < ((length (map b_R a0)) : Int))) = false]) (by kernel_rfl) ⟨(nt hc), trivial⟩
    exact .loopX st (show ((.exit 0) : VX.Exit) ≠ .normal from by simp)
  | x0 :: y0, p, v1, hp0 => by
    have hc : (decide ((length p : Int) < ((length (map b_R a0)) : Int))) = true := by
      rw [← hp0]; simp only [length_map, length_set, length_append, length_replicate, length_cons, length_nil, decide_eq_true_eq]; omega
    have Hx0 : (a0)[Int.toNat (length p : Int)]? = some x0 := by
      rw [← hp0, Int.toNat_natCast]; simp
    have Mx0_0 := hy1 x0 (List.mem_of_getElem? Hx0)
    have hlen : length (a0) = length p + length y0 + 1 := by rw [← hp0]; simp; omega
    have hw : IntKind.wrap .i64 ((length p : Int) + 1) = (length p : Int) + 1 := wrap64 (by omega)
    simp only [r76_0]
    by_cases h_1 : (a1 == 0) = true
    · try simp only [if_pos h_1]
      have st := codeH_ok (F := F) (X := X) (c := b76_0) (t := 0) (hs := [(2, .b true), (4, .row [(.i x0.f0), (.i x0.f1), (.i x0.f2), (.sl (map b_si x0.f3)), (.i x0.f4)]), (17, .b true), (19, .b true), (21, .b true), (23, .b true), (26, .b true)]) (σ := h76_0 l0_0 a0 a1 (length p : Int) v1) (σ' := ⟨[(1, (.oi a1)), (5, (.oi (IntKind.wrap .i64 (v1 + x0.f1)))), (8, (.one (.bor l0_0 (map b_R a0)))), (9, (.oi ((length (map b_R a0)) : Int))), (10, (.oi (IntKind.wrap .i64 ((length p : Int) + 1))))], []⟩) (e := .normal) (t' := 42) (hs' := []) (q := [(decide ((length p : Int) < ((length (map b_R a0)) : Int))) = true, 0 ≤ (length p : Int), (map b_R a0)[(Int.toNat (length p : Int))]? = some [(.i x0.f0), (.i x0.f1), (.i x0.f2), (.sl (map b_si x0.f3)), (.i x0.f4)], (a1 == 0) = true, (a1 == 0) = true, (a1 == 0) = true, (a1 == 0) = true, (a1 == 0) = true, True, True]) (by kernel_rfl) ⟨hc, (by omega), (by rw [getElem?_map, Hx0]; rfl), h_1, h_1, h_1, h_1, h_1, trivial, trivial, trivial⟩
      have ih := t76_0 (l0_0 := l0_0) (a0 := a0) (a1 := a1) hy0 hy1 y0 (p ++ [x0]) (IntKind.wrap .i64 (v1 + x0.f1)) (by rw [append_assoc]; exact hp0)
      rw [show ((p ++ [x0]).length : Int) = (p.length : Int) + 1 from by simp] at ih
      rw [show (⟨[(1, (.oi a1)), (5, (.oi (IntKind.wrap .i64 (v1 + x0.f1)))), (8, (.one (.bor l0_0 (map b_R a0)))), (9, (.oi ((length (map b_R a0)) : Int))), (10, (.oi (IntKind.wrap .i64 ((length p : Int) + 1))))], []⟩ : St) = h76_0 l0_0 a0 a1 ((length p : Int) + 1) (IntKind.wrap .i64 (v1 + x0.f1)) from (by unfold h76_0; simp only [hw]; done)] at st
      exact .loopN st ih
    · try simp only [if_neg h_1]
      by_cases h_2 : (x0.f4 == a1) = true
      · try simp only [if_pos h_2]
        have st := codeH_ok (F := F) (X := X) (c := b76_0) (t := 0) (hs := [(2, .b true), (4, .row [(.i x0.f0), (.i x0.f1), (.i x0.f2), (.sl (map b_si x0.f3)), (.i x0.f4)]), (17, .b false), (19, .b false), (21, .b false), (23, .b false), (26, .b false), (27, .b true)]) (σ := h76_0 l0_0 a0 a1 (length p : Int) v1) (σ' := ⟨[(1, (.oi a1)), (5, (.oi (IntKind.wrap .i64 (v1 + x0.f1)))), (8, (.one (.bor l0_0 (map b_R a0)))), (9, (.oi ((length (map b_R a0)) : Int))), (10, (.oi (IntKind.wrap .i64 ((length p : Int) + 1))))], []⟩) (e := .normal) (t' := 42) (hs' := []) (q := [(decide ((length p : Int) < ((length (map b_R a0)) : Int))) = true, 0 ≤ (length p : Int), (map b_R a0)[(Int.toNat (length p : Int))]? = some [(.i x0.f0), (.i x0.f1), (.i x0.f2), (.sl (map b_si x0.f3)), (.i x0.f4)], (a1 == 0) = false, (a1 == 0) = false, (a1 == 0) = false, (a1 == 0) = false, (a1 == 0) = false, (x0.f4 == a1) = true, True, True]) (by kernel_rfl) ⟨hc, (by omega), (by rw [getElem?_map, Hx0]; rfl), (nt h_1), (nt h_1), (nt h_1), (nt h_1), (nt h_1), h_2, trivial, trivial, trivial⟩
        have ih := t76_0 (l0_0 := l0_0) (a0 := a0) (a1 := a1) hy0 hy1 y0 (p ++ [x0]) (IntKind.wrap .i64 (v1 + x0.f1)) (by rw [append_assoc]; exact hp0)
        rw [show ((p ++ [x0]).length : Int) = (p.length : Int) + 1 from by simp] at ih
        rw [show (⟨[(1, (.oi a1)), (5, (.oi (IntKind.wrap .i64 (v1 + x0.f1)))), (8, (.one (.bor l0_0 (map b_R a0)))), (9, (.oi ((length (map b_R a0)) : Int))), (10, (.oi (IntKind.wrap .i64 ((length p : Int) + 1))))], []⟩ : St) = h76_0 l0_0 a0 a1 ((length p : Int) + 1) (IntKind.wrap .i64 (v1 + x0.f1)) from (by unfold h76_0; simp only [hw]; done)] at st
        exact .loopN st ih
      · try simp only [if_neg h_2]
        have st := codeH_ok (F := F) (X := X) (c := b76_0) (t := 0) (hs := [(2, .b true), (4, .row [(.i x0.f0), (.i x0.f1), (.i x0.f2), (.sl (map b_si x0.f3)), (.i x0.f4)]), (17, .b false), (19, .b false), (21, .b false), (23, .b false), (26, .b false), (27, .b false)]) (σ := h76_0 l0_0 a0 a1 (length p : Int) v1) (σ' := ⟨[(1, (.oi a1)), (5, (.oi v1)), (8, (.one (.bor l0_0 (map b_R a0)))), (9, (.oi ((length (map b_R a0)) : Int))), (10, (.oi (IntKind.wrap .i64 ((length p : Int) + 1))))], []⟩) (e := .normal) (t' := 32) (hs' := []) (q := [(decide ((length p : Int) < ((length (map b_R a0)) : Int))) = true, 0 ≤ (length p : Int), (map b_R a0)[(Int.toNat (length p : Int))]? = some [(.i x0.f0), (.i x0.f1), (.i x0.f2), (.sl (map b_si x0.f3)), (.i x0.f4)], (a1 == 0) = false, (a1 == 0) = false, (a1 == 0) = false, (a1 == 0) = false, (a1 == 0) = false, (x0.f4 == a1) = false, True]) (by kernel_rfl) ⟨hc, (by omega), (by rw [getElem?_map, Hx0]; rfl), (nt h_1), (nt h_1), (nt h_1), (nt h_1), (nt h_1), (nt h_2), trivial, trivial⟩
        have ih := t76_0 (l0_0 := l0_0) (a0 := a0) (a1 := a1) hy0 hy1 y0 (p ++ [x0]) v1 (by rw [append_assoc]; exact hp0)
        rw [show ((p ++ [x0]).length : Int) = (p.length : Int) + 1 from by simp] at ih
        rw [show (⟨[(1, (.oi a1)), (5, (.oi v1)), (8, (.one (.bor l0_0 (map b_R a0)))), (9, (.oi ((length (map b_R a0)) : Int))), (10, (.oi (IntKind.wrap .i64 ((length p : Int) + 1))))], []⟩ : St) = h76_0 l0_0 a0 a1 ((length p : Int) + 1) v1 from (by unfold h76_0; simp only [hw]; done)] at st
        exact .loopN st ih
/-! loop.example/g00539/impl.totals -/
def m76 (a0 : (List K_R)) (a1 : Int) : Int :=
  (match r76_0 a0 a1 a0 0 0 with | .k0 w0_0 w1_0 w2_0 => w0_0)
theorem e76 {l0_0 : Nat} {a0 : (List K_R)} {a1 : Int} (hy0 : length a0 * 56 ≤ 140737488351232) (hy1 : ∀ z ∈ a0, ok_R z) : Ev F X (.call 76 [(.one (.bor l0_0 (map b_R a0))), (.one (.val (.int .i64 a1)))] [] [] [(.one (.val (.int .i64 (m76 a0 a1))))]) := by
  unfold m76
  cases h0 : r76_0 a0 a1 a0 0 0 with
  | k0 w0_0 w1_0 w2_0 =>
    try dsimp only
    have f0 : (⟨[(1, (.oi a1)), (5, (.oi 0)), (8, (.one (.bor l0_0 (map b_R a0)))), (9, (.oi ((length (map b_R a0)) : Int))), (10, (.oi 0))], []⟩ : St) = h76_0 l0_0 a0 a1 0 0 := (by rfl)
    have f1 : Ev F X (.code l76_0 (h76_0 l0_0 a0 a1 0 0) (.exit 0) ⟨[(1, (.oi a1)), (5, (.oi w0_0)), (8, (.one (.bor l0_0 (map b_R a0)))), (9, (.oi ((length (map b_R a0)) : Int))), (10, (.oi w1_0)), (11, (.one (.val (.bool w2_0))))], []⟩) := (by have t : Ev F X (.code l76_0 (h76_0 l0_0 a0 a1 0 0) (ex76_0 (r76_0 a0 a1 a0 0 0)) (fin76_0 l0_0 a0 a1 (r76_0 a0 a1 a0 0 0))) := t76_0 (l0_0 := l0_0) (a0 := a0) (a1 := a1) (by assumption) (by assumption) a0 [] 0 rfl; rw [h0] at t; exact t)
    exact callP_ok (ps := []) (os := []) (rs := [(.oi w0_0)]) (by kernel_rfl) (.f f0 (.f f1 (.h 10 (.loop (h76_0 l0_0 a0 a1 0 0) (.exit 0) ⟨[(1, (.oi a1)), (5, (.oi w0_0)), (8, (.one (.bor l0_0 (map b_R a0)))), (9, (.oi ((length (map b_R a0)) : Int))), (10, (.oi w1_0)), (11, (.one (.val (.bool w2_0))))], []⟩) .nil)))
end Go.Proofs.YtfmkbpiobddhdaaDoor.PayWorker
