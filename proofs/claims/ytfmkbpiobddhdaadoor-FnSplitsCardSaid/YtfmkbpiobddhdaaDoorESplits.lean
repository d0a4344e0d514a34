/- What the functions compute. -/
import Derived.Test.YtfmkbpiobddhdaaDoorESplitsC
import Derived.KernelRfl
namespace Go.Proofs.YtfmkbpiobddhdaaDoor.Splits
open Go Go.Proofs.YtfmkbpiobddhdaaDoor.V
set_option linter.unusedVariables false
set_option linter.unusedSimpArgs false
set_option maxRecDepth 20000
open List (length_replicate length_map length_set length_append length_cons length_nil length_take length_drop take_of_length_le map_take map_drop map_set append_assoc getElem?_map map length take drop getD set)
attribute [local simp] strInts_len byteRows_len toBR_y fullR_y pureR_y lenB_y lenD_y fromBR_y copy_y toBR_LyE fullR_LyE pureR_LyE lenB_LyE lenD_LyE toBR_b fullR_b pureR_b lenB_b lenD_b fromBR_b copy_b toBR_si fullR_si pureR_si lenB_si lenD_si fromBR_si copy_si toBR_LsiE fullR_LsiE pureR_LsiE lenB_LsiE lenD_LsiE toBR_iLsiE fullR_iLsiE pureR_iLsiE lenB_iLsiE lenD_iLsiE toBR_i fullR_i pureR_i lenB_i lenD_i fromBR_i copy_i toBR_s fullR_s pureR_s lenB_s lenD_s fromBR_s copy_s toBR_LyEi fullR_LyEi pureR_LyEi lenB_LyEi lenD_LyEi toBR_LiE fullR_LiE pureR_LiE lenB_LiE lenD_LiE
/-! loop.example/g00539/laws.FnSplits -/
def m11 (a0 : (List Int)) : Bool :=
  if (m38 a0) = true then true else
  if (((m48 (m47_0 a0) (m47_1 a0)).f0) != 0) = true then (if (((m49 (m47_0 a0) (m47_1 a0)).f0) == ((m48 (m47_0 a0) (m47_1 a0)).f0)) = true then ((m46 (m47_1 a0)) == (m107 (m47_1 a0))) else
      false) else
    if (((length (map d_si ((m45 (m47_1 a0)).f1))) : Int) != ((length (map d_si ((m48 (m47_0 a0) (m47_1 a0)).f1))) : Int)) = true then false else
      if (((m45 (m47_1 a0)).f0) != 0) = true then false else
        (match r11_0 a0 ((m45 (m47_1 a0)).f1) ((m48 (m47_0 a0) (m47_1 a0)).f1) 0 0 0 with | .k0 w0_11 w1_11 w2_11 w3_11 => (match r11_1 a0 w0_11 ((m45 (m47_1 a0)).f1) ((m48 (m47_0 a0) (m47_1 a0)).f1) 0 with | .k0 w0_12 w1_12 => (if (w1_11 == (m47_0 a0)) = true then (decide (((length (map d_si ((m48 (m47_0 a0) (m47_1 a0)).f1))) : Int) > 0)) else false) | .k1 => false))
set_option maxHeartbeats 8000000 in
theorem e11 {l0_0 : Nat} {a0 : (List Int)} (hy0 : ∀ z ∈ a0, (0 : Int) ≤ z ∧ z ≤ 255) (hy1 : length a0 ≤ 140737488351232) : Ev F X (.call 11 [(.one (.bor l0_0 (map b_y a0)))] [] [] [(.one (.val (.bool (m11 a0))))]) := by
  unfold m11
  have f0 : Ev F X (.call 38 [(.one (.bor (l0_0 + 1) (map b_y a0)))] [] [] [(.one (.val (.bool (m38 a0))))]) := (e38 (a0 := a0))
  by_cases h0 : (m38 a0) = true
  · try simp only [if_pos h0]
    exact callP_ok (ps := []) (os := []) (rs := [(.one (.val (.bool true)))]) (by kernel_rfl) (.r 5 [] [] f0 (.f h0 (.h 6 (.b true) .nil)))
  · try simp only [if_neg h0]
    have f2 : Ev F X (.call 47 [(.one (.bor (l0_0 + 1) (map b_y a0)))] [] [] [(.oi (m47_0 a0)), (.one (.own 2 (map d_si (m47_1 a0))))]) := (e47 (a0 := a0) (by with_reducible assumption) (by with_reducible assumption))
    have f3 : 0 + (length (map d_si (m47_1 a0))) ≤ (length (map d_si (m47_1 a0))) := (by omega)
    have f4 : fullR (take (length (map d_si (m47_1 a0))) (drop 0 (map d_si (m47_1 a0)))) = true := (ft_si _ _ _)
    have f5 : toBR (take (length (map d_si (m47_1 a0))) (drop 0 (map d_si (m47_1 a0)))) = (map b_si (m47_1 a0)) := (tb_si _)
    have f6 : Ev F X (.call 48 [(.oi (m47_0 a0)), (.one (.bor 0 (map b_si (m47_1 a0))))] [] [] [(.agg [(.i ((m48 (m47_0 a0) (m47_1 a0)).f0)), (.own 2 (map d_si ((m48 (m47_0 a0) (m47_1 a0)).f1)))])]) := (e48 (a0 := (m47_0 a0)) (a1 := (m47_1 a0)) (by have q := dl47 (a0 := a0) (by with_reducible assumption) (by with_reducible assumption); omega))
    have f7 : 0 = 0 := rfl
    have f8 : (length (map d_si ((m48 (m47_0 a0) (m47_1 a0)).f1))) = (length (map d_si ((m48 (m47_0 a0) (m47_1 a0)).f1))) := rfl
    by_cases h1 : (((m48 (m47_0 a0) (m47_1 a0)).f0) != 0) = true
    · try simp only [if_pos h1]
      have f10 : 0 + (length (map d_si (m47_1 a0))) ≤ (length (map d_si (m47_1 a0))) := (by omega)
      have f11 : fullR (take (length (map d_si (m47_1 a0))) (drop 0 (map d_si (m47_1 a0)))) = true := (ft_si _ _ _)
      have f12 : toBR (take (length (map d_si (m47_1 a0))) (drop 0 (map d_si (m47_1 a0)))) = (map b_si (m47_1 a0)) := (tb_si _)
      have f13 : Ev F X (.call 49 [(.oi (m47_0 a0)), (.one (.bor 0 (map b_si (m47_1 a0))))] [] [] [(.agg [(.i ((m49 (m47_0 a0) (m47_1 a0)).f0)), (.own 2 (map d_si ((m49 (m47_0 a0) (m47_1 a0)).f1)))])]) := (e49 (a0 := (m47_0 a0)) (a1 := (m47_1 a0)) (by have q := dl47 (a0 := a0) (by with_reducible assumption) (by with_reducible assumption); omega) (by with_reducible exact dos _))
      by_cases h2 : (((m49 (m47_0 a0) (m47_1 a0)).f0) == ((m48 (m47_0 a0) (m47_1 a0)).f0)) = true
      · try simp only [if_pos h2]
        have f16 : 0 + (length (map d_si (m47_1 a0))) ≤ (length (map d_si (m47_1 a0))) := (by omega)
        have f17 : fullR (take (length (map d_si (m47_1 a0))) (drop 0 (map d_si (m47_1 a0)))) = true := (ft_si _ _ _)
        have f18 : toBR (take (length (map d_si (m47_1 a0))) (drop 0 (map d_si (m47_1 a0)))) = (map b_si (m47_1 a0)) := (tb_si _)
        have f19 : Ev F X (.call 46 [(.one (.bor 0 (map b_si (m47_1 a0))))] [] [] [(.oi (m46 (m47_1 a0)))]) := (e46 (a0 := (m47_1 a0)) (by have q := dl47 (a0 := a0) (by with_reducible assumption) (by with_reducible assumption); omega))
        have f22 : 0 + (length (map d_si (m47_1 a0))) ≤ (length (map d_si (m47_1 a0))) := (by omega)
        have f23 : fullR (take (length (map d_si (m47_1 a0))) (drop 0 (map d_si (m47_1 a0)))) = true := (ft_si _ _ _)
        have f24 : toBR (take (length (map d_si (m47_1 a0))) (drop 0 (map d_si (m47_1 a0)))) = (map b_si (m47_1 a0)) := (tb_si _)
        have f25 : Ev F X (.call 50 [(.one (.bor 0 (map b_si (m47_1 a0))))] [] [] [(.oi (m107 (m47_1 a0)))]) := (e50 (a0 := (m47_1 a0)) (by have q := dl47 (a0 := a0) (by with_reducible assumption) (by with_reducible assumption); omega) (by with_reducible exact dos _))
        exact callP_ok (ps := []) (os := []) (rs := [(.one (.val (.bool ((m46 (m47_1 a0)) == (m107 (m47_1 a0))))))]) (by kernel_rfl) (.r 5 [] [] f0 (.f (nt h0) (.h 6 (.b false) (.r 10 [] [] f2 (.f f3 (.f f4 (.f f5 (.r 26 [] [(map b_si (m47_1 a0))] f6 (.f f7 (.f f8 (.f h1 (.f f10 (.f f11 (.f f12 (.h 37 (.b true) (.r 43 [] [(map b_si (m47_1 a0))] f13 (.f h2 (.f h2 (.f f16 (.f f17 (.f f18 (.h 54 (.b true) (.h 56 (.b true) (.r 57 [] [(map b_si (m47_1 a0))] f19 (.f h2 (.f h2 (.f f22 (.f f23 (.f f24 (.h 58 (.b true) (.h 60 (.b true) (.r 61 [] [(map b_si (m47_1 a0))] f25 (.f h2 (.f h2 (.h 62 (.b true) (.h 65 (.b true) .nil))))))))))))))))))))))))))))))))))))
      · try simp only [if_neg h2]
        exact callP_ok (ps := []) (os := []) (rs := [(.one (.val (.bool false)))]) (by kernel_rfl) (.r 5 [] [] f0 (.f (nt h0) (.h 6 (.b false) (.r 10 [] [] f2 (.f f3 (.f f4 (.f f5 (.r 26 [] [(map b_si (m47_1 a0))] f6 (.f f7 (.f f8 (.f h1 (.f f10 (.f f11 (.f f12 (.h 37 (.b true) (.r 43 [] [(map b_si (m47_1 a0))] f13 (.f (nt h2) (.f (nt h2) (.f (nt h2) (.f (nt h2) (.f (nt h2) (.f (nt h2) (.h 54 (.b false) (.h 56 (.b false) (.h 58 (.b false) (.h 60 (.b false) (.h 62 (.b false) (.h 65 (.b false) .nil))))))))))))))))))))))))))))
    · try simp only [if_neg h1]
      have f10 : 0 + (length (map d_si (m47_1 a0))) ≤ (length (map d_si (m47_1 a0))) := (by omega)
      have f11 : fullR (take (length (map d_si (m47_1 a0))) (drop 0 (map d_si (m47_1 a0)))) = true := (ft_si _ _ _)
      have f12 : toBR (take (length (map d_si (m47_1 a0))) (drop 0 (map d_si (m47_1 a0)))) = (map b_si (m47_1 a0)) := (tb_si _)
      have f13 : Ev F X (.call 45 [(.one (.bor 0 (map b_si (m47_1 a0))))] [] [] [(.agg [(.i ((m45 (m47_1 a0)).f0)), (.own 2 (map d_si ((m45 (m47_1 a0)).f1)))])]) := (e45 (a0 := (m47_1 a0)) (by have q := dl47 (a0 := a0) (by with_reducible assumption) (by with_reducible assumption); omega))
      have f14 : 0 = 0 := rfl
      have f15 : (length (map d_si ((m45 (m47_1 a0)).f1))) = (length (map d_si ((m45 (m47_1 a0)).f1))) := rfl
      by_cases h2 : (((length (map d_si ((m45 (m47_1 a0)).f1))) : Int) != ((length (map d_si ((m48 (m47_0 a0) (m47_1 a0)).f1))) : Int)) = true
      · try simp only [if_pos h2]
        exact callP_ok (ps := []) (os := []) (rs := [(.one (.val (.bool false)))]) (by kernel_rfl) (.r 5 [] [] f0 (.f (nt h0) (.h 6 (.b false) (.r 10 [] [] f2 (.f f3 (.f f4 (.f f5 (.r 26 [] [(map b_si (m47_1 a0))] f6 (.f f7 (.f f8 (.f (nt h1) (.f f10 (.f f11 (.f f12 (.h 37 (.b false) (.r 41 [] [(map b_si (m47_1 a0))] f13 (.f f14 (.f f15 (.f h2 (.f h2 (.f h2 (.f h2 (.h 62 (.b true) (.h 64 (.b true) (.h 66 (.b true) (.h 69 (.b true) .nil))))))))))))))))))))))))))
      · try simp only [if_neg h2]
        by_cases h3 : (((m45 (m47_1 a0)).f0) != 0) = true
        · try simp only [if_pos h3]
          exact callP_ok (ps := []) (os := []) (rs := [(.one (.val (.bool false)))]) (by kernel_rfl) (.r 5 [] [] f0 (.f (nt h0) (.h 6 (.b false) (.r 10 [] [] f2 (.f f3 (.f f4 (.f f5 (.r 26 [] [(map b_si (m47_1 a0))] f6 (.f f7 (.f f8 (.f (nt h1) (.f f10 (.f f11 (.f f12 (.h 37 (.b false) (.r 41 [] [(map b_si (m47_1 a0))] f13 (.f f14 (.f f15 (.f (nt h2) (.f (nt h2) (.f (nt h2) (.f (nt h2) (.f h3 (.h 62 (.b false) (.h 64 (.b false) (.h 66 (.b false) (.h 69 (.b false) (.h 70 (.b true) .nil))))))))))))))))))))))))))))
        · try simp only [if_neg h3]
          cases h4 : r11_0 a0 ((m45 (m47_1 a0)).f1) ((m48 (m47_0 a0) (m47_1 a0)).f1) 0 0 0 with
          | k0 w0_11 w1_11 w2_11 w3_11 =>
            try dsimp only
            have f21 : (⟨[(3, (.oi (m47_0 a0))), (5, (.ptr ⟨(5, 0, 0), [], 0, 0, 2⟩)), (6, (.ptr ⟨(6, 0, 0), [], 0, 0, 2⟩)), (7, (.oi 0)), (8, (.oi 0)), (9, (.oi 0))], [((5, 0, 0), .live ⟨2, [[(.i ((m48 (m47_0 a0) (m47_1 a0)).f0)), (.own 2 (map d_si ((m48 (m47_0 a0) (m47_1 a0)).f1)))]], []⟩), ((6, 0, 0), .live ⟨2, [[(.i ((m45 (m47_1 a0)).f0)), (.own 2 (map d_si ((m45 (m47_1 a0)).f1)))]], []⟩)]⟩ : St) = h11_0 l0_0 a0 0 0 0 := (by rfl)
            have f22 : Ev F X (.code l11_0 (h11_0 l0_0 a0 0 0 0) (.exit 0) ⟨[(3, (.oi (m47_0 a0))), (5, (.ptr ⟨(5, 0, 0), [], 0, 0, 2⟩)), (6, (.ptr ⟨(6, 0, 0), [], 0, 0, 2⟩)), (7, (.oi w0_11)), (8, (.oi w1_11)), (9, (.oi w2_11)), (58, (.one (.val (.bool w3_11))))], [((5, 0, 0), .live ⟨2, [[(.i ((m48 (m47_0 a0) (m47_1 a0)).f0)), (.own 2 (map d_si ((m48 (m47_0 a0) (m47_1 a0)).f1)))]], []⟩), ((6, 0, 0), .live ⟨2, [[(.i ((m45 (m47_1 a0)).f0)), (.own 2 (map d_si ((m45 (m47_1 a0)).f1)))]], []⟩)]⟩) := (by have t : Ev F X (.code l11_0 (h11_0 l0_0 a0 0 0 0) (ex11_0 (r11_0 a0 ((m45 (m47_1 a0)).f1) ((m48 (m47_0 a0) (m47_1 a0)).f1) 0 0 0)) (fin11_0 l0_0 a0 (r11_0 a0 ((m45 (m47_1 a0)).f1) ((m48 (m47_0 a0) (m47_1 a0)).f1) 0 0 0))) := t11_0 (l0_0 := l0_0) (a0 := a0) (by assumption) (by assumption) ((m45 (m47_1 a0)).f1) ((m48 (m47_0 a0) (m47_1 a0)).f1) [] [] 0 0 rfl rfl rfl (by simp at *; omega); rw [h4] at t; exact t)
            cases h5 : r11_1 a0 w0_11 ((m45 (m47_1 a0)).f1) ((m48 (m47_0 a0) (m47_1 a0)).f1) 0 with
            | k0 w0_12 w1_12 =>
              try dsimp only
              have f23 : (⟨[(3, (.oi (m47_0 a0))), (5, (.ptr ⟨(5, 0, 0), [], 0, 0, 2⟩)), (6, (.ptr ⟨(6, 0, 0), [], 0, 0, 2⟩)), (7, (.oi w0_11)), (8, (.oi w1_11)), (10, (.oi 0))], [((5, 0, 0), .live ⟨2, [[(.i ((m48 (m47_0 a0) (m47_1 a0)).f0)), (.own 2 (map d_si ((m48 (m47_0 a0) (m47_1 a0)).f1)))]], []⟩), ((6, 0, 0), .live ⟨2, [[(.i ((m45 (m47_1 a0)).f0)), (.own 2 (map d_si ((m45 (m47_1 a0)).f1)))]], []⟩)]⟩ : St) = h11_1 l0_0 a0 w0_11 w1_11 0  := (by rfl)
              have f24 : Ev F X (.code l11_1 (h11_1 l0_0 a0 w0_11 w1_11 0 ) (.exit 2) ⟨[(3, (.oi (m47_0 a0))), (5, (.ptr ⟨(5, 0, 0), [], 0, 0, 2⟩)), (6, (.ptr ⟨(6, 0, 0), [], 0, 0, 2⟩)), (7, (.oi w0_11)), (8, (.oi w1_11)), (10, (.oi w0_12)), (81, (.one (.val (.bool w1_12))))], [((5, 0, 0), .live ⟨2, [[(.i ((m48 (m47_0 a0) (m47_1 a0)).f0)), (.own 2 (map d_si ((m48 (m47_0 a0) (m47_1 a0)).f1)))]], []⟩), ((6, 0, 0), .live ⟨2, [[(.i ((m45 (m47_1 a0)).f0)), (.own 2 (map d_si ((m45 (m47_1 a0)).f1)))]], []⟩)]⟩) := (by have t : Ev F X (.code l11_1 (h11_1 l0_0 a0 w0_11 w1_11 0 ) (ex11_1 (r11_1 a0 w0_11 ((m45 (m47_1 a0)).f1) ((m48 (m47_0 a0) (m47_1 a0)).f1) 0)) (fin11_1 l0_0 a0 w0_11 w1_11 (r11_1 a0 w0_11 ((m45 (m47_1 a0)).f1) ((m48 (m47_0 a0) (m47_1 a0)).f1) 0))) := t11_1 (l0_0 := l0_0) (a0 := a0) (c0_11_1 := w0_11) (c1_11_1 := w1_11) (by assumption) (by assumption) ((m45 (m47_1 a0)).f1) ((m48 (m47_0 a0) (m47_1 a0)).f1) [] []  rfl rfl rfl (by simp at *; omega); rw [h5] at t; exact t)
              by_cases h6 : (w1_11 == (m47_0 a0)) = true
              · try simp only [if_pos h6]
                exact callP_ok (ps := []) (os := []) (rs := [(.one (.val (.bool (decide (((length (map d_si ((m48 (m47_0 a0) (m47_1 a0)).f1))) : Int) > 0)))))]) (by kernel_rfl) (.r 5 [] [] f0 (.f (nt h0) (.h 6 (.b false) (.r 10 [] [] f2 (.f f3 (.f f4 (.f f5 (.r 26 [] [(map b_si (m47_1 a0))] f6 (.f f7 (.f f8 (.f (nt h1) (.f f10 (.f f11 (.f f12 (.h 37 (.b false) (.r 41 [] [(map b_si (m47_1 a0))] f13 (.f f14 (.f f15 (.f (nt h2) (.f (nt h2) (.f (nt h2) (.f (nt h2) (.f (nt h3) (.f f21 (.f f22 (.f f23 (.f f24 (.f h6 (.f h6 (.f h6 (.f h6 (.f h6 (.h 62 (.b false) (.h 64 (.b false) (.h 66 (.b false) (.h 69 (.b false) (.h 70 (.b false) (.h 77 (.loop (h11_0 l0_0 a0 0 0 0) (.exit 0) ⟨[(3, (.oi (m47_0 a0))), (5, (.ptr ⟨(5, 0, 0), [], 0, 0, 2⟩)), (6, (.ptr ⟨(6, 0, 0), [], 0, 0, 2⟩)), (7, (.oi w0_11)), (8, (.oi w1_11)), (9, (.oi w2_11)), (58, (.one (.val (.bool w3_11))))], [((5, 0, 0), .live ⟨2, [[(.i ((m48 (m47_0 a0) (m47_1 a0)).f0)), (.own 2 (map d_si ((m48 (m47_0 a0) (m47_1 a0)).f1)))]], []⟩), ((6, 0, 0), .live ⟨2, [[(.i ((m45 (m47_1 a0)).f0)), (.own 2 (map d_si ((m45 (m47_1 a0)).f1)))]], []⟩)]⟩) (.h 80 (.loop (h11_1 l0_0 a0 w0_11 w1_11 0 ) (.exit 2) ⟨[(3, (.oi (m47_0 a0))), (5, (.ptr ⟨(5, 0, 0), [], 0, 0, 2⟩)), (6, (.ptr ⟨(6, 0, 0), [], 0, 0, 2⟩)), (7, (.oi w0_11)), (8, (.oi w1_11)), (10, (.oi w0_12)), (81, (.one (.val (.bool w1_12))))], [((5, 0, 0), .live ⟨2, [[(.i ((m48 (m47_0 a0) (m47_1 a0)).f0)), (.own 2 (map d_si ((m48 (m47_0 a0) (m47_1 a0)).f1)))]], []⟩), ((6, 0, 0), .live ⟨2, [[(.i ((m45 (m47_1 a0)).f0)), (.own 2 (map d_si ((m45 (m47_1 a0)).f1)))]], []⟩)]⟩) (.h 89 (.b true) (.h 91 (.b true) (.h 93 (.b true) (.h 95 (.b true) (.h 98 (.b true) .nil))))))))))))))))))))))))))))))))))))))))))))
              · try simp only [if_neg h6]
                exact callP_ok (ps := []) (os := []) (rs := [(.one (.val (.bool false)))]) (by kernel_rfl) (.r 5 [] [] f0 (.f (nt h0) (.h 6 (.b false) (.r 10 [] [] f2 (.f f3 (.f f4 (.f f5 (.r 26 [] [(map b_si (m47_1 a0))] f6 (.f f7 (.f f8 (.f (nt h1) (.f f10 (.f f11 (.f f12 (.h 37 (.b false) (.r 41 [] [(map b_si (m47_1 a0))] f13 (.f f14 (.f f15 (.f (nt h2) (.f (nt h2) (.f (nt h2) (.f (nt h2) (.f (nt h3) (.f f21 (.f f22 (.f f23 (.f f24 (.f (nt h6) (.f (nt h6) (.f (nt h6) (.f (nt h6) (.f (nt h6) (.h 62 (.b false) (.h 64 (.b false) (.h 66 (.b false) (.h 69 (.b false) (.h 70 (.b false) (.h 77 (.loop (h11_0 l0_0 a0 0 0 0) (.exit 0) ⟨[(3, (.oi (m47_0 a0))), (5, (.ptr ⟨(5, 0, 0), [], 0, 0, 2⟩)), (6, (.ptr ⟨(6, 0, 0), [], 0, 0, 2⟩)), (7, (.oi w0_11)), (8, (.oi w1_11)), (9, (.oi w2_11)), (58, (.one (.val (.bool w3_11))))], [((5, 0, 0), .live ⟨2, [[(.i ((m48 (m47_0 a0) (m47_1 a0)).f0)), (.own 2 (map d_si ((m48 (m47_0 a0) (m47_1 a0)).f1)))]], []⟩), ((6, 0, 0), .live ⟨2, [[(.i ((m45 (m47_1 a0)).f0)), (.own 2 (map d_si ((m45 (m47_1 a0)).f1)))]], []⟩)]⟩) (.h 80 (.loop (h11_1 l0_0 a0 w0_11 w1_11 0 ) (.exit 2) ⟨[(3, (.oi (m47_0 a0))), (5, (.ptr ⟨(5, 0, 0), [], 0, 0, 2⟩)), (6, (.ptr ⟨(6, 0, 0), [], 0, 0, 2⟩)), (7, (.oi w0_11)), (8, (.oi w1_11)), (10, (.oi w0_12)), (81, (.one (.val (.bool w1_12))))], [((5, 0, 0), .live ⟨2, [[(.i ((m48 (m47_0 a0) (m47_1 a0)).f0)), (.own 2 (map d_si ((m48 (m47_0 a0) (m47_1 a0)).f1)))]], []⟩), ((6, 0, 0), .live ⟨2, [[(.i ((m45 (m47_1 a0)).f0)), (.own 2 (map d_si ((m45 (m47_1 a0)).f1)))]], []⟩)]⟩) (.h 89 (.b false) (.h 91 (.b false) (.h 93 (.b false) (.h 95 (.b false) (.h 98 (.b false) .nil))))))))))))))))))))))))))))))))))))))))))))
            | k1 =>
              try dsimp only
              have f23 : (⟨[(3, (.oi (m47_0 a0))), (5, (.ptr ⟨(5, 0, 0), [], 0, 0, 2⟩)), (6, (.ptr ⟨(6, 0, 0), [], 0, 0, 2⟩)), (7, (.oi w0_11)), (8, (.oi w1_11)), (10, (.oi 0))], [((5, 0, 0), .live ⟨2, [[(.i ((m48 (m47_0 a0) (m47_1 a0)).f0)), (.own 2 (map d_si ((m48 (m47_0 a0) (m47_1 a0)).f1)))]], []⟩), ((6, 0, 0), .live ⟨2, [[(.i ((m45 (m47_1 a0)).f0)), (.own 2 (map d_si ((m45 (m47_1 a0)).f1)))]], []⟩)]⟩ : St) = h11_1 l0_0 a0 w0_11 w1_11 0  := (by rfl)
              have f24 : Ev F X (.code l11_1 (h11_1 l0_0 a0 w0_11 w1_11 0 ) .ret ⟨[(2, (.one (.val (.bool false))))], []⟩) := (by have t : Ev F X (.code l11_1 (h11_1 l0_0 a0 w0_11 w1_11 0 ) (ex11_1 (r11_1 a0 w0_11 ((m45 (m47_1 a0)).f1) ((m48 (m47_0 a0) (m47_1 a0)).f1) 0)) (fin11_1 l0_0 a0 w0_11 w1_11 (r11_1 a0 w0_11 ((m45 (m47_1 a0)).f1) ((m48 (m47_0 a0) (m47_1 a0)).f1) 0))) := t11_1 (l0_0 := l0_0) (a0 := a0) (c0_11_1 := w0_11) (c1_11_1 := w1_11) (by assumption) (by assumption) ((m45 (m47_1 a0)).f1) ((m48 (m47_0 a0) (m47_1 a0)).f1) [] []  rfl rfl rfl (by simp at *; omega); rw [h5] at t; exact t)
              exact callP_ok (ps := []) (os := []) (rs := [(.one (.val (.bool false)))]) (by kernel_rfl) (.r 5 [] [] f0 (.f (nt h0) (.h 6 (.b false) (.r 10 [] [] f2 (.f f3 (.f f4 (.f f5 (.r 26 [] [(map b_si (m47_1 a0))] f6 (.f f7 (.f f8 (.f (nt h1) (.f f10 (.f f11 (.f f12 (.h 37 (.b false) (.r 41 [] [(map b_si (m47_1 a0))] f13 (.f f14 (.f f15 (.f (nt h2) (.f (nt h2) (.f (nt h2) (.f (nt h2) (.f (nt h3) (.f f21 (.f f22 (.f f23 (.f f24 (.h 62 (.b false) (.h 64 (.b false) (.h 66 (.b false) (.h 69 (.b false) (.h 70 (.b false) (.h 77 (.loop (h11_0 l0_0 a0 0 0 0) (.exit 0) ⟨[(3, (.oi (m47_0 a0))), (5, (.ptr ⟨(5, 0, 0), [], 0, 0, 2⟩)), (6, (.ptr ⟨(6, 0, 0), [], 0, 0, 2⟩)), (7, (.oi w0_11)), (8, (.oi w1_11)), (9, (.oi w2_11)), (58, (.one (.val (.bool w3_11))))], [((5, 0, 0), .live ⟨2, [[(.i ((m48 (m47_0 a0) (m47_1 a0)).f0)), (.own 2 (map d_si ((m48 (m47_0 a0) (m47_1 a0)).f1)))]], []⟩), ((6, 0, 0), .live ⟨2, [[(.i ((m45 (m47_1 a0)).f0)), (.own 2 (map d_si ((m45 (m47_1 a0)).f1)))]], []⟩)]⟩) (.h 80 (.loop (h11_1 l0_0 a0 w0_11 w1_11 0 ) .ret ⟨[(2, (.one (.val (.bool false))))], []⟩) .nil))))))))))))))))))))))))))))))))))
theorem X_ok (f : FuncId) (args : List SV) (rs : List Ret) (h : X f args rs) : CallOK Tryd.prog f args [] [] rs := by
  rcases h with ⟨rfl, h⟩
  · obtain ⟨s, c, h1, h2, h3, rfl, rfl⟩ := h
    exact trim_ok s c h1 h2 h3
end Go.Proofs.YtfmkbpiobddhdaaDoor.Splits
