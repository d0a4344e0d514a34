/- What the functions compute. -/
import Derived.Test.YtdnopbpdiineiaaDoorEOpenSessionB
import Derived.KernelRfl
namespace Go.Proofs.YtdnopbpdiineiaaDoor.OpenSession
open Go Go.Proofs.YtdnopbpdiineiaaDoor.V
set_option linter.unusedVariables false
set_option linter.unusedSimpArgs false
set_option maxRecDepth 20000
open List (length_replicate length_map length_set length_append length_cons length_nil length_take length_drop take_of_length_le map_take map_drop map_set append_assoc getElem?_map map length take drop getD set)
attribute [local simp] toBR_sisi fullR_sisi pureR_sisi lenB_sisi lenD_sisi fromBR_sisi copy_sisi toBR_LsisiEi fullR_LsisiEi pureR_LsisiEi lenB_LsisiEi lenD_LsisiEi toBR_b fullR_b pureR_b lenB_b lenD_b fromBR_b copy_b toBR_i fullR_i pureR_i lenB_i lenD_i fromBR_i copy_i toBR_s fullR_s pureR_s lenB_s lenD_s fromBR_s copy_s toBR_iisiiii fullR_iisiiii pureR_iisiiii lenB_iisiiii lenD_iisiiii fromBR_iisiiii copy_iisiiii toBR_iLsELiisiiiiELsisiEi fullR_iLsELiisiiiiELsisiEi pureR_iLsELiisiiiiELsisiEi lenB_iLsELiisiiiiELsisiEi lenD_iLsELiisiiiiELsisiEi toBR_LsisiE fullR_LsisiE pureR_LsisiE lenB_LsisiE lenD_LsisiE toBR_LsE fullR_LsE pureR_LsE lenB_LsE lenD_LsE toBR_LiisiiiiE fullR_LiisiiiiE pureR_LiisiiiiE lenB_LiisiiiiE lenD_LiisiiiiE strInts_len byteRows_len toBR_y fullR_y pureR_y lenB_y lenD_y fromBR_y copy_y
/-! loop 107_0 -/
inductive O107_0 where
  | k0 (w0 : Int) (w1 : Int) (w2 : Bool)
  | k1
def r107_0 (a0 : (List K_iisiiii)) : List K_iisiiii → Int → Int → O107_0
  | x0 :: y0, i, v0 =>
    if (x0.f0 != v0) = true then (O107_0.k1) else
    if (x0.f1 != (IntKind.wrap .i64 (v0 + 1))) = true then (O107_0.k1) else
      if (!(x0.f2.toList == (m82 (IntKind.wrap .i64 ((IntKind.wrap .i64 (v0 + 1)) + 1))).toList)) = true then (O107_0.k1) else
        if (x0.f3 != (IntKind.wrap .i64 ((IntKind.wrap .i64 ((IntKind.wrap .i64 (v0 + 1)) + 1)) + 1))) = true then (O107_0.k1) else
          if (x0.f4 != (IntKind.wrap .i64 ((IntKind.wrap .i64 ((IntKind.wrap .i64 ((IntKind.wrap .i64 (v0 + 1)) + 1)) + 1)) + 1))) = true then (O107_0.k1) else
            if (x0.f5 != (IntKind.wrap .i64 ((IntKind.wrap .i64 ((IntKind.wrap .i64 ((IntKind.wrap .i64 ((IntKind.wrap .i64 (v0 + 1)) + 1)) + 1)) + 1)) + 1))) = true then (O107_0.k1) else
              if (x0.f6 != (IntKind.wrap .i64 ((IntKind.wrap .i64 ((IntKind.wrap .i64 ((IntKind.wrap .i64 ((IntKind.wrap .i64 ((IntKind.wrap .i64 (v0 + 1)) + 1)) + 1)) + 1)) + 1)) + 1))) = true then (O107_0.k1) else
                (r107_0 a0 y0 (i + 1) (IntKind.wrap .i64 ((IntKind.wrap .i64 ((IntKind.wrap .i64 ((IntKind.wrap .i64 ((IntKind.wrap .i64 ((IntKind.wrap .i64 ((IntKind.wrap .i64 (v0 + 1)) + 1)) + 1)) + 1)) + 1)) + 1)) + 1)))
  | [], i, v0 => (O107_0.k0 v0 i (decide (i < ((length (map b_iisiiii a0)) : Int))))
def h107_0 (l0_0 : Nat) (a0 : (List K_iisiiii)) (a1 : Int) (i : Int) (v0 : Int) : St := ⟨[(0, (.one (.bor l0_0 (map b_iisiiii a0)))), (1, (.one (.val (.int .i64 v0)))), (5, (.one (.val (.int .i64 i))))], []⟩
def ex107_0 : O107_0 → VX.Exit
  | .k0 _ _ _ => (.exit 0)
  | .k1 => .ret
def fin107_0 (l0_0 : Nat) (a0 : (List K_iisiiii)) (a1 : Int) : O107_0 → St
  | .k0 w0 w1 w2 => ⟨[(0, (.one (.bor l0_0 (map b_iisiiii a0)))), (1, (.one (.val (.int .i64 w0)))), (5, (.one (.val (.int .i64 w1)))), (9, (.one (.val (.bool w2))))], []⟩
  | .k1 => ⟨[(4, (.one (.val (.int .i64 (-1)))))], []⟩
theorem t107_0 {l0_0 : Nat} {a0 : (List K_iisiiii)} {a1 : Int} (hy0 : length a0 * 64 ≤ 140737488351232) : ∀ (y0 : List K_iisiiii) (p : List K_iisiiii) (v0 : Int), p ++ y0 = a0 → Ev F X (.code l107_0 (h107_0 l0_0 a0 a1 (length p : Int) v0) (ex107_0 (r107_0 a0 y0 (length p : Int) v0)) (fin107_0 l0_0 a0 a1 (r107_0 a0 y0 (length p : Int) v0)))
  | [], p, v0, hp0 => by
    have hc : ¬ (decide ((length p : Int) < ((length (map b_iisiiii a0)) : Int))) = true := by
      rw [← hp0]; simp only [length_map, length_set, length_append, length_replicate, length_cons, length_nil, decide_eq_true_eq]; omega
    have st := codeH_ok (F := F) (X := X) (c := b107_0) (t := 0) (hs := [(8, .b false)]) (σ := h107_0 l0_0 a0 a1 (length p : Int) v0) (σ' := fin107_0 l0_0 a0 a1 (.k0 v0 (length p : Int) (decide ((length p : Int) < ((length (map b_iisiiii a0)) : Int))))) (e := (.exit 0)) (t' := 9) (hs' := []) (q := [(decide ((length p : Int) < ((length (map b_iisiiii a0)) : Int))) = false]) (by kernel_rfl) ⟨(nt hc), trivial⟩
    exact .loopX st (show ((.exit 0) : VX.Exit) ≠ .normal from by simp)
  | x0 :: y0, p, v0, hp0 => by
    have hc : (decide ((length p : Int) < ((length (map b_iisiiii a0)) : Int))) = true := by
      rw [← hp0]; simp only [length_map, length_set, length_append, length_replicate, length_cons, length_nil, decide_eq_true_eq]; omega
    have Hx0 : (a0)[Int.toNat (length p : Int)]? = some x0 := by
      rw [← hp0, Int.toNat_natCast]; simp
    have hlen : length (a0) = length p + length y0 + 1 := by rw [← hp0]; simp; omega
    have hw : IntKind.wrap .i64 ((length p : Int) + 1) = (length p : Int) + 1 := wrap64 (by omega)
    simp only [r107_0]
    by_cases h_1 : (x0.f0 != v0) = true
    · try simp only [if_pos h_1]
      have st := codeH_ok (F := F) (X := X) (c := b107_0) (t := 0) (hs := [(8, .b true), (14, .row [(.i x0.f0), (.i x0.f1), (.val (.string x0.f2)), (.i x0.f3), (.i x0.f4), (.i x0.f5), (.i x0.f6)]), (23, .b true)]) (σ := h107_0 l0_0 a0 a1 (length p : Int) v0) (σ' := fin107_0 l0_0 a0 a1 (.k1)) (e := .ret) (t' := 26) (hs' := []) (q := [(decide ((length p : Int) < ((length (map b_iisiiii a0)) : Int))) = true, 0 ≤ (length p : Int), (map b_iisiiii a0)[(Int.toNat (length p : Int))]? = some [(.i x0.f0), (.i x0.f1), (.val (.string x0.f2)), (.i x0.f3), (.i x0.f4), (.i x0.f5), (.i x0.f6)], (x0.f0 != v0) = true]) (by kernel_rfl) ⟨hc, (by omega), (by rw [getElem?_map, Hx0]; rfl), h_1, trivial⟩
      exact .loopX st (show (.ret : VX.Exit) ≠ .normal from by simp)
    · try simp only [if_neg h_1]
      by_cases h_2 : (x0.f1 != (IntKind.wrap .i64 (v0 + 1))) = true
      · try simp only [if_pos h_2]
        have st := codeH_ok (F := F) (X := X) (c := b107_0) (t := 0) (hs := [(8, .b true), (14, .row [(.i x0.f0), (.i x0.f1), (.val (.string x0.f2)), (.i x0.f3), (.i x0.f4), (.i x0.f5), (.i x0.f6)]), (23, .b false), (35, .row [(.i x0.f0), (.i x0.f1), (.val (.string x0.f2)), (.i x0.f3), (.i x0.f4), (.i x0.f5), (.i x0.f6)]), (44, .b true)]) (σ := h107_0 l0_0 a0 a1 (length p : Int) v0) (σ' := fin107_0 l0_0 a0 a1 (.k1)) (e := .ret) (t' := 47) (hs' := []) (q := [(decide ((length p : Int) < ((length (map b_iisiiii a0)) : Int))) = true, 0 ≤ (length p : Int), (map b_iisiiii a0)[(Int.toNat (length p : Int))]? = some [(.i x0.f0), (.i x0.f1), (.val (.string x0.f2)), (.i x0.f3), (.i x0.f4), (.i x0.f5), (.i x0.f6)], (x0.f0 != v0) = false, True, 0 ≤ (length p : Int), (map b_iisiiii a0)[(Int.toNat (length p : Int))]? = some [(.i x0.f0), (.i x0.f1), (.val (.string x0.f2)), (.i x0.f3), (.i x0.f4), (.i x0.f5), (.i x0.f6)], (x0.f1 != (IntKind.wrap .i64 (v0 + 1))) = true]) (by kernel_rfl) ⟨hc, (by omega), (by rw [getElem?_map, Hx0]; rfl), (nt h_1), trivial, (by omega), (by rw [getElem?_map, Hx0]; rfl), h_2, trivial⟩
        exact .loopX st (show (.ret : VX.Exit) ≠ .normal from by simp)
      · try simp only [if_neg h_2]
        by_cases h_3 : (!(x0.f2.toList == (m82 (IntKind.wrap .i64 ((IntKind.wrap .i64 (v0 + 1)) + 1))).toList)) = true
        · try simp only [if_pos h_3]
          have st := codeH_ok (F := F) (X := X) (c := b107_0) (t := 0) (hs := [(8, .b true), (14, .row [(.i x0.f0), (.i x0.f1), (.val (.string x0.f2)), (.i x0.f3), (.i x0.f4), (.i x0.f5), (.i x0.f6)]), (23, .b false), (35, .row [(.i x0.f0), (.i x0.f1), (.val (.string x0.f2)), (.i x0.f3), (.i x0.f4), (.i x0.f5), (.i x0.f6)]), (44, .b false), (56, .row [(.i x0.f0), (.i x0.f1), (.val (.string x0.f2)), (.i x0.f3), (.i x0.f4), (.i x0.f5), (.i x0.f6)]), (64, .ret [] [(.one (.val (.string (m82 (IntKind.wrap .i64 ((IntKind.wrap .i64 (v0 + 1)) + 1))))))] [] []), (67, .b true)]) (σ := h107_0 l0_0 a0 a1 (length p : Int) v0) (σ' := fin107_0 l0_0 a0 a1 (.k1)) (e := .ret) (t' := 70) (hs' := []) (q := [(decide ((length p : Int) < ((length (map b_iisiiii a0)) : Int))) = true, 0 ≤ (length p : Int), (map b_iisiiii a0)[(Int.toNat (length p : Int))]? = some [(.i x0.f0), (.i x0.f1), (.val (.string x0.f2)), (.i x0.f3), (.i x0.f4), (.i x0.f5), (.i x0.f6)], (x0.f0 != v0) = false, True, 0 ≤ (length p : Int), (map b_iisiiii a0)[(Int.toNat (length p : Int))]? = some [(.i x0.f0), (.i x0.f1), (.val (.string x0.f2)), (.i x0.f3), (.i x0.f4), (.i x0.f5), (.i x0.f6)], (x0.f1 != (IntKind.wrap .i64 (v0 + 1))) = false, True, 0 ≤ (length p : Int), (map b_iisiiii a0)[(Int.toNat (length p : Int))]? = some [(.i x0.f0), (.i x0.f1), (.val (.string x0.f2)), (.i x0.f3), (.i x0.f4), (.i x0.f5), (.i x0.f6)], Ev F X (.call 82 [(.oi (IntKind.wrap .i64 ((IntKind.wrap .i64 (v0 + 1)) + 1)))] [] [] [(.one (.val (.string (m82 (IntKind.wrap .i64 ((IntKind.wrap .i64 (v0 + 1)) + 1))))))]), (!(x0.f2.toList == (m82 (IntKind.wrap .i64 ((IntKind.wrap .i64 (v0 + 1)) + 1))).toList)) = true]) (by kernel_rfl) ⟨hc, (by omega), (by rw [getElem?_map, Hx0]; rfl), (nt h_1), trivial, (by omega), (by rw [getElem?_map, Hx0]; rfl), (nt h_2), trivial, (by omega), (by rw [getElem?_map, Hx0]; rfl), (e82 (a0 := (IntKind.wrap .i64 ((IntKind.wrap .i64 (v0 + 1)) + 1)))), h_3, trivial⟩
          exact .loopX st (show (.ret : VX.Exit) ≠ .normal from by simp)
        · try simp only [if_neg h_3]
          by_cases h_4 : (x0.f3 != (IntKind.wrap .i64 ((IntKind.wrap .i64 ((IntKind.wrap .i64 (v0 + 1)) + 1)) + 1))) = true
          · try simp only [if_pos h_4]
            have st := codeH_ok (F := F) (X := X) (c := b107_0) (t := 0) (hs := [(8, .b true), (14, .row [(.i x0.f0), (.i x0.f1), (.val (.string x0.f2)), (.i x0.f3), (.i x0.f4), (.i x0.f5), (.i x0.f6)]), (23, .b false), (35, .row [(.i x0.f0), (.i x0.f1), (.val (.string x0.f2)), (.i x0.f3), (.i x0.f4), (.i x0.f5), (.i x0.f6)]), (44, .b false), (56, .row [(.i x0.f0), (.i x0.f1), (.val (.string x0.f2)), (.i x0.f3), (.i x0.f4), (.i x0.f5), (.i x0.f6)]), (64, .ret [] [(.one (.val (.string (m82 (IntKind.wrap .i64 ((IntKind.wrap .i64 (v0 + 1)) + 1))))))] [] []), (67, .b false), (79, .row [(.i x0.f0), (.i x0.f1), (.val (.string x0.f2)), (.i x0.f3), (.i x0.f4), (.i x0.f5), (.i x0.f6)]), (88, .b true)]) (σ := h107_0 l0_0 a0 a1 (length p : Int) v0) (σ' := fin107_0 l0_0 a0 a1 (.k1)) (e := .ret) (t' := 91) (hs' := []) (q := [(decide ((length p : Int) < ((length (map b_iisiiii a0)) : Int))) = true, 0 ≤ (length p : Int), (map b_iisiiii a0)[(Int.toNat (length p : Int))]? = some [(.i x0.f0), (.i x0.f1), (.val (.string x0.f2)), (.i x0.f3), (.i x0.f4), (.i x0.f5), (.i x0.f6)], (x0.f0 != v0) = false, True, 0 ≤ (length p : Int), (map b_iisiiii a0)[(Int.toNat (length p : Int))]? = some [(.i x0.f0), (.i x0.f1), (.val (.string x0.f2)), (.i x0.f3), (.i x0.f4), (.i x0.f5), (.i x0.f6)], (x0.f1 != (IntKind.wrap .i64 (v0 + 1))) = false, True, 0 ≤ (length p : Int), (map b_iisiiii a0)[(Int.toNat (length p : Int))]? = some [(.i x0.f0), (.i x0.f1), (.val (.string x0.f2)), (.i x0.f3), (.i x0.f4), (.i x0.f5), (.i x0.f6)], Ev F X (.call 82 [(.oi (IntKind.wrap .i64 ((IntKind.wrap .i64 (v0 + 1)) + 1)))] [] [] [(.one (.val (.string (m82 (IntKind.wrap .i64 ((IntKind.wrap .i64 (v0 + 1)) + 1))))))]), (!(x0.f2.toList == (m82 (IntKind.wrap .i64 ((IntKind.wrap .i64 (v0 + 1)) + 1))).toList)) = false, True, 0 ≤ (length p : Int), (map b_iisiiii a0)[(Int.toNat (length p : Int))]? = some [(.i x0.f0), (.i x0.f1), (.val (.string x0.f2)), (.i x0.f3), (.i x0.f4), (.i x0.f5), (.i x0.f6)], (x0.f3 != (IntKind.wrap .i64 ((IntKind.wrap .i64 ((IntKind.wrap .i64 (v0 + 1)) + 1)) + 1))) = true]) (by kernel_rfl) ⟨hc, (by omega), (by rw [getElem?_map, Hx0]; rfl), (nt h_1), trivial, (by omega), (by rw [getElem?_map, Hx0]; rfl), (nt h_2), trivial, (by omega), (by rw [getElem?_map, Hx0]; rfl), (e82 (a0 := (IntKind.wrap .i64 ((IntKind.wrap .i64 (v0 + 1)) + 1)))), (nt h_3), trivial, (by omega), (by rw [getElem?_map, Hx0]; rfl), h_4, trivial⟩
            exact .loopX st (show (.ret : VX.Exit) ≠ .normal from by simp)
          · try simp only [if_neg h_4]
            by_cases h_5 : (x0.f4 != (IntKind.wrap .i64 ((IntKind.wrap .i64 ((IntKind.wrap .i64 ((IntKind.wrap .i64 (v0 + 1)) + 1)) + 1)) + 1))) = true
            · try simp only [if_pos h_5]
              have st := codeH_ok (F := F) (X := X) (c := b107_0) (t := 0) (hs := [(8, .b true), (14, .row [(.i x0.f0), (.i x0.f1), (.val (.string x0.f2)), (.i x0.f3), (.i x0.f4), (.i x0.f5), (.i x0.f6)]), (23, .b false), (35, .row [(.i x0.f0), (.i x0.f1), (.val (.string x0.f2)), (.i x0.f3), (.i x0.f4), (.i x0.f5), (.i x0.f6)]), (44, .b false), (56, .row [(.i x0.f0), (.i x0.f1), (.val (.string x0.f2)), (.i x0.f3), (.i x0.f4), (.i x0.f5), (.i x0.f6)]), (64, .ret [] [(.one (.val (.string (m82 (IntKind.wrap .i64 ((IntKind.wrap .i64 (v0 + 1)) + 1))))))] [] []), (67, .b false), (79, .row [(.i x0.f0), (.i x0.f1), (.val (.string x0.f2)), (.i x0.f3), (.i x0.f4), (.i x0.f5), (.i x0.f6)]), (88, .b false), (100, .row [(.i x0.f0), (.i x0.f1), (.val (.string x0.f2)), (.i x0.f3), (.i x0.f4), (.i x0.f5), (.i x0.f6)]), (109, .b true)]) (σ := h107_0 l0_0 a0 a1 (length p : Int) v0) (σ' := fin107_0 l0_0 a0 a1 (.k1)) (e := .ret) (t' := 112) (hs' := []) (q := [(decide ((length p : Int) < ((length (map b_iisiiii a0)) : Int))) = true, 0 ≤ (length p : Int), (map b_iisiiii a0)[(Int.toNat (length p : Int))]? = some [(.i x0.f0), (.i x0.f1), (.val (.string x0.f2)), (.i x0.f3), (.i x0.f4), (.i x0.f5), (.i x0.f6)], (x0.f0 != v0) = false, True, 0 ≤ (length p : Int), (map b_iisiiii a0)[(Int.toNat (length p : Int))]? = some [(.i x0.f0), (.i x0.f1), (.val (.string x0.f2)), (.i x0.f3), (.i x0.f4), (.i x0.f5), (.i x0.f6)], (x0.f1 != (IntKind.wrap .i64 (v0 + 1))) = false, True, 0 ≤ (length p : Int), (map b_iisiiii a0)[(Int.toNat (length p : Int))]? = some [(.i x0.f0), (.i x0.f1), (.val (.string x0.f2)), (.i x0.f3), (.i x0.f4), (.i x0.f5), (.i x0.f6)], Ev F X (.call 82 [(.oi (IntKind.wrap .i64 ((IntKind.wrap .i64 (v0 + 1)) + 1)))] [] [] [(.one (.val (.string (m82 (IntKind.wrap .i64 ((IntKind.wrap .i64 (v0 + 1)) + 1))))))]), (!(x0.f2.toList == (m82 (IntKind.wrap .i64 ((IntKind.wrap .i64 (v0 + 1)) + 1))).toList)) = false, True, 0 ≤ (length p : Int), (map b_iisiiii a0)[(Int.toNat (length p : Int))]? = some [(.i x0.f0), (.i x0.f1), (.val (.string x0.f2)), (.i x0.f3), (.i x0.f4), (.i x0.f5), (.i x0.f6)], (x0.f3 != (IntKind.wrap .i64 ((IntKind.wrap .i64 ((IntKind.wrap .i64 (v0 + 1)) + 1)) + 1))) = false, True, 0 ≤ (length p : Int), (map b_iisiiii a0)[(Int.toNat (length p : Int))]? = some [(.i x0.f0), (.i x0.f1), (.val (.string x0.f2)), (.i x0.f3), (.i x0.f4), (.i x0.f5), (.i x0.f6)], (x0.f4 != (IntKind.wrap .i64 ((IntKind.wrap .i64 ((IntKind.wrap .i64 ((IntKind.wrap .i64 (v0 + 1)) + 1)) + 1)) + 1))) = true]) (by kernel_rfl) ⟨hc, (by omega), (by rw [getElem?_map, Hx0]; rfl), (nt h_1), trivial, (by omega), (by rw [getElem?_map, Hx0]; rfl), (nt h_2), trivial, (by omega), (by rw [getElem?_map, Hx0]; rfl), (e82 (a0 := (IntKind.wrap .i64 ((IntKind.wrap .i64 (v0 + 1)) + 1)))), (nt h_3), trivial, (by omega), (by rw [getElem?_map, Hx0]; rfl), (nt h_4), trivial, (by omega), (by rw [getElem?_map, Hx0]; rfl), h_5, trivial⟩
              exact .loopX st (show (.ret : VX.Exit) ≠ .normal from by simp)
            · try simp only [if_neg h_5]
              by_cases h_6 : (x0.f5 != (IntKind.wrap .i64 ((IntKind.wrap .i64 ((IntKind.wrap .i64 ((IntKind.wrap .i64 ((IntKind.wrap .i64 (v0 + 1)) + 1)) + 1)) + 1)) + 1))) = true
              · try simp only [if_pos h_6]
                have st := codeH_ok (F := F) (X := X) (c := b107_0) (t := 0) (hs := [(8, .b true), (14, .row [(.i x0.f0), (.i x0.f1), (.val (.string x0.f2)), (.i x0.f3), (.i x0.f4), (.i x0.f5), (.i x0.f6)]), (23, .b false), (35, .row [(.i x0.f0), (.i x0.f1), (.val (.string x0.f2)), (.i x0.f3), (.i x0.f4), (.i x0.f5), (.i x0.f6)]), (44, .b false), (56, .row [(.i x0.f0), (.i x0.f1), (.val (.string x0.f2)), (.i x0.f3), (.i x0.f4), (.i x0.f5), (.i x0.f6)]), (64, .ret [] [(.one (.val (.string (m82 (IntKind.wrap .i64 ((IntKind.wrap .i64 (v0 + 1)) + 1))))))] [] []), (67, .b false), (79, .row [(.i x0.f0), (.i x0.f1), (.val (.string x0.f2)), (.i x0.f3), (.i x0.f4), (.i x0.f5), (.i x0.f6)]), (88, .b false), (100, .row [(.i x0.f0), (.i x0.f1), (.val (.string x0.f2)), (.i x0.f3), (.i x0.f4), (.i x0.f5), (.i x0.f6)]), (109, .b false), (121, .row [(.i x0.f0), (.i x0.f1), (.val (.string x0.f2)), (.i x0.f3), (.i x0.f4), (.i x0.f5), (.i x0.f6)]), (130, .b true)]) (σ := h107_0 l0_0 a0 a1 (length p : Int) v0) (σ' := fin107_0 l0_0 a0 a1 (.k1)) (e := .ret) (t' := 133) (hs' := []) (q := [(decide ((length p : Int) < ((length (map b_iisiiii a0)) : Int))) = true, 0 ≤ (length p : Int), (map b_iisiiii a0)[(Int.toNat (length p : Int))]? = some [(.i x0.f0), (.i x0.f1), (.val (.string x0.f2)), (.i x0.f3), (.i x0.f4), (.i x0.f5), (.i x0.f6)], (x0.f0 != v0) = false, True, 0 ≤ (length p : Int), (map b_iisiiii a0)[(Int.toNat (length p : Int))]? = some [(.i x0.f0), (.i x0.f1), (.val (.string x0.f2)), (.i x0.f3), (.i x0.f4), (.i x0.f5), (.i x0.f6)], (x0.f1 != (IntKind.wrap .i64 (v0 + 1))) = false, True, 0 ≤ (length p : Int), (map b_iisiiii a0)[(Int.toNat (length p : Int))]? = some [(.i x0.f0), (.i x0.f1), (.val (.string x0.f2)), (.i x0.f3), (.i x0.f4), (.i x0.f5), (.i x0.f6)], Ev F X (.call 82 [(.oi (IntKind.wrap .i64 ((IntKind.wrap .i64 (v0 + 1)) + 1)))] [] [] [(.one (.val (.string (m82 (IntKind.wrap .i64 ((IntKind.wrap .i64 (v0 + 1)) + 1))))))]), (!(x0.f2.toList == (m82 (IntKind.wrap .i64 ((IntKind.wrap .i64 (v0 + 1)) + 1))).toList)) = false, True, 0 ≤ (length p : Int), (map b_iisiiii a0)[(Int.toNat (length p : Int))]? = some [(.i x0.f0), (.i x0.f1), (.val (.string x0.f2)), (.i x0.f3), (.i x0.f4), (.i x0.f5), (.i x0.f6)], (x0.f3 != (IntKind.wrap .i64 ((IntKind.wrap .i64 ((IntKind.wrap .i64 (v0 + 1)) + 1)) + 1))) = false, True, 0 ≤ (length p : Int), (map b_iisiiii a0)[(Int.toNat (length p : Int))]? = some [(.i x0.f0), (.i x0.f1), (.val (.string x0.f2)), (.i x0.f3), (.i x0.f4), (.i x0.f5), (.i x0.f6)], (x0.f4 != (IntKind.wrap .i64 ((IntKind.wrap .i64 ((IntKind.wrap .i64 ((IntKind.wrap .i64 (v0 + 1)) + 1)) + 1)) + 1))) = false, True, 0 ≤ (length p : Int), (map b_iisiiii a0)[(Int.toNat (length p : Int))]? = some [(.i x0.f0), (.i x0.f1), (.val (.string x0.f2)), (.i x0.f3), (.i x0.f4), (.i x0.f5), (.i x0.f6)], (x0.f5 != (IntKind.wrap .i64 ((IntKind.wrap .i64 ((IntKind.wrap .i64 ((IntKind.wrap .i64 ((IntKind.wrap .i64 (v0 + 1)) + 1)) + 1)) + 1)) + 1))) = true]) (by kernel_rfl) ⟨hc, (by omega), (by rw [getElem?_map, Hx0]; rfl), (nt h_1), trivial, (by omega), (by rw [getElem?_map, Hx0]; rfl), (nt h_2), trivial, (by omega), (by rw [getElem?_map, Hx0]; rfl), (e82 (a0 := (IntKind.wrap .i64 ((IntKind.wrap .i64 (v0 + 1)) + 1)))), (nt h_3), trivial, (by omega), (by rw [getElem?_map, Hx0]; rfl), (nt h_4), trivial, (by omega), (by rw [getElem?_map, Hx0]; rfl), (nt h_5), trivial, (by omega), (by rw [getElem?_map, Hx0]; rfl), h_6, trivial⟩
                exact .loopX st (show (.ret : VX.Exit) ≠ .normal from by simp)
              · try simp only [if_neg h_6]
                by_cases h_7 : (x0.f6 != (IntKind.wrap .i64 ((IntKind.wrap .i64 ((IntKind.wrap .i64 ((IntKind.wrap .i64 ((IntKind.wrap .i64 ((IntKind.wrap .i64 (v0 + 1)) + 1)) + 1)) + 1)) + 1)) + 1))) = true
                · try simp only [if_pos h_7]
                  have st := codeH_ok (F := F) (X := X) (c := b107_0) (t := 0) (hs := [(8, .b true), (14, .row [(.i x0.f0), (.i x0.f1), (.val (.string x0.f2)), (.i x0.f3), (.i x0.f4), (.i x0.f5), (.i x0.f6)]), (23, .b false), (35, .row [(.i x0.f0), (.i x0.f1), (.val (.string x0.f2)), (.i x0.f3), (.i x0.f4), (.i x0.f5), (.i x0.f6)]), (44, .b false), (56, .row [(.i x0.f0), (.i x0.f1), (.val (.string x0.f2)), (.i x0.f3), (.i x0.f4), (.i x0.f5), (.i x0.f6)]), (64, .ret [] [(.one (.val (.string (m82 (IntKind.wrap .i64 ((IntKind.wrap .i64 (v0 + 1)) + 1))))))] [] []), (67, .b false), (79, .row [(.i x0.f0), (.i x0.f1), (.val (.string x0.f2)), (.i x0.f3), (.i x0.f4), (.i x0.f5), (.i x0.f6)]), (88, .b false), (100, .row [(.i x0.f0), (.i x0.f1), (.val (.string x0.f2)), (.i x0.f3), (.i x0.f4), (.i x0.f5), (.i x0.f6)]), (109, .b false), (121, .row [(.i x0.f0), (.i x0.f1), (.val (.string x0.f2)), (.i x0.f3), (.i x0.f4), (.i x0.f5), (.i x0.f6)]), (130, .b false), (142, .row [(.i x0.f0), (.i x0.f1), (.val (.string x0.f2)), (.i x0.f3), (.i x0.f4), (.i x0.f5), (.i x0.f6)]), (151, .b true)]) (σ := h107_0 l0_0 a0 a1 (length p : Int) v0) (σ' := fin107_0 l0_0 a0 a1 (.k1)) (e := .ret) (t' := 154) (hs' := []) (q := [(decide ((length p : Int) < ((length (map b_iisiiii a0)) : Int))) = true, 0 ≤ (length p : Int), (map b_iisiiii a0)[(Int.toNat (length p : Int))]? = some [(.i x0.f0), (.i x0.f1), (.val (.string x0.f2)), (.i x0.f3), (.i x0.f4), (.i x0.f5), (.i x0.f6)], (x0.f0 != v0) = false, True, 0 ≤ (length p : Int), (map b_iisiiii a0)[(Int.toNat (length p : Int))]? = some [(.i x0.f0), (.i x0.f1), (.val (.string x0.f2)), (.i x0.f3), (.i x0.f4), (.i x0.f5), (.i x0.f6)], (x0.f1 != (IntKind.wrap .i64 (v0 + 1))) = false, True, 0 ≤ (length p : Int), (map b_iisiiii a0)[(Int.toNat (length p : Int))]? = some [(.i x0.f0), (.i x0.f1), (.val (.string x0.f2)), (.i x0.f3), (.i x0.f4), (.i x0.f5), (.i x0.f6)], Ev F X (.call 82 [(.oi (IntKind.wrap .i64 ((IntKind.wrap .i64 (v0 + 1)) + 1)))] [] [] [(.one (.val (.string (m82 (IntKind.wrap .i64 ((IntKind.wrap .i64 (v0 + 1)) + 1))))))]), (!(x0.f2.toList == (m82 (IntKind.wrap .i64 ((IntKind.wrap .i64 (v0 + 1)) + 1))).toList)) = false, True, 0 ≤ (length p : Int), (map b_iisiiii a0)[(Int.toNat (length p : Int))]? = some [(.i x0.f0), (.i x0.f1), (.val (.string x0.f2)), (.i x0.f3), (.i x0.f4), (.i x0.f5), (.i x0.f6)], (x0.f3 != (IntKind.wrap .i64 ((IntKind.wrap .i64 ((IntKind.wrap .i64 (v0 + 1)) + 1)) + 1))) = false, True, 0 ≤ (length p : Int), (map b_iisiiii a0)[(Int.toNat (length p : Int))]? = some [(.i x0.f0), (.i x0.f1), (.val (.string x0.f2)), (.i x0.f3), (.i x0.f4), (.i x0.f5), (.i x0.f6)], (x0.f4 != (IntKind.wrap .i64 ((IntKind.wrap .i64 ((IntKind.wrap .i64 ((IntKind.wrap .i64 (v0 + 1)) + 1)) + 1)) + 1))) = false, True, 0 ≤ (length p : Int), (map b_iisiiii a0)[(Int.toNat (length p : Int))]? = some [(.i x0.f0), (.i x0.f1), (.val (.string x0.f2)), (.i x0.f3), (.i x0.f4), (.i x0.f5), (.i x0.f6)], (x0.f5 != (IntKind.wrap .i64 ((IntKind.wrap .i64 ((IntKind.wrap .i64 ((IntKind.wrap .i64 ((IntKind.wrap .i64 (v0 + 1)) + 1)) + 1)) + 1)) + 1))) = false, True, 0 ≤ (length p : Int), (map b_iisiiii a0)[(Int.toNat (length p : Int))]? = some [(.i x0.f0), (.i x0.f1), (.val (.string x0.f2)), (.i x0.f3), (.i x0.f4), (.i x0.f5), (.i x0.f6)], (x0.f6 != (IntKind.wrap .i64 ((IntKind.wrap .i64 ((IntKind.wrap .i64 ((IntKind.wrap .i64 ((IntKind.wrap .i64 ((IntKind.wrap .i64 (v0 + 1)) + 1)) + 1)) + 1)) + 1)) + 1))) = true]) (by kernel_rfl) ⟨hc, (by omega), (by rw [getElem?_map, Hx0]; rfl), (nt h_1), trivial, (by omega), (by rw [getElem?_map, Hx0]; rfl), (nt h_2), trivial, (by omega), (by rw [getElem?_map, Hx0]; rfl), (e82 (a0 := (IntKind.wrap .i64 ((IntKind.wrap .i64 (v0 + 1)) + 1)))), (nt h_3), trivial, (by omega), (by rw [getElem?_map, Hx0]; rfl), (nt h_4), trivial, (by omega), (by rw [getElem?_map, Hx0]; rfl), (nt h_5), trivial, (by omega), (by rw [getElem?_map, Hx0]; rfl), (nt h_6), trivial, (by omega), (by rw [getElem?_map, Hx0]; rfl), h_7, trivial⟩
                  exact .loopX st (show (.ret : VX.Exit) ≠ .normal from by simp)
                · try simp only [if_neg h_7]
                  have st := codeH_ok (F := F) (X := X) (c := b107_0) (t := 0) (hs := [(8, .b true), (14, .row [(.i x0.f0), (.i x0.f1), (.val (.string x0.f2)), (.i x0.f3), (.i x0.f4), (.i x0.f5), (.i x0.f6)]), (23, .b false), (35, .row [(.i x0.f0), (.i x0.f1), (.val (.string x0.f2)), (.i x0.f3), (.i x0.f4), (.i x0.f5), (.i x0.f6)]), (44, .b false), (56, .row [(.i x0.f0), (.i x0.f1), (.val (.string x0.f2)), (.i x0.f3), (.i x0.f4), (.i x0.f5), (.i x0.f6)]), (64, .ret [] [(.one (.val (.string (m82 (IntKind.wrap .i64 ((IntKind.wrap .i64 (v0 + 1)) + 1))))))] [] []), (67, .b false), (79, .row [(.i x0.f0), (.i x0.f1), (.val (.string x0.f2)), (.i x0.f3), (.i x0.f4), (.i x0.f5), (.i x0.f6)]), (88, .b false), (100, .row [(.i x0.f0), (.i x0.f1), (.val (.string x0.f2)), (.i x0.f3), (.i x0.f4), (.i x0.f5), (.i x0.f6)]), (109, .b false), (121, .row [(.i x0.f0), (.i x0.f1), (.val (.string x0.f2)), (.i x0.f3), (.i x0.f4), (.i x0.f5), (.i x0.f6)]), (130, .b false), (142, .row [(.i x0.f0), (.i x0.f1), (.val (.string x0.f2)), (.i x0.f3), (.i x0.f4), (.i x0.f5), (.i x0.f6)]), (151, .b false)]) (σ := h107_0 l0_0 a0 a1 (length p : Int) v0) (σ' := ⟨[(0, (.one (.bor l0_0 (map b_iisiiii a0)))), (1, (.oi (IntKind.wrap .i64 ((IntKind.wrap .i64 ((IntKind.wrap .i64 ((IntKind.wrap .i64 ((IntKind.wrap .i64 ((IntKind.wrap .i64 ((IntKind.wrap .i64 (v0 + 1)) + 1)) + 1)) + 1)) + 1)) + 1)) + 1)))), (5, (.oi (IntKind.wrap .i64 ((length p : Int) + 1))))], []⟩) (e := .normal) (t' := 164) (hs' := []) (q := [(decide ((length p : Int) < ((length (map b_iisiiii a0)) : Int))) = true, 0 ≤ (length p : Int), (map b_iisiiii a0)[(Int.toNat (length p : Int))]? = some [(.i x0.f0), (.i x0.f1), (.val (.string x0.f2)), (.i x0.f3), (.i x0.f4), (.i x0.f5), (.i x0.f6)], (x0.f0 != v0) = false, True, 0 ≤ (length p : Int), (map b_iisiiii a0)[(Int.toNat (length p : Int))]? = some [(.i x0.f0), (.i x0.f1), (.val (.string x0.f2)), (.i x0.f3), (.i x0.f4), (.i x0.f5), (.i x0.f6)], (x0.f1 != (IntKind.wrap .i64 (v0 + 1))) = false, True, 0 ≤ (length p : Int), (map b_iisiiii a0)[(Int.toNat (length p : Int))]? = some [(.i x0.f0), (.i x0.f1), (.val (.string x0.f2)), (.i x0.f3), (.i x0.f4), (.i x0.f5), (.i x0.f6)], Ev F X (.call 82 [(.oi (IntKind.wrap .i64 ((IntKind.wrap .i64 (v0 + 1)) + 1)))] [] [] [(.one (.val (.string (m82 (IntKind.wrap .i64 ((IntKind.wrap .i64 (v0 + 1)) + 1))))))]), (!(x0.f2.toList == (m82 (IntKind.wrap .i64 ((IntKind.wrap .i64 (v0 + 1)) + 1))).toList)) = false, True, 0 ≤ (length p : Int), (map b_iisiiii a0)[(Int.toNat (length p : Int))]? = some [(.i x0.f0), (.i x0.f1), (.val (.string x0.f2)), (.i x0.f3), (.i x0.f4), (.i x0.f5), (.i x0.f6)], (x0.f3 != (IntKind.wrap .i64 ((IntKind.wrap .i64 ((IntKind.wrap .i64 (v0 + 1)) + 1)) + 1))) = false, True, 0 ≤ (length p : Int), (map b_iisiiii a0)[(Int.toNat (length p : Int))]? = some [(.i x0.f0), (.i x0.f1), (.val (.string x0.f2)), (.i x0.f3), (.i x0.f4), (.i x0.f5), (.i x0.f6)], (x0.f4 != (IntKind.wrap .i64 ((IntKind.wrap .i64 ((IntKind.wrap .i64 ((IntKind.wrap .i64 (v0 + 1)) + 1)) + 1)) + 1))) = false, True, 0 ≤ (length p : Int), (map b_iisiiii a0)[(Int.toNat (length p : Int))]? = some [(.i x0.f0), (.i x0.f1), (.val (.string x0.f2)), (.i x0.f3), (.i x0.f4), (.i x0.f5), (.i x0.f6)], (x0.f5 != (IntKind.wrap .i64 ((IntKind.wrap .i64 ((IntKind.wrap .i64 ((IntKind.wrap .i64 ((IntKind.wrap .i64 (v0 + 1)) + 1)) + 1)) + 1)) + 1))) = false, True, 0 ≤ (length p : Int), (map b_iisiiii a0)[(Int.toNat (length p : Int))]? = some [(.i x0.f0), (.i x0.f1), (.val (.string x0.f2)), (.i x0.f3), (.i x0.f4), (.i x0.f5), (.i x0.f6)], (x0.f6 != (IntKind.wrap .i64 ((IntKind.wrap .i64 ((IntKind.wrap .i64 ((IntKind.wrap .i64 ((IntKind.wrap .i64 ((IntKind.wrap .i64 (v0 + 1)) + 1)) + 1)) + 1)) + 1)) + 1))) = false, True, True]) (by kernel_rfl) ⟨hc, (by omega), (by rw [getElem?_map, Hx0]; rfl), (nt h_1), trivial, (by omega), (by rw [getElem?_map, Hx0]; rfl), (nt h_2), trivial, (by omega), (by rw [getElem?_map, Hx0]; rfl), (e82 (a0 := (IntKind.wrap .i64 ((IntKind.wrap .i64 (v0 + 1)) + 1)))), (nt h_3), trivial, (by omega), (by rw [getElem?_map, Hx0]; rfl), (nt h_4), trivial, (by omega), (by rw [getElem?_map, Hx0]; rfl), (nt h_5), trivial, (by omega), (by rw [getElem?_map, Hx0]; rfl), (nt h_6), trivial, (by omega), (by rw [getElem?_map, Hx0]; rfl), (nt h_7), trivial, trivial, trivial⟩
                  have ih := t107_0 (l0_0 := l0_0) (a0 := a0) (a1 := a1) hy0 y0 (p ++ [x0]) (IntKind.wrap .i64 ((IntKind.wrap .i64 ((IntKind.wrap .i64 ((IntKind.wrap .i64 ((IntKind.wrap .i64 ((IntKind.wrap .i64 ((IntKind.wrap .i64 (v0 + 1)) + 1)) + 1)) + 1)) + 1)) + 1)) + 1)) (by rw [append_assoc]; exact hp0)
                  rw [show ((p ++ [x0]).length : Int) = (p.length : Int) + 1 from by simp] at ih
                  rw [show (⟨[(0, (.one (.bor l0_0 (map b_iisiiii a0)))), (1, (.oi (IntKind.wrap .i64 ((IntKind.wrap .i64 ((IntKind.wrap .i64 ((IntKind.wrap .i64 ((IntKind.wrap .i64 ((IntKind.wrap .i64 ((IntKind.wrap .i64 (v0 + 1)) + 1)) + 1)) + 1)) + 1)) + 1)) + 1)))), (5, (.oi (IntKind.wrap .i64 ((length p : Int) + 1))))], []⟩ : St) = h107_0 l0_0 a0 a1 ((length p : Int) + 1) (IntKind.wrap .i64 ((IntKind.wrap .i64 ((IntKind.wrap .i64 ((IntKind.wrap .i64 ((IntKind.wrap .i64 ((IntKind.wrap .i64 ((IntKind.wrap .i64 (v0 + 1)) + 1)) + 1)) + 1)) + 1)) + 1)) + 1)) from (by unfold h107_0; simp only [hw]; done)] at st
                  exact .loopN st ih
/-! loop.example/g00539/laws.heldActS -/
def m107 (a0 : (List K_iisiiii)) (a1 : Int) : Int :=
  (match r107_0 a0 a0 0 a1 with | .k0 w0_0 w1_0 w2_0 => w0_0 | .k1 => (-1))
theorem e107 {l0_0 : Nat} {a0 : (List K_iisiiii)} {a1 : Int} (hy0 : length a0 * 64 ≤ 140737488351232) : Ev F X (.call 107 [(.one (.bor l0_0 (map b_iisiiii a0))), (.one (.val (.int .i64 a1)))] [] [] [(.one (.val (.int .i64 (m107 a0 a1))))]) := by
  unfold m107
  cases h0 : r107_0 a0 a0 0 a1 with
  | k0 w0_0 w1_0 w2_0 =>
    try dsimp only
    have f0 : (⟨[(0, (.one (.bor l0_0 (map b_iisiiii a0)))), (1, (.oi a1)), (5, (.oi 0))], []⟩ : St) = h107_0 l0_0 a0 a1 0 a1 := (by rfl)
    have f1 : Ev F X (.code l107_0 (h107_0 l0_0 a0 a1 0 a1) (.exit 0) ⟨[(0, (.one (.bor l0_0 (map b_iisiiii a0)))), (1, (.oi w0_0)), (5, (.oi w1_0)), (9, (.one (.val (.bool w2_0))))], []⟩) := (by have t : Ev F X (.code l107_0 (h107_0 l0_0 a0 a1 0 a1) (ex107_0 (r107_0 a0 a0 0 a1)) (fin107_0 l0_0 a0 a1 (r107_0 a0 a0 0 a1))) := t107_0 (l0_0 := l0_0) (a0 := a0) (a1 := a1) (by assumption) a0 [] a1 rfl; rw [h0] at t; exact t)
    exact callP_ok (ps := []) (os := []) (rs := [(.oi w0_0)]) (by kernel_rfl) (.f f0 (.f f1 (.h 4 (.loop (h107_0 l0_0 a0 a1 0 a1) (.exit 0) ⟨[(0, (.one (.bor l0_0 (map b_iisiiii a0)))), (1, (.oi w0_0)), (5, (.oi w1_0)), (9, (.one (.val (.bool w2_0))))], []⟩) .nil)))
  | k1 =>
    try dsimp only
    have f0 : (⟨[(0, (.one (.bor l0_0 (map b_iisiiii a0)))), (1, (.oi a1)), (5, (.oi 0))], []⟩ : St) = h107_0 l0_0 a0 a1 0 a1 := (by rfl)
    have f1 : Ev F X (.code l107_0 (h107_0 l0_0 a0 a1 0 a1) .ret ⟨[(4, (.oi (-1)))], []⟩) := (by have t : Ev F X (.code l107_0 (h107_0 l0_0 a0 a1 0 a1) (ex107_0 (r107_0 a0 a0 0 a1)) (fin107_0 l0_0 a0 a1 (r107_0 a0 a0 0 a1))) := t107_0 (l0_0 := l0_0) (a0 := a0) (a1 := a1) (by assumption) a0 [] a1 rfl; rw [h0] at t; exact t)
    exact callP_ok (ps := []) (os := []) (rs := [(.oi (-1))]) (by kernel_rfl) (.f f0 (.f f1 (.h 4 (.loop (h107_0 l0_0 a0 a1 0 a1) .ret ⟨[(4, (.oi (-1)))], []⟩) .nil)))
/-! loop 147_0 -/
inductive O147_0 where
  | k0 (w0 : Int) (w1 : Int) (w2 : Bool)
  | k1
def r147_0 (a0 : (List K_sisi)) : List K_sisi → Int → Int → O147_0
  | x0 :: y0, i, v0 =>
    if (!(x0.f0.toList == (m82 v0).toList)) = true then (O147_0.k1) else
    if (x0.f1 != (IntKind.wrap .i64 (v0 + 1))) = true then (O147_0.k1) else
      if (!(x0.f2.toList == (m82 (IntKind.wrap .i64 ((IntKind.wrap .i64 (v0 + 1)) + 1))).toList)) = true then (O147_0.k1) else
        if (x0.f3 != (IntKind.wrap .i64 ((IntKind.wrap .i64 ((IntKind.wrap .i64 (v0 + 1)) + 1)) + 1))) = true then (O147_0.k1) else
          (r147_0 a0 y0 (i + 1) (IntKind.wrap .i64 ((IntKind.wrap .i64 ((IntKind.wrap .i64 ((IntKind.wrap .i64 (v0 + 1)) + 1)) + 1)) + 1)))
  | [], i, v0 => (O147_0.k0 v0 i (decide (i < ((length (map b_sisi a0)) : Int))))
def h147_0 (l0_0 : Nat) (a0 : (List K_sisi)) (a1 : Int) (i : Int) (v0 : Int) : St := ⟨[(0, (.one (.bor l0_0 (map b_sisi a0)))), (1, (.one (.val (.int .i64 v0)))), (5, (.one (.val (.int .i64 i))))], []⟩
def ex147_0 : O147_0 → VX.Exit
  | .k0 _ _ _ => (.exit 0)
  | .k1 => .ret
def fin147_0 (l0_0 : Nat) (a0 : (List K_sisi)) (a1 : Int) : O147_0 → St
  | .k0 w0 w1 w2 => ⟨[(0, (.one (.bor l0_0 (map b_sisi a0)))), (1, (.one (.val (.int .i64 w0)))), (5, (.one (.val (.int .i64 w1)))), (9, (.one (.val (.bool w2))))], []⟩
  | .k1 => ⟨[(4, (.one (.val (.int .i64 (-1)))))], []⟩
theorem t147_0 {l0_0 : Nat} {a0 : (List K_sisi)} {a1 : Int} (hy0 : length a0 * 48 ≤ 140737488351232) : ∀ (y0 : List K_sisi) (p : List K_sisi) (v0 : Int), p ++ y0 = a0 → Ev F X (.code l147_0 (h147_0 l0_0 a0 a1 (length p : Int) v0) (ex147_0 (r147_0 a0 y0 (length p : Int) v0)) (fin147_0 l0_0 a0 a1 (r147_0 a0 y0 (length p : Int) v0)))
  | [], p, v0, hp0 => by
    have hc : ¬ (decide ((length p : Int) < ((length (map b_sisi a0)) : Int))) = true := by
      rw [← hp0]; simp only [length_map, length_set, length_append, length_replicate, length_cons, length_nil, decide_eq_true_eq]; omega
    have st := codeH_ok (F := F) (X := X) (c := b147_0) (t := 0) (hs := [(8, .b false)]) (σ := h147_0 l0_0 a0 a1 (length p : Int) v0) (σ' := fin147_0 l0_0 a0 a1 (.k0 v0 (length p : Int) (decide ((length p : Int) < ((length (map b_sisi a0)) : Int))))) (e := (.exit 0)) (t' := 9) (hs' := []) (q := [(decide ((length p : Int) < ((length (map b_sisi a0)) : Int))) = false]) (by kernel_rfl) ⟨(nt hc), trivial⟩
    exact .loopX st (show ((.exit 0) : VX.Exit) ≠ .normal from by simp)
  | x0 :: y0, p, v0, hp0 => by
    have hc : (decide ((length p : Int) < ((length (map b_sisi a0)) : Int))) = true := by
      rw [← hp0]; simp only [length_map, length_set, length_append, length_replicate, length_cons, length_nil, decide_eq_true_eq]; omega
    have Hx0 : (a0)[Int.toNat (length p : Int)]? = some x0 := by
      rw [← hp0, Int.toNat_natCast]; simp
    have hlen : length (a0) = length p + length y0 + 1 := by rw [← hp0]; simp; omega
    have hw : IntKind.wrap .i64 ((length p : Int) + 1) = (length p : Int) + 1 := wrap64 (by omega)
    simp only [r147_0]
    by_cases h_1 : (!(x0.f0.toList == (m82 v0).toList)) = true
    · try simp only [if_pos h_1]
      have st := codeH_ok (F := F) (X := X) (c := b147_0) (t := 0) (hs := [(8, .b true), (14, .row [(.val (.string x0.f0)), (.i x0.f1), (.val (.string x0.f2)), (.i x0.f3)]), (22, .ret [] [(.one (.val (.string (m82 v0))))] [] []), (25, .b true)]) (σ := h147_0 l0_0 a0 a1 (length p : Int) v0) (σ' := fin147_0 l0_0 a0 a1 (.k1)) (e := .ret) (t' := 28) (hs' := []) (q := [(decide ((length p : Int) < ((length (map b_sisi a0)) : Int))) = true, 0 ≤ (length p : Int), (map b_sisi a0)[(Int.toNat (length p : Int))]? = some [(.val (.string x0.f0)), (.i x0.f1), (.val (.string x0.f2)), (.i x0.f3)], Ev F X (.call 82 [(.oi v0)] [] [] [(.one (.val (.string (m82 v0))))]), (!(x0.f0.toList == (m82 v0).toList)) = true]) (by kernel_rfl) ⟨hc, (by omega), (by rw [getElem?_map, Hx0]; rfl), (e82 (a0 := v0)), h_1, trivial⟩
      exact .loopX st (show (.ret : VX.Exit) ≠ .normal from by simp)
    · try simp only [if_neg h_1]
      by_cases h_2 : (x0.f1 != (IntKind.wrap .i64 (v0 + 1))) = true
      · try simp only [if_pos h_2]
        have st := codeH_ok (F := F) (X := X) (c := b147_0) (t := 0) (hs := [(8, .b true), (14, .row [(.val (.string x0.f0)), (.i x0.f1), (.val (.string x0.f2)), (.i x0.f3)]), (22, .ret [] [(.one (.val (.string (m82 v0))))] [] []), (25, .b false), (37, .row [(.val (.string x0.f0)), (.i x0.f1), (.val (.string x0.f2)), (.i x0.f3)]), (46, .b true)]) (σ := h147_0 l0_0 a0 a1 (length p : Int) v0) (σ' := fin147_0 l0_0 a0 a1 (.k1)) (e := .ret) (t' := 49) (hs' := []) (q := [(decide ((length p : Int) < ((length (map b_sisi a0)) : Int))) = true, 0 ≤ (length p : Int), (map b_sisi a0)[(Int.toNat (length p : Int))]? = some [(.val (.string x0.f0)), (.i x0.f1), (.val (.string x0.f2)), (.i x0.f3)], Ev F X (.call 82 [(.oi v0)] [] [] [(.one (.val (.string (m82 v0))))]), (!(x0.f0.toList == (m82 v0).toList)) = false, True, 0 ≤ (length p : Int), (map b_sisi a0)[(Int.toNat (length p : Int))]? = some [(.val (.string x0.f0)), (.i x0.f1), (.val (.string x0.f2)), (.i x0.f3)], (x0.f1 != (IntKind.wrap .i64 (v0 + 1))) = true]) (by kernel_rfl) ⟨hc, (by omega), (by rw [getElem?_map, Hx0]; rfl), (e82 (a0 := v0)), (nt h_1), trivial, (by omega), (by rw [getElem?_map, Hx0]; rfl), h_2, trivial⟩
        exact .loopX st (show (.ret : VX.Exit) ≠ .normal from by simp)
      · try simp only [if_neg h_2]
        by_cases h_3 : (!(x0.f2.toList == (m82 (IntKind.wrap .i64 ((IntKind.wrap .i64 (v0 + 1)) + 1))).toList)) = true
        · try simp only [if_pos h_3]
          have st := codeH_ok (F := F) (X := X) (c := b147_0) (t := 0) (hs := [(8, .b true), (14, .row [(.val (.string x0.f0)), (.i x0.f1), (.val (.string x0.f2)), (.i x0.f3)]), (22, .ret [] [(.one (.val (.string (m82 v0))))] [] []), (25, .b false), (37, .row [(.val (.string x0.f0)), (.i x0.f1), (.val (.string x0.f2)), (.i x0.f3)]), (46, .b false), (58, .row [(.val (.string x0.f0)), (.i x0.f1), (.val (.string x0.f2)), (.i x0.f3)]), (66, .ret [] [(.one (.val (.string (m82 (IntKind.wrap .i64 ((IntKind.wrap .i64 (v0 + 1)) + 1))))))] [] []), (69, .b true)]) (σ := h147_0 l0_0 a0 a1 (length p : Int) v0) (σ' := fin147_0 l0_0 a0 a1 (.k1)) (e := .ret) (t' := 72) (hs' := []) (q := [(decide ((length p : Int) < ((length (map b_sisi a0)) : Int))) = true, 0 ≤ (length p : Int), (map b_sisi a0)[(Int.toNat (length p : Int))]? = some [(.val (.string x0.f0)), (.i x0.f1), (.val (.string x0.f2)), (.i x0.f3)], Ev F X (.call 82 [(.oi v0)] [] [] [(.one (.val (.string (m82 v0))))]), (!(x0.f0.toList == (m82 v0).toList)) = false, True, 0 ≤ (length p : Int), (map b_sisi a0)[(Int.toNat (length p : Int))]? = some [(.val (.string x0.f0)), (.i x0.f1), (.val (.string x0.f2)), (.i x0.f3)], (x0.f1 != (IntKind.wrap .i64 (v0 + 1))) = false, True, 0 ≤ (length p : Int), (map b_sisi a0)[(Int.toNat (length p : Int))]? = some [(.val (.string x0.f0)), (.i x0.f1), (.val (.string x0.f2)), (.i x0.f3)], Ev F X (.call 82 [(.oi (IntKind.wrap .i64 ((IntKind.wrap .i64 (v0 + 1)) + 1)))] [] [] [(.one (.val (.string (m82 (IntKind.wrap .i64 ((IntKind.wrap .i64 (v0 + 1)) + 1))))))]), (!(x0.f2.toList == (m82 (IntKind.wrap .i64 ((IntKind.wrap .i64 (v0 + 1)) + 1))).toList)) = true]) (by kernel_rfl) ⟨hc, (by omega), (by rw [getElem?_map, Hx0]; rfl), (e82 (a0 := v0)), (nt h_1), trivial, (by omega), (by rw [getElem?_map, Hx0]; rfl), (nt h_2), trivial, (by omega), (by rw [getElem?_map, Hx0]; rfl), (e82 (a0 := (IntKind.wrap .i64 ((IntKind.wrap .i64 (v0 + 1)) + 1)))), h_3, trivial⟩
          exact .loopX st (show (.ret : VX.Exit) ≠ .normal from by simp)
        · try simp only [if_neg h_3]
          by_cases h_4 : (x0.f3 != (IntKind.wrap .i64 ((IntKind.wrap .i64 ((IntKind.wrap .i64 (v0 + 1)) + 1)) + 1))) = true
          · try simp only [if_pos h_4]
            have st := codeH_ok (F := F) (X := X) (c := b147_0) (t := 0) (hs := [(8, .b true), (14, .row [(.val (.string x0.f0)), (.i x0.f1), (.val (.string x0.f2)), (.i x0.f3)]), (22, .ret [] [(.one (.val (.string (m82 v0))))] [] []), (25, .b false), (37, .row [(.val (.string x0.f0)), (.i x0.f1), (.val (.string x0.f2)), (.i x0.f3)]), (46, .b false), (58, .row [(.val (.string x0.f0)), (.i x0.f1), (.val (.string x0.f2)), (.i x0.f3)]), (66, .ret [] [(.one (.val (.string (m82 (IntKind.wrap .i64 ((IntKind.wrap .i64 (v0 + 1)) + 1))))))] [] []), (69, .b false), (81, .row [(.val (.string x0.f0)), (.i x0.f1), (.val (.string x0.f2)), (.i x0.f3)]), (90, .b true)]) (σ := h147_0 l0_0 a0 a1 (length p : Int) v0) (σ' := fin147_0 l0_0 a0 a1 (.k1)) (e := .ret) (t' := 93) (hs' := []) (q := [(decide ((length p : Int) < ((length (map b_sisi a0)) : Int))) = true, 0 ≤ (length p : Int), (map b_sisi a0)[(Int.toNat (length p : Int))]? = some [(.val (.string x0.f0)), (.i x0.f1), (.val (.string x0.f2)), (.i x0.f3)], Ev F X (.call 82 [(.oi v0)] [] [] [(.one (.val (.string (m82 v0))))]), (!(x0.f0.toList == (m82 v0).toList)) = false, True, 0 ≤ (length p : Int), (map b_sisi a0)[(Int.toNat (length p : Int))]? = some [(.val (.string x0.f0)), (.i x0.f1), (.val (.string x0.f2)), (.i x0.f3)], (x0.f1 != (IntKind.wrap .i64 (v0 + 1))) = false, True, 0 ≤ (length p : Int), (map b_sisi a0)[(Int.toNat (length p : Int))]? = some [(.val (.string x0.f0)), (.i x0.f1), (.val (.string x0.f2)), (.i x0.f3)], Ev F X (.call 82 [(.oi (IntKind.wrap .i64 ((IntKind.wrap .i64 (v0 + 1)) + 1)))] [] [] [(.one (.val (.string (m82 (IntKind.wrap .i64 ((IntKind.wrap .i64 (v0 + 1)) + 1))))))]), (!(x0.f2.toList == (m82 (IntKind.wrap .i64 ((IntKind.wrap .i64 (v0 + 1)) + 1))).toList)) = false, True, 0 ≤ (length p : Int), (map b_sisi a0)[(Int.toNat (length p : Int))]? = some [(.val (.string x0.f0)), (.i x0.f1), (.val (.string x0.f2)), (.i x0.f3)], (x0.f3 != (IntKind.wrap .i64 ((IntKind.wrap .i64 ((IntKind.wrap .i64 (v0 + 1)) + 1)) + 1))) = true]) (by kernel_rfl) ⟨hc, (by omega), (by rw [getElem?_map, Hx0]; rfl), (e82 (a0 := v0)), (nt h_1), trivial, (by omega), (by rw [getElem?_map, Hx0]; rfl), (nt h_2), trivial, (by omega), (by rw [getElem?_map, Hx0]; rfl), (e82 (a0 := (IntKind.wrap .i64 ((IntKind.wrap .i64 (v0 + 1)) + 1)))), (nt h_3), trivial, (by omega), (by rw [getElem?_map, Hx0]; rfl), h_4, trivial⟩
            exact .loopX st (show (.ret : VX.Exit) ≠ .normal from by simp)
          · try simp only [if_neg h_4]
            have st := codeH_ok (F := F) (X := X) (c := b147_0) (t := 0) (hs := [(8, .b true), (14, .row [(.val (.string x0.f0)), (.i x0.f1), (.val (.string x0.f2)), (.i x0.f3)]), (22, .ret [] [(.one (.val (.string (m82 v0))))] [] []), (25, .b false), (37, .row [(.val (.string x0.f0)), (.i x0.f1), (.val (.string x0.f2)), (.i x0.f3)]), (46, .b false), (58, .row [(.val (.string x0.f0)), (.i x0.f1), (.val (.string x0.f2)), (.i x0.f3)]), (66, .ret [] [(.one (.val (.string (m82 (IntKind.wrap .i64 ((IntKind.wrap .i64 (v0 + 1)) + 1))))))] [] []), (69, .b false), (81, .row [(.val (.string x0.f0)), (.i x0.f1), (.val (.string x0.f2)), (.i x0.f3)]), (90, .b false)]) (σ := h147_0 l0_0 a0 a1 (length p : Int) v0) (σ' := ⟨[(0, (.one (.bor l0_0 (map b_sisi a0)))), (1, (.oi (IntKind.wrap .i64 ((IntKind.wrap .i64 ((IntKind.wrap .i64 ((IntKind.wrap .i64 (v0 + 1)) + 1)) + 1)) + 1)))), (5, (.oi (IntKind.wrap .i64 ((length p : Int) + 1))))], []⟩) (e := .normal) (t' := 103) (hs' := []) (q := [(decide ((length p : Int) < ((length (map b_sisi a0)) : Int))) = true, 0 ≤ (length p : Int), (map b_sisi a0)[(Int.toNat (length p : Int))]? = some [(.val (.string x0.f0)), (.i x0.f1), (.val (.string x0.f2)), (.i x0.f3)], Ev F X (.call 82 [(.oi v0)] [] [] [(.one (.val (.string (m82 v0))))]), (!(x0.f0.toList == (m82 v0).toList)) = false, True, 0 ≤ (length p : Int), (map b_sisi a0)[(Int.toNat (length p : Int))]? = some [(.val (.string x0.f0)), (.i x0.f1), (.val (.string x0.f2)), (.i x0.f3)], (x0.f1 != (IntKind.wrap .i64 (v0 + 1))) = false, True, 0 ≤ (length p : Int), (map b_sisi a0)[(Int.toNat (length p : Int))]? = some [(.val (.string x0.f0)), (.i x0.f1), (.val (.string x0.f2)), (.i x0.f3)], Ev F X (.call 82 [(.oi (IntKind.wrap .i64 ((IntKind.wrap .i64 (v0 + 1)) + 1)))] [] [] [(.one (.val (.string (m82 (IntKind.wrap .i64 ((IntKind.wrap .i64 (v0 + 1)) + 1))))))]), (!(x0.f2.toList == (m82 (IntKind.wrap .i64 ((IntKind.wrap .i64 (v0 + 1)) + 1))).toList)) = false, True, 0 ≤ (length p : Int), (map b_sisi a0)[(Int.toNat (length p : Int))]? = some [(.val (.string x0.f0)), (.i x0.f1), (.val (.string x0.f2)), (.i x0.f3)], (x0.f3 != (IntKind.wrap .i64 ((IntKind.wrap .i64 ((IntKind.wrap .i64 (v0 + 1)) + 1)) + 1))) = false, True, True]) (by kernel_rfl) ⟨hc, (by omega), (by rw [getElem?_map, Hx0]; rfl), (e82 (a0 := v0)), (nt h_1), trivial, (by omega), (by rw [getElem?_map, Hx0]; rfl), (nt h_2), trivial, (by omega), (by rw [getElem?_map, Hx0]; rfl), (e82 (a0 := (IntKind.wrap .i64 ((IntKind.wrap .i64 (v0 + 1)) + 1)))), (nt h_3), trivial, (by omega), (by rw [getElem?_map, Hx0]; rfl), (nt h_4), trivial, trivial, trivial⟩
            have ih := t147_0 (l0_0 := l0_0) (a0 := a0) (a1 := a1) hy0 y0 (p ++ [x0]) (IntKind.wrap .i64 ((IntKind.wrap .i64 ((IntKind.wrap .i64 ((IntKind.wrap .i64 (v0 + 1)) + 1)) + 1)) + 1)) (by rw [append_assoc]; exact hp0)
            rw [show ((p ++ [x0]).length : Int) = (p.length : Int) + 1 from by simp] at ih
            rw [show (⟨[(0, (.one (.bor l0_0 (map b_sisi a0)))), (1, (.oi (IntKind.wrap .i64 ((IntKind.wrap .i64 ((IntKind.wrap .i64 ((IntKind.wrap .i64 (v0 + 1)) + 1)) + 1)) + 1)))), (5, (.oi (IntKind.wrap .i64 ((length p : Int) + 1))))], []⟩ : St) = h147_0 l0_0 a0 a1 ((length p : Int) + 1) (IntKind.wrap .i64 ((IntKind.wrap .i64 ((IntKind.wrap .i64 ((IntKind.wrap .i64 (v0 + 1)) + 1)) + 1)) + 1)) from (by unfold h147_0; simp only [hw]; done)] at st
            exact .loopN st ih
/-! loop.example/g00539/laws.heldSessionS -/
def m147 (a0 : (List K_sisi)) (a1 : Int) : Int :=
  (match r147_0 a0 a0 0 a1 with | .k0 w0_0 w1_0 w2_0 => w0_0 | .k1 => (-1))
theorem e147 {l0_0 : Nat} {a0 : (List K_sisi)} {a1 : Int} (hy0 : length a0 * 48 ≤ 140737488351232) : Ev F X (.call 147 [(.one (.bor l0_0 (map b_sisi a0))), (.one (.val (.int .i64 a1)))] [] [] [(.one (.val (.int .i64 (m147 a0 a1))))]) := by
  unfold m147
  cases h0 : r147_0 a0 a0 0 a1 with
  | k0 w0_0 w1_0 w2_0 =>
    try dsimp only
    have f0 : (⟨[(0, (.one (.bor l0_0 (map b_sisi a0)))), (1, (.oi a1)), (5, (.oi 0))], []⟩ : St) = h147_0 l0_0 a0 a1 0 a1 := (by rfl)
    have f1 : Ev F X (.code l147_0 (h147_0 l0_0 a0 a1 0 a1) (.exit 0) ⟨[(0, (.one (.bor l0_0 (map b_sisi a0)))), (1, (.oi w0_0)), (5, (.oi w1_0)), (9, (.one (.val (.bool w2_0))))], []⟩) := (by have t : Ev F X (.code l147_0 (h147_0 l0_0 a0 a1 0 a1) (ex147_0 (r147_0 a0 a0 0 a1)) (fin147_0 l0_0 a0 a1 (r147_0 a0 a0 0 a1))) := t147_0 (l0_0 := l0_0) (a0 := a0) (a1 := a1) (by assumption) a0 [] a1 rfl; rw [h0] at t; exact t)
    exact callP_ok (ps := []) (os := []) (rs := [(.oi w0_0)]) (by kernel_rfl) (.f f0 (.f f1 (.h 4 (.loop (h147_0 l0_0 a0 a1 0 a1) (.exit 0) ⟨[(0, (.one (.bor l0_0 (map b_sisi a0)))), (1, (.oi w0_0)), (5, (.oi w1_0)), (9, (.one (.val (.bool w2_0))))], []⟩) .nil)))
  | k1 =>
    try dsimp only
    have f0 : (⟨[(0, (.one (.bor l0_0 (map b_sisi a0)))), (1, (.oi a1)), (5, (.oi 0))], []⟩ : St) = h147_0 l0_0 a0 a1 0 a1 := (by rfl)
    have f1 : Ev F X (.code l147_0 (h147_0 l0_0 a0 a1 0 a1) .ret ⟨[(4, (.oi (-1)))], []⟩) := (by have t : Ev F X (.code l147_0 (h147_0 l0_0 a0 a1 0 a1) (ex147_0 (r147_0 a0 a0 0 a1)) (fin147_0 l0_0 a0 a1 (r147_0 a0 a0 0 a1))) := t147_0 (l0_0 := l0_0) (a0 := a0) (a1 := a1) (by assumption) a0 [] a1 rfl; rw [h0] at t; exact t)
    exact callP_ok (ps := []) (os := []) (rs := [(.oi (-1))]) (by kernel_rfl) (.f f0 (.f f1 (.h 4 (.loop (h147_0 l0_0 a0 a1 0 a1) .ret ⟨[(4, (.oi (-1)))], []⟩) .nil)))
/-! loop.example/g00539/laws.heldServer -/
def m108 (a0 : K_LsisiEi) (a1 : Int) : Int :=
  if (decide ((m147 a0.f0 a1) < 0)) = true then (-1) else
  (m147 a0.f0 a1)
theorem e108 {l0_0 : Nat} {a0 : K_LsisiEi} {a1 : Int} (hy0 : length a0.f0 * 48 ≤ 140737488351232) : Ev F X (.call 108 [(.agg [(.bor l0_0 (map b_sisi a0.f0)), (.val (.int .i64 a0.f1))]), (.one (.val (.int .i64 a1)))] [] [] [(.one (.val (.int .i64 (m108 a0 a1))))]) := by
  unfold m108
  have f0 : Ev F X (.call 147 [(.one (.bor (l0_0 + 1) (map b_sisi a0.f0))), (.oi a1)] [] [] [(.oi (m147 a0.f0 a1))]) := (e147 (a0 := a0.f0) (a1 := a1) (by with_reducible assumption))
  by_cases h0 : (decide ((m147 a0.f0 a1) < 0)) = true
  · try simp only [if_pos h0]
    exact callP_ok (ps := []) (os := []) (rs := [(.oi (-1))]) (by kernel_rfl) (.r 11 [] [] f0 (.f h0 (.h 18 (.b true) .nil)))
  · try simp only [if_neg h0]
    exact callP_ok (ps := []) (os := []) (rs := [(.oi (m147 a0.f0 a1))]) (by kernel_rfl) (.r 11 [] [] f0 (.f (nt h0) (.h 18 (.b false) .nil)))
/-! loop.example/g00539/laws.heldServerResult -/
def m59 (a0 : K_iLsELiisiiiiELsisiEi) (a1 : Int) : Int :=
  if (decide ((m101 a0.f1 a1) < 0)) = true then (-1) else
  if (decide ((m107 a0.f2 (m101 a0.f1 a1)) < 0)) = true then (-1) else
    if (decide ((m108 (K_LsisiEi.mk a0.f3 a0.f4) (m107 a0.f2 (m101 a0.f1 a1))) < 0)) = true then (-1) else
      (m108 (K_LsisiEi.mk a0.f3 a0.f4) (m107 a0.f2 (m101 a0.f1 a1)))
theorem e59 {l0_1 : Nat} {l0_2 : Nat} {l0_3 : Nat} {a0 : K_iLsELiisiiiiELsisiEi} {a1 : Int} (hy0 : length a0.f1 * 16 ≤ 140737488351232) (hy1 : length a0.f2 * 64 ≤ 140737488351232) (hy2 : length a0.f3 * 48 ≤ 140737488351232) : Ev F X (.call 59 [(.agg [(.val (.int .i64 a0.f0)), (.bor l0_1 (map b_s a0.f1)), (.bor l0_2 (map b_iisiiii a0.f2)), (.bor l0_3 (map b_sisi a0.f3)), (.val (.int .i64 a0.f4))]), (.one (.val (.int .i64 a1)))] [] [] [(.one (.val (.int .i64 (m59 a0 a1))))]) := by
  unfold m59
  have f0 : Ev F X (.call 101 [(.one (.bor (l0_1 + 1) (map b_s a0.f1))), (.oi a1)] [] [] [(.oi (m101 a0.f1 a1))]) := (e101 (a0 := a0.f1) (a1 := a1) (by with_reducible assumption))
  by_cases h0 : (decide ((m101 a0.f1 a1) < 0)) = true
  · try simp only [if_pos h0]
    exact callP_ok (ps := []) (os := []) (rs := [(.oi (-1))]) (by kernel_rfl) (.r 11 [] [] f0 (.f h0 (.h 18 (.b true) .nil)))
  · try simp only [if_neg h0]
    have f2 : Ev F X (.call 107 [(.one (.bor (l0_2 + 1) (map b_iisiiii a0.f2))), (.oi (m101 a0.f1 a1))] [] [] [(.oi (m107 a0.f2 (m101 a0.f1 a1)))]) := (e107 (a0 := a0.f2) (a1 := (m101 a0.f1 a1)) (by with_reducible assumption))
    by_cases h1 : (decide ((m107 a0.f2 (m101 a0.f1 a1)) < 0)) = true
    · try simp only [if_pos h1]
      exact callP_ok (ps := []) (os := []) (rs := [(.oi (-1))]) (by kernel_rfl) (.r 11 [] [] f0 (.f (nt h0) (.h 18 (.b false) (.r 26 [] [] f2 (.f h1 (.h 33 (.b true) .nil))))))
    · try simp only [if_neg h1]
      have f4 : Ev F X (.call 108 [(.agg [(.bor (l0_3 + 1) (map b_sisi a0.f3)), (.i a0.f4)]), (.oi (m107 a0.f2 (m101 a0.f1 a1)))] [] [] [(.oi (m108 (K_LsisiEi.mk a0.f3 a0.f4) (m107 a0.f2 (m101 a0.f1 a1))))]) := (e108 (a0 := (K_LsisiEi.mk a0.f3 a0.f4)) (a1 := (m107 a0.f2 (m101 a0.f1 a1))) (by with_reducible assumption))
      by_cases h2 : (decide ((m108 (K_LsisiEi.mk a0.f3 a0.f4) (m107 a0.f2 (m101 a0.f1 a1))) < 0)) = true
      · try simp only [if_pos h2]
        exact callP_ok (ps := []) (os := []) (rs := [(.oi (-1))]) (by kernel_rfl) (.r 11 [] [] f0 (.f (nt h0) (.h 18 (.b false) (.r 26 [] [] f2 (.f (nt h1) (.h 33 (.b false) (.r 41 [] [] f4 (.f h2 (.h 48 (.b true) .nil)))))))))
      · try simp only [if_neg h2]
        exact callP_ok (ps := []) (os := []) (rs := [(.oi (m108 (K_LsisiEi.mk a0.f3 a0.f4) (m107 a0.f2 (m101 a0.f1 a1))))]) (by kernel_rfl) (.r 11 [] [] f0 (.f (nt h0) (.h 18 (.b false) (.r 26 [] [] f2 (.f (nt h1) (.h 33 (.b false) (.r 41 [] [] f4 (.f (nt h2) (.h 48 (.b false) .nil)))))))))
/-! loop.example/g00539/laws.FnExactOpenSession -/
def m9 (a0 : K_LsisiEi) : Bool :=
  if (decide ((m44 a0 1048576) < 0)) = true then true else
  if (!(m57 (m56 a0) (m55 a0))) = true then false else
    if (!(m48 a0 a0)) = true then false else
      if (decide ((m52 a0 1) < 0)) = true then false else
        if (decide ((m59 (K_iLsELiisiiiiELsisiEi.mk ((m56 a0).f0) (o58_2 (m56 a0) 1) (o58_1 (m56 a0) 1) (o58_0 (m56 a0) 1) ((m56 a0).f4)) 1) < 0)) = true then false else
          if ((m59 (K_iLsELiisiiiiELsisiEi.mk ((m56 a0).f0) (o58_2 (m56 a0) 1) (o58_1 (m56 a0) 1) (o58_0 (m56 a0) 1) ((m56 a0).f4)) 1) != (m58 (m56 a0) 1)) = true then false else
            true
set_option maxHeartbeats 8000000 in
theorem e9 {l0_0 : Nat} {a0 : K_LsisiEi} (hy0 : length a0.f0 * 48 ≤ 140737488351232) (hy1 : ∀ z ∈ a0.f0, os_sisi z) : Ev F X (.call 9 [(.agg [(.bor l0_0 (map b_sisi a0.f0)), (.val (.int .i64 a0.f1))])] [] [] [(.one (.val (.bool (m9 a0))))]) := by
  unfold m9
  have f0 : Ev F X (.call 44 [(.agg [(.bor (l0_0 + 1) (map b_sisi a0.f0)), (.i a0.f1)]), (.oi 1048576)] [] [] [(.oi (m44 a0 1048576))]) := (e44 (a0 := a0) (a1 := 1048576) (by with_reducible assumption))
  by_cases h0 : (decide ((m44 a0 1048576) < 0)) = true
  · try simp only [if_pos h0]
    exact callP_ok (ps := []) (os := []) (rs := [(.one (.val (.bool true)))]) (by kernel_rfl) (.r 11 [] [] f0 (.f h0 (.h 18 (.b true) .nil)))
  · try simp only [if_neg h0]
    have f2 : Ev F X (.call 46 [(.agg [(.bor (l0_0 + 1) (map b_sisi a0.f0)), (.i a0.f1)])] [] [] [(.agg [(.own 4 (map d_sisi a0.f0)), (.i a0.f1)])]) := (e46 (a0 := a0) (by with_reducible assumption))
    have f3 : 0 + (length (map d_sisi a0.f0)) ≤ (length (map d_sisi a0.f0)) := (by omega)
    have f4 : fullR (take (length (map d_sisi a0.f0)) (drop 0 (map d_sisi a0.f0))) = true := (ft_sisi _ _ _)
    have f5 : toBR (take (length (map d_sisi a0.f0)) (drop 0 (map d_sisi a0.f0))) = (map b_sisi a0.f0) := (tb_sisi _)
    have f6 : Ev F X (.call 55 [(.agg [(.bor 0 (map b_sisi a0.f0)), (.i a0.f1)])] [] [] [(.agg [(.i ((m55 a0).f0)), (.own 1 (map d_s ((m55 a0).f1))), (.own 7 (map d_iisiiii ((m55 a0).f2))), (.own 4 (map d_sisi ((m55 a0).f3))), (.i ((m55 a0).f4))])]) := (e55 (a0 := a0) (by with_reducible assumption) (by with_reducible assumption))
    have f7 : 0 = 0 := rfl
    have f8 : (length (map d_s ((m55 a0).f1))) = (length (map d_s ((m55 a0).f1))) := rfl
    have f9 : 0 = 0 := rfl
    have f10 : (length (map d_iisiiii ((m55 a0).f2))) = (length (map d_iisiiii ((m55 a0).f2))) := rfl
    have f11 : 0 = 0 := rfl
    have f12 : (length (map d_sisi ((m55 a0).f3))) = (length (map d_sisi ((m55 a0).f3))) := rfl
    have f13 : Ev F X (.call 46 [(.agg [(.bor (l0_0 + 1) (map b_sisi a0.f0)), (.i a0.f1)])] [] [] [(.agg [(.own 4 (map d_sisi a0.f0)), (.i a0.f1)])]) := (e46 (a0 := a0) (by with_reducible assumption))
    have f14 : 0 = 0 := rfl
    have f15 : (length (map d_sisi a0.f0)) = (length (map d_sisi a0.f0)) := rfl
    have f16 : 0 + (length (map d_sisi a0.f0)) ≤ (length (map d_sisi a0.f0)) := (by omega)
    have f17 : fullR (take (length (map d_sisi a0.f0)) (drop 0 (map d_sisi a0.f0))) = true := (ft_sisi _ _ _)
    have f18 : toBR (take (length (map d_sisi a0.f0)) (drop 0 (map d_sisi a0.f0))) = (map b_sisi a0.f0) := (tb_sisi _)
    have f19 : Ev F X (.call 56 [(.agg [(.bor 0 (map b_sisi a0.f0)), (.i a0.f1)])] [] [] [(.agg [(.i ((m56 a0).f0)), (.own 1 (map d_s ((m56 a0).f1))), (.own 7 (map d_iisiiii ((m56 a0).f2))), (.own 4 (map d_sisi ((m56 a0).f3))), (.i ((m56 a0).f4))])]) := (e56 (a0 := a0) (by with_reducible assumption))
    have f20 : 0 = 0 := rfl
    have f21 : (length (map d_s ((m56 a0).f1))) = (length (map d_s ((m56 a0).f1))) := rfl
    have f22 : 0 = 0 := rfl
    have f23 : (length (map d_iisiiii ((m56 a0).f2))) = (length (map d_iisiiii ((m56 a0).f2))) := rfl
    have f24 : 0 = 0 := rfl
    have f25 : (length (map d_sisi ((m56 a0).f3))) = (length (map d_sisi ((m56 a0).f3))) := rfl
    have f26 : 0 + (length (map d_s ((m56 a0).f1))) ≤ (length (map d_s ((m56 a0).f1))) := (by omega)
    have f27 : fullR (take (length (map d_s ((m56 a0).f1))) (drop 0 (map d_s ((m56 a0).f1)))) = true := (ft_s _ _ _)
    have f28 : toBR (take (length (map d_s ((m56 a0).f1))) (drop 0 (map d_s ((m56 a0).f1)))) = (map b_s ((m56 a0).f1)) := (tb_s _)
    have f29 : 0 + (length (map d_iisiiii ((m56 a0).f2))) ≤ (length (map d_iisiiii ((m56 a0).f2))) := (by omega)
    have f30 : fullR (take (length (map d_iisiiii ((m56 a0).f2))) (drop 0 (map d_iisiiii ((m56 a0).f2)))) = true := (ft_iisiiii _ _ _)
    have f31 : toBR (take (length (map d_iisiiii ((m56 a0).f2))) (drop 0 (map d_iisiiii ((m56 a0).f2)))) = (map b_iisiiii ((m56 a0).f2)) := (tb_iisiiii _)
    have f32 : 0 + (length (map d_sisi ((m56 a0).f3))) ≤ (length (map d_sisi ((m56 a0).f3))) := (by omega)
    have f33 : fullR (take (length (map d_sisi ((m56 a0).f3))) (drop 0 (map d_sisi ((m56 a0).f3)))) = true := (ft_sisi _ _ _)
    have f34 : toBR (take (length (map d_sisi ((m56 a0).f3))) (drop 0 (map d_sisi ((m56 a0).f3)))) = (map b_sisi ((m56 a0).f3)) := (tb_sisi _)
    have f35 : 0 + (length (map d_s ((m55 a0).f1))) ≤ (length (map d_s ((m55 a0).f1))) := (by omega)
    have f36 : fullR (take (length (map d_s ((m55 a0).f1))) (drop 0 (map d_s ((m55 a0).f1)))) = true := (ft_s _ _ _)
    have f37 : toBR (take (length (map d_s ((m55 a0).f1))) (drop 0 (map d_s ((m55 a0).f1)))) = (map b_s ((m55 a0).f1)) := (tb_s _)
    have f38 : 0 + (length (map d_iisiiii ((m55 a0).f2))) ≤ (length (map d_iisiiii ((m55 a0).f2))) := (by omega)
    have f39 : fullR (take (length (map d_iisiiii ((m55 a0).f2))) (drop 0 (map d_iisiiii ((m55 a0).f2)))) = true := (ft_iisiiii _ _ _)
    have f40 : toBR (take (length (map d_iisiiii ((m55 a0).f2))) (drop 0 (map d_iisiiii ((m55 a0).f2)))) = (map b_iisiiii ((m55 a0).f2)) := (tb_iisiiii _)
    have f41 : 0 + (length (map d_sisi ((m55 a0).f3))) ≤ (length (map d_sisi ((m55 a0).f3))) := (by omega)
    have f42 : fullR (take (length (map d_sisi ((m55 a0).f3))) (drop 0 (map d_sisi ((m55 a0).f3)))) = true := (ft_sisi _ _ _)
    have f43 : toBR (take (length (map d_sisi ((m55 a0).f3))) (drop 0 (map d_sisi ((m55 a0).f3)))) = (map b_sisi ((m55 a0).f3)) := (tb_sisi _)
    have f44 : Ev F X (.call 57 [(.agg [(.i ((m56 a0).f0)), (.bor 0 (map b_s ((m56 a0).f1))), (.bor 0 (map b_iisiiii ((m56 a0).f2))), (.bor 0 (map b_sisi ((m56 a0).f3))), (.i ((m56 a0).f4))]), (.agg [(.i ((m55 a0).f0)), (.bor 0 (map b_s ((m55 a0).f1))), (.bor 0 (map b_iisiiii ((m55 a0).f2))), (.bor 0 (map b_sisi ((m55 a0).f3))), (.i ((m55 a0).f4))])] [] [] [(.one (.val (.bool (m57 (m56 a0) (m55 a0)))))]) := (e57 (a0 := (m56 a0)) (a1 := (m55 a0)) (by have q := okm56 a0; exact q.1) (by have q := okm56 a0; exact q.2.1) (by have q := okm56 a0; exact q.2.2) (by have q := okm55 a0; exact q.1) (by have q := okm55 a0; exact q.2.1) (by have q := okm55 a0; exact q.2.2))
    by_cases h1 : (!(m57 (m56 a0) (m55 a0))) = true
    · try simp only [if_pos h1]
      exact callP_ok (ps := []) (os := []) (rs := [(.one (.val (.bool false)))]) (by kernel_rfl) (.r 11 [] [] f0 (.f (nt h0) (.h 18 (.b false) (.r 22 [] [] f2 (.f f3 (.f f4 (.f f5 (.r 24 [] [(map b_sisi a0.f0)] f6 (.f f7 (.f f8 (.f f9 (.f f10 (.f f11 (.f f12 (.r 32 [] [] f13 (.f f14 (.f f15 (.f f16 (.f f17 (.f f18 (.r 40 [] [(map b_sisi a0.f0)] f19 (.f f20 (.f f21 (.f f22 (.f f23 (.f f24 (.f f25 (.f f26 (.f f27 (.f f28 (.f f29 (.f f30 (.f f31 (.f f32 (.f f33 (.f f34 (.f f35 (.f f36 (.f f37 (.f f38 (.f f39 (.f f40 (.f f41 (.f f42 (.f f43 (.r 50 [] [(map b_s ((m56 a0).f1)), (map b_iisiiii ((m56 a0).f2)), (map b_sisi ((m56 a0).f3)), (map b_s ((m55 a0).f1)), (map b_iisiiii ((m55 a0).f2)), (map b_sisi ((m55 a0).f3))] f44 (.f h1 (.h 53 (.b true) .nil))))))))))))))))))))))))))))))))))))))))))))))))
    · try simp only [if_neg h1]
      have f46 : Ev F X (.call 46 [(.agg [(.bor (l0_0 + 1) (map b_sisi a0.f0)), (.i a0.f1)])] [] [] [(.agg [(.own 4 (map d_sisi a0.f0)), (.i a0.f1)])]) := (e46 (a0 := a0) (by with_reducible assumption))
      have f47 : 0 + (length (map d_sisi a0.f0)) ≤ (length (map d_sisi a0.f0)) := (by omega)
      have f48 : fullR (take (length (map d_sisi a0.f0)) (drop 0 (map d_sisi a0.f0))) = true := (ft_sisi _ _ _)
      have f49 : toBR (take (length (map d_sisi a0.f0)) (drop 0 (map d_sisi a0.f0))) = (map b_sisi a0.f0) := (tb_sisi _)
      have f50 : 0 + (length (map d_sisi a0.f0)) ≤ (length (map d_sisi a0.f0)) := (by omega)
      have f51 : fullR (take (length (map d_sisi a0.f0)) (drop 0 (map d_sisi a0.f0))) = true := (ft_sisi _ _ _)
      have f52 : toBR (take (length (map d_sisi a0.f0)) (drop 0 (map d_sisi a0.f0))) = (map b_sisi a0.f0) := (tb_sisi _)
      have f53 : Ev F X (.call 48 [(.agg [(.bor 0 (map b_sisi a0.f0)), (.i a0.f1)]), (.agg [(.bor 0 (map b_sisi a0.f0)), (.i a0.f1)])] [] [] [(.one (.val (.bool (m48 a0 a0))))]) := (e48 (a0 := a0) (a1 := a0) (by with_reducible assumption) (by with_reducible assumption))
      by_cases h2 : (!(m48 a0 a0)) = true
      · try simp only [if_pos h2]
        exact callP_ok (ps := []) (os := []) (rs := [(.one (.val (.bool false)))]) (by kernel_rfl) (.r 11 [] [] f0 (.f (nt h0) (.h 18 (.b false) (.r 22 [] [] f2 (.f f3 (.f f4 (.f f5 (.r 24 [] [(map b_sisi a0.f0)] f6 (.f f7 (.f f8 (.f f9 (.f f10 (.f f11 (.f f12 (.r 32 [] [] f13 (.f f14 (.f f15 (.f f16 (.f f17 (.f f18 (.r 40 [] [(map b_sisi a0.f0)] f19 (.f f20 (.f f21 (.f f22 (.f f23 (.f f24 (.f f25 (.f f26 (.f f27 (.f f28 (.f f29 (.f f30 (.f f31 (.f f32 (.f f33 (.f f34 (.f f35 (.f f36 (.f f37 (.f f38 (.f f39 (.f f40 (.f f41 (.f f42 (.f f43 (.r 50 [] [(map b_s ((m56 a0).f1)), (map b_iisiiii ((m56 a0).f2)), (map b_sisi ((m56 a0).f3)), (map b_s ((m55 a0).f1)), (map b_iisiiii ((m55 a0).f2)), (map b_sisi ((m55 a0).f3))] f44 (.f (nt h1) (.h 53 (.b false) (.r 59 [] [] f46 (.f f47 (.f f48 (.f f49 (.f f50 (.f f51 (.f f52 (.r 61 [] [(map b_sisi a0.f0), (map b_sisi a0.f0)] f53 (.f h2 (.h 64 (.b true) .nil))))))))))))))))))))))))))))))))))))))))))))))))))))))))))
      · try simp only [if_neg h2]
        have f55 : pureR (map d_sisi a0.f0) = true := (pureR_sisi _)
        have f56 : Ev F X (.call 52 [(.agg [(.ref ⟨(0, 0, 0), [], 0, (length (map d_sisi a0.f0))⟩), (.i a0.f1)]), (.oi 1)] [((0, 0, 0), ⟨4, (map d_sisi a0.f0), []⟩)] [(map d_sisi (o52_0 a0 1))] [(.oi (m52 a0 1))]) := (e52 (a0 := a0) (a1 := 1) (by with_reducible assumption))
        by_cases h3 : (decide ((m52 a0 1) < 0)) = true
        · try simp only [if_pos h3]
          exact callP_ok (ps := []) (os := []) (rs := [(.one (.val (.bool false)))]) (by kernel_rfl) (.r 11 [] [] f0 (.f (nt h0) (.h 18 (.b false) (.r 22 [] [] f2 (.f f3 (.f f4 (.f f5 (.r 24 [] [(map b_sisi a0.f0)] f6 (.f f7 (.f f8 (.f f9 (.f f10 (.f f11 (.f f12 (.r 32 [] [] f13 (.f f14 (.f f15 (.f f16 (.f f17 (.f f18 (.r 40 [] [(map b_sisi a0.f0)] f19 (.f f20 (.f f21 (.f f22 (.f f23 (.f f24 (.f f25 (.f f26 (.f f27 (.f f28 (.f f29 (.f f30 (.f f31 (.f f32 (.f f33 (.f f34 (.f f35 (.f f36 (.f f37 (.f f38 (.f f39 (.f f40 (.f f41 (.f f42 (.f f43 (.r 50 [] [(map b_s ((m56 a0).f1)), (map b_iisiiii ((m56 a0).f2)), (map b_sisi ((m56 a0).f3)), (map b_s ((m55 a0).f1)), (map b_iisiiii ((m55 a0).f2)), (map b_sisi ((m55 a0).f3))] f44 (.f (nt h1) (.h 53 (.b false) (.r 59 [] [] f46 (.f f47 (.f f48 (.f f49 (.f f50 (.f f51 (.f f52 (.r 61 [] [(map b_sisi a0.f0), (map b_sisi a0.f0)] f53 (.f (nt h2) (.f f55 (.h 64 (.b false) (.r 72 [true] [] f56 (.f h3 (.f h3 (.f h3 (.f h3 (.f h3 (.h 81 (.b true) (.h 83 (.b true) (.h 85 (.b true) (.h 87 (.b true) (.h 90 (.b true) .nil))))))))))))))))))))))))))))))))))))))))))))))))))))))))))))))))))))))
        · try simp only [if_neg h3]
          have f60 : 0 + (length (map d_s ((m56 a0).f1))) ≤ (length (map d_s ((m56 a0).f1))) := (by omega)
          have f61 : fullR (take (length (map d_s ((m56 a0).f1))) (drop 0 (map d_s ((m56 a0).f1)))) = true := (ft_s _ _ _)
          have f62 : toBR (take (length (map d_s ((m56 a0).f1))) (drop 0 (map d_s ((m56 a0).f1)))) = (map b_s ((m56 a0).f1)) := (tb_s _)
          have f63 : 0 + (length (map d_iisiiii ((m56 a0).f2))) ≤ (length (map d_iisiiii ((m56 a0).f2))) := (by omega)
          have f64 : fullR (take (length (map d_iisiiii ((m56 a0).f2))) (drop 0 (map d_iisiiii ((m56 a0).f2)))) = true := (ft_iisiiii _ _ _)
          have f65 : toBR (take (length (map d_iisiiii ((m56 a0).f2))) (drop 0 (map d_iisiiii ((m56 a0).f2)))) = (map b_iisiiii ((m56 a0).f2)) := (tb_iisiiii _)
          have f66 : 0 + (length (map d_sisi ((m56 a0).f3))) ≤ (length (map d_sisi ((m56 a0).f3))) := (by omega)
          have f67 : fullR (take (length (map d_sisi ((m56 a0).f3))) (drop 0 (map d_sisi ((m56 a0).f3)))) = true := (ft_sisi _ _ _)
          have f68 : toBR (take (length (map d_sisi ((m56 a0).f3))) (drop 0 (map d_sisi ((m56 a0).f3)))) = (map b_sisi ((m56 a0).f3)) := (tb_sisi _)
          have f69 : 0 + (length (map d_s ((m55 a0).f1))) ≤ (length (map d_s ((m55 a0).f1))) := (by omega)
          have f70 : fullR (take (length (map d_s ((m55 a0).f1))) (drop 0 (map d_s ((m55 a0).f1)))) = true := (ft_s _ _ _)
          have f71 : toBR (take (length (map d_s ((m55 a0).f1))) (drop 0 (map d_s ((m55 a0).f1)))) = (map b_s ((m55 a0).f1)) := (tb_s _)
          have f72 : 0 + (length (map d_iisiiii ((m55 a0).f2))) ≤ (length (map d_iisiiii ((m55 a0).f2))) := (by omega)
          have f73 : fullR (take (length (map d_iisiiii ((m55 a0).f2))) (drop 0 (map d_iisiiii ((m55 a0).f2)))) = true := (ft_iisiiii _ _ _)
          have f74 : toBR (take (length (map d_iisiiii ((m55 a0).f2))) (drop 0 (map d_iisiiii ((m55 a0).f2)))) = (map b_iisiiii ((m55 a0).f2)) := (tb_iisiiii _)
          have f75 : 0 + (length (map d_sisi ((m55 a0).f3))) ≤ (length (map d_sisi ((m55 a0).f3))) := (by omega)
          have f76 : fullR (take (length (map d_sisi ((m55 a0).f3))) (drop 0 (map d_sisi ((m55 a0).f3)))) = true := (ft_sisi _ _ _)
          have f77 : toBR (take (length (map d_sisi ((m55 a0).f3))) (drop 0 (map d_sisi ((m55 a0).f3)))) = (map b_sisi ((m55 a0).f3)) := (tb_sisi _)
          have f78 : Ev F X (.call 57 [(.agg [(.i ((m56 a0).f0)), (.bor 0 (map b_s ((m56 a0).f1))), (.bor 0 (map b_iisiiii ((m56 a0).f2))), (.bor 0 (map b_sisi ((m56 a0).f3))), (.i ((m56 a0).f4))]), (.agg [(.i ((m55 a0).f0)), (.bor 0 (map b_s ((m55 a0).f1))), (.bor 0 (map b_iisiiii ((m55 a0).f2))), (.bor 0 (map b_sisi ((m55 a0).f3))), (.i ((m55 a0).f4))])] [] [] [(.one (.val (.bool (m57 (m56 a0) (m55 a0)))))]) := (e57 (a0 := (m56 a0)) (a1 := (m55 a0)) (by have q := okm56 a0; exact q.1) (by have q := okm56 a0; exact q.2.1) (by have q := okm56 a0; exact q.2.2) (by have q := okm55 a0; exact q.1) (by have q := okm55 a0; exact q.2.1) (by have q := okm55 a0; exact q.2.2))
          have f82 : pureR (map d_s ((m56 a0).f1)) = true := (pureR_s _)
          have f83 : pureR (map d_iisiiii ((m56 a0).f2)) = true := (pureR_iisiiii _)
          have f84 : pureR (map d_sisi ((m56 a0).f3)) = true := (pureR_sisi _)
          have f85 : Ev F X (.call 58 [(.agg [(.i ((m56 a0).f0)), (.ref ⟨(0, 0, 0), [], 0, (length (map d_s ((m56 a0).f1)))⟩), (.ref ⟨(0, 1, 0), [], 0, (length (map d_iisiiii ((m56 a0).f2)))⟩), (.ref ⟨(0, 2, 0), [], 0, (length (map d_sisi ((m56 a0).f3)))⟩), (.i ((m56 a0).f4))]), (.oi 1)] [((0, 2, 0), ⟨4, (map d_sisi ((m56 a0).f3)), []⟩), ((0, 1, 0), ⟨7, (map d_iisiiii ((m56 a0).f2)), []⟩), ((0, 0, 0), ⟨1, (map d_s ((m56 a0).f1)), []⟩)] [(map d_sisi (o58_0 (m56 a0) 1)), (map d_iisiiii (o58_1 (m56 a0) 1)), (map d_s (o58_2 (m56 a0) 1))] [(.oi (m58 (m56 a0) 1))]) := (e58 (a0 := (m56 a0)) (a1 := 1) (by have q := okm56 a0; exact q.1) (by have q := okm56 a0; exact q.2.1) (by have q := okm56 a0; exact q.2.2))
          have f86 : 0 + (length (map d_s (o58_2 (m56 a0) 1))) ≤ (length (map d_s (o58_2 (m56 a0) 1))) := (by omega)
          have f87 : fullR (take (length (map d_s (o58_2 (m56 a0) 1))) (drop 0 (map d_s (o58_2 (m56 a0) 1)))) = true := (ft_s _ _ _)
          have f88 : toBR (take (length (map d_s (o58_2 (m56 a0) 1))) (drop 0 (map d_s (o58_2 (m56 a0) 1)))) = (map b_s (o58_2 (m56 a0) 1)) := (tb_s _)
          have f89 : 0 + (length (map d_iisiiii (o58_1 (m56 a0) 1))) ≤ (length (map d_iisiiii (o58_1 (m56 a0) 1))) := (by omega)
          have f90 : fullR (take (length (map d_iisiiii (o58_1 (m56 a0) 1))) (drop 0 (map d_iisiiii (o58_1 (m56 a0) 1)))) = true := (ft_iisiiii _ _ _)
          have f91 : toBR (take (length (map d_iisiiii (o58_1 (m56 a0) 1))) (drop 0 (map d_iisiiii (o58_1 (m56 a0) 1)))) = (map b_iisiiii (o58_1 (m56 a0) 1)) := (tb_iisiiii _)
          have f92 : 0 + (length (map d_sisi (o58_0 (m56 a0) 1))) ≤ (length (map d_sisi (o58_0 (m56 a0) 1))) := (by omega)
          have f93 : fullR (take (length (map d_sisi (o58_0 (m56 a0) 1))) (drop 0 (map d_sisi (o58_0 (m56 a0) 1)))) = true := (ft_sisi _ _ _)
          have f94 : toBR (take (length (map d_sisi (o58_0 (m56 a0) 1))) (drop 0 (map d_sisi (o58_0 (m56 a0) 1)))) = (map b_sisi (o58_0 (m56 a0) 1)) := (tb_sisi _)
          have f95 : Ev F X (.call 59 [(.agg [(.i ((m56 a0).f0)), (.bor 0 (map b_s (o58_2 (m56 a0) 1))), (.bor 0 (map b_iisiiii (o58_1 (m56 a0) 1))), (.bor 0 (map b_sisi (o58_0 (m56 a0) 1))), (.i ((m56 a0).f4))]), (.oi 1)] [] [] [(.oi (m59 (K_iLsELiisiiiiELsisiEi.mk ((m56 a0).f0) (o58_2 (m56 a0) 1) (o58_1 (m56 a0) 1) (o58_0 (m56 a0) 1) ((m56 a0).f4)) 1))]) := (e59 (a0 := (K_iLsELiisiiiiELsisiEi.mk ((m56 a0).f0) (o58_2 (m56 a0) 1) (o58_1 (m56 a0) 1) (o58_0 (m56 a0) 1) ((m56 a0).f4))) (a1 := 1) (by have q := okm56 a0; rw [ol58_2]; exact q.1) (by have q := okm56 a0; rw [ol58_1]; exact q.2.1) (by have q := okm56 a0; rw [ol58_0]; exact q.2.2))
          by_cases h4 : (decide ((m59 (K_iLsELiisiiiiELsisiEi.mk ((m56 a0).f0) (o58_2 (m56 a0) 1) (o58_1 (m56 a0) 1) (o58_0 (m56 a0) 1) ((m56 a0).f4)) 1) < 0)) = true
          · try simp only [if_pos h4]
            exact callP_ok (ps := []) (os := []) (rs := [(.one (.val (.bool false)))]) (by kernel_rfl) (.r 11 [] [] f0 (.f (nt h0) (.h 18 (.b false) (.r 22 [] [] f2 (.f f3 (.f f4 (.f f5 (.r 24 [] [(map b_sisi a0.f0)] f6 (.f f7 (.f f8 (.f f9 (.f f10 (.f f11 (.f f12 (.r 32 [] [] f13 (.f f14 (.f f15 (.f f16 (.f f17 (.f f18 (.r 40 [] [(map b_sisi a0.f0)] f19 (.f f20 (.f f21 (.f f22 (.f f23 (.f f24 (.f f25 (.f f26 (.f f27 (.f f28 (.f f29 (.f f30 (.f f31 (.f f32 (.f f33 (.f f34 (.f f35 (.f f36 (.f f37 (.f f38 (.f f39 (.f f40 (.f f41 (.f f42 (.f f43 (.r 50 [] [(map b_s ((m56 a0).f1)), (map b_iisiiii ((m56 a0).f2)), (map b_sisi ((m56 a0).f3)), (map b_s ((m55 a0).f1)), (map b_iisiiii ((m55 a0).f2)), (map b_sisi ((m55 a0).f3))] f44 (.f (nt h1) (.h 53 (.b false) (.r 59 [] [] f46 (.f f47 (.f f48 (.f f49 (.f f50 (.f f51 (.f f52 (.r 61 [] [(map b_sisi a0.f0), (map b_sisi a0.f0)] f53 (.f (nt h2) (.f f55 (.h 64 (.b false) (.r 72 [true] [] f56 (.f (nt h3) (.f (nt h3) (.f (nt h3) (.f f60 (.f f61 (.f f62 (.f f63 (.f f64 (.f f65 (.f f66 (.f f67 (.f f68 (.f f69 (.f f70 (.f f71 (.f f72 (.f f73 (.f f74 (.f f75 (.f f76 (.f f77 (.h 81 (.b false) (.h 83 (.b false) (.h 85 (.b false) (.r 86 [] [(map b_s ((m56 a0).f1)), (map b_iisiiii ((m56 a0).f2)), (map b_sisi ((m56 a0).f3)), (map b_s ((m55 a0).f1)), (map b_iisiiii ((m55 a0).f2)), (map b_sisi ((m55 a0).f3))] f78 (.f (nt h3) (.f (nt h3) (.f (nt h1) (.f f82 (.f f83 (.f f84 (.h 87 (.b false) (.h 90 (.b false) (.h 91 (.b false) (.r 99 [true, true, true] [] f85 (.f f86 (.f f87 (.f f88 (.f f89 (.f f90 (.f f91 (.f f92 (.f f93 (.f f94 (.r 109 [] [(map b_s (o58_2 (m56 a0) 1)), (map b_iisiiii (o58_1 (m56 a0) 1)), (map b_sisi (o58_0 (m56 a0) 1))] f95 (.f h4 (.h 116 (.b true) .nil)))))))))))))))))))))))))))))))))))))))))))))))))))))))))))))))))))))))))))))))))))))))))))))))))))))))))))
          · try simp only [if_neg h4]
            by_cases h5 : ((m59 (K_iLsELiisiiiiELsisiEi.mk ((m56 a0).f0) (o58_2 (m56 a0) 1) (o58_1 (m56 a0) 1) (o58_0 (m56 a0) 1) ((m56 a0).f4)) 1) != (m58 (m56 a0) 1)) = true
            · try simp only [if_pos h5]
              exact callP_ok (ps := []) (os := []) (rs := [(.one (.val (.bool false)))]) (by kernel_rfl) (.r 11 [] [] f0 (.f (nt h0) (.h 18 (.b false) (.r 22 [] [] f2 (.f f3 (.f f4 (.f f5 (.r 24 [] [(map b_sisi a0.f0)] f6 (.f f7 (.f f8 (.f f9 (.f f10 (.f f11 (.f f12 (.r 32 [] [] f13 (.f f14 (.f f15 (.f f16 (.f f17 (.f f18 (.r 40 [] [(map b_sisi a0.f0)] f19 (.f f20 (.f f21 (.f f22 (.f f23 (.f f24 (.f f25 (.f f26 (.f f27 (.f f28 (.f f29 (.f f30 (.f f31 (.f f32 (.f f33 (.f f34 (.f f35 (.f f36 (.f f37 (.f f38 (.f f39 (.f f40 (.f f41 (.f f42 (.f f43 (.r 50 [] [(map b_s ((m56 a0).f1)), (map b_iisiiii ((m56 a0).f2)), (map b_sisi ((m56 a0).f3)), (map b_s ((m55 a0).f1)), (map b_iisiiii ((m55 a0).f2)), (map b_sisi ((m55 a0).f3))] f44 (.f (nt h1) (.h 53 (.b false) (.r 59 [] [] f46 (.f f47 (.f f48 (.f f49 (.f f50 (.f f51 (.f f52 (.r 61 [] [(map b_sisi a0.f0), (map b_sisi a0.f0)] f53 (.f (nt h2) (.f f55 (.h 64 (.b false) (.r 72 [true] [] f56 (.f (nt h3) (.f (nt h3) (.f (nt h3) (.f f60 (.f f61 (.f f62 (.f f63 (.f f64 (.f f65 (.f f66 (.f f67 (.f f68 (.f f69 (.f f70 (.f f71 (.f f72 (.f f73 (.f f74 (.f f75 (.f f76 (.f f77 (.h 81 (.b false) (.h 83 (.b false) (.h 85 (.b false) (.r 86 [] [(map b_s ((m56 a0).f1)), (map b_iisiiii ((m56 a0).f2)), (map b_sisi ((m56 a0).f3)), (map b_s ((m55 a0).f1)), (map b_iisiiii ((m55 a0).f2)), (map b_sisi ((m55 a0).f3))] f78 (.f (nt h3) (.f (nt h3) (.f (nt h1) (.f f82 (.f f83 (.f f84 (.h 87 (.b false) (.h 90 (.b false) (.h 91 (.b false) (.r 99 [true, true, true] [] f85 (.f f86 (.f f87 (.f f88 (.f f89 (.f f90 (.f f91 (.f f92 (.f f93 (.f f94 (.r 109 [] [(map b_s (o58_2 (m56 a0) 1)), (map b_iisiiii (o58_1 (m56 a0) 1)), (map b_sisi (o58_0 (m56 a0) 1))] f95 (.f (nt h4) (.f h5 (.h 116 (.b false) (.h 123 (.b true) .nil)))))))))))))))))))))))))))))))))))))))))))))))))))))))))))))))))))))))))))))))))))))))))))))))))))))))))))))
            · try simp only [if_neg h5]
              have f98 : Ev F X (.call 46 [(.agg [(.bor (l0_0 + 1) (map b_sisi a0.f0)), (.i a0.f1)])] [] [] [(.agg [(.own 4 (map d_sisi a0.f0)), (.i a0.f1)])]) := (e46 (a0 := a0) (by with_reducible assumption))
              have f99 : 0 + (length (map d_sisi a0.f0)) ≤ (length (map d_sisi a0.f0)) := (by omega)
              have f100 : fullR (take (length (map d_sisi a0.f0)) (drop 0 (map d_sisi a0.f0))) = true := (ft_sisi _ _ _)
              have f101 : toBR (take (length (map d_sisi a0.f0)) (drop 0 (map d_sisi a0.f0))) = (map b_sisi a0.f0) := (tb_sisi _)
              have f102 : Ev F X (.call 56 [(.agg [(.bor 0 (map b_sisi a0.f0)), (.i a0.f1)])] [] [] [(.agg [(.i ((m56 a0).f0)), (.own 1 (map d_s ((m56 a0).f1))), (.own 7 (map d_iisiiii ((m56 a0).f2))), (.own 4 (map d_sisi ((m56 a0).f3))), (.i ((m56 a0).f4))])]) := (e56 (a0 := a0) (by with_reducible assumption))
              have f103 : 0 = 0 := rfl
              have f104 : (length (map d_s ((m56 a0).f1))) = (length (map d_s ((m56 a0).f1))) := rfl
              have f105 : 0 = 0 := rfl
              have f106 : (length (map d_iisiiii ((m56 a0).f2))) = (length (map d_iisiiii ((m56 a0).f2))) := rfl
              have f107 : 0 = 0 := rfl
              have f108 : (length (map d_sisi ((m56 a0).f3))) = (length (map d_sisi ((m56 a0).f3))) := rfl
              have f109 : 0 + (length (map d_s ((m56 a0).f1))) ≤ (length (map d_s ((m56 a0).f1))) := (by omega)
              have f110 : fullR (take (length (map d_s ((m56 a0).f1))) (drop 0 (map d_s ((m56 a0).f1)))) = true := (ft_s _ _ _)
              have f111 : toBR (take (length (map d_s ((m56 a0).f1))) (drop 0 (map d_s ((m56 a0).f1)))) = (map b_s ((m56 a0).f1)) := (tb_s _)
              have f112 : 0 + (length (map d_iisiiii ((m56 a0).f2))) ≤ (length (map d_iisiiii ((m56 a0).f2))) := (by omega)
              have f113 : fullR (take (length (map d_iisiiii ((m56 a0).f2))) (drop 0 (map d_iisiiii ((m56 a0).f2)))) = true := (ft_iisiiii _ _ _)
              have f114 : toBR (take (length (map d_iisiiii ((m56 a0).f2))) (drop 0 (map d_iisiiii ((m56 a0).f2)))) = (map b_iisiiii ((m56 a0).f2)) := (tb_iisiiii _)
              have f115 : 0 + (length (map d_sisi ((m56 a0).f3))) ≤ (length (map d_sisi ((m56 a0).f3))) := (by omega)
              have f116 : fullR (take (length (map d_sisi ((m56 a0).f3))) (drop 0 (map d_sisi ((m56 a0).f3)))) = true := (ft_sisi _ _ _)
              have f117 : toBR (take (length (map d_sisi ((m56 a0).f3))) (drop 0 (map d_sisi ((m56 a0).f3)))) = (map b_sisi ((m56 a0).f3)) := (tb_sisi _)
              have f118 : 0 + (length (map d_s ((m55 a0).f1))) ≤ (length (map d_s ((m55 a0).f1))) := (by omega)
              have f119 : fullR (take (length (map d_s ((m55 a0).f1))) (drop 0 (map d_s ((m55 a0).f1)))) = true := (ft_s _ _ _)
              have f120 : toBR (take (length (map d_s ((m55 a0).f1))) (drop 0 (map d_s ((m55 a0).f1)))) = (map b_s ((m55 a0).f1)) := (tb_s _)
              have f121 : 0 + (length (map d_iisiiii ((m55 a0).f2))) ≤ (length (map d_iisiiii ((m55 a0).f2))) := (by omega)
              have f122 : fullR (take (length (map d_iisiiii ((m55 a0).f2))) (drop 0 (map d_iisiiii ((m55 a0).f2)))) = true := (ft_iisiiii _ _ _)
              have f123 : toBR (take (length (map d_iisiiii ((m55 a0).f2))) (drop 0 (map d_iisiiii ((m55 a0).f2)))) = (map b_iisiiii ((m55 a0).f2)) := (tb_iisiiii _)
              have f124 : 0 + (length (map d_sisi ((m55 a0).f3))) ≤ (length (map d_sisi ((m55 a0).f3))) := (by omega)
              have f125 : fullR (take (length (map d_sisi ((m55 a0).f3))) (drop 0 (map d_sisi ((m55 a0).f3)))) = true := (ft_sisi _ _ _)
              have f126 : toBR (take (length (map d_sisi ((m55 a0).f3))) (drop 0 (map d_sisi ((m55 a0).f3)))) = (map b_sisi ((m55 a0).f3)) := (tb_sisi _)
              have f127 : Ev F X (.call 57 [(.agg [(.i ((m56 a0).f0)), (.bor 0 (map b_s ((m56 a0).f1))), (.bor 0 (map b_iisiiii ((m56 a0).f2))), (.bor 0 (map b_sisi ((m56 a0).f3))), (.i ((m56 a0).f4))]), (.agg [(.i ((m55 a0).f0)), (.bor 0 (map b_s ((m55 a0).f1))), (.bor 0 (map b_iisiiii ((m55 a0).f2))), (.bor 0 (map b_sisi ((m55 a0).f3))), (.i ((m55 a0).f4))])] [] [] [(.one (.val (.bool (m57 (m56 a0) (m55 a0)))))]) := (e57 (a0 := (m56 a0)) (a1 := (m55 a0)) (by have q := okm56 a0; exact q.1) (by have q := okm56 a0; exact q.2.1) (by have q := okm56 a0; exact q.2.2) (by have q := okm55 a0; exact q.1) (by have q := okm55 a0; exact q.2.1) (by have q := okm55 a0; exact q.2.2))
              have f129 : 0 + (length (map d_s (o58_2 (m56 a0) 1))) ≤ (length (map d_s (o58_2 (m56 a0) 1))) := (by omega)
              have f130 : fullR (take (length (map d_s (o58_2 (m56 a0) 1))) (drop 0 (map d_s (o58_2 (m56 a0) 1)))) = true := (ft_s _ _ _)
              have f131 : toBR (take (length (map d_s (o58_2 (m56 a0) 1))) (drop 0 (map d_s (o58_2 (m56 a0) 1)))) = (map b_s (o58_2 (m56 a0) 1)) := (tb_s _)
              have f132 : 0 + (length (map d_iisiiii (o58_1 (m56 a0) 1))) ≤ (length (map d_iisiiii (o58_1 (m56 a0) 1))) := (by omega)
              have f133 : fullR (take (length (map d_iisiiii (o58_1 (m56 a0) 1))) (drop 0 (map d_iisiiii (o58_1 (m56 a0) 1)))) = true := (ft_iisiiii _ _ _)
              have f134 : toBR (take (length (map d_iisiiii (o58_1 (m56 a0) 1))) (drop 0 (map d_iisiiii (o58_1 (m56 a0) 1)))) = (map b_iisiiii (o58_1 (m56 a0) 1)) := (tb_iisiiii _)
              have f135 : 0 + (length (map d_sisi (o58_0 (m56 a0) 1))) ≤ (length (map d_sisi (o58_0 (m56 a0) 1))) := (by omega)
              have f136 : fullR (take (length (map d_sisi (o58_0 (m56 a0) 1))) (drop 0 (map d_sisi (o58_0 (m56 a0) 1)))) = true := (ft_sisi _ _ _)
              have f137 : toBR (take (length (map d_sisi (o58_0 (m56 a0) 1))) (drop 0 (map d_sisi (o58_0 (m56 a0) 1)))) = (map b_sisi (o58_0 (m56 a0) 1)) := (tb_sisi _)
              have f138 : Ev F X (.call 59 [(.agg [(.i ((m56 a0).f0)), (.bor 0 (map b_s (o58_2 (m56 a0) 1))), (.bor 0 (map b_iisiiii (o58_1 (m56 a0) 1))), (.bor 0 (map b_sisi (o58_0 (m56 a0) 1))), (.i ((m56 a0).f4))]), (.oi 1)] [] [] [(.oi (m59 (K_iLsELiisiiiiELsisiEi.mk ((m56 a0).f0) (o58_2 (m56 a0) 1) (o58_1 (m56 a0) 1) (o58_0 (m56 a0) 1) ((m56 a0).f4)) 1))]) := (e59 (a0 := (K_iLsELiisiiiiELsisiEi.mk ((m56 a0).f0) (o58_2 (m56 a0) 1) (o58_1 (m56 a0) 1) (o58_0 (m56 a0) 1) ((m56 a0).f4))) (a1 := 1) (by have q := okm56 a0; rw [ol58_2]; exact q.1) (by have q := okm56 a0; rw [ol58_1]; exact q.2.1) (by have q := okm56 a0; rw [ol58_0]; exact q.2.2))
              exact callP_ok (ps := []) (os := []) (rs := [(.one (.val (.bool true)))]) (by kernel_rfl) (.r 11 [] [] f0 (.f (nt h0) (.h 18 (.b false) (.r 22 [] [] f2 (.f f3 (.f f4 (.f f5 (.r 24 [] [(map b_sisi a0.f0)] f6 (.f f7 (.f f8 (.f f9 (.f f10 (.f f11 (.f f12 (.r 32 [] [] f13 (.f f14 (.f f15 (.f f16 (.f f17 (.f f18 (.r 40 [] [(map b_sisi a0.f0)] f19 (.f f20 (.f f21 (.f f22 (.f f23 (.f f24 (.f f25 (.f f26 (.f f27 (.f f28 (.f f29 (.f f30 (.f f31 (.f f32 (.f f33 (.f f34 (.f f35 (.f f36 (.f f37 (.f f38 (.f f39 (.f f40 (.f f41 (.f f42 (.f f43 (.r 50 [] [(map b_s ((m56 a0).f1)), (map b_iisiiii ((m56 a0).f2)), (map b_sisi ((m56 a0).f3)), (map b_s ((m55 a0).f1)), (map b_iisiiii ((m55 a0).f2)), (map b_sisi ((m55 a0).f3))] f44 (.f (nt h1) (.h 53 (.b false) (.r 59 [] [] f46 (.f f47 (.f f48 (.f f49 (.f f50 (.f f51 (.f f52 (.r 61 [] [(map b_sisi a0.f0), (map b_sisi a0.f0)] f53 (.f (nt h2) (.f f55 (.h 64 (.b false) (.r 72 [true] [] f56 (.f (nt h3) (.f (nt h3) (.f (nt h3) (.f f60 (.f f61 (.f f62 (.f f63 (.f f64 (.f f65 (.f f66 (.f f67 (.f f68 (.f f69 (.f f70 (.f f71 (.f f72 (.f f73 (.f f74 (.f f75 (.f f76 (.f f77 (.h 81 (.b false) (.h 83 (.b false) (.h 85 (.b false) (.r 86 [] [(map b_s ((m56 a0).f1)), (map b_iisiiii ((m56 a0).f2)), (map b_sisi ((m56 a0).f3)), (map b_s ((m55 a0).f1)), (map b_iisiiii ((m55 a0).f2)), (map b_sisi ((m55 a0).f3))] f78 (.f (nt h3) (.f (nt h3) (.f (nt h1) (.f f82 (.f f83 (.f f84 (.h 87 (.b false) (.h 90 (.b false) (.h 91 (.b false) (.r 99 [true, true, true] [] f85 (.f f86 (.f f87 (.f f88 (.f f89 (.f f90 (.f f91 (.f f92 (.f f93 (.f f94 (.r 109 [] [(map b_s (o58_2 (m56 a0) 1)), (map b_iisiiii (o58_1 (m56 a0) 1)), (map b_sisi (o58_0 (m56 a0) 1))] f95 (.f (nt h4) (.f (nt h5) (.h 116 (.b false) (.h 123 (.b false) (.r 127 [] [] f98 (.f f99 (.f f100 (.f f101 (.r 129 [] [(map b_sisi a0.f0)] f102 (.f f103 (.f f104 (.f f105 (.f f106 (.f f107 (.f f108 (.f f109 (.f f110 (.f f111 (.f f112 (.f f113 (.f f114 (.f f115 (.f f116 (.f f117 (.f f118 (.f f119 (.f f120 (.f f121 (.f f122 (.f f123 (.f f124 (.f f125 (.f f126 (.r 139 [] [(map b_s ((m56 a0).f1)), (map b_iisiiii ((m56 a0).f2)), (map b_sisi ((m56 a0).f3)), (map b_s ((m55 a0).f1)), (map b_iisiiii ((m55 a0).f2)), (map b_sisi ((m55 a0).f3))] f127 (.f (nt h1) (.f f129 (.f f130 (.f f131 (.f f132 (.f f133 (.f f134 (.f f135 (.f f136 (.f f137 (.h 142 (.b false) (.r 150 [] [(map b_s (o58_2 (m56 a0) 1)), (map b_iisiiii (o58_1 (m56 a0) 1)), (map b_sisi (o58_0 (m56 a0) 1))] f138 (.f (nt h4) (.f (nt h5) (.h 157 (.b false) (.h 164 (.b false) .nil)))))))))))))))))))))))))))))))))))))))))))))))))))))))))))))))))))))))))))))))))))))))))))))))))))))))))))))))))))))))))))))))))))))))))))))))))))))))))))
/-! weights -/
def wt_sisi (x : K_sisi) : Nat := 4
theorem wts_sisi : ∀ (l : List K_sisi), (map wt_sisi l).sum = l.length * 4
  | [] => rfl
  | x :: l => by simp only [List.map_cons, List.sum_cons, wts_sisi l, length_cons, wt_sisi]; omega
def wt_LsisiEi (x : K_LsisiEi) : Nat := 1 + (map wt_sisi x.f0).sum
def wt_b (x : Bool) : Nat := 1
theorem wts_b : ∀ (l : List Bool), (map wt_b l).sum = l.length * 1
  | [] => rfl
  | x :: l => by simp only [List.map_cons, List.sum_cons, wts_b l, length_cons, wt_b]; omega
def wt_i (x : Int) : Nat := 1
theorem wts_i : ∀ (l : List Int), (map wt_i l).sum = l.length * 1
  | [] => rfl
  | x :: l => by simp only [List.map_cons, List.sum_cons, wts_i l, length_cons, wt_i]; omega
def wt_s (x : ByteArray) : Nat := 1
theorem wts_s : ∀ (l : List ByteArray), (map wt_s l).sum = l.length * 1
  | [] => rfl
  | x :: l => by simp only [List.map_cons, List.sum_cons, wts_s l, length_cons, wt_s]; omega
def wt_iisiiii (x : K_iisiiii) : Nat := 7
theorem wts_iisiiii : ∀ (l : List K_iisiiii), (map wt_iisiiii l).sum = l.length * 7
  | [] => rfl
  | x :: l => by simp only [List.map_cons, List.sum_cons, wts_iisiiii l, length_cons, wt_iisiiii]; omega
def wt_iLsELiisiiiiELsisiEi (x : K_iLsELiisiiiiELsisiEi) : Nat := 2 + (map wt_s x.f1).sum + (map wt_iisiiii x.f2).sum + (map wt_sisi x.f3).sum
def wt_LsisiE (x : (List K_sisi)) : Nat := 0 + (map wt_sisi x).sum
def wt_LsE (x : (List ByteArray)) : Nat := 0 + (map wt_s x).sum
def wt_LiisiiiiE (x : (List K_iisiiii)) : Nat := 0 + (map wt_iisiiii x).sum
def wt_y (x : Int) : Nat := 1
theorem wts_y : ∀ (l : List Int), (map wt_y l).sum = l.length * 1
  | [] => rfl
  | x :: l => by simp only [List.map_cons, List.sum_cons, wts_y l, length_cons, wt_y]; omega
/-! marks of loop.example/g00539/laws.markSessionS -/
theorem mr99_0 (a0 : List K_sisi) : ∀ (l p : List K_sisi) (v1 : Int), 0 ≤ v1 → v1 + ((map wt_sisi l).sum : Nat) ≤ 4611686018427387904 → ∃ (q : List K_sisi) (k' : Int) (w2 : _) (w3 : _), r99_0 a0 l (p.length : Int) (p ++ l) v1 = .k0 (p ++ q) k' w2 w3 ∧ q.length = l.length ∧ v1 ≤ k' ∧ k' ≤ v1 + ((map wt_sisi l).sum : Nat) ∧ ∀ (c : List K_sisi) (j : Int), ∃ u1 u2, r147_0 c q j v1 = .k0 k' u1 u2
  | [], p, v1, h0, h1 => ⟨[], v1, (p.length : Int), (decide ((p.length : Int) < ((length (map d_sisi a0)) : Int))), rfl, rfl, by omega, by simp, fun c j => ⟨j, (decide (j < ((length (map b_sisi c)) : Int))), rfl⟩⟩
  | x0 :: l, p, v1, h0, h1 => by
    simp only [List.map_cons, List.sum_cons, wt_sisi] at h1 ⊢
    obtain ⟨q, k', w2, w3, e1, e2, e3, e4, e5⟩ := mr99_0 a0 l (p ++ [(K_sisi.mk (m82 v1) (v1 + 1) (m82 ((v1 + 1) + 1)) (((v1 + 1) + 1) + 1))]) ((((v1 + 1) + 1) + 1) + 1) (by omega) (by omega)
    refine ⟨(K_sisi.mk (m82 v1) (v1 + 1) (m82 ((v1 + 1) + 1)) (((v1 + 1) + 1) + 1)) :: q, k', w2, w3, ?_, by simp [e2], by omega, by omega, ?_⟩
    · have e : set (p ++ x0 :: l) (Int.toNat (p.length : Int)) (K_sisi.mk (m82 v1) (v1 + 1) (m82 ((v1 + 1) + 1)) (((v1 + 1) + 1) + 1)) = (p ++ [(K_sisi.mk (m82 v1) (v1 + 1) (m82 ((v1 + 1) + 1)) (((v1 + 1) + 1) + 1))]) ++ l := by simp
      have e0 : ((p ++ [(K_sisi.mk (m82 v1) (v1 + 1) (m82 ((v1 + 1) + 1)) (((v1 + 1) + 1) + 1))]).length : Int) = (p.length : Int) + 1 := by simp
      rw [e0] at e1
      simp (disch := omega) only [r99_0, wrap64d]
      first | (rw [e, e1]; simp; done) | (simp only [e, e1]; simp; done)
    · intro c j
      obtain ⟨u1, u2, g⟩ := e5 c (j + 1)
      refine ⟨u1, u2, ?_⟩
      simp (disch := omega) only [r147_0, wrap64d]
      first | (simpa using g) | (simp_all; done)
theorem mh99 (a : List K_sisi) (k : Int) (h0 : 0 ≤ k) (h1 : k + ((map wt_sisi a).sum : Nat) ≤ 4611686018427387904) : m147 (o99_0 a k) k = m99 a k ∧ k ≤ m99 a k ∧ m99 a k ≤ k + ((map wt_sisi a).sum : Nat) := by
  obtain ⟨q, k', w2, w3, e1, e2, e3, e4, e5⟩ := mr99_0 a a [] k h0 h1
  obtain ⟨u1, u2, g⟩ := e5 q 0
  simp only [List.nil_append, length_nil] at e1
  rw [show ((0 : Nat) : Int) = 0 from rfl] at e1
  unfold m99 o99_0 m147
  rw [e1]; simp only []; rw [g]; exact ⟨rfl, e3, e4⟩
/-! marks of loop.example/g00539/laws.markServer -/
theorem mh52 (a : K_LsisiEi) (k : Int) (h0 : 0 ≤ k) (h1 : k + (wt_LsisiEi a : Nat) ≤ 4611686018427387904) : m108 (K_LsisiEi.mk (o52_0 a k) a.f1) k = m52 a k ∧ k ≤ m52 a k ∧ m52 a k ≤ k + (wt_LsisiEi a : Nat) := by
  simp only [wt_LsisiEi] at h1 ⊢
  have s0 := mh99 a.f0 k (by omega) (by omega)
  have t0 := s0.1
  try simp only [length_map, wt_sisi, wt_LsisiEi, wt_b, wt_i, wt_s, wt_iisiiii, wt_iLsELiisiiiiELsisiEi, wt_LsisiE, wt_LsE, wt_LiisiiiiE, wt_y] at *
  unfold m108 m52 o52_0
  simp (disch := omega) only [wrap64d, t0]
  refine ⟨?_, by omega, by omega⟩
  (repeat' rw [if_neg (by simp only [decide_eq_true_eq]; omega)]) <;> rfl
/-! marks of loop.example/g00539/laws.markStringS -/
theorem mr100_0 (a0 : List ByteArray) : ∀ (l p : List ByteArray) (v1 : Int), 0 ≤ v1 → v1 + ((map wt_s l).sum : Nat) ≤ 4611686018427387904 → ∃ (q : List ByteArray) (k' : Int) (w2 : _) (w3 : _), r100_0 a0 l (p.length : Int) (p ++ l) v1 = .k0 (p ++ q) k' w2 w3 ∧ q.length = l.length ∧ v1 ≤ k' ∧ k' ≤ v1 + ((map wt_s l).sum : Nat) ∧ ∀ (c : List ByteArray) (j : Int), ∃ u1 u2, r101_0 c q j v1 = .k0 k' u1 u2
  | [], p, v1, h0, h1 => ⟨[], v1, (p.length : Int), (decide ((p.length : Int) < ((length (map d_s a0)) : Int))), rfl, rfl, by omega, by simp, fun c j => ⟨j, (decide (j < ((length (map b_s c)) : Int))), rfl⟩⟩
  | x0 :: l, p, v1, h0, h1 => by
    simp only [List.map_cons, List.sum_cons, wt_s] at h1 ⊢
    obtain ⟨q, k', w2, w3, e1, e2, e3, e4, e5⟩ := mr100_0 a0 l (p ++ [(m82 v1)]) (v1 + 1) (by omega) (by omega)
    refine ⟨(m82 v1) :: q, k', w2, w3, ?_, by simp [e2], by omega, by omega, ?_⟩
    · have e : set (p ++ x0 :: l) (Int.toNat (p.length : Int)) (m82 v1) = (p ++ [(m82 v1)]) ++ l := by simp
      have e0 : ((p ++ [(m82 v1)]).length : Int) = (p.length : Int) + 1 := by simp
      rw [e0] at e1
      simp (disch := omega) only [r100_0, wrap64d]
      first | (rw [e, e1]; simp; done) | (simp only [e, e1]; simp; done)
    · intro c j
      obtain ⟨u1, u2, g⟩ := e5 c (j + 1)
      refine ⟨u1, u2, ?_⟩
      simp (disch := omega) only [r101_0, wrap64d]
      first | (simpa using g) | (simp_all; done)
theorem mh100 (a : List ByteArray) (k : Int) (h0 : 0 ≤ k) (h1 : k + ((map wt_s a).sum : Nat) ≤ 4611686018427387904) : m101 (o100_0 a k) k = m100 a k ∧ k ≤ m100 a k ∧ m100 a k ≤ k + ((map wt_s a).sum : Nat) := by
  obtain ⟨q, k', w2, w3, e1, e2, e3, e4, e5⟩ := mr100_0 a a [] k h0 h1
  obtain ⟨u1, u2, g⟩ := e5 q 0
  simp only [List.nil_append, length_nil] at e1
  rw [show ((0 : Nat) : Int) = 0 from rfl] at e1
  unfold m100 o100_0 m101
  rw [e1]; simp only []; rw [g]; exact ⟨rfl, e3, e4⟩
/-! marks of loop.example/g00539/laws.markActS -/
theorem mr106_0 (a0 : List K_iisiiii) : ∀ (l p : List K_iisiiii) (v1 : Int), 0 ≤ v1 → v1 + ((map wt_iisiiii l).sum : Nat) ≤ 4611686018427387904 → ∃ (q : List K_iisiiii) (k' : Int) (w2 : _) (w3 : _), r106_0 a0 l (p.length : Int) (p ++ l) v1 = .k0 (p ++ q) k' w2 w3 ∧ q.length = l.length ∧ v1 ≤ k' ∧ k' ≤ v1 + ((map wt_iisiiii l).sum : Nat) ∧ ∀ (c : List K_iisiiii) (j : Int), ∃ u1 u2, r107_0 c q j v1 = .k0 k' u1 u2
  | [], p, v1, h0, h1 => ⟨[], v1, (p.length : Int), (decide ((p.length : Int) < ((length (map d_iisiiii a0)) : Int))), rfl, rfl, by omega, by simp, fun c j => ⟨j, (decide (j < ((length (map b_iisiiii c)) : Int))), rfl⟩⟩
  | x0 :: l, p, v1, h0, h1 => by
    simp only [List.map_cons, List.sum_cons, wt_iisiiii] at h1 ⊢
    obtain ⟨q, k', w2, w3, e1, e2, e3, e4, e5⟩ := mr106_0 a0 l (p ++ [(K_iisiiii.mk v1 (v1 + 1) (m82 ((v1 + 1) + 1)) (((v1 + 1) + 1) + 1) ((((v1 + 1) + 1) + 1) + 1) (((((v1 + 1) + 1) + 1) + 1) + 1) ((((((v1 + 1) + 1) + 1) + 1) + 1) + 1))]) (((((((v1 + 1) + 1) + 1) + 1) + 1) + 1) + 1) (by omega) (by omega)
    refine ⟨(K_iisiiii.mk v1 (v1 + 1) (m82 ((v1 + 1) + 1)) (((v1 + 1) + 1) + 1) ((((v1 + 1) + 1) + 1) + 1) (((((v1 + 1) + 1) + 1) + 1) + 1) ((((((v1 + 1) + 1) + 1) + 1) + 1) + 1)) :: q, k', w2, w3, ?_, by simp [e2], by omega, by omega, ?_⟩
    · have e : set (p ++ x0 :: l) (Int.toNat (p.length : Int)) (K_iisiiii.mk v1 (v1 + 1) (m82 ((v1 + 1) + 1)) (((v1 + 1) + 1) + 1) ((((v1 + 1) + 1) + 1) + 1) (((((v1 + 1) + 1) + 1) + 1) + 1) ((((((v1 + 1) + 1) + 1) + 1) + 1) + 1)) = (p ++ [(K_iisiiii.mk v1 (v1 + 1) (m82 ((v1 + 1) + 1)) (((v1 + 1) + 1) + 1) ((((v1 + 1) + 1) + 1) + 1) (((((v1 + 1) + 1) + 1) + 1) + 1) ((((((v1 + 1) + 1) + 1) + 1) + 1) + 1))]) ++ l := by simp
      have e0 : ((p ++ [(K_iisiiii.mk v1 (v1 + 1) (m82 ((v1 + 1) + 1)) (((v1 + 1) + 1) + 1) ((((v1 + 1) + 1) + 1) + 1) (((((v1 + 1) + 1) + 1) + 1) + 1) ((((((v1 + 1) + 1) + 1) + 1) + 1) + 1))]).length : Int) = (p.length : Int) + 1 := by simp
      rw [e0] at e1
      simp (disch := omega) only [r106_0, wrap64d]
      first | (rw [e, e1]; simp; done) | (simp only [e, e1]; simp; done)
    · intro c j
      obtain ⟨u1, u2, g⟩ := e5 c (j + 1)
      refine ⟨u1, u2, ?_⟩
      simp (disch := omega) only [r107_0, wrap64d]
      first | (simpa using g) | (simp_all; done)
theorem mh106 (a : List K_iisiiii) (k : Int) (h0 : 0 ≤ k) (h1 : k + ((map wt_iisiiii a).sum : Nat) ≤ 4611686018427387904) : m107 (o106_0 a k) k = m106 a k ∧ k ≤ m106 a k ∧ m106 a k ≤ k + ((map wt_iisiiii a).sum : Nat) := by
  obtain ⟨q, k', w2, w3, e1, e2, e3, e4, e5⟩ := mr106_0 a a [] k h0 h1
  obtain ⟨u1, u2, g⟩ := e5 q 0
  simp only [List.nil_append, length_nil] at e1
  rw [show ((0 : Nat) : Int) = 0 from rfl] at e1
  unfold m106 o106_0 m107
  rw [e1]; simp only []; rw [g]; exact ⟨rfl, e3, e4⟩
/-! marks of loop.example/g00539/laws.markServerResult -/
theorem mh58 (a : K_iLsELiisiiiiELsisiEi) (k : Int) (h0 : 0 ≤ k) (h1 : k + (wt_iLsELiisiiiiELsisiEi a : Nat) ≤ 4611686018427387904) : m59 (K_iLsELiisiiiiELsisiEi.mk a.f0 (o58_2 a k) (o58_1 a k) (o58_0 a k) a.f4) k = m58 a k ∧ k ≤ m58 a k ∧ m58 a k ≤ k + (wt_iLsELiisiiiiELsisiEi a : Nat) := by
  simp only [wt_iLsELiisiiiiELsisiEi] at h1 ⊢
  have s0 := mh100 a.f1 k (by omega) (by omega)
  have s1 := mh106 a.f2 (m100 a.f1 k) (by omega) (by omega)
  have s2 := mh52 (K_LsisiEi.mk a.f3 a.f4) (m106 a.f2 (m100 a.f1 k)) (by omega) (by simp only [wt_sisi, wt_LsisiEi, wt_b, wt_i, wt_s, wt_iisiiii, wt_iLsELiisiiiiELsisiEi, wt_LsisiE, wt_LsE, wt_LiisiiiiE, wt_y] at *; omega)
  have t0 := s0.1
  have t1 := s1.1
  have t2 := s2.1
  try simp only [length_map, wt_sisi, wt_LsisiEi, wt_b, wt_i, wt_s, wt_iisiiii, wt_iLsELiisiiiiELsisiEi, wt_LsisiE, wt_LsE, wt_LiisiiiiE, wt_y] at *
  unfold m59 m58 o58_0 o58_1 o58_2
  simp (disch := omega) only [wrap64d, t0, t1, t2]
  refine ⟨?_, by omega, by omega⟩
  (repeat' rw [if_neg (by simp only [decide_eq_true_eq]; omega)]) <;> rfl
theorem ck145 (F : FuncId → Option VFun) (X : Ext) : CkD F X 74 127 4 48 [(.val (.string (⟨#[]⟩ : ByteArray))), (.val (.int .i64 0)), (.val (.string (⟨#[]⟩ : ByteArray))), (.val (.int .i64 0))] := by
  intro l rows h1 h2
  exact codeH_ok (t := 0) (hs := []) (q := [0 + 0 ≤ 0, (([] : List (List D)) ++ fromBR l rows).length * 48 ≤ 70368744177664, ∀ r ∈ fromBR l rows, r.length = 4]) (by rfl) ⟨by simp, by simpa using h1, h2, trivial⟩
theorem X_ok (f : FuncId) (args : List SV) (rs : List Ret) (h : X f args rs) : CallOK Tryd.prog f args [] [] rs := by
  rcases h with ⟨rfl, h⟩ | ⟨rfl, h⟩ | ⟨rfl, h⟩
  · exact clone_ok (X := fun _ _ _ => False) (T := 74) (E := 127) (k := 4) (kb := 48) (zero := [(.val (.string (⟨#[]⟩ : ByteArray))), (.val (.int .i64 0)), (.val (.string (⟨#[]⟩ : ByteArray))), (.val (.int .i64 0))]) (by kernel_rfl) F_ok (fun _ _ _ h => h.elim) (by kernel_rfl) (ck145 _ _) h
  · obtain ⟨s, c, rfl, rfl⟩ := h
    exact idx_ok s c
  · obtain ⟨s, c, h1, h2, h3, rfl, rfl⟩ := h
    exact trim_ok s c h1 h2 h3
end Go.Proofs.YtdnopbpdiineiaaDoor.OpenSession
