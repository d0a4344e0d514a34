/- What the functions compute. -/
import Derived.Test.YtfmkbpiobddhdaaDoorEFoundRewardA
import Derived.KernelRfl
namespace Go.Proofs.YtfmkbpiobddhdaaDoor.FoundReward
open Go Go.Proofs.YtfmkbpiobddhdaaDoor.V
set_option linter.unusedVariables false
set_option linter.unusedSimpArgs false
set_option maxRecDepth 20000
open List (length_replicate length_map length_set length_append length_cons length_nil length_take length_drop take_of_length_le map_take map_drop map_set append_assoc getElem?_map map length take drop getD set)
attribute [local simp] toBR_si fullR_si pureR_si lenB_si lenD_si fromBR_si copy_si toBR_R fullR_R pureR_R lenB_R lenD_R toBR_B fullR_B pureR_B lenB_B lenD_B toBR_i fullR_i pureR_i lenB_i lenD_i fromBR_i copy_i toBR_b fullR_b pureR_b lenB_b lenD_b fromBR_b copy_b toBR_C fullR_C pureR_C lenB_C lenD_C toBR_LsiE fullR_LsiE pureR_LsiE lenB_LsiE lenD_LsiE toBR_Q fullR_Q pureR_Q lenB_Q lenD_Q toBR_s fullR_s pureR_s lenB_s lenD_s fromBR_s copy_s toBR_LiE fullR_LiE pureR_LiE lenB_LiE lenD_LiE strInts_len byteRows_len toBR_y fullR_y pureR_y lenB_y lenD_y fromBR_y copy_y
inductive O142_0 where
 | k0 (w0 : Int) (w1 : Int) (w2 : Bool)
 | k1
def r142_0 (a0 : (List K_si)) : List K_si → Int → Int → O142_0
 | x0 :: y0, i, v0 =>
  if (!(x0.f0.toList == (m141 v0).toList)) = true then (O142_0.k1) else
  if (x0.f1 != (w64 (v0 + 1))) = true then (O142_0.k1) else
   (r142_0 a0 y0 (i + 1) (w64 ((w64 (v0 + 1)) + 1)))
 | [], i, v0 => (O142_0.k0 v0 i (decide (i < ((length (map b_si a0)) : Int))))
def h142_0 (l0_0 : Nat) (a0 : (List K_si)) (a1 : Int) (i : Int) (v0 : Int) : St := ⟨[(0, (.one (.bor l0_0 (map b_si a0)))), (1, (.one (.val (.int .i64 v0)))), (5, (.one (.val (.int .i64 i))))], []⟩
def ex142_0 : O142_0 → VX.Exit
 | .k0 _ _ _ => (.exit 0)
 | .k1 => .ret
def fin142_0 (l0_0 : Nat) (a0 : (List K_si)) (a1 : Int) : O142_0 → St
 | .k0 w0 w1 w2 => ⟨[(0, (.one (.bor l0_0 (map b_si a0)))), (1, (.one (.val (.int .i64 w0)))), (5, (.one (.val (.int .i64 w1)))), (9, (.one (.val (.bool w2))))], []⟩
 | .k1 => ⟨[(4, (.one (.val (.int .i64 (-1)))))], []⟩
theorem t142_0 {l0_0 : Nat} {a0 : (List K_si)} {a1 : Int} (hy0 : length a0 * 24 ≤ 140737488351232) : ∀ (y0 : List K_si) (p : List K_si) (v0 : Int), p ++ y0 = a0 → Ev F X (.code l142_0 (h142_0 l0_0 a0 a1 (length p : Int) v0) (ex142_0 (r142_0 a0 y0 (length p : Int) v0)) (fin142_0 l0_0 a0 a1 (r142_0 a0 y0 (length p : Int) v0)))
 | [], p, v0, hp0 => by
  have hc : ¬ (decide ((length p : Int) < ((length (map b_si a0)) : Int))) = true := by
   rw [← hp0]; simp only [length_map, length_set, length_append, length_replicate, length_cons, length_nil, decide_eq_true_eq]; omega
  have st := ch b142_0 [(8, .b false)] (h142_0 l0_0 a0 a1 (length p : Int) v0) (fin142_0 l0_0 a0 a1 (.k0 v0 (length p : Int) (decide ((length p : Int) < ((length (map b_si a0)) : Int))))) (.exit 0) 9 [(decide ((length p : Int) < ((length (map b_si a0)) : Int))) = false] (by kernel_rfl) ⟨(nt hc), trivial⟩
  exact .loopX st (show ((.exit 0) : VX.Exit) ≠ .normal from by simp)
 | x0 :: y0, p, v0, hp0 => by
  have hc : (decide ((length p : Int) < ((length (map b_si a0)) : Int))) = true := lt1 hp0
  have Hx0 : (a0)[Int.toNat (length p : Int)]? = some x0 := by
   rw [← hp0, Int.toNat_natCast]; simp
  have hlen : length (a0) = length p + length y0 + 1 := by rw [← hp0]; simp; omega
  have hw : w64 ((length p : Int) + 1) = (length p : Int) + 1 := wrap64 (by omega)
  simp only [r142_0]
  by_cases h_1 : (!(x0.f0.toList == (m141 v0).toList)) = true
  ·try simp only [if_pos h_1]
   have st := ch b142_0 [(8, .b true), (14, .row (b_si x0)), (22, .ret [] [(.one (.val (.string (m141 v0))))] [] []), (25, .b true)] (h142_0 l0_0 a0 a1 (length p : Int) v0) (fin142_0 l0_0 a0 a1 (.k1)) .ret 28 [(decide ((length p : Int) < ((length (map b_si a0)) : Int))) = true, 0 ≤ (length p : Int), (map b_si a0)[(Int.toNat (length p : Int))]? = some (b_si x0), Ev F X (.call 141 [(.oi v0)] [] [] [(.one (.val (.string (m141 v0))))]), (!(x0.f0.toList == (m141 v0).toList)) = true] (by kernel_rfl) ⟨hc, (by omega), (by rw [getElem?_map, Hx0]; rfl), (e141 (a0 := v0)), h_1, trivial⟩
   exact .loopX st (show (.ret : VX.Exit) ≠ .normal from by simp)
  ·try simp only [if_neg h_1]
   by_cases h_2 : (x0.f1 != (w64 (v0 + 1))) = true
   ·try simp only [if_pos h_2]
    have st := ch b142_0 [(8, .b true), (14, .row (b_si x0)), (22, .ret [] [(.one (.val (.string (m141 v0))))] [] []), (25, .b false), (37, .row (b_si x0)), (46, .b true)] (h142_0 l0_0 a0 a1 (length p : Int) v0) (fin142_0 l0_0 a0 a1 (.k1)) .ret 49 [(decide ((length p : Int) < ((length (map b_si a0)) : Int))) = true, 0 ≤ (length p : Int), (map b_si a0)[(Int.toNat (length p : Int))]? = some (b_si x0), Ev F X (.call 141 [(.oi v0)] [] [] [(.one (.val (.string (m141 v0))))]), (!(x0.f0.toList == (m141 v0).toList)) = false, True, 0 ≤ (length p : Int), (map b_si a0)[(Int.toNat (length p : Int))]? = some (b_si x0), (x0.f1 != (w64 (v0 + 1))) = true] (by kernel_rfl) ⟨hc, (by omega), (by rw [getElem?_map, Hx0]; rfl), (e141 (a0 := v0)), (nt h_1), trivial, (by omega), (by rw [getElem?_map, Hx0]; rfl), h_2, trivial⟩
    exact .loopX st (show (.ret : VX.Exit) ≠ .normal from by simp)
   ·try simp only [if_neg h_2]
    have st := ch b142_0 [(8, .b true), (14, .row (b_si x0)), (22, .ret [] [(.one (.val (.string (m141 v0))))] [] []), (25, .b false), (37, .row (b_si x0)), (46, .b false)] (h142_0 l0_0 a0 a1 (length p : Int) v0) ⟨[(0, (.one (.bor l0_0 (map b_si a0)))), (1, (.oi (w64 ((w64 (v0 + 1)) + 1)))), (5, (.oi (w64 ((length p : Int) + 1))))], []⟩ .normal 59 [(decide ((length p : Int) < ((length (map b_si a0)) : Int))) = true, 0 ≤ (length p : Int), (map b_si a0)[(Int.toNat (length p : Int))]? = some (b_si x0), Ev F X (.call 141 [(.oi v0)] [] [] [(.one (.val (.string (m141 v0))))]), (!(x0.f0.toList == (m141 v0).toList)) = false, True, 0 ≤ (length p : Int), (map b_si a0)[(Int.toNat (length p : Int))]? = some (b_si x0), (x0.f1 != (w64 (v0 + 1))) = false, True, True] (by kernel_rfl) ⟨hc, (by omega), (by rw [getElem?_map, Hx0]; rfl), (e141 (a0 := v0)), (nt h_1), trivial, (by omega), (by rw [getElem?_map, Hx0]; rfl), (nt h_2), trivial, trivial, trivial⟩
    have ih := t142_0 (l0_0 := l0_0) (a0 := a0) (a1 := a1) hy0 y0 (p ++ [x0]) (w64 ((w64 (v0 + 1)) + 1)) (by rw [append_assoc]; exact hp0)
    rw [show ((p ++ [x0]).length : Int) = (p.length : Int) + 1 from by simp] at ih
    replace st := to_ (s' := h142_0 l0_0 a0 a1 ((length p : Int) + 1) (w64 ((w64 (v0 + 1)) + 1))) st (by unfold h142_0; simp only [hw]; done)
    exact .loopN st ih
def m142 (a0 : (List K_si)) (a1 : Int) : Int :=
 (match r142_0 a0 a0 0 a1 with | .k0 w0_0 w1_0 w2_0 => w0_0 | .k1 => (-1))
theorem e142 {l0_0 : Nat} {a0 : (List K_si)} {a1 : Int} (hy0 : length a0 * 24 ≤ 140737488351232) : Ev F X (.call 142 [(.one (.bor l0_0 (map b_si a0))), (.one (.val (.int .i64 a1)))] [] [] [(.one (.val (.int .i64 (m142 a0 a1))))]) := by
 unfold m142
 cases h0 : r142_0 a0 a0 0 a1 with
 | k0 w0_0 w1_0 w2_0 =>
  try dsimp only
  have f0 : (⟨[(0, (.one (.bor l0_0 (map b_si a0)))), (1, (.oi a1)), (5, (.oi 0))], []⟩ : St) = h142_0 l0_0 a0 a1 0 a1 := (by rfl)
  have f1 : Ev F X (.code l142_0 (h142_0 l0_0 a0 a1 0 a1) (.exit 0) ⟨[(0, (.one (.bor l0_0 (map b_si a0)))), (1, (.oi w0_0)), (5, (.oi w1_0)), (9, (.one (.val (.bool w2_0))))], []⟩) := (by have t : Ev F X (.code l142_0 (h142_0 l0_0 a0 a1 0 a1) (ex142_0 (r142_0 a0 a0 0 a1)) (fin142_0 l0_0 a0 a1 (r142_0 a0 a0 0 a1))) := t142_0 (l0_0 := l0_0) (a0 := a0) (a1 := a1) (by assumption) a0 [] a1 rfl; rw [h0] at t; exact t)
  exact cp (by kernel_rfl) (.f f0 (.f f1 (.h 4 (.loop (h142_0 l0_0 a0 a1 0 a1) (.exit 0) ⟨[(0, (.one (.bor l0_0 (map b_si a0)))), (1, (.oi w0_0)), (5, (.oi w1_0)), (9, (.one (.val (.bool w2_0))))], []⟩) .nil)))
 | k1 =>
  try dsimp only
  have f0 : (⟨[(0, (.one (.bor l0_0 (map b_si a0)))), (1, (.oi a1)), (5, (.oi 0))], []⟩ : St) = h142_0 l0_0 a0 a1 0 a1 := (by rfl)
  have f1 : Ev F X (.code l142_0 (h142_0 l0_0 a0 a1 0 a1) .ret ⟨[(4, (.oi (-1)))], []⟩) := (by have t : Ev F X (.code l142_0 (h142_0 l0_0 a0 a1 0 a1) (ex142_0 (r142_0 a0 a0 0 a1)) (fin142_0 l0_0 a0 a1 (r142_0 a0 a0 0 a1))) := t142_0 (l0_0 := l0_0) (a0 := a0) (a1 := a1) (by assumption) a0 [] a1 rfl; rw [h0] at t; exact t)
  exact cp (by kernel_rfl) (.f f0 (.f f1 (.h 4 (.loop (h142_0 l0_0 a0 a1 0 a1) .ret ⟨[(4, (.oi (-1)))], []⟩) .nil)))
inductive O143_0 where
 | k0 (w0 : Int) (w1 : Int) (w2 : Bool)
 | k1
def r143_0 (a0 : (List K_R)) : List K_R → Int → Int → O143_0
 | x0 :: y0, i, v0 =>
  if (x0.f0 != v0) = true then (O143_0.k1) else
  if (x0.f1 != (w64 (v0 + 1))) = true then (O143_0.k1) else
   if (x0.f2 != (w64 ((w64 (v0 + 1)) + 1))) = true then (O143_0.k1) else
    if (decide ((m142 x0.f3 (w64 ((w64 ((w64 (v0 + 1)) + 1)) + 1))) < 0)) = true then (O143_0.k1) else
     if (x0.f4 != (m142 x0.f3 (w64 ((w64 ((w64 (v0 + 1)) + 1)) + 1)))) = true then (O143_0.k1) else
      (r143_0 a0 y0 (i + 1) (w64 ((m142 x0.f3 (w64 ((w64 ((w64 (v0 + 1)) + 1)) + 1))) + 1)))
 | [], i, v0 => (O143_0.k0 v0 i (decide (i < ((length (map b_R a0)) : Int))))
def h143_0 (l0_0 : Nat) (a0 : (List K_R)) (a1 : Int) (i : Int) (v0 : Int) : St := ⟨[(0, (.one (.bor l0_0 (map b_R a0)))), (1, (.one (.val (.int .i64 v0)))), (5, (.one (.val (.int .i64 i))))], []⟩
def ex143_0 : O143_0 → VX.Exit
 | .k0 _ _ _ => (.exit 0)
 | .k1 => .ret
def fin143_0 (l0_0 : Nat) (a0 : (List K_R)) (a1 : Int) : O143_0 → St
 | .k0 w0 w1 w2 => ⟨[(0, (.one (.bor l0_0 (map b_R a0)))), (1, (.one (.val (.int .i64 w0)))), (5, (.one (.val (.int .i64 w1)))), (9, (.one (.val (.bool w2))))], []⟩
 | .k1 => ⟨[(4, (.one (.val (.int .i64 (-1)))))], []⟩
theorem t143_0 {l0_0 : Nat} {a0 : (List K_R)} {a1 : Int} (hy0 : length a0 * 56 ≤ 140737488351232) (hy1 : ∀ z ∈ a0, ok_R z) : ∀ (y0 : List K_R) (p : List K_R) (v0 : Int), p ++ y0 = a0 → Ev F X (.code l143_0 (h143_0 l0_0 a0 a1 (length p : Int) v0) (ex143_0 (r143_0 a0 y0 (length p : Int) v0)) (fin143_0 l0_0 a0 a1 (r143_0 a0 y0 (length p : Int) v0)))
 | [], p, v0, hp0 => by
  have hc : ¬ (decide ((length p : Int) < ((length (map b_R a0)) : Int))) = true := by
   rw [← hp0]; simp only [length_map, length_set, length_append, length_replicate, length_cons, length_nil, decide_eq_true_eq]; omega
  have st := ch b143_0 [(8, .b false)] (h143_0 l0_0 a0 a1 (length p : Int) v0) (fin143_0 l0_0 a0 a1 (.k0 v0 (length p : Int) (decide ((length p : Int) < ((length (map b_R a0)) : Int))))) (.exit 0) 9 [(decide ((length p : Int) < ((length (map b_R a0)) : Int))) = false] (by kernel_rfl) ⟨(nt hc), trivial⟩
  exact .loopX st (show ((.exit 0) : VX.Exit) ≠ .normal from by simp)
 | x0 :: y0, p, v0, hp0 => by
  have hc : (decide ((length p : Int) < ((length (map b_R a0)) : Int))) = true := lt1 hp0
  have Hx0 : (a0)[Int.toNat (length p : Int)]? = some x0 := by
   rw [← hp0, Int.toNat_natCast]; simp
  have Mx0_0 := hy1 x0 (List.mem_of_getElem? Hx0)
  have hlen : length (a0) = length p + length y0 + 1 := by rw [← hp0]; simp; omega
  have hw : w64 ((length p : Int) + 1) = (length p : Int) + 1 := wrap64 (by omega)
  simp only [r143_0]
  by_cases h_1 : (x0.f0 != v0) = true
  ·try simp only [if_pos h_1]
   have st := ch b143_0 [(8, .b true), (14, .row (b_R x0)), (23, .b true)] (h143_0 l0_0 a0 a1 (length p : Int) v0) (fin143_0 l0_0 a0 a1 (.k1)) .ret 26 [(decide ((length p : Int) < ((length (map b_R a0)) : Int))) = true, 0 ≤ (length p : Int), (map b_R a0)[(Int.toNat (length p : Int))]? = some (b_R x0), (x0.f0 != v0) = true] (by kernel_rfl) ⟨hc, (by omega), (by rw [getElem?_map, Hx0]; rfl), h_1, trivial⟩
   exact .loopX st (show (.ret : VX.Exit) ≠ .normal from by simp)
  ·try simp only [if_neg h_1]
   by_cases h_2 : (x0.f1 != (w64 (v0 + 1))) = true
   ·try simp only [if_pos h_2]
    have st := ch b143_0 [(8, .b true), (14, .row (b_R x0)), (23, .b false), (35, .row (b_R x0)), (44, .b true)] (h143_0 l0_0 a0 a1 (length p : Int) v0) (fin143_0 l0_0 a0 a1 (.k1)) .ret 47 [(decide ((length p : Int) < ((length (map b_R a0)) : Int))) = true, 0 ≤ (length p : Int), (map b_R a0)[(Int.toNat (length p : Int))]? = some (b_R x0), (x0.f0 != v0) = false, True, 0 ≤ (length p : Int), (map b_R a0)[(Int.toNat (length p : Int))]? = some (b_R x0), (x0.f1 != (w64 (v0 + 1))) = true] (by kernel_rfl) ⟨hc, (by omega), (by rw [getElem?_map, Hx0]; rfl), (nt h_1), trivial, (by omega), (by rw [getElem?_map, Hx0]; rfl), h_2, trivial⟩
    exact .loopX st (show (.ret : VX.Exit) ≠ .normal from by simp)
   ·try simp only [if_neg h_2]
    by_cases h_3 : (x0.f2 != (w64 ((w64 (v0 + 1)) + 1))) = true
    ·try simp only [if_pos h_3]
     have st := ch b143_0 [(8, .b true), (14, .row (b_R x0)), (23, .b false), (35, .row (b_R x0)), (44, .b false), (56, .row (b_R x0)), (65, .b true)] (h143_0 l0_0 a0 a1 (length p : Int) v0) (fin143_0 l0_0 a0 a1 (.k1)) .ret 68 [(decide ((length p : Int) < ((length (map b_R a0)) : Int))) = true, 0 ≤ (length p : Int), (map b_R a0)[(Int.toNat (length p : Int))]? = some (b_R x0), (x0.f0 != v0) = false, True, 0 ≤ (length p : Int), (map b_R a0)[(Int.toNat (length p : Int))]? = some (b_R x0), (x0.f1 != (w64 (v0 + 1))) = false, True, 0 ≤ (length p : Int), (map b_R a0)[(Int.toNat (length p : Int))]? = some (b_R x0), (x0.f2 != (w64 ((w64 (v0 + 1)) + 1))) = true] (by kernel_rfl) ⟨hc, (by omega), (by rw [getElem?_map, Hx0]; rfl), (nt h_1), trivial, (by omega), (by rw [getElem?_map, Hx0]; rfl), (nt h_2), trivial, (by omega), (by rw [getElem?_map, Hx0]; rfl), h_3, trivial⟩
     exact .loopX st (show (.ret : VX.Exit) ≠ .normal from by simp)
    ·try simp only [if_neg h_3]
     by_cases h_4 : (decide ((m142 x0.f3 (w64 ((w64 ((w64 (v0 + 1)) + 1)) + 1))) < 0)) = true
     ·try simp only [if_pos h_4]
      have st := ch b143_0 [(8, .b true), (14, .row (b_R x0)), (23, .b false), (35, .row (b_R x0)), (44, .b false), (56, .row (b_R x0)), (65, .b false), (77, .row (b_R x0)), (85, .ret [] [(.oi (m142 x0.f3 (w64 ((w64 ((w64 (v0 + 1)) + 1)) + 1))))] [] []), (92, .b true)] (h143_0 l0_0 a0 a1 (length p : Int) v0) (fin143_0 l0_0 a0 a1 (.k1)) .ret 95 [(decide ((length p : Int) < ((length (map b_R a0)) : Int))) = true, 0 ≤ (length p : Int), (map b_R a0)[(Int.toNat (length p : Int))]? = some (b_R x0), (x0.f0 != v0) = false, True, 0 ≤ (length p : Int), (map b_R a0)[(Int.toNat (length p : Int))]? = some (b_R x0), (x0.f1 != (w64 (v0 + 1))) = false, True, 0 ≤ (length p : Int), (map b_R a0)[(Int.toNat (length p : Int))]? = some (b_R x0), (x0.f2 != (w64 ((w64 (v0 + 1)) + 1))) = false, True, 0 ≤ (length p : Int), (map b_R a0)[(Int.toNat (length p : Int))]? = some (b_R x0), Ev F X (.call 142 [(.one (.bor (l0_0 + 1) (map b_si x0.f3))), (.oi (w64 ((w64 ((w64 (v0 + 1)) + 1)) + 1)))] [] [] [(.oi (m142 x0.f3 (w64 ((w64 ((w64 (v0 + 1)) + 1)) + 1))))]), (decide ((m142 x0.f3 (w64 ((w64 ((w64 (v0 + 1)) + 1)) + 1))) < 0)) = true] (by kernel_rfl) ⟨hc, (by omega), (by rw [getElem?_map, Hx0]; rfl), (nt h_1), trivial, (by omega), (by rw [getElem?_map, Hx0]; rfl), (nt h_2), trivial, (by omega), (by rw [getElem?_map, Hx0]; rfl), (nt h_3), trivial, (by omega), (by rw [getElem?_map, Hx0]; rfl), (e142 (a0 := x0.f3) (a1 := (w64 ((w64 ((w64 (v0 + 1)) + 1)) + 1))) (by assumption)), h_4, trivial⟩
      exact .loopX st (show (.ret : VX.Exit) ≠ .normal from by simp)
     ·try simp only [if_neg h_4]
      by_cases h_5 : (x0.f4 != (m142 x0.f3 (w64 ((w64 ((w64 (v0 + 1)) + 1)) + 1)))) = true
      ·try simp only [if_pos h_5]
       have st := ch b143_0 [(8, .b true), (14, .row (b_R x0)), (23, .b false), (35, .row (b_R x0)), (44, .b false), (56, .row (b_R x0)), (65, .b false), (77, .row (b_R x0)), (85, .ret [] [(.oi (m142 x0.f3 (w64 ((w64 ((w64 (v0 + 1)) + 1)) + 1))))] [] []), (92, .b false), (98, .row (b_R x0)), (107, .b true)] (h143_0 l0_0 a0 a1 (length p : Int) v0) (fin143_0 l0_0 a0 a1 (.k1)) .ret 110 [(decide ((length p : Int) < ((length (map b_R a0)) : Int))) = true, 0 ≤ (length p : Int), (map b_R a0)[(Int.toNat (length p : Int))]? = some (b_R x0), (x0.f0 != v0) = false, True, 0 ≤ (length p : Int), (map b_R a0)[(Int.toNat (length p : Int))]? = some (b_R x0), (x0.f1 != (w64 (v0 + 1))) = false, True, 0 ≤ (length p : Int), (map b_R a0)[(Int.toNat (length p : Int))]? = some (b_R x0), (x0.f2 != (w64 ((w64 (v0 + 1)) + 1))) = false, True, 0 ≤ (length p : Int), (map b_R a0)[(Int.toNat (length p : Int))]? = some (b_R x0), Ev F X (.call 142 [(.one (.bor (l0_0 + 1) (map b_si x0.f3))), (.oi (w64 ((w64 ((w64 (v0 + 1)) + 1)) + 1)))] [] [] [(.oi (m142 x0.f3 (w64 ((w64 ((w64 (v0 + 1)) + 1)) + 1))))]), (decide ((m142 x0.f3 (w64 ((w64 ((w64 (v0 + 1)) + 1)) + 1))) < 0)) = false, 0 ≤ (length p : Int), (map b_R a0)[(Int.toNat (length p : Int))]? = some (b_R x0), (x0.f4 != (m142 x0.f3 (w64 ((w64 ((w64 (v0 + 1)) + 1)) + 1)))) = true] (by kernel_rfl) ⟨hc, (by omega), (by rw [getElem?_map, Hx0]; rfl), (nt h_1), trivial, (by omega), (by rw [getElem?_map, Hx0]; rfl), (nt h_2), trivial, (by omega), (by rw [getElem?_map, Hx0]; rfl), (nt h_3), trivial, (by omega), (by rw [getElem?_map, Hx0]; rfl), (e142 (a0 := x0.f3) (a1 := (w64 ((w64 ((w64 (v0 + 1)) + 1)) + 1))) (by assumption)), (nt h_4), (by omega), (by rw [getElem?_map, Hx0]; rfl), h_5, trivial⟩
       exact .loopX st (show (.ret : VX.Exit) ≠ .normal from by simp)
      ·try simp only [if_neg h_5]
       have st := ch b143_0 [(8, .b true), (14, .row (b_R x0)), (23, .b false), (35, .row (b_R x0)), (44, .b false), (56, .row (b_R x0)), (65, .b false), (77, .row (b_R x0)), (85, .ret [] [(.oi (m142 x0.f3 (w64 ((w64 ((w64 (v0 + 1)) + 1)) + 1))))] [] []), (92, .b false), (98, .row (b_R x0)), (107, .b false)] (h143_0 l0_0 a0 a1 (length p : Int) v0) ⟨[(0, (.one (.bor l0_0 (map b_R a0)))), (1, (.oi (w64 ((m142 x0.f3 (w64 ((w64 ((w64 (v0 + 1)) + 1)) + 1))) + 1)))), (5, (.oi (w64 ((length p : Int) + 1))))], []⟩ .normal 120 [(decide ((length p : Int) < ((length (map b_R a0)) : Int))) = true, 0 ≤ (length p : Int), (map b_R a0)[(Int.toNat (length p : Int))]? = some (b_R x0), (x0.f0 != v0) = false, True, 0 ≤ (length p : Int), (map b_R a0)[(Int.toNat (length p : Int))]? = some (b_R x0), (x0.f1 != (w64 (v0 + 1))) = false, True, 0 ≤ (length p : Int), (map b_R a0)[(Int.toNat (length p : Int))]? = some (b_R x0), (x0.f2 != (w64 ((w64 (v0 + 1)) + 1))) = false, True, 0 ≤ (length p : Int), (map b_R a0)[(Int.toNat (length p : Int))]? = some (b_R x0), Ev F X (.call 142 [(.one (.bor (l0_0 + 1) (map b_si x0.f3))), (.oi (w64 ((w64 ((w64 (v0 + 1)) + 1)) + 1)))] [] [] [(.oi (m142 x0.f3 (w64 ((w64 ((w64 (v0 + 1)) + 1)) + 1))))]), (decide ((m142 x0.f3 (w64 ((w64 ((w64 (v0 + 1)) + 1)) + 1))) < 0)) = false, 0 ≤ (length p : Int), (map b_R a0)[(Int.toNat (length p : Int))]? = some (b_R x0), (x0.f4 != (m142 x0.f3 (w64 ((w64 ((w64 (v0 + 1)) + 1)) + 1)))) = false, True, True] (by kernel_rfl) ⟨hc, (by omega), (by rw [getElem?_map, Hx0]; rfl), (nt h_1), trivial, (by omega), (by rw [getElem?_map, Hx0]; rfl), (nt h_2), trivial, (by omega), (by rw [getElem?_map, Hx0]; rfl), (nt h_3), trivial, (by omega), (by rw [getElem?_map, Hx0]; rfl), (e142 (a0 := x0.f3) (a1 := (w64 ((w64 ((w64 (v0 + 1)) + 1)) + 1))) (by assumption)), (nt h_4), (by omega), (by rw [getElem?_map, Hx0]; rfl), (nt h_5), trivial, trivial, trivial⟩
       have ih := t143_0 (l0_0 := l0_0) (a0 := a0) (a1 := a1) hy0 hy1 y0 (p ++ [x0]) (w64 ((m142 x0.f3 (w64 ((w64 ((w64 (v0 + 1)) + 1)) + 1))) + 1)) (by rw [append_assoc]; exact hp0)
       rw [show ((p ++ [x0]).length : Int) = (p.length : Int) + 1 from by simp] at ih
       replace st := to_ (s' := h143_0 l0_0 a0 a1 ((length p : Int) + 1) (w64 ((m142 x0.f3 (w64 ((w64 ((w64 (v0 + 1)) + 1)) + 1))) + 1))) st (by unfold h143_0; simp only [hw]; done)
       exact .loopN st ih
def m143 (a0 : (List K_R)) (a1 : Int) : Int :=
 (match r143_0 a0 a0 0 a1 with | .k0 w0_0 w1_0 w2_0 => w0_0 | .k1 => (-1))
theorem e143 {l0_0 : Nat} {a0 : (List K_R)} {a1 : Int} (hy0 : length a0 * 56 ≤ 140737488351232) (hy1 : ∀ z ∈ a0, ok_R z) : Ev F X (.call 143 [(.one (.bor l0_0 (map b_R a0))), (.one (.val (.int .i64 a1)))] [] [] [(.one (.val (.int .i64 (m143 a0 a1))))]) := by
 unfold m143
 cases h0 : r143_0 a0 a0 0 a1 with
 | k0 w0_0 w1_0 w2_0 =>
  try dsimp only
  have f0 : (⟨[(0, (.one (.bor l0_0 (map b_R a0)))), (1, (.oi a1)), (5, (.oi 0))], []⟩ : St) = h143_0 l0_0 a0 a1 0 a1 := (by rfl)
  have f1 : Ev F X (.code l143_0 (h143_0 l0_0 a0 a1 0 a1) (.exit 0) ⟨[(0, (.one (.bor l0_0 (map b_R a0)))), (1, (.oi w0_0)), (5, (.oi w1_0)), (9, (.one (.val (.bool w2_0))))], []⟩) := (by have t : Ev F X (.code l143_0 (h143_0 l0_0 a0 a1 0 a1) (ex143_0 (r143_0 a0 a0 0 a1)) (fin143_0 l0_0 a0 a1 (r143_0 a0 a0 0 a1))) := t143_0 (l0_0 := l0_0) (a0 := a0) (a1 := a1) (by assumption) (by assumption) a0 [] a1 rfl; rw [h0] at t; exact t)
  exact cp (by kernel_rfl) (.f f0 (.f f1 (.h 4 (.loop (h143_0 l0_0 a0 a1 0 a1) (.exit 0) ⟨[(0, (.one (.bor l0_0 (map b_R a0)))), (1, (.oi w0_0)), (5, (.oi w1_0)), (9, (.one (.val (.bool w2_0))))], []⟩) .nil)))
 | k1 =>
  try dsimp only
  have f0 : (⟨[(0, (.one (.bor l0_0 (map b_R a0)))), (1, (.oi a1)), (5, (.oi 0))], []⟩ : St) = h143_0 l0_0 a0 a1 0 a1 := (by rfl)
  have f1 : Ev F X (.code l143_0 (h143_0 l0_0 a0 a1 0 a1) .ret ⟨[(4, (.oi (-1)))], []⟩) := (by have t : Ev F X (.code l143_0 (h143_0 l0_0 a0 a1 0 a1) (ex143_0 (r143_0 a0 a0 0 a1)) (fin143_0 l0_0 a0 a1 (r143_0 a0 a0 0 a1))) := t143_0 (l0_0 := l0_0) (a0 := a0) (a1 := a1) (by assumption) (by assumption) a0 [] a1 rfl; rw [h0] at t; exact t)
  exact cp (by kernel_rfl) (.f f0 (.f f1 (.h 4 (.loop (h143_0 l0_0 a0 a1 0 a1) .ret ⟨[(4, (.oi (-1)))], []⟩) .nil)))
def m87 (a0 : K_B) (a1 : Int) : Int :=
 if (decide ((m142 a0.f2 a1) < 0)) = true then (-1) else
 if (decide ((m143 a0.f3 (m142 a0.f2 a1)) < 0)) = true then (-1) else
  if (decide ((m142 a0.f4 (m143 a0.f3 (m142 a0.f2 a1))) < 0)) = true then (-1) else
   (m142 a0.f4 (m143 a0.f3 (m142 a0.f2 a1)))
theorem e87 {l0_2 : Nat} {l0_3 : Nat} {l0_4 : Nat} {a0 : K_B} {a1 : Int} (hy0 : length a0.f2 * 24 ≤ 140737488351232) (hy1 : length a0.f3 * 56 ≤ 140737488351232) (hy2 : ∀ z ∈ a0.f3, ok_R z) (hy3 : length a0.f4 * 24 ≤ 140737488351232) : Ev F X (.call 87 [(.agg [(.val (.int .i64 a0.f0)), (.val (.int .i64 a0.f1)), (.bor l0_2 (map b_si a0.f2)), (.bor l0_3 (map b_R a0.f3)), (.bor l0_4 (map b_si a0.f4)), (.val (.int .i64 a0.f5)), (.val (.int .i64 a0.f6)), (.val (.int .i64 a0.f7))]), (.one (.val (.int .i64 a1)))] [] [] [(.one (.val (.int .i64 (m87 a0 a1))))]) := by
 unfold m87
 have f0 := e142 (l0_0 := l0_2 + 1) (a0 := a0.f2) (a1 := a1) (by with_reducible assumption)
 by_cases h0 : (decide ((m142 a0.f2 a1) < 0)) = true
 ·try simp only [if_pos h0]
  exact cp (by kernel_rfl) (.r 11 [] [] f0 (.f h0 (.y 18 .nil)))
 ·try simp only [if_neg h0]
  have f2 := e143 (l0_0 := l0_3 + 1) (a0 := a0.f3) (a1 := (m142 a0.f2 a1)) (by with_reducible assumption) (by with_reducible assumption)
  by_cases h1 : (decide ((m143 a0.f3 (m142 a0.f2 a1)) < 0)) = true
  ·try simp only [if_pos h1]
   exact cp (by kernel_rfl) (.r 11 [] [] f0 (.g h0 (.z 18 (.r 26 [] [] f2 (.f h1 (.y 33 .nil))))))
  ·try simp only [if_neg h1]
   have f4 := e142 (l0_0 := l0_4 + 1) (a0 := a0.f4) (a1 := (m143 a0.f3 (m142 a0.f2 a1))) (by with_reducible assumption)
   by_cases h2 : (decide ((m142 a0.f4 (m143 a0.f3 (m142 a0.f2 a1))) < 0)) = true
   ·try simp only [if_pos h2]
    exact cp (by kernel_rfl) (.r 11 [] [] f0 (.g h0 (.z 18 (.r 26 [] [] f2 (.g h1 (.z 33 (.r 41 [] [] f4 (.f h2 (.y 48 .nil)))))))))
   ·try simp only [if_neg h2]
    exact cp (by kernel_rfl) (.r 11 [] [] f0 (.g h0 (.z 18 (.r 26 [] [] f2 (.g h1 (.z 33 (.r 41 [] [] f4 (.g h2 (.z 48 .nil)))))))))
def m29 (a0 : K_C) (a1 : Int) : Int :=
 if (decide ((m87 (K_B.mk a0.f2 a0.f3 a0.f4 a0.f5 a0.f6 a0.f7 a0.f8 a0.f9) a1) < 0)) = true then (-1) else
 (m87 (K_B.mk a0.f2 a0.f3 a0.f4 a0.f5 a0.f6 a0.f7 a0.f8 a0.f9) a1)
theorem e29 {l0_4 : Nat} {l0_5 : Nat} {l0_6 : Nat} {a0 : K_C} {a1 : Int} (hy0 : length a0.f4 * 24 ≤ 140737488351232) (hy1 : length a0.f5 * 56 ≤ 140737488351232) (hy2 : ∀ z ∈ a0.f5, ok_R z) (hy3 : length a0.f6 * 24 ≤ 140737488351232) : Ev F X (.call 29 [(.agg [(.val (.int .i64 a0.f0)), (.val (.int .i64 a0.f1)), (.val (.int .i64 a0.f2)), (.val (.int .i64 a0.f3)), (.bor l0_4 (map b_si a0.f4)), (.bor l0_5 (map b_R a0.f5)), (.bor l0_6 (map b_si a0.f6)), (.val (.int .i64 a0.f7)), (.val (.int .i64 a0.f8)), (.val (.int .i64 a0.f9))]), (.one (.val (.int .i64 a1)))] [] [] [(.one (.val (.int .i64 (m29 a0 a1))))]) := by
 unfold m29
 have f0 := e87 (l0_2 := l0_4 + 1) (l0_3 := l0_5 + 1) (l0_4 := l0_6 + 1) (a0 := (K_B.mk a0.f2 a0.f3 a0.f4 a0.f5 a0.f6 a0.f7 a0.f8 a0.f9)) (a1 := a1) (by with_reducible assumption) (by with_reducible assumption) (by with_reducible assumption) (by with_reducible assumption)
 by_cases h0 : (decide ((m87 (K_B.mk a0.f2 a0.f3 a0.f4 a0.f5 a0.f6 a0.f7 a0.f8 a0.f9) a1) < 0)) = true
 ·try simp only [if_pos h0]
  exact cp (by kernel_rfl) (.r 11 [] [] f0 (.f h0 (.y 18 .nil)))
 ·try simp only [if_neg h0]
  exact cp (by kernel_rfl) (.r 11 [] [] f0 (.g h0 (.z 18 .nil)))
def m110 (a0 : Int) (a1 : Int) (a2 : Int) : Bool :=
 if (decide (a0 ≥ a1)) = true then (decide (a0 ≤ a2)) else
 false
theorem e110 {a0 : Int} {a1 : Int} {a2 : Int} : Ev F X (.call 110 [(.one (.val (.int .i64 a0))), (.one (.val (.int .i64 a1))), (.one (.val (.int .i64 a2)))] [] [] [(.one (.val (.bool (m110 a0 a1 a2))))]) := by
 unfold m110
 by_cases h0 : (decide (a0 ≥ a1)) = true
 ·try simp only [if_pos h0]
  exact cp (by kernel_rfl) (.m 4 h0 (.y 10 (.y 12 (.y 14 (.y 17 .nil)))))
 ·try simp only [if_neg h0]
  exact cp (by kernel_rfl) (.n 4 h0 (.z 10 (.z 12 (.z 14 (.z 17 .nil)))))
theorem jn110 {a b c : Int} (h : ¬ (!(m110 a b c)) = true) : b ≤ a ∧ a ≤ c := by
 simp only [Bool.not_eq_true', Bool.not_eq_false] at h
 unfold m110 at h; split at h <;> simp_all <;> omega
theorem fee_ok {t p : Int} (h1 : 0 ≤ t) (h2 : t ≤ 1000000) (h3 : 0 ≤ p) (h4 : p ≤ 1000) : 0 ≤ w64 (t - w64 (Int.tdiv (w64 (t * p)) 1000)) ∧ w64 (t - w64 (Int.tdiv (w64 (t * p)) 1000)) ≤ 1000000 := by
 have q1 := Int.mul_nonneg h1 h3
 have q2 : t * p ≤ t * 1000 := Int.mul_le_mul_of_nonneg_left h4 h1
 rw [wrap64 (x := t * p) (by omega), Int.tdiv_eq_ediv_of_nonneg q1, wrap64 (x := t * p / 1000) (by omega), wrap64 (by omega)]
 omega
def m171 (a0 : Int) : Bool :=
 if (decide (a0 ≥ 97)) = true then (if (decide (a0 ≤ 122)) = true then true else
  if (decide (a0 ≥ 65)) = true then (if (decide (a0 ≤ 90)) = true then true else
    if (decide (a0 ≥ 48)) = true then (decide (a0 ≤ 57)) else
     false) else
   if (decide (a0 ≥ 48)) = true then (decide (a0 ≤ 57)) else
    false) else
 if (decide (a0 ≥ 65)) = true then (if (decide (a0 ≤ 90)) = true then true else
   if (decide (a0 ≥ 48)) = true then (decide (a0 ≤ 57)) else
    false) else
  if (decide (a0 ≥ 48)) = true then (decide (a0 ≤ 57)) else
   false
theorem e171 {a0 : Int} : Ev F X (.call 171 [(.one (.val (.int .u8 a0)))] [] [] [(.one (.val (.bool (m171 a0))))]) := by
 unfold m171
 by_cases h0 : (decide (a0 ≥ 97)) = true
 ·try simp only [if_pos h0]
  by_cases h1 : (decide (a0 ≤ 122)) = true
  ·try simp only [if_pos h1]
   exact cp (by kernel_rfl) (.m 3 h0 (.m 5 h1 (.y 8 (.y 10 (.y 13 (.y 16 (.y 18 (.y 20 (.y 26 (.y 29 .nil))))))))))
  ·try simp only [if_neg h1]
   by_cases h2 : (decide (a0 ≥ 65)) = true
   ·try simp only [if_pos h2]
    by_cases h3 : (decide (a0 ≤ 90)) = true
    ·try simp only [if_pos h3]
     exact cp (by kernel_rfl) (.m 3 h0 (.n 3 h1 (.m 2 h2 (.g h1 (.f h2 (.g h1 (.m 5 h3 (.y 8 (.y 10 (.y 13 (.z 16 (.z 18 (.z 20 (.y 22 (.y 24 (.z 26 (.y 27 (.z 29 (.y 32 (.y 34 (.y 36 (.y 42 (.y 45 .nil)))))))))))))))))))))))
    ·try simp only [if_neg h3]
     by_cases h4 : (decide (a0 ≥ 48)) = true
     ·try simp only [if_pos h4]
      exact cp (by kernel_rfl) (.m 3 h0 (.n 3 h1 (.m 2 h2 (.g h1 (.f h2 (.g h1 (.n 3 h3 (.m 2 h4 (.g h3 (.f h4 (.g h3 (.y 8 (.y 10 (.y 13 (.z 16 (.z 18 (.z 20 (.y 22 (.y 24 (.z 26 (.y 27 (.z 29 (.z 32 (.z 34 (.z 36 (.y 38 (.y 40 (.z 42 (.y 43 (.z 45 .nil))))))))))))))))))))))))))))))
     ·try simp only [if_neg h4]
      exact cp (by kernel_rfl) (.m 3 h0 (.n 3 h1 (.m 2 h2 (.g h1 (.f h2 (.g h1 (.n 3 h3 (.n 2 h4 (.g h3 (.g h4 (.g h3 (.y 8 (.y 10 (.y 13 (.z 16 (.z 18 (.z 20 (.y 22 (.y 24 (.z 26 (.y 27 (.z 29 (.z 32 (.z 34 (.z 36 (.z 38 (.z 40 (.z 42 (.z 43 (.z 45 .nil))))))))))))))))))))))))))))))
   ·try simp only [if_neg h2]
    by_cases h3 : (decide (a0 ≥ 48)) = true
    ·try simp only [if_pos h3]
     exact cp (by kernel_rfl) (.m 3 h0 (.n 3 h1 (.n 2 h2 (.g h1 (.g h2 (.g h1 (.m 3 h3 (.y 8 (.y 10 (.y 13 (.z 16 (.z 18 (.z 20 (.z 22 (.z 24 (.z 26 (.z 27 (.z 29 (.y 38 (.y 40 (.y 43 .nil)))))))))))))))))))))
    ·try simp only [if_neg h3]
     exact cp (by kernel_rfl) (.m 3 h0 (.n 3 h1 (.n 2 h2 (.g h1 (.g h2 (.g h1 (.n 3 h3 (.y 8 (.y 10 (.y 13 (.z 16 (.z 18 (.z 20 (.z 22 (.z 24 (.z 26 (.z 27 (.z 29 (.z 38 (.z 40 (.z 43 .nil)))))))))))))))))))))
 ·try simp only [if_neg h0]
  by_cases h1 : (decide (a0 ≥ 65)) = true
  ·try simp only [if_pos h1]
   by_cases h2 : (decide (a0 ≤ 90)) = true
   ·try simp only [if_pos h2]
    exact cp (by kernel_rfl) (.n 3 h0 (.m 3 h1 (.m 5 h2 (.z 8 (.z 10 (.z 13 (.y 22 (.y 24 (.y 27 (.y 32 (.y 34 (.y 36 (.y 42 (.y 45 .nil))))))))))))))
   ·try simp only [if_neg h2]
    by_cases h3 : (decide (a0 ≥ 48)) = true
    ·try simp only [if_pos h3]
     exact cp (by kernel_rfl) (.n 3 h0 (.m 3 h1 (.n 3 h2 (.m 2 h3 (.g h2 (.f h3 (.g h2 (.z 8 (.z 10 (.z 13 (.y 22 (.y 24 (.y 27 (.z 32 (.z 34 (.z 36 (.y 38 (.y 40 (.z 42 (.y 43 (.z 45 .nil)))))))))))))))))))))
    ·try simp only [if_neg h3]
     exact cp (by kernel_rfl) (.n 3 h0 (.m 3 h1 (.n 3 h2 (.n 2 h3 (.g h2 (.g h3 (.g h2 (.z 8 (.z 10 (.z 13 (.y 22 (.y 24 (.y 27 (.z 32 (.z 34 (.z 36 (.z 38 (.z 40 (.z 42 (.z 43 (.z 45 .nil)))))))))))))))))))))
  ·try simp only [if_neg h1]
   by_cases h2 : (decide (a0 ≥ 48)) = true
   ·try simp only [if_pos h2]
    exact cp (by kernel_rfl) (.n 3 h0 (.n 3 h1 (.m 3 h2 (.z 8 (.z 10 (.z 13 (.z 22 (.z 24 (.z 27 (.y 38 (.y 40 (.y 43 .nil))))))))))))
   ·try simp only [if_neg h2]
    exact cp (by kernel_rfl) (.n 3 h0 (.n 3 h1 (.n 3 h2 (.z 8 (.z 10 (.z 13 (.z 22 (.z 24 (.z 27 (.z 38 (.z 40 (.z 43 .nil))))))))))))
inductive O154_0 where
 | k0 (w0 : Int) (w1 : Bool)
 | k1
def r154_0 (a0 : ByteArray) : Nat → Int → O154_0
 | n + 1, i =>
  if (!(m171 (byteAt a0 i))) = true then (O154_0.k1) else
  (r154_0 a0 n (i + 1) )
 | 0, i => (O154_0.k0 i (decide (i < (ByteArray.size a0 : Int))))
def h154_0 (a0 : ByteArray) (i : Int)  : St := ⟨[(0, (.one (.val (.string a0)))), (3, (.one (.val (.int .i64 i))))], []⟩
def ex154_0 : O154_0 → VX.Exit
 | .k0 _ _ => (.exit 0)
 | .k1 => .ret
def fin154_0 (a0 : ByteArray) : O154_0 → St
 | .k0 w0 w1 => ⟨[(0, (.one (.val (.string a0)))), (3, (.one (.val (.int .i64 w0)))), (7, (.one (.val (.bool w1))))], []⟩
 | .k1 => ⟨[(2, (.one (.val (.bool false))))], []⟩
theorem t154_0 {a0 : ByteArray} (hy0 : ByteArray.size a0 ≤ 140737488351232) : ∀ (n : Nat) (i : Int) , 0 ≤ i → n = Int.toNat ((ByteArray.size a0 : Int) - i) → (ByteArray.size a0 : Int) ≤ 9223372036854775807 → Ev F X (.code l154_0 (h154_0 a0 i ) (ex154_0 (r154_0 a0 n i )) (fin154_0 a0 (r154_0 a0 n i )))
 | 0, i, hn0, hn, hi0 => by
  have hc : ¬ (decide (i < (ByteArray.size a0 : Int))) = true := by
   simp only [decide_eq_true_eq]; omega
  have st := ch b154_0 [(8, .b false)] (h154_0 a0 i) (fin154_0 a0 (.k0 i (decide (i < (ByteArray.size a0 : Int))))) (.exit 0) 9 [(decide (i < (ByteArray.size a0 : Int))) = false] (by kernel_rfl) ⟨(nt hc), trivial⟩
  exact .loopX st (show ((.exit 0) : VX.Exit) ≠ .normal from by simp)
 | n + 1, i, hn0, hn, hi0 => by
  have hc : (decide (i < (ByteArray.size a0 : Int))) = true := by
   simp only [decide_eq_true_eq]; omega
  have hw : w64 (i + 1) = i + 1 := wrap64 (by omega)
  have hj0 := hi0; try simp only [length_map, length_set, length_append, length_replicate, length_cons, length_nil, Int.toNat_natCast] at hj0
  simp only [r154_0]
  by_cases h_1 : (!(m171 (byteAt a0 i))) = true
  ·try simp only [if_pos h_1]
   have st := ch b154_0 [(8, .b true), (16, .ret [] [(.one (.val (.bool (m171 (byteAt a0 i)))))] [] []), (19, .b true)] (h154_0 a0 i) (fin154_0 a0 (.k1)) .ret 22 [(decide (i < (ByteArray.size a0 : Int))) = true, 0 ≤ i ∧ i < (ByteArray.size a0 : Int), Ev F X (.call 171 [(.one (.val (.int .u8 (byteAt a0 i))))] [] [] [(.one (.val (.bool (m171 (byteAt a0 i)))))]), (!(m171 (byteAt a0 i))) = true] (by kernel_rfl) ⟨hc, (by omega), (e171 (a0 := (byteAt a0 i))), h_1, trivial⟩
   exact .loopX st (show (.ret : VX.Exit) ≠ .normal from by simp)
  ·try simp only [if_neg h_1]
   have st := ch b154_0 [(8, .b true), (16, .ret [] [(.one (.val (.bool (m171 (byteAt a0 i)))))] [] []), (19, .b false)] (h154_0 a0 i) ⟨[(0, (.one (.val (.string a0)))), (3, (.oi (w64 (i + 1))))], []⟩ .normal 26 [(decide (i < (ByteArray.size a0 : Int))) = true, 0 ≤ i ∧ i < (ByteArray.size a0 : Int), Ev F X (.call 171 [(.one (.val (.int .u8 (byteAt a0 i))))] [] [] [(.one (.val (.bool (m171 (byteAt a0 i)))))]), (!(m171 (byteAt a0 i))) = false, True] (by kernel_rfl) ⟨hc, (by omega), (e171 (a0 := (byteAt a0 i))), (nt h_1), trivial, trivial⟩
   have ih := t154_0 (a0 := a0) hy0 n (i + 1)  (by omega) (by omega) (by omega)
   replace st := to_ (s' := h154_0 a0 (i + 1) ) st (by unfold h154_0; simp only [hw]; done)
   exact .loopN st ih
def m154 (a0 : ByteArray) : Bool :=
 (match r154_0 a0 (Int.toNat (ByteArray.size a0 : Int)) 0 with | .k0 w0_0 w1_0 => (decide ((ByteArray.size a0 : Int) ≤ 12)) | .k1 => false)
theorem e154 {a0 : ByteArray} (hy0 : ByteArray.size a0 ≤ 140737488351232) : Ev F X (.call 154 [(.one (.val (.string a0)))] [] [] [(.one (.val (.bool (m154 a0))))]) := by
 unfold m154
 cases h0 : r154_0 a0 (Int.toNat (ByteArray.size a0 : Int)) 0 with
 | k0 w0_0 w1_0 =>
  try dsimp only
  have f0 : (⟨[(0, (.one (.val (.string a0)))), (3, (.oi 0))], []⟩ : St) = h154_0 a0 0  := (by rfl)
  have f1 : Ev F X (.code l154_0 (h154_0 a0 0 ) (.exit 0) ⟨[(0, (.one (.val (.string a0)))), (3, (.oi w0_0)), (7, (.one (.val (.bool w1_0))))], []⟩) := (by have t : Ev F X (.code l154_0 (h154_0 a0 0 ) (ex154_0 (r154_0 a0 (Int.toNat (ByteArray.size a0 : Int)) 0)) (fin154_0 a0 (r154_0 a0 (Int.toNat (ByteArray.size a0 : Int)) 0))) := t154_0 (a0 := a0) (by assumption) _ 0  (by omega) (by omega) (by omega); rw [h0] at t; exact t)
  exact cp (by kernel_rfl) (.f f0 (.f f1 (.h 4 (.loop (h154_0 a0 0 ) (.exit 0) ⟨[(0, (.one (.val (.string a0)))), (3, (.oi w0_0)), (7, (.one (.val (.bool w1_0))))], []⟩) .nil)))
 | k1 =>
  try dsimp only
  have f0 : (⟨[(0, (.one (.val (.string a0)))), (3, (.oi 0))], []⟩ : St) = h154_0 a0 0  := (by rfl)
  have f1 : Ev F X (.code l154_0 (h154_0 a0 0 ) .ret ⟨[(2, (.one (.val (.bool false))))], []⟩) := (by have t : Ev F X (.code l154_0 (h154_0 a0 0 ) (ex154_0 (r154_0 a0 (Int.toNat (ByteArray.size a0 : Int)) 0)) (fin154_0 a0 (r154_0 a0 (Int.toNat (ByteArray.size a0 : Int)) 0))) := t154_0 (a0 := a0) (by assumption) _ 0  (by omega) (by omega) (by omega); rw [h0] at t; exact t)
  exact cp (by kernel_rfl) (.f f0 (.f f1 (.h 4 (.loop (h154_0 a0 0 ) .ret ⟨[(2, (.one (.val (.bool false))))], []⟩) .nil)))
def m109 (a0 : K_si) : Int :=
 if (a0.f0.toList == (⟨#[]⟩ : ByteArray).toList) = true then 5 else
 if (!(m154 a0.f0)) = true then 5 else
  if (!(m110 a0.f1 1 9999)) = true then 3 else
   0
theorem e109 {l0 : Nat} {a0 : K_si} (hy0 : ByteArray.size a0.f0 ≤ 140737488351232) : Ev F X (.call 109 [(.bptr l0 [(.val (.string a0.f0)), (.val (.int .i64 a0.f1))])] [] [] [(.one (.val (.int .i64 (m109 a0))))]) := by
 unfold m109
 by_cases h0 : (a0.f0.toList == (⟨#[]⟩ : ByteArray).toList) = true
 ·try simp only [if_pos h0]
  exact cp (by kernel_rfl) (.m 7 h0 (.y 14 (.y 16 (.y 18 (.y 20 (.y 22 (.y 24 (.y 27 .nil))))))))
 ·try simp only [if_neg h0]
  have f5 := e154 (a0 := a0.f0) (by with_reducible assumption)
  by_cases h1 : (!(m154 a0.f0)) = true
  ·try simp only [if_pos h1]
   exact cp (by kernel_rfl) (.n 5 h0 (.z 14 (.z 16 (.z 18 (.z 20 (.z 22 (.r 23 [] [] f5 (.n 2 h0 (.f h1 (.z 24 (.z 27 (.y 28 .nil))))))))))))
  ·try simp only [if_neg h1]
   have f9 := e110 (a0 := a0.f1) (a1 := 1) (a2 := 9999)
   by_cases h2 : (!(m110 a0.f1 1 9999)) = true
   ·try simp only [if_pos h2]
    exact cp (by kernel_rfl) (.n 5 h0 (.z 14 (.z 16 (.z 18 (.z 20 (.z 22 (.r 23 [] [] f5 (.n 2 h0 (.g h1 (.z 24 (.z 27 (.z 28 (.r 38 [] [] f9 (.f h2 (.y 41 .nil)))))))))))))))
   ·try simp only [if_neg h2]
    exact cp (by kernel_rfl) (.n 5 h0 (.z 14 (.z 16 (.z 18 (.z 20 (.z 22 (.r 23 [] [] f5 (.n 2 h0 (.g h1 (.z 24 (.z 27 (.z 28 (.r 38 [] [] f9 (.g h2 (.z 41 .nil)))))))))))))))
inductive O107_0 where
 | k0 (w0 : Int) (w1 : Bool)
 | k1 (w0 : Int)
def r107_0 (a0 : (List K_si)) : List K_si → Int → O107_0
 | x0 :: y0, i =>
  if ((m109 x0) != 0) = true then (O107_0.k1 (m109 x0)) else
  (r107_0 a0 y0 (i + 1) )
 | [], i => (O107_0.k0 i (decide (i < ((length (map b_si a0)) : Int))))
def h107_0 (l0_0 : Nat) (a0 : (List K_si)) (i : Int)  : St := ⟨[(0, (.one (.bor l0_0 (map b_si a0)))), (3, (.one (.val (.int .i64 i))))], []⟩
def ex107_0 : O107_0 → VX.Exit
 | .k0 _ _ => (.exit 0)
 | .k1 _ => .ret
def fin107_0 (l0_0 : Nat) (a0 : (List K_si)) : O107_0 → St
 | .k0 w0 w1 => ⟨[(0, (.one (.bor l0_0 (map b_si a0)))), (3, (.one (.val (.int .i64 w0)))), (11, (.one (.val (.bool w1))))], []⟩
 | .k1 w0 => ⟨[(2, (.one (.val (.int .i64 w0))))], []⟩
theorem t107_0 {l0_0 : Nat} {a0 : (List K_si)} (hy0 : length a0 * 24 ≤ 140737488351232) (hy1 : ∀ z ∈ a0, os_si z) : ∀ (y0 : List K_si) (p : List K_si) , p ++ y0 = a0 → Ev F X (.code l107_0 (h107_0 l0_0 a0 (length p : Int) ) (ex107_0 (r107_0 a0 y0 (length p : Int) )) (fin107_0 l0_0 a0 (r107_0 a0 y0 (length p : Int) )))
 | [], p, hp0 => by
  have hc : ¬ (decide ((length p : Int) < ((length (map b_si a0)) : Int))) = true := by
   rw [← hp0]; simp only [length_map, length_set, length_append, length_replicate, length_cons, length_nil, decide_eq_true_eq]; omega
  have st := ch b107_0 [(8, .b false)] (h107_0 l0_0 a0 (length p : Int)) (fin107_0 l0_0 a0 (.k0 (length p : Int) (decide ((length p : Int) < ((length (map b_si a0)) : Int))))) (.exit 0) 9 [(decide ((length p : Int) < ((length (map b_si a0)) : Int))) = false] (by kernel_rfl) ⟨(nt hc), trivial⟩
  exact .loopX st (show ((.exit 0) : VX.Exit) ≠ .normal from by simp)
 | x0 :: y0, p, hp0 => by
  have hc : (decide ((length p : Int) < ((length (map b_si a0)) : Int))) = true := lt1 hp0
  have Hx0 : (a0)[Int.toNat (length p : Int)]? = some x0 := by
   rw [← hp0, Int.toNat_natCast]; simp
  have Mx0_0 := hy1 x0 (List.mem_of_getElem? Hx0)
  have hlen : length (a0) = length p + length y0 + 1 := by rw [← hp0]; simp; omega
  have hw : w64 ((length p : Int) + 1) = (length p : Int) + 1 := wrap64 (by omega)
  simp only [r107_0]
  by_cases h_1 : ((m109 x0) != 0) = true
  ·try simp only [if_pos h_1]
   have st := ch b107_0 [(8, .b true), (14, .row (b_si x0)), (16, .ret [] [(.oi (m109 x0))] [] []), (23, .b true)] (h107_0 l0_0 a0 (length p : Int)) (fin107_0 l0_0 a0 (.k1 (m109 x0))) .ret 28 [(decide ((length p : Int) < ((length (map b_si a0)) : Int))) = true, 0 ≤ (length p : Int), (map b_si a0)[(Int.toNat (length p : Int))]? = some (b_si x0), Ev F X (.call 109 [(.bptr (l0_0 + 1) [(.val (.string x0.f0)), (.i x0.f1)])] [] [] [(.oi (m109 x0))]), ((m109 x0) != 0) = true] (by kernel_rfl) ⟨hc, (by omega), (by rw [getElem?_map, Hx0]; rfl), (e109 (a0 := x0) (by assumption)), h_1, trivial⟩
   exact .loopX st (show (.ret : VX.Exit) ≠ .normal from by simp)
  ·try simp only [if_neg h_1]
   have st := ch b107_0 [(8, .b true), (14, .row (b_si x0)), (16, .ret [] [(.oi (m109 x0))] [] []), (23, .b false)] (h107_0 l0_0 a0 (length p : Int)) ⟨[(0, (.one (.bor l0_0 (map b_si a0)))), (3, (.oi (w64 ((length p : Int) + 1))))], []⟩ .normal 30 [(decide ((length p : Int) < ((length (map b_si a0)) : Int))) = true, 0 ≤ (length p : Int), (map b_si a0)[(Int.toNat (length p : Int))]? = some (b_si x0), Ev F X (.call 109 [(.bptr (l0_0 + 1) [(.val (.string x0.f0)), (.i x0.f1)])] [] [] [(.oi (m109 x0))]), ((m109 x0) != 0) = false, True] (by kernel_rfl) ⟨hc, (by omega), (by rw [getElem?_map, Hx0]; rfl), (e109 (a0 := x0) (by assumption)), (nt h_1), trivial, trivial⟩
   have ih := t107_0 (l0_0 := l0_0) (a0 := a0) hy0 hy1 y0 (p ++ [x0])  (by rw [append_assoc]; exact hp0)
   rw [show ((p ++ [x0]).length : Int) = (p.length : Int) + 1 from by simp] at ih
   replace st := to_ (s' := h107_0 l0_0 a0 ((length p : Int) + 1) ) st (by unfold h107_0; simp only [hw]; done)
   exact .loopN st ih
def m107 (a0 : (List K_si)) : Int :=
 if (decide (((length (map b_si a0)) : Int) > 12)) = true then 2 else
 (match r107_0 a0 a0 0 with | .k0 w0_1 w1_1 => 0 | .k1 w0_1 => w0_1)
theorem e107 {l0_0 : Nat} {a0 : (List K_si)} (hy0 : length a0 * 24 ≤ 140737488351232) (hy1 : ∀ z ∈ a0, os_si z) : Ev F X (.call 107 [(.one (.bor l0_0 (map b_si a0)))] [] [] [(.one (.val (.int .i64 (m107 a0))))]) := by
 unfold m107
 by_cases h0 : (decide (((length (map b_si a0)) : Int) > 12)) = true
 ·try simp only [if_pos h0]
  exact cp (by kernel_rfl) (.f h0 (.y 8 .nil))
 ·try simp only [if_neg h0]
  cases h1 : r107_0 a0 a0 0 with
  | k0 w0_1 w1_1 =>
   try dsimp only
   have f1 : (⟨[(0, (.one (.bor l0_0 (map b_si a0)))), (3, (.oi 0))], []⟩ : St) = h107_0 l0_0 a0 0  := (by rfl)
   have f2 : Ev F X (.code l107_0 (h107_0 l0_0 a0 0 ) (.exit 0) ⟨[(0, (.one (.bor l0_0 (map b_si a0)))), (3, (.oi w0_1)), (11, (.one (.val (.bool w1_1))))], []⟩) := (by have t : Ev F X (.code l107_0 (h107_0 l0_0 a0 0 ) (ex107_0 (r107_0 a0 a0 0)) (fin107_0 l0_0 a0 (r107_0 a0 a0 0))) := t107_0 (l0_0 := l0_0) (a0 := a0) (by assumption) (by assumption) a0 []  rfl; rw [h1] at t; exact t)
   exact cp (by kernel_rfl) (.g h0 (.f f1 (.f f2 (.z 8 (.h 11 (.loop (h107_0 l0_0 a0 0 ) (.exit 0) ⟨[(0, (.one (.bor l0_0 (map b_si a0)))), (3, (.oi w0_1)), (11, (.one (.val (.bool w1_1))))], []⟩) .nil)))))
  | k1 w0_1 =>
   try dsimp only
   have f1 : (⟨[(0, (.one (.bor l0_0 (map b_si a0)))), (3, (.oi 0))], []⟩ : St) = h107_0 l0_0 a0 0  := (by rfl)
   have f2 : Ev F X (.code l107_0 (h107_0 l0_0 a0 0 ) .ret ⟨[(2, (.oi w0_1))], []⟩) := (by have t : Ev F X (.code l107_0 (h107_0 l0_0 a0 0 ) (ex107_0 (r107_0 a0 a0 0)) (fin107_0 l0_0 a0 (r107_0 a0 a0 0))) := t107_0 (l0_0 := l0_0) (a0 := a0) (by assumption) (by assumption) a0 []  rfl; rw [h1] at t; exact t)
   exact cp (by kernel_rfl) (.g h0 (.f f1 (.f f2 (.z 8 (.h 11 (.loop (h107_0 l0_0 a0 0 ) .ret ⟨[(2, (.oi w0_1))], []⟩) .nil)))))
theorem len12_107 (a : List K_si) (h : ¬ ((m107 a) != 0) = true) : length a ≤ 12 := by
 unfold m107 at h
 split at h
 ·simp at h
 ·rename_i h2
  simp only [decide_eq_true_eq, length_map] at h2
  omega
theorem wok_r107 (a : List K_si) : ∀ (l : List K_si) (i : Int), (match r107_0 a l i with | .k0 .. => (0 : Int) | .k1 w => w) = 0 → ∀ z ∈ l, 1 ≤ z.f1 ∧ z.f1 ≤ 9999
 | [], i, _, x, hx => by cases hx
 | y :: l, i, h, x, hx => by
  simp only [r107_0] at h
  by_cases h1 : ((m109 y) != 0) = true
  ·simp only [if_pos h1] at h; simp [h] at h1
  ·simp only [if_neg h1] at h
   rcases List.mem_cons.1 hx with rfl | hx
   ·have h2 : m109 x = 0 := by simpa using h1
    unfold m109 at h2
    split at h2
    ·cases h2
    ·split at h2
     ·cases h2
     ·split at h2
      ·cases h2
      ·exact jn110 (by assumption)
   ·exact wok_r107 a l (i + 1) h x hx
theorem wok107 (a : List K_si) (h : ¬ ((m107 a) != 0) = true) : ∀ z ∈ a, 1 ≤ z.f1 ∧ z.f1 ≤ 9999 := by
 have h2 : m107 a = 0 := by simpa using h
 unfold m107 at h2
 split at h2
 ·cases h2
 ·exact wok_r107 a a 0 h2
def m115 (a0 : Int) : Bool :=
 (m110 a0 0 1000000)
theorem e115 {a0 : Int} : Ev F X (.call 115 [(.one (.val (.int .i64 a0)))] [] [] [(.one (.val (.bool (m110 a0 0 1000000))))]) := by
 have f0 := e110 (a0 := a0) (a1 := 0) (a2 := 1000000)
 exact cp (by kernel_rfl) (.r 5 [] [] f0 .nil)
def m131 (a0 : K_B) : Bool :=
 if (m110 a0.f0 1 12) = true then (if (m110 a0.f1 0 1000) = true then (if (m110 a0.f5 0 1000000) = true then (if (m110 a0.f6 0 1000000) = true then (m110 a0.f7 0 1000000) else
    false) else
   false) else
  false) else
 false
theorem e131 {l0 : Nat} {a0 : K_B} : Ev F X (.call 131 [(.bptr l0 [(.val (.int .i64 a0.f0)), (.val (.int .i64 a0.f1)), (.sl (map b_si a0.f2)), (.sl (map b_R a0.f3)), (.sl (map b_si a0.f4)), (.val (.int .i64 a0.f5)), (.val (.int .i64 a0.f6)), (.val (.int .i64 a0.f7))])] [] [] [(.one (.val (.bool (m131 a0))))]) := by
 unfold m131
 have f0 := e110 (a0 := a0.f0) (a1 := 1) (a2 := 12)
 by_cases h0 : (m110 a0.f0 1 12) = true
 ·try simp only [if_pos h0]
  have f6 := e110 (a0 := a0.f1) (a1 := 0) (a2 := 1000)
  by_cases h1 : (m110 a0.f1 0 1000) = true
  ·try simp only [if_pos h1]
   have f13 := e115 (a0 := a0.f5)
   by_cases h2 : (m110 a0.f5 0 1000000) = true
   ·try simp only [if_pos h2]
    have f20 := e115 (a0 := a0.f6)
    by_cases h3 : (m110 a0.f6 0 1000000) = true
    ·try simp only [if_pos h3]
     have f27 := e115 (a0 := a0.f7)
     exact cp (by kernel_rfl) (.r 11 [] [] f0 (.m 5 h0 (.y 14 (.y 16 (.y 18 (.y 20 (.y 22 (.r 23 [] [] f6 (.f h0 (.m 5 h1 (.y 25 (.y 28 (.y 30 (.y 32 (.y 34 (.y 36 (.r 37 [] [] f13 (.f h1 (.m 5 h2 (.y 39 (.y 42 (.y 44 (.y 46 (.y 48 (.y 50 (.r 51 [] [] f20 (.f h2 (.m 5 h3 (.y 53 (.y 56 (.y 58 (.y 60 (.y 62 (.y 64 (.r 65 [] [] f27 (.f h3 (.y 67 .nil)))))))))))))))))))))))))))))))))))))
    ·try simp only [if_neg h3]
     exact cp (by kernel_rfl) (.r 11 [] [] f0 (.m 5 h0 (.y 14 (.y 16 (.y 18 (.y 20 (.y 22 (.r 23 [] [] f6 (.f h0 (.m 5 h1 (.y 25 (.y 28 (.y 30 (.y 32 (.y 34 (.y 36 (.r 37 [] [] f13 (.f h1 (.m 5 h2 (.y 39 (.y 42 (.y 44 (.y 46 (.y 48 (.y 50 (.r 51 [] [] f20 (.f h2 (.n 6 h3 (.y 53 (.z 56 (.z 58 (.z 60 (.z 62 (.z 64 (.z 67 .nil)))))))))))))))))))))))))))))))))))
   ·try simp only [if_neg h2]
    exact cp (by kernel_rfl) (.r 11 [] [] f0 (.m 5 h0 (.y 14 (.y 16 (.y 18 (.y 20 (.y 22 (.r 23 [] [] f6 (.f h0 (.m 5 h1 (.y 25 (.y 28 (.y 30 (.y 32 (.y 34 (.y 36 (.r 37 [] [] f13 (.f h1 (.n 6 h2 (.y 39 (.z 42 (.z 44 (.z 46 (.z 48 (.z 50 (.z 53 .nil))))))))))))))))))))))))))
  ·try simp only [if_neg h1]
   exact cp (by kernel_rfl) (.r 11 [] [] f0 (.m 5 h0 (.y 14 (.y 16 (.y 18 (.y 20 (.y 22 (.r 23 [] [] f6 (.f h0 (.n 6 h1 (.y 25 (.z 28 (.z 30 (.z 32 (.z 34 (.z 36 (.z 39 .nil)))))))))))))))))
 ·try simp only [if_neg h0]
  exact cp (by kernel_rfl) (.r 11 [] [] f0 (.n 6 h0 (.z 14 (.z 16 (.z 18 (.z 20 (.z 22 (.z 25 .nil))))))))
inductive O79_0 where
 | k0 (w0 : Int) (w1 : Bool)
 | k1 (w0 : Int)
def r79_0 (a0 : (List K_si)) (a1 : ByteArray) : List K_si → Int → O79_0
 | x0 :: y0, i =>
  if (x0.f0.toList == a1.toList) = true then (O79_0.k1 i) else
  (r79_0 a0 a1 y0 (i + 1) )
 | [], i => (O79_0.k0 i (decide (i < ((length (map b_si a0)) : Int))))
def h79_0 (l0_0 : Nat) (a0 : (List K_si)) (a1 : ByteArray) (i : Int)  : St := ⟨[(0, (.one (.bor l0_0 (map b_si a0)))), (1, (.one (.val (.string a1)))), (5, (.one (.val (.int .i64 i))))], []⟩
def ex79_0 : O79_0 → VX.Exit
 | .k0 _ _ => (.exit 0)
 | .k1 _ => .ret
def fin79_0 (l0_0 : Nat) (a0 : (List K_si)) (a1 : ByteArray) : O79_0 → St
 | .k0 w0 w1 => ⟨[(0, (.one (.bor l0_0 (map b_si a0)))), (1, (.one (.val (.string a1)))), (5, (.one (.val (.int .i64 w0)))), (9, (.one (.val (.bool w1))))], []⟩
 | .k1 w0 => ⟨[(4, (.one (.val (.int .i64 w0))))], []⟩
theorem t79_0 {l0_0 : Nat} {a0 : (List K_si)} {a1 : ByteArray} (hy0 : length a0 * 24 ≤ 140737488351232) : ∀ (y0 : List K_si) (p : List K_si) , p ++ y0 = a0 → Ev F X (.code l79_0 (h79_0 l0_0 a0 a1 (length p : Int) ) (ex79_0 (r79_0 a0 a1 y0 (length p : Int) )) (fin79_0 l0_0 a0 a1 (r79_0 a0 a1 y0 (length p : Int) )))
 | [], p, hp0 => by
  have hc : ¬ (decide ((length p : Int) < ((length (map b_si a0)) : Int))) = true := by
   rw [← hp0]; simp only [length_map, length_set, length_append, length_replicate, length_cons, length_nil, decide_eq_true_eq]; omega
  have st := ch b79_0 [(8, .b false)] (h79_0 l0_0 a0 a1 (length p : Int)) (fin79_0 l0_0 a0 a1 (.k0 (length p : Int) (decide ((length p : Int) < ((length (map b_si a0)) : Int))))) (.exit 0) 9 [(decide ((length p : Int) < ((length (map b_si a0)) : Int))) = false] (by kernel_rfl) ⟨(nt hc), trivial⟩
  exact .loopX st (show ((.exit 0) : VX.Exit) ≠ .normal from by simp)
 | x0 :: y0, p, hp0 => by
  have hc : (decide ((length p : Int) < ((length (map b_si a0)) : Int))) = true := lt1 hp0
  have Hx0 : (a0)[Int.toNat (length p : Int)]? = some x0 := by
   rw [← hp0, Int.toNat_natCast]; simp
  have hlen : length (a0) = length p + length y0 + 1 := by rw [← hp0]; simp; omega
  have hw : w64 ((length p : Int) + 1) = (length p : Int) + 1 := wrap64 (by omega)
  simp only [r79_0]
  by_cases h_1 : (x0.f0.toList == a1.toList) = true
  ·try simp only [if_pos h_1]
   have st := ch b79_0 [(8, .b true), (14, .row (b_si x0)), (23, .b true)] (h79_0 l0_0 a0 a1 (length p : Int)) (fin79_0 l0_0 a0 a1 (.k1 (length p : Int))) .ret 28 [(decide ((length p : Int) < ((length (map b_si a0)) : Int))) = true, 0 ≤ (length p : Int), (map b_si a0)[(Int.toNat (length p : Int))]? = some (b_si x0), (x0.f0.toList == a1.toList) = true] (by kernel_rfl) ⟨hc, (by omega), (by rw [getElem?_map, Hx0]; rfl), h_1, trivial⟩
   exact .loopX st (show (.ret : VX.Exit) ≠ .normal from by simp)
  ·try simp only [if_neg h_1]
   have st := ch b79_0 [(8, .b true), (14, .row (b_si x0)), (23, .b false)] (h79_0 l0_0 a0 a1 (length p : Int)) ⟨[(0, (.one (.bor l0_0 (map b_si a0)))), (1, (.one (.val (.string a1)))), (5, (.oi (w64 ((length p : Int) + 1))))], []⟩ .normal 30 [(decide ((length p : Int) < ((length (map b_si a0)) : Int))) = true, 0 ≤ (length p : Int), (map b_si a0)[(Int.toNat (length p : Int))]? = some (b_si x0), (x0.f0.toList == a1.toList) = false, True] (by kernel_rfl) ⟨hc, (by omega), (by rw [getElem?_map, Hx0]; rfl), (nt h_1), trivial, trivial⟩
   have ih := t79_0 (l0_0 := l0_0) (a0 := a0) (a1 := a1) hy0 y0 (p ++ [x0])  (by rw [append_assoc]; exact hp0)
   rw [show ((p ++ [x0]).length : Int) = (p.length : Int) + 1 from by simp] at ih
   replace st := to_ (s' := h79_0 l0_0 a0 a1 ((length p : Int) + 1) ) st (by unfold h79_0; simp only [hw]; done)
   exact .loopN st ih
def m79 (a0 : (List K_si)) (a1 : ByteArray) : Int :=
 (match r79_0 a0 a1 a0 0 with | .k0 w0_0 w1_0 => (-1) | .k1 w0_0 => w0_0)
theorem e79 {l0_0 : Nat} {a0 : (List K_si)} {a1 : ByteArray} (hy0 : length a0 * 24 ≤ 140737488351232) : Ev F X (.call 79 [(.one (.bor l0_0 (map b_si a0))), (.one (.val (.string a1)))] [] [] [(.one (.val (.int .i64 (m79 a0 a1))))]) := by
 unfold m79
 cases h0 : r79_0 a0 a1 a0 0 with
 | k0 w0_0 w1_0 =>
  try dsimp only
  have f0 : (⟨[(0, (.one (.bor l0_0 (map b_si a0)))), (1, (.one (.val (.string a1)))), (5, (.oi 0))], []⟩ : St) = h79_0 l0_0 a0 a1 0  := (by rfl)
  have f1 : Ev F X (.code l79_0 (h79_0 l0_0 a0 a1 0 ) (.exit 0) ⟨[(0, (.one (.bor l0_0 (map b_si a0)))), (1, (.one (.val (.string a1)))), (5, (.oi w0_0)), (9, (.one (.val (.bool w1_0))))], []⟩) := (by have t : Ev F X (.code l79_0 (h79_0 l0_0 a0 a1 0 ) (ex79_0 (r79_0 a0 a1 a0 0)) (fin79_0 l0_0 a0 a1 (r79_0 a0 a1 a0 0))) := t79_0 (l0_0 := l0_0) (a0 := a0) (a1 := a1) (by assumption) a0 []  rfl; rw [h0] at t; exact t)
  exact cp (by kernel_rfl) (.f f0 (.f f1 (.h 4 (.loop (h79_0 l0_0 a0 a1 0 ) (.exit 0) ⟨[(0, (.one (.bor l0_0 (map b_si a0)))), (1, (.one (.val (.string a1)))), (5, (.oi w0_0)), (9, (.one (.val (.bool w1_0))))], []⟩) .nil)))
 | k1 w0_0 =>
  try dsimp only
  have f0 : (⟨[(0, (.one (.bor l0_0 (map b_si a0)))), (1, (.one (.val (.string a1)))), (5, (.oi 0))], []⟩ : St) = h79_0 l0_0 a0 a1 0  := (by rfl)
  have f1 : Ev F X (.code l79_0 (h79_0 l0_0 a0 a1 0 ) .ret ⟨[(4, (.oi w0_0))], []⟩) := (by have t : Ev F X (.code l79_0 (h79_0 l0_0 a0 a1 0 ) (ex79_0 (r79_0 a0 a1 a0 0)) (fin79_0 l0_0 a0 a1 (r79_0 a0 a1 a0 0))) := t79_0 (l0_0 := l0_0) (a0 := a0) (a1 := a1) (by assumption) a0 []  rfl; rw [h0] at t; exact t)
  exact cp (by kernel_rfl) (.f f0 (.f f1 (.h 4 (.loop (h79_0 l0_0 a0 a1 0 ) .ret ⟨[(4, (.oi w0_0))], []⟩) .nil)))
theorem ixr79_0 (a0 : (List K_si)) (a1 : ByteArray) : ∀ (l : List K_si) (i : Int), (∃ (w0 : _) (w1 : _), r79_0 a0 a1 l i = .k0 w0 w1) ∨ (∃ w, r79_0 a0 a1 l i = .k1 w ∧ i ≤ w ∧ w < i + l.length)
  | [], i => .inl ⟨i, (decide (i < ((length (map b_si a0)) : Int))), rfl⟩
  | x :: l, i => by
    have ih := ixr79_0 a0 a1 l (i + 1)
    simp only [r79_0]
    (repeat' split)
    all_goals first
      | exact .inr ⟨i, rfl, by omega, by simp only [length_cons]; omega⟩
      | (rcases ih with ⟨w0, w1, h⟩ | ⟨w, h, h1, h2⟩
         · exact .inl ⟨w0, w1, h⟩
         · exact .inr ⟨w, h, by omega, by simp only [length_cons]; omega⟩)
theorem ix79 (a0 : (List K_si)) (a1 : ByteArray) : -1 ≤ m79 a0 a1 ∧ m79 a0 a1 < (length a0 : Int) := by
 unfold m79
 rcases ixr79_0 a0 a1 a0 0 with ⟨w0, w1, h⟩ | ⟨w, h, h1, h2⟩ <;> simp only [h] <;> omega
inductive O133_0 where
 | k0 (w0 : Int) (w1 : Bool)
 | k1
def r133_0 (a0 : (List K_si)) : List K_si → Int → O133_0
 | x0 :: y0, i =>
  if (x0.f0.toList == (⟨#[]⟩ : ByteArray).toList) = true then (O133_0.k1) else
  if (!(m154 x0.f0)) = true then (O133_0.k1) else
   if (!(m110 x0.f1 0 1000000)) = true then (O133_0.k1) else
    if ((m79 a0 x0.f0) != i) = true then (O133_0.k1) else
     (r133_0 a0 y0 (i + 1) )
 | [], i => (O133_0.k0 i (decide (i < ((length (map b_si a0)) : Int))))
def h133_0 (l0_0 : Nat) (a0 : (List K_si)) (i : Int)  : St := ⟨[(0, (.one (.bor l0_0 (map b_si a0)))), (3, (.one (.val (.int .i64 i))))], []⟩
def ex133_0 : O133_0 → VX.Exit
 | .k0 _ _ => (.exit 0)
 | .k1 => .ret
def fin133_0 (l0_0 : Nat) (a0 : (List K_si)) : O133_0 → St
 | .k0 w0 w1 => ⟨[(0, (.one (.bor l0_0 (map b_si a0)))), (3, (.one (.val (.int .i64 w0)))), (7, (.one (.val (.bool w1))))], []⟩
 | .k1 => ⟨[(2, (.one (.val (.bool false))))], []⟩
theorem t133_0 {l0_0 : Nat} {a0 : (List K_si)} (hy0 : length a0 * 24 ≤ 140737488351232) (hy1 : ∀ z ∈ a0, os_si z) : ∀ (y0 : List K_si) (p : List K_si) , p ++ y0 = a0 → Ev F X (.code l133_0 (h133_0 l0_0 a0 (length p : Int) ) (ex133_0 (r133_0 a0 y0 (length p : Int) )) (fin133_0 l0_0 a0 (r133_0 a0 y0 (length p : Int) )))
 | [], p, hp0 => by
  have hc : ¬ (decide ((length p : Int) < ((length (map b_si a0)) : Int))) = true := by
   rw [← hp0]; simp only [length_map, length_set, length_append, length_replicate, length_cons, length_nil, decide_eq_true_eq]; omega
  have st := ch b133_0 [(8, .b false)] (h133_0 l0_0 a0 (length p : Int)) (fin133_0 l0_0 a0 (.k0 (length p : Int) (decide ((length p : Int) < ((length (map b_si a0)) : Int))))) (.exit 0) 9 [(decide ((length p : Int) < ((length (map b_si a0)) : Int))) = false] (by kernel_rfl) ⟨(nt hc), trivial⟩
  exact .loopX st (show ((.exit 0) : VX.Exit) ≠ .normal from by simp)
 | x0 :: y0, p, hp0 => by
  have hc : (decide ((length p : Int) < ((length (map b_si a0)) : Int))) = true := lt1 hp0
  have Hx0 : (a0)[Int.toNat (length p : Int)]? = some x0 := by
   rw [← hp0, Int.toNat_natCast]; simp
  have Mx0_0 := hy1 x0 (List.mem_of_getElem? Hx0)
  have hlen : length (a0) = length p + length y0 + 1 := by rw [← hp0]; simp; omega
  have hw : w64 ((length p : Int) + 1) = (length p : Int) + 1 := wrap64 (by omega)
  simp only [r133_0]
  by_cases h_1 : (x0.f0.toList == (⟨#[]⟩ : ByteArray).toList) = true
  ·try simp only [if_pos h_1]
   have st := ch b133_0 [(8, .b true), (14, .row (b_si x0)), (23, .b true), (25, .b true), (27, .b true), (29, .b true), (31, .b true), (33, .b true), (35, .b true), (38, .b true)] (h133_0 l0_0 a0 (length p : Int)) (fin133_0 l0_0 a0 (.k1)) .ret 82 [(decide ((length p : Int) < ((length (map b_si a0)) : Int))) = true, 0 ≤ (length p : Int), (map b_si a0)[(Int.toNat (length p : Int))]? = some (b_si x0), (x0.f0.toList == (⟨#[]⟩ : ByteArray).toList) = true, (x0.f0.toList == (⟨#[]⟩ : ByteArray).toList) = true, (x0.f0.toList == (⟨#[]⟩ : ByteArray).toList) = true, (x0.f0.toList == (⟨#[]⟩ : ByteArray).toList) = true, (x0.f0.toList == (⟨#[]⟩ : ByteArray).toList) = true, (x0.f0.toList == (⟨#[]⟩ : ByteArray).toList) = true, (x0.f0.toList == (⟨#[]⟩ : ByteArray).toList) = true, (x0.f0.toList == (⟨#[]⟩ : ByteArray).toList) = true] (by kernel_rfl) ⟨hc, (by omega), (by rw [getElem?_map, Hx0]; rfl), h_1, h_1, h_1, h_1, h_1, h_1, h_1, h_1, trivial⟩
   exact .loopX st (show (.ret : VX.Exit) ≠ .normal from by simp)
  ·try simp only [if_neg h_1]
   by_cases h_2 : (!(m154 x0.f0)) = true
   ·try simp only [if_pos h_2]
    have st := ch b133_0 [(8, .b true), (14, .row (b_si x0)), (23, .b false), (25, .b false), (27, .b false), (28, .row (b_si x0)), (29, .b false), (31, .b false), (33, .b false), (34, .ret [] [(.one (.val (.bool (m154 x0.f0))))] [] []), (35, .b false), (38, .b false), (41, .b true), (43, .b true), (45, .b true), (47, .b true), (49, .b true), (51, .b true), (53, .b true), (56, .b true)] (h133_0 l0_0 a0 (length p : Int)) (fin133_0 l0_0 a0 (.k1)) .ret 82 [(decide ((length p : Int) < ((length (map b_si a0)) : Int))) = true, 0 ≤ (length p : Int), (map b_si a0)[(Int.toNat (length p : Int))]? = some (b_si x0), (x0.f0.toList == (⟨#[]⟩ : ByteArray).toList) = false, (x0.f0.toList == (⟨#[]⟩ : ByteArray).toList) = false, (x0.f0.toList == (⟨#[]⟩ : ByteArray).toList) = false, 0 ≤ (length p : Int), (map b_si a0)[(Int.toNat (length p : Int))]? = some (b_si x0), (x0.f0.toList == (⟨#[]⟩ : ByteArray).toList) = false, (x0.f0.toList == (⟨#[]⟩ : ByteArray).toList) = false, (x0.f0.toList == (⟨#[]⟩ : ByteArray).toList) = false, Ev F X (.call 154 [(.one (.val (.string x0.f0)))] [] [] [(.one (.val (.bool (m154 x0.f0))))]), (x0.f0.toList == (⟨#[]⟩ : ByteArray).toList) = false, (x0.f0.toList == (⟨#[]⟩ : ByteArray).toList) = false, (!(m154 x0.f0)) = true, (!(m154 x0.f0)) = true, (!(m154 x0.f0)) = true, (!(m154 x0.f0)) = true, (!(m154 x0.f0)) = true, (!(m154 x0.f0)) = true, (!(m154 x0.f0)) = true, (!(m154 x0.f0)) = true] (by kernel_rfl) ⟨hc, (by omega), (by rw [getElem?_map, Hx0]; rfl), (nt h_1), (nt h_1), (nt h_1), (by omega), (by rw [getElem?_map, Hx0]; rfl), (nt h_1), (nt h_1), (nt h_1), (e154 (a0 := x0.f0) (by assumption)), (nt h_1), (nt h_1), h_2, h_2, h_2, h_2, h_2, h_2, h_2, h_2, trivial⟩
    exact .loopX st (show (.ret : VX.Exit) ≠ .normal from by simp)
   ·try simp only [if_neg h_2]
    by_cases h_3 : (!(m110 x0.f1 0 1000000)) = true
    ·try simp only [if_pos h_3]
     have st := ch b133_0 [(8, .b true), (14, .row (b_si x0)), (23, .b false), (25, .b false), (27, .b false), (28, .row (b_si x0)), (29, .b false), (31, .b false), (33, .b false), (34, .ret [] [(.one (.val (.bool (m154 x0.f0))))] [] []), (35, .b false), (38, .b false), (41, .b false), (43, .b false), (45, .b false), (46, .row (b_si x0)), (47, .b false), (49, .b false), (51, .b false), (52, .ret [] [(.one (.val (.bool (m110 x0.f1 0 1000000))))] [] []), (53, .b false), (56, .b false), (59, .b true), (61, .b true), (63, .b true), (65, .b true), (67, .b true), (69, .b true), (71, .b true), (73, .b true), (75, .b true), (78, .b true)] (h133_0 l0_0 a0 (length p : Int)) (fin133_0 l0_0 a0 (.k1)) .ret 82 [(decide ((length p : Int) < ((length (map b_si a0)) : Int))) = true, 0 ≤ (length p : Int), (map b_si a0)[(Int.toNat (length p : Int))]? = some (b_si x0), (x0.f0.toList == (⟨#[]⟩ : ByteArray).toList) = false, (x0.f0.toList == (⟨#[]⟩ : ByteArray).toList) = false, (x0.f0.toList == (⟨#[]⟩ : ByteArray).toList) = false, 0 ≤ (length p : Int), (map b_si a0)[(Int.toNat (length p : Int))]? = some (b_si x0), (x0.f0.toList == (⟨#[]⟩ : ByteArray).toList) = false, (x0.f0.toList == (⟨#[]⟩ : ByteArray).toList) = false, (x0.f0.toList == (⟨#[]⟩ : ByteArray).toList) = false, Ev F X (.call 154 [(.one (.val (.string x0.f0)))] [] [] [(.one (.val (.bool (m154 x0.f0))))]), (x0.f0.toList == (⟨#[]⟩ : ByteArray).toList) = false, (x0.f0.toList == (⟨#[]⟩ : ByteArray).toList) = false, (!(m154 x0.f0)) = false, (!(m154 x0.f0)) = false, (!(m154 x0.f0)) = false, 0 ≤ (length p : Int), (map b_si a0)[(Int.toNat (length p : Int))]? = some (b_si x0), (!(m154 x0.f0)) = false, (!(m154 x0.f0)) = false, (!(m154 x0.f0)) = false, Ev F X (.call 115 [(.oi x0.f1)] [] [] [(.one (.val (.bool (m110 x0.f1 0 1000000))))]), (!(m154 x0.f0)) = false, (!(m154 x0.f0)) = false, (!(m110 x0.f1 0 1000000)) = true, (!(m110 x0.f1 0 1000000)) = true, (!(m110 x0.f1 0 1000000)) = true, (!(m110 x0.f1 0 1000000)) = true, (!(m110 x0.f1 0 1000000)) = true, (!(m110 x0.f1 0 1000000)) = true, (!(m110 x0.f1 0 1000000)) = true, (!(m110 x0.f1 0 1000000)) = true, (!(m110 x0.f1 0 1000000)) = true, (!(m110 x0.f1 0 1000000)) = true] (by kernel_rfl) ⟨hc, (by omega), (by rw [getElem?_map, Hx0]; rfl), (nt h_1), (nt h_1), (nt h_1), (by omega), (by rw [getElem?_map, Hx0]; rfl), (nt h_1), (nt h_1), (nt h_1), (e154 (a0 := x0.f0) (by assumption)), (nt h_1), (nt h_1), (nt h_2), (nt h_2), (nt h_2), (by omega), (by rw [getElem?_map, Hx0]; rfl), (nt h_2), (nt h_2), (nt h_2), (e115 (a0 := x0.f1)), (nt h_2), (nt h_2), h_3, h_3, h_3, h_3, h_3, h_3, h_3, h_3, h_3, h_3, trivial⟩
     exact .loopX st (show (.ret : VX.Exit) ≠ .normal from by simp)
    ·try simp only [if_neg h_3]
     by_cases h_4 : ((m79 a0 x0.f0) != (length p : Int)) = true
     ·try simp only [if_pos h_4]
      have st := ch b133_0 [(8, .b true), (14, .row (b_si x0)), (23, .b false), (25, .b false), (27, .b false), (28, .row (b_si x0)), (29, .b false), (31, .b false), (33, .b false), (34, .ret [] [(.one (.val (.bool (m154 x0.f0))))] [] []), (35, .b false), (38, .b false), (41, .b false), (43, .b false), (45, .b false), (46, .row (b_si x0)), (47, .b false), (49, .b false), (51, .b false), (52, .ret [] [(.one (.val (.bool (m110 x0.f1 0 1000000))))] [] []), (53, .b false), (56, .b false), (59, .b false), (61, .b false), (63, .b false), (65, .b false), (66, .row (b_si x0)), (67, .b false), (69, .b false), (71, .b false), (72, .ret [] [(.oi (m79 a0 x0.f0))] [] []), (73, .b false), (75, .b false), (78, .b false), (79, .b true)] (h133_0 l0_0 a0 (length p : Int)) (fin133_0 l0_0 a0 (.k1)) .ret 82 [(decide ((length p : Int) < ((length (map b_si a0)) : Int))) = true, 0 ≤ (length p : Int), (map b_si a0)[(Int.toNat (length p : Int))]? = some (b_si x0), (x0.f0.toList == (⟨#[]⟩ : ByteArray).toList) = false, (x0.f0.toList == (⟨#[]⟩ : ByteArray).toList) = false, (x0.f0.toList == (⟨#[]⟩ : ByteArray).toList) = false, 0 ≤ (length p : Int), (map b_si a0)[(Int.toNat (length p : Int))]? = some (b_si x0), (x0.f0.toList == (⟨#[]⟩ : ByteArray).toList) = false, (x0.f0.toList == (⟨#[]⟩ : ByteArray).toList) = false, (x0.f0.toList == (⟨#[]⟩ : ByteArray).toList) = false, Ev F X (.call 154 [(.one (.val (.string x0.f0)))] [] [] [(.one (.val (.bool (m154 x0.f0))))]), (x0.f0.toList == (⟨#[]⟩ : ByteArray).toList) = false, (x0.f0.toList == (⟨#[]⟩ : ByteArray).toList) = false, (!(m154 x0.f0)) = false, (!(m154 x0.f0)) = false, (!(m154 x0.f0)) = false, 0 ≤ (length p : Int), (map b_si a0)[(Int.toNat (length p : Int))]? = some (b_si x0), (!(m154 x0.f0)) = false, (!(m154 x0.f0)) = false, (!(m154 x0.f0)) = false, Ev F X (.call 115 [(.oi x0.f1)] [] [] [(.one (.val (.bool (m110 x0.f1 0 1000000))))]), (!(m154 x0.f0)) = false, (!(m154 x0.f0)) = false, (!(m110 x0.f1 0 1000000)) = false, (!(m110 x0.f1 0 1000000)) = false, (!(m110 x0.f1 0 1000000)) = false, (!(m110 x0.f1 0 1000000)) = false, 0 ≤ (length p : Int), (map b_si a0)[(Int.toNat (length p : Int))]? = some (b_si x0), (!(m110 x0.f1 0 1000000)) = false, (!(m110 x0.f1 0 1000000)) = false, (!(m110 x0.f1 0 1000000)) = false, Ev F X (.call 79 [(.one (.bor (l0_0 + 1) (map b_si a0))), (.one (.val (.string x0.f0)))] [] [] [(.oi (m79 a0 x0.f0))]), (!(m110 x0.f1 0 1000000)) = false, (!(m110 x0.f1 0 1000000)) = false, (!(m110 x0.f1 0 1000000)) = false, ((m79 a0 x0.f0) != (length p : Int)) = true] (by kernel_rfl) ⟨hc, (by omega), (by rw [getElem?_map, Hx0]; rfl), (nt h_1), (nt h_1), (nt h_1), (by omega), (by rw [getElem?_map, Hx0]; rfl), (nt h_1), (nt h_1), (nt h_1), (e154 (a0 := x0.f0) (by assumption)), (nt h_1), (nt h_1), (nt h_2), (nt h_2), (nt h_2), (by omega), (by rw [getElem?_map, Hx0]; rfl), (nt h_2), (nt h_2), (nt h_2), (e115 (a0 := x0.f1)), (nt h_2), (nt h_2), (nt h_3), (nt h_3), (nt h_3), (nt h_3), (by omega), (by rw [getElem?_map, Hx0]; rfl), (nt h_3), (nt h_3), (nt h_3), (e79 (a0 := a0) (a1 := x0.f0) (by with_reducible assumption)), (nt h_3), (nt h_3), (nt h_3), h_4, trivial⟩
      exact .loopX st (show (.ret : VX.Exit) ≠ .normal from by simp)
     ·try simp only [if_neg h_4]
      have st := ch b133_0 [(8, .b true), (14, .row (b_si x0)), (23, .b false), (25, .b false), (27, .b false), (28, .row (b_si x0)), (29, .b false), (31, .b false), (33, .b false), (34, .ret [] [(.one (.val (.bool (m154 x0.f0))))] [] []), (35, .b false), (38, .b false), (41, .b false), (43, .b false), (45, .b false), (46, .row (b_si x0)), (47, .b false), (49, .b false), (51, .b false), (52, .ret [] [(.one (.val (.bool (m110 x0.f1 0 1000000))))] [] []), (53, .b false), (56, .b false), (59, .b false), (61, .b false), (63, .b false), (65, .b false), (66, .row (b_si x0)), (67, .b false), (69, .b false), (71, .b false), (72, .ret [] [(.oi (m79 a0 x0.f0))] [] []), (73, .b false), (75, .b false), (78, .b false), (79, .b false)] (h133_0 l0_0 a0 (length p : Int)) ⟨[(0, (.one (.bor l0_0 (map b_si a0)))), (3, (.oi (w64 ((length p : Int) + 1))))], []⟩ .normal 86 [(decide ((length p : Int) < ((length (map b_si a0)) : Int))) = true, 0 ≤ (length p : Int), (map b_si a0)[(Int.toNat (length p : Int))]? = some (b_si x0), (x0.f0.toList == (⟨#[]⟩ : ByteArray).toList) = false, (x0.f0.toList == (⟨#[]⟩ : ByteArray).toList) = false, (x0.f0.toList == (⟨#[]⟩ : ByteArray).toList) = false, 0 ≤ (length p : Int), (map b_si a0)[(Int.toNat (length p : Int))]? = some (b_si x0), (x0.f0.toList == (⟨#[]⟩ : ByteArray).toList) = false, (x0.f0.toList == (⟨#[]⟩ : ByteArray).toList) = false, (x0.f0.toList == (⟨#[]⟩ : ByteArray).toList) = false, Ev F X (.call 154 [(.one (.val (.string x0.f0)))] [] [] [(.one (.val (.bool (m154 x0.f0))))]), (x0.f0.toList == (⟨#[]⟩ : ByteArray).toList) = false, (x0.f0.toList == (⟨#[]⟩ : ByteArray).toList) = false, (!(m154 x0.f0)) = false, (!(m154 x0.f0)) = false, (!(m154 x0.f0)) = false, 0 ≤ (length p : Int), (map b_si a0)[(Int.toNat (length p : Int))]? = some (b_si x0), (!(m154 x0.f0)) = false, (!(m154 x0.f0)) = false, (!(m154 x0.f0)) = false, Ev F X (.call 115 [(.oi x0.f1)] [] [] [(.one (.val (.bool (m110 x0.f1 0 1000000))))]), (!(m154 x0.f0)) = false, (!(m154 x0.f0)) = false, (!(m110 x0.f1 0 1000000)) = false, (!(m110 x0.f1 0 1000000)) = false, (!(m110 x0.f1 0 1000000)) = false, (!(m110 x0.f1 0 1000000)) = false, 0 ≤ (length p : Int), (map b_si a0)[(Int.toNat (length p : Int))]? = some (b_si x0), (!(m110 x0.f1 0 1000000)) = false, (!(m110 x0.f1 0 1000000)) = false, (!(m110 x0.f1 0 1000000)) = false, Ev F X (.call 79 [(.one (.bor (l0_0 + 1) (map b_si a0))), (.one (.val (.string x0.f0)))] [] [] [(.oi (m79 a0 x0.f0))]), (!(m110 x0.f1 0 1000000)) = false, (!(m110 x0.f1 0 1000000)) = false, (!(m110 x0.f1 0 1000000)) = false, ((m79 a0 x0.f0) != (length p : Int)) = false, True] (by kernel_rfl) ⟨hc, (by omega), (by rw [getElem?_map, Hx0]; rfl), (nt h_1), (nt h_1), (nt h_1), (by omega), (by rw [getElem?_map, Hx0]; rfl), (nt h_1), (nt h_1), (nt h_1), (e154 (a0 := x0.f0) (by assumption)), (nt h_1), (nt h_1), (nt h_2), (nt h_2), (nt h_2), (by omega), (by rw [getElem?_map, Hx0]; rfl), (nt h_2), (nt h_2), (nt h_2), (e115 (a0 := x0.f1)), (nt h_2), (nt h_2), (nt h_3), (nt h_3), (nt h_3), (nt h_3), (by omega), (by rw [getElem?_map, Hx0]; rfl), (nt h_3), (nt h_3), (nt h_3), (e79 (a0 := a0) (a1 := x0.f0) (by with_reducible assumption)), (nt h_3), (nt h_3), (nt h_3), (nt h_4), trivial, trivial⟩
      have ih := t133_0 (l0_0 := l0_0) (a0 := a0) hy0 hy1 y0 (p ++ [x0])  (by rw [append_assoc]; exact hp0)
      rw [show ((p ++ [x0]).length : Int) = (p.length : Int) + 1 from by simp] at ih
      replace st := to_ (s' := h133_0 l0_0 a0 ((length p : Int) + 1) ) st (by unfold h133_0; simp only [hw]; done)
      exact .loopN st ih
def m133 (a0 : (List K_si)) : Bool :=
 (match r133_0 a0 a0 0 with | .k0 w0_0 w1_0 => true | .k1 => false)
theorem e133 {l0_0 : Nat} {a0 : (List K_si)} (hy0 : length a0 * 24 ≤ 140737488351232) (hy1 : ∀ z ∈ a0, os_si z) : Ev F X (.call 133 [(.one (.bor l0_0 (map b_si a0)))] [] [] [(.one (.val (.bool (m133 a0))))]) := by
 unfold m133
 cases h0 : r133_0 a0 a0 0 with
 | k0 w0_0 w1_0 =>
  try dsimp only
  have f0 : (⟨[(0, (.one (.bor l0_0 (map b_si a0)))), (3, (.oi 0))], []⟩ : St) = h133_0 l0_0 a0 0  := (by rfl)
  have f1 : Ev F X (.code l133_0 (h133_0 l0_0 a0 0 ) (.exit 0) ⟨[(0, (.one (.bor l0_0 (map b_si a0)))), (3, (.oi w0_0)), (7, (.one (.val (.bool w1_0))))], []⟩) := (by have t : Ev F X (.code l133_0 (h133_0 l0_0 a0 0 ) (ex133_0 (r133_0 a0 a0 0)) (fin133_0 l0_0 a0 (r133_0 a0 a0 0))) := t133_0 (l0_0 := l0_0) (a0 := a0) (by assumption) (by assumption) a0 []  rfl; rw [h0] at t; exact t)
  exact cp (by kernel_rfl) (.f f0 (.f f1 (.h 4 (.loop (h133_0 l0_0 a0 0 ) (.exit 0) ⟨[(0, (.one (.bor l0_0 (map b_si a0)))), (3, (.oi w0_0)), (7, (.one (.val (.bool w1_0))))], []⟩) .nil)))
 | k1 =>
  try dsimp only
  have f0 : (⟨[(0, (.one (.bor l0_0 (map b_si a0)))), (3, (.oi 0))], []⟩ : St) = h133_0 l0_0 a0 0  := (by rfl)
  have f1 : Ev F X (.code l133_0 (h133_0 l0_0 a0 0 ) .ret ⟨[(2, (.one (.val (.bool false))))], []⟩) := (by have t : Ev F X (.code l133_0 (h133_0 l0_0 a0 0 ) (ex133_0 (r133_0 a0 a0 0)) (fin133_0 l0_0 a0 (r133_0 a0 a0 0))) := t133_0 (l0_0 := l0_0) (a0 := a0) (by assumption) (by assumption) a0 []  rfl; rw [h0] at t; exact t)
  exact cp (by kernel_rfl) (.f f0 (.f f1 (.h 4 (.loop (h133_0 l0_0 a0 0 ) .ret ⟨[(2, (.one (.val (.bool false))))], []⟩) .nil)))
inductive O134_0 where
 | k0 (w0 : Int) (w1 : Int) (w2 : Bool)
def r134_0 (a0 : (List K_si)) : List K_si → Int → Int → O134_0
 | x0 :: y0, i, v0 =>
  (r134_0 a0 y0 (i + 1) (w64 (v0 + x0.f1)))
 | [], i, v0 => (O134_0.k0 v0 i (decide (i < ((length (map b_si a0)) : Int))))
def h134_0 (l0_0 : Nat) (a0 : (List K_si)) (i : Int) (v0 : Int) : St := ⟨[(0, (.one (.bor l0_0 (map b_si a0)))), (3, (.one (.val (.int .i64 v0)))), (4, (.one (.val (.int .i64 i))))], []⟩
def ex134_0 : O134_0 → VX.Exit
 | .k0 _ _ _ => (.exit 0)
def fin134_0 (l0_0 : Nat) (a0 : (List K_si)) : O134_0 → St
 | .k0 w0 w1 w2 => ⟨[(0, (.one (.bor l0_0 (map b_si a0)))), (3, (.one (.val (.int .i64 w0)))), (4, (.one (.val (.int .i64 w1)))), (8, (.one (.val (.bool w2))))], []⟩
theorem t134_0 {l0_0 : Nat} {a0 : (List K_si)} (hy0 : length a0 * 24 ≤ 140737488351232) : ∀ (y0 : List K_si) (p : List K_si) (v0 : Int), p ++ y0 = a0 → Ev F X (.code l134_0 (h134_0 l0_0 a0 (length p : Int) v0) (ex134_0 (r134_0 a0 y0 (length p : Int) v0)) (fin134_0 l0_0 a0 (r134_0 a0 y0 (length p : Int) v0)))
 | [], p, v0, hp0 => by
  have hc : ¬ (decide ((length p : Int) < ((length (map b_si a0)) : Int))) = true := by
   rw [← hp0]; simp only [length_map, length_set, length_append, length_replicate, length_cons, length_nil, decide_eq_true_eq]; omega
  have st := ch b134_0 [(8, .b false)] (h134_0 l0_0 a0 (length p : Int) v0) (fin134_0 l0_0 a0 (.k0 v0 (length p : Int) (decide ((length p : Int) < ((length (map b_si a0)) : Int))))) (.exit 0) 9 [(decide ((length p : Int) < ((length (map b_si a0)) : Int))) = false] (by kernel_rfl) ⟨(nt hc), trivial⟩
  exact .loopX st (show ((.exit 0) : VX.Exit) ≠ .normal from by simp)
 | x0 :: y0, p, v0, hp0 => by
  have hc : (decide ((length p : Int) < ((length (map b_si a0)) : Int))) = true := lt1 hp0
  have Hx0 : (a0)[Int.toNat (length p : Int)]? = some x0 := by
   rw [← hp0, Int.toNat_natCast]; simp
  have hlen : length (a0) = length p + length y0 + 1 := by rw [← hp0]; simp; omega
  have hw : w64 ((length p : Int) + 1) = (length p : Int) + 1 := wrap64 (by omega)
  simp only [r134_0]
  have st := ch b134_0 [(8, .b true), (16, .row (b_si x0))] (h134_0 l0_0 a0 (length p : Int) v0) ⟨[(0, (.one (.bor l0_0 (map b_si a0)))), (3, (.oi (w64 (v0 + x0.f1)))), (4, (.oi (w64 ((length p : Int) + 1))))], []⟩ .normal 31 [(decide ((length p : Int) < ((length (map b_si a0)) : Int))) = true, 0 ≤ (length p : Int), (map b_si a0)[(Int.toNat (length p : Int))]? = some (b_si x0), True, True] (by kernel_rfl) ⟨hc, (by omega), (by rw [getElem?_map, Hx0]; rfl), trivial, trivial, trivial⟩
  have ih := t134_0 (l0_0 := l0_0) (a0 := a0) hy0 y0 (p ++ [x0]) (w64 (v0 + x0.f1)) (by rw [append_assoc]; exact hp0)
  rw [show ((p ++ [x0]).length : Int) = (p.length : Int) + 1 from by simp] at ih
  replace st := to_ (s' := h134_0 l0_0 a0 ((length p : Int) + 1) (w64 (v0 + x0.f1))) st (by unfold h134_0; simp only [hw]; done)
  exact .loopN st ih
def m134 (a0 : (List K_si)) : Int :=
 (match r134_0 a0 a0 0 0 with | .k0 w0_0 w1_0 w2_0 => w0_0)
theorem e134 {l0_0 : Nat} {a0 : (List K_si)} (hy0 : length a0 * 24 ≤ 140737488351232) : Ev F X (.call 134 [(.one (.bor l0_0 (map b_si a0)))] [] [] [(.one (.val (.int .i64 (m134 a0))))]) := by
 unfold m134
 cases h0 : r134_0 a0 a0 0 0 with
 | k0 w0_0 w1_0 w2_0 =>
  try dsimp only
  have f0 : (⟨[(0, (.one (.bor l0_0 (map b_si a0)))), (3, (.oi 0)), (4, (.oi 0))], []⟩ : St) = h134_0 l0_0 a0 0 0 := (by rfl)
  have f1 : Ev F X (.code l134_0 (h134_0 l0_0 a0 0 0) (.exit 0) ⟨[(0, (.one (.bor l0_0 (map b_si a0)))), (3, (.oi w0_0)), (4, (.oi w1_0)), (8, (.one (.val (.bool w2_0))))], []⟩) := (by have t : Ev F X (.code l134_0 (h134_0 l0_0 a0 0 0) (ex134_0 (r134_0 a0 a0 0 0)) (fin134_0 l0_0 a0 (r134_0 a0 a0 0 0))) := t134_0 (l0_0 := l0_0) (a0 := a0) (by assumption) a0 [] 0 rfl; rw [h0] at t; exact t)
  exact cp (by kernel_rfl) (.f f0 (.f f1 (.h 6 (.loop (h134_0 l0_0 a0 0 0) (.exit 0) ⟨[(0, (.one (.bor l0_0 (map b_si a0)))), (3, (.oi w0_0)), (4, (.oi w1_0)), (8, (.one (.val (.bool w2_0))))], []⟩) .nil)))
theorem tot_r134 (a : List K_si) : ∀ (l : List K_si) (i v : Int), (∀ z ∈ l, 1 ≤ z.f1 ∧ z.f1 ≤ 119988) → 0 ≤ v → v + 119988 * l.length ≤ 1000000000 → ∃ w j b, r134_0 a l i v = .k0 w j b ∧ v + l.length ≤ w ∧ w ≤ v + 119988 * l.length
 | [], i, v, _, _, _ => ⟨v, _, _, rfl, by simp, by simp⟩
 | x :: l, i, v, h, h0, hb => by
  have hx := h x (List.mem_cons_self ..)
  simp only [length_cons] at hb
  simp only [r134_0]
  rw [wrap64 (by omega)]
  obtain ⟨w, j, b, e, h1, h2⟩ := tot_r134 a l (i + 1) (v + x.f1) (fun z hz => h z (List.mem_cons_of_mem _ hz)) (by omega) (by omega)
  exact ⟨w, j, b, e, by simp only [length_cons]; omega, by simp only [length_cons]; omega⟩
theorem tot_134 (a : List K_si) (h : ∀ z ∈ a, 1 ≤ z.f1 ∧ z.f1 ≤ 119988) (hl : a.length ≤ 12) : (a.length : Int) ≤ m134 a ∧ m134 a ≤ 119988 * a.length := by
 obtain ⟨w, j, b, e, h1, h2⟩ := tot_r134 a a 0 0 h (by omega) (by omega)
 unfold m134
 rw [e]; simp only []; omega
inductive O144_0 where
 | k0 (w0 : Int) (w1 : Bool)
 | k1 (w0 : Int)
def r144_0 (a0 : (List K_R)) (a1 : Int) : List K_R → Int → O144_0
 | x0 :: y0, i =>
  if (x0.f0 == a1) = true then (O144_0.k1 i) else
  (r144_0 a0 a1 y0 (i + 1) )
 | [], i => (O144_0.k0 i (decide (i < ((length (map b_R a0)) : Int))))
def h144_0 (l0_0 : Nat) (a0 : (List K_R)) (a1 : Int) (i : Int)  : St := ⟨[(0, (.one (.bor l0_0 (map b_R a0)))), (1, (.one (.val (.int .i64 a1)))), (5, (.one (.val (.int .i64 i))))], []⟩
def ex144_0 : O144_0 → VX.Exit
 | .k0 _ _ => (.exit 0)
 | .k1 _ => .ret
def fin144_0 (l0_0 : Nat) (a0 : (List K_R)) (a1 : Int) : O144_0 → St
 | .k0 w0 w1 => ⟨[(0, (.one (.bor l0_0 (map b_R a0)))), (1, (.one (.val (.int .i64 a1)))), (5, (.one (.val (.int .i64 w0)))), (9, (.one (.val (.bool w1))))], []⟩
 | .k1 w0 => ⟨[(4, (.one (.val (.int .i64 w0))))], []⟩
theorem t144_0 {l0_0 : Nat} {a0 : (List K_R)} {a1 : Int} (hy0 : length a0 * 56 ≤ 140737488351232) (hy1 : ∀ z ∈ a0, ok_R z) : ∀ (y0 : List K_R) (p : List K_R) , p ++ y0 = a0 → Ev F X (.code l144_0 (h144_0 l0_0 a0 a1 (length p : Int) ) (ex144_0 (r144_0 a0 a1 y0 (length p : Int) )) (fin144_0 l0_0 a0 a1 (r144_0 a0 a1 y0 (length p : Int) )))
 | [], p, hp0 => by
  have hc : ¬ (decide ((length p : Int) < ((length (map b_R a0)) : Int))) = true := by
   rw [← hp0]; simp only [length_map, length_set, length_append, length_replicate, length_cons, length_nil, decide_eq_true_eq]; omega
  have st := ch b144_0 [(8, .b false)] (h144_0 l0_0 a0 a1 (length p : Int)) (fin144_0 l0_0 a0 a1 (.k0 (length p : Int) (decide ((length p : Int) < ((length (map b_R a0)) : Int))))) (.exit 0) 9 [(decide ((length p : Int) < ((length (map b_R a0)) : Int))) = false] (by kernel_rfl) ⟨(nt hc), trivial⟩
  exact .loopX st (show ((.exit 0) : VX.Exit) ≠ .normal from by simp)
 | x0 :: y0, p, hp0 => by
  have hc : (decide ((length p : Int) < ((length (map b_R a0)) : Int))) = true := lt1 hp0
  have Hx0 : (a0)[Int.toNat (length p : Int)]? = some x0 := by
   rw [← hp0, Int.toNat_natCast]; simp
  have Mx0_0 := hy1 x0 (List.mem_of_getElem? Hx0)
  have hlen : length (a0) = length p + length y0 + 1 := by rw [← hp0]; simp; omega
  have hw : w64 ((length p : Int) + 1) = (length p : Int) + 1 := wrap64 (by omega)
  simp only [r144_0]
  by_cases h_1 : (x0.f0 == a1) = true
  ·try simp only [if_pos h_1]
   have st := ch b144_0 [(8, .b true), (14, .row (b_R x0)), (23, .b true)] (h144_0 l0_0 a0 a1 (length p : Int)) (fin144_0 l0_0 a0 a1 (.k1 (length p : Int))) .ret 28 [(decide ((length p : Int) < ((length (map b_R a0)) : Int))) = true, 0 ≤ (length p : Int), (map b_R a0)[(Int.toNat (length p : Int))]? = some (b_R x0), (x0.f0 == a1) = true] (by kernel_rfl) ⟨hc, (by omega), (by rw [getElem?_map, Hx0]; rfl), h_1, trivial⟩
   exact .loopX st (show (.ret : VX.Exit) ≠ .normal from by simp)
  ·try simp only [if_neg h_1]
   have st := ch b144_0 [(8, .b true), (14, .row (b_R x0)), (23, .b false)] (h144_0 l0_0 a0 a1 (length p : Int)) ⟨[(0, (.one (.bor l0_0 (map b_R a0)))), (1, (.oi a1)), (5, (.oi (w64 ((length p : Int) + 1))))], []⟩ .normal 30 [(decide ((length p : Int) < ((length (map b_R a0)) : Int))) = true, 0 ≤ (length p : Int), (map b_R a0)[(Int.toNat (length p : Int))]? = some (b_R x0), (x0.f0 == a1) = false, True] (by kernel_rfl) ⟨hc, (by omega), (by rw [getElem?_map, Hx0]; rfl), (nt h_1), trivial, trivial⟩
   have ih := t144_0 (l0_0 := l0_0) (a0 := a0) (a1 := a1) hy0 hy1 y0 (p ++ [x0])  (by rw [append_assoc]; exact hp0)
   rw [show ((p ++ [x0]).length : Int) = (p.length : Int) + 1 from by simp] at ih
   replace st := to_ (s' := h144_0 l0_0 a0 a1 ((length p : Int) + 1) ) st (by unfold h144_0; simp only [hw]; done)
   exact .loopN st ih
def m144 (a0 : (List K_R)) (a1 : Int) : Int :=
 (match r144_0 a0 a1 a0 0 with | .k0 w0_0 w1_0 => (-1) | .k1 w0_0 => w0_0)
theorem e144 {l0_0 : Nat} {a0 : (List K_R)} {a1 : Int} (hy0 : length a0 * 56 ≤ 140737488351232) (hy1 : ∀ z ∈ a0, ok_R z) : Ev F X (.call 144 [(.one (.bor l0_0 (map b_R a0))), (.one (.val (.int .i64 a1)))] [] [] [(.one (.val (.int .i64 (m144 a0 a1))))]) := by
 unfold m144
 cases h0 : r144_0 a0 a1 a0 0 with
 | k0 w0_0 w1_0 =>
  try dsimp only
  have f0 : (⟨[(0, (.one (.bor l0_0 (map b_R a0)))), (1, (.oi a1)), (5, (.oi 0))], []⟩ : St) = h144_0 l0_0 a0 a1 0  := (by rfl)
  have f1 : Ev F X (.code l144_0 (h144_0 l0_0 a0 a1 0 ) (.exit 0) ⟨[(0, (.one (.bor l0_0 (map b_R a0)))), (1, (.oi a1)), (5, (.oi w0_0)), (9, (.one (.val (.bool w1_0))))], []⟩) := (by have t : Ev F X (.code l144_0 (h144_0 l0_0 a0 a1 0 ) (ex144_0 (r144_0 a0 a1 a0 0)) (fin144_0 l0_0 a0 a1 (r144_0 a0 a1 a0 0))) := t144_0 (l0_0 := l0_0) (a0 := a0) (a1 := a1) (by assumption) (by assumption) a0 []  rfl; rw [h0] at t; exact t)
  exact cp (by kernel_rfl) (.f f0 (.f f1 (.h 4 (.loop (h144_0 l0_0 a0 a1 0 ) (.exit 0) ⟨[(0, (.one (.bor l0_0 (map b_R a0)))), (1, (.oi a1)), (5, (.oi w0_0)), (9, (.one (.val (.bool w1_0))))], []⟩) .nil)))
 | k1 w0_0 =>
  try dsimp only
  have f0 : (⟨[(0, (.one (.bor l0_0 (map b_R a0)))), (1, (.oi a1)), (5, (.oi 0))], []⟩ : St) = h144_0 l0_0 a0 a1 0  := (by rfl)
  have f1 : Ev F X (.code l144_0 (h144_0 l0_0 a0 a1 0 ) .ret ⟨[(4, (.oi w0_0))], []⟩) := (by have t : Ev F X (.code l144_0 (h144_0 l0_0 a0 a1 0 ) (ex144_0 (r144_0 a0 a1 a0 0)) (fin144_0 l0_0 a0 a1 (r144_0 a0 a1 a0 0))) := t144_0 (l0_0 := l0_0) (a0 := a0) (a1 := a1) (by assumption) (by assumption) a0 []  rfl; rw [h0] at t; exact t)
  exact cp (by kernel_rfl) (.f f0 (.f f1 (.h 4 (.loop (h144_0 l0_0 a0 a1 0 ) .ret ⟨[(4, (.oi w0_0))], []⟩) .nil)))
theorem ixr144_0 (a0 : (List K_R)) (a1 : Int) : ∀ (l : List K_R) (i : Int), (∃ (w0 : _) (w1 : _), r144_0 a0 a1 l i = .k0 w0 w1) ∨ (∃ w, r144_0 a0 a1 l i = .k1 w ∧ i ≤ w ∧ w < i + l.length)
  | [], i => .inl ⟨i, (decide (i < ((length (map b_R a0)) : Int))), rfl⟩
  | x :: l, i => by
    have ih := ixr144_0 a0 a1 l (i + 1)
    simp only [r144_0]
    (repeat' split)
    all_goals first
      | exact .inr ⟨i, rfl, by omega, by simp only [length_cons]; omega⟩
      | (rcases ih with ⟨w0, w1, h⟩ | ⟨w, h, h1, h2⟩
         · exact .inl ⟨w0, w1, h⟩
         · exact .inr ⟨w, h, by omega, by simp only [length_cons]; omega⟩)
theorem ix144 (a0 : (List K_R)) (a1 : Int) : -1 ≤ m144 a0 a1 ∧ m144 a0 a1 < (length a0 : Int) := by
 unfold m144
 rcases ixr144_0 a0 a1 a0 0 with ⟨w0, w1, h⟩ | ⟨w, h, h1, h2⟩ <;> simp only [h] <;> omega
def m150 (a0 : Int) : Bool :=
 (m110 a0 0 2147483646)
theorem e150 {a0 : Int} : Ev F X (.call 150 [(.one (.val (.int .i64 a0)))] [] [] [(.one (.val (.bool (m110 a0 0 2147483646))))]) := by
 have f0 := e110 (a0 := a0) (a1 := 0) (a2 := 2147483646)
 exact cp (by kernel_rfl) (.r 5 [] [] f0 .nil)
def m132 (a0 : (List K_R)) (a1 : Int) : Int :=
 if (!(m110 ((getD a0 (Int.toNat a1) (K_R.mk 0 0 0 [] 0)).f0) 0 2147483646)) = true then 3 else
 if (!(m110 ((getD a0 (Int.toNat a1) (K_R.mk 0 0 0 [] 0)).f1) 0 1000000)) = true then 3 else
  if (!(m110 ((getD a0 (Int.toNat a1) (K_R.mk 0 0 0 [] 0)).f2) 0 1000000)) = true then 3 else
   if (!(m110 ((getD a0 (Int.toNat a1) (K_R.mk 0 0 0 [] 0)).f4) 1 3)) = true then 3 else
    if (decide (((length (map b_si ((getD a0 (Int.toNat a1) (K_R.mk 0 0 0 [] 0)).f3))) : Int) > 12)) = true then 1 else
     if (!(m133 ((getD a0 (Int.toNat a1) (K_R.mk 0 0 0 [] 0)).f3))) = true then 1 else
      if ((w64 ((m134 ((getD a0 (Int.toNat a1) (K_R.mk 0 0 0 [] 0)).f3)) + ((getD a0 (Int.toNat a1) (K_R.mk 0 0 0 [] 0)).f2))) != ((getD a0 (Int.toNat a1) (K_R.mk 0 0 0 [] 0)).f1)) = true then 1 else
       if (decide ((m144 (take (Int.toNat a1) a0) ((getD a0 (Int.toNat a1) (K_R.mk 0 0 0 [] 0)).f0)) ≥ 0)) = true then 6 else
        0
theorem e132 {l0_0 : Nat} {a0 : (List K_R)} {a1 : Int} (hy0 : length a0 * 56 ≤ 140737488351232) (hy1 : ∀ z ∈ a0, os_R z) (hy2 : 0 ≤ a1) (hy3 : a1 < (length a0 : Int)) : Ev F X (.call 132 [(.one (.bor l0_0 (map b_R a0))), (.one (.val (.int .i64 a1)))] [] [] [(.one (.val (.int .i64 (m132 a0 a1))))]) := by
 unfold m132
 have f0 : 0 ≤ a1 := (by with_reducible assumption)
 have f1 : (map b_R a0)[(Int.toNat a1)]? = some [(.val (.int .i64 ((getD a0 (Int.toNat a1) (K_R.mk 0 0 0 [] 0)).f0))), (.val (.int .i64 ((getD a0 (Int.toNat a1) (K_R.mk 0 0 0 [] 0)).f1))), (.val (.int .i64 ((getD a0 (Int.toNat a1) (K_R.mk 0 0 0 [] 0)).f2))), (.sl (map b_si ((getD a0 (Int.toNat a1) (K_R.mk 0 0 0 [] 0)).f3))), (.val (.int .i64 ((getD a0 (Int.toNat a1) (K_R.mk 0 0 0 [] 0)).f4)))] := (by rw [getElem?_map, getD_at a0 (Int.toNat a1) (K_R.mk 0 0 0 [] 0) (by first | exact True.intro | with_reducible rfl | with_reducible assumption | omega | (simp only [decide_eq_true_eq] at *; omega) | (simp only [length_map]; omega) | (simp [ol85, ol86, ol27_0, ol27_1, ol27_2, ol28_0, ol28_1, ol28_2]; omega) | (simp [take_of_length_le, ol85, ol86, ol27_0, ol27_1, ol27_2, ol28_0, ol28_1, ol28_2]; done) | assumption | trivial | (simp [*, ol85, ol86, ol27_0, ol27_1, ol27_2, ol28_0, ol28_1, ol28_2, byteRows_eq, ints_y]; done))]; rfl)
 have f2 := e150 (a0 := ((getD a0 (Int.toNat a1) (K_R.mk 0 0 0 [] 0)).f0))
 by_cases h0 : (!(m110 ((getD a0 (Int.toNat a1) (K_R.mk 0 0 0 [] 0)).f0) 0 2147483646)) = true
 ·try simp only [if_pos h0]
  exact cp (by kernel_rfl) (.f f0 (.f f1 (.h 7 (.row [(.i ((getD a0 (Int.toNat a1) (K_R.mk 0 0 0 [] 0)).f0)), (.i ((getD a0 (Int.toNat a1) (K_R.mk 0 0 0 [] 0)).f1)), (.i ((getD a0 (Int.toNat a1) (K_R.mk 0 0 0 [] 0)).f2)), (.sl (map b_si ((getD a0 (Int.toNat a1) (K_R.mk 0 0 0 [] 0)).f3))), (.i ((getD a0 (Int.toNat a1) (K_R.mk 0 0 0 [] 0)).f4))]) (.r 19 [] [] f2 (.m 7 h0 (.y 24 (.y 26 (.y 28 (.y 30 (.y 32 (.y 34 (.y 37 .nil))))))))))))
 ·try simp only [if_neg h0]
  have f8 := e115 (a0 := ((getD a0 (Int.toNat a1) (K_R.mk 0 0 0 [] 0)).f1))
  by_cases h1 : (!(m110 ((getD a0 (Int.toNat a1) (K_R.mk 0 0 0 [] 0)).f1) 0 1000000)) = true
  ·try simp only [if_pos h1]
   exact cp (by kernel_rfl) (.f f0 (.f f1 (.h 7 (.row [(.i ((getD a0 (Int.toNat a1) (K_R.mk 0 0 0 [] 0)).f0)), (.i ((getD a0 (Int.toNat a1) (K_R.mk 0 0 0 [] 0)).f1)), (.i ((getD a0 (Int.toNat a1) (K_R.mk 0 0 0 [] 0)).f2)), (.sl (map b_si ((getD a0 (Int.toNat a1) (K_R.mk 0 0 0 [] 0)).f3))), (.i ((getD a0 (Int.toNat a1) (K_R.mk 0 0 0 [] 0)).f4))]) (.r 19 [] [] f2 (.n 5 h0 (.z 24 (.z 26 (.z 28 (.z 30 (.z 32 (.r 33 [] [] f8 (.n 2 h0 (.m 7 h1 (.z 34 (.z 37 (.y 40 (.y 42 (.y 44 (.y 46 (.y 48 (.y 50 (.y 53 .nil))))))))))))))))))))))
  ·try simp only [if_neg h1]
   have f16 := e115 (a0 := ((getD a0 (Int.toNat a1) (K_R.mk 0 0 0 [] 0)).f2))
   by_cases h2 : (!(m110 ((getD a0 (Int.toNat a1) (K_R.mk 0 0 0 [] 0)).f2) 0 1000000)) = true
   ·try simp only [if_pos h2]
    exact cp (by kernel_rfl) (.f f0 (.f f1 (.h 7 (.row [(.i ((getD a0 (Int.toNat a1) (K_R.mk 0 0 0 [] 0)).f0)), (.i ((getD a0 (Int.toNat a1) (K_R.mk 0 0 0 [] 0)).f1)), (.i ((getD a0 (Int.toNat a1) (K_R.mk 0 0 0 [] 0)).f2)), (.sl (map b_si ((getD a0 (Int.toNat a1) (K_R.mk 0 0 0 [] 0)).f3))), (.i ((getD a0 (Int.toNat a1) (K_R.mk 0 0 0 [] 0)).f4))]) (.r 19 [] [] f2 (.n 5 h0 (.z 24 (.z 26 (.z 28 (.z 30 (.z 32 (.r 33 [] [] f8 (.n 2 h0 (.n 5 h1 (.z 34 (.z 37 (.z 40 (.z 42 (.z 44 (.z 46 (.z 48 (.r 49 [] [] f16 (.n 2 h1 (.m 7 h2 (.z 50 (.z 53 (.y 56 (.y 58 (.y 60 (.y 62 (.y 64 (.y 66 (.y 69 .nil))))))))))))))))))))))))))))))))
   ·try simp only [if_neg h2]
    have f24 := e110 (a0 := ((getD a0 (Int.toNat a1) (K_R.mk 0 0 0 [] 0)).f4)) (a1 := 1) (a2 := 3)
    by_cases h3 : (!(m110 ((getD a0 (Int.toNat a1) (K_R.mk 0 0 0 [] 0)).f4) 1 3)) = true
    ·try simp only [if_pos h3]
     exact cp (by kernel_rfl) (.f f0 (.f f1 (.h 7 (.row [(.i ((getD a0 (Int.toNat a1) (K_R.mk 0 0 0 [] 0)).f0)), (.i ((getD a0 (Int.toNat a1) (K_R.mk 0 0 0 [] 0)).f1)), (.i ((getD a0 (Int.toNat a1) (K_R.mk 0 0 0 [] 0)).f2)), (.sl (map b_si ((getD a0 (Int.toNat a1) (K_R.mk 0 0 0 [] 0)).f3))), (.i ((getD a0 (Int.toNat a1) (K_R.mk 0 0 0 [] 0)).f4))]) (.r 19 [] [] f2 (.n 5 h0 (.z 24 (.z 26 (.z 28 (.z 30 (.z 32 (.r 33 [] [] f8 (.n 2 h0 (.n 5 h1 (.z 34 (.z 37 (.z 40 (.z 42 (.z 44 (.z 46 (.z 48 (.r 49 [] [] f16 (.n 2 h1 (.n 5 h2 (.z 50 (.z 53 (.z 56 (.z 58 (.z 60 (.z 62 (.z 64 (.r 65 [] [] f24 (.n 2 h2 (.f h3 (.z 66 (.z 69 (.y 70 .nil))))))))))))))))))))))))))))))))))))
    ·try simp only [if_neg h3]
     by_cases h4 : (decide (((length (map b_si ((getD a0 (Int.toNat a1) (K_R.mk 0 0 0 [] 0)).f3))) : Int) > 12)) = true
     ·try simp only [if_pos h4]
      exact cp (by kernel_rfl) (.f f0 (.f f1 (.h 7 (.row [(.i ((getD a0 (Int.toNat a1) (K_R.mk 0 0 0 [] 0)).f0)), (.i ((getD a0 (Int.toNat a1) (K_R.mk 0 0 0 [] 0)).f1)), (.i ((getD a0 (Int.toNat a1) (K_R.mk 0 0 0 [] 0)).f2)), (.sl (map b_si ((getD a0 (Int.toNat a1) (K_R.mk 0 0 0 [] 0)).f3))), (.i ((getD a0 (Int.toNat a1) (K_R.mk 0 0 0 [] 0)).f4))]) (.r 19 [] [] f2 (.n 5 h0 (.z 24 (.z 26 (.z 28 (.z 30 (.z 32 (.r 33 [] [] f8 (.n 2 h0 (.n 5 h1 (.z 34 (.z 37 (.z 40 (.z 42 (.z 44 (.z 46 (.z 48 (.r 49 [] [] f16 (.n 2 h1 (.n 5 h2 (.z 50 (.z 53 (.z 56 (.z 58 (.z 60 (.z 62 (.z 64 (.r 65 [] [] f24 (.n 2 h2 (.g h3 (.m 7 h4 (.z 66 (.z 69 (.z 70 (.y 85 (.y 87 (.y 89 (.y 91 (.y 93 (.y 95 (.y 98 .nil))))))))))))))))))))))))))))))))))))))))))))
     ·try simp only [if_neg h4]
      have f33 := e133 (l0_0 := l0_0 + 1) (a0 := ((getD a0 (Int.toNat a1) (K_R.mk 0 0 0 [] 0)).f3)) (by have q := gos_R (l := a0) (by first | assumption | (intro z hz; exact (by assumption : ∀ z ∈ _, os_R z) z (List.mem_of_mem_take hz))) (Int.toNat a1) (K_R.mk 0 0 0 [] 0) (by simp [os_R, ByteArray.size]); first | exact q | exact q.1 | exact q.2 | exact q.2.1 | exact q.2.2 | exact Nat.le_trans q (by decide) | exact Nat.le_trans q.1 (by decide) | (have q1 := q.1; simp only [length_map]; omega)) (by have q := gos_R (l := a0) (by first | assumption | (intro z hz; exact (by assumption : ∀ z ∈ _, os_R z) z (List.mem_of_mem_take hz))) (Int.toNat a1) (K_R.mk 0 0 0 [] 0) (by simp [os_R, ByteArray.size]); first | exact q | exact q.1 | exact q.2 | exact q.2.1 | exact q.2.2 | exact Nat.le_trans q (by decide) | exact Nat.le_trans q.1 (by decide) | (have q1 := q.1; simp only [length_map]; omega))
      by_cases h5 : (!(m133 ((getD a0 (Int.toNat a1) (K_R.mk 0 0 0 [] 0)).f3))) = true
      ·try simp only [if_pos h5]
       exact cp (by kernel_rfl) (.f f0 (.f f1 (.h 7 (.row [(.i ((getD a0 (Int.toNat a1) (K_R.mk 0 0 0 [] 0)).f0)), (.i ((getD a0 (Int.toNat a1) (K_R.mk 0 0 0 [] 0)).f1)), (.i ((getD a0 (Int.toNat a1) (K_R.mk 0 0 0 [] 0)).f2)), (.sl (map b_si ((getD a0 (Int.toNat a1) (K_R.mk 0 0 0 [] 0)).f3))), (.i ((getD a0 (Int.toNat a1) (K_R.mk 0 0 0 [] 0)).f4))]) (.r 19 [] [] f2 (.n 5 h0 (.z 24 (.z 26 (.z 28 (.z 30 (.z 32 (.r 33 [] [] f8 (.n 2 h0 (.n 5 h1 (.z 34 (.z 37 (.z 40 (.z 42 (.z 44 (.z 46 (.z 48 (.r 49 [] [] f16 (.n 2 h1 (.n 5 h2 (.z 50 (.z 53 (.z 56 (.z 58 (.z 60 (.z 62 (.z 64 (.r 65 [] [] f24 (.n 2 h2 (.g h3 (.n 5 h4 (.z 66 (.z 69 (.z 70 (.z 85 (.z 87 (.z 89 (.z 91 (.z 93 (.r 94 [] [] f33 (.n 2 h4 (.m 16 h5 (.z 95 (.z 98 (.y 101 (.y 103 (.y 105 (.y 107 (.y 109 (.y 111 (.y 113 (.y 115 (.y 117 (.y 119 (.y 121 (.y 123 (.y 125 (.y 127 (.y 129 (.y 132 .nil)))))))))))))))))))))))))))))))))))))))))))))))))))))))))))))))
      ·try simp only [if_neg h5]
       have f41 := e134 (l0_0 := l0_0 + 1) (a0 := ((getD a0 (Int.toNat a1) (K_R.mk 0 0 0 [] 0)).f3)) (by have q := gos_R (l := a0) (by first | assumption | (intro z hz; exact (by assumption : ∀ z ∈ _, os_R z) z (List.mem_of_mem_take hz))) (Int.toNat a1) (K_R.mk 0 0 0 [] 0) (by simp [os_R, ByteArray.size]); first | exact q | exact q.1 | exact q.2 | exact q.2.1 | exact q.2.2 | exact Nat.le_trans q (by decide) | exact Nat.le_trans q.1 (by decide) | (have q1 := q.1; simp only [length_map]; omega))
       by_cases h6 : ((w64 ((m134 ((getD a0 (Int.toNat a1) (K_R.mk 0 0 0 [] 0)).f3)) + ((getD a0 (Int.toNat a1) (K_R.mk 0 0 0 [] 0)).f2))) != ((getD a0 (Int.toNat a1) (K_R.mk 0 0 0 [] 0)).f1)) = true
       ·try simp only [if_pos h6]
        exact cp (by kernel_rfl) (.f f0 (.f f1 (.h 7 (.row [(.i ((getD a0 (Int.toNat a1) (K_R.mk 0 0 0 [] 0)).f0)), (.i ((getD a0 (Int.toNat a1) (K_R.mk 0 0 0 [] 0)).f1)), (.i ((getD a0 (Int.toNat a1) (K_R.mk 0 0 0 [] 0)).f2)), (.sl (map b_si ((getD a0 (Int.toNat a1) (K_R.mk 0 0 0 [] 0)).f3))), (.i ((getD a0 (Int.toNat a1) (K_R.mk 0 0 0 [] 0)).f4))]) (.r 19 [] [] f2 (.n 5 h0 (.z 24 (.z 26 (.z 28 (.z 30 (.z 32 (.r 33 [] [] f8 (.n 2 h0 (.n 5 h1 (.z 34 (.z 37 (.z 40 (.z 42 (.z 44 (.z 46 (.z 48 (.r 49 [] [] f16 (.n 2 h1 (.n 5 h2 (.z 50 (.z 53 (.z 56 (.z 58 (.z 60 (.z 62 (.z 64 (.r 65 [] [] f24 (.n 2 h2 (.g h3 (.n 5 h4 (.z 66 (.z 69 (.z 70 (.z 85 (.z 87 (.z 89 (.z 91 (.z 93 (.r 94 [] [] f33 (.n 2 h4 (.n 5 h5 (.z 95 (.z 98 (.z 101 (.z 103 (.z 105 (.z 107 (.z 109 (.r 110 [] [] f41 (.n 5 h5 (.f trivial (.n 6 h5 (.f h6 (.z 111 (.z 113 (.z 115 (.z 117 (.z 119 (.z 121 (.z 123 (.z 125 (.z 127 (.z 129 (.z 132 (.y 133 .nil)))))))))))))))))))))))))))))))))))))))))))))))))))))))))))))))))))))
       ·try simp only [if_neg h6]
        have f55 : (0 ≤ (0 : Int) ∧ (0 : Int) ≤ a1 ∧ a1 ≤ ((length (map b_R a0)) : Int)) ∧ ∀ r ∈ ((map b_R a0) : List (List B)), r.length = 5 := (by refine ⟨?_, lenB_R _⟩; simp only [length_map, length_set, length_append, length_replicate, length_cons, length_nil]; omega)
        have f56 : Ev F X (.call 144 [(.one (.bor (l0_0 + 1) (take (Int.toNat a1 - Int.toNat 0) (drop 0 (map b_R a0))))), (.oi ((getD a0 (Int.toNat a1) (K_R.mk 0 0 0 [] 0)).f0))] [] [] [(.oi (m144 (take (Int.toNat a1) a0) ((getD a0 (Int.toNat a1) (K_R.mk 0 0 0 [] 0)).f0)))]) := (by rw [show (take (Int.toNat a1 - Int.toNat 0) (drop 0 (map b_R a0))) = (map b_R (take (Int.toNat a1) a0)) from by first | rfl | (simp [map_take, map_drop, ol85, ol86, ol27_0, ol27_1, ol27_2, ol28_0, ol28_1, ol28_2]; done) | (simp [byteRows_eq, map_take, map_drop, ol85, ol86, ol27_0, ol27_1, ol27_2, ol28_0, ol28_1, ol28_2]; done) | (simp [*, map_take, map_drop, ol85, ol86, ol27_0, ol27_1, ol27_2, ol28_0, ol28_1, ol28_2]; done)]; exact (e144 (a0 := (take (Int.toNat a1) a0)) (a1 := ((getD a0 (Int.toNat a1) (K_R.mk 0 0 0 [] 0)).f0)) (by simp only [length_take]; omega) (by intro z hz; exact os_ok_R z ((by assumption : ∀ z ∈ _, os_R z) z (List.mem_of_mem_take hz)))))
        by_cases h7 : (decide ((m144 (take (Int.toNat a1) a0) ((getD a0 (Int.toNat a1) (K_R.mk 0 0 0 [] 0)).f0)) ≥ 0)) = true
        ·try simp only [if_pos h7]
         exact cp (by kernel_rfl) (.f f0 (.f f1 (.h 7 (.row [(.i ((getD a0 (Int.toNat a1) (K_R.mk 0 0 0 [] 0)).f0)), (.i ((getD a0 (Int.toNat a1) (K_R.mk 0 0 0 [] 0)).f1)), (.i ((getD a0 (Int.toNat a1) (K_R.mk 0 0 0 [] 0)).f2)), (.sl (map b_si ((getD a0 (Int.toNat a1) (K_R.mk 0 0 0 [] 0)).f3))), (.i ((getD a0 (Int.toNat a1) (K_R.mk 0 0 0 [] 0)).f4))]) (.r 19 [] [] f2 (.n 5 h0 (.z 24 (.z 26 (.z 28 (.z 30 (.z 32 (.r 33 [] [] f8 (.n 2 h0 (.n 5 h1 (.z 34 (.z 37 (.z 40 (.z 42 (.z 44 (.z 46 (.z 48 (.r 49 [] [] f16 (.n 2 h1 (.n 5 h2 (.z 50 (.z 53 (.z 56 (.z 58 (.z 60 (.z 62 (.z 64 (.r 65 [] [] f24 (.n 2 h2 (.g h3 (.n 5 h4 (.z 66 (.z 69 (.z 70 (.z 85 (.z 87 (.z 89 (.z 91 (.z 93 (.r 94 [] [] f33 (.n 2 h4 (.n 5 h5 (.z 95 (.z 98 (.z 101 (.z 103 (.z 105 (.z 107 (.z 109 (.r 110 [] [] f41 (.n 5 h5 (.f trivial (.n 6 h5 (.g h6 (.f f55 (.z 111 (.z 113 (.z 115 (.z 117 (.z 119 (.z 121 (.z 123 (.z 125 (.z 127 (.z 129 (.z 132 (.z 133 (.r 149 [] [] f56 (.f h7 (.y 152 .nil)))))))))))))))))))))))))))))))))))))))))))))))))))))))))))))))))))))))))
        ·try simp only [if_neg h7]
         exact cp (by kernel_rfl) (.f f0 (.f f1 (.h 7 (.row [(.i ((getD a0 (Int.toNat a1) (K_R.mk 0 0 0 [] 0)).f0)), (.i ((getD a0 (Int.toNat a1) (K_R.mk 0 0 0 [] 0)).f1)), (.i ((getD a0 (Int.toNat a1) (K_R.mk 0 0 0 [] 0)).f2)), (.sl (map b_si ((getD a0 (Int.toNat a1) (K_R.mk 0 0 0 [] 0)).f3))), (.i ((getD a0 (Int.toNat a1) (K_R.mk 0 0 0 [] 0)).f4))]) (.r 19 [] [] f2 (.n 5 h0 (.z 24 (.z 26 (.z 28 (.z 30 (.z 32 (.r 33 [] [] f8 (.n 2 h0 (.n 5 h1 (.z 34 (.z 37 (.z 40 (.z 42 (.z 44 (.z 46 (.z 48 (.r 49 [] [] f16 (.n 2 h1 (.n 5 h2 (.z 50 (.z 53 (.z 56 (.z 58 (.z 60 (.z 62 (.z 64 (.r 65 [] [] f24 (.n 2 h2 (.g h3 (.n 5 h4 (.z 66 (.z 69 (.z 70 (.z 85 (.z 87 (.z 89 (.z 91 (.z 93 (.r 94 [] [] f33 (.n 2 h4 (.n 5 h5 (.z 95 (.z 98 (.z 101 (.z 103 (.z 105 (.z 107 (.z 109 (.r 110 [] [] f41 (.n 5 h5 (.f trivial (.n 6 h5 (.g h6 (.f f55 (.z 111 (.z 113 (.z 115 (.z 117 (.z 119 (.z 121 (.z 123 (.z 125 (.z 127 (.z 129 (.z 132 (.z 133 (.r 149 [] [] f56 (.g h7 (.z 152 .nil)))))))))))))))))))))))))))))))))))))))))))))))))))))))))))))))))))))))))
inductive O135_0 where
 | k0 (w0 : Int) (w1 : Int) (w2 : Bool)
def r135_0 (a0 : (List K_R)) (a1 : Bool) : List K_R → Int → Int → O135_0
 | x0 :: y0, i, v0 =>
  if (!a1) = true then (r135_0 a0 a1 y0 (i + 1) (w64 (v0 + x0.f1))) else
  if (x0.f4 == 2) = true then (r135_0 a0 a1 y0 (i + 1) (w64 (v0 + x0.f1))) else
   (r135_0 a0 a1 y0 (i + 1) v0)
 | [], i, v0 => (O135_0.k0 v0 i (decide (i < ((length (map b_R a0)) : Int))))
def h135_0 (l0_0 : Nat) (a0 : (List K_R)) (a1 : Bool) (i : Int) (v0 : Int) : St := ⟨[(0, (.one (.bor l0_0 (map b_R a0)))), (1, (.one (.val (.bool a1)))), (5, (.one (.val (.int .i64 v0)))), (6, (.one (.val (.int .i64 i))))], []⟩
def ex135_0 : O135_0 → VX.Exit
 | .k0 _ _ _ => (.exit 0)
def fin135_0 (l0_0 : Nat) (a0 : (List K_R)) (a1 : Bool) : O135_0 → St
 | .k0 w0 w1 w2 => ⟨[(0, (.one (.bor l0_0 (map b_R a0)))), (1, (.one (.val (.bool a1)))), (5, (.one (.val (.int .i64 w0)))), (6, (.one (.val (.int .i64 w1)))), (10, (.one (.val (.bool w2))))], []⟩
theorem t135_0 {l0_0 : Nat} {a0 : (List K_R)} {a1 : Bool} (hy0 : length a0 * 56 ≤ 140737488351232) (hy1 : ∀ z ∈ a0, ok_R z) : ∀ (y0 : List K_R) (p : List K_R) (v0 : Int), p ++ y0 = a0 → Ev F X (.code l135_0 (h135_0 l0_0 a0 a1 (length p : Int) v0) (ex135_0 (r135_0 a0 a1 y0 (length p : Int) v0)) (fin135_0 l0_0 a0 a1 (r135_0 a0 a1 y0 (length p : Int) v0)))
 | [], p, v0, hp0 => by
  have hc : ¬ (decide ((length p : Int) < ((length (map b_R a0)) : Int))) = true := by
   rw [← hp0]; simp only [length_map, length_set, length_append, length_replicate, length_cons, length_nil, decide_eq_true_eq]; omega
  have st := ch b135_0 [(8, .b false)] (h135_0 l0_0 a0 a1 (length p : Int) v0) (fin135_0 l0_0 a0 a1 (.k0 v0 (length p : Int) (decide ((length p : Int) < ((length (map b_R a0)) : Int))))) (.exit 0) 9 [(decide ((length p : Int) < ((length (map b_R a0)) : Int))) = false] (by kernel_rfl) ⟨(nt hc), trivial⟩
  exact .loopX st (show ((.exit 0) : VX.Exit) ≠ .normal from by simp)
 | x0 :: y0, p, v0, hp0 => by
  have hc : (decide ((length p : Int) < ((length (map b_R a0)) : Int))) = true := lt1 hp0
  have Hx0 : (a0)[Int.toNat (length p : Int)]? = some x0 := by
   rw [← hp0, Int.toNat_natCast]; simp
  have Mx0_0 := hy1 x0 (List.mem_of_getElem? Hx0)
  have hlen : length (a0) = length p + length y0 + 1 := by rw [← hp0]; simp; omega
  have hw : w64 ((length p : Int) + 1) = (length p : Int) + 1 := wrap64 (by omega)
  simp only [r135_0]
  by_cases h_1 : (!a1) = true
  ·try simp only [if_pos h_1]
   have st := ch b135_0 [(8, .b true), (15, .b true), (17, .b true), (19, .b true), (21, .b true), (23, .b true), (25, .b true), (28, .b true), (37, .row (b_R x0))] (h135_0 l0_0 a0 a1 (length p : Int) v0) ⟨[(0, (.one (.bor l0_0 (map b_R a0)))), (1, (.one (.val (.bool a1)))), (5, (.oi (w64 (v0 + x0.f1)))), (6, (.oi (w64 ((length p : Int) + 1))))], []⟩ .normal 52 [(decide ((length p : Int) < ((length (map b_R a0)) : Int))) = true, (!a1) = true, (!a1) = true, (!a1) = true, (!a1) = true, (!a1) = true, (!a1) = true, (!a1) = true, 0 ≤ (length p : Int), (map b_R a0)[(Int.toNat (length p : Int))]? = some (b_R x0), True, True] (by kernel_rfl) ⟨hc, h_1, h_1, h_1, h_1, h_1, h_1, h_1, (by omega), (by rw [getElem?_map, Hx0]; rfl), trivial, trivial, trivial⟩
   have ih := t135_0 (l0_0 := l0_0) (a0 := a0) (a1 := a1) hy0 hy1 y0 (p ++ [x0]) (w64 (v0 + x0.f1)) (by rw [append_assoc]; exact hp0)
   rw [show ((p ++ [x0]).length : Int) = (p.length : Int) + 1 from by simp] at ih
   replace st := to_ (s' := h135_0 l0_0 a0 a1 ((length p : Int) + 1) (w64 (v0 + x0.f1))) st (by unfold h135_0; simp only [hw]; done)
   exact .loopN st ih
  ·try simp only [if_neg h_1]
   by_cases h_2 : (x0.f4 == 2) = true
   ·try simp only [if_pos h_2]
    have st := ch b135_0 [(8, .b true), (15, .b false), (17, .b false), (19, .b false), (20, .row (b_R x0)), (21, .b false), (23, .b false), (25, .b false), (28, .b false), (29, .b true), (37, .row (b_R x0))] (h135_0 l0_0 a0 a1 (length p : Int) v0) ⟨[(0, (.one (.bor l0_0 (map b_R a0)))), (1, (.one (.val (.bool a1)))), (5, (.oi (w64 (v0 + x0.f1)))), (6, (.oi (w64 ((length p : Int) + 1))))], []⟩ .normal 52 [(decide ((length p : Int) < ((length (map b_R a0)) : Int))) = true, (!a1) = false, (!a1) = false, (!a1) = false, 0 ≤ (length p : Int), (map b_R a0)[(Int.toNat (length p : Int))]? = some (b_R x0), (!a1) = false, (!a1) = false, (!a1) = false, (!a1) = false, (x0.f4 == 2) = true, 0 ≤ (length p : Int), (map b_R a0)[(Int.toNat (length p : Int))]? = some (b_R x0), True, True] (by kernel_rfl) ⟨hc, (nt h_1), (nt h_1), (nt h_1), (by omega), (by rw [getElem?_map, Hx0]; rfl), (nt h_1), (nt h_1), (nt h_1), (nt h_1), h_2, (by omega), (by rw [getElem?_map, Hx0]; rfl), trivial, trivial, trivial⟩
    have ih := t135_0 (l0_0 := l0_0) (a0 := a0) (a1 := a1) hy0 hy1 y0 (p ++ [x0]) (w64 (v0 + x0.f1)) (by rw [append_assoc]; exact hp0)
    rw [show ((p ++ [x0]).length : Int) = (p.length : Int) + 1 from by simp] at ih
    replace st := to_ (s' := h135_0 l0_0 a0 a1 ((length p : Int) + 1) (w64 (v0 + x0.f1))) st (by unfold h135_0; simp only [hw]; done)
    exact .loopN st ih
   ·try simp only [if_neg h_2]
    have st := ch b135_0 [(8, .b true), (15, .b false), (17, .b false), (19, .b false), (20, .row (b_R x0)), (21, .b false), (23, .b false), (25, .b false), (28, .b false), (29, .b false)] (h135_0 l0_0 a0 a1 (length p : Int) v0) ⟨[(0, (.one (.bor l0_0 (map b_R a0)))), (1, (.one (.val (.bool a1)))), (5, (.oi v0)), (6, (.oi (w64 ((length p : Int) + 1))))], []⟩ .normal 36 [(decide ((length p : Int) < ((length (map b_R a0)) : Int))) = true, (!a1) = false, (!a1) = false, (!a1) = false, 0 ≤ (length p : Int), (map b_R a0)[(Int.toNat (length p : Int))]? = some (b_R x0), (!a1) = false, (!a1) = false, (!a1) = false, (!a1) = false, (x0.f4 == 2) = false, True] (by kernel_rfl) ⟨hc, (nt h_1), (nt h_1), (nt h_1), (by omega), (by rw [getElem?_map, Hx0]; rfl), (nt h_1), (nt h_1), (nt h_1), (nt h_1), (nt h_2), trivial, trivial⟩
    have ih := t135_0 (l0_0 := l0_0) (a0 := a0) (a1 := a1) hy0 hy1 y0 (p ++ [x0]) v0 (by rw [append_assoc]; exact hp0)
    rw [show ((p ++ [x0]).length : Int) = (p.length : Int) + 1 from by simp] at ih
    replace st := to_ (s' := h135_0 l0_0 a0 a1 ((length p : Int) + 1) v0) st (by unfold h135_0; simp only [hw]; done)
    exact .loopN st ih
def m135 (a0 : (List K_R)) (a1 : Bool) : Int :=
 (match r135_0 a0 a1 a0 0 0 with | .k0 w0_0 w1_0 w2_0 => w0_0)
theorem e135 {l0_0 : Nat} {a0 : (List K_R)} {a1 : Bool} (hy0 : length a0 * 56 ≤ 140737488351232) (hy1 : ∀ z ∈ a0, ok_R z) : Ev F X (.call 135 [(.one (.bor l0_0 (map b_R a0))), (.one (.val (.bool a1)))] [] [] [(.one (.val (.int .i64 (m135 a0 a1))))]) := by
 unfold m135
 cases h0 : r135_0 a0 a1 a0 0 0 with
 | k0 w0_0 w1_0 w2_0 =>
  try dsimp only
  have f0 : (⟨[(0, (.one (.bor l0_0 (map b_R a0)))), (1, (.one (.val (.bool a1)))), (5, (.oi 0)), (6, (.oi 0))], []⟩ : St) = h135_0 l0_0 a0 a1 0 0 := (by rfl)
  have f1 : Ev F X (.code l135_0 (h135_0 l0_0 a0 a1 0 0) (.exit 0) ⟨[(0, (.one (.bor l0_0 (map b_R a0)))), (1, (.one (.val (.bool a1)))), (5, (.oi w0_0)), (6, (.oi w1_0)), (10, (.one (.val (.bool w2_0))))], []⟩) := (by have t : Ev F X (.code l135_0 (h135_0 l0_0 a0 a1 0 0) (ex135_0 (r135_0 a0 a1 a0 0 0)) (fin135_0 l0_0 a0 a1 (r135_0 a0 a1 a0 0 0))) := t135_0 (l0_0 := l0_0) (a0 := a0) (a1 := a1) (by assumption) (by assumption) a0 [] 0 rfl; rw [h0] at t; exact t)
  exact cp (by kernel_rfl) (.f f0 (.f f1 (.h 6 (.loop (h135_0 l0_0 a0 a1 0 0) (.exit 0) ⟨[(0, (.one (.bor l0_0 (map b_R a0)))), (1, (.one (.val (.bool a1)))), (5, (.oi w0_0)), (6, (.oi w1_0)), (10, (.one (.val (.bool w2_0))))], []⟩) .nil)))
end Go.Proofs.YtfmkbpiobddhdaaDoor.FoundReward
