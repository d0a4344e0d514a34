/- What the functions compute. -/
import Derived.Test.YtfmkbpiobddhdaaDoorEFoundRewardB
import Derived.KernelRfl
namespace Go.Proofs.YtfmkbpiobddhdaaDoor.FoundReward
open Go Go.Proofs.YtfmkbpiobddhdaaDoor.V
set_option linter.unusedVariables false
set_option linter.unusedSimpArgs false
set_option maxRecDepth 20000
open List (length_replicate length_map length_set length_append length_cons length_nil length_take length_drop take_of_length_le map_take map_drop map_set append_assoc getElem?_map map length take drop getD set)
attribute [local simp] toBR_si fullR_si pureR_si lenB_si lenD_si fromBR_si copy_si toBR_R fullR_R pureR_R lenB_R lenD_R toBR_B fullR_B pureR_B lenB_B lenD_B toBR_i fullR_i pureR_i lenB_i lenD_i fromBR_i copy_i toBR_b fullR_b pureR_b lenB_b lenD_b fromBR_b copy_b toBR_C fullR_C pureR_C lenB_C lenD_C toBR_LsiE fullR_LsiE pureR_LsiE lenB_LsiE lenD_LsiE toBR_Q fullR_Q pureR_Q lenB_Q lenD_Q toBR_s fullR_s pureR_s lenB_s lenD_s fromBR_s copy_s toBR_LiE fullR_LiE pureR_LiE lenB_LiE lenD_LiE strInts_len byteRows_len toBR_y fullR_y pureR_y lenB_y lenD_y fromBR_y copy_y
inductive O68_0 where
 | k0 (w0 : Int) (w1 : Bool)
 | k1 (w0 : Int)
def r68_0 (a0 : K_B) : List K_R → Int → O68_0
 | x0 :: y0, i =>
  if ((m132 a0.f3 i) != 0) = true then (O68_0.k1 (m132 a0.f3 i)) else
  (r68_0 a0 y0 (i + 1) )
 | [], i => (O68_0.k0 i (decide (i < ((length (map b_R a0.f3)) : Int))))
def h68_0 (l0 : Nat) (a0 : K_B) (i : Int)  : St := ⟨[(0, (.bptr l0 [(.val (.int .i64 a0.f0)), (.val (.int .i64 a0.f1)), (.sl (map b_si a0.f2)), (.sl (map b_R a0.f3)), (.sl (map b_si a0.f4)), (.val (.int .i64 a0.f5)), (.val (.int .i64 a0.f6)), (.val (.int .i64 a0.f7))])), (4, (.one (.val (.int .i64 i))))], []⟩
def ex68_0 : O68_0 → VX.Exit
 | .k0 _ _ => (.exit 0)
 | .k1 _ => .ret
def fin68_0 (l0 : Nat) (a0 : K_B) : O68_0 → St
 | .k0 w0 w1 => ⟨[(0, (.bptr l0 [(.val (.int .i64 a0.f0)), (.val (.int .i64 a0.f1)), (.sl (map b_si a0.f2)), (.sl (map b_R a0.f3)), (.sl (map b_si a0.f4)), (.val (.int .i64 a0.f5)), (.val (.int .i64 a0.f6)), (.val (.int .i64 a0.f7))])), (4, (.one (.val (.int .i64 w0)))), (49, (.one (.val (.bool w1))))], []⟩
 | .k1 w0 => ⟨[(2, (.one (.val (.int .i64 w0))))], []⟩
theorem t68_0 {l0 : Nat} {a0 : K_B} (hy0 : length a0.f2 * 24 ≤ 140737488351232) (hy1 : ∀ z ∈ a0.f2, os_si z) (hy2 : length a0.f3 * 56 ≤ 140737488351232) (hy3 : ∀ z ∈ a0.f3, os_R z) (hy4 : length a0.f4 * 24 ≤ 140737488351232) (hy5 : ∀ z ∈ a0.f4, os_si z) : ∀ (y0 : List K_R) (p : List K_R) , p ++ y0 = a0.f3 → Ev F X (.code l68_0 (h68_0 l0 a0 (length p : Int) ) (ex68_0 (r68_0 a0 y0 (length p : Int) )) (fin68_0 l0 a0 (r68_0 a0 y0 (length p : Int) )))
 | [], p, hp0 => by
  have hc : ¬ (decide ((length p : Int) < ((length (map b_R a0.f3)) : Int))) = true := by
   rw [← hp0]; simp only [length_map, length_set, length_append, length_replicate, length_cons, length_nil, decide_eq_true_eq]; omega
  have st := ch b68_0 [(14, .b false)] (h68_0 l0 a0 (length p : Int)) (fin68_0 l0 a0 (.k0 (length p : Int) (decide ((length p : Int) < ((length (map b_R a0.f3)) : Int))))) (.exit 0) 15 [(decide ((length p : Int) < ((length (map b_R a0.f3)) : Int))) = false] (by kernel_rfl) ⟨(nt hc), trivial⟩
  exact .loopX st (show ((.exit 0) : VX.Exit) ≠ .normal from by simp)
 | x0 :: y0, p, hp0 => by
  have hc : (decide ((length p : Int) < ((length (map b_R a0.f3)) : Int))) = true := lt1 hp0
  have Hx0 : (a0.f3)[Int.toNat (length p : Int)]? = some x0 := by
   rw [← hp0, Int.toNat_natCast]; simp
  obtain ⟨Mx0_0, Mx0_1⟩ := hy3 x0 (List.mem_of_getElem? Hx0)
  have hlen : length (a0.f3) = length p + length y0 + 1 := by rw [← hp0]; simp; omega
  have hw : w64 ((length p : Int) + 1) = (length p : Int) + 1 := wrap64 (by omega)
  simp only [r68_0]
  by_cases h_1 : ((m132 a0.f3 (length p : Int)) != 0) = true
  ·try simp only [if_pos h_1]
   have st := ch b68_0 [(14, .b true), (26, .ret [] [(.oi (m132 a0.f3 (length p : Int)))] [] []), (33, .b true)] (h68_0 l0 a0 (length p : Int)) (fin68_0 l0 a0 (.k1 (m132 a0.f3 (length p : Int)))) .ret 38 [(decide ((length p : Int) < ((length (map b_R a0.f3)) : Int))) = true, Ev F X (.call 132 [(.one (.bor (l0 + 1) (map b_R a0.f3))), (.oi (length p : Int))] [] [] [(.oi (m132 a0.f3 (length p : Int)))]), ((m132 a0.f3 (length p : Int)) != 0) = true] (by kernel_rfl) ⟨hc, (e132 (a0 := a0.f3) (a1 := (length p : Int)) (by with_reducible assumption) (by with_reducible assumption) (by omega) (by omega)), h_1, trivial⟩
   exact .loopX st (show (.ret : VX.Exit) ≠ .normal from by simp)
  ·try simp only [if_neg h_1]
   have st := ch b68_0 [(14, .b true), (26, .ret [] [(.oi (m132 a0.f3 (length p : Int)))] [] []), (33, .b false)] (h68_0 l0 a0 (length p : Int)) ⟨[(0, (.bptr l0 [(.i a0.f0), (.i a0.f1), (.sl (map b_si a0.f2)), (.sl (map b_R a0.f3)), (.sl (map b_si a0.f4)), (.i a0.f5), (.i a0.f6), (.i a0.f7)])), (4, (.oi (w64 ((length p : Int) + 1))))], []⟩ .normal 40 [(decide ((length p : Int) < ((length (map b_R a0.f3)) : Int))) = true, Ev F X (.call 132 [(.one (.bor (l0 + 1) (map b_R a0.f3))), (.oi (length p : Int))] [] [] [(.oi (m132 a0.f3 (length p : Int)))]), ((m132 a0.f3 (length p : Int)) != 0) = false, True] (by kernel_rfl) ⟨hc, (e132 (a0 := a0.f3) (a1 := (length p : Int)) (by with_reducible assumption) (by with_reducible assumption) (by omega) (by omega)), (nt h_1), trivial, trivial⟩
   have ih := t68_0 (l0 := l0) (a0 := a0) hy0 hy1 hy2 hy3 hy4 hy5 y0 (p ++ [x0])  (by rw [append_assoc]; exact hp0)
   rw [show ((p ++ [x0]).length : Int) = (p.length : Int) + 1 from by simp] at ih
   replace st := to_ (s' := h68_0 l0 a0 ((length p : Int) + 1) ) st (by unfold h68_0; simp only [hw]; done)
   exact .loopN st ih
def m68 (a0 : K_B) : Int :=
 if (!(m131 a0)) = true then 3 else
 if ((m107 a0.f2) != 0) = true then (m107 a0.f2) else
  if (decide (((length (map b_si a0.f2)) : Int) > a0.f0)) = true then 2 else
   if (decide (((length (map b_R a0.f3)) : Int) > 6)) = true then 2 else
    if (decide (((length (map b_si a0.f4)) : Int) > 8)) = true then 2 else
     (match r68_0 a0 a0.f3 0 with | .k0 w0_19 w1_19 => (if (!(m133 a0.f4)) = true then 1 else if ((w64 ((w64 ((m134 a0.f4) + a0.f6)) + a0.f5)) != (w64 ((m135 a0.f3 true) + a0.f7))) = true then 7 else if (!(m110 (m135 a0.f3 false) 0 1000000)) = true then 7 else 0) | .k1 w0_19 => w0_19)
theorem e68 {l0 : Nat} {a0 : K_B} (hy0 : length a0.f2 * 24 ≤ 140737488351232) (hy1 : ∀ z ∈ a0.f2, os_si z) (hy2 : length a0.f3 * 56 ≤ 140737488351232) (hy3 : ∀ z ∈ a0.f3, os_R z) (hy4 : length a0.f4 * 24 ≤ 140737488351232) (hy5 : ∀ z ∈ a0.f4, os_si z) : Ev F X (.call 68 [(.bptr l0 [(.val (.int .i64 a0.f0)), (.val (.int .i64 a0.f1)), (.sl (map b_si a0.f2)), (.sl (map b_R a0.f3)), (.sl (map b_si a0.f4)), (.val (.int .i64 a0.f5)), (.val (.int .i64 a0.f6)), (.val (.int .i64 a0.f7))])] [] [] [(.one (.val (.int .i64 (m68 a0))))]) := by
 unfold m68
 have f0 := e131 (l0 := l0 + 1) (a0 := a0)
 by_cases h0 : (!(m131 a0)) = true
 ·try simp only [if_pos h0]
  exact cp (by kernel_rfl) (.r 5 [] [] f0 (.f h0 (.y 8 .nil)))
 ·try simp only [if_neg h0]
  have f2 := e107 (l0_0 := l0 + 1) (a0 := a0.f2) (by with_reducible assumption) (by with_reducible assumption)
  by_cases h1 : ((m107 a0.f2) != 0) = true
  ·try simp only [if_pos h1]
   exact cp (by kernel_rfl) (.r 5 [] [] f0 (.g h0 (.z 8 (.r 18 [] [] f2 (.f h1 (.y 25 .nil))))))
  ·try simp only [if_neg h1]
   by_cases h2 : (decide (((length (map b_si a0.f2)) : Int) > a0.f0)) = true
   ·try simp only [if_pos h2]
    exact cp (by kernel_rfl) (.r 5 [] [] f0 (.g h0 (.z 8 (.r 18 [] [] f2 (.g h1 (.m 7 h2 (.z 25 (.y 48 (.y 50 (.y 52 (.y 54 (.y 56 (.y 58 (.y 61 .nil))))))))))))))
   ·try simp only [if_neg h2]
    by_cases h3 : (decide (((length (map b_R a0.f3)) : Int) > 6)) = true
    ·try simp only [if_pos h3]
     exact cp (by kernel_rfl) (.r 5 [] [] f0 (.g h0 (.z 8 (.r 18 [] [] f2 (.g h1 (.n 7 h2 (.m 7 h3 (.z 25 (.z 48 (.z 50 (.z 52 (.z 54 (.z 56 (.z 58 (.z 61 (.y 64 (.y 66 (.y 68 (.y 70 (.y 72 (.y 74 (.y 77 .nil))))))))))))))))))))))
    ·try simp only [if_neg h3]
     by_cases h4 : (decide (((length (map b_si a0.f4)) : Int) > 8)) = true
     ·try simp only [if_pos h4]
      exact cp (by kernel_rfl) (.r 5 [] [] f0 (.g h0 (.z 8 (.r 18 [] [] f2 (.g h1 (.n 7 h2 (.n 7 h3 (.f h4 (.z 25 (.z 48 (.z 50 (.z 52 (.z 54 (.z 56 (.z 58 (.z 61 (.z 64 (.z 66 (.z 68 (.z 70 (.z 72 (.z 74 (.z 77 (.y 78 .nil))))))))))))))))))))))))
     ·try simp only [if_neg h4]
      cases h5 : r68_0 a0 a0.f3 0 with
      | k0 w0_19 w1_19 =>
       try dsimp only
       have f19 : (⟨[(0, (.bptr l0 [(.i a0.f0), (.i a0.f1), (.sl (map b_si a0.f2)), (.sl (map b_R a0.f3)), (.sl (map b_si a0.f4)), (.i a0.f5), (.i a0.f6), (.i a0.f7)])), (4, (.oi 0))], []⟩ : St) = h68_0 l0 a0 0  := (by rfl)
       have f20 : Ev F X (.code l68_0 (h68_0 l0 a0 0 ) (.exit 0) ⟨[(0, (.bptr l0 [(.i a0.f0), (.i a0.f1), (.sl (map b_si a0.f2)), (.sl (map b_R a0.f3)), (.sl (map b_si a0.f4)), (.i a0.f5), (.i a0.f6), (.i a0.f7)])), (4, (.oi w0_19)), (49, (.one (.val (.bool w1_19))))], []⟩) := (by have t : Ev F X (.code l68_0 (h68_0 l0 a0 0 ) (ex68_0 (r68_0 a0 a0.f3 0)) (fin68_0 l0 a0 (r68_0 a0 a0.f3 0))) := t68_0 (l0 := l0) (a0 := a0) (by assumption) (by assumption) (by assumption) (by assumption) (by assumption) (by assumption) a0.f3 []  rfl; rw [h5] at t; exact t)
       have f21 := e133 (l0_0 := l0 + 1) (a0 := a0.f4) (by with_reducible assumption) (by with_reducible assumption)
       by_cases h6 : (!(m133 a0.f4)) = true
       ·try simp only [if_pos h6]
        exact cp (by kernel_rfl) (.r 5 [] [] f0 (.g h0 (.z 8 (.r 18 [] [] f2 (.g h1 (.n 7 h2 (.n 7 h3 (.g h4 (.f f19 (.f f20 (.z 25 (.z 48 (.z 50 (.z 52 (.z 54 (.z 56 (.z 58 (.z 61 (.z 64 (.z 66 (.z 68 (.z 70 (.z 72 (.z 74 (.z 77 (.z 78 (.h 81 (.loop (h68_0 l0 a0 0 ) (.exit 0) ⟨[(0, (.bptr l0 [(.i a0.f0), (.i a0.f1), (.sl (map b_si a0.f2)), (.sl (map b_R a0.f3)), (.sl (map b_si a0.f4)), (.i a0.f5), (.i a0.f6), (.i a0.f7)])), (4, (.oi w0_19)), (49, (.one (.val (.bool w1_19))))], []⟩) (.r 91 [] [] f21 (.f h6 (.y 94 .nil))))))))))))))))))))))))))))))
       ·try simp only [if_neg h6]
        have f23 := e134 (l0_0 := l0 + 1) (a0 := a0.f4) (by with_reducible assumption)
        have f26 := e135 (l0_0 := l0 + 1) (a0 := a0.f3) (a1 := true) (by with_reducible assumption) (by intro z hz; exact os_ok_R z ((by assumption : ∀ z ∈ a0.f3, os_R z) z hz))
        by_cases h7 : ((w64 ((w64 ((m134 a0.f4) + a0.f6)) + a0.f5)) != (w64 ((m135 a0.f3 true) + a0.f7))) = true
        ·try simp only [if_pos h7]
         exact cp (by kernel_rfl) (.r 5 [] [] f0 (.g h0 (.z 8 (.r 18 [] [] f2 (.g h1 (.n 7 h2 (.n 7 h3 (.g h4 (.f f19 (.f f20 (.z 25 (.z 48 (.z 50 (.z 52 (.z 54 (.z 56 (.z 58 (.z 61 (.z 64 (.z 66 (.z 68 (.z 70 (.z 72 (.z 74 (.z 77 (.z 78 (.h 81 (.loop (h68_0 l0 a0 0 ) (.exit 0) ⟨[(0, (.bptr l0 [(.i a0.f0), (.i a0.f1), (.sl (map b_si a0.f2)), (.sl (map b_R a0.f3)), (.sl (map b_si a0.f4)), (.i a0.f5), (.i a0.f6), (.i a0.f7)])), (4, (.oi w0_19)), (49, (.one (.val (.bool w1_19))))], []⟩) (.r 91 [] [] f21 (.g h6 (.z 94 (.r 104 [] [] f23 (.m 2 trivial (.r 134 [] [] f26 (.f trivial (.m 8 h7 (.y 149 (.y 151 (.y 153 (.y 155 (.y 157 (.y 159 (.y 161 (.y 164 .nil)))))))))))))))))))))))))))))))))))))))))))
        ·try simp only [if_neg h7]
         have f33 := e135 (l0_0 := l0 + 1) (a0 := a0.f3) (a1 := false) (by with_reducible assumption) (by intro z hz; exact os_ok_R z ((by assumption : ∀ z ∈ a0.f3, os_R z) z hz))
         have f35 := e115 (a0 := (m135 a0.f3 false))
         by_cases h8 : (!(m110 (m135 a0.f3 false) 0 1000000)) = true
         ·try simp only [if_pos h8]
          exact cp (by kernel_rfl) (.r 5 [] [] f0 (.g h0 (.z 8 (.r 18 [] [] f2 (.g h1 (.n 7 h2 (.n 7 h3 (.g h4 (.f f19 (.f f20 (.z 25 (.z 48 (.z 50 (.z 52 (.z 54 (.z 56 (.z 58 (.z 61 (.z 64 (.z 66 (.z 68 (.z 70 (.z 72 (.z 74 (.z 77 (.z 78 (.h 81 (.loop (h68_0 l0 a0 0 ) (.exit 0) ⟨[(0, (.bptr l0 [(.i a0.f0), (.i a0.f1), (.sl (map b_si a0.f2)), (.sl (map b_R a0.f3)), (.sl (map b_si a0.f4)), (.i a0.f5), (.i a0.f6), (.i a0.f7)])), (4, (.oi w0_19)), (49, (.one (.val (.bool w1_19))))], []⟩) (.r 91 [] [] f21 (.g h6 (.z 94 (.r 104 [] [] f23 (.m 2 trivial (.r 134 [] [] f26 (.f trivial (.n 5 h7 (.z 149 (.z 151 (.z 153 (.z 155 (.z 157 (.r 158 [] [] f33 (.g h7 (.z 159 (.r 160 [] [] f35 (.n 2 h7 (.f h8 (.z 161 (.z 164 (.y 165 .nil)))))))))))))))))))))))))))))))))))))))))))))))))
         ·try simp only [if_neg h8]
          exact cp (by kernel_rfl) (.r 5 [] [] f0 (.g h0 (.z 8 (.r 18 [] [] f2 (.g h1 (.n 7 h2 (.n 7 h3 (.g h4 (.f f19 (.f f20 (.z 25 (.z 48 (.z 50 (.z 52 (.z 54 (.z 56 (.z 58 (.z 61 (.z 64 (.z 66 (.z 68 (.z 70 (.z 72 (.z 74 (.z 77 (.z 78 (.h 81 (.loop (h68_0 l0 a0 0 ) (.exit 0) ⟨[(0, (.bptr l0 [(.i a0.f0), (.i a0.f1), (.sl (map b_si a0.f2)), (.sl (map b_R a0.f3)), (.sl (map b_si a0.f4)), (.i a0.f5), (.i a0.f6), (.i a0.f7)])), (4, (.oi w0_19)), (49, (.one (.val (.bool w1_19))))], []⟩) (.r 91 [] [] f21 (.g h6 (.z 94 (.r 104 [] [] f23 (.m 2 trivial (.r 134 [] [] f26 (.f trivial (.n 5 h7 (.z 149 (.z 151 (.z 153 (.z 155 (.z 157 (.r 158 [] [] f33 (.g h7 (.z 159 (.r 160 [] [] f35 (.n 2 h7 (.g h8 (.z 161 (.z 164 (.z 165 .nil)))))))))))))))))))))))))))))))))))))))))))))))))
      | k1 w0_19 =>
       try dsimp only
       have f19 : (⟨[(0, (.bptr l0 [(.i a0.f0), (.i a0.f1), (.sl (map b_si a0.f2)), (.sl (map b_R a0.f3)), (.sl (map b_si a0.f4)), (.i a0.f5), (.i a0.f6), (.i a0.f7)])), (4, (.oi 0))], []⟩ : St) = h68_0 l0 a0 0  := (by rfl)
       have f20 : Ev F X (.code l68_0 (h68_0 l0 a0 0 ) .ret ⟨[(2, (.oi w0_19))], []⟩) := (by have t : Ev F X (.code l68_0 (h68_0 l0 a0 0 ) (ex68_0 (r68_0 a0 a0.f3 0)) (fin68_0 l0 a0 (r68_0 a0 a0.f3 0))) := t68_0 (l0 := l0) (a0 := a0) (by assumption) (by assumption) (by assumption) (by assumption) (by assumption) (by assumption) a0.f3 []  rfl; rw [h5] at t; exact t)
       exact cp (by kernel_rfl) (.r 5 [] [] f0 (.g h0 (.z 8 (.r 18 [] [] f2 (.g h1 (.n 7 h2 (.n 7 h3 (.g h4 (.f f19 (.f f20 (.z 25 (.z 48 (.z 50 (.z 52 (.z 54 (.z 56 (.z 58 (.z 61 (.z 64 (.z 66 (.z 68 (.z 70 (.z 72 (.z 74 (.z 77 (.z 78 (.h 81 (.loop (h68_0 l0 a0 0 ) .ret ⟨[(2, (.oi w0_19))], []⟩) .nil)))))))))))))))))))))))))))
theorem rl132 {a : List K_R} {i : Int} (h : m132 a i = 0) : (getD a (Int.toNat i) (K_R.mk 0 0 0 [] 0)).f3.length ≤ 12 := by
 unfold m132 at h
 simp only [length_map] at h
 by_cases c : ((getD a (Int.toNat i) (K_R.mk 0 0 0 [] 0)).f3.length : Int) > 12
 ·exfalso
  simp only [c, decide_true, if_true] at h
  (repeat' split at h) <;> simp at h
 ·omega
theorem rz68 (a0 : K_B) : ∀ (l : List K_R) (i : Nat), ((∃ u v, r68_0 a0 l i = .k0 u v) ∧ ∀ j : Nat, j < l.length → m132 a0.f3 ((i + j : Nat) : Int) = 0) ∨ (∃ w, r68_0 a0 l i = .k1 w ∧ w ≠ 0)
 | [], i => .inl ⟨⟨_, _, rfl⟩, fun j hj => by simp at hj⟩
 | x :: l, i => by
  have ih := rz68 a0 l (i + 1)
  simp only [r68_0]
  by_cases c : ((m132 a0.f3 (i : Int)) != 0) = true
  ·rw [if_pos c]; exact .inr ⟨_, rfl, by simpa using c⟩
  ·rw [if_neg c]
   rcases ih with ⟨h1, h2⟩ | h
   ·refine .inl ⟨h1, fun j hj => ?_⟩
    cases j with
    | zero => simpa using c
    | succ j => have := h2 j (by simpa using hj); rw [← this]; congr 1; omega
   ·exact .inr h
theorem fs68 {a0 : K_B} (h : ¬ ((m68 a0) != 0) = true) : a0.f2.length ≤ 12 ∧ a0.f3.length ≤ 6 ∧ (∀ z ∈ a0.f3, z.f3.length ≤ 12) ∧ a0.f4.length ≤ 8 := by
 have h : m68 a0 = 0 := by simpa using h
 unfold m68 at h
 split at h
 ·cases h
 split at h
 ·rename_i h2; rw [h] at h2; simp at h2
 rename_i h2
 split at h
 ·cases h
 split at h
 ·cases h
 rename_i h4
 split at h
 ·cases h
 rename_i h5
 simp only [length_map, decide_eq_true_eq] at h4 h5
 rcases rz68 a0 a0.f3 0 with ⟨_, hz⟩ | ⟨w, hw, hn⟩
 ·refine ⟨len12_107 _ h2, by omega, fun z hz2 => ?_, by omega⟩
  obtain ⟨j, hj⟩ := List.getElem?_of_mem hz2
  have hlt : j < a0.f3.length := by
   have := List.getElem?_eq_some_iff.1 hj; exact this.1
  have := rl132 (hz j hlt)
  rw [Nat.zero_add, Int.toNat_natCast, List.getD_eq_getElem?_getD, hj] at this
  exact this
 ·rw [show ((0 : Nat) : Int) = 0 from rfl] at hw
  rw [hw] at h; exact absurd h hn
theorem rg68 {a0 : K_B} (h : ¬ ((m68 a0) != 0) = true) : 1 ≤ a0.f0 ∧ a0.f0 ≤ 12 := by
 have h : m68 a0 = 0 := by simpa using h
 unfold m68 at h
 by_cases c : m131 a0 = true
 ·unfold m131 at c
  by_cases d : m110 a0.f0 1 12 = true
  ·unfold m110 at d
   split at d <;> simp_all <;> omega
  ·rw [if_neg d] at c; cases c
 ·rw [if_pos (by simpa using c)] at h; cases h
theorem oset {l : List K_R} {i : Nat} {x : K_R} (h : ∀ z ∈ l, z.f3.length ≤ 12) (hx : x.f3.length ≤ 12) : ∀ z ∈ l.set i x, ok_R z := by
 intro z hz
 rcases List.mem_or_eq_of_mem_set hz with hz | rfl
 ·have := h z hz; unfold ok_R; omega
 ·unfold ok_R; omega
theorem oall {l : List K_R} (h : ∀ z ∈ l, z.f3.length ≤ 12) : ∀ z ∈ l, ok_R z := by
 intro z hz; have := h z hz; unfold ok_R; omega
theorem oapp {l : List K_R} {x : K_R} (h : ∀ z ∈ l, z.f3.length ≤ 12) (hx : x.f3.length ≤ 12) : ∀ z ∈ l ++ [x], ok_R z := by
 intro z hz
 rcases List.mem_append.1 hz with hz | hz
 ·have := h z hz; unfold ok_R; omega
 ·cases List.mem_singleton.1 hz; unfold ok_R; omega
theorem oget {l : List K_R} (h : ∀ z ∈ l, z.f3.length ≤ 12) (i : Nat) : (getD l i (K_R.mk 0 0 0 [] 0)).f3.length ≤ 12 := by
 rw [List.getD_eq_getElem?_getD]
 cases h2 : l[i]? with
 | none => simp
 | some x => exact h x (List.mem_of_getElem? h2)
theorem fw68 {a0 : K_B} (h : ¬ ((m68 a0) != 0) = true) : (∀ z ∈ a0.f2, 1 ≤ z.f1 ∧ z.f1 ≤ 9999) ∧ (0 ≤ a0.f1 ∧ a0.f1 ≤ 1000) := by
 have h : m68 a0 = 0 := by simpa using h
 unfold m68 at h
 split at h
 ·cases h
 rename_i h1
 split at h
 ·rename_i h2; rw [h] at h2; simp at h2
 rename_i h2
 refine ⟨wok107 _ h2, ?_⟩
 have hr : m131 a0 = true := by simpa using h1
 unfold m131 at hr
 split at hr
 ·split at hr
  ·rename_i h3; exact jn110 (by rw [h3]; simp)
  ·cases hr
 ·cases hr
def m81 (a0 : Int) : K_C :=
 (K_C.mk a0 0 0 0 [] [] [] 0 0 0)
theorem e81 {a0 : Int} : Ev F X (.call 81 [(.one (.val (.int .i64 a0)))] [] [] [(.agg [(.val (.int .i64 ((K_C.mk a0 0 0 0 [] [] [] 0 0 0).f0))), (.val (.int .i64 ((K_C.mk a0 0 0 0 [] [] [] 0 0 0).f1))), (.val (.int .i64 ((K_C.mk a0 0 0 0 [] [] [] 0 0 0).f2))), (.val (.int .i64 ((K_C.mk a0 0 0 0 [] [] [] 0 0 0).f3))), (.own 2 (map d_si ((K_C.mk a0 0 0 0 [] [] [] 0 0 0).f4))), (.own 5 (map d_R ((K_C.mk a0 0 0 0 [] [] [] 0 0 0).f5))), (.own 2 (map d_si ((K_C.mk a0 0 0 0 [] [] [] 0 0 0).f6))), (.val (.int .i64 ((K_C.mk a0 0 0 0 [] [] [] 0 0 0).f7))), (.val (.int .i64 ((K_C.mk a0 0 0 0 [] [] [] 0 0 0).f8))), (.val (.int .i64 ((K_C.mk a0 0 0 0 [] [] [] 0 0 0).f9)))])]) := by
 have f0 : pureR [] = true := (by trivial)
 have f1 : pureR [] = true := (by with_reducible assumption)
 have f2 : pureR [] = true := (by with_reducible assumption)
 exact cp (by kernel_rfl) (.f f0 (.f f1 (.f f2 .nil)))
inductive O108_0 where
 | k0 (w0 : List K_si) (w1 : Int) (w2 : Bool)
def r108_0 (a0 : (List K_si)) : List K_si → Int → List K_si → O108_0
 | x0 :: y0, i, v0 =>
  if (decide ((m79 v0 x0.f0) ≥ 0)) = true then (r108_0 a0 y0 (i + 1) (set v0 (Int.toNat (m79 v0 x0.f0)) (K_si.mk ((getD v0 (Int.toNat (m79 v0 x0.f0)) (K_si.mk (⟨#[]⟩ : ByteArray) 0)).f0) (w64 (((getD v0 (Int.toNat (m79 v0 x0.f0)) (K_si.mk (⟨#[]⟩ : ByteArray) 0)).f1) + x0.f1))))) else
  (r108_0 a0 y0 (i + 1) (v0 ++ ([x0])))
 | [], i, v0 => (O108_0.k0 v0 i (decide (i < ((length (map b_si a0)) : Int))))
def h108_0 (l0_0 : Nat) (a0 : (List K_si)) (i : Int) (v0 : List K_si) : St := ⟨[(0, (.one (.bor l0_0 (map b_si a0)))), (3, (.one (.ref ⟨(3, 0, 0), [], 0, (length (map d_si v0))⟩))), (4, (.one (.val (.int .i64 i))))], [((3, 0, 0), .live ⟨2, (map d_si v0), []⟩)]⟩
def ex108_0 : O108_0 → VX.Exit
 | .k0 _ _ _ => (.exit 0)
def fin108_0 (l0_0 : Nat) (a0 : (List K_si)) : O108_0 → St
 | .k0 w0 w1 w2 => ⟨[(0, (.one (.bor l0_0 (map b_si a0)))), (3, (.one (.ref ⟨(3, 0, 0), [], 0, (length (map d_si w0))⟩))), (4, (.one (.val (.int .i64 w1)))), (10, (.one (.val (.bool w2))))], [((3, 0, 0), .live ⟨2, (map d_si w0), []⟩)]⟩
theorem t108_0 {l0_0 : Nat} {a0 : (List K_si)} (hy0 : length a0 * 24 ≤ 70368744177664) : ∀ (y0 : List K_si) (p : List K_si) (v0 : List K_si), p ++ y0 = a0 → (length v0 + length y0) * 24 ≤ 70368744177664 → Ev F X (.code l108_0 (h108_0 l0_0 a0 (length p : Int) v0) (ex108_0 (r108_0 a0 y0 (length p : Int) v0)) (fin108_0 l0_0 a0 (r108_0 a0 y0 (length p : Int) v0)))
 | [], p, v0, hp0, hi0 => by
  have hc : ¬ (decide ((length p : Int) < ((length (map b_si a0)) : Int))) = true := by
   rw [← hp0]; simp only [length_map, length_set, length_append, length_replicate, length_cons, length_nil, decide_eq_true_eq]; omega
  have hj0 := hi0; try simp only [length_map, length_set, length_append, length_replicate, length_cons, length_nil, Int.toNat_natCast] at hj0
  have st := ch b108_0 [(8, .b false)] (h108_0 l0_0 a0 (length p : Int) v0) (fin108_0 l0_0 a0 (.k0 v0 (length p : Int) (decide ((length p : Int) < ((length (map b_si a0)) : Int))))) (.exit 0) 9 [(decide ((length p : Int) < ((length (map b_si a0)) : Int))) = false] (by kernel_rfl) ⟨(nt hc), trivial⟩
  exact .loopX st (show ((.exit 0) : VX.Exit) ≠ .normal from by simp)
 | x0 :: y0, p, v0, hp0, hi0 => by
  have hc : (decide ((length p : Int) < ((length (map b_si a0)) : Int))) = true := lt1 hp0
  have Hx0 : (a0)[Int.toNat (length p : Int)]? = some x0 := by
   rw [← hp0, Int.toNat_natCast]; simp
  have hlen : length (a0) = length p + length y0 + 1 := by rw [← hp0]; simp; omega
  have hw : w64 ((length p : Int) + 1) = (length p : Int) + 1 := wrap64 (by omega)
  have hj0 := hi0; try simp only [length_map, length_set, length_append, length_replicate, length_cons, length_nil, Int.toNat_natCast] at hj0
  simp only [r108_0]
  by_cases h_1 : (decide ((m79 v0 x0.f0) ≥ 0)) = true
  ·try simp only [if_pos h_1]
   have st := ch b108_0 [(8, .b true), (16, .row (b_si x0)), (22, .ret [] [(.oi (m79 v0 x0.f0))] [] [(map b_si v0)]), (29, .b true), (43, .rowD [(.val (.string ((getD v0 (Int.toNat (m79 v0 x0.f0)) (K_si.mk (⟨#[]⟩ : ByteArray) 0)).f0))), (.i ((getD v0 (Int.toNat (m79 v0 x0.f0)) (K_si.mk (⟨#[]⟩ : ByteArray) 0)).f1))]), (49, .row (b_si x0)), (61, .rowD [(.val (.string ((getD v0 (Int.toNat (m79 v0 x0.f0)) (K_si.mk (⟨#[]⟩ : ByteArray) 0)).f0))), (.i ((getD v0 (Int.toNat (m79 v0 x0.f0)) (K_si.mk (⟨#[]⟩ : ByteArray) 0)).f1))]), (62, .norm (3, 0, 0) (map d_si (set v0 (Int.toNat (m79 v0 x0.f0)) (K_si.mk ((getD v0 (Int.toNat (m79 v0 x0.f0)) (K_si.mk (⟨#[]⟩ : ByteArray) 0)).f0) (w64 (((getD v0 (Int.toNat (m79 v0 x0.f0)) (K_si.mk (⟨#[]⟩ : ByteArray) 0)).f1) + x0.f1))))))] (h108_0 l0_0 a0 (length p : Int) v0) ⟨[(0, (.one (.bor l0_0 (map b_si a0)))), (3, (.one (.ref ⟨(3, 0, 0), [], 0, (length (map d_si v0))⟩))), (4, (.oi (w64 ((length p : Int) + 1))))], [((3, 0, 0), .live ⟨2, (map d_si (set v0 (Int.toNat (m79 v0 x0.f0)) (K_si.mk ((getD v0 (Int.toNat (m79 v0 x0.f0)) (K_si.mk (⟨#[]⟩ : ByteArray) 0)).f0) (w64 (((getD v0 (Int.toNat (m79 v0 x0.f0)) (K_si.mk (⟨#[]⟩ : ByteArray) 0)).f1) + x0.f1))))), []⟩)]⟩ .normal 69 [(decide ((length p : Int) < ((length (map b_si a0)) : Int))) = true, 0 ≤ (length p : Int), (map b_si a0)[(Int.toNat (length p : Int))]? = some (b_si x0), 0 + (length (map d_si v0)) ≤ (length (map d_si v0)), fullR (take (length (map d_si v0)) (drop 0 (map d_si v0))) = true, toBR (take (length (map d_si v0)) (drop 0 (map d_si v0))) = (map b_si v0), Ev F X (.call 79 [(.one (.bor 0 (map b_si v0))), (.one (.val (.string x0.f0)))] [] [] [(.oi (m79 v0 x0.f0))]), (decide ((m79 v0 x0.f0) ≥ 0)) = true, 0 + (length (map d_si v0)) ≤ (length (map d_si v0)), 0 ≤ (m79 v0 x0.f0) ∧ (m79 v0 x0.f0) < ((length (map d_si v0)) : Int), (map d_si v0)[(0 + (Int.toNat (m79 v0 x0.f0)))]? = some [(.val (.string ((getD v0 (Int.toNat (m79 v0 x0.f0)) (K_si.mk (⟨#[]⟩ : ByteArray) 0)).f0))), (.i ((getD v0 (Int.toNat (m79 v0 x0.f0)) (K_si.mk (⟨#[]⟩ : ByteArray) 0)).f1))], 0 ≤ (length p : Int), (map b_si a0)[(Int.toNat (length p : Int))]? = some (b_si x0), True, 0 + (length (map d_si v0)) ≤ (length (map d_si v0)), 0 ≤ (m79 v0 x0.f0) ∧ (m79 v0 x0.f0) < ((length (map d_si v0)) : Int), (map d_si v0)[(0 + (Int.toNat (m79 v0 x0.f0)))]? = some [(.val (.string ((getD v0 (Int.toNat (m79 v0 x0.f0)) (K_si.mk (⟨#[]⟩ : ByteArray) 0)).f0))), (.i ((getD v0 (Int.toNat (m79 v0 x0.f0)) (K_si.mk (⟨#[]⟩ : ByteArray) 0)).f1))], (set (map d_si v0) (0 + (Int.toNat (m79 v0 x0.f0))) [(.val (.string ((getD v0 (Int.toNat (m79 v0 x0.f0)) (K_si.mk (⟨#[]⟩ : ByteArray) 0)).f0))), (.i (w64 (((getD v0 (Int.toNat (m79 v0 x0.f0)) (K_si.mk (⟨#[]⟩ : ByteArray) 0)).f1) + x0.f1)))]) = (map d_si (set v0 (Int.toNat (m79 v0 x0.f0)) (K_si.mk ((getD v0 (Int.toNat (m79 v0 x0.f0)) (K_si.mk (⟨#[]⟩ : ByteArray) 0)).f0) (w64 (((getD v0 (Int.toNat (m79 v0 x0.f0)) (K_si.mk (⟨#[]⟩ : ByteArray) 0)).f1) + x0.f1))))), True] (by kernel_rfl) ⟨hc, (by omega), (by rw [getElem?_map, Hx0]; rfl), (by omega), (ft_si _ _ _), (tb_si _), (e79 (a0 := v0) (a1 := x0.f0) (by omega)), h_1, (by omega), (by have q := ix79 v0 x0.f0; simp only [decide_eq_true_eq, length_map] at *; omega), (by rw [Nat.zero_add, getElem?_map, getD_at v0 (Int.toNat (m79 v0 x0.f0)) (K_si.mk (⟨#[]⟩ : ByteArray) 0) (by first | exact True.intro | with_reducible rfl | with_reducible assumption | omega | (have q := ix79 v0 x0.f0; simp only [decide_eq_true_eq, length_map] at *; omega) | (unfold m79; (repeat' split) <;> simp_all <;> omega) | (simp only [decide_eq_true_eq] at *; omega) | (simp only [length_map]; omega) | (simp [ol85, ol86, ol27_0, ol27_1, ol27_2, ol28_0, ol28_1, ol28_2]; omega) | (simp [take_of_length_le, ol85, ol86, ol27_0, ol27_1, ol27_2, ol28_0, ol28_1, ol28_2]; done) | assumption | trivial | (simp [*, ol85, ol86, ol27_0, ol27_1, ol27_2, ol28_0, ol28_1, ol28_2, byteRows_eq, ints_y]; done))]; rfl), (by omega), (by rw [getElem?_map, Hx0]; rfl), trivial, (by omega), (by have q := ix79 v0 x0.f0; simp only [decide_eq_true_eq, length_map] at *; omega), (by rw [Nat.zero_add, getElem?_map, getD_at v0 (Int.toNat (m79 v0 x0.f0)) (K_si.mk (⟨#[]⟩ : ByteArray) 0) (by first | exact True.intro | with_reducible rfl | with_reducible assumption | omega | (have q := ix79 v0 x0.f0; simp only [decide_eq_true_eq, length_map] at *; omega) | (unfold m79; (repeat' split) <;> simp_all <;> omega) | (simp only [decide_eq_true_eq] at *; omega) | (simp only [length_map]; omega) | (simp [ol85, ol86, ol27_0, ol27_1, ol27_2, ol28_0, ol28_1, ol28_2]; omega) | (simp [take_of_length_le, ol85, ol86, ol27_0, ol27_1, ol27_2, ol28_0, ol28_1, ol28_2]; done) | assumption | trivial | (simp [*, ol85, ol86, ol27_0, ol27_1, ol27_2, ol28_0, ol28_1, ol28_2, byteRows_eq, ints_y]; done))]; rfl), (by simp [byteRows_eq, ints_y, take_of_length_le, d_si, d_R, d_B, d_i, d_b, d_C, d_LsiE, d_Q, d_s, d_LiE, d_y, fromBR_si, fromBR_i, fromBR_b, fromBR_s, fromBR_y, ol85, ol86, ol27_0, ol27_1, ol27_2, ol28_0, ol28_1, ol28_2]; done), trivial, trivial⟩
   have ih := t108_0 (l0_0 := l0_0) (a0 := a0) hy0 y0 (p ++ [x0]) (set v0 (Int.toNat (m79 v0 x0.f0)) (K_si.mk ((getD v0 (Int.toNat (m79 v0 x0.f0)) (K_si.mk (⟨#[]⟩ : ByteArray) 0)).f0) (w64 (((getD v0 (Int.toNat (m79 v0 x0.f0)) (K_si.mk (⟨#[]⟩ : ByteArray) 0)).f1) + x0.f1)))) (by rw [append_assoc]; exact hp0) (by simp only [length_map, length_set, length_append, length_replicate, length_cons, length_nil]; omega)
   rw [show ((p ++ [x0]).length : Int) = (p.length : Int) + 1 from by simp] at ih
   replace st := to_ (s' := h108_0 l0_0 a0 ((length p : Int) + 1) (set v0 (Int.toNat (m79 v0 x0.f0)) (K_si.mk ((getD v0 (Int.toNat (m79 v0 x0.f0)) (K_si.mk (⟨#[]⟩ : ByteArray) 0)).f0) (w64 (((getD v0 (Int.toNat (m79 v0 x0.f0)) (K_si.mk (⟨#[]⟩ : ByteArray) 0)).f1) + x0.f1))))) st (by unfold h108_0; simp only [hw, length_map, length_set, length_append, length_replicate, length_cons, length_nil]; done)
   exact .loopN st ih
  ·try simp only [if_neg h_1]
   have st := ch b108_0 [(8, .b true), (16, .row (b_si x0)), (22, .ret [] [(.oi (m79 v0 x0.f0))] [] [(map b_si v0)]), (29, .b false), (37, .row (b_si x0)), (43, .b true), (46, .norm (3, 0, 0) (map d_si (v0 ++ ([x0]))))] (h108_0 l0_0 a0 (length p : Int) v0) ⟨[(0, (.one (.bor l0_0 (map b_si a0)))), (3, (.one (.ref ⟨(3, 0, 0), [], 0, (length ((take (length (map d_si v0)) (drop 0 (map d_si v0))) ++ ([[(.val (.string x0.f0)), (.i x0.f1)]] : List (List D))))⟩))), (4, (.oi (w64 ((length p : Int) + 1))))], [((3, 0, 0), .live ⟨2, (map d_si (v0 ++ ([x0]))), []⟩)]⟩ .normal 53 [(decide ((length p : Int) < ((length (map b_si a0)) : Int))) = true, 0 ≤ (length p : Int), (map b_si a0)[(Int.toNat (length p : Int))]? = some (b_si x0), 0 + (length (map d_si v0)) ≤ (length (map d_si v0)), fullR (take (length (map d_si v0)) (drop 0 (map d_si v0))) = true, toBR (take (length (map d_si v0)) (drop 0 (map d_si v0))) = (map b_si v0), Ev F X (.call 79 [(.one (.bor 0 (map b_si v0))), (.one (.val (.string x0.f0)))] [] [] [(.oi (m79 v0 x0.f0))]), (decide ((m79 v0 x0.f0) ≥ 0)) = false, 0 ≤ (length p : Int), (map b_si a0)[(Int.toNat (length p : Int))]? = some (b_si x0), 0 + (length (map d_si v0)) ≤ (length (map d_si v0)), 1 ≤ 1, ((take 1 (drop 0 [[(.val (.string x0.f0)), (.i x0.f1)]])).all fun x => x.all copyable) = true, (length ((take (length (map d_si v0)) (drop 0 (map d_si v0))) ++ ([[(.val (.string x0.f0)), (.i x0.f1)]] : List (List D)))) * 24 ≤ 70368744177664, ∀ r ∈ ([[(.val (.string x0.f0)), (.i x0.f1)]] : List (List D)), r.length = 2, ((take (length (map d_si v0)) (drop 0 (map d_si v0))) ++ ([[(.val (.string x0.f0)), (.i x0.f1)]] : List (List D))) = (map d_si (v0 ++ ([x0]))), True] (by kernel_rfl) ⟨hc, (by omega), (by rw [getElem?_map, Hx0]; rfl), (by omega), (ft_si _ _ _), (tb_si _), (e79 (a0 := v0) (a1 := x0.f0) (by omega)), (nt h_1), (by omega), (by rw [getElem?_map, Hx0]; rfl), (by omega), (by omega), (by trivial), (by simp only [length_map, length_append, length_cons, length_nil, length_take, length_drop]; omega), (by simp [ol85, ol86, ol27_0, ol27_1, ol27_2, ol28_0, ol28_1, ol28_2]; done), (by simp [byteRows_eq, ints_y, take_of_length_le, d_si, d_R, d_B, d_i, d_b, d_C, d_LsiE, d_Q, d_s, d_LiE, d_y, fromBR_si, fromBR_i, fromBR_b, fromBR_s, fromBR_y, ol85, ol86, ol27_0, ol27_1, ol27_2, ol28_0, ol28_1, ol28_2]; done), trivial, trivial⟩
   have ih := t108_0 (l0_0 := l0_0) (a0 := a0) hy0 y0 (p ++ [x0]) (v0 ++ ([x0])) (by rw [append_assoc]; exact hp0) (by simp only [length_map, length_set, length_append, length_replicate, length_cons, length_nil]; omega)
   rw [show ((p ++ [x0]).length : Int) = (p.length : Int) + 1 from by simp] at ih
   replace st := to_ (s' := h108_0 l0_0 a0 ((length p : Int) + 1) (v0 ++ ([x0]))) st (by unfold h108_0; simp [hw, byteRows_eq, ints_y, take_of_length_le, d_si, d_R, d_B, d_i, d_b, d_C, d_LsiE, d_Q, d_s, d_LiE, d_y, fromBR_si, fromBR_i, fromBR_b, fromBR_s, fromBR_y, ol85, ol86, ol27_0, ol27_1, ol27_2, ol28_0, ol28_1, ol28_2]; done)
   exact .loopN st ih
def m108 (a0 : (List K_si)) : (List K_si) :=
 (match r108_0 a0 a0 0 ([]) with | .k0 w0_0 w1_0 w2_0 => w0_0)
theorem e108 {l0_0 : Nat} {a0 : (List K_si)} (hy0 : length a0 * 24 ≤ 70368744177664) : Ev F X (.call 108 [(.one (.bor l0_0 (map b_si a0)))] [] [] [(.one (.own 2 (map d_si (m108 a0))))]) := by
 unfold m108
 cases h0 : r108_0 a0 a0 0 ([]) with
 | k0 w0_0 w1_0 w2_0 =>
  try dsimp only
  have f0 : (⟨[(0, (.one (.bor l0_0 (map b_si a0)))), (3, (.one (.ref ⟨(3, 0, 0), [], 0, 0⟩))), (4, (.oi 0))], [((3, 0, 0), .live ⟨2, [], []⟩)]⟩ : St) = h108_0 l0_0 a0 0 ([]) := (by rfl)
  have f1 : Ev F X (.code l108_0 (h108_0 l0_0 a0 0 ([])) (.exit 0) ⟨[(0, (.one (.bor l0_0 (map b_si a0)))), (3, (.one (.ref ⟨(3, 0, 0), [], 0, (length (map d_si w0_0))⟩))), (4, (.oi w1_0)), (10, (.one (.val (.bool w2_0))))], [((3, 0, 0), .live ⟨2, (map d_si w0_0), []⟩)]⟩) := (by have t : Ev F X (.code l108_0 (h108_0 l0_0 a0 0 ([])) (ex108_0 (r108_0 a0 a0 0 ([]))) (fin108_0 l0_0 a0 (r108_0 a0 a0 0 ([])))) := t108_0 (l0_0 := l0_0) (a0 := a0) (by assumption) a0 [] ([]) rfl (by simp only [length_map, length_set, length_append, length_replicate, length_cons, length_nil]; omega); rw [h0] at t; exact t)
  exact cp (by kernel_rfl) (.f f0 (.f f1 (.e 0 (.e (length (map d_si w0_0)) (.f (pureR_si w0_0) (.h 8 (.loop (h108_0 l0_0 a0 0 ([])) (.exit 0) ⟨[(0, (.one (.bor l0_0 (map b_si a0)))), (3, (.one (.ref ⟨(3, 0, 0), [], 0, (length (map d_si w0_0))⟩))), (4, (.oi w1_0)), (10, (.one (.val (.bool w2_0))))], [((3, 0, 0), .live ⟨2, (map d_si w0_0), []⟩)]⟩) .nil))))))
theorem mlen_r108 (a : List K_si) : ∀ (l : List K_si) (i : Int) (v : List K_si), ∃ w j b, r108_0 a l i v = .k0 w j b ∧ w.length ≤ v.length + l.length
 | [], i, v => ⟨_, _, _, rfl, by simp⟩
 | x :: l, i, v => by
  simp only [r108_0]
  split
  ·obtain ⟨w, j, b, h, h2⟩ := mlen_r108 a l (i + 1) (set v (Int.toNat (m79 v x.f0)) (K_si.mk ((getD v (Int.toNat (m79 v x.f0)) (K_si.mk (⟨#[]⟩ : ByteArray) 0)).f0) (w64 (((getD v (Int.toNat (m79 v x.f0)) (K_si.mk (⟨#[]⟩ : ByteArray) 0)).f1) + x.f1))))
   exact ⟨w, j, b, h, by simp at h2 ⊢; omega⟩
  ·obtain ⟨w, j, b, h, h2⟩ := mlen_r108 a l (i + 1) (v ++ [x])
   exact ⟨w, j, b, h, by simp at h2 ⊢; omega⟩
theorem mlen_108 (a : List K_si) : (m108 a).length ≤ a.length := by
 unfold m108
 obtain ⟨w, j, b, h, h2⟩ := mlen_r108 a a 0 []
 rw [h]; simpa using h2
theorem mne_r108 (a : List K_si) : ∀ (l : List K_si) (i : Int) (v : List K_si) (k : Nat), (∀ z ∈ l, 1 ≤ z.f1 ∧ z.f1 ≤ 9999) → (∀ z ∈ v, 1 ≤ z.f1 ∧ z.f1 ≤ 9999 * (k : Int)) → k + l.length ≤ 1000 → ∃ w j b, r108_0 a l i v = .k0 w j b ∧ v.length ≤ w.length ∧ (0 < l.length → 0 < w.length) ∧ (∀ z ∈ w, 1 ≤ z.f1 ∧ z.f1 ≤ 9999 * ((k + l.length : Nat) : Int))
 | [], i, v, k, _, hv, _ => ⟨v, _, _, rfl, Nat.le_refl _, by simp, by simpa using hv⟩
 | x :: l, i, v, k, hl, hv, hk => by
  have hx := hl x (List.mem_cons_self ..)
  have hl' : ∀ z ∈ l, 1 ≤ z.f1 ∧ z.f1 ≤ 9999 := fun z hz => hl z (List.mem_cons_of_mem _ hz)
  simp only [length_cons] at hk
  simp only [r108_0]
  have q := ix79 v x.f0
  by_cases h : (decide ((m79 v x.f0) ≥ 0)) = true
  ·rw [if_pos h]
   simp only [decide_eq_true_eq] at h
   have hg : getD v (Int.toNat (m79 v x.f0)) (K_si.mk (⟨#[]⟩ : ByteArray) 0) ∈ v := by
    rw [List.getD_eq_getElem?_getD, List.getElem?_eq_getElem (by omega)]; exact List.getElem_mem _
   have hgb := hv _ hg
   obtain ⟨w, j, b, e, h1, h2, h3⟩ := mne_r108 a l (i + 1) (set v (Int.toNat (m79 v x.f0)) (K_si.mk ((getD v (Int.toNat (m79 v x.f0)) (K_si.mk (⟨#[]⟩ : ByteArray) 0)).f0) (w64 (((getD v (Int.toNat (m79 v x.f0)) (K_si.mk (⟨#[]⟩ : ByteArray) 0)).f1) + x.f1)))) (k + 1) hl' (fun z hz => by
    rcases List.mem_or_eq_of_mem_set hz with hz | rfl
    ·have := hv z hz; omega
    ·simp only []
     rw [wrap64 (by omega)]; omega) (by omega)
   refine ⟨w, j, b, e, by simpa using h1, fun _ => ?_, fun z hz => ?_⟩
   ·simp only [length_set] at h1
    have : 0 < v.length := by omega
    omega
   ·have := h3 z hz; simp only [length_cons]; omega
  ·rw [if_neg h]
   obtain ⟨w, j, b, e, h1, h2, h3⟩ := mne_r108 a l (i + 1) (v ++ [x]) (k + 1) hl' (fun z hz => by
    rcases List.mem_append.1 hz with hz | hz
    ·have := hv z hz; omega
    ·rw [List.mem_singleton.1 hz]; omega) (by omega)
   simp only [length_append, length_cons, length_nil] at h1
   refine ⟨w, j, b, e, by omega, fun _ => by omega, fun z hz => ?_⟩
   have := h3 z hz; simp only [length_cons]; omega
theorem mne_108 (a : List K_si) (h : ∀ z ∈ a, 1 ≤ z.f1 ∧ z.f1 ≤ 9999) (hl : a.length ≤ 12) : (0 < a.length → 0 < (m108 a).length) ∧ ∀ z ∈ m108 a, 1 ≤ z.f1 ∧ z.f1 ≤ 119988 := by
 obtain ⟨w, j, b, e, h1, h2, h3⟩ := mne_r108 a a 0 [] 0 h (by simp) (by omega)
 unfold m108
 rw [e]
 refine ⟨h2, fun z hz => ?_⟩
 have := h3 z hz
 omega
inductive O116_0 where
 | k0 (w0 : List K_si) (w1 : List Int) (w2 : Int) (w3 : Int) (w4 : Bool)
def r116_0 (a0 : Int) (a1 : (List K_si)) : List K_si → Int → List K_si → List Int → Int → O116_0
 | x0 :: y0, i, v0, v1, v5 =>
  (r116_0 a0 a1 y0 (i + 1) (v0 ++ ([(K_si.mk x0.f0 (w64 (Int.tdiv (w64 (a0 * x0.f1)) (m134 (m108 a1)))))])) (v1 ++ ([(Int.tmod (w64 (a0 * x0.f1)) (m134 (m108 a1)))])) (w64 (v5 - (w64 (Int.tdiv (w64 (a0 * x0.f1)) (m134 (m108 a1)))))))
 | [], i, v0, v1, v5 => (O116_0.k0 v0 v1 v5 i (decide (i < ((length (map d_si (m108 a1))) : Int))))
def h116_0 (l1_0 : Nat) (a0 : Int) (a1 : (List K_si)) (i : Int) (v0 : List K_si) (v1 : List Int) (v5 : Int) : St := ⟨[(0, (.one (.val (.int .i64 a0)))), (5, (.one (.ref ⟨(5, 0, 0), [], 0, (length (map d_si (m108 a1)))⟩))), (6, (.one (.val (.int .i64 (m134 (m108 a1)))))), (7, (.one (.ref ⟨(7, 0, 0), [], 0, (length (map d_si v0))⟩))), (8, (.one (.ref ⟨(8, 0, 0), [], 0, (length (map d_i v1))⟩))), (9, (.one (.val (.int .i64 v5)))), (10, (.one (.val (.int .i64 i))))], [((5, 0, 0), .live ⟨2, (map d_si (m108 a1)), []⟩), ((7, 0, 0), .live ⟨2, (map d_si v0), []⟩), ((8, 0, 0), .live ⟨1, (map d_i v1), []⟩)]⟩
def ex116_0 : O116_0 → VX.Exit
 | .k0 _ _ _ _ _ => (.exit 0)
def fin116_0 (l1_0 : Nat) (a0 : Int) (a1 : (List K_si)) : O116_0 → St
 | .k0 w0 w1 w2 w3 w4 => ⟨[(0, (.one (.val (.int .i64 a0)))), (5, (.one (.ref ⟨(5, 0, 0), [], 0, (length (map d_si (m108 a1)))⟩))), (6, (.one (.val (.int .i64 (m134 (m108 a1)))))), (7, (.one (.ref ⟨(7, 0, 0), [], 0, (length (map d_si w0))⟩))), (8, (.one (.ref ⟨(8, 0, 0), [], 0, (length (map d_i w1))⟩))), (9, (.one (.val (.int .i64 w2)))), (10, (.one (.val (.int .i64 w3)))), (24, (.one (.val (.bool w4))))], [((5, 0, 0), .live ⟨2, (map d_si (m108 a1)), []⟩), ((7, 0, 0), .live ⟨2, (map d_si w0), []⟩), ((8, 0, 0), .live ⟨1, (map d_i w1), []⟩)]⟩
theorem t116_0 {l1_0 : Nat} {a0 : Int} {a1 : (List K_si)} (hy0 : 0 ≤ a0) (hy1 : a0 ≤ 1000000) (hy2 : 0 < length a1) (hy3 : length a1 ≤ 12) (hy4 : ∀ z ∈ a1, 1 ≤ z.f1 ∧ z.f1 ≤ 9999) : ∀ (y0 : List K_si) (p : List K_si) (v0 : List K_si) (v1 : List Int) (v5 : Int), p ++ y0 = m108 a1 → (length v0 + length y0) * 24 ≤ 70368744177664 → (length v1 + length y0) * 8 ≤ 70368744177664 → Ev F X (.code l116_0 (h116_0 l1_0 a0 a1 (length p : Int) v0 v1 v5) (ex116_0 (r116_0 a0 a1 y0 (length p : Int) v0 v1 v5)) (fin116_0 l1_0 a0 a1 (r116_0 a0 a1 y0 (length p : Int) v0 v1 v5)))
 | [], p, v0, v1, v5, hp0, hi0, hi1 => by
  have hc : ¬ (decide ((length p : Int) < ((length (map d_si (m108 a1))) : Int))) = true := by
   rw [← hp0]; simp only [length_map, length_set, length_append, length_replicate, length_cons, length_nil, decide_eq_true_eq]; omega
  have hj0 := hi0; try simp only [length_map, length_set, length_append, length_replicate, length_cons, length_nil, Int.toNat_natCast] at hj0
  have hj1 := hi1; try simp only [length_map, length_set, length_append, length_replicate, length_cons, length_nil, Int.toNat_natCast] at hj1
  have st := ch b116_0 [(8, .b false)] (h116_0 l1_0 a0 a1 (length p : Int) v0 v1 v5) (fin116_0 l1_0 a0 a1 (.k0 v0 v1 v5 (length p : Int) (decide ((length p : Int) < ((length (map d_si (m108 a1))) : Int))))) (.exit 0) 9 [(decide ((length p : Int) < ((length (map d_si (m108 a1))) : Int))) = false] (by kernel_rfl) ⟨(nt hc), trivial⟩
  exact .loopX st (show ((.exit 0) : VX.Exit) ≠ .normal from by simp)
 | x0 :: y0, p, v0, v1, v5, hp0, hi0, hi1 => by
  have hc : (decide ((length p : Int) < ((length (map d_si (m108 a1))) : Int))) = true := lt1 hp0
  have Hx0 : (m108 a1)[Int.toNat (length p : Int)]? = some x0 := by
   rw [← hp0, Int.toNat_natCast]; simp
  have hlen : length (m108 a1) = length p + length y0 + 1 := by rw [← hp0]; simp; omega
  have hw : w64 ((length p : Int) + 1) = (length p : Int) + 1 := wrap64 (by have hz : length (m108 a1) * 24 ≤ 140737488351232 := (by first | with_reducible assumption | omega | (have q := mlen_108 a1; simp only [length_map, length_nil, Nat.zero_add] at *; omega) | (have q := mlen_108 a1; omega) | (have q1 := mne_108 a1 (by assumption) (by omega); have q2 := mlen_108 a1; have q := (tot_134 (m108 a1) q1.2 (by omega)).1; have q3 := q1.1 (by omega); omega) | (simp only [decide_eq_true_eq, length_map] at *; omega) | (simp only [length_map] at *; omega) | (unfold m108; (repeat' split) <;> simp_all <;> omega) | assumption | (simp only [length_map]; omega) | (simp [ol85, ol86, ol27_0, ol27_1, ol27_2, ol28_0, ol28_1, ol28_2]; omega)); omega)
  have hj0 := hi0; try simp only [length_map, length_set, length_append, length_replicate, length_cons, length_nil, Int.toNat_natCast] at hj0
  have hj1 := hi1; try simp only [length_map, length_set, length_append, length_replicate, length_cons, length_nil, Int.toNat_natCast] at hj1
  simp only [r116_0]
  have st := ch b116_0 [(8, .b true), (20, .rowD (d_si x0)), (40, .rowD (d_si x0)), (48, .b true), (51, .norm (7, 0, 0) (map d_si (v0 ++ ([(K_si.mk x0.f0 (w64 (Int.tdiv (w64 (a0 * x0.f1)) (m134 (m108 a1)))))])))), (65, .rowD (d_si x0)), (75, .b true), (78, .norm (8, 0, 0) (map d_i (v1 ++ ([(Int.tmod (w64 (a0 * x0.f1)) (m134 (m108 a1)))]))))] (h116_0 l1_0 a0 a1 (length p : Int) v0 v1 v5) ⟨[(0, (.oi a0)), (5, (.one (.ref ⟨(5, 0, 0), [], 0, (length (map d_si (m108 a1)))⟩))), (6, (.oi (m134 (m108 a1)))), (7, (.one (.ref ⟨(7, 0, 0), [], 0, (length ((take (length (map d_si v0)) (drop 0 (map d_si v0))) ++ ([[(.val (.string x0.f0)), (.i (w64 (Int.tdiv (w64 (a0 * x0.f1)) (m134 (m108 a1)))))]] : List (List D))))⟩))), (8, (.one (.ref ⟨(8, 0, 0), [], 0, (length ((take (length (map d_i v1)) (drop 0 (map d_i v1))) ++ ([[(.i (Int.tmod (w64 (a0 * x0.f1)) (m134 (m108 a1))))]] : List (List D))))⟩))), (9, (.oi (w64 (v5 - (w64 (Int.tdiv (w64 (a0 * x0.f1)) (m134 (m108 a1)))))))), (10, (.oi (w64 ((length p : Int) + 1))))], [((5, 0, 0), .live ⟨2, (map d_si (m108 a1)), []⟩), ((7, 0, 0), .live ⟨2, (map d_si (v0 ++ ([(K_si.mk x0.f0 (w64 (Int.tdiv (w64 (a0 * x0.f1)) (m134 (m108 a1)))))]))), []⟩), ((8, 0, 0), .live ⟨1, (map d_i (v1 ++ ([(Int.tmod (w64 (a0 * x0.f1)) (m134 (m108 a1)))]))), []⟩)]⟩ .normal 93 [(decide ((length p : Int) < ((length (map d_si (m108 a1))) : Int))) = true, 0 + (length (map d_si (m108 a1))) ≤ (length (map d_si (m108 a1))), 0 ≤ (length p : Int) ∧ (length p : Int) < ((length (map d_si (m108 a1))) : Int), (map d_si (m108 a1))[(0 + (Int.toNat (length p : Int)))]? = some [(.val (.string x0.f0)), (.i x0.f1)], (m134 (m108 a1)) ≠ 0, 0 + (length (map d_si (m108 a1))) ≤ (length (map d_si (m108 a1))), 0 ≤ (length p : Int) ∧ (length p : Int) < ((length (map d_si (m108 a1))) : Int), (map d_si (m108 a1))[(0 + (Int.toNat (length p : Int)))]? = some [(.val (.string x0.f0)), (.i x0.f1)], 0 + (length (map d_si v0)) ≤ (length (map d_si v0)), 1 ≤ 1, ((take 1 (drop 0 [[(.val (.string x0.f0)), (.i (w64 (Int.tdiv (w64 (a0 * x0.f1)) (m134 (m108 a1)))))]])).all fun x => x.all copyable) = true, (length ((take (length (map d_si v0)) (drop 0 (map d_si v0))) ++ ([[(.val (.string x0.f0)), (.i (w64 (Int.tdiv (w64 (a0 * x0.f1)) (m134 (m108 a1)))))]] : List (List D)))) * 24 ≤ 70368744177664, ∀ r ∈ ([[(.val (.string x0.f0)), (.i (w64 (Int.tdiv (w64 (a0 * x0.f1)) (m134 (m108 a1)))))]] : List (List D)), r.length = 2, ((take (length (map d_si v0)) (drop 0 (map d_si v0))) ++ ([[(.val (.string x0.f0)), (.i (w64 (Int.tdiv (w64 (a0 * x0.f1)) (m134 (m108 a1)))))]] : List (List D))) = (map d_si (v0 ++ ([(K_si.mk x0.f0 (w64 (Int.tdiv (w64 (a0 * x0.f1)) (m134 (m108 a1)))))]))), 0 + (length (map d_si (m108 a1))) ≤ (length (map d_si (m108 a1))), 0 ≤ (length p : Int) ∧ (length p : Int) < ((length (map d_si (m108 a1))) : Int), (map d_si (m108 a1))[(0 + (Int.toNat (length p : Int)))]? = some [(.val (.string x0.f0)), (.i x0.f1)], (m134 (m108 a1)) ≠ 0, 0 + (length (map d_i v1)) ≤ (length (map d_i v1)), 1 ≤ 1, ((take 1 (drop 0 [[(.i (Int.tmod (w64 (a0 * x0.f1)) (m134 (m108 a1))))]])).all fun x => x.all copyable) = true, (length ((take (length (map d_i v1)) (drop 0 (map d_i v1))) ++ ([[(.i (Int.tmod (w64 (a0 * x0.f1)) (m134 (m108 a1))))]] : List (List D)))) * 8 ≤ 70368744177664, ∀ r ∈ ([[(.i (Int.tmod (w64 (a0 * x0.f1)) (m134 (m108 a1))))]] : List (List D)), r.length = 1, ((take (length (map d_i v1)) (drop 0 (map d_i v1))) ++ ([[(.i (Int.tmod (w64 (a0 * x0.f1)) (m134 (m108 a1))))]] : List (List D))) = (map d_i (v1 ++ ([(Int.tmod (w64 (a0 * x0.f1)) (m134 (m108 a1)))]))), True] (by kernel_rfl) ⟨hc, (by omega), (by have q := mlen_108 a1; simp only [length_map, length_nil, Nat.zero_add] at *; omega), (by rw [Nat.zero_add, getElem?_map, Hx0]; rfl), (by have q1 := mne_108 a1 (by assumption) (by omega); have q2 := mlen_108 a1; have q := (tot_134 (m108 a1) q1.2 (by omega)).1; have q3 := q1.1 (by omega); omega), (by omega), (by have q := mlen_108 a1; simp only [length_map, length_nil, Nat.zero_add] at *; omega), (by rw [Nat.zero_add, getElem?_map, Hx0]; rfl), (by omega), (by omega), (by trivial), (by unfold m134 m108; (repeat' split) <;> simp_all <;> omega), (by unfold m134 m108; (repeat' split) <;> simp_all <;> omega), (by simp [byteRows_eq, ints_y, take_of_length_le, d_si, d_R, d_B, d_i, d_b, d_C, d_LsiE, d_Q, d_s, d_LiE, d_y, fromBR_si, fromBR_i, fromBR_b, fromBR_s, fromBR_y, ol85, ol86, ol27_0, ol27_1, ol27_2, ol28_0, ol28_1, ol28_2]; done), (by omega), (by have q := mlen_108 a1; simp only [length_map, length_nil, Nat.zero_add] at *; omega), (by rw [Nat.zero_add, getElem?_map, Hx0]; rfl), (by have q1 := mne_108 a1 (by assumption) (by omega); have q2 := mlen_108 a1; have q := (tot_134 (m108 a1) q1.2 (by omega)).1; have q3 := q1.1 (by omega); omega), (by omega), (by omega), (by trivial), (by unfold m134 m108; (repeat' split) <;> simp_all <;> omega), (by unfold m134 m108; (repeat' split) <;> simp_all <;> omega), (by simp [byteRows_eq, ints_y, take_of_length_le, d_si, d_R, d_B, d_i, d_b, d_C, d_LsiE, d_Q, d_s, d_LiE, d_y, fromBR_si, fromBR_i, fromBR_b, fromBR_s, fromBR_y, ol85, ol86, ol27_0, ol27_1, ol27_2, ol28_0, ol28_1, ol28_2]; done), trivial, trivial⟩
  have ih := t116_0 (l1_0 := l1_0) (a0 := a0) (a1 := a1) hy0 hy1 hy2 hy3 hy4 y0 (p ++ [x0]) (v0 ++ ([(K_si.mk x0.f0 (w64 (Int.tdiv (w64 (a0 * x0.f1)) (m134 (m108 a1)))))])) (v1 ++ ([(Int.tmod (w64 (a0 * x0.f1)) (m134 (m108 a1)))])) (w64 (v5 - (w64 (Int.tdiv (w64 (a0 * x0.f1)) (m134 (m108 a1)))))) (by rw [append_assoc]; exact hp0) (by simp only [length_map, length_set, length_append, length_replicate, length_cons, length_nil]; omega) (by simp only [length_map, length_set, length_append, length_replicate, length_cons, length_nil]; omega)
  rw [show ((p ++ [x0]).length : Int) = (p.length : Int) + 1 from by simp] at ih
  replace st := to_ (s' := h116_0 l1_0 a0 a1 ((length p : Int) + 1) (v0 ++ ([(K_si.mk x0.f0 (w64 (Int.tdiv (w64 (a0 * x0.f1)) (m134 (m108 a1)))))])) (v1 ++ ([(Int.tmod (w64 (a0 * x0.f1)) (m134 (m108 a1)))])) (w64 (v5 - (w64 (Int.tdiv (w64 (a0 * x0.f1)) (m134 (m108 a1))))))) st (by unfold h116_0; simp [hw, byteRows_eq, ints_y, take_of_length_le, d_si, d_R, d_B, d_i, d_b, d_C, d_LsiE, d_Q, d_s, d_LiE, d_y, fromBR_si, fromBR_i, fromBR_b, fromBR_s, fromBR_y, ol85, ol86, ol27_0, ol27_1, ol27_2, ol28_0, ol28_1, ol28_2]; done)
  exact .loopN st ih
def post116_0 (n0 n1 : Nat) : O116_0 → Prop
 | .k0 w0 w1 _ _ _ => length w0 = n0 ∧ length w1 = n1
theorem z116_0 {a0 : Int} {a1 : (List K_si)} : ∀ (y0 : List K_si) (i : Int) (v0 : List K_si) (v1 : List Int) (v5 : Int), post116_0 (length v0 + length y0) (length v1 + length y0) (r116_0 a0 a1 y0 i v0 v1 v5)
 | [], i, v0, v1, v5 => by
  first | trivial | (simp only [post116_0, length_nil, Nat.add_zero]; done) | (simp [post116_0]; done)
 | x0 :: y0, i, v0, v1, v5 => by
  simp only [r116_0]
  have z := z116_0 (a0 := a0) (a1 := a1) y0 (i + 1) (v0 ++ ([(K_si.mk x0.f0 (w64 (Int.tdiv (w64 (a0 * x0.f1)) (m134 (m108 a1)))))])) (v1 ++ ([(Int.tmod (w64 (a0 * x0.f1)) (m134 (m108 a1)))])) (w64 (v5 - (w64 (Int.tdiv (w64 (a0 * x0.f1)) (m134 (m108 a1))))))
  rw [show (length v0 + length (x0 :: y0)) = (length (v0 ++ ([(K_si.mk x0.f0 (w64 (Int.tdiv (w64 (a0 * x0.f1)) (m134 (m108 a1)))))])) + length y0) from by first | omega | (simp only [length_map, length_set, length_append, length_replicate, length_cons, length_nil]; done) | (simp only [length_map, length_set, length_append, length_replicate, length_cons, length_nil]; omega), show (length v1 + length (x0 :: y0)) = (length (v1 ++ ([(Int.tmod (w64 (a0 * x0.f1)) (m134 (m108 a1)))])) + length y0) from by first | omega | (simp only [length_map, length_set, length_append, length_replicate, length_cons, length_nil]; done) | (simp only [length_map, length_set, length_append, length_replicate, length_cons, length_nil]; omega)]
  exact z
theorem left_116 (a0 : Int) (a1 : List K_si) : ∀ (l : List K_si) (i : Int) (v0 : List K_si) (v1 : List Int) (v4 : Int), v4 ≤ 9223372036854775807 → ∀ w0 w1 w2 w3 w4, r116_0 a0 a1 l i v0 v1 v4 = .k0 w0 w1 w2 w3 w4 → w2 ≤ 9223372036854775807
 | [], i, v0, v1, v4, h, w0, w1, w2, w3, w4, e => by
  simp only [r116_0] at e
  injection e with e0 e1 e2 e3 e4
  omega
 | x :: l, i, v0, v1, v4, h, w0, w1, w2, w3, w4, e => by
  simp only [r116_0] at e
  exact left_116 a0 a1 l (i + 1) _ _ _ (wrap64_range _).2 w0 w1 w2 w3 w4 e
inductive O116_2 where
 | k0 (w0 : Int) (w1 : Int) (w2 : Bool)
def r116_2 (c1_116_2 : List Int) (c4_116_2 : List Int) : Nat → Int → Int → O116_2
 | n + 1, v0, v1 =>
  if (decide (v1 < ((length (map d_i c1_116_2)) : Int))) = true then (if (decide ((getD c4_116_2 (Int.toNat v1) 0) > (getD c4_116_2 (Int.toNat v0) 0))) = true then (r116_2 c1_116_2 c4_116_2 n v1 (w64 (v1 + 1))) else
   (r116_2 c1_116_2 c4_116_2 n v0 (w64 (v1 + 1)))) else
  (O116_2.k0 v0 v1 (decide (v1 < ((length (map d_i c1_116_2)) : Int))))
 | 0, v0, v1 => (O116_2.k0 v0 v1 (decide (v1 < ((length (map d_i c1_116_2)) : Int))))
def h116_2 (l1_0 : Nat) (a0 : Int) (a1 : (List K_si)) (c2_116_1 : Int) (c0_116_2 : List K_si) (c1_116_2 : List Int) (c2_116_2 : Int) (c3_116_2 : List K_si) (c4_116_2 : List Int) (v0 : Int) (v1 : Int) : St := ⟨[(7, (.one (.ref ⟨(7, 0, 0), [], 0, (length (map d_si c0_116_2))⟩))), (8, (.one (.ref ⟨(8, 0, 0), [], 0, (length (map d_i c1_116_2))⟩))), (9, (.one (.val (.int .i64 c2_116_2)))), (12, (.one (.val (.int .i64 v0)))), (13, (.one (.val (.int .i64 v1))))], [((7, 0, 0), .live ⟨2, (map d_si c3_116_2), []⟩), ((8, 0, 0), .live ⟨1, (map d_i c4_116_2), []⟩)]⟩
def ex116_2 : O116_2 → VX.Exit
 | .k0 _ _ _ => (.exit 4)
def fin116_2 (l1_0 : Nat) (a0 : Int) (a1 : (List K_si)) (c2_116_1 : Int) (c0_116_2 : List K_si) (c1_116_2 : List Int) (c2_116_2 : Int) (c3_116_2 : List K_si) (c4_116_2 : List Int) : O116_2 → St
 | .k0 w0 w1 w2 => ⟨[(7, (.one (.ref ⟨(7, 0, 0), [], 0, (length (map d_si c0_116_2))⟩))), (8, (.one (.ref ⟨(8, 0, 0), [], 0, (length (map d_i c1_116_2))⟩))), (9, (.one (.val (.int .i64 c2_116_2)))), (12, (.one (.val (.int .i64 w0)))), (13, (.one (.val (.int .i64 w1)))), (68, (.one (.val (.bool w2))))], [((7, 0, 0), .live ⟨2, (map d_si c3_116_2), []⟩), ((8, 0, 0), .live ⟨1, (map d_i c4_116_2), []⟩)]⟩
theorem t116_2 {l1_0 : Nat} {a0 : Int} {a1 : (List K_si)} {c2_116_1 : Int} {c0_116_2 : List K_si} {c1_116_2 : List Int} {c2_116_2 : Int} {c3_116_2 : List K_si} {c4_116_2 : List Int} (hy0 : length c0_116_2 ≤ 140737488351232) (hy1 : length c1_116_2 ≤ 140737488351232) (hy2 : length c3_116_2 ≤ 140737488351232) (hy3 : length c4_116_2 ≤ 140737488351232) : ∀ (n : Nat) (v0 : Int) (v1 : Int), 0 ≤ v1 → ((length (map d_i c1_116_2)) : Int) ≤ 9223372036854775807 → 0 ≤ v0 → v0 < (length c4_116_2 : Int) → length c4_116_2 = length c1_116_2 → length c4_116_2 ≤ 1000 → Int.toNat (((length (map d_i c1_116_2)) : Int) - v1) ≤ n → Ev F X (.code l116_2 (h116_2 l1_0 a0 a1 c2_116_1 c0_116_2 c1_116_2 c2_116_2 c3_116_2 c4_116_2 v0 v1) (ex116_2 (r116_2 c1_116_2 c4_116_2 n v0 v1)) (fin116_2 l1_0 a0 a1 c2_116_1 c0_116_2 c1_116_2 c2_116_2 c3_116_2 c4_116_2 (r116_2 c1_116_2 c4_116_2 n v0 v1)))
 | 0, v0, v1, hi0, hi1, hi2, hi3, hi4, hi5, hn => by
  have hc : ¬ (decide (v1 < ((length (map d_i c1_116_2)) : Int))) = true := by first | (exact fuel64_zero hn) | (simp only [decide_eq_true_eq] at *; omega) | (simp at *; omega)
  have st := codeP_ok (F := F) (X := X) (c := b116_2) (t := 0) (σ := h116_2 l1_0 a0 a1 c2_116_1 c0_116_2 c1_116_2 c2_116_2 c3_116_2 c4_116_2 v0 v1) (σ' := ⟨[(7, (.one (.ref ⟨(7, 0, 0), [], 0, (length (map d_si c0_116_2))⟩))), (8, (.one (.ref ⟨(8, 0, 0), [], 0, (length (map d_i c1_116_2))⟩))), (9, (.oi c2_116_2)), (12, (.oi v0)), (13, (.oi v1)), (68, (.one (.val (.bool (decide (v1 < ((length (map d_i c1_116_2)) : Int)))))))], [((7, 0, 0), .live ⟨2, (map d_si c3_116_2), []⟩), ((8, 0, 0), .live ⟨1, (map d_i c4_116_2), []⟩)]⟩) (e := (.exit 4)) (t' := 9) (by kernel_rfl) (.g hc (.z 8 .nil))
  replace st := to_ (s' := fin116_2 l1_0 a0 a1 c2_116_1 c0_116_2 c1_116_2 c2_116_2 c3_116_2 c4_116_2 (.k0 v0 v1 (decide (v1 < ((length (map d_i c1_116_2)) : Int))))) st (by rfl)
  exact .loopX st (show ((.exit 4) : VX.Exit) ≠ .normal from by simp)
 | n + 1, v0, v1, hi0, hi1, hi2, hi3, hi4, hi5, hn => by
  simp only [r116_2]
  by_cases h_0 : (decide (v1 < ((length (map d_i c1_116_2)) : Int))) = true
  ·try simp only [if_pos h_0]
   have f1 : 0 + (length (map d_i c1_116_2)) ≤ (length (map d_i c4_116_2)) := (by have q := mlen_108 a1; simp only [length_map, length_nil, Nat.zero_add] at *; omega)
   have f2 : 0 ≤ v1 ∧ v1 < ((length (map d_i c1_116_2)) : Int) := (by simp only [decide_eq_true_eq, length_map] at *; omega)
   have f3 : (map d_i c4_116_2)[(0 + (Int.toNat v1))]? = some [(.val (.int .i64 (getD c4_116_2 (Int.toNat v1) 0)))] := (by rw [Nat.zero_add, getElem?_map, getD_at c4_116_2 (Int.toNat v1) 0 (by first | exact True.intro | with_reducible rfl | with_reducible assumption | omega | (have q := mlen_108 a1; simp only [length_map, length_nil, Nat.zero_add] at *; omega) | (have q := mlen_108 a1; omega) | (have q1 := mne_108 a1 (by assumption) (by omega); have q2 := mlen_108 a1; have q := (tot_134 (m108 a1) q1.2 (by omega)).1; have q3 := q1.1 (by omega); omega) | (simp only [decide_eq_true_eq, length_map] at *; omega) | (simp only [length_map] at *; omega) | (simp only [decide_eq_true_eq] at *; omega) | (simp only [length_map]; omega) | (simp [ol85, ol86, ol27_0, ol27_1, ol27_2, ol28_0, ol28_1, ol28_2]; omega) | (simp [take_of_length_le, ol85, ol86, ol27_0, ol27_1, ol27_2, ol28_0, ol28_1, ol28_2]; done) | assumption | trivial | (simp [*, ol85, ol86, ol27_0, ol27_1, ol27_2, ol28_0, ol28_1, ol28_2, byteRows_eq, ints_y]; done))]; rfl)
   have f4 : 0 + (length (map d_i c1_116_2)) ≤ (length (map d_i c4_116_2)) := (by with_reducible assumption)
   have f5 : 0 ≤ v0 ∧ v0 < ((length (map d_i c1_116_2)) : Int) := (by have q := mlen_108 a1; simp only [length_map, length_nil, Nat.zero_add] at *; omega)
   have f6 : (map d_i c4_116_2)[(0 + (Int.toNat v0))]? = some [(.val (.int .i64 (getD c4_116_2 (Int.toNat v0) 0)))] := (by rw [Nat.zero_add, getElem?_map, getD_at c4_116_2 (Int.toNat v0) 0 (by first | exact True.intro | with_reducible rfl | with_reducible assumption | omega | (have q := mlen_108 a1; simp only [length_map, length_nil, Nat.zero_add] at *; omega) | (have q := mlen_108 a1; omega) | (have q1 := mne_108 a1 (by assumption) (by omega); have q2 := mlen_108 a1; have q := (tot_134 (m108 a1) q1.2 (by omega)).1; have q3 := q1.1 (by omega); omega) | (simp only [decide_eq_true_eq, length_map] at *; omega) | (simp only [length_map] at *; omega) | (simp only [decide_eq_true_eq] at *; omega) | (simp only [length_map]; omega) | (simp [ol85, ol86, ol27_0, ol27_1, ol27_2, ol28_0, ol28_1, ol28_2]; omega) | (simp [take_of_length_le, ol85, ol86, ol27_0, ol27_1, ol27_2, ol28_0, ol28_1, ol28_2]; done) | assumption | trivial | (simp [*, ol85, ol86, ol27_0, ol27_1, ol27_2, ol28_0, ol28_1, ol28_2, byteRows_eq, ints_y]; done))]; rfl)
   by_cases h_1 : (decide ((getD c4_116_2 (Int.toNat v1) 0) > (getD c4_116_2 (Int.toNat v0) 0))) = true
   ·try simp only [if_pos h_1]
    have st := codeP_ok (F := F) (X := X) (c := b116_2) (t := 0) (σ := h116_2 l1_0 a0 a1 c2_116_1 c0_116_2 c1_116_2 c2_116_2 c3_116_2 c4_116_2 v0 v1) (σ' := ⟨[(7, (.one (.ref ⟨(7, 0, 0), [], 0, (length (map d_si c0_116_2))⟩))), (8, (.one (.ref ⟨(8, 0, 0), [], 0, (length (map d_i c1_116_2))⟩))), (9, (.oi c2_116_2)), (12, (.oi v1)), (13, (.oi (w64 (v1 + 1))))], [((7, 0, 0), .live ⟨2, (map d_si c3_116_2), []⟩), ((8, 0, 0), .live ⟨1, (map d_i c4_116_2), []⟩)]⟩) (e := .normal) (t' := 38) (by kernel_rfl) (.f h_0 (.f f1 (.f f2 (.f f3 (.f f4 (.f f5 (.f f6 (.f h_1 (.f trivial (.y 8 (.h 16 (.rowD [(.i (getD c4_116_2 (Int.toNat v1) 0))]) (.h 24 (.rowD [(.i (getD c4_116_2 (Int.toNat v0) 0))]) (.y 27 .nil)))))))))))))
    have ih := t116_2 (l1_0 := l1_0) (a0 := a0) (a1 := a1) (c2_116_1 := c2_116_1) (c0_116_2 := c0_116_2) (c1_116_2 := c1_116_2) (c2_116_2 := c2_116_2) (c3_116_2 := c3_116_2) (c4_116_2 := c4_116_2) hy0 hy1 hy2 hy3 n v1 (w64 (v1 + 1)) (by rw [wrap64 (by simp only [decide_eq_true_eq] at *; omega)]; omega) (by assumption) (by assumption) (by simp only [decide_eq_true_eq, length_map] at *; omega) (by assumption) (by assumption) (by rw [wrap64 (by simp only [decide_eq_true_eq] at *; omega)]; simp only [decide_eq_true_eq] at *; omega)
    replace st := to_ (s' := h116_2 l1_0 a0 a1 c2_116_1 c0_116_2 c1_116_2 c2_116_2 c3_116_2 c4_116_2 v1 (w64 (v1 + 1))) st (by rfl)
    exact .loopN st ih
   ·try simp only [if_neg h_1]
    have st := codeP_ok (F := F) (X := X) (c := b116_2) (t := 0) (σ := h116_2 l1_0 a0 a1 c2_116_1 c0_116_2 c1_116_2 c2_116_2 c3_116_2 c4_116_2 v0 v1) (σ' := ⟨[(7, (.one (.ref ⟨(7, 0, 0), [], 0, (length (map d_si c0_116_2))⟩))), (8, (.one (.ref ⟨(8, 0, 0), [], 0, (length (map d_i c1_116_2))⟩))), (9, (.oi c2_116_2)), (12, (.oi v0)), (13, (.oi (w64 (v1 + 1))))], [((7, 0, 0), .live ⟨2, (map d_si c3_116_2), []⟩), ((8, 0, 0), .live ⟨1, (map d_i c4_116_2), []⟩)]⟩) (e := .normal) (t' := 34) (by kernel_rfl) (.f h_0 (.f f1 (.f f2 (.f f3 (.f f4 (.f f5 (.f f6 (.g h_1 (.f trivial (.y 8 (.h 16 (.rowD [(.i (getD c4_116_2 (Int.toNat v1) 0))]) (.h 24 (.rowD [(.i (getD c4_116_2 (Int.toNat v0) 0))]) (.z 27 .nil)))))))))))))
    have ih := t116_2 (l1_0 := l1_0) (a0 := a0) (a1 := a1) (c2_116_1 := c2_116_1) (c0_116_2 := c0_116_2) (c1_116_2 := c1_116_2) (c2_116_2 := c2_116_2) (c3_116_2 := c3_116_2) (c4_116_2 := c4_116_2) hy0 hy1 hy2 hy3 n v0 (w64 (v1 + 1)) (by rw [wrap64 (by simp only [decide_eq_true_eq] at *; omega)]; omega) (by assumption) (by assumption) (by assumption) (by assumption) (by assumption) (by rw [wrap64 (by simp only [decide_eq_true_eq] at *; omega)]; simp only [decide_eq_true_eq] at *; omega)
    replace st := to_ (s' := h116_2 l1_0 a0 a1 c2_116_1 c0_116_2 c1_116_2 c2_116_2 c3_116_2 c4_116_2 v0 (w64 (v1 + 1))) st (by rfl)
    exact .loopN st ih
  ·try simp only [if_neg h_0]
   have st := codeP_ok (F := F) (X := X) (c := b116_2) (t := 0) (σ := h116_2 l1_0 a0 a1 c2_116_1 c0_116_2 c1_116_2 c2_116_2 c3_116_2 c4_116_2 v0 v1) (σ' := ⟨[(7, (.one (.ref ⟨(7, 0, 0), [], 0, (length (map d_si c0_116_2))⟩))), (8, (.one (.ref ⟨(8, 0, 0), [], 0, (length (map d_i c1_116_2))⟩))), (9, (.oi c2_116_2)), (12, (.oi v0)), (13, (.oi v1)), (68, (.one (.val (.bool (decide (v1 < ((length (map d_i c1_116_2)) : Int)))))))], [((7, 0, 0), .live ⟨2, (map d_si c3_116_2), []⟩), ((8, 0, 0), .live ⟨1, (map d_i c4_116_2), []⟩)]⟩) (e := (.exit 4)) (t' := 9) (by kernel_rfl) (.g h_0 (.z 8 .nil))
   replace st := to_ (s' := fin116_2 l1_0 a0 a1 c2_116_1 c0_116_2 c1_116_2 c2_116_2 c3_116_2 c4_116_2 (.k0 v0 v1 (decide (v1 < ((length (map d_i c1_116_2)) : Int))))) st (by rfl)
   exact .loopX st (show ((.exit 4) : VX.Exit) ≠ .normal from by simp)
def post116_2 (a0 : Int) (a1 : (List K_si)) (c2_116_1 : Int) (c0_116_2 : List K_si) (c1_116_2 : List Int) (c2_116_2 : Int) (c3_116_2 : List K_si) (c4_116_2 : List Int) : O116_2 → Prop
 | .k0 w0 _ _ => 0 ≤ w0 ∧ w0 < (length c4_116_2 : Int)
theorem z116_2 {a0 : Int} {a1 : (List K_si)} {c2_116_1 : Int} {c0_116_2 : List K_si} {c1_116_2 : List Int} {c2_116_2 : Int} {c3_116_2 : List K_si} {c4_116_2 : List Int} (hy0 : length c0_116_2 ≤ 140737488351232) (hy1 : length c1_116_2 ≤ 140737488351232) (hy2 : length c3_116_2 ≤ 140737488351232) (hy3 : length c4_116_2 ≤ 140737488351232) : ∀ (n : Nat) (v0 : Int) (v1 : Int), 0 ≤ v1 → ((length (map d_i c1_116_2)) : Int) ≤ 9223372036854775807 → 0 ≤ v0 → v0 < (length c4_116_2 : Int) → length c4_116_2 = length c1_116_2 → length c4_116_2 ≤ 1000 → post116_2 a0 a1 c2_116_1 c0_116_2 c1_116_2 c2_116_2 c3_116_2 c4_116_2 (r116_2 c1_116_2 c4_116_2 n v0 v1)
 | 0, v0, v1, hi0, hi1, hi2, hi3, hi4, hi5 => by
  simp only [r116_2]
  first | trivial | (show _ ; simp only [post116_2]; omega) | (simp only [post116_2] at *; omega) | (simp only [decide_eq_true_eq, length_map] at *; omega) | (rw [wrap64 (by simp only [decide_eq_true_eq] at *; omega)]; omega) | (simp only [decide_eq_true_eq] at *; omega)
 | n + 1, v0, v1, hi0, hi1, hi2, hi3, hi4, hi5 => by
  simp only [r116_2]
  by_cases h_0 : (decide (v1 < ((length (map d_i c1_116_2)) : Int))) = true
  ·try simp only [if_pos h_0]
   by_cases h_1 : (decide ((getD c4_116_2 (Int.toNat v1) 0) > (getD c4_116_2 (Int.toNat v0) 0))) = true
   ·try simp only [if_pos h_1]
    exact z116_2 (a0 := a0) (a1 := a1) (c2_116_1 := c2_116_1) (c0_116_2 := c0_116_2) (c1_116_2 := c1_116_2) (c2_116_2 := c2_116_2) (c3_116_2 := c3_116_2) (c4_116_2 := c4_116_2) hy0 hy1 hy2 hy3 n v1 (w64 (v1 + 1)) (by rw [wrap64 (by simp only [decide_eq_true_eq] at *; omega)]; omega) (by assumption) (by assumption) (by simp only [decide_eq_true_eq, length_map] at *; omega) (by assumption) (by assumption)
   ·try simp only [if_neg h_1]
    exact z116_2 (a0 := a0) (a1 := a1) (c2_116_1 := c2_116_1) (c0_116_2 := c0_116_2) (c1_116_2 := c1_116_2) (c2_116_2 := c2_116_2) (c3_116_2 := c3_116_2) (c4_116_2 := c4_116_2) hy0 hy1 hy2 hy3 n v0 (w64 (v1 + 1)) (by rw [wrap64 (by simp only [decide_eq_true_eq] at *; omega)]; omega) (by assumption) (by assumption) (by assumption) (by assumption) (by assumption)
  ·try simp only [if_neg h_0]
   first | trivial | (show _ ; simp only [post116_2]; omega) | (simp only [post116_2] at *; omega) | (simp only [decide_eq_true_eq, length_map] at *; omega) | (rw [wrap64 (by simp only [decide_eq_true_eq] at *; omega)]; omega) | (simp only [decide_eq_true_eq] at *; omega)
inductive O116_1 where
 | k0 (w0 : List K_si) (w1 : List Int) (w2 : Int) (w3 : Bool)
def r116_1 (c1_116_1 : List Int) : Nat → Int → List K_si → List Int → O116_1
 | n + 1, i, v0, v1 =>
  (match r116_2 c1_116_1 v1 (Int.toNat (((length (map d_i c1_116_1)) : Int) - 1)) 0 1 with | .k0 w0_1 w1_1 w2_1 => (r116_1 c1_116_1 n (i - 1) (set v0 (Int.toNat w0_1) (K_si.mk ((getD v0 (Int.toNat w0_1) (K_si.mk (⟨#[]⟩ : ByteArray) 0)).f0) (w64 (((getD v0 (Int.toNat w0_1) (K_si.mk (⟨#[]⟩ : ByteArray) 0)).f1) + 1)))) (set v1 (Int.toNat w0_1) (-1))))
 | 0, i, v0, v1 => (O116_1.k0 v0 v1 i (decide (i > 0)))
def h116_1 (l1_0 : Nat) (a0 : Int) (a1 : (List K_si)) (c0_116_1 : List K_si) (c1_116_1 : List Int) (c2_116_1 : Int) (i : Int) (v0 : List K_si) (v1 : List Int) : St := ⟨[(7, (.one (.ref ⟨(7, 0, 0), [], 0, (length (map d_si c0_116_1))⟩))), (8, (.one (.ref ⟨(8, 0, 0), [], 0, (length (map d_i c1_116_1))⟩))), (9, (.one (.val (.int .i64 i))))], [((7, 0, 0), .live ⟨2, (map d_si v0), []⟩), ((8, 0, 0), .live ⟨1, (map d_i v1), []⟩)]⟩
def ex116_1 : O116_1 → VX.Exit
 | .k0 _ _ _ _ => (.exit 2)
def fin116_1 (l1_0 : Nat) (a0 : Int) (a1 : (List K_si)) (c0_116_1 : List K_si) (c1_116_1 : List Int) (c2_116_1 : Int) : O116_1 → St
 | .k0 w0 w1 w2 w3 => ⟨[(7, (.one (.ref ⟨(7, 0, 0), [], 0, (length (map d_si c0_116_1))⟩))), (8, (.one (.ref ⟨(8, 0, 0), [], 0, (length (map d_i c1_116_1))⟩))), (9, (.one (.val (.int .i64 w2)))), (62, (.one (.val (.bool w3))))], [((7, 0, 0), .live ⟨2, (map d_si w0), []⟩), ((8, 0, 0), .live ⟨1, (map d_i w1), []⟩)]⟩
theorem t116_1 {l1_0 : Nat} {a0 : Int} {a1 : (List K_si)} {c0_116_1 : List K_si} {c1_116_1 : List Int} {c2_116_1 : Int} (hy0 : 0 ≤ a0) (hy1 : a0 ≤ 1000000) (hy2 : 0 < length a1) (hy3 : length a1 ≤ 12) (hy4 : ∀ z ∈ a1, 1 ≤ z.f1 ∧ z.f1 ≤ 9999) (hy5 : length c0_116_1 ≤ 140737488351232) (hy6 : length c1_116_1 ≤ 140737488351232) : ∀ (n : Nat) (i : Int) (v0 : List K_si) (v1 : List Int), n = Int.toNat i → length v0 = (length (map d_si c0_116_1)) → length v1 = (length (map d_i c1_116_1)) → i ≤ 9223372036854775807 → length v0 = length v1 → 1 ≤ length v1 → length v1 ≤ 1000 → Ev F X (.code l116_1 (h116_1 l1_0 a0 a1 c0_116_1 c1_116_1 c2_116_1 i v0 v1) (ex116_1 (r116_1 c1_116_1 n i v0 v1)) (fin116_1 l1_0 a0 a1 c0_116_1 c1_116_1 c2_116_1 (r116_1 c1_116_1 n i v0 v1)))
 | 0, i, v0, v1, hn, hi0, hi1, hi2, hi3, hi4, hi5 => by
  have hc : ¬ (decide (i > 0)) = true := by
   simp only [decide_eq_true_eq]; omega
  have st := ch b116_1 [(4, .b false)] (h116_1 l1_0 a0 a1 c0_116_1 c1_116_1 c2_116_1 i v0 v1) (fin116_1 l1_0 a0 a1 c0_116_1 c1_116_1 c2_116_1 (.k0 v0 v1 i (decide (i > 0)))) (.exit 2) 5 [(decide (i > 0)) = false] (by kernel_rfl) ⟨(nt hc), trivial⟩
  exact .loopX st (show ((.exit 2) : VX.Exit) ≠ .normal from by simp)
 | n + 1, i, v0, v1, hn, hi0, hi1, hi2, hi3, hi4, hi5 => by
  have hc : (decide (i > 0)) = true := by
   simp only [decide_eq_true_eq]; omega
  have hw : w64 (i - 1) = i - 1 := wrap64 (by omega)
  have hj0 := hi0; try simp only [length_map, length_set, length_append, length_replicate, length_cons, length_nil, Int.toNat_natCast] at hj0
  have hj1 := hi1; try simp only [length_map, length_set, length_append, length_replicate, length_cons, length_nil, Int.toNat_natCast] at hj1
  have hj2 := hi2; try simp only [length_map, length_set, length_append, length_replicate, length_cons, length_nil, Int.toNat_natCast] at hj2
  have hj3 := hi3; try simp only [length_map, length_set, length_append, length_replicate, length_cons, length_nil, Int.toNat_natCast] at hj3
  have hj4 := hi4; try simp only [length_map, length_set, length_append, length_replicate, length_cons, length_nil, Int.toNat_natCast] at hj4
  have hj5 := hi5; try simp only [length_map, length_set, length_append, length_replicate, length_cons, length_nil, Int.toNat_natCast] at hj5
  simp only [r116_1]
  cases h_1 : r116_2 c1_116_1 v1 (Int.toNat (((length (map d_i c1_116_1)) : Int) - 1)) 0 1 with
  | k0 w0_1 w1_1 w2_1 =>
   try dsimp only
   have zh_116_1_1 := z116_2 (a0 := a0) (a1 := a1) (c2_116_1 := c2_116_1) (c0_116_2 := c0_116_1) (c1_116_2 := c1_116_1) (c2_116_2 := i) (c3_116_2 := v0) (c4_116_2 := v1) (by assumption) (by assumption) (by omega) (by omega) (Int.toNat (((length (map d_i c1_116_1)) : Int) - 1)) 0 1 (by omega) (by omega) (by omega) (by omega) (by omega) (by omega); rw [h_1] at zh_116_1_1; simp only [post116_2] at zh_116_1_1
   have st := ch b116_1 [(4, .b true), (9, .loop (h116_2 l1_0 a0 a1 c2_116_1 c0_116_1 c1_116_1 i v0 v1 0 1) (.exit 4) ⟨[(7, (.one (.ref ⟨(7, 0, 0), [], 0, (length (map d_si c0_116_1))⟩))), (8, (.one (.ref ⟨(8, 0, 0), [], 0, (length (map d_i c1_116_1))⟩))), (9, (.oi i)), (12, (.oi w0_1)), (13, (.oi w1_1)), (68, (.one (.val (.bool w2_1))))], [((7, 0, 0), .live ⟨2, (map d_si v0), []⟩), ((8, 0, 0), .live ⟨1, (map d_i v1), []⟩)]⟩), (19, .rowD [(.val (.string ((getD v0 (Int.toNat w0_1) (K_si.mk (⟨#[]⟩ : ByteArray) 0)).f0))), (.i ((getD v0 (Int.toNat w0_1) (K_si.mk (⟨#[]⟩ : ByteArray) 0)).f1))]), (27, .rowD [(.val (.string ((getD v0 (Int.toNat w0_1) (K_si.mk (⟨#[]⟩ : ByteArray) 0)).f0))), (.i ((getD v0 (Int.toNat w0_1) (K_si.mk (⟨#[]⟩ : ByteArray) 0)).f1))]), (28, .norm (7, 0, 0) (map d_si (set v0 (Int.toNat w0_1) (K_si.mk ((getD v0 (Int.toNat w0_1) (K_si.mk (⟨#[]⟩ : ByteArray) 0)).f0) (w64 (((getD v0 (Int.toNat w0_1) (K_si.mk (⟨#[]⟩ : ByteArray) 0)).f1) + 1)))))), (36, .rowD [(.i (getD v1 (Int.toNat w0_1) 0))]), (37, .norm (8, 0, 0) (map d_i (set v1 (Int.toNat w0_1) (-1))))] (h116_1 l1_0 a0 a1 c0_116_1 c1_116_1 c2_116_1 i v0 v1) ⟨[(7, (.one (.ref ⟨(7, 0, 0), [], 0, (length (map d_si c0_116_1))⟩))), (8, (.one (.ref ⟨(8, 0, 0), [], 0, (length (map d_i c1_116_1))⟩))), (9, (.oi (w64 (i - 1))))], [((7, 0, 0), .live ⟨2, (map d_si (set v0 (Int.toNat w0_1) (K_si.mk ((getD v0 (Int.toNat w0_1) (K_si.mk (⟨#[]⟩ : ByteArray) 0)).f0) (w64 (((getD v0 (Int.toNat w0_1) (K_si.mk (⟨#[]⟩ : ByteArray) 0)).f1) + 1))))), []⟩), ((8, 0, 0), .live ⟨1, (map d_i (set v1 (Int.toNat w0_1) (-1))), []⟩)]⟩ .normal 44 [(decide (i > 0)) = true, (⟨[(7, (.one (.ref ⟨(7, 0, 0), [], 0, (length (map d_si c0_116_1))⟩))), (8, (.one (.ref ⟨(8, 0, 0), [], 0, (length (map d_i c1_116_1))⟩))), (9, (.oi i)), (12, (.oi 0)), (13, (.oi 1))], [((7, 0, 0), .live ⟨2, (map d_si v0), []⟩), ((8, 0, 0), .live ⟨1, (map d_i v1), []⟩)]⟩ : St) = h116_2 l1_0 a0 a1 c2_116_1 c0_116_1 c1_116_1 i v0 v1 0 1, Ev F X (.code l116_2 (h116_2 l1_0 a0 a1 c2_116_1 c0_116_1 c1_116_1 i v0 v1 0 1) (.exit 4) ⟨[(7, (.one (.ref ⟨(7, 0, 0), [], 0, (length (map d_si c0_116_1))⟩))), (8, (.one (.ref ⟨(8, 0, 0), [], 0, (length (map d_i c1_116_1))⟩))), (9, (.oi i)), (12, (.oi w0_1)), (13, (.oi w1_1)), (68, (.one (.val (.bool w2_1))))], [((7, 0, 0), .live ⟨2, (map d_si v0), []⟩), ((8, 0, 0), .live ⟨1, (map d_i v1), []⟩)]⟩), 0 + (length (map d_si c0_116_1)) ≤ (length (map d_si v0)), 0 ≤ w0_1 ∧ w0_1 < ((length (map d_si c0_116_1)) : Int), (map d_si v0)[(0 + (Int.toNat w0_1))]? = some [(.val (.string ((getD v0 (Int.toNat w0_1) (K_si.mk (⟨#[]⟩ : ByteArray) 0)).f0))), (.i ((getD v0 (Int.toNat w0_1) (K_si.mk (⟨#[]⟩ : ByteArray) 0)).f1))], True, 0 + (length (map d_si c0_116_1)) ≤ (length (map d_si v0)), 0 ≤ w0_1 ∧ w0_1 < ((length (map d_si c0_116_1)) : Int), (map d_si v0)[(0 + (Int.toNat w0_1))]? = some [(.val (.string ((getD v0 (Int.toNat w0_1) (K_si.mk (⟨#[]⟩ : ByteArray) 0)).f0))), (.i ((getD v0 (Int.toNat w0_1) (K_si.mk (⟨#[]⟩ : ByteArray) 0)).f1))], (set (map d_si v0) (0 + (Int.toNat w0_1)) [(.val (.string ((getD v0 (Int.toNat w0_1) (K_si.mk (⟨#[]⟩ : ByteArray) 0)).f0))), (.i (w64 (((getD v0 (Int.toNat w0_1) (K_si.mk (⟨#[]⟩ : ByteArray) 0)).f1) + 1)))]) = (map d_si (set v0 (Int.toNat w0_1) (K_si.mk ((getD v0 (Int.toNat w0_1) (K_si.mk (⟨#[]⟩ : ByteArray) 0)).f0) (w64 (((getD v0 (Int.toNat w0_1) (K_si.mk (⟨#[]⟩ : ByteArray) 0)).f1) + 1))))), 0 + (length (map d_i c1_116_1)) ≤ (length (map d_i v1)), 0 ≤ w0_1 ∧ w0_1 < ((length (map d_i c1_116_1)) : Int), (map d_i v1)[(0 + (Int.toNat w0_1))]? = some [(.i (getD v1 (Int.toNat w0_1) 0))], (set (map d_i v1) (0 + (Int.toNat w0_1)) [(.i (-1))]) = (map d_i (set v1 (Int.toNat w0_1) (-1)))] (by kernel_rfl) ⟨hc, (by rfl), (by have t : Ev F X (.code l116_2 (h116_2 l1_0 a0 a1 c2_116_1 c0_116_1 c1_116_1 i v0 v1 0 1) (ex116_2 (r116_2 c1_116_1 v1 (Int.toNat (((length (map d_i c1_116_1)) : Int) - 1)) 0 1)) (fin116_2 l1_0 a0 a1 c2_116_1 c0_116_1 c1_116_1 i v0 v1 (r116_2 c1_116_1 v1 (Int.toNat (((length (map d_i c1_116_1)) : Int) - 1)) 0 1))) := t116_2 (l1_0 := l1_0) (a0 := a0) (a1 := a1) (c2_116_1 := c2_116_1) (c0_116_2 := c0_116_1) (c1_116_2 := c1_116_1) (c2_116_2 := i) (c3_116_2 := v0) (c4_116_2 := v1) (by assumption) (by assumption) (by omega) (by omega) (Int.toNat (((length (map d_i c1_116_1)) : Int) - 1)) 0 1  (by omega) (by omega) (by omega) (by omega) (by omega) (by omega) (Nat.le_refl _); rw [h_1] at t; exact t), (by have q := mlen_108 a1; simp only [length_map, length_nil, Nat.zero_add] at *; omega), (by omega), (by rw [Nat.zero_add, getElem?_map, getD_at v0 (Int.toNat w0_1) (K_si.mk (⟨#[]⟩ : ByteArray) 0) (by first | exact True.intro | with_reducible rfl | with_reducible assumption | omega | (have q := mlen_108 a1; simp only [length_map, length_nil, Nat.zero_add] at *; omega) | (have q := mlen_108 a1; omega) | (have q1 := mne_108 a1 (by assumption) (by omega); have q2 := mlen_108 a1; have q := (tot_134 (m108 a1) q1.2 (by omega)).1; have q3 := q1.1 (by omega); omega) | (simp only [decide_eq_true_eq, length_map] at *; omega) | (simp only [length_map] at *; omega) | (simp only [decide_eq_true_eq] at *; omega) | (simp only [length_map]; omega) | (simp [ol85, ol86, ol27_0, ol27_1, ol27_2, ol28_0, ol28_1, ol28_2]; omega) | (simp [take_of_length_le, ol85, ol86, ol27_0, ol27_1, ol27_2, ol28_0, ol28_1, ol28_2]; done) | assumption | trivial | (simp [*, ol85, ol86, ol27_0, ol27_1, ol27_2, ol28_0, ol28_1, ol28_2, byteRows_eq, ints_y]; done))]; rfl), trivial, (by have q := mlen_108 a1; simp only [length_map, length_nil, Nat.zero_add] at *; omega), (by omega), (by rw [Nat.zero_add, getElem?_map, getD_at v0 (Int.toNat w0_1) (K_si.mk (⟨#[]⟩ : ByteArray) 0) (by first | exact True.intro | with_reducible rfl | with_reducible assumption | omega | (have q := mlen_108 a1; simp only [length_map, length_nil, Nat.zero_add] at *; omega) | (have q := mlen_108 a1; omega) | (have q1 := mne_108 a1 (by assumption) (by omega); have q2 := mlen_108 a1; have q := (tot_134 (m108 a1) q1.2 (by omega)).1; have q3 := q1.1 (by omega); omega) | (simp only [decide_eq_true_eq, length_map] at *; omega) | (simp only [length_map] at *; omega) | (simp only [decide_eq_true_eq] at *; omega) | (simp only [length_map]; omega) | (simp [ol85, ol86, ol27_0, ol27_1, ol27_2, ol28_0, ol28_1, ol28_2]; omega) | (simp [take_of_length_le, ol85, ol86, ol27_0, ol27_1, ol27_2, ol28_0, ol28_1, ol28_2]; done) | assumption | trivial | (simp [*, ol85, ol86, ol27_0, ol27_1, ol27_2, ol28_0, ol28_1, ol28_2, byteRows_eq, ints_y]; done))]; rfl), (by simp [byteRows_eq, ints_y, take_of_length_le, d_si, d_R, d_B, d_i, d_b, d_C, d_LsiE, d_Q, d_s, d_LiE, d_y, fromBR_si, fromBR_i, fromBR_b, fromBR_s, fromBR_y, ol85, ol86, ol27_0, ol27_1, ol27_2, ol28_0, ol28_1, ol28_2]; done), (by have q := mlen_108 a1; simp only [length_map, length_nil, Nat.zero_add] at *; omega), (by omega), (by rw [Nat.zero_add, getElem?_map, getD_at v1 (Int.toNat w0_1) 0 (by first | exact True.intro | with_reducible rfl | with_reducible assumption | omega | (have q := mlen_108 a1; simp only [length_map, length_nil, Nat.zero_add] at *; omega) | (have q := mlen_108 a1; omega) | (have q1 := mne_108 a1 (by assumption) (by omega); have q2 := mlen_108 a1; have q := (tot_134 (m108 a1) q1.2 (by omega)).1; have q3 := q1.1 (by omega); omega) | (simp only [decide_eq_true_eq, length_map] at *; omega) | (simp only [length_map] at *; omega) | (simp only [decide_eq_true_eq] at *; omega) | (simp only [length_map]; omega) | (simp [ol85, ol86, ol27_0, ol27_1, ol27_2, ol28_0, ol28_1, ol28_2]; omega) | (simp [take_of_length_le, ol85, ol86, ol27_0, ol27_1, ol27_2, ol28_0, ol28_1, ol28_2]; done) | assumption | trivial | (simp [*, ol85, ol86, ol27_0, ol27_1, ol27_2, ol28_0, ol28_1, ol28_2, byteRows_eq, ints_y]; done))]; rfl), (by simp [byteRows_eq, ints_y, take_of_length_le, d_si, d_R, d_B, d_i, d_b, d_C, d_LsiE, d_Q, d_s, d_LiE, d_y, fromBR_si, fromBR_i, fromBR_b, fromBR_s, fromBR_y, ol85, ol86, ol27_0, ol27_1, ol27_2, ol28_0, ol28_1, ol28_2]; done), trivial⟩
   have ih := t116_1 (l1_0 := l1_0) (a0 := a0) (a1 := a1) (c0_116_1 := c0_116_1) (c1_116_1 := c1_116_1) (c2_116_1 := c2_116_1) hy0 hy1 hy2 hy3 hy4 hy5 hy6 n (i - 1) (set v0 (Int.toNat w0_1) (K_si.mk ((getD v0 (Int.toNat w0_1) (K_si.mk (⟨#[]⟩ : ByteArray) 0)).f0) (w64 (((getD v0 (Int.toNat w0_1) (K_si.mk (⟨#[]⟩ : ByteArray) 0)).f1) + 1)))) (set v1 (Int.toNat w0_1) (-1)) (by omega) (by simp only [length_map, length_set, length_append, length_replicate, length_cons, length_nil]; omega) (by simp only [length_map, length_set, length_append, length_replicate, length_cons, length_nil]; omega) (by omega) (by simp only [length_map, length_set, length_append, length_replicate, length_cons, length_nil]; omega) (by simp only [length_map, length_set, length_append, length_replicate, length_cons, length_nil]; omega) (by simp only [length_map, length_set, length_append, length_replicate, length_cons, length_nil]; omega)
   replace st := to_ (s' := h116_1 l1_0 a0 a1 c0_116_1 c1_116_1 c2_116_1 (i - 1) (set v0 (Int.toNat w0_1) (K_si.mk ((getD v0 (Int.toNat w0_1) (K_si.mk (⟨#[]⟩ : ByteArray) 0)).f0) (w64 (((getD v0 (Int.toNat w0_1) (K_si.mk (⟨#[]⟩ : ByteArray) 0)).f1) + 1)))) (set v1 (Int.toNat w0_1) (-1))) st (by unfold h116_1; simp only [hw]; done)
   exact .loopN st ih
def post116_1 (n0 n1 : Nat) : O116_1 → Prop
 | .k0 w0 w1 _ _ => length w0 = n0 ∧ length w1 = n1
theorem z116_1 {c1_116_1 : List Int} : ∀ (n : Nat) (i : Int) (v0 : List K_si) (v1 : List Int), post116_1 (length v0) (length v1) (r116_1 c1_116_1 n i v0 v1)
 | 0, i, v0, v1 => by
  first | trivial | (simp only [post116_1, length_nil, Nat.add_zero]; done) | (simp [post116_1]; done)
 | n + 1, i, v0, v1 => by
  simp only [r116_1]
  cases h_1 : r116_2 c1_116_1 v1 (Int.toNat (((length (map d_i c1_116_1)) : Int) - 1)) 0 1 with
  | k0 w0_1 w1_1 w2_1 =>
   try dsimp only
   have z := z116_1 (c1_116_1 := c1_116_1) n (i - 1) (set v0 (Int.toNat w0_1) (K_si.mk ((getD v0 (Int.toNat w0_1) (K_si.mk (⟨#[]⟩ : ByteArray) 0)).f0) (w64 (((getD v0 (Int.toNat w0_1) (K_si.mk (⟨#[]⟩ : ByteArray) 0)).f1) + 1)))) (set v1 (Int.toNat w0_1) (-1))
   rw [show (length v0) = (length (set v0 (Int.toNat w0_1) (K_si.mk ((getD v0 (Int.toNat w0_1) (K_si.mk (⟨#[]⟩ : ByteArray) 0)).f0) (w64 (((getD v0 (Int.toNat w0_1) (K_si.mk (⟨#[]⟩ : ByteArray) 0)).f1) + 1))))) from by first | omega | (simp only [length_map, length_set, length_append, length_replicate, length_cons, length_nil]; done) | (simp only [length_map, length_set, length_append, length_replicate, length_cons, length_nil]; omega), show (length v1) = (length (set v1 (Int.toNat w0_1) (-1))) from by first | omega | (simp only [length_map, length_set, length_append, length_replicate, length_cons, length_nil]; done) | (simp only [length_map, length_set, length_append, length_replicate, length_cons, length_nil]; omega)]
   exact z
def m116 (a0 : Int) (a1 : (List K_si)) : (List K_si) :=
 (match r116_0 a0 a1 (m108 a1) 0 ([]) ([]) a0 with | .k0 w0_2 w1_2 w2_2 w3_2 w4_2 => (match r116_1 w1_2 (Int.toNat w2_2) w2_2 w0_2 w1_2 with | .k0 w0_3 w1_3 w2_3 w3_3 => w0_3))
theorem e116 {a0 : Int} {l1_0 : Nat} {a1 : (List K_si)} (hy0 : 0 ≤ a0) (hy1 : a0 ≤ 1000000) (hy2 : 0 < length a1) (hy3 : length a1 ≤ 12) (hy4 : ∀ z ∈ a1, 1 ≤ z.f1 ∧ z.f1 ≤ 9999) : Ev F X (.call 116 [(.one (.val (.int .i64 a0))), (.one (.bor l1_0 (map b_si a1)))] [] [] [(.one (.own 2 (map d_si (m116 a0 a1))))]) := by
 unfold m116
 have f0 := e108 (l0_0 := l1_0 + 1) (a0 := a1) (by omega)
 have f1 : 0 + (length (map d_si (m108 a1))) ≤ (length (map d_si (m108 a1))) := (by omega)
 have f2 : fullR (take (length (map d_si (m108 a1))) (drop 0 (map d_si (m108 a1)))) = true := (ft_si _ _ _)
 have f3 : toBR (take (length (map d_si (m108 a1))) (drop 0 (map d_si (m108 a1)))) = (map b_si (m108 a1)) := (tb_si _)
 have f4 := e134 (l0_0 := 0) (a0 := (m108 a1)) (by have q := mlen_108 a1; simp only [length_map, length_nil, Nat.zero_add] at *; omega)
 cases h0 : r116_0 a0 a1 (m108 a1) 0 ([]) ([]) a0 with
 | k0 w0_2 w1_2 w2_2 w3_2 w4_2 =>
  try dsimp only
  have zh0 := z116_0 (a0 := a0) (a1 := a1) (m108 a1) 0 ([]) ([]) a0; rw [h0] at zh0; simp only [post116_0, length_map, length_set, length_append, length_replicate, length_cons, length_nil, Int.toNat_natCast] at zh0; have qh0 := left_116 a0 a1 _ _ _ _ _ (by omega) _ _ _ _ _ h0
  have f5 : (⟨[(0, (.oi a0)), (5, (.one (.ref ⟨(5, 0, 0), [], 0, (length (map d_si (m108 a1)))⟩))), (6, (.oi (m134 (m108 a1)))), (7, (.one (.ref ⟨(7, 0, 0), [], 0, 0⟩))), (8, (.one (.ref ⟨(8, 0, 0), [], 0, 0⟩))), (9, (.oi a0)), (10, (.oi 0))], [((5, 0, 0), .live ⟨2, (map d_si (m108 a1)), []⟩), ((7, 0, 0), .live ⟨2, [], []⟩), ((8, 0, 0), .live ⟨1, [], []⟩)]⟩ : St) = h116_0 l1_0 a0 a1 0 ([]) ([]) a0 := (by rfl)
  have f6 : Ev F X (.code l116_0 (h116_0 l1_0 a0 a1 0 ([]) ([]) a0) (.exit 0) ⟨[(0, (.oi a0)), (5, (.one (.ref ⟨(5, 0, 0), [], 0, (length (map d_si (m108 a1)))⟩))), (6, (.oi (m134 (m108 a1)))), (7, (.one (.ref ⟨(7, 0, 0), [], 0, (length (map d_si w0_2))⟩))), (8, (.one (.ref ⟨(8, 0, 0), [], 0, (length (map d_i w1_2))⟩))), (9, (.oi w2_2)), (10, (.oi w3_2)), (24, (.one (.val (.bool w4_2))))], [((5, 0, 0), .live ⟨2, (map d_si (m108 a1)), []⟩), ((7, 0, 0), .live ⟨2, (map d_si w0_2), []⟩), ((8, 0, 0), .live ⟨1, (map d_i w1_2), []⟩)]⟩) := (by have t : Ev F X (.code l116_0 (h116_0 l1_0 a0 a1 0 ([]) ([]) a0) (ex116_0 (r116_0 a0 a1 (m108 a1) 0 ([]) ([]) a0)) (fin116_0 l1_0 a0 a1 (r116_0 a0 a1 (m108 a1) 0 ([]) ([]) a0))) := t116_0 (l1_0 := l1_0) (a0 := a0) (a1 := a1) (by assumption) (by assumption) (by assumption) (by assumption) (by assumption) (m108 a1) [] ([]) ([]) a0 rfl (by have q1 := mlen_108 a1; have q2 := (mne_108 a1 (by assumption) (by omega)).1 (by omega); simp only [length_map, length_nil, length_set, Nat.zero_add] at *; omega) (by have q1 := mlen_108 a1; have q2 := (mne_108 a1 (by assumption) (by omega)).1 (by omega); simp only [length_map, length_nil, length_set, Nat.zero_add] at *; omega); rw [h0] at t; exact t)
  cases h1 : r116_1 w1_2 (Int.toNat w2_2) w2_2 w0_2 w1_2 with
  | k0 w0_3 w1_3 w2_3 w3_3 =>
   try dsimp only
   have zh1 := z116_1 (c1_116_1 := w1_2) (Int.toNat w2_2) w2_2 w0_2 w1_2; rw [h1] at zh1; simp only [post116_1, length_map, length_set, length_append, length_replicate, length_cons, length_nil, Int.toNat_natCast] at zh1
   have f7 : (clean [7, 8, 9, 18, 19, 45, 57] ⟨[(0, (.one (.val (.int .i64 a0)))), (5, (.one (.ref ⟨(5, 0, 0), [], 0, (length (map d_si (m108 a1)))⟩))), (6, (.one (.val (.int .i64 (m134 (m108 a1)))))), (7, (.one (.ref ⟨(7, 0, 0), [], 0, (length (map d_si w0_2))⟩))), (8, (.one (.ref ⟨(8, 0, 0), [], 0, (length (map d_i w1_2))⟩))), (9, (.one (.val (.int .i64 w2_2)))), (10, (.one (.val (.int .i64 w3_2)))), (24, (.one (.val (.bool w4_2))))], [((5, 0, 0), .live ⟨2, (map d_si (m108 a1)), []⟩), ((7, 0, 0), .live ⟨2, (map d_si w0_2), []⟩), ((8, 0, 0), .live ⟨1, (map d_i w1_2), []⟩)]⟩ : St) = h116_1 l1_0 a0 a1 w0_2 w1_2 w2_2 w2_2 w0_2 w1_2 := (by rfl)
   have f8 : Ev F X (.code l116_1 (h116_1 l1_0 a0 a1 w0_2 w1_2 w2_2 w2_2 w0_2 w1_2) (.exit 2) ⟨[(7, (.one (.ref ⟨(7, 0, 0), [], 0, (length (map d_si w0_2))⟩))), (8, (.one (.ref ⟨(8, 0, 0), [], 0, (length (map d_i w1_2))⟩))), (9, (.oi w2_3)), (62, (.one (.val (.bool w3_3))))], [((7, 0, 0), .live ⟨2, (map d_si w0_3), []⟩), ((8, 0, 0), .live ⟨1, (map d_i w1_3), []⟩)]⟩) := (by have t : Ev F X (.code l116_1 (h116_1 l1_0 a0 a1 w0_2 w1_2 w2_2 w2_2 w0_2 w1_2) (ex116_1 (r116_1 w1_2 (Int.toNat w2_2) w2_2 w0_2 w1_2)) (fin116_1 l1_0 a0 a1 w0_2 w1_2 w2_2 (r116_1 w1_2 (Int.toNat w2_2) w2_2 w0_2 w1_2))) := t116_1 (l1_0 := l1_0) (a0 := a0) (a1 := a1) (c0_116_1 := w0_2) (c1_116_1 := w1_2) (c2_116_1 := w2_2) (by assumption) (by assumption) (by assumption) (by assumption) (by assumption) (by have q := mlen_108 a1; simp only [length_map, length_nil, Nat.zero_add] at *; omega) (by have q := mlen_108 a1; simp only [length_map, length_nil, Nat.zero_add] at *; omega) _ w2_2 w0_2 w1_2 (by omega) (by simp only [length_map, length_set, length_append, length_replicate, length_cons, length_nil]; done) (by simp only [length_map, length_set, length_append, length_replicate, length_cons, length_nil]; done) (by omega) (by omega) (by have q1 := mlen_108 a1; have q2 := (mne_108 a1 (by assumption) (by omega)).1 (by omega); simp only [length_map, length_nil, length_set, Nat.zero_add] at *; omega) (by have q1 := mlen_108 a1; have q2 := (mne_108 a1 (by assumption) (by omega)).1 (by omega); simp only [length_map, length_nil, length_set, Nat.zero_add] at *; omega); rw [h1] at t; exact t)
   have f10 : (length (map d_si w0_2)) = (length (map d_si w0_3)) := (by have q := mlen_108 a1; simp only [length_map, length_nil, Nat.zero_add] at *; omega)
   exact cp (by kernel_rfl) (.r 5 [] [] f0 (.f f1 (.f f2 (.f f3 (.r 11 [] [(map b_si (m108 a1))] f4 (.f f5 (.f f6 (.f f7 (.f f8 (.e 0 (.f f10 (.f (pureR_si w0_3) (.h 28 (.loop (h116_0 l1_0 a0 a1 0 ([]) ([]) a0) (.exit 0) ⟨[(0, (.oi a0)), (5, (.one (.ref ⟨(5, 0, 0), [], 0, (length (map d_si (m108 a1)))⟩))), (6, (.oi (m134 (m108 a1)))), (7, (.one (.ref ⟨(7, 0, 0), [], 0, (length (map d_si w0_2))⟩))), (8, (.one (.ref ⟨(8, 0, 0), [], 0, (length (map d_i w1_2))⟩))), (9, (.oi w2_2)), (10, (.oi w3_2)), (24, (.one (.val (.bool w4_2))))], [((5, 0, 0), .live ⟨2, (map d_si (m108 a1)), []⟩), ((7, 0, 0), .live ⟨2, (map d_si w0_2), []⟩), ((8, 0, 0), .live ⟨1, (map d_i w1_2), []⟩)]⟩) (.h 29 (.loopd [7, 8, 9, 18, 19, 45, 57] (h116_1 l1_0 a0 a1 w0_2 w1_2 w2_2 w2_2 w0_2 w1_2) (.exit 2) ⟨[(7, (.one (.ref ⟨(7, 0, 0), [], 0, (length (map d_si w0_2))⟩))), (8, (.one (.ref ⟨(8, 0, 0), [], 0, (length (map d_i w1_2))⟩))), (9, (.oi w2_3)), (62, (.one (.val (.bool w3_3))))], [((7, 0, 0), .live ⟨2, (map d_si w0_3), []⟩), ((8, 0, 0), .live ⟨1, (map d_i w1_3), []⟩)]⟩) .nil))))))))))))))
theorem dlen116 (t : Int) (a : List K_si) : length (m116 t a) = length (m108 a) := by
 have z := z116_0 (a0 := t) (a1 := a) (m108 a) 0 [] [] t
 unfold m116
 cases hr : r116_0 t a (m108 a) 0 [] [] t with
 | k0 w0 w1 w2 w3 w4 =>
  rw [hr] at z
  have z1 := z116_1 (c1_116_1 := w1) (Int.toNat w2) w2 w0 w1
  simp only []
  cases hr1 : r116_1 w1 (Int.toNat w2) w2 w0 w1 with
  | k0 u0 u1 u2 u3 =>
   rw [hr1] at z1
   simp only [post116_0, post116_1, length_nil, Nat.zero_add] at z z1
   simp only []
   omega
def m170 (a0 : (List K_si)) : (List K_si) :=
 (([]) ++ a0)
theorem e170 {l0_0 : Nat} {a0 : (List K_si)} (hy0 : length a0 * 24 ≤ 70368744177664) : Ev F X (.call 170 [(.one (.bor l0_0 (map b_si a0)))] [] [] [(.one (.own 2 (map d_si (([]) ++ a0))))]) := by
 have f0 : 0 + 0 ≤ 0 := (by omega)
 have f1 : (length ([] ++ (fromBR l0_0 (map b_si a0)))) * 24 ≤ 70368744177664 := (by simp [ol85, ol86, ol27_0, ol27_1, ol27_2, ol28_0, ol28_1, ol28_2]; omega)
 have f2 : ∀ r ∈ ((fromBR l0_0 (map b_si a0)) : List (List D)), r.length = 2 := (by simp [*, ol85, ol86, ol27_0, ol27_1, ol27_2, ol28_0, ol28_1, ol28_2, b_si, d_si, byteRows_eq, ints_y]; done)
 have f3 : ([] ++ (fromBR l0_0 (map b_si a0))) = (map d_si (([]) ++ a0)) := (by simp [byteRows_eq, ints_y, take_of_length_le, d_si, d_R, d_B, d_i, d_b, d_C, d_LsiE, d_Q, d_s, d_LiE, d_y, fromBR_si, fromBR_i, fromBR_b, fromBR_s, fromBR_y, ol85, ol86, ol27_0, ol27_1, ol27_2, ol28_0, ol28_1, ol28_2]; done)
 have f5 : (length ([] ++ (fromBR l0_0 (map b_si a0)))) = (length (map d_si (([]) ++ a0))) := (by simp [ol85, ol86, ol27_0, ol27_1, ol27_2, ol28_0, ol28_1, ol28_2]; done)
 exact cp (by kernel_rfl) (.f f0 (.f f1 (.f f2 (.f f3 (.e 0 (.f f5 (.f (pureR_si (([]) ++ a0)) (.h 10 (.norm (2, 0, 0) (map d_si (([]) ++ a0))) .nil))))))))
inductive O139_0 where
 | k0 (w0 : List K_R) (w1 : Int) (w2 : Bool)
def r139_0 (a0 : K_B) : List K_R → Int → List K_R → O139_0
 | x0 :: y0, i, v0 =>
  (r139_0 a0 y0 (i + 1) (v0 ++ ([(K_R.mk x0.f0 x0.f1 x0.f2 (([]) ++ x0.f3) x0.f4)])))
 | [], i, v0 => (O139_0.k0 v0 i (decide (i < ((length (map b_R a0.f3)) : Int))))
def h139_0 (l0_2 : Nat) (l0_3 : Nat) (l0_4 : Nat) (a0 : K_B) (i : Int) (v0 : List K_R) : St := ⟨[(1, (.ptr ⟨(1, 0, 0), [], 0, 0, 8⟩)), (2, (.ptr ⟨(2, 0, 0), [], 0, 0, 8⟩)), (3, (.ptr ⟨(3, 0, 0), [], 0, 0, 8⟩)), (4, (.one (.val (.int .i64 i))))], [((1, 0, 0), .live ⟨8, [[(.val (.int .i64 a0.f0)), (.val (.int .i64 a0.f1)), (.bor l0_2 (map b_si a0.f2)), (.bor l0_3 (map b_R a0.f3)), (.bor l0_4 (map b_si a0.f4)), (.val (.int .i64 a0.f5)), (.val (.int .i64 a0.f6)), (.val (.int .i64 a0.f7))]], []⟩), ((2, 0, 0), .live ⟨8, [[(.val (.int .i64 0)), (.val (.int .i64 0)), (.own 2 []), (.own 5 []), (.own 2 []), (.val (.int .i64 0)), (.val (.int .i64 0)), (.val (.int .i64 0))]], []⟩), ((3, 0, 0), .live ⟨8, [[(.val (.int .i64 a0.f0)), (.val (.int .i64 a0.f1)), (.own 2 (map d_si (([]) ++ a0.f2))), (.own 5 (map d_R v0)), (.own 2 (map d_si (([]) ++ a0.f4))), (.val (.int .i64 a0.f5)), (.val (.int .i64 a0.f6)), (.val (.int .i64 a0.f7))]], []⟩)]⟩
def ex139_0 : O139_0 → VX.Exit
 | .k0 _ _ _ => (.exit 0)
def fin139_0 (l0_2 : Nat) (l0_3 : Nat) (l0_4 : Nat) (a0 : K_B) : O139_0 → St
 | .k0 w0 w1 w2 => ⟨[(1, (.ptr ⟨(1, 0, 0), [], 0, 0, 8⟩)), (2, (.ptr ⟨(2, 0, 0), [], 0, 0, 8⟩)), (3, (.ptr ⟨(3, 0, 0), [], 0, 0, 8⟩)), (4, (.one (.val (.int .i64 w1)))), (20, (.one (.val (.bool w2))))], [((1, 0, 0), .live ⟨8, [[(.val (.int .i64 a0.f0)), (.val (.int .i64 a0.f1)), (.bor l0_2 (map b_si a0.f2)), (.bor l0_3 (map b_R a0.f3)), (.bor l0_4 (map b_si a0.f4)), (.val (.int .i64 a0.f5)), (.val (.int .i64 a0.f6)), (.val (.int .i64 a0.f7))]], []⟩), ((2, 0, 0), .live ⟨8, [[(.val (.int .i64 0)), (.val (.int .i64 0)), (.own 2 []), (.own 5 []), (.own 2 []), (.val (.int .i64 0)), (.val (.int .i64 0)), (.val (.int .i64 0))]], []⟩), ((3, 0, 0), .live ⟨8, [[(.val (.int .i64 a0.f0)), (.val (.int .i64 a0.f1)), (.own 2 (map d_si (([]) ++ a0.f2))), (.own 5 (map d_R w0)), (.own 2 (map d_si (([]) ++ a0.f4))), (.val (.int .i64 a0.f5)), (.val (.int .i64 a0.f6)), (.val (.int .i64 a0.f7))]], []⟩)]⟩
theorem t139_0 {l0_2 : Nat} {l0_3 : Nat} {l0_4 : Nat} {a0 : K_B} (hy0 : length a0.f2 ≤ 100) (hy1 : length a0.f3 ≤ 100) (hy2 : ∀ z ∈ a0.f3, length z.f3 ≤ 100) (hy3 : length a0.f4 ≤ 100) (hy4 : ∀ z ∈ a0.f3, ok_R z) : ∀ (y0 : List K_R) (p : List K_R) (v0 : List K_R), p ++ y0 = a0.f3 → (length v0 + length y0) * 56 ≤ 70368744177664 → Ev F X (.code l139_0 (h139_0 l0_2 l0_3 l0_4 a0 (length p : Int) v0) (ex139_0 (r139_0 a0 y0 (length p : Int) v0)) (fin139_0 l0_2 l0_3 l0_4 a0 (r139_0 a0 y0 (length p : Int) v0)))
 | [], p, v0, hp0, hi0 => by
  have hc : ¬ (decide ((length p : Int) < ((length (map b_R a0.f3)) : Int))) = true := by
   rw [← hp0]; simp only [length_map, length_set, length_append, length_replicate, length_cons, length_nil, decide_eq_true_eq]; omega
  have hj0 := hi0; try simp only [length_map, length_set, length_append, length_replicate, length_cons, length_nil, Int.toNat_natCast] at hj0
  have st := ch b139_0 [(10, .b false)] (h139_0 l0_2 l0_3 l0_4 a0 (length p : Int) v0) (fin139_0 l0_2 l0_3 l0_4 a0 (.k0 v0 (length p : Int) (decide ((length p : Int) < ((length (map b_R a0.f3)) : Int))))) (.exit 0) 11 [(decide ((length p : Int) < ((length (map b_R a0.f3)) : Int))) = false] (by kernel_rfl) ⟨(nt hc), trivial⟩
  exact .loopX st (show ((.exit 0) : VX.Exit) ≠ .normal from by simp)
 | x0 :: y0, p, v0, hp0, hi0 => by
  have hc : (decide ((length p : Int) < ((length (map b_R a0.f3)) : Int))) = true := lt1 hp0
  have Hx0 : (a0.f3)[Int.toNat (length p : Int)]? = some x0 := by
   rw [← hp0, Int.toNat_natCast]; simp
  have Nx0_2 := hy2 x0 (List.mem_of_getElem? Hx0)
  have Mx0_0 := hy4 x0 (List.mem_of_getElem? Hx0)
  have hlen : length (a0.f3) = length p + length y0 + 1 := by rw [← hp0]; simp; omega
  have hw : w64 ((length p : Int) + 1) = (length p : Int) + 1 := wrap64 (by omega)
  have hj0 := hi0; try simp only [length_map, length_set, length_append, length_replicate, length_cons, length_nil, Int.toNat_natCast] at hj0
  simp only [r139_0]
  have st := ch b139_0 [(10, .b true), (18, .row (b_R x0)), (30, .ret [] [(.one (.own 2 (map d_si (([]) ++ x0.f3))))] [] []), (44, .b false), (49, .norm (3, 0, 0) [[(.i a0.f0), (.i a0.f1), (.own 2 (map d_si (([]) ++ a0.f2))), (.own 5 (map d_R (v0 ++ ([(K_R.mk x0.f0 x0.f1 x0.f2 (([]) ++ x0.f3) x0.f4)])))), (.own 2 (map d_si (([]) ++ a0.f4))), (.i a0.f5), (.i a0.f6), (.i a0.f7)]])] (h139_0 l0_2 l0_3 l0_4 a0 (length p : Int) v0) ⟨[(1, (.ptr ⟨(1, 0, 0), [], 0, 0, 8⟩)), (2, (.ptr ⟨(2, 0, 0), [], 0, 0, 8⟩)), (3, (.ptr ⟨(3, 0, 0), [], 0, 0, 8⟩)), (4, (.oi (w64 ((length p : Int) + 1))))], [((1, 0, 0), .live ⟨8, [[(.i a0.f0), (.i a0.f1), (.bor l0_2 (map b_si a0.f2)), (.bor l0_3 (map b_R a0.f3)), (.bor l0_4 (map b_si a0.f4)), (.i a0.f5), (.i a0.f6), (.i a0.f7)]], []⟩), ((2, 0, 0), .live ⟨8, [[(.i 0), (.i 0), (.own 2 []), (.own 5 []), (.own 2 []), (.i 0), (.i 0), (.i 0)]], []⟩), ((3, 0, 0), .live ⟨8, [[(.i a0.f0), (.i a0.f1), (.own 2 (map d_si (([]) ++ a0.f2))), (.own 5 (map d_R (v0 ++ ([(K_R.mk x0.f0 x0.f1 x0.f2 (([]) ++ x0.f3) x0.f4)])))), (.own 2 (map d_si (([]) ++ a0.f4))), (.i a0.f5), (.i a0.f6), (.i a0.f7)]], []⟩)]⟩ .normal 56 [(decide ((length p : Int) < ((length (map b_R a0.f3)) : Int))) = true, 0 ≤ (length p : Int), (map b_R a0.f3)[(Int.toNat (length p : Int))]? = some (b_R x0), Ev F X (.call 170 [(.one (.bor (l0_3 + 1) (map b_si x0.f3)))] [] [] [(.one (.own 2 (map d_si (([]) ++ x0.f3))))]), 0 = 0, (length (map d_si (([]) ++ x0.f3))) = (length (map d_si (([]) ++ x0.f3))), 0 = 0, (length (map d_si (([]) ++ x0.f3))) = (length (map d_si (([]) ++ x0.f3))), 0 + (length (map d_R v0)) ≤ (length (map d_R v0)), 1 ≤ 1, ((take 1 (drop 0 [[(.i x0.f0), (.i x0.f1), (.i x0.f2), (.own 2 (map d_si (([]) ++ x0.f3))), (.i x0.f4)]])).all fun x => x.all copyable) = false, 0 = 0, 1 = 1, (length ((take (length (map d_R v0)) (drop 0 (map d_R v0))) ++ ([[(.i x0.f0), (.i x0.f1), (.i x0.f2), (.own 2 (map d_si (([]) ++ x0.f3))), (.i x0.f4)]] : List (List D)))) * 56 ≤ 70368744177664, ∀ r ∈ ([[(.i x0.f0), (.i x0.f1), (.i x0.f2), (.own 2 (map d_si (([]) ++ x0.f3))), (.i x0.f4)]] : List (List D)), r.length = 5, 0 = 0, (length ((take (length (map d_R v0)) (drop 0 (map d_R v0))) ++ ([[(.i x0.f0), (.i x0.f1), (.i x0.f2), (.own 2 (map d_si (([]) ++ x0.f3))), (.i x0.f4)]] : List (List D)))) = (length ((take (length (map d_R v0)) (drop 0 (map d_R v0))) ++ ([[(.i x0.f0), (.i x0.f1), (.i x0.f2), (.own 2 (map d_si (([]) ++ x0.f3))), (.i x0.f4)]] : List (List D)))), ([[(.i a0.f0), (.i a0.f1), (.own 2 (map d_si (([]) ++ a0.f2))), (.own 5 ((take (length (map d_R v0)) (drop 0 (map d_R v0))) ++ ([[(.i x0.f0), (.i x0.f1), (.i x0.f2), (.own 2 (map d_si (([]) ++ x0.f3))), (.i x0.f4)]] : List (List D)))), (.own 2 (map d_si (([]) ++ a0.f4))), (.i a0.f5), (.i a0.f6), (.i a0.f7)]] : List (List D)) = [[(.i a0.f0), (.i a0.f1), (.own 2 (map d_si (([]) ++ a0.f2))), (.own 5 (map d_R (v0 ++ ([(K_R.mk x0.f0 x0.f1 x0.f2 (([]) ++ x0.f3) x0.f4)])))), (.own 2 (map d_si (([]) ++ a0.f4))), (.i a0.f5), (.i a0.f6), (.i a0.f7)]], True] (by kernel_rfl) ⟨hc, (by omega), (by rw [getElem?_map, Hx0]; rfl), (e170 (a0 := x0.f3) (by omega)), rfl, rfl, rfl, rfl, (by omega), (by omega), (by trivial), rfl, rfl, (by simp only [length_map, length_append, length_cons, length_nil, length_take, length_drop]; omega), (by simp [ol85, ol86, ol27_0, ol27_1, ol27_2, ol28_0, ol28_1, ol28_2]; done), rfl, rfl, (by simp [byteRows_eq, ints_y, take_of_length_le, d_si, d_R, d_B, d_i, d_b, d_C, d_LsiE, d_Q, d_s, d_LiE, d_y, fromBR_si, fromBR_i, fromBR_b, fromBR_s, fromBR_y, ol85, ol86, ol27_0, ol27_1, ol27_2, ol28_0, ol28_1, ol28_2]; done), trivial, trivial⟩
  have ih := t139_0 (l0_2 := l0_2) (l0_3 := l0_3) (l0_4 := l0_4) (a0 := a0) hy0 hy1 hy2 hy3 hy4 y0 (p ++ [x0]) (v0 ++ ([(K_R.mk x0.f0 x0.f1 x0.f2 (([]) ++ x0.f3) x0.f4)])) (by rw [append_assoc]; exact hp0) (by simp only [length_map, length_set, length_append, length_replicate, length_cons, length_nil]; omega)
  rw [show ((p ++ [x0]).length : Int) = (p.length : Int) + 1 from by simp] at ih
  replace st := to_ (s' := h139_0 l0_2 l0_3 l0_4 a0 ((length p : Int) + 1) (v0 ++ ([(K_R.mk x0.f0 x0.f1 x0.f2 (([]) ++ x0.f3) x0.f4)]))) st (by unfold h139_0; simp only [hw]; done)
  exact .loopN st ih
def post139_0 (n0 : Nat) : O139_0 → Prop
 | .k0 w0 _ _ => length w0 = n0
theorem z139_0 {a0 : K_B} : ∀ (y0 : List K_R) (i : Int) (v0 : List K_R), post139_0 (length v0 + length y0) (r139_0 a0 y0 i v0)
 | [], i, v0 => by
  first | trivial | (simp only [post139_0, length_nil, Nat.add_zero]; done) | (simp [post139_0]; done)
 | x0 :: y0, i, v0 => by
  simp only [r139_0]
  have z := z139_0 (a0 := a0) y0 (i + 1) (v0 ++ ([(K_R.mk x0.f0 x0.f1 x0.f2 (([]) ++ x0.f3) x0.f4)]))
  rw [show (length v0 + length (x0 :: y0)) = (length (v0 ++ ([(K_R.mk x0.f0 x0.f1 x0.f2 (([]) ++ x0.f3) x0.f4)])) + length y0) from by first | omega | (simp only [length_map, length_set, length_append, length_replicate, length_cons, length_nil]; done) | (simp only [length_map, length_set, length_append, length_replicate, length_cons, length_nil]; omega)]
  exact z
def m139 (a0 : K_B) : K_B :=
 (match r139_0 a0 a0.f3 0 [] with | .k0 w0_2 w1_2 w2_2 => (K_B.mk a0.f0 a0.f1 (([]) ++ a0.f2) w0_2 (([]) ++ a0.f4) a0.f5 a0.f6 a0.f7))
theorem e139 {l0_2 : Nat} {l0_3 : Nat} {l0_4 : Nat} {a0 : K_B} (hy0 : length a0.f2 ≤ 100) (hy1 : length a0.f3 ≤ 100) (hy2 : ∀ z ∈ a0.f3, length z.f3 ≤ 100) (hy3 : length a0.f4 ≤ 100) (hy4 : ∀ z ∈ a0.f3, ok_R z) : Ev F X (.call 139 [(.agg [(.val (.int .i64 a0.f0)), (.val (.int .i64 a0.f1)), (.bor l0_2 (map b_si a0.f2)), (.bor l0_3 (map b_R a0.f3)), (.bor l0_4 (map b_si a0.f4)), (.val (.int .i64 a0.f5)), (.val (.int .i64 a0.f6)), (.val (.int .i64 a0.f7))])] [] [] [(.agg [(.val (.int .i64 ((m139 a0).f0))), (.val (.int .i64 ((m139 a0).f1))), (.own 2 (map d_si ((m139 a0).f2))), (.own 5 (map d_R ((m139 a0).f3))), (.own 2 (map d_si ((m139 a0).f4))), (.val (.int .i64 ((m139 a0).f5))), (.val (.int .i64 ((m139 a0).f6))), (.val (.int .i64 ((m139 a0).f7)))])]) := by
 unfold m139
 have f0 := e170 (l0_0 := l0_2 + 1) (a0 := a0.f2) (by omega)
 have f3 := e170 (l0_0 := l0_4 + 1) (a0 := a0.f4) (by omega)
 cases h0 : r139_0 a0 a0.f3 0 [] with
 | k0 w0_2 w1_2 w2_2 =>
  try dsimp only
  have zh0 := z139_0 (a0 := a0) a0.f3 0 []; rw [h0] at zh0; simp only [post139_0, length_map, length_set, length_append, length_replicate, length_cons, length_nil, Int.toNat_natCast] at zh0
  have f6 : (⟨[(1, (.ptr ⟨(1, 0, 0), [], 0, 0, 8⟩)), (2, (.ptr ⟨(2, 0, 0), [], 0, 0, 8⟩)), (3, (.ptr ⟨(3, 0, 0), [], 0, 0, 8⟩)), (4, (.oi 0))], [((1, 0, 0), .live ⟨8, [[(.i a0.f0), (.i a0.f1), (.bor l0_2 (map b_si a0.f2)), (.bor l0_3 (map b_R a0.f3)), (.bor l0_4 (map b_si a0.f4)), (.i a0.f5), (.i a0.f6), (.i a0.f7)]], []⟩), ((2, 0, 0), .live ⟨8, [[(.i 0), (.i 0), (.own 2 []), (.own 5 []), (.own 2 []), (.i 0), (.i 0), (.i 0)]], []⟩), ((3, 0, 0), .live ⟨8, [[(.i a0.f0), (.i a0.f1), (.own 2 (map d_si (([]) ++ a0.f2))), (.own 5 []), (.own 2 (map d_si (([]) ++ a0.f4))), (.i a0.f5), (.i a0.f6), (.i a0.f7)]], []⟩)]⟩ : St) = h139_0 l0_2 l0_3 l0_4 a0 0 [] := (by rfl)
  have f7 : Ev F X (.code l139_0 (h139_0 l0_2 l0_3 l0_4 a0 0 []) (.exit 0) ⟨[(1, (.ptr ⟨(1, 0, 0), [], 0, 0, 8⟩)), (2, (.ptr ⟨(2, 0, 0), [], 0, 0, 8⟩)), (3, (.ptr ⟨(3, 0, 0), [], 0, 0, 8⟩)), (4, (.oi w1_2)), (20, (.one (.val (.bool w2_2))))], [((1, 0, 0), .live ⟨8, [[(.i a0.f0), (.i a0.f1), (.bor l0_2 (map b_si a0.f2)), (.bor l0_3 (map b_R a0.f3)), (.bor l0_4 (map b_si a0.f4)), (.i a0.f5), (.i a0.f6), (.i a0.f7)]], []⟩), ((2, 0, 0), .live ⟨8, [[(.i 0), (.i 0), (.own 2 []), (.own 5 []), (.own 2 []), (.i 0), (.i 0), (.i 0)]], []⟩), ((3, 0, 0), .live ⟨8, [[(.i a0.f0), (.i a0.f1), (.own 2 (map d_si (([]) ++ a0.f2))), (.own 5 (map d_R w0_2)), (.own 2 (map d_si (([]) ++ a0.f4))), (.i a0.f5), (.i a0.f6), (.i a0.f7)]], []⟩)]⟩) := (by have t : Ev F X (.code l139_0 (h139_0 l0_2 l0_3 l0_4 a0 0 []) (ex139_0 (r139_0 a0 a0.f3 0 [])) (fin139_0 l0_2 l0_3 l0_4 a0 (r139_0 a0 a0.f3 0 []))) := t139_0 (l0_2 := l0_2) (l0_3 := l0_3) (l0_4 := l0_4) (a0 := a0) (by assumption) (by assumption) (by assumption) (by assumption) (by assumption) a0.f3 [] [] rfl (by simp only [length_map, length_set, length_append, length_replicate, length_cons, length_nil]; omega); rw [h0] at t; exact t)
  exact cp (by kernel_rfl) (.r 15 [] [] f0 (.e 0 (.e (length (map d_si (([]) ++ a0.f2))) (.r 25 [] [] f3 (.e 0 (.e (length (map d_si (([]) ++ a0.f4))) (.f f6 (.f f7 (.e 0 (.e (length (map d_si (([]) ++ a0.f2))) (.e 0 (.e (length (map d_R w0_2)) (.e 0 (.e (length (map d_si (([]) ++ a0.f4))) (.f (pureR_si (([]) ++ a0.f2)) (.f (pureR_R w0_2) (.f (pureR_si (([]) ++ a0.f4)) (.h 36 (.loop (h139_0 l0_2 l0_3 l0_4 a0 0 []) (.exit 0) ⟨[(1, (.ptr ⟨(1, 0, 0), [], 0, 0, 8⟩)), (2, (.ptr ⟨(2, 0, 0), [], 0, 0, 8⟩)), (3, (.ptr ⟨(3, 0, 0), [], 0, 0, 8⟩)), (4, (.oi w1_2)), (20, (.one (.val (.bool w2_2))))], [((1, 0, 0), .live ⟨8, [[(.i a0.f0), (.i a0.f1), (.bor l0_2 (map b_si a0.f2)), (.bor l0_3 (map b_R a0.f3)), (.bor l0_4 (map b_si a0.f4)), (.i a0.f5), (.i a0.f6), (.i a0.f7)]], []⟩), ((2, 0, 0), .live ⟨8, [[(.i 0), (.i 0), (.own 2 []), (.own 5 []), (.own 2 []), (.i 0), (.i 0), (.i 0)]], []⟩), ((3, 0, 0), .live ⟨8, [[(.i a0.f0), (.i a0.f1), (.own 2 (map d_si (([]) ++ a0.f2))), (.own 5 (map d_R w0_2)), (.own 2 (map d_si (([]) ++ a0.f4))), (.i a0.f5), (.i a0.f6), (.i a0.f7)]], []⟩)]⟩) .nil))))))))))))))))))
theorem cl139 (a0 : K_B) : ∀ (l : List K_R) (i : Int) (v : List K_R), ∃ j b, r139_0 a0 l i v = .k0 (v ++ l) j b
 | [], i, v => ⟨_, _, by rw [List.append_nil]; rfl⟩
 | x :: l, i, v => by
  obtain ⟨j, b, h⟩ := cl139 a0 l (i + 1) (v ++ [x])
  refine ⟨j, b, ?_⟩
  simp only [r139_0]
  rw [show v ++ x :: l = (v ++ [x]) ++ l by simp, ← h]
  first | rfl | (simp only [List.nil_append]; done)
theorem cp139 (a0 : K_B) : m139 a0 = a0 := by
 unfold m139
 obtain ⟨j, b, h⟩ := cl139 a0 a0.f3 0 []
 rw [h]; rfl
end Go.Proofs.YtfmkbpiobddhdaaDoor.FoundReward
