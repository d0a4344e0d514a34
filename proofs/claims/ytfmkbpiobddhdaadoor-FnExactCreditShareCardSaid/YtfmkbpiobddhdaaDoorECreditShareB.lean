/- What the functions compute. -/
import Derived.Test.YtfmkbpiobddhdaaDoorECreditShareA
import Derived.KernelRfl
namespace Go.Proofs.YtfmkbpiobddhdaaDoor.CreditShare
open Go Go.Proofs.YtfmkbpiobddhdaaDoor.V
set_option linter.unusedVariables false
set_option linter.unusedSimpArgs false
set_option maxRecDepth 20000
open List (length_replicate length_map length_set length_append length_cons length_nil length_take length_drop take_of_length_le map_take map_drop map_set append_assoc getElem?_map map length take drop getD set)
attribute [local simp] toBR_si fullR_si pureR_si lenB_si lenD_si fromBR_si copy_si toBR_R fullR_R pureR_R lenB_R lenD_R toBR_B fullR_B pureR_B lenB_B lenD_B toBR_b fullR_b pureR_b lenB_b lenD_b fromBR_b copy_b toBR_i fullR_i pureR_i lenB_i lenD_i fromBR_i copy_i toBR_C fullR_C pureR_C lenB_C lenD_C toBR_LsiE fullR_LsiE pureR_LsiE lenB_LsiE lenD_LsiE toBR_iLsiE fullR_iLsiE pureR_iLsiE lenB_iLsiE lenD_iLsiE toBR_Q fullR_Q pureR_Q lenB_Q lenD_Q toBR_s fullR_s pureR_s lenB_s lenD_s fromBR_s copy_s toBR_y fullR_y pureR_y lenB_y lenD_y fromBR_y copy_y
/-! loop 144_0 -/
inductive O144_0 where
  | k0 (w0 : Int) (w1 : Bool)
  | k1 (w0 : Int)
def r144_0 (a0 : (List K_R)) (a1 : Int) : List K_R → Int → O144_0
  | x0 :: y0, i =>
    if (x0.f0 == a1) = true then (O144_0.k1 i) else
    (r144_0 a0 a1 y0 (i + 1) )
  | [], i => (O144_0.k0 i (decide (i < ((length (map b_R a0)) : Int))))
def h144_0 (l0_0 : Nat) (a0 : (List K_R)) (a1 : Int) (i : Int)  : St := ⟨[(0, (.one (.bor l0_0 (map b_R a0)))), (1, (.one (.val (.int .i64 a1)))), (5, (.one (.val (.int .i64 i))))], []⟩
def ex144_0 : O144_0 → VX.Exit
  | .k0 _ _ => (.exit 0)
  | .k1 _ => .ret
def fin144_0 (l0_0 : Nat) (a0 : (List K_R)) (a1 : Int) : O144_0 → St
  | .k0 w0 w1 => ⟨[(0, (.one (.bor l0_0 (map b_R a0)))), (1, (.one (.val (.int .i64 a1)))), (5, (.one (.val (.int .i64 w0)))), (9, (.one (.val (.bool w1))))], []⟩
  | .k1 w0 => ⟨[(4, (.one (.val (.int .i64 w0))))], []⟩
theorem t144_0 {l0_0 : Nat} {a0 : (List K_R)} {a1 : Int} (hy0 : length a0 * 56 ≤ 140737488351232) (hy1 : ∀ z ∈ a0, ok_R z) : ∀ (y0 : List K_R) (p : List K_R) , p ++ y0 = a0 → Ev F X (.code l144_0 (h144_0 l0_0 a0 a1 (length p : Int) ) (ex144_0 (r144_0 a0 a1 y0 (length p : Int) )) (fin144_0 l0_0 a0 a1 (r144_0 a0 a1 y0 (length p : Int) )))
  | [], p, hp0 => by
    have hc : ¬ (decide ((length p : Int) < ((length (map b_R a0)) : Int))) = true := by
      rw [← hp0]; simp only [length_map, length_set, length_append, length_replicate, length_cons, length_nil, decide_eq_true_eq]; omega
    have st := codeH_ok (F := F) (X := X) (c := b144_0) (t := 0) (hs := [(8, .b false)]) (σ := h144_0 l0_0 a0 a1 (length p : Int) ) (σ' := fin144_0 l0_0 a0 a1 (.k0 (length p : Int) (decide ((length p : Int) < ((length (map b_R a0)) : Int))))) (e := (.exit 0)) (t' := 9) (hs' := []) (q := [(decide ((length p : Int) < ((length (map b_R a0)) : Int))) = false]) (by kernel_rfl) ⟨(nt hc), trivial⟩
    exact .loopX st (show ((.exit 0) : VX.Exit) ≠ .normal from by simp)
  | x0 :: y0, p, hp0 => by
    have hc : (decide ((length p : Int) < ((length (map b_R a0)) : Int))) = true := by
      rw [← hp0]; simp only [length_map, length_set, length_append, length_replicate, length_cons, length_nil, decide_eq_true_eq]; omega
    have Hx0 : (a0)[Int.toNat (length p : Int)]? = some x0 := by
      rw [← hp0, Int.toNat_natCast]; simp
    have Mx0_0 := hy1 x0 (List.mem_of_getElem? Hx0)
    have hlen : length (a0) = length p + length y0 + 1 := by rw [← hp0]; simp; omega
    have hw : IntKind.wrap .i64 ((length p : Int) + 1) = (length p : Int) + 1 := wrap64 (by omega)
    simp only [r144_0]
    by_cases h_1 : (x0.f0 == a1) = true
    · try simp only [if_pos h_1]
      have st := codeH_ok (F := F) (X := X) (c := b144_0) (t := 0) (hs := [(8, .b true), (14, .row [(.i x0.f0), (.i x0.f1), (.i x0.f2), (.sl (map b_si x0.f3)), (.i x0.f4)]), (23, .b true)]) (σ := h144_0 l0_0 a0 a1 (length p : Int) ) (σ' := fin144_0 l0_0 a0 a1 (.k1 (length p : Int))) (e := .ret) (t' := 28) (hs' := []) (q := [(decide ((length p : Int) < ((length (map b_R a0)) : Int))) = true, 0 ≤ (length p : Int), (map b_R a0)[(Int.toNat (length p : Int))]? = some [(.i x0.f0), (.i x0.f1), (.i x0.f2), (.sl (map b_si x0.f3)), (.i x0.f4)], (x0.f0 == a1) = true]) (by kernel_rfl) ⟨hc, (by omega), (by rw [getElem?_map, Hx0]; rfl), h_1, trivial⟩
      exact .loopX st (show (.ret : VX.Exit) ≠ .normal from by simp)
    · try simp only [if_neg h_1]
      have st := codeH_ok (F := F) (X := X) (c := b144_0) (t := 0) (hs := [(8, .b true), (14, .row [(.i x0.f0), (.i x0.f1), (.i x0.f2), (.sl (map b_si x0.f3)), (.i x0.f4)]), (23, .b false)]) (σ := h144_0 l0_0 a0 a1 (length p : Int) ) (σ' := ⟨[(0, (.one (.bor l0_0 (map b_R a0)))), (1, (.oi a1)), (5, (.oi (IntKind.wrap .i64 ((length p : Int) + 1))))], []⟩) (e := .normal) (t' := 30) (hs' := []) (q := [(decide ((length p : Int) < ((length (map b_R a0)) : Int))) = true, 0 ≤ (length p : Int), (map b_R a0)[(Int.toNat (length p : Int))]? = some [(.i x0.f0), (.i x0.f1), (.i x0.f2), (.sl (map b_si x0.f3)), (.i x0.f4)], (x0.f0 == a1) = false, True]) (by kernel_rfl) ⟨hc, (by omega), (by rw [getElem?_map, Hx0]; rfl), (nt h_1), trivial, trivial⟩
      have ih := t144_0 (l0_0 := l0_0) (a0 := a0) (a1 := a1) hy0 hy1 y0 (p ++ [x0])  (by rw [append_assoc]; exact hp0)
      rw [show ((p ++ [x0]).length : Int) = (p.length : Int) + 1 from by simp] at ih
      rw [show (⟨[(0, (.one (.bor l0_0 (map b_R a0)))), (1, (.oi a1)), (5, (.oi (IntKind.wrap .i64 ((length p : Int) + 1))))], []⟩ : St) = h144_0 l0_0 a0 a1 ((length p : Int) + 1)  from (by unfold h144_0; simp only [hw]; done)] at st
      exact .loopN st ih
/-! loop.example/g00539/spec.l14Find -/
def m144 (a0 : (List K_R)) (a1 : Int) : Int :=
  (match r144_0 a0 a1 a0 0 with | .k0 w0_0 w1_0 => (-1) | .k1 w0_0 => w0_0)
theorem e144 {l0_0 : Nat} {a0 : (List K_R)} {a1 : Int} (hy0 : length a0 * 56 ≤ 140737488351232) (hy1 : ∀ z ∈ a0, ok_R z) : Ev F X (.call 144 [(.one (.bor l0_0 (map b_R a0))), (.one (.val (.int .i64 a1)))] [] [] [(.one (.val (.int .i64 (m144 a0 a1))))]) := by
  unfold m144
  cases h0 : r144_0 a0 a1 a0 0 with
  | k0 w0_0 w1_0 =>
    try dsimp only
    have f0 : (⟨[(0, (.one (.bor l0_0 (map b_R a0)))), (1, (.oi a1)), (5, (.oi 0))], []⟩ : St) = h144_0 l0_0 a0 a1 0  := (by rfl)
    have f1 : Ev F X (.code l144_0 (h144_0 l0_0 a0 a1 0 ) (.exit 0) ⟨[(0, (.one (.bor l0_0 (map b_R a0)))), (1, (.oi a1)), (5, (.oi w0_0)), (9, (.one (.val (.bool w1_0))))], []⟩) := (by have t : Ev F X (.code l144_0 (h144_0 l0_0 a0 a1 0 ) (ex144_0 (r144_0 a0 a1 a0 0)) (fin144_0 l0_0 a0 a1 (r144_0 a0 a1 a0 0))) := t144_0 (l0_0 := l0_0) (a0 := a0) (a1 := a1) (by assumption) (by assumption) a0 []  rfl; rw [h0] at t; exact t)
    exact callP_ok (ps := []) (os := []) (rs := [(.oi (-1))]) (by kernel_rfl) (.f f0 (.f f1 (.h 4 (.loop (h144_0 l0_0 a0 a1 0 ) (.exit 0) ⟨[(0, (.one (.bor l0_0 (map b_R a0)))), (1, (.oi a1)), (5, (.oi w0_0)), (9, (.one (.val (.bool w1_0))))], []⟩) .nil)))
  | k1 w0_0 =>
    try dsimp only
    have f0 : (⟨[(0, (.one (.bor l0_0 (map b_R a0)))), (1, (.oi a1)), (5, (.oi 0))], []⟩ : St) = h144_0 l0_0 a0 a1 0  := (by rfl)
    have f1 : Ev F X (.code l144_0 (h144_0 l0_0 a0 a1 0 ) .ret ⟨[(4, (.oi w0_0))], []⟩) := (by have t : Ev F X (.code l144_0 (h144_0 l0_0 a0 a1 0 ) (ex144_0 (r144_0 a0 a1 a0 0)) (fin144_0 l0_0 a0 a1 (r144_0 a0 a1 a0 0))) := t144_0 (l0_0 := l0_0) (a0 := a0) (a1 := a1) (by assumption) (by assumption) a0 []  rfl; rw [h0] at t; exact t)
    exact callP_ok (ps := []) (os := []) (rs := [(.oi w0_0)]) (by kernel_rfl) (.f f0 (.f f1 (.h 4 (.loop (h144_0 l0_0 a0 a1 0 ) .ret ⟨[(4, (.oi w0_0))], []⟩) .nil)))
theorem ixr144_0 (a0 : (List K_R)) (a1 : Int) : ∀ (l : List K_R) (i : Int), (∃ (w0 : _) (w1 : _), r144_0 a0 a1 l i = .k0 w0 w1) ∨ (∃ w, r144_0 a0 a1 l i = .k1 w ∧ i ≤ w ∧ w < i + l.length)
  | [], i => .inl ⟨i, (decide (i < ((length (map b_R a0)) : Int))), rfl⟩
  | x :: l, i => by
    have ih := ixr144_0 a0 a1 l (i + 1)
    simp only [r144_0]
    (repeat' split)
    all_goals first
      | exact .inr ⟨i, rfl, by omega, by simp only [length_cons]; omega⟩
      | (rcases ih with ⟨w0, w1, h⟩ | ⟨w, h, h1, h2⟩
         · exact .inl ⟨w0, w1, h⟩
         · exact .inr ⟨w, h, by omega, by simp only [length_cons]; omega⟩)
theorem ix144 (a0 : (List K_R)) (a1 : Int) : -1 ≤ m144 a0 a1 ∧ m144 a0 a1 < (length a0 : Int) := by
  unfold m144
  rcases ixr144_0 a0 a1 a0 0 with ⟨w0, w1, h⟩ | ⟨w, h, h1, h2⟩ <;> simp only [h] <;> omega
/-! loop.example/g00539/spec.l4Sum -/
def m150 (a0 : Int) : Bool :=
  (m110 a0 0 2147483646)
theorem e150 {a0 : Int} : Ev F X (.call 150 [(.one (.val (.int .i64 a0)))] [] [] [(.one (.val (.bool (m110 a0 0 2147483646))))]) := by
  have f0 : Ev F X (.call 110 [(.oi a0), (.oi 0), (.oi 2147483646)] [] [] [(.one (.val (.bool (m110 a0 0 2147483646))))]) := (e110 (a0 := a0) (a1 := 0) (a2 := 2147483646))
  exact callP_ok (ps := []) (os := []) (rs := [(.one (.val (.bool (m110 a0 0 2147483646))))]) (by kernel_rfl) (.r 5 [] [] f0 .nil)
/-! loop.example/g00539/spec.l14Reward -/
def m132 (a0 : (List K_R)) (a1 : Int) : Int :=
  if (!(m110 ((getD a0 (Int.toNat a1) (K_R.mk 0 0 0 [] 0)).f0) 0 2147483646)) = true then 3 else
  if (!(m110 ((getD a0 (Int.toNat a1) (K_R.mk 0 0 0 [] 0)).f1) 0 1000000)) = true then 3 else
    if (!(m110 ((getD a0 (Int.toNat a1) (K_R.mk 0 0 0 [] 0)).f2) 0 1000000)) = true then 3 else
      if (!(m110 ((getD a0 (Int.toNat a1) (K_R.mk 0 0 0 [] 0)).f4) 1 3)) = true then 3 else
        if (decide (((length (map b_si ((getD a0 (Int.toNat a1) (K_R.mk 0 0 0 [] 0)).f3))) : Int) > 12)) = true then 1 else
          if (!(m133 ((getD a0 (Int.toNat a1) (K_R.mk 0 0 0 [] 0)).f3))) = true then 1 else
            if ((IntKind.wrap .i64 ((m134 ((getD a0 (Int.toNat a1) (K_R.mk 0 0 0 [] 0)).f3)) + ((getD a0 (Int.toNat a1) (K_R.mk 0 0 0 [] 0)).f2))) != ((getD a0 (Int.toNat a1) (K_R.mk 0 0 0 [] 0)).f1)) = true then 1 else
              if (decide ((m144 (take (Int.toNat a1) a0) ((getD a0 (Int.toNat a1) (K_R.mk 0 0 0 [] 0)).f0)) ≥ 0)) = true then 6 else
                0
theorem e132 {l0_0 : Nat} {a0 : (List K_R)} {a1 : Int} (hy0 : length a0 * 56 ≤ 140737488351232) (hy1 : ∀ z ∈ a0, os_R z) (hy2 : 0 ≤ a1) (hy3 : a1 < (length a0 : Int)) : Ev F X (.call 132 [(.one (.bor l0_0 (map b_R a0))), (.one (.val (.int .i64 a1)))] [] [] [(.one (.val (.int .i64 (m132 a0 a1))))]) := by
  unfold m132
  have f0 : 0 ≤ a1 := (by with_reducible assumption)
  have f1 : (map b_R a0)[(Int.toNat a1)]? = some [(.val (.int .i64 ((getD a0 (Int.toNat a1) (K_R.mk 0 0 0 [] 0)).f0))), (.val (.int .i64 ((getD a0 (Int.toNat a1) (K_R.mk 0 0 0 [] 0)).f1))), (.val (.int .i64 ((getD a0 (Int.toNat a1) (K_R.mk 0 0 0 [] 0)).f2))), (.sl (map b_si ((getD a0 (Int.toNat a1) (K_R.mk 0 0 0 [] 0)).f3))), (.val (.int .i64 ((getD a0 (Int.toNat a1) (K_R.mk 0 0 0 [] 0)).f4)))] := (by rw [getElem?_map, getD_at a0 (Int.toNat a1) (K_R.mk 0 0 0 [] 0) (by first | exact True.intro | with_reducible rfl | with_reducible assumption | omega | (simp only [decide_eq_true_eq] at *; omega) | (simp only [length_map]; omega) | (simp; omega) | (simp [take_of_length_le]; done) | assumption | trivial | (simp [*, byteRows_eq, ints_y]; done))]; rfl)
  have f2 : Ev F X (.call 150 [(.oi ((getD a0 (Int.toNat a1) (K_R.mk 0 0 0 [] 0)).f0))] [] [] [(.one (.val (.bool (m110 ((getD a0 (Int.toNat a1) (K_R.mk 0 0 0 [] 0)).f0) 0 2147483646))))]) := (e150 (a0 := ((getD a0 (Int.toNat a1) (K_R.mk 0 0 0 [] 0)).f0)))
  by_cases h0 : (!(m110 ((getD a0 (Int.toNat a1) (K_R.mk 0 0 0 [] 0)).f0) 0 2147483646)) = true
  · try simp only [if_pos h0]
    exact callP_ok (ps := []) (os := []) (rs := [(.oi 3)]) (by kernel_rfl) (.f f0 (.f f1 (.h 7 (.row [(.i ((getD a0 (Int.toNat a1) (K_R.mk 0 0 0 [] 0)).f0)), (.i ((getD a0 (Int.toNat a1) (K_R.mk 0 0 0 [] 0)).f1)), (.i ((getD a0 (Int.toNat a1) (K_R.mk 0 0 0 [] 0)).f2)), (.sl (map b_si ((getD a0 (Int.toNat a1) (K_R.mk 0 0 0 [] 0)).f3))), (.i ((getD a0 (Int.toNat a1) (K_R.mk 0 0 0 [] 0)).f4))]) (.r 19 [] [] f2 (.f h0 (.f h0 (.f h0 (.f h0 (.f h0 (.f h0 (.f h0 (.h 24 (.b true) (.h 26 (.b true) (.h 28 (.b true) (.h 30 (.b true) (.h 32 (.b true) (.h 34 (.b true) (.h 37 (.b true) .nil))))))))))))))))))
  · try simp only [if_neg h0]
    have f8 : Ev F X (.call 115 [(.oi ((getD a0 (Int.toNat a1) (K_R.mk 0 0 0 [] 0)).f1))] [] [] [(.one (.val (.bool (m110 ((getD a0 (Int.toNat a1) (K_R.mk 0 0 0 [] 0)).f1) 0 1000000))))]) := (e115 (a0 := ((getD a0 (Int.toNat a1) (K_R.mk 0 0 0 [] 0)).f1)))
    by_cases h1 : (!(m110 ((getD a0 (Int.toNat a1) (K_R.mk 0 0 0 [] 0)).f1) 0 1000000)) = true
    · try simp only [if_pos h1]
      exact callP_ok (ps := []) (os := []) (rs := [(.oi 3)]) (by kernel_rfl) (.f f0 (.f f1 (.h 7 (.row [(.i ((getD a0 (Int.toNat a1) (K_R.mk 0 0 0 [] 0)).f0)), (.i ((getD a0 (Int.toNat a1) (K_R.mk 0 0 0 [] 0)).f1)), (.i ((getD a0 (Int.toNat a1) (K_R.mk 0 0 0 [] 0)).f2)), (.sl (map b_si ((getD a0 (Int.toNat a1) (K_R.mk 0 0 0 [] 0)).f3))), (.i ((getD a0 (Int.toNat a1) (K_R.mk 0 0 0 [] 0)).f4))]) (.r 19 [] [] f2 (.f (nt h0) (.f (nt h0) (.f (nt h0) (.f (nt h0) (.f (nt h0) (.h 24 (.b false) (.h 26 (.b false) (.h 28 (.b false) (.h 30 (.b false) (.h 32 (.b false) (.r 33 [] [] f8 (.f (nt h0) (.f (nt h0) (.f h1 (.f h1 (.f h1 (.f h1 (.f h1 (.f h1 (.f h1 (.h 34 (.b false) (.h 37 (.b false) (.h 40 (.b true) (.h 42 (.b true) (.h 44 (.b true) (.h 46 (.b true) (.h 48 (.b true) (.h 50 (.b true) (.h 53 (.b true) .nil)))))))))))))))))))))))))))))))))
    · try simp only [if_neg h1]
      have f16 : Ev F X (.call 115 [(.oi ((getD a0 (Int.toNat a1) (K_R.mk 0 0 0 [] 0)).f2))] [] [] [(.one (.val (.bool (m110 ((getD a0 (Int.toNat a1) (K_R.mk 0 0 0 [] 0)).f2) 0 1000000))))]) := (e115 (a0 := ((getD a0 (Int.toNat a1) (K_R.mk 0 0 0 [] 0)).f2)))
      by_cases h2 : (!(m110 ((getD a0 (Int.toNat a1) (K_R.mk 0 0 0 [] 0)).f2) 0 1000000)) = true
      · try simp only [if_pos h2]
        exact callP_ok (ps := []) (os := []) (rs := [(.oi 3)]) (by kernel_rfl) (.f f0 (.f f1 (.h 7 (.row [(.i ((getD a0 (Int.toNat a1) (K_R.mk 0 0 0 [] 0)).f0)), (.i ((getD a0 (Int.toNat a1) (K_R.mk 0 0 0 [] 0)).f1)), (.i ((getD a0 (Int.toNat a1) (K_R.mk 0 0 0 [] 0)).f2)), (.sl (map b_si ((getD a0 (Int.toNat a1) (K_R.mk 0 0 0 [] 0)).f3))), (.i ((getD a0 (Int.toNat a1) (K_R.mk 0 0 0 [] 0)).f4))]) (.r 19 [] [] f2 (.f (nt h0) (.f (nt h0) (.f (nt h0) (.f (nt h0) (.f (nt h0) (.h 24 (.b false) (.h 26 (.b false) (.h 28 (.b false) (.h 30 (.b false) (.h 32 (.b false) (.r 33 [] [] f8 (.f (nt h0) (.f (nt h0) (.f (nt h1) (.f (nt h1) (.f (nt h1) (.f (nt h1) (.f (nt h1) (.h 34 (.b false) (.h 37 (.b false) (.h 40 (.b false) (.h 42 (.b false) (.h 44 (.b false) (.h 46 (.b false) (.h 48 (.b false) (.r 49 [] [] f16 (.f (nt h1) (.f (nt h1) (.f h2 (.f h2 (.f h2 (.f h2 (.f h2 (.f h2 (.f h2 (.h 50 (.b false) (.h 53 (.b false) (.h 56 (.b true) (.h 58 (.b true) (.h 60 (.b true) (.h 62 (.b true) (.h 64 (.b true) (.h 66 (.b true) (.h 69 (.b true) .nil))))))))))))))))))))))))))))))))))))))))))))))))
      · try simp only [if_neg h2]
        have f24 : Ev F X (.call 110 [(.oi ((getD a0 (Int.toNat a1) (K_R.mk 0 0 0 [] 0)).f4)), (.oi 1), (.oi 3)] [] [] [(.one (.val (.bool (m110 ((getD a0 (Int.toNat a1) (K_R.mk 0 0 0 [] 0)).f4) 1 3))))]) := (e110 (a0 := ((getD a0 (Int.toNat a1) (K_R.mk 0 0 0 [] 0)).f4)) (a1 := 1) (a2 := 3))
        by_cases h3 : (!(m110 ((getD a0 (Int.toNat a1) (K_R.mk 0 0 0 [] 0)).f4) 1 3)) = true
        · try simp only [if_pos h3]
          exact callP_ok (ps := []) (os := []) (rs := [(.oi 3)]) (by kernel_rfl) (.f f0 (.f f1 (.h 7 (.row [(.i ((getD a0 (Int.toNat a1) (K_R.mk 0 0 0 [] 0)).f0)), (.i ((getD a0 (Int.toNat a1) (K_R.mk 0 0 0 [] 0)).f1)), (.i ((getD a0 (Int.toNat a1) (K_R.mk 0 0 0 [] 0)).f2)), (.sl (map b_si ((getD a0 (Int.toNat a1) (K_R.mk 0 0 0 [] 0)).f3))), (.i ((getD a0 (Int.toNat a1) (K_R.mk 0 0 0 [] 0)).f4))]) (.r 19 [] [] f2 (.f (nt h0) (.f (nt h0) (.f (nt h0) (.f (nt h0) (.f (nt h0) (.h 24 (.b false) (.h 26 (.b false) (.h 28 (.b false) (.h 30 (.b false) (.h 32 (.b false) (.r 33 [] [] f8 (.f (nt h0) (.f (nt h0) (.f (nt h1) (.f (nt h1) (.f (nt h1) (.f (nt h1) (.f (nt h1) (.h 34 (.b false) (.h 37 (.b false) (.h 40 (.b false) (.h 42 (.b false) (.h 44 (.b false) (.h 46 (.b false) (.h 48 (.b false) (.r 49 [] [] f16 (.f (nt h1) (.f (nt h1) (.f (nt h2) (.f (nt h2) (.f (nt h2) (.f (nt h2) (.f (nt h2) (.h 50 (.b false) (.h 53 (.b false) (.h 56 (.b false) (.h 58 (.b false) (.h 60 (.b false) (.h 62 (.b false) (.h 64 (.b false) (.r 65 [] [] f24 (.f (nt h2) (.f (nt h2) (.f h3 (.h 66 (.b false) (.h 69 (.b false) (.h 70 (.b true) .nil)))))))))))))))))))))))))))))))))))))))))))))))))))
        · try simp only [if_neg h3]
          by_cases h4 : (decide (((length (map b_si ((getD a0 (Int.toNat a1) (K_R.mk 0 0 0 [] 0)).f3))) : Int) > 12)) = true
          · try simp only [if_pos h4]
            exact callP_ok (ps := []) (os := []) (rs := [(.oi 1)]) (by kernel_rfl) (.f f0 (.f f1 (.h 7 (.row [(.i ((getD a0 (Int.toNat a1) (K_R.mk 0 0 0 [] 0)).f0)), (.i ((getD a0 (Int.toNat a1) (K_R.mk 0 0 0 [] 0)).f1)), (.i ((getD a0 (Int.toNat a1) (K_R.mk 0 0 0 [] 0)).f2)), (.sl (map b_si ((getD a0 (Int.toNat a1) (K_R.mk 0 0 0 [] 0)).f3))), (.i ((getD a0 (Int.toNat a1) (K_R.mk 0 0 0 [] 0)).f4))]) (.r 19 [] [] f2 (.f (nt h0) (.f (nt h0) (.f (nt h0) (.f (nt h0) (.f (nt h0) (.h 24 (.b false) (.h 26 (.b false) (.h 28 (.b false) (.h 30 (.b false) (.h 32 (.b false) (.r 33 [] [] f8 (.f (nt h0) (.f (nt h0) (.f (nt h1) (.f (nt h1) (.f (nt h1) (.f (nt h1) (.f (nt h1) (.h 34 (.b false) (.h 37 (.b false) (.h 40 (.b false) (.h 42 (.b false) (.h 44 (.b false) (.h 46 (.b false) (.h 48 (.b false) (.r 49 [] [] f16 (.f (nt h1) (.f (nt h1) (.f (nt h2) (.f (nt h2) (.f (nt h2) (.f (nt h2) (.f (nt h2) (.h 50 (.b false) (.h 53 (.b false) (.h 56 (.b false) (.h 58 (.b false) (.h 60 (.b false) (.h 62 (.b false) (.h 64 (.b false) (.r 65 [] [] f24 (.f (nt h2) (.f (nt h2) (.f (nt h3) (.f h4 (.f h4 (.f h4 (.f h4 (.f h4 (.f h4 (.f h4 (.h 66 (.b false) (.h 69 (.b false) (.h 70 (.b false) (.h 85 (.b true) (.h 87 (.b true) (.h 89 (.b true) (.h 91 (.b true) (.h 93 (.b true) (.h 95 (.b true) (.h 98 (.b true) .nil)))))))))))))))))))))))))))))))))))))))))))))))))))))))))))))))))
          · try simp only [if_neg h4]
            have f33 : Ev F X (.call 133 [(.one (.bor (l0_0 + 1) (map b_si ((getD a0 (Int.toNat a1) (K_R.mk 0 0 0 [] 0)).f3))))] [] [] [(.one (.val (.bool (m133 ((getD a0 (Int.toNat a1) (K_R.mk 0 0 0 [] 0)).f3)))))]) := (e133 (a0 := ((getD a0 (Int.toNat a1) (K_R.mk 0 0 0 [] 0)).f3)) (by have q := gos_R (l := a0) (by first | assumption | (intro z hz; exact (by assumption : ∀ z ∈ _, os_R z) z (List.mem_of_mem_take hz))) (Int.toNat a1) (K_R.mk 0 0 0 [] 0) (by simp [os_R, ByteArray.size]); first | exact q | exact q.1 | exact q.2 | exact q.2.1 | exact q.2.2 | exact Nat.le_trans q (by decide) | exact Nat.le_trans q.1 (by decide) | (have q1 := q.1; simp only [length_map]; omega)) (by have q := gos_R (l := a0) (by first | assumption | (intro z hz; exact (by assumption : ∀ z ∈ _, os_R z) z (List.mem_of_mem_take hz))) (Int.toNat a1) (K_R.mk 0 0 0 [] 0) (by simp [os_R, ByteArray.size]); first | exact q | exact q.1 | exact q.2 | exact q.2.1 | exact q.2.2 | exact Nat.le_trans q (by decide) | exact Nat.le_trans q.1 (by decide) | (have q1 := q.1; simp only [length_map]; omega)))
            by_cases h5 : (!(m133 ((getD a0 (Int.toNat a1) (K_R.mk 0 0 0 [] 0)).f3))) = true
            · try simp only [if_pos h5]
              exact callP_ok (ps := []) (os := []) (rs := [(.oi 1)]) (by kernel_rfl) (.f f0 (.f f1 (.h 7 (.row [(.i ((getD a0 (Int.toNat a1) (K_R.mk 0 0 0 [] 0)).f0)), (.i ((getD a0 (Int.toNat a1) (K_R.mk 0 0 0 [] 0)).f1)), (.i ((getD a0 (Int.toNat a1) (K_R.mk 0 0 0 [] 0)).f2)), (.sl (map b_si ((getD a0 (Int.toNat a1) (K_R.mk 0 0 0 [] 0)).f3))), (.i ((getD a0 (Int.toNat a1) (K_R.mk 0 0 0 [] 0)).f4))]) (.r 19 [] [] f2 (.f (nt h0) (.f (nt h0) (.f (nt h0) (.f (nt h0) (.f (nt h0) (.h 24 (.b false) (.h 26 (.b false) (.h 28 (.b false) (.h 30 (.b false) (.h 32 (.b false) (.r 33 [] [] f8 (.f (nt h0) (.f (nt h0) (.f (nt h1) (.f (nt h1) (.f (nt h1) (.f (nt h1) (.f (nt h1) (.h 34 (.b false) (.h 37 (.b false) (.h 40 (.b false) (.h 42 (.b false) (.h 44 (.b false) (.h 46 (.b false) (.h 48 (.b false) (.r 49 [] [] f16 (.f (nt h1) (.f (nt h1) (.f (nt h2) (.f (nt h2) (.f (nt h2) (.f (nt h2) (.f (nt h2) (.h 50 (.b false) (.h 53 (.b false) (.h 56 (.b false) (.h 58 (.b false) (.h 60 (.b false) (.h 62 (.b false) (.h 64 (.b false) (.r 65 [] [] f24 (.f (nt h2) (.f (nt h2) (.f (nt h3) (.f (nt h4) (.f (nt h4) (.f (nt h4) (.f (nt h4) (.f (nt h4) (.h 66 (.b false) (.h 69 (.b false) (.h 70 (.b false) (.h 85 (.b false) (.h 87 (.b false) (.h 89 (.b false) (.h 91 (.b false) (.h 93 (.b false) (.r 94 [] [] f33 (.f (nt h4) (.f (nt h4) (.f h5 (.f h5 (.f h5 (.f h5 (.f h5 (.f h5 (.f h5 (.f h5 (.f h5 (.f h5 (.f h5 (.f h5 (.f h5 (.f h5 (.f h5 (.f h5 (.h 95 (.b false) (.h 98 (.b false) (.h 101 (.b true) (.h 103 (.b true) (.h 105 (.b true) (.h 107 (.b true) (.h 109 (.b true) (.h 111 (.b true) (.h 113 (.b true) (.h 115 (.b true) (.h 117 (.b true) (.h 119 (.b true) (.h 121 (.b true) (.h 123 (.b true) (.h 125 (.b true) (.h 127 (.b true) (.h 129 (.b true) (.h 132 (.b true) .nil))))))))))))))))))))))))))))))))))))))))))))))))))))))))))))))))))))))))))))))))))))))))))))))))))
            · try simp only [if_neg h5]
              have f41 : Ev F X (.call 134 [(.one (.bor (l0_0 + 1) (map b_si ((getD a0 (Int.toNat a1) (K_R.mk 0 0 0 [] 0)).f3))))] [] [] [(.oi (m134 ((getD a0 (Int.toNat a1) (K_R.mk 0 0 0 [] 0)).f3)))]) := (e134 (a0 := ((getD a0 (Int.toNat a1) (K_R.mk 0 0 0 [] 0)).f3)) (by have q := gos_R (l := a0) (by first | assumption | (intro z hz; exact (by assumption : ∀ z ∈ _, os_R z) z (List.mem_of_mem_take hz))) (Int.toNat a1) (K_R.mk 0 0 0 [] 0) (by simp [os_R, ByteArray.size]); first | exact q | exact q.1 | exact q.2 | exact q.2.1 | exact q.2.2 | exact Nat.le_trans q (by decide) | exact Nat.le_trans q.1 (by decide) | (have q1 := q.1; simp only [length_map]; omega)))
              by_cases h6 : ((IntKind.wrap .i64 ((m134 ((getD a0 (Int.toNat a1) (K_R.mk 0 0 0 [] 0)).f3)) + ((getD a0 (Int.toNat a1) (K_R.mk 0 0 0 [] 0)).f2))) != ((getD a0 (Int.toNat a1) (K_R.mk 0 0 0 [] 0)).f1)) = true
              · try simp only [if_pos h6]
                exact callP_ok (ps := []) (os := []) (rs := [(.oi 1)]) (by kernel_rfl) (.f f0 (.f f1 (.h 7 (.row [(.i ((getD a0 (Int.toNat a1) (K_R.mk 0 0 0 [] 0)).f0)), (.i ((getD a0 (Int.toNat a1) (K_R.mk 0 0 0 [] 0)).f1)), (.i ((getD a0 (Int.toNat a1) (K_R.mk 0 0 0 [] 0)).f2)), (.sl (map b_si ((getD a0 (Int.toNat a1) (K_R.mk 0 0 0 [] 0)).f3))), (.i ((getD a0 (Int.toNat a1) (K_R.mk 0 0 0 [] 0)).f4))]) (.r 19 [] [] f2 (.f (nt h0) (.f (nt h0) (.f (nt h0) (.f (nt h0) (.f (nt h0) (.h 24 (.b false) (.h 26 (.b false) (.h 28 (.b false) (.h 30 (.b false) (.h 32 (.b false) (.r 33 [] [] f8 (.f (nt h0) (.f (nt h0) (.f (nt h1) (.f (nt h1) (.f (nt h1) (.f (nt h1) (.f (nt h1) (.h 34 (.b false) (.h 37 (.b false) (.h 40 (.b false) (.h 42 (.b false) (.h 44 (.b false) (.h 46 (.b false) (.h 48 (.b false) (.r 49 [] [] f16 (.f (nt h1) (.f (nt h1) (.f (nt h2) (.f (nt h2) (.f (nt h2) (.f (nt h2) (.f (nt h2) (.h 50 (.b false) (.h 53 (.b false) (.h 56 (.b false) (.h 58 (.b false) (.h 60 (.b false) (.h 62 (.b false) (.h 64 (.b false) (.r 65 [] [] f24 (.f (nt h2) (.f (nt h2) (.f (nt h3) (.f (nt h4) (.f (nt h4) (.f (nt h4) (.f (nt h4) (.f (nt h4) (.h 66 (.b false) (.h 69 (.b false) (.h 70 (.b false) (.h 85 (.b false) (.h 87 (.b false) (.h 89 (.b false) (.h 91 (.b false) (.h 93 (.b false) (.r 94 [] [] f33 (.f (nt h4) (.f (nt h4) (.f (nt h5) (.f (nt h5) (.f (nt h5) (.f (nt h5) (.f (nt h5) (.h 95 (.b false) (.h 98 (.b false) (.h 101 (.b false) (.h 103 (.b false) (.h 105 (.b false) (.h 107 (.b false) (.h 109 (.b false) (.r 110 [] [] f41 (.f (nt h5) (.f (nt h5) (.f (nt h5) (.f (nt h5) (.f (nt h5) (.f trivial (.f (nt h5) (.f (nt h5) (.f (nt h5) (.f (nt h5) (.f (nt h5) (.f (nt h5) (.f h6 (.h 111 (.b false) (.h 113 (.b false) (.h 115 (.b false) (.h 117 (.b false) (.h 119 (.b false) (.h 121 (.b false) (.h 123 (.b false) (.h 125 (.b false) (.h 127 (.b false) (.h 129 (.b false) (.h 132 (.b false) (.h 133 (.b true) .nil))))))))))))))))))))))))))))))))))))))))))))))))))))))))))))))))))))))))))))))))))))))))))))))))))))))
              · try simp only [if_neg h6]
                have f55 : (0 ≤ (0 : Int) ∧ (0 : Int) ≤ a1 ∧ a1 ≤ ((length (map b_R a0)) : Int)) ∧ ∀ r ∈ ((map b_R a0) : List (List B)), r.length = 5 := (by refine ⟨?_, lenB_R _⟩; simp only [length_map, length_set, length_append, length_replicate, length_cons, length_nil]; omega)
                have f56 : Ev F X (.call 144 [(.one (.bor (l0_0 + 1) (take (Int.toNat a1 - Int.toNat 0) (drop 0 (map b_R a0))))), (.oi ((getD a0 (Int.toNat a1) (K_R.mk 0 0 0 [] 0)).f0))] [] [] [(.oi (m144 (take (Int.toNat a1) a0) ((getD a0 (Int.toNat a1) (K_R.mk 0 0 0 [] 0)).f0)))]) := (by rw [show (take (Int.toNat a1 - Int.toNat 0) (drop 0 (map b_R a0))) = (map b_R (take (Int.toNat a1) a0)) from by first | rfl | (simp [map_take, map_drop]; done) | (simp [*, map_take, map_drop]; done)]; exact (e144 (a0 := (take (Int.toNat a1) a0)) (a1 := ((getD a0 (Int.toNat a1) (K_R.mk 0 0 0 [] 0)).f0)) (by simp only [length_take]; omega) (by intro z hz; exact os_ok_R z ((by assumption : ∀ z ∈ _, os_R z) z (List.mem_of_mem_take hz)))))
                by_cases h7 : (decide ((m144 (take (Int.toNat a1) a0) ((getD a0 (Int.toNat a1) (K_R.mk 0 0 0 [] 0)).f0)) ≥ 0)) = true
                · try simp only [if_pos h7]
                  exact callP_ok (ps := []) (os := []) (rs := [(.oi 6)]) (by kernel_rfl) (.f f0 (.f f1 (.h 7 (.row [(.i ((getD a0 (Int.toNat a1) (K_R.mk 0 0 0 [] 0)).f0)), (.i ((getD a0 (Int.toNat a1) (K_R.mk 0 0 0 [] 0)).f1)), (.i ((getD a0 (Int.toNat a1) (K_R.mk 0 0 0 [] 0)).f2)), (.sl (map b_si ((getD a0 (Int.toNat a1) (K_R.mk 0 0 0 [] 0)).f3))), (.i ((getD a0 (Int.toNat a1) (K_R.mk 0 0 0 [] 0)).f4))]) (.r 19 [] [] f2 (.f (nt h0) (.f (nt h0) (.f (nt h0) (.f (nt h0) (.f (nt h0) (.h 24 (.b false) (.h 26 (.b false) (.h 28 (.b false) (.h 30 (.b false) (.h 32 (.b false) (.r 33 [] [] f8 (.f (nt h0) (.f (nt h0) (.f (nt h1) (.f (nt h1) (.f (nt h1) (.f (nt h1) (.f (nt h1) (.h 34 (.b false) (.h 37 (.b false) (.h 40 (.b false) (.h 42 (.b false) (.h 44 (.b false) (.h 46 (.b false) (.h 48 (.b false) (.r 49 [] [] f16 (.f (nt h1) (.f (nt h1) (.f (nt h2) (.f (nt h2) (.f (nt h2) (.f (nt h2) (.f (nt h2) (.h 50 (.b false) (.h 53 (.b false) (.h 56 (.b false) (.h 58 (.b false) (.h 60 (.b false) (.h 62 (.b false) (.h 64 (.b false) (.r 65 [] [] f24 (.f (nt h2) (.f (nt h2) (.f (nt h3) (.f (nt h4) (.f (nt h4) (.f (nt h4) (.f (nt h4) (.f (nt h4) (.h 66 (.b false) (.h 69 (.b false) (.h 70 (.b false) (.h 85 (.b false) (.h 87 (.b false) (.h 89 (.b false) (.h 91 (.b false) (.h 93 (.b false) (.r 94 [] [] f33 (.f (nt h4) (.f (nt h4) (.f (nt h5) (.f (nt h5) (.f (nt h5) (.f (nt h5) (.f (nt h5) (.h 95 (.b false) (.h 98 (.b false) (.h 101 (.b false) (.h 103 (.b false) (.h 105 (.b false) (.h 107 (.b false) (.h 109 (.b false) (.r 110 [] [] f41 (.f (nt h5) (.f (nt h5) (.f (nt h5) (.f (nt h5) (.f (nt h5) (.f trivial (.f (nt h5) (.f (nt h5) (.f (nt h5) (.f (nt h5) (.f (nt h5) (.f (nt h5) (.f (nt h6) (.f f55 (.h 111 (.b false) (.h 113 (.b false) (.h 115 (.b false) (.h 117 (.b false) (.h 119 (.b false) (.h 121 (.b false) (.h 123 (.b false) (.h 125 (.b false) (.h 127 (.b false) (.h 129 (.b false) (.h 132 (.b false) (.h 133 (.b false) (.r 149 [] [] f56 (.f h7 (.h 152 (.b true) .nil))))))))))))))))))))))))))))))))))))))))))))))))))))))))))))))))))))))))))))))))))))))))))))))))))))))))))
                · try simp only [if_neg h7]
                  exact callP_ok (ps := []) (os := []) (rs := [(.oi 0)]) (by kernel_rfl) (.f f0 (.f f1 (.h 7 (.row [(.i ((getD a0 (Int.toNat a1) (K_R.mk 0 0 0 [] 0)).f0)), (.i ((getD a0 (Int.toNat a1) (K_R.mk 0 0 0 [] 0)).f1)), (.i ((getD a0 (Int.toNat a1) (K_R.mk 0 0 0 [] 0)).f2)), (.sl (map b_si ((getD a0 (Int.toNat a1) (K_R.mk 0 0 0 [] 0)).f3))), (.i ((getD a0 (Int.toNat a1) (K_R.mk 0 0 0 [] 0)).f4))]) (.r 19 [] [] f2 (.f (nt h0) (.f (nt h0) (.f (nt h0) (.f (nt h0) (.f (nt h0) (.h 24 (.b false) (.h 26 (.b false) (.h 28 (.b false) (.h 30 (.b false) (.h 32 (.b false) (.r 33 [] [] f8 (.f (nt h0) (.f (nt h0) (.f (nt h1) (.f (nt h1) (.f (nt h1) (.f (nt h1) (.f (nt h1) (.h 34 (.b false) (.h 37 (.b false) (.h 40 (.b false) (.h 42 (.b false) (.h 44 (.b false) (.h 46 (.b false) (.h 48 (.b false) (.r 49 [] [] f16 (.f (nt h1) (.f (nt h1) (.f (nt h2) (.f (nt h2) (.f (nt h2) (.f (nt h2) (.f (nt h2) (.h 50 (.b false) (.h 53 (.b false) (.h 56 (.b false) (.h 58 (.b false) (.h 60 (.b false) (.h 62 (.b false) (.h 64 (.b false) (.r 65 [] [] f24 (.f (nt h2) (.f (nt h2) (.f (nt h3) (.f (nt h4) (.f (nt h4) (.f (nt h4) (.f (nt h4) (.f (nt h4) (.h 66 (.b false) (.h 69 (.b false) (.h 70 (.b false) (.h 85 (.b false) (.h 87 (.b false) (.h 89 (.b false) (.h 91 (.b false) (.h 93 (.b false) (.r 94 [] [] f33 (.f (nt h4) (.f (nt h4) (.f (nt h5) (.f (nt h5) (.f (nt h5) (.f (nt h5) (.f (nt h5) (.h 95 (.b false) (.h 98 (.b false) (.h 101 (.b false) (.h 103 (.b false) (.h 105 (.b false) (.h 107 (.b false) (.h 109 (.b false) (.r 110 [] [] f41 (.f (nt h5) (.f (nt h5) (.f (nt h5) (.f (nt h5) (.f (nt h5) (.f trivial (.f (nt h5) (.f (nt h5) (.f (nt h5) (.f (nt h5) (.f (nt h5) (.f (nt h5) (.f (nt h6) (.f f55 (.h 111 (.b false) (.h 113 (.b false) (.h 115 (.b false) (.h 117 (.b false) (.h 119 (.b false) (.h 121 (.b false) (.h 123 (.b false) (.h 125 (.b false) (.h 127 (.b false) (.h 129 (.b false) (.h 132 (.b false) (.h 133 (.b false) (.r 149 [] [] f56 (.f (nt h7) (.h 152 (.b false) .nil))))))))))))))))))))))))))))))))))))))))))))))))))))))))))))))))))))))))))))))))))))))))))))))))))))))))))
/-! loop 135_0 -/
inductive O135_0 where
  | k0 (w0 : Int) (w1 : Int) (w2 : Bool)
def r135_0 (a0 : (List K_R)) (a1 : Bool) : List K_R → Int → Int → O135_0
  | x0 :: y0, i, v0 =>
    if (!a1) = true then (r135_0 a0 a1 y0 (i + 1) (IntKind.wrap .i64 (v0 + x0.f1))) else
    if (x0.f4 == 2) = true then (r135_0 a0 a1 y0 (i + 1) (IntKind.wrap .i64 (v0 + x0.f1))) else
      (r135_0 a0 a1 y0 (i + 1) v0)
  | [], i, v0 => (O135_0.k0 v0 i (decide (i < ((length (map b_R a0)) : Int))))
def h135_0 (l0_0 : Nat) (a0 : (List K_R)) (a1 : Bool) (i : Int) (v0 : Int) : St := ⟨[(0, (.one (.bor l0_0 (map b_R a0)))), (1, (.one (.val (.bool a1)))), (5, (.one (.val (.int .i64 v0)))), (6, (.one (.val (.int .i64 i))))], []⟩
def ex135_0 : O135_0 → VX.Exit
  | .k0 _ _ _ => (.exit 0)
def fin135_0 (l0_0 : Nat) (a0 : (List K_R)) (a1 : Bool) : O135_0 → St
  | .k0 w0 w1 w2 => ⟨[(0, (.one (.bor l0_0 (map b_R a0)))), (1, (.one (.val (.bool a1)))), (5, (.one (.val (.int .i64 w0)))), (6, (.one (.val (.int .i64 w1)))), (10, (.one (.val (.bool w2))))], []⟩
theorem t135_0 {l0_0 : Nat} {a0 : (List K_R)} {a1 : Bool} (hy0 : length a0 * 56 ≤ 140737488351232) (hy1 : ∀ z ∈ a0, ok_R z) : ∀ (y0 : List K_R) (p : List K_R) (v0 : Int), p ++ y0 = a0 → Ev F X (.code l135_0 (h135_0 l0_0 a0 a1 (length p : Int) v0) (ex135_0 (r135_0 a0 a1 y0 (length p : Int) v0)) (fin135_0 l0_0 a0 a1 (r135_0 a0 a1 y0 (length p : Int) v0)))
  | [], p, v0, hp0 => by
    have hc : ¬ (decide ((length p : Int) < ((length (map b_R a0)) : Int))) = true := by
      rw [← hp0]; simp only [length_map, length_set, length_append, length_replicate, length_cons, length_nil, decide_eq_true_eq]; omega
    have st := codeH_ok (F := F) (X := X) (c := b135_0) (t := 0) (hs := [(8, .b false)]) (σ := h135_0 l0_0 a0 a1 (length p : Int) v0) (σ' := fin135_0 l0_0 a0 a1 (.k0 v0 (length p : Int) (decide ((length p : Int) < ((length (map b_R a0)) : Int))))) (e := (.exit 0)) (t' := 9) (hs' := []) (q := [(decide ((length p : Int) < ((length (map b_R a0)) : Int))) = false]) (by kernel_rfl) ⟨(nt hc), trivial⟩
    exact .loopX st (show ((.exit 0) : VX.Exit) ≠ .normal from by simp)
  | x0 :: y0, p, v0, hp0 => by
    have hc : (decide ((length p : Int) < ((length (map b_R a0)) : Int))) = true := by
      rw [← hp0]; simp only [length_map, length_set, length_append, length_replicate, length_cons, length_nil, decide_eq_true_eq]; omega
    have Hx0 : (a0)[Int.toNat (length p : Int)]? = some x0 := by
      rw [← hp0, Int.toNat_natCast]; simp
    have Mx0_0 := hy1 x0 (List.mem_of_getElem? Hx0)
    have hlen : length (a0) = length p + length y0 + 1 := by rw [← hp0]; simp; omega
    have hw : IntKind.wrap .i64 ((length p : Int) + 1) = (length p : Int) + 1 := wrap64 (by omega)
    simp only [r135_0]
    by_cases h_1 : (!a1) = true
    · try simp only [if_pos h_1]
      have st := codeH_ok (F := F) (X := X) (c := b135_0) (t := 0) (hs := [(8, .b true), (15, .b true), (17, .b true), (19, .b true), (21, .b true), (23, .b true), (25, .b true), (28, .b true), (37, .row [(.i x0.f0), (.i x0.f1), (.i x0.f2), (.sl (map b_si x0.f3)), (.i x0.f4)])]) (σ := h135_0 l0_0 a0 a1 (length p : Int) v0) (σ' := ⟨[(0, (.one (.bor l0_0 (map b_R a0)))), (1, (.one (.val (.bool a1)))), (5, (.oi (IntKind.wrap .i64 (v0 + x0.f1)))), (6, (.oi (IntKind.wrap .i64 ((length p : Int) + 1))))], []⟩) (e := .normal) (t' := 52) (hs' := []) (q := [(decide ((length p : Int) < ((length (map b_R a0)) : Int))) = true, (!a1) = true, (!a1) = true, (!a1) = true, (!a1) = true, (!a1) = true, (!a1) = true, (!a1) = true, 0 ≤ (length p : Int), (map b_R a0)[(Int.toNat (length p : Int))]? = some [(.i x0.f0), (.i x0.f1), (.i x0.f2), (.sl (map b_si x0.f3)), (.i x0.f4)], True, True]) (by kernel_rfl) ⟨hc, h_1, h_1, h_1, h_1, h_1, h_1, h_1, (by omega), (by rw [getElem?_map, Hx0]; rfl), trivial, trivial, trivial⟩
      have ih := t135_0 (l0_0 := l0_0) (a0 := a0) (a1 := a1) hy0 hy1 y0 (p ++ [x0]) (IntKind.wrap .i64 (v0 + x0.f1)) (by rw [append_assoc]; exact hp0)
      rw [show ((p ++ [x0]).length : Int) = (p.length : Int) + 1 from by simp] at ih
      rw [show (⟨[(0, (.one (.bor l0_0 (map b_R a0)))), (1, (.one (.val (.bool a1)))), (5, (.oi (IntKind.wrap .i64 (v0 + x0.f1)))), (6, (.oi (IntKind.wrap .i64 ((length p : Int) + 1))))], []⟩ : St) = h135_0 l0_0 a0 a1 ((length p : Int) + 1) (IntKind.wrap .i64 (v0 + x0.f1)) from (by unfold h135_0; simp only [hw]; done)] at st
      exact .loopN st ih
    · try simp only [if_neg h_1]
      by_cases h_2 : (x0.f4 == 2) = true
      · try simp only [if_pos h_2]
        have st := codeH_ok (F := F) (X := X) (c := b135_0) (t := 0) (hs := [(8, .b true), (15, .b false), (17, .b false), (19, .b false), (20, .row [(.i x0.f0), (.i x0.f1), (.i x0.f2), (.sl (map b_si x0.f3)), (.i x0.f4)]), (21, .b false), (23, .b false), (25, .b false), (28, .b false), (29, .b true), (37, .row [(.i x0.f0), (.i x0.f1), (.i x0.f2), (.sl (map b_si x0.f3)), (.i x0.f4)])]) (σ := h135_0 l0_0 a0 a1 (length p : Int) v0) (σ' := ⟨[(0, (.one (.bor l0_0 (map b_R a0)))), (1, (.one (.val (.bool a1)))), (5, (.oi (IntKind.wrap .i64 (v0 + x0.f1)))), (6, (.oi (IntKind.wrap .i64 ((length p : Int) + 1))))], []⟩) (e := .normal) (t' := 52) (hs' := []) (q := [(decide ((length p : Int) < ((length (map b_R a0)) : Int))) = true, (!a1) = false, (!a1) = false, (!a1) = false, 0 ≤ (length p : Int), (map b_R a0)[(Int.toNat (length p : Int))]? = some [(.i x0.f0), (.i x0.f1), (.i x0.f2), (.sl (map b_si x0.f3)), (.i x0.f4)], (!a1) = false, (!a1) = false, (!a1) = false, (!a1) = false, (x0.f4 == 2) = true, 0 ≤ (length p : Int), (map b_R a0)[(Int.toNat (length p : Int))]? = some [(.i x0.f0), (.i x0.f1), (.i x0.f2), (.sl (map b_si x0.f3)), (.i x0.f4)], True, True]) (by kernel_rfl) ⟨hc, (nt h_1), (nt h_1), (nt h_1), (by omega), (by rw [getElem?_map, Hx0]; rfl), (nt h_1), (nt h_1), (nt h_1), (nt h_1), h_2, (by omega), (by rw [getElem?_map, Hx0]; rfl), trivial, trivial, trivial⟩
        have ih := t135_0 (l0_0 := l0_0) (a0 := a0) (a1 := a1) hy0 hy1 y0 (p ++ [x0]) (IntKind.wrap .i64 (v0 + x0.f1)) (by rw [append_assoc]; exact hp0)
        rw [show ((p ++ [x0]).length : Int) = (p.length : Int) + 1 from by simp] at ih
        rw [show (⟨[(0, (.one (.bor l0_0 (map b_R a0)))), (1, (.one (.val (.bool a1)))), (5, (.oi (IntKind.wrap .i64 (v0 + x0.f1)))), (6, (.oi (IntKind.wrap .i64 ((length p : Int) + 1))))], []⟩ : St) = h135_0 l0_0 a0 a1 ((length p : Int) + 1) (IntKind.wrap .i64 (v0 + x0.f1)) from (by unfold h135_0; simp only [hw]; done)] at st
        exact .loopN st ih
      · try simp only [if_neg h_2]
        have st := codeH_ok (F := F) (X := X) (c := b135_0) (t := 0) (hs := [(8, .b true), (15, .b false), (17, .b false), (19, .b false), (20, .row [(.i x0.f0), (.i x0.f1), (.i x0.f2), (.sl (map b_si x0.f3)), (.i x0.f4)]), (21, .b false), (23, .b false), (25, .b false), (28, .b false), (29, .b false)]) (σ := h135_0 l0_0 a0 a1 (length p : Int) v0) (σ' := ⟨[(0, (.one (.bor l0_0 (map b_R a0)))), (1, (.one (.val (.bool a1)))), (5, (.oi v0)), (6, (.oi (IntKind.wrap .i64 ((length p : Int) + 1))))], []⟩) (e := .normal) (t' := 36) (hs' := []) (q := [(decide ((length p : Int) < ((length (map b_R a0)) : Int))) = true, (!a1) = false, (!a1) = false, (!a1) = false, 0 ≤ (length p : Int), (map b_R a0)[(Int.toNat (length p : Int))]? = some [(.i x0.f0), (.i x0.f1), (.i x0.f2), (.sl (map b_si x0.f3)), (.i x0.f4)], (!a1) = false, (!a1) = false, (!a1) = false, (!a1) = false, (x0.f4 == 2) = false, True]) (by kernel_rfl) ⟨hc, (nt h_1), (nt h_1), (nt h_1), (by omega), (by rw [getElem?_map, Hx0]; rfl), (nt h_1), (nt h_1), (nt h_1), (nt h_1), (nt h_2), trivial, trivial⟩
        have ih := t135_0 (l0_0 := l0_0) (a0 := a0) (a1 := a1) hy0 hy1 y0 (p ++ [x0]) v0 (by rw [append_assoc]; exact hp0)
        rw [show ((p ++ [x0]).length : Int) = (p.length : Int) + 1 from by simp] at ih
        rw [show (⟨[(0, (.one (.bor l0_0 (map b_R a0)))), (1, (.one (.val (.bool a1)))), (5, (.oi v0)), (6, (.oi (IntKind.wrap .i64 ((length p : Int) + 1))))], []⟩ : St) = h135_0 l0_0 a0 a1 ((length p : Int) + 1) v0 from (by unfold h135_0; simp only [hw]; done)] at st
        exact .loopN st ih
/-! loop.example/g00539/spec.l14Totals -/
def m135 (a0 : (List K_R)) (a1 : Bool) : Int :=
  (match r135_0 a0 a1 a0 0 0 with | .k0 w0_0 w1_0 w2_0 => w0_0)
theorem e135 {l0_0 : Nat} {a0 : (List K_R)} {a1 : Bool} (hy0 : length a0 * 56 ≤ 140737488351232) (hy1 : ∀ z ∈ a0, ok_R z) : Ev F X (.call 135 [(.one (.bor l0_0 (map b_R a0))), (.one (.val (.bool a1)))] [] [] [(.one (.val (.int .i64 (m135 a0 a1))))]) := by
  unfold m135
  cases h0 : r135_0 a0 a1 a0 0 0 with
  | k0 w0_0 w1_0 w2_0 =>
    try dsimp only
    have f0 : (⟨[(0, (.one (.bor l0_0 (map b_R a0)))), (1, (.one (.val (.bool a1)))), (5, (.oi 0)), (6, (.oi 0))], []⟩ : St) = h135_0 l0_0 a0 a1 0 0 := (by rfl)
    have f1 : Ev F X (.code l135_0 (h135_0 l0_0 a0 a1 0 0) (.exit 0) ⟨[(0, (.one (.bor l0_0 (map b_R a0)))), (1, (.one (.val (.bool a1)))), (5, (.oi w0_0)), (6, (.oi w1_0)), (10, (.one (.val (.bool w2_0))))], []⟩) := (by have t : Ev F X (.code l135_0 (h135_0 l0_0 a0 a1 0 0) (ex135_0 (r135_0 a0 a1 a0 0 0)) (fin135_0 l0_0 a0 a1 (r135_0 a0 a1 a0 0 0))) := t135_0 (l0_0 := l0_0) (a0 := a0) (a1 := a1) (by assumption) (by assumption) a0 [] 0 rfl; rw [h0] at t; exact t)
    exact callP_ok (ps := []) (os := []) (rs := [(.oi w0_0)]) (by kernel_rfl) (.f f0 (.f f1 (.h 6 (.loop (h135_0 l0_0 a0 a1 0 0) (.exit 0) ⟨[(0, (.one (.bor l0_0 (map b_R a0)))), (1, (.one (.val (.bool a1)))), (5, (.oi w0_0)), (6, (.oi w1_0)), (10, (.one (.val (.bool w2_0))))], []⟩) .nil)))
/-! loop 68_0 -/
inductive O68_0 where
  | k0 (w0 : Int) (w1 : Bool)
  | k1 (w0 : Int)
def r68_0 (a0 : K_B) : List K_R → Int → O68_0
  | x0 :: y0, i =>
    if ((m132 a0.f3 i) != 0) = true then (O68_0.k1 (m132 a0.f3 i)) else
    (r68_0 a0 y0 (i + 1) )
  | [], i => (O68_0.k0 i (decide (i < ((length (map b_R a0.f3)) : Int))))
def h68_0 (l0 : Nat) (a0 : K_B) (i : Int)  : St := ⟨[(0, (.bptr l0 [(.val (.int .i64 a0.f0)), (.val (.int .i64 a0.f1)), (.sl (map b_si a0.f2)), (.sl (map b_R a0.f3)), (.sl (map b_si a0.f4)), (.val (.int .i64 a0.f5)), (.val (.int .i64 a0.f6)), (.val (.int .i64 a0.f7))])), (4, (.one (.val (.int .i64 i))))], []⟩
def ex68_0 : O68_0 → VX.Exit
  | .k0 _ _ => (.exit 0)
  | .k1 _ => .ret
def fin68_0 (l0 : Nat) (a0 : K_B) : O68_0 → St
  | .k0 w0 w1 => ⟨[(0, (.bptr l0 [(.val (.int .i64 a0.f0)), (.val (.int .i64 a0.f1)), (.sl (map b_si a0.f2)), (.sl (map b_R a0.f3)), (.sl (map b_si a0.f4)), (.val (.int .i64 a0.f5)), (.val (.int .i64 a0.f6)), (.val (.int .i64 a0.f7))])), (4, (.one (.val (.int .i64 w0)))), (49, (.one (.val (.bool w1))))], []⟩
  | .k1 w0 => ⟨[(2, (.one (.val (.int .i64 w0))))], []⟩
theorem t68_0 {l0 : Nat} {a0 : K_B} (hy0 : length a0.f2 * 24 ≤ 140737488351232) (hy1 : ∀ z ∈ a0.f2, os_si z) (hy2 : length a0.f3 * 56 ≤ 140737488351232) (hy3 : ∀ z ∈ a0.f3, os_R z) (hy4 : length a0.f4 * 24 ≤ 140737488351232) (hy5 : ∀ z ∈ a0.f4, os_si z) : ∀ (y0 : List K_R) (p : List K_R) , p ++ y0 = a0.f3 → Ev F X (.code l68_0 (h68_0 l0 a0 (length p : Int) ) (ex68_0 (r68_0 a0 y0 (length p : Int) )) (fin68_0 l0 a0 (r68_0 a0 y0 (length p : Int) )))
  | [], p, hp0 => by
    have hc : ¬ (decide ((length p : Int) < ((length (map b_R a0.f3)) : Int))) = true := by
      rw [← hp0]; simp only [length_map, length_set, length_append, length_replicate, length_cons, length_nil, decide_eq_true_eq]; omega
    have st := codeH_ok (F := F) (X := X) (c := b68_0) (t := 0) (hs := [(14, .b false)]) (σ := h68_0 l0 a0 (length p : Int) ) (σ' := fin68_0 l0 a0 (.k0 (length p : Int) (decide ((length p : Int) < ((length (map b_R a0.f3)) : Int))))) (e := (.exit 0)) (t' := 15) (hs' := []) (q := [(decide ((length p : Int) < ((length (map b_R a0.f3)) : Int))) = false]) (by kernel_rfl) ⟨(nt hc), trivial⟩
    exact .loopX st (show ((.exit 0) : VX.Exit) ≠ .normal from by simp)
  | x0 :: y0, p, hp0 => by
    have hc : (decide ((length p : Int) < ((length (map b_R a0.f3)) : Int))) = true := by
      rw [← hp0]; simp only [length_map, length_set, length_append, length_replicate, length_cons, length_nil, decide_eq_true_eq]; omega
    have Hx0 : (a0.f3)[Int.toNat (length p : Int)]? = some x0 := by
      rw [← hp0, Int.toNat_natCast]; simp
    obtain ⟨Mx0_0, Mx0_1⟩ := hy3 x0 (List.mem_of_getElem? Hx0)
    have hlen : length (a0.f3) = length p + length y0 + 1 := by rw [← hp0]; simp; omega
    have hw : IntKind.wrap .i64 ((length p : Int) + 1) = (length p : Int) + 1 := wrap64 (by omega)
    simp only [r68_0]
    by_cases h_1 : ((m132 a0.f3 (length p : Int)) != 0) = true
    · try simp only [if_pos h_1]
      have st := codeH_ok (F := F) (X := X) (c := b68_0) (t := 0) (hs := [(14, .b true), (26, .ret [] [(.oi (m132 a0.f3 (length p : Int)))] [] []), (33, .b true)]) (σ := h68_0 l0 a0 (length p : Int) ) (σ' := fin68_0 l0 a0 (.k1 (m132 a0.f3 (length p : Int)))) (e := .ret) (t' := 38) (hs' := []) (q := [(decide ((length p : Int) < ((length (map b_R a0.f3)) : Int))) = true, Ev F X (.call 132 [(.one (.bor (l0 + 1) (map b_R a0.f3))), (.oi (length p : Int))] [] [] [(.oi (m132 a0.f3 (length p : Int)))]), ((m132 a0.f3 (length p : Int)) != 0) = true]) (by kernel_rfl) ⟨hc, (e132 (a0 := a0.f3) (a1 := (length p : Int)) (by with_reducible assumption) (by with_reducible assumption) (by omega) (by omega)), h_1, trivial⟩
      exact .loopX st (show (.ret : VX.Exit) ≠ .normal from by simp)
    · try simp only [if_neg h_1]
      have st := codeH_ok (F := F) (X := X) (c := b68_0) (t := 0) (hs := [(14, .b true), (26, .ret [] [(.oi (m132 a0.f3 (length p : Int)))] [] []), (33, .b false)]) (σ := h68_0 l0 a0 (length p : Int) ) (σ' := ⟨[(0, (.bptr l0 [(.i a0.f0), (.i a0.f1), (.sl (map b_si a0.f2)), (.sl (map b_R a0.f3)), (.sl (map b_si a0.f4)), (.i a0.f5), (.i a0.f6), (.i a0.f7)])), (4, (.oi (IntKind.wrap .i64 ((length p : Int) + 1))))], []⟩) (e := .normal) (t' := 40) (hs' := []) (q := [(decide ((length p : Int) < ((length (map b_R a0.f3)) : Int))) = true, Ev F X (.call 132 [(.one (.bor (l0 + 1) (map b_R a0.f3))), (.oi (length p : Int))] [] [] [(.oi (m132 a0.f3 (length p : Int)))]), ((m132 a0.f3 (length p : Int)) != 0) = false, True]) (by kernel_rfl) ⟨hc, (e132 (a0 := a0.f3) (a1 := (length p : Int)) (by with_reducible assumption) (by with_reducible assumption) (by omega) (by omega)), (nt h_1), trivial, trivial⟩
      have ih := t68_0 (l0 := l0) (a0 := a0) hy0 hy1 hy2 hy3 hy4 hy5 y0 (p ++ [x0])  (by rw [append_assoc]; exact hp0)
      rw [show ((p ++ [x0]).length : Int) = (p.length : Int) + 1 from by simp] at ih
      rw [show (⟨[(0, (.bptr l0 [(.i a0.f0), (.i a0.f1), (.sl (map b_si a0.f2)), (.sl (map b_R a0.f3)), (.sl (map b_si a0.f4)), (.i a0.f5), (.i a0.f6), (.i a0.f7)])), (4, (.oi (IntKind.wrap .i64 ((length p : Int) + 1))))], []⟩ : St) = h68_0 l0 a0 ((length p : Int) + 1)  from (by unfold h68_0; simp only [hw]; done)] at st
      exact .loopN st ih
/-! loop.example/g00539/spec.l14Fault -/
def m68 (a0 : K_B) : Int :=
  if (!(m131 a0)) = true then 3 else
  if ((m107 a0.f2) != 0) = true then (m107 a0.f2) else
    if (decide (((length (map b_si a0.f2)) : Int) > a0.f0)) = true then 2 else
      if (decide (((length (map b_R a0.f3)) : Int) > 6)) = true then 2 else
        if (decide (((length (map b_si a0.f4)) : Int) > 8)) = true then 2 else
          (match r68_0 a0 a0.f3 0 with | .k0 w0_19 w1_19 => (if (!(m133 a0.f4)) = true then 1 else if ((IntKind.wrap .i64 ((IntKind.wrap .i64 ((m134 a0.f4) + a0.f6)) + a0.f5)) != (IntKind.wrap .i64 ((m135 a0.f3 true) + a0.f7))) = true then 7 else if (!(m110 (m135 a0.f3 false) 0 1000000)) = true then 7 else 0) | .k1 w0_19 => w0_19)
theorem e68 {l0 : Nat} {a0 : K_B} (hy0 : length a0.f2 * 24 ≤ 140737488351232) (hy1 : ∀ z ∈ a0.f2, os_si z) (hy2 : length a0.f3 * 56 ≤ 140737488351232) (hy3 : ∀ z ∈ a0.f3, os_R z) (hy4 : length a0.f4 * 24 ≤ 140737488351232) (hy5 : ∀ z ∈ a0.f4, os_si z) : Ev F X (.call 68 [(.bptr l0 [(.val (.int .i64 a0.f0)), (.val (.int .i64 a0.f1)), (.sl (map b_si a0.f2)), (.sl (map b_R a0.f3)), (.sl (map b_si a0.f4)), (.val (.int .i64 a0.f5)), (.val (.int .i64 a0.f6)), (.val (.int .i64 a0.f7))])] [] [] [(.one (.val (.int .i64 (m68 a0))))]) := by
  unfold m68
  have f0 : Ev F X (.call 131 [(.bptr (l0 + 1) [(.i a0.f0), (.i a0.f1), (.sl (map b_si a0.f2)), (.sl (map b_R a0.f3)), (.sl (map b_si a0.f4)), (.i a0.f5), (.i a0.f6), (.i a0.f7)])] [] [] [(.one (.val (.bool (m131 a0))))]) := (e131 (a0 := a0))
  by_cases h0 : (!(m131 a0)) = true
  · try simp only [if_pos h0]
    exact callP_ok (ps := []) (os := []) (rs := [(.oi 3)]) (by kernel_rfl) (.r 5 [] [] f0 (.f h0 (.h 8 (.b true) .nil)))
  · try simp only [if_neg h0]
    have f2 : Ev F X (.call 107 [(.one (.bor (l0 + 1) (map b_si a0.f2)))] [] [] [(.oi (m107 a0.f2))]) := (e107 (a0 := a0.f2) (by with_reducible assumption) (by with_reducible assumption))
    by_cases h1 : ((m107 a0.f2) != 0) = true
    · try simp only [if_pos h1]
      exact callP_ok (ps := []) (os := []) (rs := [(.oi (m107 a0.f2))]) (by kernel_rfl) (.r 5 [] [] f0 (.f (nt h0) (.h 8 (.b false) (.r 18 [] [] f2 (.f h1 (.h 25 (.b true) .nil))))))
    · try simp only [if_neg h1]
      by_cases h2 : (decide (((length (map b_si a0.f2)) : Int) > a0.f0)) = true
      · try simp only [if_pos h2]
        exact callP_ok (ps := []) (os := []) (rs := [(.oi 2)]) (by kernel_rfl) (.r 5 [] [] f0 (.f (nt h0) (.h 8 (.b false) (.r 18 [] [] f2 (.f (nt h1) (.f h2 (.f h2 (.f h2 (.f h2 (.f h2 (.f h2 (.f h2 (.h 25 (.b false) (.h 48 (.b true) (.h 50 (.b true) (.h 52 (.b true) (.h 54 (.b true) (.h 56 (.b true) (.h 58 (.b true) (.h 61 (.b true) .nil))))))))))))))))))))
      · try simp only [if_neg h2]
        by_cases h3 : (decide (((length (map b_R a0.f3)) : Int) > 6)) = true
        · try simp only [if_pos h3]
          exact callP_ok (ps := []) (os := []) (rs := [(.oi 2)]) (by kernel_rfl) (.r 5 [] [] f0 (.f (nt h0) (.h 8 (.b false) (.r 18 [] [] f2 (.f (nt h1) (.f (nt h2) (.f (nt h2) (.f (nt h2) (.f (nt h2) (.f (nt h2) (.f (nt h2) (.f (nt h2) (.f h3 (.f h3 (.f h3 (.f h3 (.f h3 (.f h3 (.f h3 (.h 25 (.b false) (.h 48 (.b false) (.h 50 (.b false) (.h 52 (.b false) (.h 54 (.b false) (.h 56 (.b false) (.h 58 (.b false) (.h 61 (.b false) (.h 64 (.b true) (.h 66 (.b true) (.h 68 (.b true) (.h 70 (.b true) (.h 72 (.b true) (.h 74 (.b true) (.h 77 (.b true) .nil))))))))))))))))))))))))))))))))))
        · try simp only [if_neg h3]
          by_cases h4 : (decide (((length (map b_si a0.f4)) : Int) > 8)) = true
          · try simp only [if_pos h4]
            exact callP_ok (ps := []) (os := []) (rs := [(.oi 2)]) (by kernel_rfl) (.r 5 [] [] f0 (.f (nt h0) (.h 8 (.b false) (.r 18 [] [] f2 (.f (nt h1) (.f (nt h2) (.f (nt h2) (.f (nt h2) (.f (nt h2) (.f (nt h2) (.f (nt h2) (.f (nt h2) (.f (nt h3) (.f (nt h3) (.f (nt h3) (.f (nt h3) (.f (nt h3) (.f (nt h3) (.f (nt h3) (.f h4 (.h 25 (.b false) (.h 48 (.b false) (.h 50 (.b false) (.h 52 (.b false) (.h 54 (.b false) (.h 56 (.b false) (.h 58 (.b false) (.h 61 (.b false) (.h 64 (.b false) (.h 66 (.b false) (.h 68 (.b false) (.h 70 (.b false) (.h 72 (.b false) (.h 74 (.b false) (.h 77 (.b false) (.h 78 (.b true) .nil))))))))))))))))))))))))))))))))))))
          · try simp only [if_neg h4]
            cases h5 : r68_0 a0 a0.f3 0 with
            | k0 w0_19 w1_19 =>
              try dsimp only
              have f19 : (⟨[(0, (.bptr l0 [(.i a0.f0), (.i a0.f1), (.sl (map b_si a0.f2)), (.sl (map b_R a0.f3)), (.sl (map b_si a0.f4)), (.i a0.f5), (.i a0.f6), (.i a0.f7)])), (4, (.oi 0))], []⟩ : St) = h68_0 l0 a0 0  := (by rfl)
              have f20 : Ev F X (.code l68_0 (h68_0 l0 a0 0 ) (.exit 0) ⟨[(0, (.bptr l0 [(.i a0.f0), (.i a0.f1), (.sl (map b_si a0.f2)), (.sl (map b_R a0.f3)), (.sl (map b_si a0.f4)), (.i a0.f5), (.i a0.f6), (.i a0.f7)])), (4, (.oi w0_19)), (49, (.one (.val (.bool w1_19))))], []⟩) := (by have t : Ev F X (.code l68_0 (h68_0 l0 a0 0 ) (ex68_0 (r68_0 a0 a0.f3 0)) (fin68_0 l0 a0 (r68_0 a0 a0.f3 0))) := t68_0 (l0 := l0) (a0 := a0) (by assumption) (by assumption) (by assumption) (by assumption) (by assumption) (by assumption) a0.f3 []  rfl; rw [h5] at t; exact t)
              have f21 : Ev F X (.call 133 [(.one (.bor (l0 + 1) (map b_si a0.f4)))] [] [] [(.one (.val (.bool (m133 a0.f4))))]) := (e133 (a0 := a0.f4) (by with_reducible assumption) (by with_reducible assumption))
              by_cases h6 : (!(m133 a0.f4)) = true
              · try simp only [if_pos h6]
                exact callP_ok (ps := []) (os := []) (rs := [(.oi 1)]) (by kernel_rfl) (.r 5 [] [] f0 (.f (nt h0) (.h 8 (.b false) (.r 18 [] [] f2 (.f (nt h1) (.f (nt h2) (.f (nt h2) (.f (nt h2) (.f (nt h2) (.f (nt h2) (.f (nt h2) (.f (nt h2) (.f (nt h3) (.f (nt h3) (.f (nt h3) (.f (nt h3) (.f (nt h3) (.f (nt h3) (.f (nt h3) (.f (nt h4) (.f f19 (.f f20 (.h 25 (.b false) (.h 48 (.b false) (.h 50 (.b false) (.h 52 (.b false) (.h 54 (.b false) (.h 56 (.b false) (.h 58 (.b false) (.h 61 (.b false) (.h 64 (.b false) (.h 66 (.b false) (.h 68 (.b false) (.h 70 (.b false) (.h 72 (.b false) (.h 74 (.b false) (.h 77 (.b false) (.h 78 (.b false) (.h 81 (.loop (h68_0 l0 a0 0 ) (.exit 0) ⟨[(0, (.bptr l0 [(.i a0.f0), (.i a0.f1), (.sl (map b_si a0.f2)), (.sl (map b_R a0.f3)), (.sl (map b_si a0.f4)), (.i a0.f5), (.i a0.f6), (.i a0.f7)])), (4, (.oi w0_19)), (49, (.one (.val (.bool w1_19))))], []⟩) (.r 91 [] [] f21 (.f h6 (.h 94 (.b true) .nil))))))))))))))))))))))))))))))))))))))))))
              · try simp only [if_neg h6]
                have f23 : Ev F X (.call 134 [(.one (.bor (l0 + 1) (map b_si a0.f4)))] [] [] [(.oi (m134 a0.f4))]) := (e134 (a0 := a0.f4) (by with_reducible assumption))
                have f26 : Ev F X (.call 135 [(.one (.bor (l0 + 1) (map b_R a0.f3))), (.one (.val (.bool true)))] [] [] [(.oi (m135 a0.f3 true))]) := (e135 (a0 := a0.f3) (a1 := true) (by with_reducible assumption) (by intro z hz; exact os_ok_R z ((by assumption : ∀ z ∈ a0.f3, os_R z) z hz)))
                by_cases h7 : ((IntKind.wrap .i64 ((IntKind.wrap .i64 ((m134 a0.f4) + a0.f6)) + a0.f5)) != (IntKind.wrap .i64 ((m135 a0.f3 true) + a0.f7))) = true
                · try simp only [if_pos h7]
                  exact callP_ok (ps := []) (os := []) (rs := [(.oi 7)]) (by kernel_rfl) (.r 5 [] [] f0 (.f (nt h0) (.h 8 (.b false) (.r 18 [] [] f2 (.f (nt h1) (.f (nt h2) (.f (nt h2) (.f (nt h2) (.f (nt h2) (.f (nt h2) (.f (nt h2) (.f (nt h2) (.f (nt h3) (.f (nt h3) (.f (nt h3) (.f (nt h3) (.f (nt h3) (.f (nt h3) (.f (nt h3) (.f (nt h4) (.f f19 (.f f20 (.h 25 (.b false) (.h 48 (.b false) (.h 50 (.b false) (.h 52 (.b false) (.h 54 (.b false) (.h 56 (.b false) (.h 58 (.b false) (.h 61 (.b false) (.h 64 (.b false) (.h 66 (.b false) (.h 68 (.b false) (.h 70 (.b false) (.h 72 (.b false) (.h 74 (.b false) (.h 77 (.b false) (.h 78 (.b false) (.h 81 (.loop (h68_0 l0 a0 0 ) (.exit 0) ⟨[(0, (.bptr l0 [(.i a0.f0), (.i a0.f1), (.sl (map b_si a0.f2)), (.sl (map b_R a0.f3)), (.sl (map b_si a0.f4)), (.i a0.f5), (.i a0.f6), (.i a0.f7)])), (4, (.oi w0_19)), (49, (.one (.val (.bool w1_19))))], []⟩) (.r 91 [] [] f21 (.f (nt h6) (.h 94 (.b false) (.r 104 [] [] f23 (.f trivial (.f trivial (.r 134 [] [] f26 (.f trivial (.f h7 (.f h7 (.f h7 (.f h7 (.f h7 (.f h7 (.f h7 (.f h7 (.h 149 (.b true) (.h 151 (.b true) (.h 153 (.b true) (.h 155 (.b true) (.h 157 (.b true) (.h 159 (.b true) (.h 161 (.b true) (.h 164 (.b true) .nil)))))))))))))))))))))))))))))))))))))))))))))))))))))))))))))))
                · try simp only [if_neg h7]
                  have f33 : Ev F X (.call 135 [(.one (.bor (l0 + 1) (map b_R a0.f3))), (.one (.val (.bool false)))] [] [] [(.oi (m135 a0.f3 false))]) := (e135 (a0 := a0.f3) (a1 := false) (by with_reducible assumption) (by intro z hz; exact os_ok_R z ((by assumption : ∀ z ∈ a0.f3, os_R z) z hz)))
                  have f35 : Ev F X (.call 115 [(.oi (m135 a0.f3 false))] [] [] [(.one (.val (.bool (m110 (m135 a0.f3 false) 0 1000000))))]) := (e115 (a0 := (m135 a0.f3 false)))
                  by_cases h8 : (!(m110 (m135 a0.f3 false) 0 1000000)) = true
                  · try simp only [if_pos h8]
                    exact callP_ok (ps := []) (os := []) (rs := [(.oi 7)]) (by kernel_rfl) (.r 5 [] [] f0 (.f (nt h0) (.h 8 (.b false) (.r 18 [] [] f2 (.f (nt h1) (.f (nt h2) (.f (nt h2) (.f (nt h2) (.f (nt h2) (.f (nt h2) (.f (nt h2) (.f (nt h2) (.f (nt h3) (.f (nt h3) (.f (nt h3) (.f (nt h3) (.f (nt h3) (.f (nt h3) (.f (nt h3) (.f (nt h4) (.f f19 (.f f20 (.h 25 (.b false) (.h 48 (.b false) (.h 50 (.b false) (.h 52 (.b false) (.h 54 (.b false) (.h 56 (.b false) (.h 58 (.b false) (.h 61 (.b false) (.h 64 (.b false) (.h 66 (.b false) (.h 68 (.b false) (.h 70 (.b false) (.h 72 (.b false) (.h 74 (.b false) (.h 77 (.b false) (.h 78 (.b false) (.h 81 (.loop (h68_0 l0 a0 0 ) (.exit 0) ⟨[(0, (.bptr l0 [(.i a0.f0), (.i a0.f1), (.sl (map b_si a0.f2)), (.sl (map b_R a0.f3)), (.sl (map b_si a0.f4)), (.i a0.f5), (.i a0.f6), (.i a0.f7)])), (4, (.oi w0_19)), (49, (.one (.val (.bool w1_19))))], []⟩) (.r 91 [] [] f21 (.f (nt h6) (.h 94 (.b false) (.r 104 [] [] f23 (.f trivial (.f trivial (.r 134 [] [] f26 (.f trivial (.f (nt h7) (.f (nt h7) (.f (nt h7) (.f (nt h7) (.f (nt h7) (.h 149 (.b false) (.h 151 (.b false) (.h 153 (.b false) (.h 155 (.b false) (.h 157 (.b false) (.r 158 [] [] f33 (.f (nt h7) (.h 159 (.b false) (.r 160 [] [] f35 (.f (nt h7) (.f (nt h7) (.f h8 (.h 161 (.b false) (.h 164 (.b false) (.h 165 (.b true) .nil)))))))))))))))))))))))))))))))))))))))))))))))))))))))))))))))))))
                  · try simp only [if_neg h8]
                    exact callP_ok (ps := []) (os := []) (rs := [(.oi 0)]) (by kernel_rfl) (.r 5 [] [] f0 (.f (nt h0) (.h 8 (.b false) (.r 18 [] [] f2 (.f (nt h1) (.f (nt h2) (.f (nt h2) (.f (nt h2) (.f (nt h2) (.f (nt h2) (.f (nt h2) (.f (nt h2) (.f (nt h3) (.f (nt h3) (.f (nt h3) (.f (nt h3) (.f (nt h3) (.f (nt h3) (.f (nt h3) (.f (nt h4) (.f f19 (.f f20 (.h 25 (.b false) (.h 48 (.b false) (.h 50 (.b false) (.h 52 (.b false) (.h 54 (.b false) (.h 56 (.b false) (.h 58 (.b false) (.h 61 (.b false) (.h 64 (.b false) (.h 66 (.b false) (.h 68 (.b false) (.h 70 (.b false) (.h 72 (.b false) (.h 74 (.b false) (.h 77 (.b false) (.h 78 (.b false) (.h 81 (.loop (h68_0 l0 a0 0 ) (.exit 0) ⟨[(0, (.bptr l0 [(.i a0.f0), (.i a0.f1), (.sl (map b_si a0.f2)), (.sl (map b_R a0.f3)), (.sl (map b_si a0.f4)), (.i a0.f5), (.i a0.f6), (.i a0.f7)])), (4, (.oi w0_19)), (49, (.one (.val (.bool w1_19))))], []⟩) (.r 91 [] [] f21 (.f (nt h6) (.h 94 (.b false) (.r 104 [] [] f23 (.f trivial (.f trivial (.r 134 [] [] f26 (.f trivial (.f (nt h7) (.f (nt h7) (.f (nt h7) (.f (nt h7) (.f (nt h7) (.h 149 (.b false) (.h 151 (.b false) (.h 153 (.b false) (.h 155 (.b false) (.h 157 (.b false) (.r 158 [] [] f33 (.f (nt h7) (.h 159 (.b false) (.r 160 [] [] f35 (.f (nt h7) (.f (nt h7) (.f (nt h8) (.h 161 (.b false) (.h 164 (.b false) (.h 165 (.b false) .nil)))))))))))))))))))))))))))))))))))))))))))))))))))))))))))))))))))
            | k1 w0_19 =>
              try dsimp only
              have f19 : (⟨[(0, (.bptr l0 [(.i a0.f0), (.i a0.f1), (.sl (map b_si a0.f2)), (.sl (map b_R a0.f3)), (.sl (map b_si a0.f4)), (.i a0.f5), (.i a0.f6), (.i a0.f7)])), (4, (.oi 0))], []⟩ : St) = h68_0 l0 a0 0  := (by rfl)
              have f20 : Ev F X (.code l68_0 (h68_0 l0 a0 0 ) .ret ⟨[(2, (.oi w0_19))], []⟩) := (by have t : Ev F X (.code l68_0 (h68_0 l0 a0 0 ) (ex68_0 (r68_0 a0 a0.f3 0)) (fin68_0 l0 a0 (r68_0 a0 a0.f3 0))) := t68_0 (l0 := l0) (a0 := a0) (by assumption) (by assumption) (by assumption) (by assumption) (by assumption) (by assumption) a0.f3 []  rfl; rw [h5] at t; exact t)
              exact callP_ok (ps := []) (os := []) (rs := [(.oi w0_19)]) (by kernel_rfl) (.r 5 [] [] f0 (.f (nt h0) (.h 8 (.b false) (.r 18 [] [] f2 (.f (nt h1) (.f (nt h2) (.f (nt h2) (.f (nt h2) (.f (nt h2) (.f (nt h2) (.f (nt h2) (.f (nt h2) (.f (nt h3) (.f (nt h3) (.f (nt h3) (.f (nt h3) (.f (nt h3) (.f (nt h3) (.f (nt h3) (.f (nt h4) (.f f19 (.f f20 (.h 25 (.b false) (.h 48 (.b false) (.h 50 (.b false) (.h 52 (.b false) (.h 54 (.b false) (.h 56 (.b false) (.h 58 (.b false) (.h 61 (.b false) (.h 64 (.b false) (.h 66 (.b false) (.h 68 (.b false) (.h 70 (.b false) (.h 72 (.b false) (.h 74 (.b false) (.h 77 (.b false) (.h 78 (.b false) (.h 81 (.loop (h68_0 l0 a0 0 ) .ret ⟨[(2, (.oi w0_19))], []⟩) .nil)))))))))))))))))))))))))))))))))))))))
theorem rl132 {a : List K_R} {i : Int} (h : m132 a i = 0) : (getD a (Int.toNat i) (K_R.mk 0 0 0 [] 0)).f3.length ≤ 12 := by
  unfold m132 at h
  simp only [length_map] at h
  by_cases c : ((getD a (Int.toNat i) (K_R.mk 0 0 0 [] 0)).f3.length : Int) > 12
  · exfalso
    simp only [c, decide_true, if_true] at h
    (repeat' split at h) <;> simp at h
  · omega
theorem rz68 (a0 : K_B) : ∀ (l : List K_R) (i : Nat), ((∃ u v, r68_0 a0 l i = .k0 u v) ∧ ∀ j : Nat, j < l.length → m132 a0.f3 ((i + j : Nat) : Int) = 0) ∨ (∃ w, r68_0 a0 l i = .k1 w ∧ w ≠ 0)
  | [], i => .inl ⟨⟨_, _, rfl⟩, fun j hj => by simp at hj⟩
  | x :: l, i => by
    have ih := rz68 a0 l (i + 1)
    simp only [r68_0]
    by_cases c : ((m132 a0.f3 (i : Int)) != 0) = true
    · rw [if_pos c]; exact .inr ⟨_, rfl, by simpa using c⟩
    · rw [if_neg c]
      rcases ih with ⟨h1, h2⟩ | h
      · refine .inl ⟨h1, fun j hj => ?_⟩
        cases j with
        | zero => simpa using c
        | succ j => have := h2 j (by simpa using hj); rw [← this]; congr 1; omega
      · exact .inr h
theorem fs68 {a0 : K_B} (h : ¬ ((m68 a0) != 0) = true) : a0.f2.length ≤ 12 ∧ a0.f3.length ≤ 6 ∧ (∀ z ∈ a0.f3, z.f3.length ≤ 12) ∧ a0.f4.length ≤ 8 := by
  have h : m68 a0 = 0 := by simpa using h
  unfold m68 at h
  split at h
  · cases h
  split at h
  · rename_i h2; rw [h] at h2; simp at h2
  rename_i h2
  split at h
  · cases h
  split at h
  · cases h
  rename_i h4
  split at h
  · cases h
  rename_i h5
  simp only [length_map, decide_eq_true_eq] at h4 h5
  rcases rz68 a0 a0.f3 0 with ⟨_, hz⟩ | ⟨w, hw, hn⟩
  · refine ⟨len12_107 _ h2, by omega, fun z hz2 => ?_, by omega⟩
    obtain ⟨j, hj⟩ := List.getElem?_of_mem hz2
    have hlt : j < a0.f3.length := by
      have := List.getElem?_eq_some_iff.1 hj; exact this.1
    have := rl132 (hz j hlt)
    rw [Nat.zero_add, Int.toNat_natCast, List.getD_eq_getElem?_getD, hj] at this
    exact this
  · rw [show ((0 : Nat) : Int) = 0 from rfl] at hw
    rw [hw] at h; exact absurd h hn
theorem rg68 {a0 : K_B} (h : ¬ ((m68 a0) != 0) = true) : 1 ≤ a0.f0 ∧ a0.f0 ≤ 12 := by
  have h : m68 a0 = 0 := by simpa using h
  unfold m68 at h
  by_cases c : m131 a0 = true
  · unfold m131 at c
    by_cases d : m110 a0.f0 1 12 = true
    · unfold m110 at d
      split at d <;> simp_all <;> omega
    · rw [if_neg d] at c; cases c
  · rw [if_pos (by simpa using c)] at h; cases h
theorem oset {l : List K_R} {i : Nat} {x : K_R} (h : ∀ z ∈ l, z.f3.length ≤ 12) (hx : x.f3.length ≤ 12) : ∀ z ∈ l.set i x, ok_R z := by
  intro z hz
  rcases List.mem_or_eq_of_mem_set hz with hz | rfl
  · have := h z hz; unfold ok_R; omega
  · unfold ok_R; omega
theorem oall {l : List K_R} (h : ∀ z ∈ l, z.f3.length ≤ 12) : ∀ z ∈ l, ok_R z := by
  intro z hz; have := h z hz; unfold ok_R; omega
theorem oapp {l : List K_R} {x : K_R} (h : ∀ z ∈ l, z.f3.length ≤ 12) (hx : x.f3.length ≤ 12) : ∀ z ∈ l ++ [x], ok_R z := by
  intro z hz
  rcases List.mem_append.1 hz with hz | hz
  · have := h z hz; unfold ok_R; omega
  · cases List.mem_singleton.1 hz; unfold ok_R; omega
theorem oget {l : List K_R} (h : ∀ z ∈ l, z.f3.length ≤ 12) (i : Nat) : (getD l i (K_R.mk 0 0 0 [] 0)).f3.length ≤ 12 := by
  rw [List.getD_eq_getElem?_getD]
  cases h2 : l[i]? with
  | none => simp
  | some x => exact h x (List.mem_of_getElem? h2)
/-! loop.example/g00539/spec.l14Bad -/
def m81 (a0 : Int) : K_C :=
  (K_C.mk a0 0 0 0 [] [] [] 0 0 0)
theorem e81 {a0 : Int} : Ev F X (.call 81 [(.one (.val (.int .i64 a0)))] [] [] [(.agg [(.val (.int .i64 ((K_C.mk a0 0 0 0 [] [] [] 0 0 0).f0))), (.val (.int .i64 ((K_C.mk a0 0 0 0 [] [] [] 0 0 0).f1))), (.val (.int .i64 ((K_C.mk a0 0 0 0 [] [] [] 0 0 0).f2))), (.val (.int .i64 ((K_C.mk a0 0 0 0 [] [] [] 0 0 0).f3))), (.own 2 (map d_si ((K_C.mk a0 0 0 0 [] [] [] 0 0 0).f4))), (.own 5 (map d_R ((K_C.mk a0 0 0 0 [] [] [] 0 0 0).f5))), (.own 2 (map d_si ((K_C.mk a0 0 0 0 [] [] [] 0 0 0).f6))), (.val (.int .i64 ((K_C.mk a0 0 0 0 [] [] [] 0 0 0).f7))), (.val (.int .i64 ((K_C.mk a0 0 0 0 [] [] [] 0 0 0).f8))), (.val (.int .i64 ((K_C.mk a0 0 0 0 [] [] [] 0 0 0).f9)))])]) := by
  have f0 : pureR [] = true := (by trivial)
  have f1 : pureR [] = true := (by with_reducible assumption)
  have f2 : pureR [] = true := (by with_reducible assumption)
  exact callP_ok (ps := []) (os := []) (rs := [(.agg [(.i a0), (.i 0), (.i 0), (.i 0), (.own 2 []), (.own 5 []), (.own 2 []), (.i 0), (.i 0), (.i 0)])]) (by kernel_rfl) (.f f0 (.f f1 (.f f2 .nil)))
/-! loop 111_0 -/
inductive O111_0 where
  | k0 (w0 : Nat) (w1 : Nat) (w2 : Bool)
def r111_0 (a2 : Int) : Nat → Nat → Nat → O111_0
  | n + 1, v0, v1 =>
    if (decide ((v0 : Int) > a2)) = true then (r111_0 a2 n (Int.toNat (v0 : Int) - Int.toNat 1) (v1 + 1)) else
    (O111_0.k0 v1 v0 (decide ((v0 : Int) > a2)))
  | 0, v0, v1 => (O111_0.k0 v1 v0 (decide ((v0 : Int) > a2)))
def h111_0 (l0_0 : Nat) (a0 : (List K_si)) (a1 : K_si) (a2 : Int) (v0 : Nat) (v1 : Nat) : St := ⟨[(2, (.one (.val (.int .i64 a2)))), (7, (.one (.ref ⟨(7, 0, 0), [], v1, v0⟩)))], [((7, 0, 0), .live ⟨2, (map d_si ((([]) ++ a0) ++ ([a1]))), []⟩)]⟩
def ex111_0 : O111_0 → VX.Exit
  | .k0 _ _ _ => (.exit 0)
def fin111_0 (l0_0 : Nat) (a0 : (List K_si)) (a1 : K_si) (a2 : Int) : O111_0 → St
  | .k0 w0 w1 w2 => ⟨[(2, (.one (.val (.int .i64 a2)))), (7, (.one (.ref ⟨(7, 0, 0), [], w0, w1⟩))), (17, (.one (.val (.bool w2))))], [((7, 0, 0), .live ⟨2, (map d_si ((([]) ++ a0) ++ ([a1]))), []⟩)]⟩
theorem t111_0 {l0_0 : Nat} {a0 : (List K_si)} {a1 : K_si} {a2 : Int} (hy0 : length a0 ≤ 1000) (hy1 : 0 ≤ a2) : ∀ (n : Nat) (v0 : Nat) (v1 : Nat), v1 + v0 ≤ (length (map d_si ((([]) ++ a0) ++ ([a1])))) → v0 ≤ n → Ev F X (.code l111_0 (h111_0 l0_0 a0 a1 a2 v0 v1) (ex111_0 (r111_0 a2 n v0 v1)) (fin111_0 l0_0 a0 a1 a2 (r111_0 a2 n v0 v1)))
  | 0, v0, v1, hi0, hn => by
    have hc : ¬ (decide ((v0 : Int) > a2)) = true := by first | (exact fuel64_zero hn) | (simp only [decide_eq_true_eq] at *; omega) | (simp at *; omega)
    have st := codeP_ok (F := F) (X := X) (c := b111_0) (t := 0) (σ := h111_0 l0_0 a0 a1 a2 v0 v1) (σ' := ⟨[(2, (.oi a2)), (7, (.one (.ref ⟨(7, 0, 0), [], v1, v0⟩))), (17, (.one (.val (.bool (decide ((v0 : Int) > a2))))))], [((7, 0, 0), .live ⟨2, (map d_si ((([]) ++ a0) ++ ([a1]))), []⟩)]⟩) (e := (.exit 0)) (t' := 9) (by kernel_rfl) (.f (nt hc) (.h 8 (.b false) .nil))
    rw [show (⟨[(2, (.oi a2)), (7, (.one (.ref ⟨(7, 0, 0), [], v1, v0⟩))), (17, (.one (.val (.bool (decide ((v0 : Int) > a2))))))], [((7, 0, 0), .live ⟨2, (map d_si ((([]) ++ a0) ++ ([a1]))), []⟩)]⟩ : St) = fin111_0 l0_0 a0 a1 a2 (.k0 v1 v0 (decide ((v0 : Int) > a2))) from (by rfl)] at st
    exact .loopX st (show ((.exit 0) : VX.Exit) ≠ .normal from by simp)
  | n + 1, v0, v1, hi0, hn => by
    simp only [r111_0]
    by_cases h_0 : (decide ((v0 : Int) > a2)) = true
    · try simp only [if_pos h_0]
      have f1 : v1 + v0 ≤ (length (map d_si ((([]) ++ a0) ++ ([a1])))) := (by with_reducible assumption)
      have f2 : 0 ≤ (1 : Int) ∧ (1 : Int) ≤ (v0 : Int) ∧ (v0 : Int) ≤ (v0 : Int) := (by simp only [decide_eq_true_eq] at *; omega)
      have st := codeP_ok (F := F) (X := X) (c := b111_0) (t := 0) (σ := h111_0 l0_0 a0 a1 a2 v0 v1) (σ' := ⟨[(2, (.oi a2)), (7, (.one (.ref ⟨(7, 0, 0), [], (v1 + 1), (Int.toNat (v0 : Int) - Int.toNat 1)⟩)))], [((7, 0, 0), .live ⟨2, (map d_si ((([]) ++ a0) ++ ([a1]))), []⟩)]⟩) (e := .normal) (t' := 15) (by kernel_rfl) (.f h_0 (.f f1 (.f f2 (.h 8 (.b true) .nil))))
      have ih := t111_0 (l0_0 := l0_0) (a0 := a0) (a1 := a1) (a2 := a2) hy0 hy1 n (Int.toNat (v0 : Int) - Int.toNat 1) (v1 + 1) (by omega) (by omega)
      rw [show (⟨[(2, (.oi a2)), (7, (.one (.ref ⟨(7, 0, 0), [], (v1 + 1), (Int.toNat (v0 : Int) - Int.toNat 1)⟩)))], [((7, 0, 0), .live ⟨2, (map d_si ((([]) ++ a0) ++ ([a1]))), []⟩)]⟩ : St) = h111_0 l0_0 a0 a1 a2 (Int.toNat (v0 : Int) - Int.toNat 1) (v1 + 1) from (by rfl)] at st
      exact .loopN st ih
    · try simp only [if_neg h_0]
      have st := codeP_ok (F := F) (X := X) (c := b111_0) (t := 0) (σ := h111_0 l0_0 a0 a1 a2 v0 v1) (σ' := ⟨[(2, (.oi a2)), (7, (.one (.ref ⟨(7, 0, 0), [], v1, v0⟩))), (17, (.one (.val (.bool (decide ((v0 : Int) > a2))))))], [((7, 0, 0), .live ⟨2, (map d_si ((([]) ++ a0) ++ ([a1]))), []⟩)]⟩) (e := (.exit 0)) (t' := 9) (by kernel_rfl) (.f (nt h_0) (.h 8 (.b false) .nil))
      rw [show (⟨[(2, (.oi a2)), (7, (.one (.ref ⟨(7, 0, 0), [], v1, v0⟩))), (17, (.one (.val (.bool (decide ((v0 : Int) > a2))))))], [((7, 0, 0), .live ⟨2, (map d_si ((([]) ++ a0) ++ ([a1]))), []⟩)]⟩ : St) = fin111_0 l0_0 a0 a1 a2 (.k0 v1 v0 (decide ((v0 : Int) > a2))) from (by rfl)] at st
      exact .loopX st (show ((.exit 0) : VX.Exit) ≠ .normal from by simp)
/-! loop 111_0, behind -/
def post111_0 (a0 : (List K_si)) (a1 : K_si) (a2 : Int) : O111_0 → Prop
  | .k0 w0 w1 _ => w0 + w1 ≤ (length (map d_si ((([]) ++ a0) ++ ([a1]))))
theorem z111_0 {a0 : (List K_si)} {a1 : K_si} {a2 : Int} (hy0 : length a0 ≤ 1000) (hy1 : 0 ≤ a2) : ∀ (n : Nat) (v0 : Nat) (v1 : Nat), v1 + v0 ≤ (length (map d_si ((([]) ++ a0) ++ ([a1])))) → post111_0 a0 a1 a2 (r111_0 a2 n v0 v1)
  | 0, v0, v1, hi0 => by
    simp only [r111_0]
    first | trivial | (show _ ; simp only [post111_0]; omega) | (simp only [post111_0] at *; omega) | (simp only [decide_eq_true_eq] at *; omega)
  | n + 1, v0, v1, hi0 => by
    simp only [r111_0]
    by_cases h_0 : (decide ((v0 : Int) > a2)) = true
    · try simp only [if_pos h_0]
      exact z111_0 (a0 := a0) (a1 := a1) (a2 := a2) hy0 hy1 n (Int.toNat (v0 : Int) - Int.toNat 1) (v1 + 1) (by simp only [decide_eq_true_eq] at *; omega)
    · try simp only [if_neg h_0]
      first | trivial | (show _ ; simp only [post111_0]; omega) | (simp only [post111_0] at *; omega) | (simp only [decide_eq_true_eq] at *; omega)
/-! loop.example/g00539/spec.l13Push -/
def m111 (a0 : (List K_si)) (a1 : K_si) (a2 : Int) : (List K_si) :=
  (match r111_0 a2 ((length (map d_si ((([]) ++ a0) ++ ([a1]))))) (length (map d_si ((([]) ++ a0) ++ ([a1])))) 0 with | .k0 w0_2 w1_2 w2_2 => (([]) ++ (take w1_2 (drop w0_2 ((([]) ++ a0) ++ ([a1]))))))
theorem e111 {l0_0 : Nat} {a0 : (List K_si)} {a1 : K_si} {a2 : Int} (hy0 : length a0 ≤ 1000) (hy1 : 0 ≤ a2) : Ev F X (.call 111 [(.one (.bor l0_0 (map b_si a0))), (.agg [(.val (.string a1.f0)), (.val (.int .i64 a1.f1))]), (.one (.val (.int .i64 a2)))] [] [] [(.one (.own 2 (map d_si (m111 a0 a1 a2))))]) := by
  unfold m111
  have f0 : 0 + 0 ≤ 0 := (by omega)
  have f1 : (length ([] ++ (fromBR l0_0 (map b_si a0)))) * 24 ≤ 70368744177664 := (by simp; omega)
  have f2 : ∀ r ∈ ((fromBR l0_0 (map b_si a0)) : List (List D)), r.length = 2 := (by simp [*, b_si, d_si, byteRows_eq, ints_y]; done)
  have f3 : 0 + (length ([] ++ (fromBR l0_0 (map b_si a0)))) ≤ (length ([] ++ (fromBR l0_0 (map b_si a0)))) := (by omega)
  have f4 : 1 ≤ 1 := (by omega)
  have f5 : ((take 1 (drop 0 [[(.val (.string a1.f0)), (.val (.int .i64 a1.f1))]])).all fun x => x.all copyable) = true := (by trivial)
  have f6 : (length ((take (length ([] ++ (fromBR l0_0 (map b_si a0)))) (drop 0 ([] ++ (fromBR l0_0 (map b_si a0))))) ++ ([[(.val (.string a1.f0)), (.val (.int .i64 a1.f1))]] : List (List D)))) * 24 ≤ 70368744177664 := (by simp; omega)
  have f7 : ∀ r ∈ ([[(.val (.string a1.f0)), (.val (.int .i64 a1.f1))]] : List (List D)), r.length = 2 := (by simp; done)
  have f8 : ((take (length ([] ++ (fromBR l0_0 (map b_si a0)))) (drop 0 ([] ++ (fromBR l0_0 (map b_si a0))))) ++ ([[(.val (.string a1.f0)), (.val (.int .i64 a1.f1))]] : List (List D))) = (map d_si ((([]) ++ a0) ++ ([a1]))) := (by simp [byteRows_eq, ints_y, take_of_length_le, d_si, d_R, d_B, d_b, d_i, d_C, d_LsiE, d_iLsiE, d_Q, d_s, d_y, fromBR_si, fromBR_b, fromBR_i, fromBR_s, fromBR_y]; done)
  cases h0 : r111_0 a2 ((length (map d_si ((([]) ++ a0) ++ ([a1]))))) (length (map d_si ((([]) ++ a0) ++ ([a1])))) 0 with
  | k0 w0_2 w1_2 w2_2 =>
    try dsimp only
    have zh0 := z111_0 (a0 := a0) (a1 := a1) (a2 := a2) (by assumption) (by assumption) ((length (map d_si ((([]) ++ a0) ++ ([a1]))))) (length (map d_si ((([]) ++ a0) ++ ([a1])))) 0 (by omega); rw [h0] at zh0; simp only [post111_0] at zh0
    have f9 : (⟨[(2, (.oi a2)), (7, (.one (.ref ⟨(7, 0, 0), [], 0, (length ((take (length ([] ++ (fromBR l0_0 (map b_si a0)))) (drop 0 ([] ++ (fromBR l0_0 (map b_si a0))))) ++ ([[(.val (.string a1.f0)), (.i a1.f1)]] : List (List D))))⟩)))], [((7, 0, 0), .live ⟨2, (map d_si ((([]) ++ a0) ++ ([a1]))), []⟩)]⟩ : St) = h111_0 l0_0 a0 a1 a2 (length (map d_si ((([]) ++ a0) ++ ([a1])))) 0 := (by unfold h111_0; simp [byteRows_eq, ints_y, take_of_length_le, d_si, d_R, d_B, d_b, d_i, d_C, d_LsiE, d_iLsiE, d_Q, d_s, d_y, fromBR_si, fromBR_b, fromBR_i, fromBR_s, fromBR_y]; done)
    have f10 : Ev F X (.code l111_0 (h111_0 l0_0 a0 a1 a2 (length (map d_si ((([]) ++ a0) ++ ([a1])))) 0) (.exit 0) ⟨[(2, (.oi a2)), (7, (.one (.ref ⟨(7, 0, 0), [], w0_2, w1_2⟩))), (17, (.one (.val (.bool w2_2))))], [((7, 0, 0), .live ⟨2, (map d_si ((([]) ++ a0) ++ ([a1]))), []⟩)]⟩) := (by have t : Ev F X (.code l111_0 (h111_0 l0_0 a0 a1 a2 (length (map d_si ((([]) ++ a0) ++ ([a1])))) 0) (ex111_0 (r111_0 a2 ((length (map d_si ((([]) ++ a0) ++ ([a1]))))) (length (map d_si ((([]) ++ a0) ++ ([a1])))) 0)) (fin111_0 l0_0 a0 a1 a2 (r111_0 a2 ((length (map d_si ((([]) ++ a0) ++ ([a1]))))) (length (map d_si ((([]) ++ a0) ++ ([a1])))) 0))) := t111_0 (l0_0 := l0_0) (a0 := a0) (a1 := a1) (a2 := a2) (by assumption) (by assumption) ((length (map d_si ((([]) ++ a0) ++ ([a1]))))) (length (map d_si ((([]) ++ a0) ++ ([a1])))) 0  (by omega) (Nat.le_refl _); rw [h0] at t; exact t)
    have f11 : 0 + 0 ≤ 0 := (by omega)
    have f12 : w0_2 + w1_2 ≤ (length (map d_si ((([]) ++ a0) ++ ([a1])))) := (by with_reducible assumption)
    have f13 : ((take w1_2 (drop w0_2 (map d_si ((([]) ++ a0) ++ ([a1]))))).all fun x => x.all copyable) = true := (ct_si _ _ _)
    have f14 : (length ([] ++ (take w1_2 (drop w0_2 (map d_si ((([]) ++ a0) ++ ([a1]))))))) * 24 ≤ 70368744177664 := (by simp only [length_map, length_append, length_cons, length_nil, length_take, length_drop]; omega)
    have f15 : ∀ r ∈ ((take w1_2 (drop w0_2 (map d_si ((([]) ++ a0) ++ ([a1]))))) : List (List D)), r.length = 2 := (by intro r hr; exact lenD_si _ r (List.mem_of_mem_drop (List.mem_of_mem_take hr)))
    have f16 : ([] ++ (take w1_2 (drop w0_2 (map d_si ((([]) ++ a0) ++ ([a1])))))) = (map d_si (([]) ++ (take w1_2 (drop w0_2 ((([]) ++ a0) ++ ([a1])))))) := (by simp [byteRows_eq, ints_y, take_of_length_le, d_si, d_R, d_B, d_b, d_i, d_C, d_LsiE, d_iLsiE, d_Q, d_s, d_y, fromBR_si, fromBR_b, fromBR_i, fromBR_s, fromBR_y]; done)
    have f17 : 0 = 0 := rfl
    have f18 : (length ([] ++ (take w1_2 (drop w0_2 (map d_si ((([]) ++ a0) ++ ([a1]))))))) = (length (map d_si (([]) ++ (take w1_2 (drop w0_2 ((([]) ++ a0) ++ ([a1]))))))) := (by simp; done)
    have f19 : pureR (map d_si (([]) ++ (take w1_2 (drop w0_2 ((([]) ++ a0) ++ ([a1])))))) = true := (by simp [← map_take, ← map_drop]; done)
    exact callP_ok (ps := []) (os := []) (rs := [(.one (.own 2 (map d_si (([]) ++ (take w1_2 (drop w0_2 ((([]) ++ a0) ++ ([a1]))))))))]) (by kernel_rfl) (.f f0 (.f f1 (.f f2 (.f f3 (.f f4 (.f f5 (.f f6 (.f f7 (.f f8 (.f f9 (.f f10 (.f f11 (.f f12 (.f f13 (.f f14 (.f f15 (.f f16 (.f f17 (.f f18 (.f f19 (.h 15 (.b true) (.h 18 (.norm (7, 0, 0) (map d_si ((([]) ++ a0) ++ ([a1])))) (.h 19 (.loop (h111_0 l0_0 a0 a1 a2 (length (map d_si ((([]) ++ a0) ++ ([a1])))) 0) (.exit 0) ⟨[(2, (.oi a2)), (7, (.one (.ref ⟨(7, 0, 0), [], w0_2, w1_2⟩))), (17, (.one (.val (.bool w2_2))))], [((7, 0, 0), .live ⟨2, (map d_si ((([]) ++ a0) ++ ([a1]))), []⟩)]⟩) (.h 25 (.b true) (.h 28 (.norm (6, 0, 0) (map d_si (([]) ++ (take w1_2 (drop w0_2 ((([]) ++ a0) ++ ([a1]))))))) .nil)))))))))))))))))))))))))
theorem prun_111 (c : Int) (hc : 0 ≤ c) : ∀ (f n lo : Nat), n ≤ f → r111_0 c f n lo = .k0 (lo + (n - c.toNat)) (min n c.toNat) false
  | 0, n, lo, h => by
    have : n = 0 := by omega
    subst this
    have h0 : ¬ (0 : Int) > c := by omega
    simp [r111_0, h0]
  | f + 1, n, lo, h => by
    simp only [r111_0, decide_eq_true_eq]
    split
    · rename_i h1
      rw [prun_111 c hc f _ _ (by omega)]
      congr 1 <;> omega
    · rename_i h1
      have h2 : (decide ((n : Int) > c)) = false := by simp only [decide_eq_false_iff_not]; exact h1
      rw [h2]
      congr 1 <;> omega
theorem push_111 (a : List K_si) (b : K_si) (c : Int) (hc : 0 ≤ c) : m111 a b c = drop (a.length + 1 - c.toNat) (a ++ [b]) := by
  unfold m111
  rw [prun_111 c hc _ _ _ (by simp)]
  simp only [List.nil_append, length_map, length_append, length_cons, length_nil, Nat.zero_add]
  rw [take_of_length_le (by simp only [length_drop, length_append, length_cons, length_nil]; omega)]
/-! loop.example/g00539/spec.l14Weights -/
def m170 (a0 : (List K_si)) : (List K_si) :=
  (([]) ++ a0)
theorem e170 {l0_0 : Nat} {a0 : (List K_si)} (hy0 : length a0 * 24 ≤ 70368744177664) : Ev F X (.call 170 [(.one (.bor l0_0 (map b_si a0)))] [] [] [(.one (.own 2 (map d_si (([]) ++ a0))))]) := by
  have f0 : 0 + 0 ≤ 0 := (by omega)
  have f1 : (length ([] ++ (fromBR l0_0 (map b_si a0)))) * 24 ≤ 70368744177664 := (by simp; omega)
  have f2 : ∀ r ∈ ((fromBR l0_0 (map b_si a0)) : List (List D)), r.length = 2 := (by simp [*, b_si, d_si, byteRows_eq, ints_y]; done)
  have f3 : ([] ++ (fromBR l0_0 (map b_si a0))) = (map d_si (([]) ++ a0)) := (by simp [byteRows_eq, ints_y, take_of_length_le, d_si, d_R, d_B, d_b, d_i, d_C, d_LsiE, d_iLsiE, d_Q, d_s, d_y, fromBR_si, fromBR_b, fromBR_i, fromBR_s, fromBR_y]; done)
  have f4 : 0 = 0 := rfl
  have f5 : (length ([] ++ (fromBR l0_0 (map b_si a0)))) = (length (map d_si (([]) ++ a0))) := (by simp; done)
  have f6 : pureR (map d_si (([]) ++ a0)) = true := (by simp; done)
  exact callP_ok (ps := []) (os := []) (rs := [(.one (.own 2 (map d_si (([]) ++ a0))))]) (by kernel_rfl) (.f f0 (.f f1 (.f f2 (.f f3 (.f f4 (.f f5 (.f f6 (.h 10 (.norm (2, 0, 0) (map d_si (([]) ++ a0))) .nil))))))))
/-! loop 139_0 -/
inductive O139_0 where
  | k0 (w0 : List K_R) (w1 : Int) (w2 : Bool)
def r139_0 (a0 : K_B) : List K_R → Int → List K_R → O139_0
  | x0 :: y0, i, v0 =>
    (r139_0 a0 y0 (i + 1) (v0 ++ ([(K_R.mk x0.f0 x0.f1 x0.f2 (([]) ++ x0.f3) x0.f4)])))
  | [], i, v0 => (O139_0.k0 v0 i (decide (i < ((length (map b_R a0.f3)) : Int))))
def h139_0 (l0_2 : Nat) (l0_3 : Nat) (l0_4 : Nat) (a0 : K_B) (i : Int) (v0 : List K_R) : St := ⟨[(1, (.ptr ⟨(1, 0, 0), [], 0, 0, 8⟩)), (2, (.ptr ⟨(2, 0, 0), [], 0, 0, 8⟩)), (3, (.ptr ⟨(3, 0, 0), [], 0, 0, 8⟩)), (4, (.one (.val (.int .i64 i))))], [((1, 0, 0), .live ⟨8, [[(.val (.int .i64 a0.f0)), (.val (.int .i64 a0.f1)), (.bor l0_2 (map b_si a0.f2)), (.bor l0_3 (map b_R a0.f3)), (.bor l0_4 (map b_si a0.f4)), (.val (.int .i64 a0.f5)), (.val (.int .i64 a0.f6)), (.val (.int .i64 a0.f7))]], []⟩), ((2, 0, 0), .live ⟨8, [[(.val (.int .i64 0)), (.val (.int .i64 0)), (.own 2 []), (.own 5 []), (.own 2 []), (.val (.int .i64 0)), (.val (.int .i64 0)), (.val (.int .i64 0))]], []⟩), ((3, 0, 0), .live ⟨8, [[(.val (.int .i64 a0.f0)), (.val (.int .i64 a0.f1)), (.own 2 (map d_si (([]) ++ a0.f2))), (.own 5 (map d_R v0)), (.own 2 (map d_si (([]) ++ a0.f4))), (.val (.int .i64 a0.f5)), (.val (.int .i64 a0.f6)), (.val (.int .i64 a0.f7))]], []⟩)]⟩
def ex139_0 : O139_0 → VX.Exit
  | .k0 _ _ _ => (.exit 0)
def fin139_0 (l0_2 : Nat) (l0_3 : Nat) (l0_4 : Nat) (a0 : K_B) : O139_0 → St
  | .k0 w0 w1 w2 => ⟨[(1, (.ptr ⟨(1, 0, 0), [], 0, 0, 8⟩)), (2, (.ptr ⟨(2, 0, 0), [], 0, 0, 8⟩)), (3, (.ptr ⟨(3, 0, 0), [], 0, 0, 8⟩)), (4, (.one (.val (.int .i64 w1)))), (20, (.one (.val (.bool w2))))], [((1, 0, 0), .live ⟨8, [[(.val (.int .i64 a0.f0)), (.val (.int .i64 a0.f1)), (.bor l0_2 (map b_si a0.f2)), (.bor l0_3 (map b_R a0.f3)), (.bor l0_4 (map b_si a0.f4)), (.val (.int .i64 a0.f5)), (.val (.int .i64 a0.f6)), (.val (.int .i64 a0.f7))]], []⟩), ((2, 0, 0), .live ⟨8, [[(.val (.int .i64 0)), (.val (.int .i64 0)), (.own 2 []), (.own 5 []), (.own 2 []), (.val (.int .i64 0)), (.val (.int .i64 0)), (.val (.int .i64 0))]], []⟩), ((3, 0, 0), .live ⟨8, [[(.val (.int .i64 a0.f0)), (.val (.int .i64 a0.f1)), (.own 2 (map d_si (([]) ++ a0.f2))), (.own 5 (map d_R w0)), (.own 2 (map d_si (([]) ++ a0.f4))), (.val (.int .i64 a0.f5)), (.val (.int .i64 a0.f6)), (.val (.int .i64 a0.f7))]], []⟩)]⟩
theorem t139_0 {l0_2 : Nat} {l0_3 : Nat} {l0_4 : Nat} {a0 : K_B} (hy0 : length a0.f2 ≤ 100) (hy1 : length a0.f3 ≤ 100) (hy2 : ∀ z ∈ a0.f3, length z.f3 ≤ 100) (hy3 : length a0.f4 ≤ 100) (hy4 : ∀ z ∈ a0.f3, ok_R z) : ∀ (y0 : List K_R) (p : List K_R) (v0 : List K_R), p ++ y0 = a0.f3 → (length v0 + length y0) * 56 ≤ 70368744177664 → Ev F X (.code l139_0 (h139_0 l0_2 l0_3 l0_4 a0 (length p : Int) v0) (ex139_0 (r139_0 a0 y0 (length p : Int) v0)) (fin139_0 l0_2 l0_3 l0_4 a0 (r139_0 a0 y0 (length p : Int) v0)))
  | [], p, v0, hp0, hi0 => by
    have hc : ¬ (decide ((length p : Int) < ((length (map b_R a0.f3)) : Int))) = true := by
      rw [← hp0]; simp only [length_map, length_set, length_append, length_replicate, length_cons, length_nil, decide_eq_true_eq]; omega
    have hj0 := hi0; try simp only [length_map, length_set, length_append, length_replicate, length_cons, length_nil, Int.toNat_natCast] at hj0
    have st := codeH_ok (F := F) (X := X) (c := b139_0) (t := 0) (hs := [(10, .b false)]) (σ := h139_0 l0_2 l0_3 l0_4 a0 (length p : Int) v0) (σ' := fin139_0 l0_2 l0_3 l0_4 a0 (.k0 v0 (length p : Int) (decide ((length p : Int) < ((length (map b_R a0.f3)) : Int))))) (e := (.exit 0)) (t' := 11) (hs' := []) (q := [(decide ((length p : Int) < ((length (map b_R a0.f3)) : Int))) = false]) (by kernel_rfl) ⟨(nt hc), trivial⟩
    exact .loopX st (show ((.exit 0) : VX.Exit) ≠ .normal from by simp)
  | x0 :: y0, p, v0, hp0, hi0 => by
    have hc : (decide ((length p : Int) < ((length (map b_R a0.f3)) : Int))) = true := by
      rw [← hp0]; simp only [length_map, length_set, length_append, length_replicate, length_cons, length_nil, decide_eq_true_eq]; omega
    have Hx0 : (a0.f3)[Int.toNat (length p : Int)]? = some x0 := by
      rw [← hp0, Int.toNat_natCast]; simp
    have Nx0_2 := hy2 x0 (List.mem_of_getElem? Hx0)
    have Mx0_0 := hy4 x0 (List.mem_of_getElem? Hx0)
    have hlen : length (a0.f3) = length p + length y0 + 1 := by rw [← hp0]; simp; omega
    have hw : IntKind.wrap .i64 ((length p : Int) + 1) = (length p : Int) + 1 := wrap64 (by omega)
    have hj0 := hi0; try simp only [length_map, length_set, length_append, length_replicate, length_cons, length_nil, Int.toNat_natCast] at hj0
    simp only [r139_0]
    have st := codeH_ok (F := F) (X := X) (c := b139_0) (t := 0) (hs := [(10, .b true), (18, .row [(.i x0.f0), (.i x0.f1), (.i x0.f2), (.sl (map b_si x0.f3)), (.i x0.f4)]), (30, .ret [] [(.one (.own 2 (map d_si (([]) ++ x0.f3))))] [] []), (44, .b false), (49, .norm (3, 0, 0) [[(.i a0.f0), (.i a0.f1), (.own 2 (map d_si (([]) ++ a0.f2))), (.own 5 (map d_R (v0 ++ ([(K_R.mk x0.f0 x0.f1 x0.f2 (([]) ++ x0.f3) x0.f4)])))), (.own 2 (map d_si (([]) ++ a0.f4))), (.i a0.f5), (.i a0.f6), (.i a0.f7)]])]) (σ := h139_0 l0_2 l0_3 l0_4 a0 (length p : Int) v0) (σ' := ⟨[(1, (.ptr ⟨(1, 0, 0), [], 0, 0, 8⟩)), (2, (.ptr ⟨(2, 0, 0), [], 0, 0, 8⟩)), (3, (.ptr ⟨(3, 0, 0), [], 0, 0, 8⟩)), (4, (.oi (IntKind.wrap .i64 ((length p : Int) + 1))))], [((1, 0, 0), .live ⟨8, [[(.i a0.f0), (.i a0.f1), (.bor l0_2 (map b_si a0.f2)), (.bor l0_3 (map b_R a0.f3)), (.bor l0_4 (map b_si a0.f4)), (.i a0.f5), (.i a0.f6), (.i a0.f7)]], []⟩), ((2, 0, 0), .live ⟨8, [[(.i 0), (.i 0), (.own 2 []), (.own 5 []), (.own 2 []), (.i 0), (.i 0), (.i 0)]], []⟩), ((3, 0, 0), .live ⟨8, [[(.i a0.f0), (.i a0.f1), (.own 2 (map d_si (([]) ++ a0.f2))), (.own 5 (map d_R (v0 ++ ([(K_R.mk x0.f0 x0.f1 x0.f2 (([]) ++ x0.f3) x0.f4)])))), (.own 2 (map d_si (([]) ++ a0.f4))), (.i a0.f5), (.i a0.f6), (.i a0.f7)]], []⟩)]⟩) (e := .normal) (t' := 56) (hs' := []) (q := [(decide ((length p : Int) < ((length (map b_R a0.f3)) : Int))) = true, 0 ≤ (length p : Int), (map b_R a0.f3)[(Int.toNat (length p : Int))]? = some [(.i x0.f0), (.i x0.f1), (.i x0.f2), (.sl (map b_si x0.f3)), (.i x0.f4)], Ev F X (.call 170 [(.one (.bor (l0_3 + 1) (map b_si x0.f3)))] [] [] [(.one (.own 2 (map d_si (([]) ++ x0.f3))))]), 0 = 0, (length (map d_si (([]) ++ x0.f3))) = (length (map d_si (([]) ++ x0.f3))), 0 = 0, (length (map d_si (([]) ++ x0.f3))) = (length (map d_si (([]) ++ x0.f3))), 0 + (length (map d_R v0)) ≤ (length (map d_R v0)), 1 ≤ 1, ((take 1 (drop 0 [[(.i x0.f0), (.i x0.f1), (.i x0.f2), (.own 2 (map d_si (([]) ++ x0.f3))), (.i x0.f4)]])).all fun x => x.all copyable) = false, 0 = 0, 1 = 1, (length ((take (length (map d_R v0)) (drop 0 (map d_R v0))) ++ ([[(.i x0.f0), (.i x0.f1), (.i x0.f2), (.own 2 (map d_si (([]) ++ x0.f3))), (.i x0.f4)]] : List (List D)))) * 56 ≤ 70368744177664, ∀ r ∈ ([[(.i x0.f0), (.i x0.f1), (.i x0.f2), (.own 2 (map d_si (([]) ++ x0.f3))), (.i x0.f4)]] : List (List D)), r.length = 5, 0 = 0, (length ((take (length (map d_R v0)) (drop 0 (map d_R v0))) ++ ([[(.i x0.f0), (.i x0.f1), (.i x0.f2), (.own 2 (map d_si (([]) ++ x0.f3))), (.i x0.f4)]] : List (List D)))) = (length ((take (length (map d_R v0)) (drop 0 (map d_R v0))) ++ ([[(.i x0.f0), (.i x0.f1), (.i x0.f2), (.own 2 (map d_si (([]) ++ x0.f3))), (.i x0.f4)]] : List (List D)))), ([[(.i a0.f0), (.i a0.f1), (.own 2 (map d_si (([]) ++ a0.f2))), (.own 5 ((take (length (map d_R v0)) (drop 0 (map d_R v0))) ++ ([[(.i x0.f0), (.i x0.f1), (.i x0.f2), (.own 2 (map d_si (([]) ++ x0.f3))), (.i x0.f4)]] : List (List D)))), (.own 2 (map d_si (([]) ++ a0.f4))), (.i a0.f5), (.i a0.f6), (.i a0.f7)]] : List (List D)) = [[(.i a0.f0), (.i a0.f1), (.own 2 (map d_si (([]) ++ a0.f2))), (.own 5 (map d_R (v0 ++ ([(K_R.mk x0.f0 x0.f1 x0.f2 (([]) ++ x0.f3) x0.f4)])))), (.own 2 (map d_si (([]) ++ a0.f4))), (.i a0.f5), (.i a0.f6), (.i a0.f7)]], True]) (by kernel_rfl) ⟨hc, (by omega), (by rw [getElem?_map, Hx0]; rfl), (e170 (a0 := x0.f3) (by omega)), rfl, rfl, rfl, rfl, (by omega), (by omega), (by trivial), rfl, rfl, (by simp only [length_map, length_append, length_cons, length_nil, length_take, length_drop]; omega), (by simp; done), rfl, rfl, (by simp [byteRows_eq, ints_y, take_of_length_le, d_si, d_R, d_B, d_b, d_i, d_C, d_LsiE, d_iLsiE, d_Q, d_s, d_y, fromBR_si, fromBR_b, fromBR_i, fromBR_s, fromBR_y]; done), trivial, trivial⟩
    have ih := t139_0 (l0_2 := l0_2) (l0_3 := l0_3) (l0_4 := l0_4) (a0 := a0) hy0 hy1 hy2 hy3 hy4 y0 (p ++ [x0]) (v0 ++ ([(K_R.mk x0.f0 x0.f1 x0.f2 (([]) ++ x0.f3) x0.f4)])) (by rw [append_assoc]; exact hp0) (by simp only [length_map, length_set, length_append, length_replicate, length_cons, length_nil]; omega)
    rw [show ((p ++ [x0]).length : Int) = (p.length : Int) + 1 from by simp] at ih
    rw [show (⟨[(1, (.ptr ⟨(1, 0, 0), [], 0, 0, 8⟩)), (2, (.ptr ⟨(2, 0, 0), [], 0, 0, 8⟩)), (3, (.ptr ⟨(3, 0, 0), [], 0, 0, 8⟩)), (4, (.oi (IntKind.wrap .i64 ((length p : Int) + 1))))], [((1, 0, 0), .live ⟨8, [[(.i a0.f0), (.i a0.f1), (.bor l0_2 (map b_si a0.f2)), (.bor l0_3 (map b_R a0.f3)), (.bor l0_4 (map b_si a0.f4)), (.i a0.f5), (.i a0.f6), (.i a0.f7)]], []⟩), ((2, 0, 0), .live ⟨8, [[(.i 0), (.i 0), (.own 2 []), (.own 5 []), (.own 2 []), (.i 0), (.i 0), (.i 0)]], []⟩), ((3, 0, 0), .live ⟨8, [[(.i a0.f0), (.i a0.f1), (.own 2 (map d_si (([]) ++ a0.f2))), (.own 5 (map d_R (v0 ++ ([(K_R.mk x0.f0 x0.f1 x0.f2 (([]) ++ x0.f3) x0.f4)])))), (.own 2 (map d_si (([]) ++ a0.f4))), (.i a0.f5), (.i a0.f6), (.i a0.f7)]], []⟩)]⟩ : St) = h139_0 l0_2 l0_3 l0_4 a0 ((length p : Int) + 1) (v0 ++ ([(K_R.mk x0.f0 x0.f1 x0.f2 (([]) ++ x0.f3) x0.f4)])) from (by unfold h139_0; simp only [hw]; done)] at st
    exact .loopN st ih
def post139_0 (n0 : Nat) : O139_0 → Prop
  | .k0 w0 _ _ => length w0 = n0
theorem z139_0 {a0 : K_B} : ∀ (y0 : List K_R) (i : Int) (v0 : List K_R), post139_0 (length v0 + length y0) (r139_0 a0 y0 i v0)
  | [], i, v0 => by
    first | trivial | (simp only [post139_0, length_nil, Nat.add_zero]; done) | (simp [post139_0]; done)
  | x0 :: y0, i, v0 => by
    simp only [r139_0]
    have z := z139_0 (a0 := a0) y0 (i + 1) (v0 ++ ([(K_R.mk x0.f0 x0.f1 x0.f2 (([]) ++ x0.f3) x0.f4)]))
    rw [show (length v0 + length (x0 :: y0)) = (length (v0 ++ ([(K_R.mk x0.f0 x0.f1 x0.f2 (([]) ++ x0.f3) x0.f4)])) + length y0) from by first | omega | (simp only [length_map, length_set, length_append, length_replicate, length_cons, length_nil]; done) | (simp only [length_map, length_set, length_append, length_replicate, length_cons, length_nil]; omega)]
    exact z
/-! loop.example/g00539/spec.l14Copy -/
def m139 (a0 : K_B) : K_B :=
  (match r139_0 a0 a0.f3 0 [] with | .k0 w0_2 w1_2 w2_2 => (K_B.mk a0.f0 a0.f1 (([]) ++ a0.f2) w0_2 (([]) ++ a0.f4) a0.f5 a0.f6 a0.f7))
theorem e139 {l0_2 : Nat} {l0_3 : Nat} {l0_4 : Nat} {a0 : K_B} (hy0 : length a0.f2 ≤ 100) (hy1 : length a0.f3 ≤ 100) (hy2 : ∀ z ∈ a0.f3, length z.f3 ≤ 100) (hy3 : length a0.f4 ≤ 100) (hy4 : ∀ z ∈ a0.f3, ok_R z) : Ev F X (.call 139 [(.agg [(.val (.int .i64 a0.f0)), (.val (.int .i64 a0.f1)), (.bor l0_2 (map b_si a0.f2)), (.bor l0_3 (map b_R a0.f3)), (.bor l0_4 (map b_si a0.f4)), (.val (.int .i64 a0.f5)), (.val (.int .i64 a0.f6)), (.val (.int .i64 a0.f7))])] [] [] [(.agg [(.val (.int .i64 ((m139 a0).f0))), (.val (.int .i64 ((m139 a0).f1))), (.own 2 (map d_si ((m139 a0).f2))), (.own 5 (map d_R ((m139 a0).f3))), (.own 2 (map d_si ((m139 a0).f4))), (.val (.int .i64 ((m139 a0).f5))), (.val (.int .i64 ((m139 a0).f6))), (.val (.int .i64 ((m139 a0).f7)))])]) := by
  unfold m139
  have f0 : Ev F X (.call 170 [(.one (.bor (l0_2 + 1) (map b_si a0.f2)))] [] [] [(.one (.own 2 (map d_si (([]) ++ a0.f2))))]) := (e170 (a0 := a0.f2) (by omega))
  have f1 : 0 = 0 := rfl
  have f2 : (length (map d_si (([]) ++ a0.f2))) = (length (map d_si (([]) ++ a0.f2))) := rfl
  have f3 : Ev F X (.call 170 [(.one (.bor (l0_4 + 1) (map b_si a0.f4)))] [] [] [(.one (.own 2 (map d_si (([]) ++ a0.f4))))]) := (e170 (a0 := a0.f4) (by omega))
  have f4 : 0 = 0 := rfl
  have f5 : (length (map d_si (([]) ++ a0.f4))) = (length (map d_si (([]) ++ a0.f4))) := rfl
  cases h0 : r139_0 a0 a0.f3 0 [] with
  | k0 w0_2 w1_2 w2_2 =>
    try dsimp only
    have zh0 := z139_0 (a0 := a0) a0.f3 0 []; rw [h0] at zh0; simp only [post139_0, length_map, length_set, length_append, length_replicate, length_cons, length_nil, Int.toNat_natCast] at zh0
    have f6 : (⟨[(1, (.ptr ⟨(1, 0, 0), [], 0, 0, 8⟩)), (2, (.ptr ⟨(2, 0, 0), [], 0, 0, 8⟩)), (3, (.ptr ⟨(3, 0, 0), [], 0, 0, 8⟩)), (4, (.oi 0))], [((1, 0, 0), .live ⟨8, [[(.i a0.f0), (.i a0.f1), (.bor l0_2 (map b_si a0.f2)), (.bor l0_3 (map b_R a0.f3)), (.bor l0_4 (map b_si a0.f4)), (.i a0.f5), (.i a0.f6), (.i a0.f7)]], []⟩), ((2, 0, 0), .live ⟨8, [[(.i 0), (.i 0), (.own 2 []), (.own 5 []), (.own 2 []), (.i 0), (.i 0), (.i 0)]], []⟩), ((3, 0, 0), .live ⟨8, [[(.i a0.f0), (.i a0.f1), (.own 2 (map d_si (([]) ++ a0.f2))), (.own 5 []), (.own 2 (map d_si (([]) ++ a0.f4))), (.i a0.f5), (.i a0.f6), (.i a0.f7)]], []⟩)]⟩ : St) = h139_0 l0_2 l0_3 l0_4 a0 0 [] := (by rfl)
    have f7 : Ev F X (.code l139_0 (h139_0 l0_2 l0_3 l0_4 a0 0 []) (.exit 0) ⟨[(1, (.ptr ⟨(1, 0, 0), [], 0, 0, 8⟩)), (2, (.ptr ⟨(2, 0, 0), [], 0, 0, 8⟩)), (3, (.ptr ⟨(3, 0, 0), [], 0, 0, 8⟩)), (4, (.oi w1_2)), (20, (.one (.val (.bool w2_2))))], [((1, 0, 0), .live ⟨8, [[(.i a0.f0), (.i a0.f1), (.bor l0_2 (map b_si a0.f2)), (.bor l0_3 (map b_R a0.f3)), (.bor l0_4 (map b_si a0.f4)), (.i a0.f5), (.i a0.f6), (.i a0.f7)]], []⟩), ((2, 0, 0), .live ⟨8, [[(.i 0), (.i 0), (.own 2 []), (.own 5 []), (.own 2 []), (.i 0), (.i 0), (.i 0)]], []⟩), ((3, 0, 0), .live ⟨8, [[(.i a0.f0), (.i a0.f1), (.own 2 (map d_si (([]) ++ a0.f2))), (.own 5 (map d_R w0_2)), (.own 2 (map d_si (([]) ++ a0.f4))), (.i a0.f5), (.i a0.f6), (.i a0.f7)]], []⟩)]⟩) := (by have t : Ev F X (.code l139_0 (h139_0 l0_2 l0_3 l0_4 a0 0 []) (ex139_0 (r139_0 a0 a0.f3 0 [])) (fin139_0 l0_2 l0_3 l0_4 a0 (r139_0 a0 a0.f3 0 []))) := t139_0 (l0_2 := l0_2) (l0_3 := l0_3) (l0_4 := l0_4) (a0 := a0) (by assumption) (by assumption) (by assumption) (by assumption) (by assumption) a0.f3 [] [] rfl (by simp only [length_map, length_set, length_append, length_replicate, length_cons, length_nil]; omega); rw [h0] at t; exact t)
    have f8 : 0 = 0 := rfl
    have f9 : (length (map d_si (([]) ++ a0.f2))) = (length (map d_si (([]) ++ a0.f2))) := rfl
    have f10 : 0 = 0 := rfl
    have f11 : (length (map d_R w0_2)) = (length (map d_R w0_2)) := rfl
    have f12 : 0 = 0 := rfl
    have f13 : (length (map d_si (([]) ++ a0.f4))) = (length (map d_si (([]) ++ a0.f4))) := rfl
    have f14 : pureR (map d_si (([]) ++ a0.f2)) = true := (by simp; done)
    have f15 : pureR (map d_R w0_2) = true := (pureR_R _)
    have f16 : pureR (map d_si (([]) ++ a0.f4)) = true := (by simp; done)
    exact callP_ok (ps := []) (os := []) (rs := [(.agg [(.i a0.f0), (.i a0.f1), (.own 2 (map d_si (([]) ++ a0.f2))), (.own 5 (map d_R w0_2)), (.own 2 (map d_si (([]) ++ a0.f4))), (.i a0.f5), (.i a0.f6), (.i a0.f7)])]) (by kernel_rfl) (.r 15 [] [] f0 (.f f1 (.f f2 (.r 25 [] [] f3 (.f f4 (.f f5 (.f f6 (.f f7 (.f f8 (.f f9 (.f f10 (.f f11 (.f f12 (.f f13 (.f f14 (.f f15 (.f f16 (.h 36 (.loop (h139_0 l0_2 l0_3 l0_4 a0 0 []) (.exit 0) ⟨[(1, (.ptr ⟨(1, 0, 0), [], 0, 0, 8⟩)), (2, (.ptr ⟨(2, 0, 0), [], 0, 0, 8⟩)), (3, (.ptr ⟨(3, 0, 0), [], 0, 0, 8⟩)), (4, (.oi w1_2)), (20, (.one (.val (.bool w2_2))))], [((1, 0, 0), .live ⟨8, [[(.i a0.f0), (.i a0.f1), (.bor l0_2 (map b_si a0.f2)), (.bor l0_3 (map b_R a0.f3)), (.bor l0_4 (map b_si a0.f4)), (.i a0.f5), (.i a0.f6), (.i a0.f7)]], []⟩), ((2, 0, 0), .live ⟨8, [[(.i 0), (.i 0), (.own 2 []), (.own 5 []), (.own 2 []), (.i 0), (.i 0), (.i 0)]], []⟩), ((3, 0, 0), .live ⟨8, [[(.i a0.f0), (.i a0.f1), (.own 2 (map d_si (([]) ++ a0.f2))), (.own 5 (map d_R w0_2)), (.own 2 (map d_si (([]) ++ a0.f4))), (.i a0.f5), (.i a0.f6), (.i a0.f7)]], []⟩)]⟩) .nil))))))))))))))))))
theorem cl139 (a0 : K_B) : ∀ (l : List K_R) (i : Int) (v : List K_R), ∃ j b, r139_0 a0 l i v = .k0 (v ++ l) j b
  | [], i, v => ⟨_, _, by rw [List.append_nil]; rfl⟩
  | x :: l, i, v => by
    obtain ⟨j, b, h⟩ := cl139 a0 l (i + 1) (v ++ [x])
    refine ⟨j, b, ?_⟩
    simp only [r139_0]
    rw [show v ++ x :: l = (v ++ [x]) ++ l by simp, ← h]
    first | rfl | (simp only [List.nil_append]; done)
theorem cp139 (a0 : K_B) : m139 a0 = a0 := by
  unfold m139
  obtain ⟨j, b, h⟩ := cl139 a0 a0.f3 0 []
  rw [h]; rfl
/-! loop.example/g00539/spec.l14Credit -/
def m82 (a0 : K_B) (a1 : K_si) : K_C :=
  if ((m109 a1) != 0) = true then (K_C.mk (m109 a1) 0 0 0 ([]) ([]) ([]) 0 0 0) else
  (K_C.mk 0 0 ((m139 a0).f0) ((m139 a0).f1) (m111 a0.f2 a1 a0.f0) ((m139 a0).f3) ((m139 a0).f4) ((m139 a0).f5) ((m139 a0).f6) ((m139 a0).f7))
theorem e82 {l0_2 : Nat} {l0_3 : Nat} {l0_4 : Nat} {a0 : K_B} {a1 : K_si} (hy0 : length a0.f2 ≤ 100) (hy1 : length a0.f3 ≤ 100) (hy2 : ∀ z ∈ a0.f3, length z.f3 ≤ 100) (hy3 : length a0.f4 ≤ 100) (hy4 : ∀ z ∈ a0.f3, ok_R z) (hy5 : ByteArray.size a1.f0 ≤ 140737488351232) (hy6 : 1 ≤ a0.f0) (hy7 : a0.f0 ≤ 12) : Ev F X (.call 82 [(.agg [(.val (.int .i64 a0.f0)), (.val (.int .i64 a0.f1)), (.bor l0_2 (map b_si a0.f2)), (.bor l0_3 (map b_R a0.f3)), (.bor l0_4 (map b_si a0.f4)), (.val (.int .i64 a0.f5)), (.val (.int .i64 a0.f6)), (.val (.int .i64 a0.f7))]), (.agg [(.val (.string a1.f0)), (.val (.int .i64 a1.f1))])] [] [] [(.agg [(.val (.int .i64 ((m82 a0 a1).f0))), (.val (.int .i64 ((m82 a0 a1).f1))), (.val (.int .i64 ((m82 a0 a1).f2))), (.val (.int .i64 ((m82 a0 a1).f3))), (.own 2 (map d_si ((m82 a0 a1).f4))), (.own 5 (map d_R ((m82 a0 a1).f5))), (.own 2 (map d_si ((m82 a0 a1).f6))), (.val (.int .i64 ((m82 a0 a1).f7))), (.val (.int .i64 ((m82 a0 a1).f8))), (.val (.int .i64 ((m82 a0 a1).f9)))])]) := by
  unfold m82
  have f0 : fullL [(.val (.string a1.f0)), (.val (.int .i64 a1.f1))] = true := (by trivial)
  have f1 : Ev F X (.call 109 [(.bptr 0 [(.val (.string a1.f0)), (.i a1.f1)])] [] [] [(.oi (m109 a1))]) := (e109 (a0 := a1) (by with_reducible assumption))
  by_cases h0 : ((m109 a1) != 0) = true
  · try simp only [if_pos h0]
    have f3 : Ev F X (.call 81 [(.oi (m109 a1))] [] [] [(.agg [(.i (m109 a1)), (.i 0), (.i 0), (.i 0), (.own 2 (map d_si ([]))), (.own 5 (map d_R ([]))), (.own 2 (map d_si ([]))), (.i 0), (.i 0), (.i 0)])]) := (e81 (a0 := (m109 a1)))
    have f4 : 0 = 0 := rfl
    have f5 : (length (map d_si ([]))) = (length (map d_si ([]))) := rfl
    have f6 : 0 = 0 := rfl
    have f7 : (length (map d_R ([]))) = (length (map d_R ([]))) := rfl
    have f8 : 0 = 0 := rfl
    have f9 : (length (map d_si ([]))) = (length (map d_si ([]))) := rfl
    have f10 : pureR (map d_si ([])) = true := (pureR_si _)
    have f11 : pureR (map d_R ([])) = true := (pureR_R _)
    have f12 : pureR (map d_si ([])) = true := (pureR_si _)
    exact callP_ok (ps := []) (os := []) (rs := [(.agg [(.i (m109 a1)), (.i 0), (.i 0), (.i 0), (.own 2 (map d_si ([]))), (.own 5 (map d_R ([]))), (.own 2 (map d_si ([]))), (.i 0), (.i 0), (.i 0)])]) (by kernel_rfl) (.f f0 (.r 7 [] [] f1 (.f h0 (.h 14 (.b true) (.r 18 [] [] f3 (.f f4 (.f f5 (.f f6 (.f f7 (.f f8 (.f f9 (.f f10 (.f f11 (.f f12 .nil))))))))))))))
  · try simp only [if_neg h0]
    have f3 : Ev F X (.call 139 [(.agg [(.i a0.f0), (.i a0.f1), (.bor (l0_2 + 1) (map b_si a0.f2)), (.bor (l0_3 + 1) (map b_R a0.f3)), (.bor (l0_4 + 1) (map b_si a0.f4)), (.i a0.f5), (.i a0.f6), (.i a0.f7)])] [] [] [(.agg [(.i ((m139 a0).f0)), (.i ((m139 a0).f1)), (.own 2 (map d_si ((m139 a0).f2))), (.own 5 (map d_R ((m139 a0).f3))), (.own 2 (map d_si ((m139 a0).f4))), (.i ((m139 a0).f5)), (.i ((m139 a0).f6)), (.i ((m139 a0).f7))])]) := (e139 (a0 := a0) (by with_reducible assumption) (by with_reducible assumption) (by with_reducible assumption) (by with_reducible assumption) (by with_reducible assumption))
    have f4 : 0 = 0 := rfl
    have f5 : (length (map d_si ((m139 a0).f2))) = (length (map d_si ((m139 a0).f2))) := rfl
    have f6 : 0 = 0 := rfl
    have f7 : (length (map d_R ((m139 a0).f3))) = (length (map d_R ((m139 a0).f3))) := rfl
    have f8 : 0 = 0 := rfl
    have f9 : (length (map d_si ((m139 a0).f4))) = (length (map d_si ((m139 a0).f4))) := rfl
    have f10 : Ev F X (.call 111 [(.one (.bor (l0_2 + 1) (map b_si a0.f2))), (.agg [(.val (.string a1.f0)), (.i a1.f1)]), (.oi a0.f0)] [] [] [(.one (.own 2 (map d_si (m111 a0.f2 a1 a0.f0))))]) := (e111 (a0 := a0.f2) (a1 := a1) (a2 := a0.f0) (by omega) (by omega))
    have f11 : 0 = 0 := rfl
    have f12 : (length (map d_si (m111 a0.f2 a1 a0.f0))) = (length (map d_si (m111 a0.f2 a1 a0.f0))) := rfl
    have f13 : 0 = 0 := rfl
    have f14 : (length (map d_si (m111 a0.f2 a1 a0.f0))) = (length (map d_si (m111 a0.f2 a1 a0.f0))) := rfl
    have f15 : 0 = 0 := rfl
    have f16 : (length (map d_R ((m139 a0).f3))) = (length (map d_R ((m139 a0).f3))) := rfl
    have f17 : 0 = 0 := rfl
    have f18 : (length (map d_si ((m139 a0).f4))) = (length (map d_si ((m139 a0).f4))) := rfl
    have f19 : pureR (map d_si (m111 a0.f2 a1 a0.f0)) = true := (pureR_si _)
    have f20 : pureR (map d_R ((m139 a0).f3)) = true := (by simp; done)
    have f21 : pureR (map d_si ((m139 a0).f4)) = true := (by simp; done)
    exact callP_ok (ps := []) (os := []) (rs := [(.agg [(.i 0), (.i 0), (.i ((m139 a0).f0)), (.i ((m139 a0).f1)), (.own 2 (map d_si (m111 a0.f2 a1 a0.f0))), (.own 5 (map d_R ((m139 a0).f3))), (.own 2 (map d_si ((m139 a0).f4))), (.i ((m139 a0).f5)), (.i ((m139 a0).f6)), (.i ((m139 a0).f7))])]) (by kernel_rfl) (.f f0 (.r 7 [] [] f1 (.f (nt h0) (.h 14 (.b false) (.r 18 [] [] f3 (.f f4 (.f f5 (.f f6 (.f f7 (.f f8 (.f f9 (.r 34 [] [] f10 (.f f11 (.f f12 (.f f13 (.f f14 (.f f15 (.f f16 (.f f17 (.f f18 (.f f19 (.f f20 (.f f21 .nil)))))))))))))))))))))))
/-! loop.example/g00539/spec.CreditShare -/
def m23 (a0 : K_B) (a1 : K_si) : K_C :=
  if ((m68 a0) != 0) = true then (K_C.mk (m68 a0) 0 0 0 ([]) ([]) ([]) 0 0 0) else
  (m82 a0 a1)
theorem e23 {l0_2 : Nat} {l0_3 : Nat} {l0_4 : Nat} {a0 : K_B} {a1 : K_si} (hy0 : length a0.f2 * 24 ≤ 140737488351232) (hy1 : ∀ z ∈ a0.f2, os_si z) (hy2 : length a0.f3 * 56 ≤ 140737488351232) (hy3 : ∀ z ∈ a0.f3, os_R z) (hy4 : length a0.f4 * 24 ≤ 140737488351232) (hy5 : ∀ z ∈ a0.f4, os_si z) (hy6 : ByteArray.size a1.f0 ≤ 140737488351232) : Ev F X (.call 23 [(.agg [(.val (.int .i64 a0.f0)), (.val (.int .i64 a0.f1)), (.bor l0_2 (map b_si a0.f2)), (.bor l0_3 (map b_R a0.f3)), (.bor l0_4 (map b_si a0.f4)), (.val (.int .i64 a0.f5)), (.val (.int .i64 a0.f6)), (.val (.int .i64 a0.f7))]), (.agg [(.val (.string a1.f0)), (.val (.int .i64 a1.f1))])] [] [] [(.agg [(.val (.int .i64 ((m23 a0 a1).f0))), (.val (.int .i64 ((m23 a0 a1).f1))), (.val (.int .i64 ((m23 a0 a1).f2))), (.val (.int .i64 ((m23 a0 a1).f3))), (.own 2 (map d_si ((m23 a0 a1).f4))), (.own 5 (map d_R ((m23 a0 a1).f5))), (.own 2 (map d_si ((m23 a0 a1).f6))), (.val (.int .i64 ((m23 a0 a1).f7))), (.val (.int .i64 ((m23 a0 a1).f8))), (.val (.int .i64 ((m23 a0 a1).f9)))])]) := by
  unfold m23
  have f0 : fullL [(.val (.int .i64 a0.f0)), (.val (.int .i64 a0.f1)), (.bor l0_2 (map b_si a0.f2)), (.bor l0_3 (map b_R a0.f3)), (.bor l0_4 (map b_si a0.f4)), (.val (.int .i64 a0.f5)), (.val (.int .i64 a0.f6)), (.val (.int .i64 a0.f7))] = true := (by trivial)
  have f1 : Ev F X (.call 68 [(.bptr 0 [(.i a0.f0), (.i a0.f1), (.sl (map b_si a0.f2)), (.sl (map b_R a0.f3)), (.sl (map b_si a0.f4)), (.i a0.f5), (.i a0.f6), (.i a0.f7)])] [] [] [(.oi (m68 a0))]) := (e68 (a0 := a0) (by with_reducible assumption) (by with_reducible assumption) (by with_reducible assumption) (by with_reducible assumption) (by with_reducible assumption) (by with_reducible assumption))
  by_cases h0 : ((m68 a0) != 0) = true
  · try simp only [if_pos h0]
    have f3 : Ev F X (.call 81 [(.oi (m68 a0))] [] [] [(.agg [(.i (m68 a0)), (.i 0), (.i 0), (.i 0), (.own 2 (map d_si ([]))), (.own 5 (map d_R ([]))), (.own 2 (map d_si ([]))), (.i 0), (.i 0), (.i 0)])]) := (e81 (a0 := (m68 a0)))
    have f4 : 0 = 0 := rfl
    have f5 : (length (map d_si ([]))) = (length (map d_si ([]))) := rfl
    have f6 : 0 = 0 := rfl
    have f7 : (length (map d_R ([]))) = (length (map d_R ([]))) := rfl
    have f8 : 0 = 0 := rfl
    have f9 : (length (map d_si ([]))) = (length (map d_si ([]))) := rfl
    have f10 : pureR (map d_si ([])) = true := (pureR_si _)
    have f11 : pureR (map d_R ([])) = true := (pureR_R _)
    have f12 : pureR (map d_si ([])) = true := (pureR_si _)
    exact callP_ok (ps := []) (os := []) (rs := [(.agg [(.i (m68 a0)), (.i 0), (.i 0), (.i 0), (.own 2 (map d_si ([]))), (.own 5 (map d_R ([]))), (.own 2 (map d_si ([]))), (.i 0), (.i 0), (.i 0)])]) (by kernel_rfl) (.f f0 (.r 7 [] [] f1 (.f h0 (.h 14 (.b true) (.r 18 [] [] f3 (.f f4 (.f f5 (.f f6 (.f f7 (.f f8 (.f f9 (.f f10 (.f f11 (.f f12 .nil))))))))))))))
  · try simp only [if_neg h0]
    have f3 : Ev F X (.call 82 [(.agg [(.i a0.f0), (.i a0.f1), (.bor (l0_2 + 1) (map b_si a0.f2)), (.bor (l0_3 + 1) (map b_R a0.f3)), (.bor (l0_4 + 1) (map b_si a0.f4)), (.i a0.f5), (.i a0.f6), (.i a0.f7)]), (.agg [(.val (.string a1.f0)), (.i a1.f1)])] [] [] [(.agg [(.i ((m82 a0 a1).f0)), (.i ((m82 a0 a1).f1)), (.i ((m82 a0 a1).f2)), (.i ((m82 a0 a1).f3)), (.own 2 (map d_si ((m82 a0 a1).f4))), (.own 5 (map d_R ((m82 a0 a1).f5))), (.own 2 (map d_si ((m82 a0 a1).f6))), (.i ((m82 a0 a1).f7)), (.i ((m82 a0 a1).f8)), (.i ((m82 a0 a1).f9))])]) := (e82 (a0 := a0) (a1 := a1) (by have q := fs68 (a0 := a0) (by with_reducible assumption); omega) (by have q := fs68 (a0 := a0) (by with_reducible assumption); omega) (by have q := fs68 (a0 := a0) (by with_reducible assumption); intro z hz; have q2 := q.2.2.1 z hz; omega) (by have q := fs68 (a0 := a0) (by with_reducible assumption); omega) (by intro z hz; exact os_ok_R z ((by assumption : ∀ z ∈ a0.f3, os_R z) z hz)) (by with_reducible assumption) (by have q := rg68 (a0 := a0) (by with_reducible assumption); omega) (by have q := rg68 (a0 := a0) (by with_reducible assumption); omega))
    have f4 : 0 = 0 := rfl
    have f5 : (length (map d_si ((m82 a0 a1).f4))) = (length (map d_si ((m82 a0 a1).f4))) := rfl
    have f6 : 0 = 0 := rfl
    have f7 : (length (map d_R ((m82 a0 a1).f5))) = (length (map d_R ((m82 a0 a1).f5))) := rfl
    have f8 : 0 = 0 := rfl
    have f9 : (length (map d_si ((m82 a0 a1).f6))) = (length (map d_si ((m82 a0 a1).f6))) := rfl
    have f10 : pureR (map d_si ((m82 a0 a1).f4)) = true := (by simp; done)
    have f11 : pureR (map d_R ((m82 a0 a1).f5)) = true := (by simp; done)
    have f12 : pureR (map d_si ((m82 a0 a1).f6)) = true := (by simp; done)
    exact callP_ok (ps := []) (os := []) (rs := [(.agg [(.i ((m82 a0 a1).f0)), (.i ((m82 a0 a1).f1)), (.i ((m82 a0 a1).f2)), (.i ((m82 a0 a1).f3)), (.own 2 (map d_si ((m82 a0 a1).f4))), (.own 5 (map d_R ((m82 a0 a1).f5))), (.own 2 (map d_si ((m82 a0 a1).f6))), (.i ((m82 a0 a1).f7)), (.i ((m82 a0 a1).f8)), (.i ((m82 a0 a1).f9))])]) (by kernel_rfl) (.f f0 (.r 7 [] [] f1 (.f (nt h0) (.h 14 (.b false) (.r 20 [] [] f3 (.f f4 (.f f5 (.f f6 (.f f7 (.f f8 (.f f9 (.f f10 (.f f11 (.f f12 .nil))))))))))))))
theorem okm23 (a0 : K_B) (a1 : K_si) : ok_C (m23 a0 a1) := by
  unfold m23
  split
  · simp [ok_R, ok_B, ok_C, ok_LsiE, ok_iLsiE, ok_Q]
  · rename_i h
    obtain ⟨q1, q2, q3, q4⟩ := fs68 h
    unfold m82
    simp only [cp139]
    (repeat' split) <;> simp only [ok_R, ok_B, ok_C, ok_LsiE, ok_iLsiE, ok_Q] <;> first | (refine ⟨by simp, by simp, by simp, by simp⟩) | (refine ⟨?_, ?_, ?_, ?_⟩ <;> first | omega | (simp only [length_set, length_append, length_cons, length_nil, length_take, length_drop]; omega) | exact oall q3 | exact oset q3 (oget q3 _) | exact oset q3 (by simp) | exact oapp q3 (by simp) | (rw [push_111 _ _ _ (by have q := rg68 h; omega)]; simp only [length_drop, length_append, length_cons, length_nil]; omega))
/-! loop.example/g00539/impl.in -/
def m93 (a0 : Int) (a1 : Int) (a2 : Int) : Bool :=
  if (decide (a0 ≥ a1)) = true then (decide (a0 ≤ a2)) else
  false
theorem e93 {a0 : Int} {a1 : Int} {a2 : Int} : Ev F X (.call 93 [(.one (.val (.int .i64 a0))), (.one (.val (.int .i64 a1))), (.one (.val (.int .i64 a2)))] [] [] [(.one (.val (.bool (m93 a0 a1 a2))))]) := by
  unfold m93
  by_cases h0 : (decide (a0 ≥ a1)) = true
  · try simp only [if_pos h0]
    exact callP_ok (ps := []) (os := []) (rs := [(.one (.val (.bool (decide (a0 ≤ a2)))))]) (by kernel_rfl) (.f h0 (.f h0 (.f h0 (.f h0 (.h 10 (.b true) (.h 12 (.b true) (.h 14 (.b true) (.h 17 (.b true) .nil))))))))
  · try simp only [if_neg h0]
    exact callP_ok (ps := []) (os := []) (rs := [(.one (.val (.bool false)))]) (by kernel_rfl) (.f (nt h0) (.f (nt h0) (.f (nt h0) (.f (nt h0) (.h 10 (.b false) (.h 12 (.b false) (.h 14 (.b false) (.h 17 (.b false) .nil))))))))
theorem jn93 {a b c : Int} (h : ¬ (!(m93 a b c)) = true) : b ≤ a ∧ a ≤ c := by
  simp only [Bool.not_eq_true', Bool.not_eq_false] at h
  unfold m93 at h; split at h <;> simp_all <;> omega
/-! strings.Trim -/
theorem e172 {a0 a1 : ByteArray} (hy0 : ByteArray.size a0 ≤ 9223372036854775807) (hy1 : ByteArray.size a1 < 4294967281) (hy2 : asciiB a1 = true) : Ev F X (.call 172 [(.one (.val (.string a0))), (.one (.val (.string a1)))] [] [] [(.one (.val (.string (trimB a0 a1))))]) :=
  .ext (.inr (⟨rfl, (⟨a0, a1, hy0, hy1, hy2, rfl, rfl⟩)⟩))
/-! loop.example/g00539/impl.argOk -/
def m155 (a0 : ByteArray) : Bool :=
  if (decide ((ByteArray.size a0 : Int) ≤ 12)) = true then ((trimB a0 (⟨#[97, 98, 99, 100, 101, 102, 103, 104, 105, 106, 107, 108, 109, 110, 111, 112, 113, 114, 115, 116, 117, 118, 119, 120, 121, 122, 65, 66, 67, 68, 69, 70, 71, 72, 73, 74, 75, 76, 77, 78, 79, 80, 81, 82, 83, 84, 85, 86, 87, 88, 89, 90, 48, 49, 50, 51, 52, 53, 54, 55, 56, 57]⟩ : ByteArray)).toList == (⟨#[]⟩ : ByteArray).toList) else
  false
theorem e155 {a0 : ByteArray} : Ev F X (.call 155 [(.one (.val (.string a0)))] [] [] [(.one (.val (.bool (m155 a0))))]) := by
  unfold m155
  by_cases h0 : (decide ((ByteArray.size a0 : Int) ≤ 12)) = true
  · try simp only [if_pos h0]
    have f2 : Ev F X (.call 172 [(.one (.val (.string a0))), (.one (.val (.string (⟨#[97, 98, 99, 100, 101, 102, 103, 104, 105, 106, 107, 108, 109, 110, 111, 112, 113, 114, 115, 116, 117, 118, 119, 120, 121, 122, 65, 66, 67, 68, 69, 70, 71, 72, 73, 74, 75, 76, 77, 78, 79, 80, 81, 82, 83, 84, 85, 86, 87, 88, 89, 90, 48, 49, 50, 51, 52, 53, 54, 55, 56, 57]⟩ : ByteArray))))] [] [] [(.one (.val (.string (trimB a0 (⟨#[97, 98, 99, 100, 101, 102, 103, 104, 105, 106, 107, 108, 109, 110, 111, 112, 113, 114, 115, 116, 117, 118, 119, 120, 121, 122, 65, 66, 67, 68, 69, 70, 71, 72, 73, 74, 75, 76, 77, 78, 79, 80, 81, 82, 83, 84, 85, 86, 87, 88, 89, 90, 48, 49, 50, 51, 52, 53, 54, 55, 56, 57]⟩ : ByteArray)))))]) := (e172 (a0 := a0) (a1 := (⟨#[97, 98, 99, 100, 101, 102, 103, 104, 105, 106, 107, 108, 109, 110, 111, 112, 113, 114, 115, 116, 117, 118, 119, 120, 121, 122, 65, 66, 67, 68, 69, 70, 71, 72, 73, 74, 75, 76, 77, 78, 79, 80, 81, 82, 83, 84, 85, 86, 87, 88, 89, 90, 48, 49, 50, 51, 52, 53, 54, 55, 56, 57]⟩ : ByteArray)) (by simp only [decide_eq_true_eq] at *; omega) (by decide) (by decide))
    exact callP_ok (ps := []) (os := []) (rs := [(.one (.val (.bool ((trimB a0 (⟨#[97, 98, 99, 100, 101, 102, 103, 104, 105, 106, 107, 108, 109, 110, 111, 112, 113, 114, 115, 116, 117, 118, 119, 120, 121, 122, 65, 66, 67, 68, 69, 70, 71, 72, 73, 74, 75, 76, 77, 78, 79, 80, 81, 82, 83, 84, 85, 86, 87, 88, 89, 90, 48, 49, 50, 51, 52, 53, 54, 55, 56, 57]⟩ : ByteArray)).toList == (⟨#[]⟩ : ByteArray).toList))))]) (by kernel_rfl) (.f h0 (.f h0 (.h 10 (.b true) (.h 12 (.b true) (.r 13 [] [] f2 (.f h0 (.f h0 (.h 14 (.b true) (.h 17 (.b true) .nil)))))))))
  · try simp only [if_neg h0]
    exact callP_ok (ps := []) (os := []) (rs := [(.one (.val (.bool false)))]) (by kernel_rfl) (.f (nt h0) (.f (nt h0) (.f (nt h0) (.f (nt h0) (.h 10 (.b false) (.h 12 (.b false) (.h 14 (.b false) (.h 17 (.b false) .nil))))))))
/-! loop.example/g00539/impl.workerOk -/
def m113 (a0 : ByteArray) : Bool :=
  if (!(a0.toList == (⟨#[]⟩ : ByteArray).toList)) = true then (m155 a0) else
  false
theorem e113 {a0 : ByteArray} : Ev F X (.call 113 [(.one (.val (.string a0)))] [] [] [(.one (.val (.bool (m113 a0))))]) := by
  unfold m113
  by_cases h0 : (!(a0.toList == (⟨#[]⟩ : ByteArray).toList)) = true
  · try simp only [if_pos h0]
    have f2 : Ev F X (.call 155 [(.one (.val (.string a0)))] [] [] [(.one (.val (.bool (m155 a0))))]) := (e155 (a0 := a0))
    exact callP_ok (ps := []) (os := []) (rs := [(.one (.val (.bool (m155 a0))))]) (by kernel_rfl) (.f h0 (.f h0 (.h 8 (.b true) (.h 10 (.b true) (.r 11 [] [] f2 (.f h0 (.h 13 (.b true) .nil)))))))
  · try simp only [if_neg h0]
    exact callP_ok (ps := []) (os := []) (rs := [(.one (.val (.bool false)))]) (by kernel_rfl) (.f (nt h0) (.f (nt h0) (.f (nt h0) (.h 8 (.b false) (.h 10 (.b false) (.h 13 (.b false) .nil))))))
/-! loop 46_0 -/
inductive O46_0 where
  | k0 (w0 : Int) (w1 : Bool)
  | k1
  | k2
def r46_0 (a0 : (List K_si)) : List K_si → Int → O46_0
  | x0 :: y0, i =>
    if (!(m113 x0.f0)) = true then (O46_0.k1) else
    if (!(m93 x0.f1 1 9999)) = true then (O46_0.k2) else
      (r46_0 a0 y0 (i + 1) )
  | [], i => (O46_0.k0 i (decide (i < ((length (map b_si a0)) : Int))))
def h46_0 (l0_0 : Nat) (a0 : (List K_si)) (i : Int)  : St := ⟨[(8, (.one (.bor l0_0 (map b_si a0)))), (9, (.one (.val (.int .i64 ((length (map b_si a0)) : Int))))), (10, (.one (.val (.int .i64 i))))], []⟩
def ex46_0 : O46_0 → VX.Exit
  | .k0 _ _ => (.exit 0)
  | .k1 => .ret
  | .k2 => .ret
def fin46_0 (l0_0 : Nat) (a0 : (List K_si)) : O46_0 → St
  | .k0 w0 w1 => ⟨[(8, (.one (.bor l0_0 (map b_si a0)))), (9, (.one (.val (.int .i64 ((length (map b_si a0)) : Int))))), (10, (.one (.val (.int .i64 w0)))), (11, (.one (.val (.bool w1))))], []⟩
  | .k1 => ⟨[(2, (.one (.val (.int .i64 5))))], []⟩
  | .k2 => ⟨[(2, (.one (.val (.int .i64 3))))], []⟩
theorem t46_0 {l0_0 : Nat} {a0 : (List K_si)} (hy0 : length a0 * 24 ≤ 140737488351232) : ∀ (y0 : List K_si) (p : List K_si) , p ++ y0 = a0 → Ev F X (.code l46_0 (h46_0 l0_0 a0 (length p : Int) ) (ex46_0 (r46_0 a0 y0 (length p : Int) )) (fin46_0 l0_0 a0 (r46_0 a0 y0 (length p : Int) )))
  | [], p, hp0 => by
    have hc : ¬ (decide ((length p : Int) < ((length (map b_si a0)) : Int))) = true := by
      rw [← hp0]; simp only [length_map, length_set, length_append, length_replicate, length_cons, length_nil, decide_eq_true_eq]; omega
    have st := codeH_ok (F := F) (X := X) (c := b46_0) (t := 0) (hs := [(2, .b false)]) (σ := h46_0 l0_0 a0 (length p : Int) ) (σ' := fin46_0 l0_0 a0 (.k0 (length p : Int) (decide ((length p : Int) < ((length (map b_si a0)) : Int))))) (e := (.exit 0)) (t' := 3) (hs' := []) (q := [(decide ((length p : Int) < ((length (map b_si a0)) : Int))) = false]) (by kernel_rfl) ⟨(nt hc), trivial⟩
    exact .loopX st (show ((.exit 0) : VX.Exit) ≠ .normal from by simp)
  | x0 :: y0, p, hp0 => by
    have hc : (decide ((length p : Int) < ((length (map b_si a0)) : Int))) = true := by
      rw [← hp0]; simp only [length_map, length_set, length_append, length_replicate, length_cons, length_nil, decide_eq_true_eq]; omega
    have Hx0 : (a0)[Int.toNat (length p : Int)]? = some x0 := by
      rw [← hp0, Int.toNat_natCast]; simp
    have hlen : length (a0) = length p + length y0 + 1 := by rw [← hp0]; simp; omega
    have hw : IntKind.wrap .i64 ((length p : Int) + 1) = (length p : Int) + 1 := wrap64 (by omega)
    simp only [r46_0]
    by_cases h_1 : (!(m113 x0.f0)) = true
    · try simp only [if_pos h_1]
      have st := codeH_ok (F := F) (X := X) (c := b46_0) (t := 0) (hs := [(2, .b true), (4, .row [(.val (.string x0.f0)), (.i x0.f1)]), (16, .ret [] [(.one (.val (.bool (m113 x0.f0))))] [] []), (21, .b true)]) (σ := h46_0 l0_0 a0 (length p : Int) ) (σ' := fin46_0 l0_0 a0 (.k1)) (e := .ret) (t' := 24) (hs' := []) (q := [(decide ((length p : Int) < ((length (map b_si a0)) : Int))) = true, 0 ≤ (length p : Int), (map b_si a0)[(Int.toNat (length p : Int))]? = some [(.val (.string x0.f0)), (.i x0.f1)], Ev F X (.call 113 [(.one (.val (.string x0.f0)))] [] [] [(.one (.val (.bool (m113 x0.f0))))]), (!(m113 x0.f0)) = true]) (by kernel_rfl) ⟨hc, (by omega), (by rw [getElem?_map, Hx0]; rfl), (e113 (a0 := x0.f0)), h_1, trivial⟩
      exact .loopX st (show (.ret : VX.Exit) ≠ .normal from by simp)
    · try simp only [if_neg h_1]
      by_cases h_2 : (!(m93 x0.f1 1 9999)) = true
      · try simp only [if_pos h_2]
        have st := codeH_ok (F := F) (X := X) (c := b46_0) (t := 0) (hs := [(2, .b true), (4, .row [(.val (.string x0.f0)), (.i x0.f1)]), (16, .ret [] [(.one (.val (.bool (m113 x0.f0))))] [] []), (21, .b false), (27, .ret [] [(.one (.val (.bool (m93 x0.f1 1 9999))))] [] []), (32, .b true)]) (σ := h46_0 l0_0 a0 (length p : Int) ) (σ' := fin46_0 l0_0 a0 (.k2)) (e := .ret) (t' := 35) (hs' := []) (q := [(decide ((length p : Int) < ((length (map b_si a0)) : Int))) = true, 0 ≤ (length p : Int), (map b_si a0)[(Int.toNat (length p : Int))]? = some [(.val (.string x0.f0)), (.i x0.f1)], Ev F X (.call 113 [(.one (.val (.string x0.f0)))] [] [] [(.one (.val (.bool (m113 x0.f0))))]), (!(m113 x0.f0)) = false, Ev F X (.call 93 [(.oi x0.f1), (.oi 1), (.oi 9999)] [] [] [(.one (.val (.bool (m93 x0.f1 1 9999))))]), (!(m93 x0.f1 1 9999)) = true]) (by kernel_rfl) ⟨hc, (by omega), (by rw [getElem?_map, Hx0]; rfl), (e113 (a0 := x0.f0)), (nt h_1), (e93 (a0 := x0.f1) (a1 := 1) (a2 := 9999)), h_2, trivial⟩
        exact .loopX st (show (.ret : VX.Exit) ≠ .normal from by simp)
      · try simp only [if_neg h_2]
        have st := codeH_ok (F := F) (X := X) (c := b46_0) (t := 0) (hs := [(2, .b true), (4, .row [(.val (.string x0.f0)), (.i x0.f1)]), (16, .ret [] [(.one (.val (.bool (m113 x0.f0))))] [] []), (21, .b false), (27, .ret [] [(.one (.val (.bool (m93 x0.f1 1 9999))))] [] []), (32, .b false)]) (σ := h46_0 l0_0 a0 (length p : Int) ) (σ' := ⟨[(8, (.one (.bor l0_0 (map b_si a0)))), (9, (.oi ((length (map b_si a0)) : Int))), (10, (.oi (IntKind.wrap .i64 ((length p : Int) + 1))))], []⟩) (e := .normal) (t' := 37) (hs' := []) (q := [(decide ((length p : Int) < ((length (map b_si a0)) : Int))) = true, 0 ≤ (length p : Int), (map b_si a0)[(Int.toNat (length p : Int))]? = some [(.val (.string x0.f0)), (.i x0.f1)], Ev F X (.call 113 [(.one (.val (.string x0.f0)))] [] [] [(.one (.val (.bool (m113 x0.f0))))]), (!(m113 x0.f0)) = false, Ev F X (.call 93 [(.oi x0.f1), (.oi 1), (.oi 9999)] [] [] [(.one (.val (.bool (m93 x0.f1 1 9999))))]), (!(m93 x0.f1 1 9999)) = false, True]) (by kernel_rfl) ⟨hc, (by omega), (by rw [getElem?_map, Hx0]; rfl), (e113 (a0 := x0.f0)), (nt h_1), (e93 (a0 := x0.f1) (a1 := 1) (a2 := 9999)), (nt h_2), trivial, trivial⟩
        have ih := t46_0 (l0_0 := l0_0) (a0 := a0) hy0 y0 (p ++ [x0])  (by rw [append_assoc]; exact hp0)
        rw [show ((p ++ [x0]).length : Int) = (p.length : Int) + 1 from by simp] at ih
        rw [show (⟨[(8, (.one (.bor l0_0 (map b_si a0)))), (9, (.oi ((length (map b_si a0)) : Int))), (10, (.oi (IntKind.wrap .i64 ((length p : Int) + 1))))], []⟩ : St) = h46_0 l0_0 a0 ((length p : Int) + 1)  from (by unfold h46_0; simp only [hw]; done)] at st
        exact .loopN st ih
/-! loop.example/g00539/impl.WindowFault -/
def m46 (a0 : (List K_si)) : Int :=
  if (decide (((length (map b_si a0)) : Int) > 12)) = true then 2 else
  (match r46_0 a0 a0 0 with | .k0 w0_1 w1_1 => 0 | .k1 => 5 | .k2 => 3)
theorem e46 {l0_0 : Nat} {a0 : (List K_si)} (hy0 : length a0 * 24 ≤ 140737488351232) : Ev F X (.call 46 [(.one (.bor l0_0 (map b_si a0)))] [] [] [(.one (.val (.int .i64 (m46 a0))))]) := by
  unfold m46
  by_cases h0 : (decide (((length (map b_si a0)) : Int) > 12)) = true
  · try simp only [if_pos h0]
    exact callP_ok (ps := []) (os := []) (rs := [(.oi 2)]) (by kernel_rfl) (.f h0 (.h 8 (.b true) .nil))
  · try simp only [if_neg h0]
    cases h1 : r46_0 a0 a0 0 with
    | k0 w0_1 w1_1 =>
      try dsimp only
      have f1 : (⟨[(8, (.one (.bor l0_0 (map b_si a0)))), (9, (.oi ((length (map b_si a0)) : Int))), (10, (.oi 0))], []⟩ : St) = h46_0 l0_0 a0 0  := (by rfl)
      have f2 : Ev F X (.code l46_0 (h46_0 l0_0 a0 0 ) (.exit 0) ⟨[(8, (.one (.bor l0_0 (map b_si a0)))), (9, (.oi ((length (map b_si a0)) : Int))), (10, (.oi w0_1)), (11, (.one (.val (.bool w1_1))))], []⟩) := (by have t : Ev F X (.code l46_0 (h46_0 l0_0 a0 0 ) (ex46_0 (r46_0 a0 a0 0)) (fin46_0 l0_0 a0 (r46_0 a0 a0 0))) := t46_0 (l0_0 := l0_0) (a0 := a0) (by assumption) a0 []  rfl; rw [h1] at t; exact t)
      exact callP_ok (ps := []) (os := []) (rs := [(.oi 0)]) (by kernel_rfl) (.f (nt h0) (.f f1 (.f f2 (.h 8 (.b false) (.h 15 (.loop (h46_0 l0_0 a0 0 ) (.exit 0) ⟨[(8, (.one (.bor l0_0 (map b_si a0)))), (9, (.oi ((length (map b_si a0)) : Int))), (10, (.oi w0_1)), (11, (.one (.val (.bool w1_1))))], []⟩) .nil)))))
    | k1 =>
      try dsimp only
      have f1 : (⟨[(8, (.one (.bor l0_0 (map b_si a0)))), (9, (.oi ((length (map b_si a0)) : Int))), (10, (.oi 0))], []⟩ : St) = h46_0 l0_0 a0 0  := (by rfl)
      have f2 : Ev F X (.code l46_0 (h46_0 l0_0 a0 0 ) .ret ⟨[(2, (.oi 5))], []⟩) := (by have t : Ev F X (.code l46_0 (h46_0 l0_0 a0 0 ) (ex46_0 (r46_0 a0 a0 0)) (fin46_0 l0_0 a0 (r46_0 a0 a0 0))) := t46_0 (l0_0 := l0_0) (a0 := a0) (by assumption) a0 []  rfl; rw [h1] at t; exact t)
      exact callP_ok (ps := []) (os := []) (rs := [(.oi 5)]) (by kernel_rfl) (.f (nt h0) (.f f1 (.f f2 (.h 8 (.b false) (.h 15 (.loop (h46_0 l0_0 a0 0 ) .ret ⟨[(2, (.oi 5))], []⟩) .nil)))))
    | k2 =>
      try dsimp only
      have f1 : (⟨[(8, (.one (.bor l0_0 (map b_si a0)))), (9, (.oi ((length (map b_si a0)) : Int))), (10, (.oi 0))], []⟩ : St) = h46_0 l0_0 a0 0  := (by rfl)
      have f2 : Ev F X (.code l46_0 (h46_0 l0_0 a0 0 ) .ret ⟨[(2, (.oi 3))], []⟩) := (by have t : Ev F X (.code l46_0 (h46_0 l0_0 a0 0 ) (ex46_0 (r46_0 a0 a0 0)) (fin46_0 l0_0 a0 (r46_0 a0 a0 0))) := t46_0 (l0_0 := l0_0) (a0 := a0) (by assumption) a0 []  rfl; rw [h1] at t; exact t)
      exact callP_ok (ps := []) (os := []) (rs := [(.oi 3)]) (by kernel_rfl) (.f (nt h0) (.f f1 (.f f2 (.h 8 (.b false) (.h 15 (.loop (h46_0 l0_0 a0 0 ) .ret ⟨[(2, (.oi 3))], []⟩) .nil)))))
theorem len12_46 (a : List K_si) (h : ¬ ((m46 a) != 0) = true) : length a ≤ 12 := by
  unfold m46 at h
  split at h
  · simp at h
  · rename_i h2
    simp only [decide_eq_true_eq, length_map] at h2
    omega
/-! loop.example/g00539/impl.sizesOk -/
def m71 (a0 : Int) (a1 : Int) : Bool :=
  if (m93 a0 1 12) = true then (m93 a1 0 1000) else
  false
theorem e71 {a0 : Int} {a1 : Int} : Ev F X (.call 71 [(.one (.val (.int .i64 a0))), (.one (.val (.int .i64 a1)))] [] [] [(.one (.val (.bool (m71 a0 a1))))]) := by
  unfold m71
  have f0 : Ev F X (.call 93 [(.oi a0), (.oi 1), (.oi 12)] [] [] [(.one (.val (.bool (m93 a0 1 12))))]) := (e93 (a0 := a0) (a1 := 1) (a2 := 12))
  by_cases h0 : (m93 a0 1 12) = true
  · try simp only [if_pos h0]
    have f3 : Ev F X (.call 93 [(.oi a1), (.oi 0), (.oi 1000)] [] [] [(.one (.val (.bool (m93 a1 0 1000))))]) := (e93 (a0 := a1) (a1 := 0) (a2 := 1000))
    exact callP_ok (ps := []) (os := []) (rs := [(.one (.val (.bool (m93 a1 0 1000))))]) (by kernel_rfl) (.r 5 [] [] f0 (.f h0 (.f h0 (.h 8 (.b true) (.h 10 (.b true) (.r 11 [] [] f3 (.f h0 (.h 13 (.b true) .nil))))))))
  · try simp only [if_neg h0]
    exact callP_ok (ps := []) (os := []) (rs := [(.one (.val (.bool false)))]) (by kernel_rfl) (.r 5 [] [] f0 (.f (nt h0) (.f (nt h0) (.f (nt h0) (.h 8 (.b false) (.h 10 (.b false) (.h 13 (.b false) .nil)))))))
/-! loop.example/g00539/impl.isAmount -/
def m72 (a0 : Int) : Bool :=
  (m93 a0 0 1000000)
theorem e72 {a0 : Int} : Ev F X (.call 72 [(.one (.val (.int .i64 a0)))] [] [] [(.one (.val (.bool (m93 a0 0 1000000))))]) := by
  have f0 : Ev F X (.call 93 [(.oi a0), (.oi 0), (.oi 1000000)] [] [] [(.one (.val (.bool (m93 a0 0 1000000))))]) := (e93 (a0 := a0) (a1 := 0) (a2 := 1000000))
  exact callP_ok (ps := []) (os := []) (rs := [(.one (.val (.bool (m93 a0 0 1000000))))]) (by kernel_rfl) (.r 5 [] [] f0 .nil)
/-! loop.example/g00539/impl.weightAt$1 -/
def m1014800 (a0 : K_si) (a101001 : ByteArray) : Bool :=
  (a0.f0.toList == a101001.toList)
theorem e1014800 {a0 : K_si} {l101000 : Nat} {a101001 : ByteArray} : Ev F X (.call 148 [(.agg [(.val (.string a0.f0)), (.val (.int .i64 a0.f1))]), (.bptr l101000 [(.val (.string a101001))])] [] [] [(.one (.val (.bool (a0.f0.toList == a101001.toList))))]) := by
  exact callP_ok (ps := []) (os := []) (rs := [(.one (.val (.bool (a0.f0.toList == a101001.toList))))]) (by kernel_rfl) .nil
/-! loop 1014700_0 -/
inductive O1014700_0 where
  | k0 (w0 : Int) (w1 : Bool)
  | k1 (w0 : Int)
def r1014700_0 (a0 : (List K_si)) (a2001 : ByteArray) : List K_si → Int → O1014700_0
  | x0 :: y0, i =>
    if (x0.f0.toList == a2001.toList) = true then (O1014700_0.k1 i) else
    (r1014700_0 a0 a2001 y0 (i + 1) )
  | [], i => (O1014700_0.k0 i (decide (i < ((length (map b_si a0)) : Int))))
def h1014700_0 (l0_0 : Nat) (l2000 : Nat) (a0 : (List K_si)) (a2001 : ByteArray) (i : Int)  : St := ⟨[(0, (.one (.bor l0_0 (map b_si a0)))), (1, (.clo 148 [] [(.bptr l2000 [(.val (.string a2001))])])), (7, (.one (.val (.int .i64 ((length (map b_si a0)) : Int))))), (8, (.one (.val (.int .i64 i))))], []⟩
def ex1014700_0 : O1014700_0 → VX.Exit
  | .k0 _ _ => (.exit 0)
  | .k1 _ => .ret
def fin1014700_0 (l0_0 : Nat) (l2000 : Nat) (a0 : (List K_si)) (a2001 : ByteArray) : O1014700_0 → St
  | .k0 w0 w1 => ⟨[(0, (.one (.bor l0_0 (map b_si a0)))), (1, (.clo 148 [] [(.bptr l2000 [(.val (.string a2001))])])), (7, (.one (.val (.int .i64 ((length (map b_si a0)) : Int))))), (8, (.one (.val (.int .i64 w0)))), (9, (.one (.val (.bool w1))))], []⟩
  | .k1 w0 => ⟨[(4, (.one (.val (.int .i64 w0))))], []⟩
theorem t1014700_0 {l0_0 : Nat} {l2000 : Nat} {a0 : (List K_si)} {a2001 : ByteArray} (hy0 : length a0 * 24 ≤ 140737488351232) : ∀ (y0 : List K_si) (p : List K_si) , p ++ y0 = a0 → Ev F X (.code l147_0 (h1014700_0 l0_0 l2000 a0 a2001 (length p : Int) ) (ex1014700_0 (r1014700_0 a0 a2001 y0 (length p : Int) )) (fin1014700_0 l0_0 l2000 a0 a2001 (r1014700_0 a0 a2001 y0 (length p : Int) )))
  | [], p, hp0 => by
    have hc : ¬ (decide ((length p : Int) < ((length (map b_si a0)) : Int))) = true := by
      rw [← hp0]; simp only [length_map, length_set, length_append, length_replicate, length_cons, length_nil, decide_eq_true_eq]; omega
    have st := codeH_ok (F := F) (X := X) (c := b147_0) (t := 0) (hs := [(2, .b false)]) (σ := h1014700_0 l0_0 l2000 a0 a2001 (length p : Int) ) (σ' := fin1014700_0 l0_0 l2000 a0 a2001 (.k0 (length p : Int) (decide ((length p : Int) < ((length (map b_si a0)) : Int))))) (e := (.exit 0)) (t' := 3) (hs' := []) (q := [(decide ((length p : Int) < ((length (map b_si a0)) : Int))) = false]) (by kernel_rfl) ⟨(nt hc), trivial⟩
    exact .loopX st (show ((.exit 0) : VX.Exit) ≠ .normal from by simp)
  | x0 :: y0, p, hp0 => by
    have hc : (decide ((length p : Int) < ((length (map b_si a0)) : Int))) = true := by
      rw [← hp0]; simp only [length_map, length_set, length_append, length_replicate, length_cons, length_nil, decide_eq_true_eq]; omega
    have Hx0 : (a0)[Int.toNat (length p : Int)]? = some x0 := by
      rw [← hp0, Int.toNat_natCast]; simp
    have hlen : length (a0) = length p + length y0 + 1 := by rw [← hp0]; simp; omega
    have hw : IntKind.wrap .i64 ((length p : Int) + 1) = (length p : Int) + 1 := wrap64 (by omega)
    simp only [r1014700_0]
    by_cases h_1 : (x0.f0.toList == a2001.toList) = true
    · try simp only [if_pos h_1]
      have st := codeH_ok (F := F) (X := X) (c := b147_0) (t := 0) (hs := [(2, .b true), (14, .row [(.val (.string x0.f0)), (.i x0.f1)]), (18, .ret [] [(.one (.val (.bool (x0.f0.toList == a2001.toList))))] [] []), (19, .b true)]) (σ := h1014700_0 l0_0 l2000 a0 a2001 (length p : Int) ) (σ' := fin1014700_0 l0_0 l2000 a0 a2001 (.k1 (length p : Int))) (e := .ret) (t' := 24) (hs' := []) (q := [(decide ((length p : Int) < ((length (map b_si a0)) : Int))) = true, 0 ≤ (length p : Int), (map b_si a0)[(Int.toNat (length p : Int))]? = some [(.val (.string x0.f0)), (.i x0.f1)], Ev F X (.call 148 [(.agg [(.val (.string x0.f0)), (.i x0.f1)]), (.bptr (l2000 + 1) [(.val (.string a2001))])] [] [] [(.one (.val (.bool (x0.f0.toList == a2001.toList))))]), (x0.f0.toList == a2001.toList) = true]) (by kernel_rfl) ⟨hc, (by omega), (by rw [getElem?_map, Hx0]; rfl), (e1014800 (a0 := x0) (a101001 := a2001)), h_1, trivial⟩
      exact .loopX st (show (.ret : VX.Exit) ≠ .normal from by simp)
    · try simp only [if_neg h_1]
      have st := codeH_ok (F := F) (X := X) (c := b147_0) (t := 0) (hs := [(2, .b true), (14, .row [(.val (.string x0.f0)), (.i x0.f1)]), (18, .ret [] [(.one (.val (.bool (x0.f0.toList == a2001.toList))))] [] []), (19, .b false)]) (σ := h1014700_0 l0_0 l2000 a0 a2001 (length p : Int) ) (σ' := ⟨[(0, (.one (.bor l0_0 (map b_si a0)))), (1, (.clo 148 [] [(.bptr l2000 [(.val (.string a2001))])])), (7, (.oi ((length (map b_si a0)) : Int))), (8, (.oi (IntKind.wrap .i64 ((length p : Int) + 1))))], []⟩) (e := .normal) (t' := 24) (hs' := []) (q := [(decide ((length p : Int) < ((length (map b_si a0)) : Int))) = true, 0 ≤ (length p : Int), (map b_si a0)[(Int.toNat (length p : Int))]? = some [(.val (.string x0.f0)), (.i x0.f1)], Ev F X (.call 148 [(.agg [(.val (.string x0.f0)), (.i x0.f1)]), (.bptr (l2000 + 1) [(.val (.string a2001))])] [] [] [(.one (.val (.bool (x0.f0.toList == a2001.toList))))]), (x0.f0.toList == a2001.toList) = false, True]) (by kernel_rfl) ⟨hc, (by omega), (by rw [getElem?_map, Hx0]; rfl), (e1014800 (a0 := x0) (a101001 := a2001)), (nt h_1), trivial, trivial⟩
      have ih := t1014700_0 (l0_0 := l0_0) (l2000 := l2000) (a0 := a0) (a2001 := a2001) hy0 y0 (p ++ [x0])  (by rw [append_assoc]; exact hp0)
      rw [show ((p ++ [x0]).length : Int) = (p.length : Int) + 1 from by simp] at ih
      rw [show (⟨[(0, (.one (.bor l0_0 (map b_si a0)))), (1, (.clo 148 [] [(.bptr l2000 [(.val (.string a2001))])])), (7, (.oi ((length (map b_si a0)) : Int))), (8, (.oi (IntKind.wrap .i64 ((length p : Int) + 1))))], []⟩ : St) = h1014700_0 l0_0 l2000 a0 a2001 ((length p : Int) + 1)  from (by unfold h1014700_0; simp only [hw]; done)] at st
      exact .loopN st ih
/-! slices.IndexFunc[[]loop.example/g00539/impl.Weight,loop.example/g00539/impl.Weight] -/
def m1014700 (a0 : (List K_si)) (a2001 : ByteArray) : Int :=
  (match r1014700_0 a0 a2001 a0 0 with | .k0 w0_0 w1_0 => (-1) | .k1 w0_0 => w0_0)
theorem e1014700 {l0_0 : Nat} {a0 : (List K_si)} {l2000 : Nat} {a2001 : ByteArray} (hy0 : length a0 * 24 ≤ 140737488351232) : Ev F X (.call 147 [(.one (.bor l0_0 (map b_si a0))), (.clo 148 [] [(.bptr l2000 [(.val (.string a2001))])])] [] [] [(.one (.val (.int .i64 (m1014700 a0 a2001))))]) := by
  unfold m1014700
  cases h0 : r1014700_0 a0 a2001 a0 0 with
  | k0 w0_0 w1_0 =>
    try dsimp only
    have f0 : (⟨[(0, (.one (.bor l0_0 (map b_si a0)))), (1, (.clo 148 [] [(.bptr l2000 [(.val (.string a2001))])])), (7, (.oi ((length (map b_si a0)) : Int))), (8, (.oi 0))], []⟩ : St) = h1014700_0 l0_0 l2000 a0 a2001 0  := (by rfl)
    have f1 : Ev F X (.code l147_0 (h1014700_0 l0_0 l2000 a0 a2001 0 ) (.exit 0) ⟨[(0, (.one (.bor l0_0 (map b_si a0)))), (1, (.clo 148 [] [(.bptr l2000 [(.val (.string a2001))])])), (7, (.oi ((length (map b_si a0)) : Int))), (8, (.oi w0_0)), (9, (.one (.val (.bool w1_0))))], []⟩) := (by have t : Ev F X (.code l147_0 (h1014700_0 l0_0 l2000 a0 a2001 0 ) (ex1014700_0 (r1014700_0 a0 a2001 a0 0)) (fin1014700_0 l0_0 l2000 a0 a2001 (r1014700_0 a0 a2001 a0 0))) := t1014700_0 (l0_0 := l0_0) (l2000 := l2000) (a0 := a0) (a2001 := a2001) (by assumption) a0 []  rfl; rw [h0] at t; exact t)
    exact callP_ok (ps := []) (os := []) (rs := [(.oi (-1))]) (by kernel_rfl) (.f f0 (.f f1 (.h 8 (.loop (h1014700_0 l0_0 l2000 a0 a2001 0 ) (.exit 0) ⟨[(0, (.one (.bor l0_0 (map b_si a0)))), (1, (.clo 148 [] [(.bptr l2000 [(.val (.string a2001))])])), (7, (.oi ((length (map b_si a0)) : Int))), (8, (.oi w0_0)), (9, (.one (.val (.bool w1_0))))], []⟩) .nil)))
  | k1 w0_0 =>
    try dsimp only
    have f0 : (⟨[(0, (.one (.bor l0_0 (map b_si a0)))), (1, (.clo 148 [] [(.bptr l2000 [(.val (.string a2001))])])), (7, (.oi ((length (map b_si a0)) : Int))), (8, (.oi 0))], []⟩ : St) = h1014700_0 l0_0 l2000 a0 a2001 0  := (by rfl)
    have f1 : Ev F X (.code l147_0 (h1014700_0 l0_0 l2000 a0 a2001 0 ) .ret ⟨[(4, (.oi w0_0))], []⟩) := (by have t : Ev F X (.code l147_0 (h1014700_0 l0_0 l2000 a0 a2001 0 ) (ex1014700_0 (r1014700_0 a0 a2001 a0 0)) (fin1014700_0 l0_0 l2000 a0 a2001 (r1014700_0 a0 a2001 a0 0))) := t1014700_0 (l0_0 := l0_0) (l2000 := l2000) (a0 := a0) (a2001 := a2001) (by assumption) a0 []  rfl; rw [h0] at t; exact t)
    exact callP_ok (ps := []) (os := []) (rs := [(.oi w0_0)]) (by kernel_rfl) (.f f0 (.f f1 (.h 8 (.loop (h1014700_0 l0_0 l2000 a0 a2001 0 ) .ret ⟨[(4, (.oi w0_0))], []⟩) .nil)))
theorem ixr1014700_0 (a0 : (List K_si)) (a2001 : ByteArray) : ∀ (l : List K_si) (i : Int), (∃ (w0 : _) (w1 : _), r1014700_0 a0 a2001 l i = .k0 w0 w1) ∨ (∃ w, r1014700_0 a0 a2001 l i = .k1 w ∧ i ≤ w ∧ w < i + l.length)
  | [], i => .inl ⟨i, (decide (i < ((length (map b_si a0)) : Int))), rfl⟩
  | x :: l, i => by
    have ih := ixr1014700_0 a0 a2001 l (i + 1)
    simp only [r1014700_0]
    (repeat' split)
    all_goals first
      | exact .inr ⟨i, rfl, by omega, by simp only [length_cons]; omega⟩
      | (rcases ih with ⟨w0, w1, h⟩ | ⟨w, h, h1, h2⟩
         · exact .inl ⟨w0, w1, h⟩
         · exact .inr ⟨w, h, by omega, by simp only [length_cons]; omega⟩)
theorem ix1014700 (a0 : (List K_si)) (a2001 : ByteArray) : -1 ≤ m1014700 a0 a2001 ∧ m1014700 a0 a2001 < (length a0 : Int) := by
  unfold m1014700
  rcases ixr1014700_0 a0 a2001 a0 0 with ⟨w0, w1, h⟩ | ⟨w, h, h1, h2⟩ <;> simp only [h] <;> omega
/-! loop.example/g00539/impl.weightAt -/
def m94 (a0 : (List K_si)) (a1 : ByteArray) : Int :=
  (m1014700 a0 a1)
theorem e94 {l0_0 : Nat} {a0 : (List K_si)} {a1 : ByteArray} (hy0 : length a0 * 24 ≤ 140737488351232) : Ev F X (.call 94 [(.one (.bor l0_0 (map b_si a0))), (.one (.val (.string a1)))] [] [] [(.one (.val (.int .i64 (m1014700 a0 a1))))]) := by
  have f0 : fullL [(.val (.string a1))] = true := (by trivial)
  have f1 : Ev F X (.call 147 [(.one (.bor (l0_0 + 1) (map b_si a0))), (.clo 148 [] [(.bptr 0 [(.val (.string a1))])])] [] [] [(.oi (m1014700 a0 a1))]) := (e1014700 (a0 := a0) (a2001 := a1) (by with_reducible assumption))
  exact callP_ok (ps := []) (os := []) (rs := [(.oi (m1014700 a0 a1))]) (by kernel_rfl) (.f f0 (.r 9 [] [] f1 .nil))
/-! loop 74_0 -/
inductive O74_0 where
  | k0 (w0 : Int) (w1 : Bool)
  | k1
def r74_0 (a0 : (List K_si)) : List K_si → Int → O74_0
  | x0 :: y0, i =>
    if (!(m113 x0.f0)) = true then (O74_0.k1) else
    if (!(m93 x0.f1 0 1000000)) = true then (O74_0.k1) else
      if (decide ((m1014700 (take (Int.toNat i) a0) x0.f0) ≥ 0)) = true then (O74_0.k1) else
        (r74_0 a0 y0 (i + 1) )
  | [], i => (O74_0.k0 i (decide (i < ((length (map b_si a0)) : Int))))
def h74_0 (l0_0 : Nat) (a0 : (List K_si)) (a1 : Int) (i : Int)  : St := ⟨[(0, (.one (.bor l0_0 (map b_si a0)))), (1, (.one (.val (.int .i64 a1)))), (7, (.one (.bor l0_0 (map b_si a0)))), (8, (.one (.val (.int .i64 ((length (map b_si a0)) : Int))))), (9, (.one (.val (.int .i64 i))))], []⟩
def ex74_0 : O74_0 → VX.Exit
  | .k0 _ _ => (.exit 0)
  | .k1 => .ret
def fin74_0 (l0_0 : Nat) (a0 : (List K_si)) (a1 : Int) : O74_0 → St
  | .k0 w0 w1 => ⟨[(0, (.one (.bor l0_0 (map b_si a0)))), (1, (.one (.val (.int .i64 a1)))), (7, (.one (.bor l0_0 (map b_si a0)))), (8, (.one (.val (.int .i64 ((length (map b_si a0)) : Int))))), (9, (.one (.val (.int .i64 w0)))), (10, (.one (.val (.bool w1))))], []⟩
  | .k1 => ⟨[(4, (.one (.val (.bool false))))], []⟩
theorem t74_0 {l0_0 : Nat} {a0 : (List K_si)} {a1 : Int} (hy0 : length a0 * 24 ≤ 140737488351232) : ∀ (y0 : List K_si) (p : List K_si) , p ++ y0 = a0 → Ev F X (.code l74_0 (h74_0 l0_0 a0 a1 (length p : Int) ) (ex74_0 (r74_0 a0 y0 (length p : Int) )) (fin74_0 l0_0 a0 a1 (r74_0 a0 y0 (length p : Int) )))
  | [], p, hp0 => by
    have hc : ¬ (decide ((length p : Int) < ((length (map b_si a0)) : Int))) = true := by
      rw [← hp0]; simp only [length_map, length_set, length_append, length_replicate, length_cons, length_nil, decide_eq_true_eq]; omega
    have st := codeH_ok (F := F) (X := X) (c := b74_0) (t := 0) (hs := [(2, .b false)]) (σ := h74_0 l0_0 a0 a1 (length p : Int) ) (σ' := fin74_0 l0_0 a0 a1 (.k0 (length p : Int) (decide ((length p : Int) < ((length (map b_si a0)) : Int))))) (e := (.exit 0)) (t' := 3) (hs' := []) (q := [(decide ((length p : Int) < ((length (map b_si a0)) : Int))) = false]) (by kernel_rfl) ⟨(nt hc), trivial⟩
    exact .loopX st (show ((.exit 0) : VX.Exit) ≠ .normal from by simp)
  | x0 :: y0, p, hp0 => by
    have hc : (decide ((length p : Int) < ((length (map b_si a0)) : Int))) = true := by
      rw [← hp0]; simp only [length_map, length_set, length_append, length_replicate, length_cons, length_nil, decide_eq_true_eq]; omega
    have Hx0 : (a0)[Int.toNat (length p : Int)]? = some x0 := by
      rw [← hp0, Int.toNat_natCast]; simp
    have hlen : length (a0) = length p + length y0 + 1 := by rw [← hp0]; simp; omega
    have hw : IntKind.wrap .i64 ((length p : Int) + 1) = (length p : Int) + 1 := wrap64 (by omega)
    simp only [r74_0]
    by_cases h_1 : (!(m113 x0.f0)) = true
    · try simp only [if_pos h_1]
      have st := codeH_ok (F := F) (X := X) (c := b74_0) (t := 0) (hs := [(2, .b true), (6, .row [(.val (.string x0.f0)), (.i x0.f1)]), (20, .ret [] [(.one (.val (.bool (m113 x0.f0))))] [] []), (25, .b true), (27, .b true), (29, .b true), (31, .b true), (34, .b true)]) (σ := h74_0 l0_0 a0 a1 (length p : Int) ) (σ' := fin74_0 l0_0 a0 a1 (.k1)) (e := .ret) (t' := 56) (hs' := []) (q := [(decide ((length p : Int) < ((length (map b_si a0)) : Int))) = true, 0 ≤ (length p : Int), (map b_si a0)[(Int.toNat (length p : Int))]? = some [(.val (.string x0.f0)), (.i x0.f1)], Ev F X (.call 113 [(.one (.val (.string x0.f0)))] [] [] [(.one (.val (.bool (m113 x0.f0))))]), (!(m113 x0.f0)) = true, (!(m113 x0.f0)) = true, (!(m113 x0.f0)) = true, (!(m113 x0.f0)) = true, (!(m113 x0.f0)) = true]) (by kernel_rfl) ⟨hc, (by omega), (by rw [getElem?_map, Hx0]; rfl), (e113 (a0 := x0.f0)), h_1, h_1, h_1, h_1, h_1, trivial⟩
      exact .loopX st (show (.ret : VX.Exit) ≠ .normal from by simp)
    · try simp only [if_neg h_1]
      by_cases h_2 : (!(m93 x0.f1 0 1000000)) = true
      · try simp only [if_pos h_2]
        have st := codeH_ok (F := F) (X := X) (c := b74_0) (t := 0) (hs := [(2, .b true), (6, .row [(.val (.string x0.f0)), (.i x0.f1)]), (20, .ret [] [(.one (.val (.bool (m113 x0.f0))))] [] []), (25, .b false), (27, .b false), (29, .b false), (30, .ret [] [(.one (.val (.bool (m93 x0.f1 0 1000000))))] [] []), (31, .b false), (34, .b false), (37, .b true), (39, .b true), (41, .b true), (43, .b true), (45, .b true), (47, .b true), (49, .b true), (52, .b true)]) (σ := h74_0 l0_0 a0 a1 (length p : Int) ) (σ' := fin74_0 l0_0 a0 a1 (.k1)) (e := .ret) (t' := 56) (hs' := []) (q := [(decide ((length p : Int) < ((length (map b_si a0)) : Int))) = true, 0 ≤ (length p : Int), (map b_si a0)[(Int.toNat (length p : Int))]? = some [(.val (.string x0.f0)), (.i x0.f1)], Ev F X (.call 113 [(.one (.val (.string x0.f0)))] [] [] [(.one (.val (.bool (m113 x0.f0))))]), (!(m113 x0.f0)) = false, (!(m113 x0.f0)) = false, (!(m113 x0.f0)) = false, Ev F X (.call 72 [(.oi x0.f1)] [] [] [(.one (.val (.bool (m93 x0.f1 0 1000000))))]), (!(m113 x0.f0)) = false, (!(m113 x0.f0)) = false, (!(m93 x0.f1 0 1000000)) = true, (!(m93 x0.f1 0 1000000)) = true, (!(m93 x0.f1 0 1000000)) = true, (!(m93 x0.f1 0 1000000)) = true, (!(m93 x0.f1 0 1000000)) = true, (!(m93 x0.f1 0 1000000)) = true, (!(m93 x0.f1 0 1000000)) = true, (!(m93 x0.f1 0 1000000)) = true]) (by kernel_rfl) ⟨hc, (by omega), (by rw [getElem?_map, Hx0]; rfl), (e113 (a0 := x0.f0)), (nt h_1), (nt h_1), (nt h_1), (e72 (a0 := x0.f1)), (nt h_1), (nt h_1), h_2, h_2, h_2, h_2, h_2, h_2, h_2, h_2, trivial⟩
        exact .loopX st (show (.ret : VX.Exit) ≠ .normal from by simp)
      · try simp only [if_neg h_2]
        by_cases h_3 : (decide ((m1014700 (take (Int.toNat (length p : Int)) a0) x0.f0) ≥ 0)) = true
        · try simp only [if_pos h_3]
          have st := codeH_ok (F := F) (X := X) (c := b74_0) (t := 0) (hs := [(2, .b true), (6, .row [(.val (.string x0.f0)), (.i x0.f1)]), (20, .ret [] [(.one (.val (.bool (m113 x0.f0))))] [] []), (25, .b false), (27, .b false), (29, .b false), (30, .ret [] [(.one (.val (.bool (m93 x0.f1 0 1000000))))] [] []), (31, .b false), (34, .b false), (37, .b false), (39, .b false), (41, .b false), (43, .b false), (45, .b false), (47, .b false), (48, .ret [] [(.oi (m1014700 (take (Int.toNat (length p : Int)) a0) x0.f0))] [] []), (49, .b false), (52, .b false), (53, .b true)]) (σ := h74_0 l0_0 a0 a1 (length p : Int) ) (σ' := fin74_0 l0_0 a0 a1 (.k1)) (e := .ret) (t' := 56) (hs' := []) (q := [(decide ((length p : Int) < ((length (map b_si a0)) : Int))) = true, 0 ≤ (length p : Int), (map b_si a0)[(Int.toNat (length p : Int))]? = some [(.val (.string x0.f0)), (.i x0.f1)], Ev F X (.call 113 [(.one (.val (.string x0.f0)))] [] [] [(.one (.val (.bool (m113 x0.f0))))]), (!(m113 x0.f0)) = false, (!(m113 x0.f0)) = false, (!(m113 x0.f0)) = false, Ev F X (.call 72 [(.oi x0.f1)] [] [] [(.one (.val (.bool (m93 x0.f1 0 1000000))))]), (!(m113 x0.f0)) = false, (!(m113 x0.f0)) = false, (!(m93 x0.f1 0 1000000)) = false, (!(m93 x0.f1 0 1000000)) = false, (!(m93 x0.f1 0 1000000)) = false, (0 ≤ (0 : Int) ∧ (0 : Int) ≤ (length p : Int) ∧ (length p : Int) ≤ ((length (map b_si a0)) : Int)) ∧ ∀ r ∈ ((map b_si a0) : List (List B)), r.length = 2, (!(m93 x0.f1 0 1000000)) = false, (!(m93 x0.f1 0 1000000)) = false, (!(m93 x0.f1 0 1000000)) = false, Ev F X (.call 94 [(.one (.bor (l0_0 + 1) (take (Int.toNat (length p : Int) - Int.toNat 0) (drop 0 (map b_si a0))))), (.one (.val (.string x0.f0)))] [] [] [(.oi (m1014700 (take (Int.toNat (length p : Int)) a0) x0.f0))]), (!(m93 x0.f1 0 1000000)) = false, (!(m93 x0.f1 0 1000000)) = false, (decide ((m1014700 (take (Int.toNat (length p : Int)) a0) x0.f0) ≥ 0)) = true]) (by kernel_rfl) ⟨hc, (by omega), (by rw [getElem?_map, Hx0]; rfl), (e113 (a0 := x0.f0)), (nt h_1), (nt h_1), (nt h_1), (e72 (a0 := x0.f1)), (nt h_1), (nt h_1), (nt h_2), (nt h_2), (nt h_2), (by refine ⟨?_, lenB_si _⟩; simp only [length_map, length_set, length_append, length_replicate, length_cons, length_nil]; omega), (nt h_2), (nt h_2), (nt h_2), (by rw [show (take (Int.toNat (length p : Int) - Int.toNat 0) (drop 0 (map b_si a0))) = (map b_si (take (Int.toNat (length p : Int)) a0)) from by first | rfl | (simp [map_take, map_drop]; done) | (simp [*, map_take, map_drop]; done)]; exact (e94 (a0 := (take (Int.toNat (length p : Int)) a0)) (a1 := x0.f0) (by simp only [length_take]; omega))), (nt h_2), (nt h_2), h_3, trivial⟩
          exact .loopX st (show (.ret : VX.Exit) ≠ .normal from by simp)
        · try simp only [if_neg h_3]
          have st := codeH_ok (F := F) (X := X) (c := b74_0) (t := 0) (hs := [(2, .b true), (6, .row [(.val (.string x0.f0)), (.i x0.f1)]), (20, .ret [] [(.one (.val (.bool (m113 x0.f0))))] [] []), (25, .b false), (27, .b false), (29, .b false), (30, .ret [] [(.one (.val (.bool (m93 x0.f1 0 1000000))))] [] []), (31, .b false), (34, .b false), (37, .b false), (39, .b false), (41, .b false), (43, .b false), (45, .b false), (47, .b false), (48, .ret [] [(.oi (m1014700 (take (Int.toNat (length p : Int)) a0) x0.f0))] [] []), (49, .b false), (52, .b false), (53, .b false)]) (σ := h74_0 l0_0 a0 a1 (length p : Int) ) (σ' := ⟨[(0, (.one (.bor l0_0 (map b_si a0)))), (1, (.oi a1)), (7, (.one (.bor l0_0 (map b_si a0)))), (8, (.oi ((length (map b_si a0)) : Int))), (9, (.oi (IntKind.wrap .i64 ((length p : Int) + 1))))], []⟩) (e := .normal) (t' := 58) (hs' := []) (q := [(decide ((length p : Int) < ((length (map b_si a0)) : Int))) = true, 0 ≤ (length p : Int), (map b_si a0)[(Int.toNat (length p : Int))]? = some [(.val (.string x0.f0)), (.i x0.f1)], Ev F X (.call 113 [(.one (.val (.string x0.f0)))] [] [] [(.one (.val (.bool (m113 x0.f0))))]), (!(m113 x0.f0)) = false, (!(m113 x0.f0)) = false, (!(m113 x0.f0)) = false, Ev F X (.call 72 [(.oi x0.f1)] [] [] [(.one (.val (.bool (m93 x0.f1 0 1000000))))]), (!(m113 x0.f0)) = false, (!(m113 x0.f0)) = false, (!(m93 x0.f1 0 1000000)) = false, (!(m93 x0.f1 0 1000000)) = false, (!(m93 x0.f1 0 1000000)) = false, (0 ≤ (0 : Int) ∧ (0 : Int) ≤ (length p : Int) ∧ (length p : Int) ≤ ((length (map b_si a0)) : Int)) ∧ ∀ r ∈ ((map b_si a0) : List (List B)), r.length = 2, (!(m93 x0.f1 0 1000000)) = false, (!(m93 x0.f1 0 1000000)) = false, (!(m93 x0.f1 0 1000000)) = false, Ev F X (.call 94 [(.one (.bor (l0_0 + 1) (take (Int.toNat (length p : Int) - Int.toNat 0) (drop 0 (map b_si a0))))), (.one (.val (.string x0.f0)))] [] [] [(.oi (m1014700 (take (Int.toNat (length p : Int)) a0) x0.f0))]), (!(m93 x0.f1 0 1000000)) = false, (!(m93 x0.f1 0 1000000)) = false, (decide ((m1014700 (take (Int.toNat (length p : Int)) a0) x0.f0) ≥ 0)) = false, True]) (by kernel_rfl) ⟨hc, (by omega), (by rw [getElem?_map, Hx0]; rfl), (e113 (a0 := x0.f0)), (nt h_1), (nt h_1), (nt h_1), (e72 (a0 := x0.f1)), (nt h_1), (nt h_1), (nt h_2), (nt h_2), (nt h_2), (by refine ⟨?_, lenB_si _⟩; simp only [length_map, length_set, length_append, length_replicate, length_cons, length_nil]; omega), (nt h_2), (nt h_2), (nt h_2), (by rw [show (take (Int.toNat (length p : Int) - Int.toNat 0) (drop 0 (map b_si a0))) = (map b_si (take (Int.toNat (length p : Int)) a0)) from by first | rfl | (simp [map_take, map_drop]; done) | (simp [*, map_take, map_drop]; done)]; exact (e94 (a0 := (take (Int.toNat (length p : Int)) a0)) (a1 := x0.f0) (by simp only [length_take]; omega))), (nt h_2), (nt h_2), (nt h_3), trivial, trivial⟩
          have ih := t74_0 (l0_0 := l0_0) (a0 := a0) (a1 := a1) hy0 y0 (p ++ [x0])  (by rw [append_assoc]; exact hp0)
          rw [show ((p ++ [x0]).length : Int) = (p.length : Int) + 1 from by simp] at ih
          rw [show (⟨[(0, (.one (.bor l0_0 (map b_si a0)))), (1, (.oi a1)), (7, (.one (.bor l0_0 (map b_si a0)))), (8, (.oi ((length (map b_si a0)) : Int))), (9, (.oi (IntKind.wrap .i64 ((length p : Int) + 1))))], []⟩ : St) = h74_0 l0_0 a0 a1 ((length p : Int) + 1)  from (by unfold h74_0; simp only [hw]; done)] at st
          exact .loopN st ih
/-! loop.example/g00539/impl.owedOk -/
def m74 (a0 : (List K_si)) (a1 : Int) : Bool :=
  (match r74_0 a0 a0 0 with | .k0 w0_0 w1_0 => (decide (((length (map b_si a0)) : Int) ≤ a1)) | .k1 => false)
theorem e74 {l0_0 : Nat} {a0 : (List K_si)} {a1 : Int} (hy0 : length a0 * 24 ≤ 140737488351232) : Ev F X (.call 74 [(.one (.bor l0_0 (map b_si a0))), (.one (.val (.int .i64 a1)))] [] [] [(.one (.val (.bool (m74 a0 a1))))]) := by
  unfold m74
  cases h0 : r74_0 a0 a0 0 with
  | k0 w0_0 w1_0 =>
    try dsimp only
    have f0 : (⟨[(0, (.one (.bor l0_0 (map b_si a0)))), (1, (.oi a1)), (7, (.one (.bor l0_0 (map b_si a0)))), (8, (.oi ((length (map b_si a0)) : Int))), (9, (.oi 0))], []⟩ : St) = h74_0 l0_0 a0 a1 0  := (by rfl)
    have f1 : Ev F X (.code l74_0 (h74_0 l0_0 a0 a1 0 ) (.exit 0) ⟨[(0, (.one (.bor l0_0 (map b_si a0)))), (1, (.oi a1)), (7, (.one (.bor l0_0 (map b_si a0)))), (8, (.oi ((length (map b_si a0)) : Int))), (9, (.oi w0_0)), (10, (.one (.val (.bool w1_0))))], []⟩) := (by have t : Ev F X (.code l74_0 (h74_0 l0_0 a0 a1 0 ) (ex74_0 (r74_0 a0 a0 0)) (fin74_0 l0_0 a0 a1 (r74_0 a0 a0 0))) := t74_0 (l0_0 := l0_0) (a0 := a0) (a1 := a1) (by assumption) a0 []  rfl; rw [h0] at t; exact t)
    exact callP_ok (ps := []) (os := []) (rs := [(.one (.val (.bool (decide (((length (map b_si a0)) : Int) ≤ a1)))))]) (by kernel_rfl) (.f f0 (.f f1 (.h 8 (.loop (h74_0 l0_0 a0 a1 0 ) (.exit 0) ⟨[(0, (.one (.bor l0_0 (map b_si a0)))), (1, (.oi a1)), (7, (.one (.bor l0_0 (map b_si a0)))), (8, (.oi ((length (map b_si a0)) : Int))), (9, (.oi w0_0)), (10, (.one (.val (.bool w1_0))))], []⟩) .nil)))
  | k1 =>
    try dsimp only
    have f0 : (⟨[(0, (.one (.bor l0_0 (map b_si a0)))), (1, (.oi a1)), (7, (.one (.bor l0_0 (map b_si a0)))), (8, (.oi ((length (map b_si a0)) : Int))), (9, (.oi 0))], []⟩ : St) = h74_0 l0_0 a0 a1 0  := (by rfl)
    have f1 : Ev F X (.code l74_0 (h74_0 l0_0 a0 a1 0 ) .ret ⟨[(4, (.one (.val (.bool false))))], []⟩) := (by have t : Ev F X (.code l74_0 (h74_0 l0_0 a0 a1 0 ) (ex74_0 (r74_0 a0 a0 0)) (fin74_0 l0_0 a0 a1 (r74_0 a0 a0 0))) := t74_0 (l0_0 := l0_0) (a0 := a0) (a1 := a1) (by assumption) a0 []  rfl; rw [h0] at t; exact t)
    exact callP_ok (ps := []) (os := []) (rs := [(.one (.val (.bool false)))]) (by kernel_rfl) (.f f0 (.f f1 (.h 8 (.loop (h74_0 l0_0 a0 a1 0 ) .ret ⟨[(4, (.one (.val (.bool false))))], []⟩) .nil)))
/-! loop 75_0 -/
inductive O75_0 where
  | k0 (w0 : Int) (w1 : Int) (w2 : Bool)
def r75_0 (a0 : (List K_si)) : List K_si → Int → Int → O75_0
  | x0 :: y0, i, v0 =>
    (r75_0 a0 y0 (i + 1) (IntKind.wrap .i64 (v0 + x0.f1)))
  | [], i, v0 => (O75_0.k0 v0 i (decide (i < ((length (map b_si a0)) : Int))))
def h75_0 (l0_0 : Nat) (a0 : (List K_si)) (i : Int) (v0 : Int) : St := ⟨[(3, (.one (.val (.int .i64 v0)))), (6, (.one (.bor l0_0 (map b_si a0)))), (7, (.one (.val (.int .i64 ((length (map b_si a0)) : Int))))), (8, (.one (.val (.int .i64 i))))], []⟩
def ex75_0 : O75_0 → VX.Exit
  | .k0 _ _ _ => (.exit 0)
def fin75_0 (l0_0 : Nat) (a0 : (List K_si)) : O75_0 → St
  | .k0 w0 w1 w2 => ⟨[(3, (.one (.val (.int .i64 w0)))), (6, (.one (.bor l0_0 (map b_si a0)))), (7, (.one (.val (.int .i64 ((length (map b_si a0)) : Int))))), (8, (.one (.val (.int .i64 w1)))), (9, (.one (.val (.bool w2))))], []⟩
theorem t75_0 {l0_0 : Nat} {a0 : (List K_si)} (hy0 : length a0 * 24 ≤ 140737488351232) : ∀ (y0 : List K_si) (p : List K_si) (v0 : Int), p ++ y0 = a0 → Ev F X (.code l75_0 (h75_0 l0_0 a0 (length p : Int) v0) (ex75_0 (r75_0 a0 y0 (length p : Int) v0)) (fin75_0 l0_0 a0 (r75_0 a0 y0 (length p : Int) v0)))
  | [], p, v0, hp0 => by
    have hc : ¬ (decide ((length p : Int) < ((length (map b_si a0)) : Int))) = true := by
      rw [← hp0]; simp only [length_map, length_set, length_append, length_replicate, length_cons, length_nil, decide_eq_true_eq]; omega
    have st := codeH_ok (F := F) (X := X) (c := b75_0) (t := 0) (hs := [(2, .b false)]) (σ := h75_0 l0_0 a0 (length p : Int) v0) (σ' := fin75_0 l0_0 a0 (.k0 v0 (length p : Int) (decide ((length p : Int) < ((length (map b_si a0)) : Int))))) (e := (.exit 0)) (t' := 3) (hs' := []) (q := [(decide ((length p : Int) < ((length (map b_si a0)) : Int))) = false]) (by kernel_rfl) ⟨(nt hc), trivial⟩
    exact .loopX st (show ((.exit 0) : VX.Exit) ≠ .normal from by simp)
  | x0 :: y0, p, v0, hp0 => by
    have hc : (decide ((length p : Int) < ((length (map b_si a0)) : Int))) = true := by
      rw [← hp0]; simp only [length_map, length_set, length_append, length_replicate, length_cons, length_nil, decide_eq_true_eq]; omega
    have Hx0 : (a0)[Int.toNat (length p : Int)]? = some x0 := by
      rw [← hp0, Int.toNat_natCast]; simp
    have hlen : length (a0) = length p + length y0 + 1 := by rw [← hp0]; simp; omega
    have hw : IntKind.wrap .i64 ((length p : Int) + 1) = (length p : Int) + 1 := wrap64 (by omega)
    simp only [r75_0]
    have st := codeH_ok (F := F) (X := X) (c := b75_0) (t := 0) (hs := [(2, .b true), (4, .row [(.val (.string x0.f0)), (.i x0.f1)])]) (σ := h75_0 l0_0 a0 (length p : Int) v0) (σ' := ⟨[(3, (.oi (IntKind.wrap .i64 (v0 + x0.f1)))), (6, (.one (.bor l0_0 (map b_si a0)))), (7, (.oi ((length (map b_si a0)) : Int))), (8, (.oi (IntKind.wrap .i64 ((length p : Int) + 1))))], []⟩) (e := .normal) (t' := 25) (hs' := []) (q := [(decide ((length p : Int) < ((length (map b_si a0)) : Int))) = true, 0 ≤ (length p : Int), (map b_si a0)[(Int.toNat (length p : Int))]? = some [(.val (.string x0.f0)), (.i x0.f1)], True, True]) (by kernel_rfl) ⟨hc, (by omega), (by rw [getElem?_map, Hx0]; rfl), trivial, trivial, trivial⟩
    have ih := t75_0 (l0_0 := l0_0) (a0 := a0) hy0 y0 (p ++ [x0]) (IntKind.wrap .i64 (v0 + x0.f1)) (by rw [append_assoc]; exact hp0)
    rw [show ((p ++ [x0]).length : Int) = (p.length : Int) + 1 from by simp] at ih
    rw [show (⟨[(3, (.oi (IntKind.wrap .i64 (v0 + x0.f1)))), (6, (.one (.bor l0_0 (map b_si a0)))), (7, (.oi ((length (map b_si a0)) : Int))), (8, (.oi (IntKind.wrap .i64 ((length p : Int) + 1))))], []⟩ : St) = h75_0 l0_0 a0 ((length p : Int) + 1) (IntKind.wrap .i64 (v0 + x0.f1)) from (by unfold h75_0; simp only [hw]; done)] at st
    exact .loopN st ih
/-! loop.example/g00539/impl.amounts -/
def m75 (a0 : (List K_si)) : Int :=
  (match r75_0 a0 a0 0 0 with | .k0 w0_0 w1_0 w2_0 => w0_0)
theorem e75 {l0_0 : Nat} {a0 : (List K_si)} (hy0 : length a0 * 24 ≤ 140737488351232) : Ev F X (.call 75 [(.one (.bor l0_0 (map b_si a0)))] [] [] [(.one (.val (.int .i64 (m75 a0))))]) := by
  unfold m75
  cases h0 : r75_0 a0 a0 0 0 with
  | k0 w0_0 w1_0 w2_0 =>
    try dsimp only
    have f0 : (⟨[(3, (.oi 0)), (6, (.one (.bor l0_0 (map b_si a0)))), (7, (.oi ((length (map b_si a0)) : Int))), (8, (.oi 0))], []⟩ : St) = h75_0 l0_0 a0 0 0 := (by rfl)
    have f1 : Ev F X (.code l75_0 (h75_0 l0_0 a0 0 0) (.exit 0) ⟨[(3, (.oi w0_0)), (6, (.one (.bor l0_0 (map b_si a0)))), (7, (.oi ((length (map b_si a0)) : Int))), (8, (.oi w1_0)), (9, (.one (.val (.bool w2_0))))], []⟩) := (by have t : Ev F X (.code l75_0 (h75_0 l0_0 a0 0 0) (ex75_0 (r75_0 a0 a0 0 0)) (fin75_0 l0_0 a0 (r75_0 a0 a0 0 0))) := t75_0 (l0_0 := l0_0) (a0 := a0) (by assumption) a0 [] 0 rfl; rw [h0] at t; exact t)
    exact callP_ok (ps := []) (os := []) (rs := [(.oi w0_0)]) (by kernel_rfl) (.f f0 (.f f1 (.h 10 (.loop (h75_0 l0_0 a0 0 0) (.exit 0) ⟨[(3, (.oi w0_0)), (6, (.one (.bor l0_0 (map b_si a0)))), (7, (.oi ((length (map b_si a0)) : Int))), (8, (.oi w1_0)), (9, (.one (.val (.bool w2_0))))], []⟩) .nil)))
/-! loop.example/g00539/impl.rewardAt$1 -/
def m1014600 (a0 : K_R) (a101001 : Int) : Bool :=
  (a0.f0 == a101001)
theorem e1014600 {l0_3 : Nat} {a0 : K_R} {l101000 : Nat} {a101001 : Int} : Ev F X (.call 146 [(.agg [(.val (.int .i64 a0.f0)), (.val (.int .i64 a0.f1)), (.val (.int .i64 a0.f2)), (.bor l0_3 (map b_si a0.f3)), (.val (.int .i64 a0.f4))]), (.bptr l101000 [(.val (.int .i64 a101001))])] [] [] [(.one (.val (.bool (a0.f0 == a101001))))]) := by
  exact callP_ok (ps := []) (os := []) (rs := [(.one (.val (.bool (a0.f0 == a101001))))]) (by kernel_rfl) .nil
/-! loop 1014500_0 -/
inductive O1014500_0 where
  | k0 (w0 : Int) (w1 : Bool)
  | k1 (w0 : Int)
def r1014500_0 (a0 : (List K_R)) (a2001 : Int) : List K_R → Int → O1014500_0
  | x0 :: y0, i =>
    if (x0.f0 == a2001) = true then (O1014500_0.k1 i) else
    (r1014500_0 a0 a2001 y0 (i + 1) )
  | [], i => (O1014500_0.k0 i (decide (i < ((length (map b_R a0)) : Int))))
def h1014500_0 (l0_0 : Nat) (l2000 : Nat) (a0 : (List K_R)) (a2001 : Int) (i : Int)  : St := ⟨[(0, (.one (.bor l0_0 (map b_R a0)))), (1, (.clo 146 [] [(.bptr l2000 [(.val (.int .i64 a2001))])])), (7, (.one (.val (.int .i64 ((length (map b_R a0)) : Int))))), (8, (.one (.val (.int .i64 i))))], []⟩
def ex1014500_0 : O1014500_0 → VX.Exit
  | .k0 _ _ => (.exit 0)
  | .k1 _ => .ret
def fin1014500_0 (l0_0 : Nat) (l2000 : Nat) (a0 : (List K_R)) (a2001 : Int) : O1014500_0 → St
  | .k0 w0 w1 => ⟨[(0, (.one (.bor l0_0 (map b_R a0)))), (1, (.clo 146 [] [(.bptr l2000 [(.val (.int .i64 a2001))])])), (7, (.one (.val (.int .i64 ((length (map b_R a0)) : Int))))), (8, (.one (.val (.int .i64 w0)))), (9, (.one (.val (.bool w1))))], []⟩
  | .k1 w0 => ⟨[(4, (.one (.val (.int .i64 w0))))], []⟩
theorem t1014500_0 {l0_0 : Nat} {l2000 : Nat} {a0 : (List K_R)} {a2001 : Int} (hy0 : length a0 * 56 ≤ 140737488351232) (hy1 : ∀ z ∈ a0, ok_R z) : ∀ (y0 : List K_R) (p : List K_R) , p ++ y0 = a0 → Ev F X (.code l145_0 (h1014500_0 l0_0 l2000 a0 a2001 (length p : Int) ) (ex1014500_0 (r1014500_0 a0 a2001 y0 (length p : Int) )) (fin1014500_0 l0_0 l2000 a0 a2001 (r1014500_0 a0 a2001 y0 (length p : Int) )))
  | [], p, hp0 => by
    have hc : ¬ (decide ((length p : Int) < ((length (map b_R a0)) : Int))) = true := by
      rw [← hp0]; simp only [length_map, length_set, length_append, length_replicate, length_cons, length_nil, decide_eq_true_eq]; omega
    have st := codeH_ok (F := F) (X := X) (c := b145_0) (t := 0) (hs := [(2, .b false)]) (σ := h1014500_0 l0_0 l2000 a0 a2001 (length p : Int) ) (σ' := fin1014500_0 l0_0 l2000 a0 a2001 (.k0 (length p : Int) (decide ((length p : Int) < ((length (map b_R a0)) : Int))))) (e := (.exit 0)) (t' := 3) (hs' := []) (q := [(decide ((length p : Int) < ((length (map b_R a0)) : Int))) = false]) (by kernel_rfl) ⟨(nt hc), trivial⟩
    exact .loopX st (show ((.exit 0) : VX.Exit) ≠ .normal from by simp)
  | x0 :: y0, p, hp0 => by
    have hc : (decide ((length p : Int) < ((length (map b_R a0)) : Int))) = true := by
      rw [← hp0]; simp only [length_map, length_set, length_append, length_replicate, length_cons, length_nil, decide_eq_true_eq]; omega
    have Hx0 : (a0)[Int.toNat (length p : Int)]? = some x0 := by
      rw [← hp0, Int.toNat_natCast]; simp
    have Mx0_0 := hy1 x0 (List.mem_of_getElem? Hx0)
    have hlen : length (a0) = length p + length y0 + 1 := by rw [← hp0]; simp; omega
    have hw : IntKind.wrap .i64 ((length p : Int) + 1) = (length p : Int) + 1 := wrap64 (by omega)
    simp only [r1014500_0]
    by_cases h_1 : (x0.f0 == a2001) = true
    · try simp only [if_pos h_1]
      have st := codeH_ok (F := F) (X := X) (c := b145_0) (t := 0) (hs := [(2, .b true), (14, .row [(.i x0.f0), (.i x0.f1), (.i x0.f2), (.sl (map b_si x0.f3)), (.i x0.f4)]), (18, .ret [] [(.one (.val (.bool (x0.f0 == a2001))))] [] []), (19, .b true)]) (σ := h1014500_0 l0_0 l2000 a0 a2001 (length p : Int) ) (σ' := fin1014500_0 l0_0 l2000 a0 a2001 (.k1 (length p : Int))) (e := .ret) (t' := 24) (hs' := []) (q := [(decide ((length p : Int) < ((length (map b_R a0)) : Int))) = true, 0 ≤ (length p : Int), (map b_R a0)[(Int.toNat (length p : Int))]? = some [(.i x0.f0), (.i x0.f1), (.i x0.f2), (.sl (map b_si x0.f3)), (.i x0.f4)], Ev F X (.call 146 [(.agg [(.i x0.f0), (.i x0.f1), (.i x0.f2), (.bor (l0_0 + 1) (map b_si x0.f3)), (.i x0.f4)]), (.bptr (l2000 + 1) [(.i a2001)])] [] [] [(.one (.val (.bool (x0.f0 == a2001))))]), (x0.f0 == a2001) = true]) (by kernel_rfl) ⟨hc, (by omega), (by rw [getElem?_map, Hx0]; rfl), (e1014600 (a0 := x0) (a101001 := a2001)), h_1, trivial⟩
      exact .loopX st (show (.ret : VX.Exit) ≠ .normal from by simp)
    · try simp only [if_neg h_1]
      have st := codeH_ok (F := F) (X := X) (c := b145_0) (t := 0) (hs := [(2, .b true), (14, .row [(.i x0.f0), (.i x0.f1), (.i x0.f2), (.sl (map b_si x0.f3)), (.i x0.f4)]), (18, .ret [] [(.one (.val (.bool (x0.f0 == a2001))))] [] []), (19, .b false)]) (σ := h1014500_0 l0_0 l2000 a0 a2001 (length p : Int) ) (σ' := ⟨[(0, (.one (.bor l0_0 (map b_R a0)))), (1, (.clo 146 [] [(.bptr l2000 [(.i a2001)])])), (7, (.oi ((length (map b_R a0)) : Int))), (8, (.oi (IntKind.wrap .i64 ((length p : Int) + 1))))], []⟩) (e := .normal) (t' := 24) (hs' := []) (q := [(decide ((length p : Int) < ((length (map b_R a0)) : Int))) = true, 0 ≤ (length p : Int), (map b_R a0)[(Int.toNat (length p : Int))]? = some [(.i x0.f0), (.i x0.f1), (.i x0.f2), (.sl (map b_si x0.f3)), (.i x0.f4)], Ev F X (.call 146 [(.agg [(.i x0.f0), (.i x0.f1), (.i x0.f2), (.bor (l0_0 + 1) (map b_si x0.f3)), (.i x0.f4)]), (.bptr (l2000 + 1) [(.i a2001)])] [] [] [(.one (.val (.bool (x0.f0 == a2001))))]), (x0.f0 == a2001) = false, True]) (by kernel_rfl) ⟨hc, (by omega), (by rw [getElem?_map, Hx0]; rfl), (e1014600 (a0 := x0) (a101001 := a2001)), (nt h_1), trivial, trivial⟩
      have ih := t1014500_0 (l0_0 := l0_0) (l2000 := l2000) (a0 := a0) (a2001 := a2001) hy0 hy1 y0 (p ++ [x0])  (by rw [append_assoc]; exact hp0)
      rw [show ((p ++ [x0]).length : Int) = (p.length : Int) + 1 from by simp] at ih
      rw [show (⟨[(0, (.one (.bor l0_0 (map b_R a0)))), (1, (.clo 146 [] [(.bptr l2000 [(.i a2001)])])), (7, (.oi ((length (map b_R a0)) : Int))), (8, (.oi (IntKind.wrap .i64 ((length p : Int) + 1))))], []⟩ : St) = h1014500_0 l0_0 l2000 a0 a2001 ((length p : Int) + 1)  from (by unfold h1014500_0; simp only [hw]; done)] at st
      exact .loopN st ih
/-! slices.IndexFunc[[]loop.example/g00539/impl.Reward,loop.example/g00539/impl.Reward] -/
def m1014500 (a0 : (List K_R)) (a2001 : Int) : Int :=
  (match r1014500_0 a0 a2001 a0 0 with | .k0 w0_0 w1_0 => (-1) | .k1 w0_0 => w0_0)
theorem e1014500 {l0_0 : Nat} {a0 : (List K_R)} {l2000 : Nat} {a2001 : Int} (hy0 : length a0 * 56 ≤ 140737488351232) (hy1 : ∀ z ∈ a0, ok_R z) : Ev F X (.call 145 [(.one (.bor l0_0 (map b_R a0))), (.clo 146 [] [(.bptr l2000 [(.val (.int .i64 a2001))])])] [] [] [(.one (.val (.int .i64 (m1014500 a0 a2001))))]) := by
  unfold m1014500
  cases h0 : r1014500_0 a0 a2001 a0 0 with
  | k0 w0_0 w1_0 =>
    try dsimp only
    have f0 : (⟨[(0, (.one (.bor l0_0 (map b_R a0)))), (1, (.clo 146 [] [(.bptr l2000 [(.i a2001)])])), (7, (.oi ((length (map b_R a0)) : Int))), (8, (.oi 0))], []⟩ : St) = h1014500_0 l0_0 l2000 a0 a2001 0  := (by rfl)
    have f1 : Ev F X (.code l145_0 (h1014500_0 l0_0 l2000 a0 a2001 0 ) (.exit 0) ⟨[(0, (.one (.bor l0_0 (map b_R a0)))), (1, (.clo 146 [] [(.bptr l2000 [(.i a2001)])])), (7, (.oi ((length (map b_R a0)) : Int))), (8, (.oi w0_0)), (9, (.one (.val (.bool w1_0))))], []⟩) := (by have t : Ev F X (.code l145_0 (h1014500_0 l0_0 l2000 a0 a2001 0 ) (ex1014500_0 (r1014500_0 a0 a2001 a0 0)) (fin1014500_0 l0_0 l2000 a0 a2001 (r1014500_0 a0 a2001 a0 0))) := t1014500_0 (l0_0 := l0_0) (l2000 := l2000) (a0 := a0) (a2001 := a2001) (by assumption) (by assumption) a0 []  rfl; rw [h0] at t; exact t)
    exact callP_ok (ps := []) (os := []) (rs := [(.oi (-1))]) (by kernel_rfl) (.f f0 (.f f1 (.h 8 (.loop (h1014500_0 l0_0 l2000 a0 a2001 0 ) (.exit 0) ⟨[(0, (.one (.bor l0_0 (map b_R a0)))), (1, (.clo 146 [] [(.bptr l2000 [(.i a2001)])])), (7, (.oi ((length (map b_R a0)) : Int))), (8, (.oi w0_0)), (9, (.one (.val (.bool w1_0))))], []⟩) .nil)))
  | k1 w0_0 =>
    try dsimp only
    have f0 : (⟨[(0, (.one (.bor l0_0 (map b_R a0)))), (1, (.clo 146 [] [(.bptr l2000 [(.i a2001)])])), (7, (.oi ((length (map b_R a0)) : Int))), (8, (.oi 0))], []⟩ : St) = h1014500_0 l0_0 l2000 a0 a2001 0  := (by rfl)
    have f1 : Ev F X (.code l145_0 (h1014500_0 l0_0 l2000 a0 a2001 0 ) .ret ⟨[(4, (.oi w0_0))], []⟩) := (by have t : Ev F X (.code l145_0 (h1014500_0 l0_0 l2000 a0 a2001 0 ) (ex1014500_0 (r1014500_0 a0 a2001 a0 0)) (fin1014500_0 l0_0 l2000 a0 a2001 (r1014500_0 a0 a2001 a0 0))) := t1014500_0 (l0_0 := l0_0) (l2000 := l2000) (a0 := a0) (a2001 := a2001) (by assumption) (by assumption) a0 []  rfl; rw [h0] at t; exact t)
    exact callP_ok (ps := []) (os := []) (rs := [(.oi w0_0)]) (by kernel_rfl) (.f f0 (.f f1 (.h 8 (.loop (h1014500_0 l0_0 l2000 a0 a2001 0 ) .ret ⟨[(4, (.oi w0_0))], []⟩) .nil)))
theorem ixr1014500_0 (a0 : (List K_R)) (a2001 : Int) : ∀ (l : List K_R) (i : Int), (∃ (w0 : _) (w1 : _), r1014500_0 a0 a2001 l i = .k0 w0 w1) ∨ (∃ w, r1014500_0 a0 a2001 l i = .k1 w ∧ i ≤ w ∧ w < i + l.length)
  | [], i => .inl ⟨i, (decide (i < ((length (map b_R a0)) : Int))), rfl⟩
  | x :: l, i => by
    have ih := ixr1014500_0 a0 a2001 l (i + 1)
    simp only [r1014500_0]
    (repeat' split)
    all_goals first
      | exact .inr ⟨i, rfl, by omega, by simp only [length_cons]; omega⟩
      | (rcases ih with ⟨w0, w1, h⟩ | ⟨w, h, h1, h2⟩
         · exact .inl ⟨w0, w1, h⟩
         · exact .inr ⟨w, h, by omega, by simp only [length_cons]; omega⟩)
theorem ix1014500 (a0 : (List K_R)) (a2001 : Int) : -1 ≤ m1014500 a0 a2001 ∧ m1014500 a0 a2001 < (length a0 : Int) := by
  unfold m1014500
  rcases ixr1014500_0 a0 a2001 a0 0 with ⟨w0, w1, h⟩ | ⟨w, h, h1, h2⟩ <;> simp only [h] <;> omega
end Go.Proofs.YtfmkbpiobddhdaaDoor.CreditShare
