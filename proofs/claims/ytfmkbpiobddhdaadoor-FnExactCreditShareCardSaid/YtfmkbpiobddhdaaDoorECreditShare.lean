/- What the functions compute. -/
import Derived.Test.YtfmkbpiobddhdaaDoorECreditShareC
import Derived.KernelRfl
namespace Go.Proofs.YtfmkbpiobddhdaaDoor.CreditShare
open Go Go.Proofs.YtfmkbpiobddhdaaDoor.V
set_option linter.unusedVariables false
set_option linter.unusedSimpArgs false
set_option maxRecDepth 20000
open List (length_replicate length_map length_set length_append length_cons length_nil length_take length_drop take_of_length_le map_take map_drop map_set append_assoc getElem?_map map length take drop getD set)
attribute [local simp] toBR_si fullR_si pureR_si lenB_si lenD_si fromBR_si copy_si toBR_R fullR_R pureR_R lenB_R lenD_R toBR_B fullR_B pureR_B lenB_B lenD_B toBR_b fullR_b pureR_b lenB_b lenD_b fromBR_b copy_b toBR_i fullR_i pureR_i lenB_i lenD_i fromBR_i copy_i toBR_C fullR_C pureR_C lenB_C lenD_C toBR_LsiE fullR_LsiE pureR_LsiE lenB_LsiE lenD_LsiE toBR_iLsiE fullR_iLsiE pureR_iLsiE lenB_iLsiE lenD_iLsiE toBR_Q fullR_Q pureR_Q lenB_Q lenD_Q toBR_s fullR_s pureR_s lenB_s lenD_s fromBR_s copy_s toBR_y fullR_y pureR_y lenB_y lenD_y fromBR_y copy_y
/-! loop.example/g00539/laws.markRewardS -/
def o86_0 (a0 : (List K_R)) (a1 : Int) : List K_R :=
  (match r86_0 a0 a0 0 a0 a1 with | .k0 w0_0 w1_0 w2_0 w3_0 => w0_0)
def m86 (a0 : (List K_R)) (a1 : Int) : Int :=
  (match r86_0 a0 a0 0 a0 a1 with | .k0 w0_0 w1_0 w2_0 w3_0 => w1_0)
theorem e86 {a0 : (List K_R)} {a1 : Int} (hy0 : length a0 * 56 ≤ 140737488351232) (hy1 : ∀ z ∈ a0, ok_R z) : Ev F X (.call 86 [(.one (.ref ⟨(0, 0, 0), [], 0, (length (map d_R a0))⟩)), (.one (.val (.int .i64 a1)))] [((0, 0, 0), ⟨5, (map d_R a0), []⟩)] [(map d_R (o86_0 a0 a1))] [(.one (.val (.int .i64 (m86 a0 a1))))]) := by
  unfold m86 o86_0
  cases h0 : r86_0 a0 a0 0 a0 a1 with
  | k0 w0_0 w1_0 w2_0 w3_0 =>
    try dsimp only
    have zh0 := z86_0 (a0 := a0) a0 0 a0 a1; rw [h0] at zh0; simp only [post86_0, length_map, length_set, length_append, length_replicate, length_cons, length_nil, Int.toNat_natCast] at zh0
    have f0 : (⟨[(0, (.one (.ref ⟨(0, 0, 0), [], 0, (length (map d_R a0))⟩))), (1, (.oi a1)), (5, (.oi 0))], [((0, 0, 0), .live ⟨5, (map d_R a0), []⟩)]⟩ : St) = h86_0 a0 a1 0 a0 a1 := (by rfl)
    have f1 : Ev F X (.code l86_0 (h86_0 a0 a1 0 a0 a1) (.exit 0) ⟨[(0, (.one (.ref ⟨(0, 0, 0), [], 0, (length (map d_R a0))⟩))), (1, (.oi w1_0)), (5, (.oi w2_0)), (9, (.one (.val (.bool w3_0))))], [((0, 0, 0), .live ⟨5, (map d_R w0_0), []⟩)]⟩) := (by have t : Ev F X (.code l86_0 (h86_0 a0 a1 0 a0 a1) (ex86_0 (r86_0 a0 a0 0 a0 a1)) (fin86_0 a0 a1 (r86_0 a0 a0 0 a0 a1))) := t86_0 (a0 := a0) (a1 := a1) (by assumption) (by assumption) a0 [] a0 a1 rfl (by simp only [length_map, length_set, length_append, length_replicate, length_cons, length_nil]; done) (by rfl); rw [h0] at t; exact t)
    have f2 : pureR (map d_R w0_0) = true := (pureR_R _)
    exact callP_ok (ps := [true]) (os := [(map d_R w0_0)]) (rs := [(.oi w1_0)]) (by kernel_rfl) (.f f0 (.f f1 (.f f2 (.h 4 (.loop (h86_0 a0 a1 0 a0 a1) (.exit 0) ⟨[(0, (.one (.ref ⟨(0, 0, 0), [], 0, (length (map d_R a0))⟩))), (1, (.oi w1_0)), (5, (.oi w2_0)), (9, (.one (.val (.bool w3_0))))], [((0, 0, 0), .live ⟨5, (map d_R w0_0), []⟩)]⟩) .nil))))
theorem ow86_0 (a0 : List K_R) : ∀ (l p : List K_R) (v1 : Int), (∀ z ∈ l, ok_R z) → ∃ (q : List K_R) (w1 : _) (w2 : _) (w3 : _), r86_0 a0 l (p.length : Int) (p ++ l) v1 = .k0 (p ++ q) w1 w2 w3 ∧ q.length = l.length ∧ ∀ z ∈ q, ok_R z
  | [], p, v1, _ => ⟨[], v1, (p.length : Int), (decide ((p.length : Int) < ((length (map d_R a0)) : Int))), rfl, rfl, fun z h => by cases h⟩
  | x0 :: l, p, v1, h => by
    obtain ⟨q, w1, w2, w3, e1, e2, e3⟩ := ow86_0 a0 l (p ++ [(K_R.mk v1 (IntKind.wrap .i64 (v1 + 1)) (IntKind.wrap .i64 ((IntKind.wrap .i64 (v1 + 1)) + 1)) (o85_0 x0.f3 (IntKind.wrap .i64 ((IntKind.wrap .i64 ((IntKind.wrap .i64 (v1 + 1)) + 1)) + 1))) (m85 x0.f3 (IntKind.wrap .i64 ((IntKind.wrap .i64 ((IntKind.wrap .i64 (v1 + 1)) + 1)) + 1))))]) (IntKind.wrap .i64 ((m85 x0.f3 (IntKind.wrap .i64 ((IntKind.wrap .i64 ((IntKind.wrap .i64 (v1 + 1)) + 1)) + 1))) + 1)) (fun z hz => h z (List.mem_cons_of_mem _ hz))
    refine ⟨(K_R.mk v1 (IntKind.wrap .i64 (v1 + 1)) (IntKind.wrap .i64 ((IntKind.wrap .i64 (v1 + 1)) + 1)) (o85_0 x0.f3 (IntKind.wrap .i64 ((IntKind.wrap .i64 ((IntKind.wrap .i64 (v1 + 1)) + 1)) + 1))) (m85 x0.f3 (IntKind.wrap .i64 ((IntKind.wrap .i64 ((IntKind.wrap .i64 (v1 + 1)) + 1)) + 1)))) :: q, w1, w2, w3, ?_, by simp [e2], ?_⟩
    · have e : set (p ++ x0 :: l) (Int.toNat (p.length : Int)) (K_R.mk v1 (IntKind.wrap .i64 (v1 + 1)) (IntKind.wrap .i64 ((IntKind.wrap .i64 (v1 + 1)) + 1)) (o85_0 x0.f3 (IntKind.wrap .i64 ((IntKind.wrap .i64 ((IntKind.wrap .i64 (v1 + 1)) + 1)) + 1))) (m85 x0.f3 (IntKind.wrap .i64 ((IntKind.wrap .i64 ((IntKind.wrap .i64 (v1 + 1)) + 1)) + 1)))) = (p ++ [(K_R.mk v1 (IntKind.wrap .i64 (v1 + 1)) (IntKind.wrap .i64 ((IntKind.wrap .i64 (v1 + 1)) + 1)) (o85_0 x0.f3 (IntKind.wrap .i64 ((IntKind.wrap .i64 ((IntKind.wrap .i64 (v1 + 1)) + 1)) + 1))) (m85 x0.f3 (IntKind.wrap .i64 ((IntKind.wrap .i64 ((IntKind.wrap .i64 (v1 + 1)) + 1)) + 1))))]) ++ l := by simp
      have e0 : ((p ++ [(K_R.mk v1 (IntKind.wrap .i64 (v1 + 1)) (IntKind.wrap .i64 ((IntKind.wrap .i64 (v1 + 1)) + 1)) (o85_0 x0.f3 (IntKind.wrap .i64 ((IntKind.wrap .i64 ((IntKind.wrap .i64 (v1 + 1)) + 1)) + 1))) (m85 x0.f3 (IntKind.wrap .i64 ((IntKind.wrap .i64 ((IntKind.wrap .i64 (v1 + 1)) + 1)) + 1))))]).length : Int) = (p.length : Int) + 1 := by simp
      rw [e0] at e1
      simp only [r86_0]
      first | (rw [e, e1]; simp; done) | (simp only [e, e1]; simp; done)
    · intro z hz
      rcases List.mem_cons.1 hz with rfl | hz
      · have hx := h x0 (List.mem_cons_self ..)
        simp only [ok_R] at hx ⊢
        simp only [length_map, ol85] at hx ⊢
        first | exact hx | (simp_all [ol85]; done) | (obtain ⟨_, _⟩ := hx; refine ⟨?_, ?_⟩ <;> simp_all [ol85])
      · exact e3 z hz

theorem ov86_0 (a0 : List K_R) : ∀ (l p : List K_R) (v1 : Int), ∃ (q : List K_R) (w1 : _) (w2 : _) (w3 : _), r86_0 a0 l (p.length : Int) (p ++ l) v1 = .k0 (p ++ q) w1 w2 w3 ∧ q.length = l.length
  | [], p, v1 => ⟨[], v1, (p.length : Int), (decide ((p.length : Int) < ((length (map d_R a0)) : Int))), rfl, rfl⟩
  | x0 :: l, p, v1 => by
    obtain ⟨q, w1, w2, w3, e1, e2⟩ := ov86_0 a0 l (p ++ [(K_R.mk v1 (IntKind.wrap .i64 (v1 + 1)) (IntKind.wrap .i64 ((IntKind.wrap .i64 (v1 + 1)) + 1)) (o85_0 x0.f3 (IntKind.wrap .i64 ((IntKind.wrap .i64 ((IntKind.wrap .i64 (v1 + 1)) + 1)) + 1))) (m85 x0.f3 (IntKind.wrap .i64 ((IntKind.wrap .i64 ((IntKind.wrap .i64 (v1 + 1)) + 1)) + 1))))]) (IntKind.wrap .i64 ((m85 x0.f3 (IntKind.wrap .i64 ((IntKind.wrap .i64 ((IntKind.wrap .i64 (v1 + 1)) + 1)) + 1))) + 1))
    refine ⟨(K_R.mk v1 (IntKind.wrap .i64 (v1 + 1)) (IntKind.wrap .i64 ((IntKind.wrap .i64 (v1 + 1)) + 1)) (o85_0 x0.f3 (IntKind.wrap .i64 ((IntKind.wrap .i64 ((IntKind.wrap .i64 (v1 + 1)) + 1)) + 1))) (m85 x0.f3 (IntKind.wrap .i64 ((IntKind.wrap .i64 ((IntKind.wrap .i64 (v1 + 1)) + 1)) + 1)))) :: q, w1, w2, w3, ?_, by simp [e2]⟩
    · have e : set (p ++ x0 :: l) (Int.toNat (p.length : Int)) (K_R.mk v1 (IntKind.wrap .i64 (v1 + 1)) (IntKind.wrap .i64 ((IntKind.wrap .i64 (v1 + 1)) + 1)) (o85_0 x0.f3 (IntKind.wrap .i64 ((IntKind.wrap .i64 ((IntKind.wrap .i64 (v1 + 1)) + 1)) + 1))) (m85 x0.f3 (IntKind.wrap .i64 ((IntKind.wrap .i64 ((IntKind.wrap .i64 (v1 + 1)) + 1)) + 1)))) = (p ++ [(K_R.mk v1 (IntKind.wrap .i64 (v1 + 1)) (IntKind.wrap .i64 ((IntKind.wrap .i64 (v1 + 1)) + 1)) (o85_0 x0.f3 (IntKind.wrap .i64 ((IntKind.wrap .i64 ((IntKind.wrap .i64 (v1 + 1)) + 1)) + 1))) (m85 x0.f3 (IntKind.wrap .i64 ((IntKind.wrap .i64 ((IntKind.wrap .i64 (v1 + 1)) + 1)) + 1))))]) ++ l := by simp
      have e0 : ((p ++ [(K_R.mk v1 (IntKind.wrap .i64 (v1 + 1)) (IntKind.wrap .i64 ((IntKind.wrap .i64 (v1 + 1)) + 1)) (o85_0 x0.f3 (IntKind.wrap .i64 ((IntKind.wrap .i64 ((IntKind.wrap .i64 (v1 + 1)) + 1)) + 1))) (m85 x0.f3 (IntKind.wrap .i64 ((IntKind.wrap .i64 ((IntKind.wrap .i64 (v1 + 1)) + 1)) + 1))))]).length : Int) = (p.length : Int) + 1 := by simp
      rw [e0] at e1
      simp only [r86_0]
      first | (rw [e, e1]; simp; done) | (simp only [e, e1]; simp; done)
theorem ol86 (a : List K_R) (k : Int) : (o86_0 a k).length = a.length := by
  obtain ⟨q, w1, w2, w3, e1, e2⟩ := ov86_0 a a [] k
  simp only [List.nil_append, length_nil] at e1
  rw [show ((0 : Nat) : Int) = 0 from rfl] at e1
  unfold o86_0
  rw [e1]; exact e2
theorem oo86 (a : List K_R) (k : Int) (h : ∀ z ∈ a, ok_R z) : ∀ z ∈ o86_0 a k, ok_R z := by
  obtain ⟨q, w1, w2, w3, e1, e2, e3⟩ := ow86_0 a a [] k h
  simp only [List.nil_append, length_nil] at e1
  rw [show ((0 : Nat) : Int) = 0 from rfl] at e1
  unfold o86_0
  rw [e1]; exact e3
/-! loop.example/g00539/laws.markLedger -/
def o27_0 (a0 : K_B) (a1 : Int) : List K_si :=
  (o85_0 a0.f4 (m86 a0.f3 (m85 a0.f2 a1)))
def o27_1 (a0 : K_B) (a1 : Int) : List K_R :=
  (o86_0 a0.f3 (m85 a0.f2 a1))
def o27_2 (a0 : K_B) (a1 : Int) : List K_si :=
  (o85_0 a0.f2 a1)
def m27 (a0 : K_B) (a1 : Int) : Int :=
  (m85 a0.f4 (m86 a0.f3 (m85 a0.f2 a1)))
theorem e27 {a0 : K_B} {a1 : Int} (hy0 : length a0.f2 * 24 ≤ 140737488351232) (hy1 : length a0.f3 * 56 ≤ 140737488351232) (hy2 : ∀ z ∈ a0.f3, ok_R z) (hy3 : length a0.f4 * 24 ≤ 140737488351232) : Ev F X (.call 27 [(.agg [(.val (.int .i64 a0.f0)), (.val (.int .i64 a0.f1)), (.ref ⟨(0, 0, 0), [], 0, (length (map d_si a0.f2))⟩), (.ref ⟨(0, 1, 0), [], 0, (length (map d_R a0.f3))⟩), (.ref ⟨(0, 2, 0), [], 0, (length (map d_si a0.f4))⟩), (.val (.int .i64 a0.f5)), (.val (.int .i64 a0.f6)), (.val (.int .i64 a0.f7))]), (.one (.val (.int .i64 a1)))] [((0, 2, 0), ⟨2, (map d_si a0.f4), []⟩), ((0, 1, 0), ⟨5, (map d_R a0.f3), []⟩), ((0, 0, 0), ⟨2, (map d_si a0.f2), []⟩)] [(map d_si (o27_0 a0 a1)), (map d_R (o27_1 a0 a1)), (map d_si (o27_2 a0 a1))] [(.one (.val (.int .i64 (m27 a0 a1))))]) := by
  have f0 : 0 = 0 := rfl
  have f1 : (length (map d_si a0.f2)) = (length (map d_si a0.f2)) := rfl
  have f2 : 0 = 0 := rfl
  have f3 : (length (map d_R a0.f3)) = (length (map d_R a0.f3)) := rfl
  have f4 : 0 = 0 := rfl
  have f5 : (length (map d_si a0.f4)) = (length (map d_si a0.f4)) := rfl
  have f6 : pureR (map d_si a0.f2) = true := (pureR_si _)
  have f7 : Ev F X (.call 85 [(.one (.ref ⟨(0, 0, 0), [], 0, (length (map d_si a0.f2))⟩)), (.oi a1)] [((0, 0, 0), ⟨2, (map d_si a0.f2), []⟩)] [(map d_si (o85_0 a0.f2 a1))] [(.oi (m85 a0.f2 a1))]) := (e85 (a0 := a0.f2) (a1 := a1) (by with_reducible assumption))
  have f8 : pureR (map d_R a0.f3) = true := (pureR_R _)
  have f9 : Ev F X (.call 86 [(.one (.ref ⟨(0, 0, 0), [], 0, (length (map d_R a0.f3))⟩)), (.oi (m85 a0.f2 a1))] [((0, 0, 0), ⟨5, (map d_R a0.f3), []⟩)] [(map d_R (o86_0 a0.f3 (m85 a0.f2 a1)))] [(.oi (m86 a0.f3 (m85 a0.f2 a1)))]) := (e86 (a0 := a0.f3) (a1 := (m85 a0.f2 a1)) (by with_reducible assumption) (by with_reducible assumption))
  have f10 : pureR (map d_si a0.f4) = true := (pureR_si _)
  have f11 : Ev F X (.call 85 [(.one (.ref ⟨(0, 0, 0), [], 0, (length (map d_si a0.f4))⟩)), (.oi (m86 a0.f3 (m85 a0.f2 a1)))] [((0, 0, 0), ⟨2, (map d_si a0.f4), []⟩)] [(map d_si (o85_0 a0.f4 (m86 a0.f3 (m85 a0.f2 a1))))] [(.oi (m85 a0.f4 (m86 a0.f3 (m85 a0.f2 a1))))]) := (e85 (a0 := a0.f4) (a1 := (m86 a0.f3 (m85 a0.f2 a1))) (by with_reducible assumption))
  have f12 : pureR (map d_si (o85_0 a0.f4 (m86 a0.f3 (m85 a0.f2 a1)))) = true := (pureR_si _)
  have f13 : pureR (map d_R (o86_0 a0.f3 (m85 a0.f2 a1))) = true := (pureR_R _)
  have f14 : pureR (map d_si (o85_0 a0.f2 a1)) = true := (pureR_si _)
  exact callP_ok (ps := [true, true, true]) (os := [(map d_si (o85_0 a0.f4 (m86 a0.f3 (m85 a0.f2 a1)))), (map d_R (o86_0 a0.f3 (m85 a0.f2 a1))), (map d_si (o85_0 a0.f2 a1))]) (rs := [(.oi (m85 a0.f4 (m86 a0.f3 (m85 a0.f2 a1))))]) (by kernel_rfl) (.f f0 (.f f1 (.f f2 (.f f3 (.f f4 (.f f5 (.f f6 (.r 11 [true] [] f7 (.f f8 (.r 21 [true] [] f9 (.f f10 (.r 31 [true] [] f11 (.f f12 (.f f13 (.f f14 .nil)))))))))))))))
theorem ol27_0 (a : K_B) (k : Int) : (o27_0 a k).length = length a.f4 := by
  unfold o27_0
  simp [ol85, ol86]
theorem ol27_1 (a : K_B) (k : Int) : (o27_1 a k).length = length a.f3 := by
  unfold o27_1
  simp [ol85, ol86]
theorem oo27_1 (a : K_B) (k : Int) (h : ∀ z ∈ a.f3, ok_R z) : ∀ z ∈ o27_1 a k, ok_R z := by
  unfold o27_1
  first | exact oo86 _ _ h | exact h
theorem ol27_2 (a : K_B) (k : Int) : (o27_2 a k).length = length a.f2 := by
  unfold o27_2
  simp [ol85, ol86]
/-! loop.example/g00539/laws.markLedgerResult -/
def o28_0 (a0 : K_C) (a1 : Int) : List K_si :=
  (o27_0 (K_B.mk a0.f2 a0.f3 a0.f4 a0.f5 a0.f6 a0.f7 a0.f8 a0.f9) a1)
def o28_1 (a0 : K_C) (a1 : Int) : List K_R :=
  (o27_1 (K_B.mk a0.f2 a0.f3 a0.f4 a0.f5 a0.f6 a0.f7 a0.f8 a0.f9) a1)
def o28_2 (a0 : K_C) (a1 : Int) : List K_si :=
  (o27_2 (K_B.mk a0.f2 a0.f3 a0.f4 a0.f5 a0.f6 a0.f7 a0.f8 a0.f9) a1)
def m28 (a0 : K_C) (a1 : Int) : Int :=
  (m27 (K_B.mk a0.f2 a0.f3 a0.f4 a0.f5 a0.f6 a0.f7 a0.f8 a0.f9) a1)
theorem e28 {a0 : K_C} {a1 : Int} (hy0 : length a0.f4 * 24 ≤ 140737488351232) (hy1 : length a0.f5 * 56 ≤ 140737488351232) (hy2 : ∀ z ∈ a0.f5, ok_R z) (hy3 : length a0.f6 * 24 ≤ 140737488351232) : Ev F X (.call 28 [(.agg [(.val (.int .i64 a0.f0)), (.val (.int .i64 a0.f1)), (.val (.int .i64 a0.f2)), (.val (.int .i64 a0.f3)), (.ref ⟨(0, 0, 0), [], 0, (length (map d_si a0.f4))⟩), (.ref ⟨(0, 1, 0), [], 0, (length (map d_R a0.f5))⟩), (.ref ⟨(0, 2, 0), [], 0, (length (map d_si a0.f6))⟩), (.val (.int .i64 a0.f7)), (.val (.int .i64 a0.f8)), (.val (.int .i64 a0.f9))]), (.one (.val (.int .i64 a1)))] [((0, 2, 0), ⟨2, (map d_si a0.f6), []⟩), ((0, 1, 0), ⟨5, (map d_R a0.f5), []⟩), ((0, 0, 0), ⟨2, (map d_si a0.f4), []⟩)] [(map d_si (o28_0 a0 a1)), (map d_R (o28_1 a0 a1)), (map d_si (o28_2 a0 a1))] [(.one (.val (.int .i64 (m28 a0 a1))))]) := by
  have f0 : 0 = 0 := rfl
  have f1 : (length (map d_si a0.f4)) = (length (map d_si a0.f4)) := rfl
  have f2 : 0 = 0 := rfl
  have f3 : (length (map d_R a0.f5)) = (length (map d_R a0.f5)) := rfl
  have f4 : 0 = 0 := rfl
  have f5 : (length (map d_si a0.f6)) = (length (map d_si a0.f6)) := rfl
  have f6 : pureR (map d_si a0.f4) = true := (pureR_si _)
  have f7 : pureR (map d_R a0.f5) = true := (pureR_R _)
  have f8 : pureR (map d_si a0.f6) = true := (pureR_si _)
  have f9 : Ev F X (.call 27 [(.agg [(.i a0.f2), (.i a0.f3), (.ref ⟨(0, 0, 0), [], 0, (length (map d_si a0.f4))⟩), (.ref ⟨(0, 1, 0), [], 0, (length (map d_R a0.f5))⟩), (.ref ⟨(0, 2, 0), [], 0, (length (map d_si a0.f6))⟩), (.i a0.f7), (.i a0.f8), (.i a0.f9)]), (.oi a1)] [((0, 2, 0), ⟨2, (map d_si a0.f6), []⟩), ((0, 1, 0), ⟨5, (map d_R a0.f5), []⟩), ((0, 0, 0), ⟨2, (map d_si a0.f4), []⟩)] [(map d_si (o27_0 (K_B.mk a0.f2 a0.f3 a0.f4 a0.f5 a0.f6 a0.f7 a0.f8 a0.f9) a1)), (map d_R (o27_1 (K_B.mk a0.f2 a0.f3 a0.f4 a0.f5 a0.f6 a0.f7 a0.f8 a0.f9) a1)), (map d_si (o27_2 (K_B.mk a0.f2 a0.f3 a0.f4 a0.f5 a0.f6 a0.f7 a0.f8 a0.f9) a1))] [(.oi (m27 (K_B.mk a0.f2 a0.f3 a0.f4 a0.f5 a0.f6 a0.f7 a0.f8 a0.f9) a1))]) := (e27 (a0 := (K_B.mk a0.f2 a0.f3 a0.f4 a0.f5 a0.f6 a0.f7 a0.f8 a0.f9)) (a1 := a1) (by with_reducible assumption) (by with_reducible assumption) (by with_reducible assumption) (by with_reducible assumption))
  have f10 : pureR (map d_si (o27_0 (K_B.mk a0.f2 a0.f3 a0.f4 a0.f5 a0.f6 a0.f7 a0.f8 a0.f9) a1)) = true := (pureR_si _)
  have f11 : pureR (map d_R (o27_1 (K_B.mk a0.f2 a0.f3 a0.f4 a0.f5 a0.f6 a0.f7 a0.f8 a0.f9) a1)) = true := (pureR_R _)
  have f12 : pureR (map d_si (o27_2 (K_B.mk a0.f2 a0.f3 a0.f4 a0.f5 a0.f6 a0.f7 a0.f8 a0.f9) a1)) = true := (pureR_si _)
  exact callP_ok (ps := [true, true, true]) (os := [(map d_si (o27_0 (K_B.mk a0.f2 a0.f3 a0.f4 a0.f5 a0.f6 a0.f7 a0.f8 a0.f9) a1)), (map d_R (o27_1 (K_B.mk a0.f2 a0.f3 a0.f4 a0.f5 a0.f6 a0.f7 a0.f8 a0.f9) a1)), (map d_si (o27_2 (K_B.mk a0.f2 a0.f3 a0.f4 a0.f5 a0.f6 a0.f7 a0.f8 a0.f9) a1))]) (rs := [(.oi (m27 (K_B.mk a0.f2 a0.f3 a0.f4 a0.f5 a0.f6 a0.f7 a0.f8 a0.f9) a1))]) (by kernel_rfl) (.f f0 (.f f1 (.f f2 (.f f3 (.f f4 (.f f5 (.f f6 (.f f7 (.f f8 (.r 11 [true, true, true] [] f9 (.f f10 (.f f11 (.f f12 .nil)))))))))))))
theorem ol28_0 (a : K_C) (k : Int) : (o28_0 a k).length = length a.f6 := by
  unfold o28_0
  simp [ol27_0, ol27_1, ol27_2]
theorem ol28_1 (a : K_C) (k : Int) : (o28_1 a k).length = length a.f5 := by
  unfold o28_1
  simp [ol27_0, ol27_1, ol27_2]
theorem oo28_1 (a : K_C) (k : Int) (h : ∀ z ∈ a.f5, ok_R z) : ∀ z ∈ o28_1 a k, ok_R z := by
  unfold o28_1
  first | exact oo27_1 _ _ h | exact h
theorem ol28_2 (a : K_C) (k : Int) : (o28_2 a k).length = length a.f4 := by
  unfold o28_2
  simp [ol27_0, ol27_1, ol27_2]
/-! loop 142_0 -/
inductive O142_0 where
  | k0 (w0 : Int) (w1 : Int) (w2 : Bool)
  | k1
def r142_0 (a0 : (List K_si)) : List K_si → Int → Int → O142_0
  | x0 :: y0, i, v0 =>
    if (!(x0.f0.toList == (m141 v0).toList)) = true then (O142_0.k1) else
    if (x0.f1 != (IntKind.wrap .i64 (v0 + 1))) = true then (O142_0.k1) else
      (r142_0 a0 y0 (i + 1) (IntKind.wrap .i64 ((IntKind.wrap .i64 (v0 + 1)) + 1)))
  | [], i, v0 => (O142_0.k0 v0 i (decide (i < ((length (map b_si a0)) : Int))))
def h142_0 (l0_0 : Nat) (a0 : (List K_si)) (a1 : Int) (i : Int) (v0 : Int) : St := ⟨[(0, (.one (.bor l0_0 (map b_si a0)))), (1, (.one (.val (.int .i64 v0)))), (5, (.one (.val (.int .i64 i))))], []⟩
def ex142_0 : O142_0 → VX.Exit
  | .k0 _ _ _ => (.exit 0)
  | .k1 => .ret
def fin142_0 (l0_0 : Nat) (a0 : (List K_si)) (a1 : Int) : O142_0 → St
  | .k0 w0 w1 w2 => ⟨[(0, (.one (.bor l0_0 (map b_si a0)))), (1, (.one (.val (.int .i64 w0)))), (5, (.one (.val (.int .i64 w1)))), (9, (.one (.val (.bool w2))))], []⟩
  | .k1 => ⟨[(4, (.one (.val (.int .i64 (-1)))))], []⟩
theorem t142_0 {l0_0 : Nat} {a0 : (List K_si)} {a1 : Int} (hy0 : length a0 * 24 ≤ 140737488351232) : ∀ (y0 : List K_si) (p : List K_si) (v0 : Int), p ++ y0 = a0 → Ev F X (.code l142_0 (h142_0 l0_0 a0 a1 (length p : Int) v0) (ex142_0 (r142_0 a0 y0 (length p : Int) v0)) (fin142_0 l0_0 a0 a1 (r142_0 a0 y0 (length p : Int) v0)))
  | [], p, v0, hp0 => by
    have hc : ¬ (decide ((length p : Int) < ((length (map b_si a0)) : Int))) = true := by
      rw [← hp0]; simp only [length_map, length_set, length_append, length_replicate, length_cons, length_nil, decide_eq_true_eq]; omega
    have st := codeH_ok (F := F) (X := X) (c := b142_0) (t := 0) (hs := [(8, .b false)]) (σ := h142_0 l0_0 a0 a1 (length p : Int) v0) (σ' := fin142_0 l0_0 a0 a1 (.k0 v0 (length p : Int) (decide ((length p : Int) < ((length (map b_si a0)) : Int))))) (e := (.exit 0)) (t' := 9) (hs' := []) (q := [(decide ((length p : Int) < ((length (map b_si a0)) : Int))) = false]) (by kernel_rfl) ⟨(nt hc), trivial⟩
    exact .loopX st (show ((.exit 0) : VX.Exit) ≠ .normal from by simp)
  | x0 :: y0, p, v0, hp0 => by
    have hc : (decide ((length p : Int) < ((length (map b_si a0)) : Int))) = true := by
      rw [← hp0]; simp only [length_map, length_set, length_append, length_replicate, length_cons, length_nil, decide_eq_true_eq]; omega
    have Hx0 : (a0)[Int.toNat (length p : Int)]? = some x0 := by
      rw [← hp0, Int.toNat_natCast]; simp
    have hlen : length (a0) = length p + length y0 + 1 := by rw [← hp0]; simp; omega
    have hw : IntKind.wrap .i64 ((length p : Int) + 1) = (length p : Int) + 1 := wrap64 (by omega)
    simp only [r142_0]
    by_cases h_1 : (!(x0.f0.toList == (m141 v0).toList)) = true
    · try simp only [if_pos h_1]
      have st := codeH_ok (F := F) (X := X) (c := b142_0) (t := 0) (hs := [(8, .b true), (14, .row [(.val (.string x0.f0)), (.i x0.f1)]), (22, .ret [] [(.one (.val (.string (m141 v0))))] [] []), (25, .b true)]) (σ := h142_0 l0_0 a0 a1 (length p : Int) v0) (σ' := fin142_0 l0_0 a0 a1 (.k1)) (e := .ret) (t' := 28) (hs' := []) (q := [(decide ((length p : Int) < ((length (map b_si a0)) : Int))) = true, 0 ≤ (length p : Int), (map b_si a0)[(Int.toNat (length p : Int))]? = some [(.val (.string x0.f0)), (.i x0.f1)], Ev F X (.call 141 [(.oi v0)] [] [] [(.one (.val (.string (m141 v0))))]), (!(x0.f0.toList == (m141 v0).toList)) = true]) (by kernel_rfl) ⟨hc, (by omega), (by rw [getElem?_map, Hx0]; rfl), (e141 (a0 := v0)), h_1, trivial⟩
      exact .loopX st (show (.ret : VX.Exit) ≠ .normal from by simp)
    · try simp only [if_neg h_1]
      by_cases h_2 : (x0.f1 != (IntKind.wrap .i64 (v0 + 1))) = true
      · try simp only [if_pos h_2]
        have st := codeH_ok (F := F) (X := X) (c := b142_0) (t := 0) (hs := [(8, .b true), (14, .row [(.val (.string x0.f0)), (.i x0.f1)]), (22, .ret [] [(.one (.val (.string (m141 v0))))] [] []), (25, .b false), (37, .row [(.val (.string x0.f0)), (.i x0.f1)]), (46, .b true)]) (σ := h142_0 l0_0 a0 a1 (length p : Int) v0) (σ' := fin142_0 l0_0 a0 a1 (.k1)) (e := .ret) (t' := 49) (hs' := []) (q := [(decide ((length p : Int) < ((length (map b_si a0)) : Int))) = true, 0 ≤ (length p : Int), (map b_si a0)[(Int.toNat (length p : Int))]? = some [(.val (.string x0.f0)), (.i x0.f1)], Ev F X (.call 141 [(.oi v0)] [] [] [(.one (.val (.string (m141 v0))))]), (!(x0.f0.toList == (m141 v0).toList)) = false, True, 0 ≤ (length p : Int), (map b_si a0)[(Int.toNat (length p : Int))]? = some [(.val (.string x0.f0)), (.i x0.f1)], (x0.f1 != (IntKind.wrap .i64 (v0 + 1))) = true]) (by kernel_rfl) ⟨hc, (by omega), (by rw [getElem?_map, Hx0]; rfl), (e141 (a0 := v0)), (nt h_1), trivial, (by omega), (by rw [getElem?_map, Hx0]; rfl), h_2, trivial⟩
        exact .loopX st (show (.ret : VX.Exit) ≠ .normal from by simp)
      · try simp only [if_neg h_2]
        have st := codeH_ok (F := F) (X := X) (c := b142_0) (t := 0) (hs := [(8, .b true), (14, .row [(.val (.string x0.f0)), (.i x0.f1)]), (22, .ret [] [(.one (.val (.string (m141 v0))))] [] []), (25, .b false), (37, .row [(.val (.string x0.f0)), (.i x0.f1)]), (46, .b false)]) (σ := h142_0 l0_0 a0 a1 (length p : Int) v0) (σ' := ⟨[(0, (.one (.bor l0_0 (map b_si a0)))), (1, (.oi (IntKind.wrap .i64 ((IntKind.wrap .i64 (v0 + 1)) + 1)))), (5, (.oi (IntKind.wrap .i64 ((length p : Int) + 1))))], []⟩) (e := .normal) (t' := 59) (hs' := []) (q := [(decide ((length p : Int) < ((length (map b_si a0)) : Int))) = true, 0 ≤ (length p : Int), (map b_si a0)[(Int.toNat (length p : Int))]? = some [(.val (.string x0.f0)), (.i x0.f1)], Ev F X (.call 141 [(.oi v0)] [] [] [(.one (.val (.string (m141 v0))))]), (!(x0.f0.toList == (m141 v0).toList)) = false, True, 0 ≤ (length p : Int), (map b_si a0)[(Int.toNat (length p : Int))]? = some [(.val (.string x0.f0)), (.i x0.f1)], (x0.f1 != (IntKind.wrap .i64 (v0 + 1))) = false, True, True]) (by kernel_rfl) ⟨hc, (by omega), (by rw [getElem?_map, Hx0]; rfl), (e141 (a0 := v0)), (nt h_1), trivial, (by omega), (by rw [getElem?_map, Hx0]; rfl), (nt h_2), trivial, trivial, trivial⟩
        have ih := t142_0 (l0_0 := l0_0) (a0 := a0) (a1 := a1) hy0 y0 (p ++ [x0]) (IntKind.wrap .i64 ((IntKind.wrap .i64 (v0 + 1)) + 1)) (by rw [append_assoc]; exact hp0)
        rw [show ((p ++ [x0]).length : Int) = (p.length : Int) + 1 from by simp] at ih
        rw [show (⟨[(0, (.one (.bor l0_0 (map b_si a0)))), (1, (.oi (IntKind.wrap .i64 ((IntKind.wrap .i64 (v0 + 1)) + 1)))), (5, (.oi (IntKind.wrap .i64 ((length p : Int) + 1))))], []⟩ : St) = h142_0 l0_0 a0 a1 ((length p : Int) + 1) (IntKind.wrap .i64 ((IntKind.wrap .i64 (v0 + 1)) + 1)) from (by unfold h142_0; simp only [hw]; done)] at st
        exact .loopN st ih
/-! loop.example/g00539/laws.heldWeightS -/
def m142 (a0 : (List K_si)) (a1 : Int) : Int :=
  (match r142_0 a0 a0 0 a1 with | .k0 w0_0 w1_0 w2_0 => w0_0 | .k1 => (-1))
theorem e142 {l0_0 : Nat} {a0 : (List K_si)} {a1 : Int} (hy0 : length a0 * 24 ≤ 140737488351232) : Ev F X (.call 142 [(.one (.bor l0_0 (map b_si a0))), (.one (.val (.int .i64 a1)))] [] [] [(.one (.val (.int .i64 (m142 a0 a1))))]) := by
  unfold m142
  cases h0 : r142_0 a0 a0 0 a1 with
  | k0 w0_0 w1_0 w2_0 =>
    try dsimp only
    have f0 : (⟨[(0, (.one (.bor l0_0 (map b_si a0)))), (1, (.oi a1)), (5, (.oi 0))], []⟩ : St) = h142_0 l0_0 a0 a1 0 a1 := (by rfl)
    have f1 : Ev F X (.code l142_0 (h142_0 l0_0 a0 a1 0 a1) (.exit 0) ⟨[(0, (.one (.bor l0_0 (map b_si a0)))), (1, (.oi w0_0)), (5, (.oi w1_0)), (9, (.one (.val (.bool w2_0))))], []⟩) := (by have t : Ev F X (.code l142_0 (h142_0 l0_0 a0 a1 0 a1) (ex142_0 (r142_0 a0 a0 0 a1)) (fin142_0 l0_0 a0 a1 (r142_0 a0 a0 0 a1))) := t142_0 (l0_0 := l0_0) (a0 := a0) (a1 := a1) (by assumption) a0 [] a1 rfl; rw [h0] at t; exact t)
    exact callP_ok (ps := []) (os := []) (rs := [(.oi w0_0)]) (by kernel_rfl) (.f f0 (.f f1 (.h 4 (.loop (h142_0 l0_0 a0 a1 0 a1) (.exit 0) ⟨[(0, (.one (.bor l0_0 (map b_si a0)))), (1, (.oi w0_0)), (5, (.oi w1_0)), (9, (.one (.val (.bool w2_0))))], []⟩) .nil)))
  | k1 =>
    try dsimp only
    have f0 : (⟨[(0, (.one (.bor l0_0 (map b_si a0)))), (1, (.oi a1)), (5, (.oi 0))], []⟩ : St) = h142_0 l0_0 a0 a1 0 a1 := (by rfl)
    have f1 : Ev F X (.code l142_0 (h142_0 l0_0 a0 a1 0 a1) .ret ⟨[(4, (.oi (-1)))], []⟩) := (by have t : Ev F X (.code l142_0 (h142_0 l0_0 a0 a1 0 a1) (ex142_0 (r142_0 a0 a0 0 a1)) (fin142_0 l0_0 a0 a1 (r142_0 a0 a0 0 a1))) := t142_0 (l0_0 := l0_0) (a0 := a0) (a1 := a1) (by assumption) a0 [] a1 rfl; rw [h0] at t; exact t)
    exact callP_ok (ps := []) (os := []) (rs := [(.oi (-1))]) (by kernel_rfl) (.f f0 (.f f1 (.h 4 (.loop (h142_0 l0_0 a0 a1 0 a1) .ret ⟨[(4, (.oi (-1)))], []⟩) .nil)))
/-! loop 143_0 -/
inductive O143_0 where
  | k0 (w0 : Int) (w1 : Int) (w2 : Bool)
  | k1
def r143_0 (a0 : (List K_R)) : List K_R → Int → Int → O143_0
  | x0 :: y0, i, v0 =>
    if (x0.f0 != v0) = true then (O143_0.k1) else
    if (x0.f1 != (IntKind.wrap .i64 (v0 + 1))) = true then (O143_0.k1) else
      if (x0.f2 != (IntKind.wrap .i64 ((IntKind.wrap .i64 (v0 + 1)) + 1))) = true then (O143_0.k1) else
        if (decide ((m142 x0.f3 (IntKind.wrap .i64 ((IntKind.wrap .i64 ((IntKind.wrap .i64 (v0 + 1)) + 1)) + 1))) < 0)) = true then (O143_0.k1) else
          if (x0.f4 != (m142 x0.f3 (IntKind.wrap .i64 ((IntKind.wrap .i64 ((IntKind.wrap .i64 (v0 + 1)) + 1)) + 1)))) = true then (O143_0.k1) else
            (r143_0 a0 y0 (i + 1) (IntKind.wrap .i64 ((m142 x0.f3 (IntKind.wrap .i64 ((IntKind.wrap .i64 ((IntKind.wrap .i64 (v0 + 1)) + 1)) + 1))) + 1)))
  | [], i, v0 => (O143_0.k0 v0 i (decide (i < ((length (map b_R a0)) : Int))))
def h143_0 (l0_0 : Nat) (a0 : (List K_R)) (a1 : Int) (i : Int) (v0 : Int) : St := ⟨[(0, (.one (.bor l0_0 (map b_R a0)))), (1, (.one (.val (.int .i64 v0)))), (5, (.one (.val (.int .i64 i))))], []⟩
def ex143_0 : O143_0 → VX.Exit
  | .k0 _ _ _ => (.exit 0)
  | .k1 => .ret
def fin143_0 (l0_0 : Nat) (a0 : (List K_R)) (a1 : Int) : O143_0 → St
  | .k0 w0 w1 w2 => ⟨[(0, (.one (.bor l0_0 (map b_R a0)))), (1, (.one (.val (.int .i64 w0)))), (5, (.one (.val (.int .i64 w1)))), (9, (.one (.val (.bool w2))))], []⟩
  | .k1 => ⟨[(4, (.one (.val (.int .i64 (-1)))))], []⟩
theorem t143_0 {l0_0 : Nat} {a0 : (List K_R)} {a1 : Int} (hy0 : length a0 * 56 ≤ 140737488351232) (hy1 : ∀ z ∈ a0, ok_R z) : ∀ (y0 : List K_R) (p : List K_R) (v0 : Int), p ++ y0 = a0 → Ev F X (.code l143_0 (h143_0 l0_0 a0 a1 (length p : Int) v0) (ex143_0 (r143_0 a0 y0 (length p : Int) v0)) (fin143_0 l0_0 a0 a1 (r143_0 a0 y0 (length p : Int) v0)))
  | [], p, v0, hp0 => by
    have hc : ¬ (decide ((length p : Int) < ((length (map b_R a0)) : Int))) = true := by
      rw [← hp0]; simp only [length_map, length_set, length_append, length_replicate, length_cons, length_nil, decide_eq_true_eq]; omega
    have st := codeH_ok (F := F) (X := X) (c := b143_0) (t := 0) (hs := [(8, .b false)]) (σ := h143_0 l0_0 a0 a1 (length p : Int) v0) (σ' := fin143_0 l0_0 a0 a1 (.k0 v0 (length p : Int) (decide ((length p : Int) < ((length (map b_R a0)) : Int))))) (e := (.exit 0)) (t' := 9) (hs' := []) (q := [(decide ((length p : Int) < ((length (map b_R a0)) : Int))) = false]) (by kernel_rfl) ⟨(nt hc), trivial⟩
    exact .loopX st (show ((.exit 0) : VX.Exit) ≠ .normal from by simp)
  | x0 :: y0, p, v0, hp0 => by
    have hc : (decide ((length p : Int) < ((length (map b_R a0)) : Int))) = true := by
      rw [← hp0]; simp only [length_map, length_set, length_append, length_replicate, length_cons, length_nil, decide_eq_true_eq]; omega
    have Hx0 : (a0)[Int.toNat (length p : Int)]? = some x0 := by
      rw [← hp0, Int.toNat_natCast]; simp
    have Mx0_0 := hy1 x0 (List.mem_of_getElem? Hx0)
    have hlen : length (a0) = length p + length y0 + 1 := by rw [← hp0]; simp; omega
    have hw : IntKind.wrap .i64 ((length p : Int) + 1) = (length p : Int) + 1 := wrap64 (by omega)
    simp only [r143_0]
    by_cases h_1 : (x0.f0 != v0) = true
    · try simp only [if_pos h_1]
      have st := codeH_ok (F := F) (X := X) (c := b143_0) (t := 0) (hs := [(8, .b true), (14, .row [(.i x0.f0), (.i x0.f1), (.i x0.f2), (.sl (map b_si x0.f3)), (.i x0.f4)]), (23, .b true)]) (σ := h143_0 l0_0 a0 a1 (length p : Int) v0) (σ' := fin143_0 l0_0 a0 a1 (.k1)) (e := .ret) (t' := 26) (hs' := []) (q := [(decide ((length p : Int) < ((length (map b_R a0)) : Int))) = true, 0 ≤ (length p : Int), (map b_R a0)[(Int.toNat (length p : Int))]? = some [(.i x0.f0), (.i x0.f1), (.i x0.f2), (.sl (map b_si x0.f3)), (.i x0.f4)], (x0.f0 != v0) = true]) (by kernel_rfl) ⟨hc, (by omega), (by rw [getElem?_map, Hx0]; rfl), h_1, trivial⟩
      exact .loopX st (show (.ret : VX.Exit) ≠ .normal from by simp)
    · try simp only [if_neg h_1]
      by_cases h_2 : (x0.f1 != (IntKind.wrap .i64 (v0 + 1))) = true
      · try simp only [if_pos h_2]
        have st := codeH_ok (F := F) (X := X) (c := b143_0) (t := 0) (hs := [(8, .b true), (14, .row [(.i x0.f0), (.i x0.f1), (.i x0.f2), (.sl (map b_si x0.f3)), (.i x0.f4)]), (23, .b false), (35, .row [(.i x0.f0), (.i x0.f1), (.i x0.f2), (.sl (map b_si x0.f3)), (.i x0.f4)]), (44, .b true)]) (σ := h143_0 l0_0 a0 a1 (length p : Int) v0) (σ' := fin143_0 l0_0 a0 a1 (.k1)) (e := .ret) (t' := 47) (hs' := []) (q := [(decide ((length p : Int) < ((length (map b_R a0)) : Int))) = true, 0 ≤ (length p : Int), (map b_R a0)[(Int.toNat (length p : Int))]? = some [(.i x0.f0), (.i x0.f1), (.i x0.f2), (.sl (map b_si x0.f3)), (.i x0.f4)], (x0.f0 != v0) = false, True, 0 ≤ (length p : Int), (map b_R a0)[(Int.toNat (length p : Int))]? = some [(.i x0.f0), (.i x0.f1), (.i x0.f2), (.sl (map b_si x0.f3)), (.i x0.f4)], (x0.f1 != (IntKind.wrap .i64 (v0 + 1))) = true]) (by kernel_rfl) ⟨hc, (by omega), (by rw [getElem?_map, Hx0]; rfl), (nt h_1), trivial, (by omega), (by rw [getElem?_map, Hx0]; rfl), h_2, trivial⟩
        exact .loopX st (show (.ret : VX.Exit) ≠ .normal from by simp)
      · try simp only [if_neg h_2]
        by_cases h_3 : (x0.f2 != (IntKind.wrap .i64 ((IntKind.wrap .i64 (v0 + 1)) + 1))) = true
        · try simp only [if_pos h_3]
          have st := codeH_ok (F := F) (X := X) (c := b143_0) (t := 0) (hs := [(8, .b true), (14, .row [(.i x0.f0), (.i x0.f1), (.i x0.f2), (.sl (map b_si x0.f3)), (.i x0.f4)]), (23, .b false), (35, .row [(.i x0.f0), (.i x0.f1), (.i x0.f2), (.sl (map b_si x0.f3)), (.i x0.f4)]), (44, .b false), (56, .row [(.i x0.f0), (.i x0.f1), (.i x0.f2), (.sl (map b_si x0.f3)), (.i x0.f4)]), (65, .b true)]) (σ := h143_0 l0_0 a0 a1 (length p : Int) v0) (σ' := fin143_0 l0_0 a0 a1 (.k1)) (e := .ret) (t' := 68) (hs' := []) (q := [(decide ((length p : Int) < ((length (map b_R a0)) : Int))) = true, 0 ≤ (length p : Int), (map b_R a0)[(Int.toNat (length p : Int))]? = some [(.i x0.f0), (.i x0.f1), (.i x0.f2), (.sl (map b_si x0.f3)), (.i x0.f4)], (x0.f0 != v0) = false, True, 0 ≤ (length p : Int), (map b_R a0)[(Int.toNat (length p : Int))]? = some [(.i x0.f0), (.i x0.f1), (.i x0.f2), (.sl (map b_si x0.f3)), (.i x0.f4)], (x0.f1 != (IntKind.wrap .i64 (v0 + 1))) = false, True, 0 ≤ (length p : Int), (map b_R a0)[(Int.toNat (length p : Int))]? = some [(.i x0.f0), (.i x0.f1), (.i x0.f2), (.sl (map b_si x0.f3)), (.i x0.f4)], (x0.f2 != (IntKind.wrap .i64 ((IntKind.wrap .i64 (v0 + 1)) + 1))) = true]) (by kernel_rfl) ⟨hc, (by omega), (by rw [getElem?_map, Hx0]; rfl), (nt h_1), trivial, (by omega), (by rw [getElem?_map, Hx0]; rfl), (nt h_2), trivial, (by omega), (by rw [getElem?_map, Hx0]; rfl), h_3, trivial⟩
          exact .loopX st (show (.ret : VX.Exit) ≠ .normal from by simp)
        · try simp only [if_neg h_3]
          by_cases h_4 : (decide ((m142 x0.f3 (IntKind.wrap .i64 ((IntKind.wrap .i64 ((IntKind.wrap .i64 (v0 + 1)) + 1)) + 1))) < 0)) = true
          · try simp only [if_pos h_4]
            have st := codeH_ok (F := F) (X := X) (c := b143_0) (t := 0) (hs := [(8, .b true), (14, .row [(.i x0.f0), (.i x0.f1), (.i x0.f2), (.sl (map b_si x0.f3)), (.i x0.f4)]), (23, .b false), (35, .row [(.i x0.f0), (.i x0.f1), (.i x0.f2), (.sl (map b_si x0.f3)), (.i x0.f4)]), (44, .b false), (56, .row [(.i x0.f0), (.i x0.f1), (.i x0.f2), (.sl (map b_si x0.f3)), (.i x0.f4)]), (65, .b false), (77, .row [(.i x0.f0), (.i x0.f1), (.i x0.f2), (.sl (map b_si x0.f3)), (.i x0.f4)]), (85, .ret [] [(.oi (m142 x0.f3 (IntKind.wrap .i64 ((IntKind.wrap .i64 ((IntKind.wrap .i64 (v0 + 1)) + 1)) + 1))))] [] []), (92, .b true)]) (σ := h143_0 l0_0 a0 a1 (length p : Int) v0) (σ' := fin143_0 l0_0 a0 a1 (.k1)) (e := .ret) (t' := 95) (hs' := []) (q := [(decide ((length p : Int) < ((length (map b_R a0)) : Int))) = true, 0 ≤ (length p : Int), (map b_R a0)[(Int.toNat (length p : Int))]? = some [(.i x0.f0), (.i x0.f1), (.i x0.f2), (.sl (map b_si x0.f3)), (.i x0.f4)], (x0.f0 != v0) = false, True, 0 ≤ (length p : Int), (map b_R a0)[(Int.toNat (length p : Int))]? = some [(.i x0.f0), (.i x0.f1), (.i x0.f2), (.sl (map b_si x0.f3)), (.i x0.f4)], (x0.f1 != (IntKind.wrap .i64 (v0 + 1))) = false, True, 0 ≤ (length p : Int), (map b_R a0)[(Int.toNat (length p : Int))]? = some [(.i x0.f0), (.i x0.f1), (.i x0.f2), (.sl (map b_si x0.f3)), (.i x0.f4)], (x0.f2 != (IntKind.wrap .i64 ((IntKind.wrap .i64 (v0 + 1)) + 1))) = false, True, 0 ≤ (length p : Int), (map b_R a0)[(Int.toNat (length p : Int))]? = some [(.i x0.f0), (.i x0.f1), (.i x0.f2), (.sl (map b_si x0.f3)), (.i x0.f4)], Ev F X (.call 142 [(.one (.bor (l0_0 + 1) (map b_si x0.f3))), (.oi (IntKind.wrap .i64 ((IntKind.wrap .i64 ((IntKind.wrap .i64 (v0 + 1)) + 1)) + 1)))] [] [] [(.oi (m142 x0.f3 (IntKind.wrap .i64 ((IntKind.wrap .i64 ((IntKind.wrap .i64 (v0 + 1)) + 1)) + 1))))]), (decide ((m142 x0.f3 (IntKind.wrap .i64 ((IntKind.wrap .i64 ((IntKind.wrap .i64 (v0 + 1)) + 1)) + 1))) < 0)) = true]) (by kernel_rfl) ⟨hc, (by omega), (by rw [getElem?_map, Hx0]; rfl), (nt h_1), trivial, (by omega), (by rw [getElem?_map, Hx0]; rfl), (nt h_2), trivial, (by omega), (by rw [getElem?_map, Hx0]; rfl), (nt h_3), trivial, (by omega), (by rw [getElem?_map, Hx0]; rfl), (e142 (a0 := x0.f3) (a1 := (IntKind.wrap .i64 ((IntKind.wrap .i64 ((IntKind.wrap .i64 (v0 + 1)) + 1)) + 1))) (by assumption)), h_4, trivial⟩
            exact .loopX st (show (.ret : VX.Exit) ≠ .normal from by simp)
          · try simp only [if_neg h_4]
            by_cases h_5 : (x0.f4 != (m142 x0.f3 (IntKind.wrap .i64 ((IntKind.wrap .i64 ((IntKind.wrap .i64 (v0 + 1)) + 1)) + 1)))) = true
            · try simp only [if_pos h_5]
              have st := codeH_ok (F := F) (X := X) (c := b143_0) (t := 0) (hs := [(8, .b true), (14, .row [(.i x0.f0), (.i x0.f1), (.i x0.f2), (.sl (map b_si x0.f3)), (.i x0.f4)]), (23, .b false), (35, .row [(.i x0.f0), (.i x0.f1), (.i x0.f2), (.sl (map b_si x0.f3)), (.i x0.f4)]), (44, .b false), (56, .row [(.i x0.f0), (.i x0.f1), (.i x0.f2), (.sl (map b_si x0.f3)), (.i x0.f4)]), (65, .b false), (77, .row [(.i x0.f0), (.i x0.f1), (.i x0.f2), (.sl (map b_si x0.f3)), (.i x0.f4)]), (85, .ret [] [(.oi (m142 x0.f3 (IntKind.wrap .i64 ((IntKind.wrap .i64 ((IntKind.wrap .i64 (v0 + 1)) + 1)) + 1))))] [] []), (92, .b false), (98, .row [(.i x0.f0), (.i x0.f1), (.i x0.f2), (.sl (map b_si x0.f3)), (.i x0.f4)]), (107, .b true)]) (σ := h143_0 l0_0 a0 a1 (length p : Int) v0) (σ' := fin143_0 l0_0 a0 a1 (.k1)) (e := .ret) (t' := 110) (hs' := []) (q := [(decide ((length p : Int) < ((length (map b_R a0)) : Int))) = true, 0 ≤ (length p : Int), (map b_R a0)[(Int.toNat (length p : Int))]? = some [(.i x0.f0), (.i x0.f1), (.i x0.f2), (.sl (map b_si x0.f3)), (.i x0.f4)], (x0.f0 != v0) = false, True, 0 ≤ (length p : Int), (map b_R a0)[(Int.toNat (length p : Int))]? = some [(.i x0.f0), (.i x0.f1), (.i x0.f2), (.sl (map b_si x0.f3)), (.i x0.f4)], (x0.f1 != (IntKind.wrap .i64 (v0 + 1))) = false, True, 0 ≤ (length p : Int), (map b_R a0)[(Int.toNat (length p : Int))]? = some [(.i x0.f0), (.i x0.f1), (.i x0.f2), (.sl (map b_si x0.f3)), (.i x0.f4)], (x0.f2 != (IntKind.wrap .i64 ((IntKind.wrap .i64 (v0 + 1)) + 1))) = false, True, 0 ≤ (length p : Int), (map b_R a0)[(Int.toNat (length p : Int))]? = some [(.i x0.f0), (.i x0.f1), (.i x0.f2), (.sl (map b_si x0.f3)), (.i x0.f4)], Ev F X (.call 142 [(.one (.bor (l0_0 + 1) (map b_si x0.f3))), (.oi (IntKind.wrap .i64 ((IntKind.wrap .i64 ((IntKind.wrap .i64 (v0 + 1)) + 1)) + 1)))] [] [] [(.oi (m142 x0.f3 (IntKind.wrap .i64 ((IntKind.wrap .i64 ((IntKind.wrap .i64 (v0 + 1)) + 1)) + 1))))]), (decide ((m142 x0.f3 (IntKind.wrap .i64 ((IntKind.wrap .i64 ((IntKind.wrap .i64 (v0 + 1)) + 1)) + 1))) < 0)) = false, 0 ≤ (length p : Int), (map b_R a0)[(Int.toNat (length p : Int))]? = some [(.i x0.f0), (.i x0.f1), (.i x0.f2), (.sl (map b_si x0.f3)), (.i x0.f4)], (x0.f4 != (m142 x0.f3 (IntKind.wrap .i64 ((IntKind.wrap .i64 ((IntKind.wrap .i64 (v0 + 1)) + 1)) + 1)))) = true]) (by kernel_rfl) ⟨hc, (by omega), (by rw [getElem?_map, Hx0]; rfl), (nt h_1), trivial, (by omega), (by rw [getElem?_map, Hx0]; rfl), (nt h_2), trivial, (by omega), (by rw [getElem?_map, Hx0]; rfl), (nt h_3), trivial, (by omega), (by rw [getElem?_map, Hx0]; rfl), (e142 (a0 := x0.f3) (a1 := (IntKind.wrap .i64 ((IntKind.wrap .i64 ((IntKind.wrap .i64 (v0 + 1)) + 1)) + 1))) (by assumption)), (nt h_4), (by omega), (by rw [getElem?_map, Hx0]; rfl), h_5, trivial⟩
              exact .loopX st (show (.ret : VX.Exit) ≠ .normal from by simp)
            · try simp only [if_neg h_5]
              have st := codeH_ok (F := F) (X := X) (c := b143_0) (t := 0) (hs := [(8, .b true), (14, .row [(.i x0.f0), (.i x0.f1), (.i x0.f2), (.sl (map b_si x0.f3)), (.i x0.f4)]), (23, .b false), (35, .row [(.i x0.f0), (.i x0.f1), (.i x0.f2), (.sl (map b_si x0.f3)), (.i x0.f4)]), (44, .b false), (56, .row [(.i x0.f0), (.i x0.f1), (.i x0.f2), (.sl (map b_si x0.f3)), (.i x0.f4)]), (65, .b false), (77, .row [(.i x0.f0), (.i x0.f1), (.i x0.f2), (.sl (map b_si x0.f3)), (.i x0.f4)]), (85, .ret [] [(.oi (m142 x0.f3 (IntKind.wrap .i64 ((IntKind.wrap .i64 ((IntKind.wrap .i64 (v0 + 1)) + 1)) + 1))))] [] []), (92, .b false), (98, .row [(.i x0.f0), (.i x0.f1), (.i x0.f2), (.sl (map b_si x0.f3)), (.i x0.f4)]), (107, .b false)]) (σ := h143_0 l0_0 a0 a1 (length p : Int) v0) (σ' := ⟨[(0, (.one (.bor l0_0 (map b_R a0)))), (1, (.oi (IntKind.wrap .i64 ((m142 x0.f3 (IntKind.wrap .i64 ((IntKind.wrap .i64 ((IntKind.wrap .i64 (v0 + 1)) + 1)) + 1))) + 1)))), (5, (.oi (IntKind.wrap .i64 ((length p : Int) + 1))))], []⟩) (e := .normal) (t' := 120) (hs' := []) (q := [(decide ((length p : Int) < ((length (map b_R a0)) : Int))) = true, 0 ≤ (length p : Int), (map b_R a0)[(Int.toNat (length p : Int))]? = some [(.i x0.f0), (.i x0.f1), (.i x0.f2), (.sl (map b_si x0.f3)), (.i x0.f4)], (x0.f0 != v0) = false, True, 0 ≤ (length p : Int), (map b_R a0)[(Int.toNat (length p : Int))]? = some [(.i x0.f0), (.i x0.f1), (.i x0.f2), (.sl (map b_si x0.f3)), (.i x0.f4)], (x0.f1 != (IntKind.wrap .i64 (v0 + 1))) = false, True, 0 ≤ (length p : Int), (map b_R a0)[(Int.toNat (length p : Int))]? = some [(.i x0.f0), (.i x0.f1), (.i x0.f2), (.sl (map b_si x0.f3)), (.i x0.f4)], (x0.f2 != (IntKind.wrap .i64 ((IntKind.wrap .i64 (v0 + 1)) + 1))) = false, True, 0 ≤ (length p : Int), (map b_R a0)[(Int.toNat (length p : Int))]? = some [(.i x0.f0), (.i x0.f1), (.i x0.f2), (.sl (map b_si x0.f3)), (.i x0.f4)], Ev F X (.call 142 [(.one (.bor (l0_0 + 1) (map b_si x0.f3))), (.oi (IntKind.wrap .i64 ((IntKind.wrap .i64 ((IntKind.wrap .i64 (v0 + 1)) + 1)) + 1)))] [] [] [(.oi (m142 x0.f3 (IntKind.wrap .i64 ((IntKind.wrap .i64 ((IntKind.wrap .i64 (v0 + 1)) + 1)) + 1))))]), (decide ((m142 x0.f3 (IntKind.wrap .i64 ((IntKind.wrap .i64 ((IntKind.wrap .i64 (v0 + 1)) + 1)) + 1))) < 0)) = false, 0 ≤ (length p : Int), (map b_R a0)[(Int.toNat (length p : Int))]? = some [(.i x0.f0), (.i x0.f1), (.i x0.f2), (.sl (map b_si x0.f3)), (.i x0.f4)], (x0.f4 != (m142 x0.f3 (IntKind.wrap .i64 ((IntKind.wrap .i64 ((IntKind.wrap .i64 (v0 + 1)) + 1)) + 1)))) = false, True, True]) (by kernel_rfl) ⟨hc, (by omega), (by rw [getElem?_map, Hx0]; rfl), (nt h_1), trivial, (by omega), (by rw [getElem?_map, Hx0]; rfl), (nt h_2), trivial, (by omega), (by rw [getElem?_map, Hx0]; rfl), (nt h_3), trivial, (by omega), (by rw [getElem?_map, Hx0]; rfl), (e142 (a0 := x0.f3) (a1 := (IntKind.wrap .i64 ((IntKind.wrap .i64 ((IntKind.wrap .i64 (v0 + 1)) + 1)) + 1))) (by assumption)), (nt h_4), (by omega), (by rw [getElem?_map, Hx0]; rfl), (nt h_5), trivial, trivial, trivial⟩
              have ih := t143_0 (l0_0 := l0_0) (a0 := a0) (a1 := a1) hy0 hy1 y0 (p ++ [x0]) (IntKind.wrap .i64 ((m142 x0.f3 (IntKind.wrap .i64 ((IntKind.wrap .i64 ((IntKind.wrap .i64 (v0 + 1)) + 1)) + 1))) + 1)) (by rw [append_assoc]; exact hp0)
              rw [show ((p ++ [x0]).length : Int) = (p.length : Int) + 1 from by simp] at ih
              rw [show (⟨[(0, (.one (.bor l0_0 (map b_R a0)))), (1, (.oi (IntKind.wrap .i64 ((m142 x0.f3 (IntKind.wrap .i64 ((IntKind.wrap .i64 ((IntKind.wrap .i64 (v0 + 1)) + 1)) + 1))) + 1)))), (5, (.oi (IntKind.wrap .i64 ((length p : Int) + 1))))], []⟩ : St) = h143_0 l0_0 a0 a1 ((length p : Int) + 1) (IntKind.wrap .i64 ((m142 x0.f3 (IntKind.wrap .i64 ((IntKind.wrap .i64 ((IntKind.wrap .i64 (v0 + 1)) + 1)) + 1))) + 1)) from (by unfold h143_0; simp only [hw]; done)] at st
              exact .loopN st ih
/-! loop.example/g00539/laws.heldRewardS -/
def m143 (a0 : (List K_R)) (a1 : Int) : Int :=
  (match r143_0 a0 a0 0 a1 with | .k0 w0_0 w1_0 w2_0 => w0_0 | .k1 => (-1))
theorem e143 {l0_0 : Nat} {a0 : (List K_R)} {a1 : Int} (hy0 : length a0 * 56 ≤ 140737488351232) (hy1 : ∀ z ∈ a0, ok_R z) : Ev F X (.call 143 [(.one (.bor l0_0 (map b_R a0))), (.one (.val (.int .i64 a1)))] [] [] [(.one (.val (.int .i64 (m143 a0 a1))))]) := by
  unfold m143
  cases h0 : r143_0 a0 a0 0 a1 with
  | k0 w0_0 w1_0 w2_0 =>
    try dsimp only
    have f0 : (⟨[(0, (.one (.bor l0_0 (map b_R a0)))), (1, (.oi a1)), (5, (.oi 0))], []⟩ : St) = h143_0 l0_0 a0 a1 0 a1 := (by rfl)
    have f1 : Ev F X (.code l143_0 (h143_0 l0_0 a0 a1 0 a1) (.exit 0) ⟨[(0, (.one (.bor l0_0 (map b_R a0)))), (1, (.oi w0_0)), (5, (.oi w1_0)), (9, (.one (.val (.bool w2_0))))], []⟩) := (by have t : Ev F X (.code l143_0 (h143_0 l0_0 a0 a1 0 a1) (ex143_0 (r143_0 a0 a0 0 a1)) (fin143_0 l0_0 a0 a1 (r143_0 a0 a0 0 a1))) := t143_0 (l0_0 := l0_0) (a0 := a0) (a1 := a1) (by assumption) (by assumption) a0 [] a1 rfl; rw [h0] at t; exact t)
    exact callP_ok (ps := []) (os := []) (rs := [(.oi w0_0)]) (by kernel_rfl) (.f f0 (.f f1 (.h 4 (.loop (h143_0 l0_0 a0 a1 0 a1) (.exit 0) ⟨[(0, (.one (.bor l0_0 (map b_R a0)))), (1, (.oi w0_0)), (5, (.oi w1_0)), (9, (.one (.val (.bool w2_0))))], []⟩) .nil)))
  | k1 =>
    try dsimp only
    have f0 : (⟨[(0, (.one (.bor l0_0 (map b_R a0)))), (1, (.oi a1)), (5, (.oi 0))], []⟩ : St) = h143_0 l0_0 a0 a1 0 a1 := (by rfl)
    have f1 : Ev F X (.code l143_0 (h143_0 l0_0 a0 a1 0 a1) .ret ⟨[(4, (.oi (-1)))], []⟩) := (by have t : Ev F X (.code l143_0 (h143_0 l0_0 a0 a1 0 a1) (ex143_0 (r143_0 a0 a0 0 a1)) (fin143_0 l0_0 a0 a1 (r143_0 a0 a0 0 a1))) := t143_0 (l0_0 := l0_0) (a0 := a0) (a1 := a1) (by assumption) (by assumption) a0 [] a1 rfl; rw [h0] at t; exact t)
    exact callP_ok (ps := []) (os := []) (rs := [(.oi (-1))]) (by kernel_rfl) (.f f0 (.f f1 (.h 4 (.loop (h143_0 l0_0 a0 a1 0 a1) .ret ⟨[(4, (.oi (-1)))], []⟩) .nil)))
/-! loop.example/g00539/laws.heldLedger -/
def m87 (a0 : K_B) (a1 : Int) : Int :=
  if (decide ((m142 a0.f2 a1) < 0)) = true then (-1) else
  if (decide ((m143 a0.f3 (m142 a0.f2 a1)) < 0)) = true then (-1) else
    if (decide ((m142 a0.f4 (m143 a0.f3 (m142 a0.f2 a1))) < 0)) = true then (-1) else
      (m142 a0.f4 (m143 a0.f3 (m142 a0.f2 a1)))
theorem e87 {l0_2 : Nat} {l0_3 : Nat} {l0_4 : Nat} {a0 : K_B} {a1 : Int} (hy0 : length a0.f2 * 24 ≤ 140737488351232) (hy1 : length a0.f3 * 56 ≤ 140737488351232) (hy2 : ∀ z ∈ a0.f3, ok_R z) (hy3 : length a0.f4 * 24 ≤ 140737488351232) : Ev F X (.call 87 [(.agg [(.val (.int .i64 a0.f0)), (.val (.int .i64 a0.f1)), (.bor l0_2 (map b_si a0.f2)), (.bor l0_3 (map b_R a0.f3)), (.bor l0_4 (map b_si a0.f4)), (.val (.int .i64 a0.f5)), (.val (.int .i64 a0.f6)), (.val (.int .i64 a0.f7))]), (.one (.val (.int .i64 a1)))] [] [] [(.one (.val (.int .i64 (m87 a0 a1))))]) := by
  unfold m87
  have f0 : Ev F X (.call 142 [(.one (.bor (l0_2 + 1) (map b_si a0.f2))), (.oi a1)] [] [] [(.oi (m142 a0.f2 a1))]) := (e142 (a0 := a0.f2) (a1 := a1) (by with_reducible assumption))
  by_cases h0 : (decide ((m142 a0.f2 a1) < 0)) = true
  · try simp only [if_pos h0]
    exact callP_ok (ps := []) (os := []) (rs := [(.oi (-1))]) (by kernel_rfl) (.r 11 [] [] f0 (.f h0 (.h 18 (.b true) .nil)))
  · try simp only [if_neg h0]
    have f2 : Ev F X (.call 143 [(.one (.bor (l0_3 + 1) (map b_R a0.f3))), (.oi (m142 a0.f2 a1))] [] [] [(.oi (m143 a0.f3 (m142 a0.f2 a1)))]) := (e143 (a0 := a0.f3) (a1 := (m142 a0.f2 a1)) (by with_reducible assumption) (by with_reducible assumption))
    by_cases h1 : (decide ((m143 a0.f3 (m142 a0.f2 a1)) < 0)) = true
    · try simp only [if_pos h1]
      exact callP_ok (ps := []) (os := []) (rs := [(.oi (-1))]) (by kernel_rfl) (.r 11 [] [] f0 (.f (nt h0) (.h 18 (.b false) (.r 26 [] [] f2 (.f h1 (.h 33 (.b true) .nil))))))
    · try simp only [if_neg h1]
      have f4 : Ev F X (.call 142 [(.one (.bor (l0_4 + 1) (map b_si a0.f4))), (.oi (m143 a0.f3 (m142 a0.f2 a1)))] [] [] [(.oi (m142 a0.f4 (m143 a0.f3 (m142 a0.f2 a1))))]) := (e142 (a0 := a0.f4) (a1 := (m143 a0.f3 (m142 a0.f2 a1))) (by with_reducible assumption))
      by_cases h2 : (decide ((m142 a0.f4 (m143 a0.f3 (m142 a0.f2 a1))) < 0)) = true
      · try simp only [if_pos h2]
        exact callP_ok (ps := []) (os := []) (rs := [(.oi (-1))]) (by kernel_rfl) (.r 11 [] [] f0 (.f (nt h0) (.h 18 (.b false) (.r 26 [] [] f2 (.f (nt h1) (.h 33 (.b false) (.r 41 [] [] f4 (.f h2 (.h 48 (.b true) .nil)))))))))
      · try simp only [if_neg h2]
        exact callP_ok (ps := []) (os := []) (rs := [(.oi (m142 a0.f4 (m143 a0.f3 (m142 a0.f2 a1))))]) (by kernel_rfl) (.r 11 [] [] f0 (.f (nt h0) (.h 18 (.b false) (.r 26 [] [] f2 (.f (nt h1) (.h 33 (.b false) (.r 41 [] [] f4 (.f (nt h2) (.h 48 (.b false) .nil)))))))))
/-! loop.example/g00539/laws.heldLedgerResult -/
def m29 (a0 : K_C) (a1 : Int) : Int :=
  if (decide ((m87 (K_B.mk a0.f2 a0.f3 a0.f4 a0.f5 a0.f6 a0.f7 a0.f8 a0.f9) a1) < 0)) = true then (-1) else
  (m87 (K_B.mk a0.f2 a0.f3 a0.f4 a0.f5 a0.f6 a0.f7 a0.f8 a0.f9) a1)
theorem e29 {l0_4 : Nat} {l0_5 : Nat} {l0_6 : Nat} {a0 : K_C} {a1 : Int} (hy0 : length a0.f4 * 24 ≤ 140737488351232) (hy1 : length a0.f5 * 56 ≤ 140737488351232) (hy2 : ∀ z ∈ a0.f5, ok_R z) (hy3 : length a0.f6 * 24 ≤ 140737488351232) : Ev F X (.call 29 [(.agg [(.val (.int .i64 a0.f0)), (.val (.int .i64 a0.f1)), (.val (.int .i64 a0.f2)), (.val (.int .i64 a0.f3)), (.bor l0_4 (map b_si a0.f4)), (.bor l0_5 (map b_R a0.f5)), (.bor l0_6 (map b_si a0.f6)), (.val (.int .i64 a0.f7)), (.val (.int .i64 a0.f8)), (.val (.int .i64 a0.f9))]), (.one (.val (.int .i64 a1)))] [] [] [(.one (.val (.int .i64 (m29 a0 a1))))]) := by
  unfold m29
  have f0 : Ev F X (.call 87 [(.agg [(.i a0.f2), (.i a0.f3), (.bor (l0_4 + 1) (map b_si a0.f4)), (.bor (l0_5 + 1) (map b_R a0.f5)), (.bor (l0_6 + 1) (map b_si a0.f6)), (.i a0.f7), (.i a0.f8), (.i a0.f9)]), (.oi a1)] [] [] [(.oi (m87 (K_B.mk a0.f2 a0.f3 a0.f4 a0.f5 a0.f6 a0.f7 a0.f8 a0.f9) a1))]) := (e87 (a0 := (K_B.mk a0.f2 a0.f3 a0.f4 a0.f5 a0.f6 a0.f7 a0.f8 a0.f9)) (a1 := a1) (by with_reducible assumption) (by with_reducible assumption) (by with_reducible assumption) (by with_reducible assumption))
  by_cases h0 : (decide ((m87 (K_B.mk a0.f2 a0.f3 a0.f4 a0.f5 a0.f6 a0.f7 a0.f8 a0.f9) a1) < 0)) = true
  · try simp only [if_pos h0]
    exact callP_ok (ps := []) (os := []) (rs := [(.oi (-1))]) (by kernel_rfl) (.r 11 [] [] f0 (.f h0 (.h 18 (.b true) .nil)))
  · try simp only [if_neg h0]
    exact callP_ok (ps := []) (os := []) (rs := [(.oi (m87 (K_B.mk a0.f2 a0.f3 a0.f4 a0.f5 a0.f6 a0.f7 a0.f8 a0.f9) a1))]) (by kernel_rfl) (.r 11 [] [] f0 (.f (nt h0) (.h 18 (.b false) .nil)))
/-! loop.example/g00539/laws.FnExactCreditShare -/
def m5 (a0 : K_B) (a1 : K_si) : Bool :=
  if (decide ((m14 a0 1048576) < 0)) = true then true else
  if (decide ((m22 a1 (m14 a0 1048576)) < 0)) = true then true else
    if (!(m26 (m1008300 a0 a1.f0 a1.f1) (m23 a0 a1))) = true then false else
      if (!(m18 a0 a0)) = true then false else
        if (decide ((m27 a0 1) < 0)) = true then false else
          if (decide ((m29 (K_C.mk ((m1008300 a0 a1.f0 a1.f1).f0) ((m1008300 a0 a1.f0 a1.f1).f1) ((m1008300 a0 a1.f0 a1.f1).f2) ((m1008300 a0 a1.f0 a1.f1).f3) (o28_2 (m1008300 a0 a1.f0 a1.f1) 1) (o28_1 (m1008300 a0 a1.f0 a1.f1) 1) (o28_0 (m1008300 a0 a1.f0 a1.f1) 1) ((m1008300 a0 a1.f0 a1.f1).f7) ((m1008300 a0 a1.f0 a1.f1).f8) ((m1008300 a0 a1.f0 a1.f1).f9)) 1) < 0)) = true then false else
            if ((m29 (K_C.mk ((m1008300 a0 a1.f0 a1.f1).f0) ((m1008300 a0 a1.f0 a1.f1).f1) ((m1008300 a0 a1.f0 a1.f1).f2) ((m1008300 a0 a1.f0 a1.f1).f3) (o28_2 (m1008300 a0 a1.f0 a1.f1) 1) (o28_1 (m1008300 a0 a1.f0 a1.f1) 1) (o28_0 (m1008300 a0 a1.f0 a1.f1) 1) ((m1008300 a0 a1.f0 a1.f1).f7) ((m1008300 a0 a1.f0 a1.f1).f8) ((m1008300 a0 a1.f0 a1.f1).f9)) 1) != (m28 (m1008300 a0 a1.f0 a1.f1) 1)) = true then false else
              true
set_option maxHeartbeats 8000000 in
theorem e5 {l0_2 : Nat} {l0_3 : Nat} {l0_4 : Nat} {a0 : K_B} {a1 : K_si} (hy0 : length a0.f2 * 24 ≤ 140737488351232) (hy1 : ∀ z ∈ a0.f2, os_si z) (hy2 : length a0.f3 * 56 ≤ 140737488351232) (hy3 : ∀ z ∈ a0.f3, os_R z) (hy4 : length a0.f4 * 24 ≤ 140737488351232) (hy5 : ∀ z ∈ a0.f4, os_si z) (hy6 : ByteArray.size a1.f0 ≤ 140737488351232) : Ev F X (.call 5 [(.agg [(.val (.int .i64 a0.f0)), (.val (.int .i64 a0.f1)), (.bor l0_2 (map b_si a0.f2)), (.bor l0_3 (map b_R a0.f3)), (.bor l0_4 (map b_si a0.f4)), (.val (.int .i64 a0.f5)), (.val (.int .i64 a0.f6)), (.val (.int .i64 a0.f7))]), (.agg [(.val (.string a1.f0)), (.val (.int .i64 a1.f1))])] [] [] [(.one (.val (.bool (m5 a0 a1))))]) := by
  unfold m5
  have f0 : Ev F X (.call 14 [(.agg [(.i a0.f0), (.i a0.f1), (.bor (l0_2 + 1) (map b_si a0.f2)), (.bor (l0_3 + 1) (map b_R a0.f3)), (.bor (l0_4 + 1) (map b_si a0.f4)), (.i a0.f5), (.i a0.f6), (.i a0.f7)]), (.oi 1048576)] [] [] [(.oi (m14 a0 1048576))]) := (e14 (a0 := a0) (a1 := 1048576) (by with_reducible assumption) (by with_reducible assumption) (by intro z hz; exact os_ok_R z ((by assumption : ∀ z ∈ a0.f3, os_R z) z hz)) (by with_reducible assumption))
  by_cases h0 : (decide ((m14 a0 1048576) < 0)) = true
  · try simp only [if_pos h0]
    exact callP_ok (ps := []) (os := []) (rs := [(.one (.val (.bool true)))]) (by kernel_rfl) (.r 13 [] [] f0 (.f h0 (.h 20 (.b true) .nil)))
  · try simp only [if_neg h0]
    have f2 : Ev F X (.call 22 [(.agg [(.val (.string a1.f0)), (.i a1.f1)]), (.oi (m14 a0 1048576))] [] [] [(.oi (m22 a1 (m14 a0 1048576)))]) := (e22 (a0 := a1) (a1 := (m14 a0 1048576)))
    by_cases h1 : (decide ((m22 a1 (m14 a0 1048576)) < 0)) = true
    · try simp only [if_pos h1]
      exact callP_ok (ps := []) (os := []) (rs := [(.one (.val (.bool true)))]) (by kernel_rfl) (.r 13 [] [] f0 (.f (nt h0) (.h 20 (.b false) (.r 26 [] [] f2 (.f h1 (.h 33 (.b true) .nil))))))
    · try simp only [if_neg h1]
      have f4 : Ev F X (.call 16 [(.agg [(.i a0.f0), (.i a0.f1), (.bor (l0_2 + 1) (map b_si a0.f2)), (.bor (l0_3 + 1) (map b_R a0.f3)), (.bor (l0_4 + 1) (map b_si a0.f4)), (.i a0.f5), (.i a0.f6), (.i a0.f7)])] [] [] [(.agg [(.i a0.f0), (.i a0.f1), (.own 2 (map d_si a0.f2)), (.own 5 (map d_R a0.f3)), (.own 2 (map d_si a0.f4)), (.i a0.f5), (.i a0.f6), (.i a0.f7)])]) := (e16 (a0 := a0) (by with_reducible assumption) (by with_reducible assumption) (by intro z hz; exact os_ok_R z ((by assumption : ∀ z ∈ a0.f3, os_R z) z hz)) (by with_reducible assumption))
      have f5 : Ev F X (.call 24 [(.agg [(.val (.string a1.f0)), (.i a1.f1)])] [] [] [(.agg [(.val (.string a1.f0)), (.i a1.f1)])]) := (e24 (a0 := a1))
      have f6 : 0 + (length (map d_si a0.f2)) ≤ (length (map d_si a0.f2)) := (by omega)
      have f7 : fullR (take (length (map d_si a0.f2)) (drop 0 (map d_si a0.f2))) = true := (ft_si _ _ _)
      have f8 : toBR (take (length (map d_si a0.f2)) (drop 0 (map d_si a0.f2))) = (map b_si a0.f2) := (tb_si _)
      have f9 : 0 + (length (map d_R a0.f3)) ≤ (length (map d_R a0.f3)) := (by omega)
      have f10 : fullR (take (length (map d_R a0.f3)) (drop 0 (map d_R a0.f3))) = true := (ft_R _ _ _)
      have f11 : toBR (take (length (map d_R a0.f3)) (drop 0 (map d_R a0.f3))) = (map b_R a0.f3) := (tb_R _)
      have f12 : 0 + (length (map d_si a0.f4)) ≤ (length (map d_si a0.f4)) := (by omega)
      have f13 : fullR (take (length (map d_si a0.f4)) (drop 0 (map d_si a0.f4))) = true := (ft_si _ _ _)
      have f14 : toBR (take (length (map d_si a0.f4)) (drop 0 (map d_si a0.f4))) = (map b_si a0.f4) := (tb_si _)
      have f15 : Ev F X (.call 23 [(.agg [(.i a0.f0), (.i a0.f1), (.bor 0 (map b_si a0.f2)), (.bor 0 (map b_R a0.f3)), (.bor 0 (map b_si a0.f4)), (.i a0.f5), (.i a0.f6), (.i a0.f7)]), (.agg [(.val (.string a1.f0)), (.i a1.f1)])] [] [] [(.agg [(.i ((m23 a0 a1).f0)), (.i ((m23 a0 a1).f1)), (.i ((m23 a0 a1).f2)), (.i ((m23 a0 a1).f3)), (.own 2 (map d_si ((m23 a0 a1).f4))), (.own 5 (map d_R ((m23 a0 a1).f5))), (.own 2 (map d_si ((m23 a0 a1).f6))), (.i ((m23 a0 a1).f7)), (.i ((m23 a0 a1).f8)), (.i ((m23 a0 a1).f9))])]) := (e23 (a0 := a0) (a1 := a1) (by with_reducible assumption) (by with_reducible assumption) (by with_reducible assumption) (by with_reducible assumption) (by with_reducible assumption) (by with_reducible assumption) (by with_reducible assumption))
      have f16 : 0 = 0 := rfl
      have f17 : (length (map d_si ((m23 a0 a1).f4))) = (length (map d_si ((m23 a0 a1).f4))) := rfl
      have f18 : 0 = 0 := rfl
      have f19 : (length (map d_R ((m23 a0 a1).f5))) = (length (map d_R ((m23 a0 a1).f5))) := rfl
      have f20 : 0 = 0 := rfl
      have f21 : (length (map d_si ((m23 a0 a1).f6))) = (length (map d_si ((m23 a0 a1).f6))) := rfl
      have f22 : Ev F X (.call 16 [(.agg [(.i a0.f0), (.i a0.f1), (.bor (l0_2 + 1) (map b_si a0.f2)), (.bor (l0_3 + 1) (map b_R a0.f3)), (.bor (l0_4 + 1) (map b_si a0.f4)), (.i a0.f5), (.i a0.f6), (.i a0.f7)])] [] [] [(.agg [(.i a0.f0), (.i a0.f1), (.own 2 (map d_si a0.f2)), (.own 5 (map d_R a0.f3)), (.own 2 (map d_si a0.f4)), (.i a0.f5), (.i a0.f6), (.i a0.f7)])]) := (e16 (a0 := a0) (by with_reducible assumption) (by with_reducible assumption) (by intro z hz; exact os_ok_R z ((by assumption : ∀ z ∈ a0.f3, os_R z) z hz)) (by with_reducible assumption))
      have f23 : 0 = 0 := rfl
      have f24 : (length (map d_si a0.f2)) = (length (map d_si a0.f2)) := rfl
      have f25 : 0 = 0 := rfl
      have f26 : (length (map d_R a0.f3)) = (length (map d_R a0.f3)) := rfl
      have f27 : 0 = 0 := rfl
      have f28 : (length (map d_si a0.f4)) = (length (map d_si a0.f4)) := rfl
      have f29 : Ev F X (.call 24 [(.agg [(.val (.string a1.f0)), (.i a1.f1)])] [] [] [(.agg [(.val (.string a1.f0)), (.i a1.f1)])]) := (e24 (a0 := a1))
      have f30 : 0 + (length (map d_si a0.f2)) ≤ (length (map d_si a0.f2)) := (by omega)
      have f31 : fullR (take (length (map d_si a0.f2)) (drop 0 (map d_si a0.f2))) = true := (ft_si _ _ _)
      have f32 : toBR (take (length (map d_si a0.f2)) (drop 0 (map d_si a0.f2))) = (map b_si a0.f2) := (tb_si _)
      have f33 : 0 + (length (map d_R a0.f3)) ≤ (length (map d_R a0.f3)) := (by omega)
      have f34 : fullR (take (length (map d_R a0.f3)) (drop 0 (map d_R a0.f3))) = true := (ft_R _ _ _)
      have f35 : toBR (take (length (map d_R a0.f3)) (drop 0 (map d_R a0.f3))) = (map b_R a0.f3) := (tb_R _)
      have f36 : 0 + (length (map d_si a0.f4)) ≤ (length (map d_si a0.f4)) := (by omega)
      have f37 : fullR (take (length (map d_si a0.f4)) (drop 0 (map d_si a0.f4))) = true := (ft_si _ _ _)
      have f38 : toBR (take (length (map d_si a0.f4)) (drop 0 (map d_si a0.f4))) = (map b_si a0.f4) := (tb_si _)
      have f39 : Ev F X (.call 25 [(.agg [(.i a0.f0), (.i a0.f1), (.bor 0 (map b_si a0.f2)), (.bor 0 (map b_R a0.f3)), (.bor 0 (map b_si a0.f4)), (.i a0.f5), (.i a0.f6), (.i a0.f7)]), (.agg [(.val (.string a1.f0)), (.i a1.f1)])] [] [] [(.agg [(.i ((m1008300 a0 a1.f0 a1.f1).f0)), (.i ((m1008300 a0 a1.f0 a1.f1).f1)), (.i ((m1008300 a0 a1.f0 a1.f1).f2)), (.i ((m1008300 a0 a1.f0 a1.f1).f3)), (.own 2 (map d_si ((m1008300 a0 a1.f0 a1.f1).f4))), (.own 5 (map d_R ((m1008300 a0 a1.f0 a1.f1).f5))), (.own 2 (map d_si ((m1008300 a0 a1.f0 a1.f1).f6))), (.i ((m1008300 a0 a1.f0 a1.f1).f7)), (.i ((m1008300 a0 a1.f0 a1.f1).f8)), (.i ((m1008300 a0 a1.f0 a1.f1).f9))])]) := (e25 (a0 := a0) (a1 := a1) (by with_reducible assumption) (by with_reducible assumption) (by intro z hz; exact os_ok_R z ((by assumption : ∀ z ∈ a0.f3, os_R z) z hz)) (by with_reducible assumption))
      have f40 : 0 = 0 := rfl
      have f41 : (length (map d_si ((m1008300 a0 a1.f0 a1.f1).f4))) = (length (map d_si ((m1008300 a0 a1.f0 a1.f1).f4))) := rfl
      have f42 : 0 = 0 := rfl
      have f43 : (length (map d_R ((m1008300 a0 a1.f0 a1.f1).f5))) = (length (map d_R ((m1008300 a0 a1.f0 a1.f1).f5))) := rfl
      have f44 : 0 = 0 := rfl
      have f45 : (length (map d_si ((m1008300 a0 a1.f0 a1.f1).f6))) = (length (map d_si ((m1008300 a0 a1.f0 a1.f1).f6))) := rfl
      have f46 : 0 + (length (map d_si ((m1008300 a0 a1.f0 a1.f1).f4))) ≤ (length (map d_si ((m1008300 a0 a1.f0 a1.f1).f4))) := (by omega)
      have f47 : fullR (take (length (map d_si ((m1008300 a0 a1.f0 a1.f1).f4))) (drop 0 (map d_si ((m1008300 a0 a1.f0 a1.f1).f4)))) = true := (ft_si _ _ _)
      have f48 : toBR (take (length (map d_si ((m1008300 a0 a1.f0 a1.f1).f4))) (drop 0 (map d_si ((m1008300 a0 a1.f0 a1.f1).f4)))) = (map b_si ((m1008300 a0 a1.f0 a1.f1).f4)) := (tb_si _)
      have f49 : 0 + (length (map d_R ((m1008300 a0 a1.f0 a1.f1).f5))) ≤ (length (map d_R ((m1008300 a0 a1.f0 a1.f1).f5))) := (by omega)
      have f50 : fullR (take (length (map d_R ((m1008300 a0 a1.f0 a1.f1).f5))) (drop 0 (map d_R ((m1008300 a0 a1.f0 a1.f1).f5)))) = true := (ft_R _ _ _)
      have f51 : toBR (take (length (map d_R ((m1008300 a0 a1.f0 a1.f1).f5))) (drop 0 (map d_R ((m1008300 a0 a1.f0 a1.f1).f5)))) = (map b_R ((m1008300 a0 a1.f0 a1.f1).f5)) := (tb_R _)
      have f52 : 0 + (length (map d_si ((m1008300 a0 a1.f0 a1.f1).f6))) ≤ (length (map d_si ((m1008300 a0 a1.f0 a1.f1).f6))) := (by omega)
      have f53 : fullR (take (length (map d_si ((m1008300 a0 a1.f0 a1.f1).f6))) (drop 0 (map d_si ((m1008300 a0 a1.f0 a1.f1).f6)))) = true := (ft_si _ _ _)
      have f54 : toBR (take (length (map d_si ((m1008300 a0 a1.f0 a1.f1).f6))) (drop 0 (map d_si ((m1008300 a0 a1.f0 a1.f1).f6)))) = (map b_si ((m1008300 a0 a1.f0 a1.f1).f6)) := (tb_si _)
      have f55 : 0 + (length (map d_si ((m23 a0 a1).f4))) ≤ (length (map d_si ((m23 a0 a1).f4))) := (by omega)
      have f56 : fullR (take (length (map d_si ((m23 a0 a1).f4))) (drop 0 (map d_si ((m23 a0 a1).f4)))) = true := (ft_si _ _ _)
      have f57 : toBR (take (length (map d_si ((m23 a0 a1).f4))) (drop 0 (map d_si ((m23 a0 a1).f4)))) = (map b_si ((m23 a0 a1).f4)) := (tb_si _)
      have f58 : 0 + (length (map d_R ((m23 a0 a1).f5))) ≤ (length (map d_R ((m23 a0 a1).f5))) := (by omega)
      have f59 : fullR (take (length (map d_R ((m23 a0 a1).f5))) (drop 0 (map d_R ((m23 a0 a1).f5)))) = true := (ft_R _ _ _)
      have f60 : toBR (take (length (map d_R ((m23 a0 a1).f5))) (drop 0 (map d_R ((m23 a0 a1).f5)))) = (map b_R ((m23 a0 a1).f5)) := (tb_R _)
      have f61 : 0 + (length (map d_si ((m23 a0 a1).f6))) ≤ (length (map d_si ((m23 a0 a1).f6))) := (by omega)
      have f62 : fullR (take (length (map d_si ((m23 a0 a1).f6))) (drop 0 (map d_si ((m23 a0 a1).f6)))) = true := (ft_si _ _ _)
      have f63 : toBR (take (length (map d_si ((m23 a0 a1).f6))) (drop 0 (map d_si ((m23 a0 a1).f6)))) = (map b_si ((m23 a0 a1).f6)) := (tb_si _)
      have f64 : Ev F X (.call 26 [(.agg [(.i ((m1008300 a0 a1.f0 a1.f1).f0)), (.i ((m1008300 a0 a1.f0 a1.f1).f1)), (.i ((m1008300 a0 a1.f0 a1.f1).f2)), (.i ((m1008300 a0 a1.f0 a1.f1).f3)), (.bor 0 (map b_si ((m1008300 a0 a1.f0 a1.f1).f4))), (.bor 0 (map b_R ((m1008300 a0 a1.f0 a1.f1).f5))), (.bor 0 (map b_si ((m1008300 a0 a1.f0 a1.f1).f6))), (.i ((m1008300 a0 a1.f0 a1.f1).f7)), (.i ((m1008300 a0 a1.f0 a1.f1).f8)), (.i ((m1008300 a0 a1.f0 a1.f1).f9))]), (.agg [(.i ((m23 a0 a1).f0)), (.i ((m23 a0 a1).f1)), (.i ((m23 a0 a1).f2)), (.i ((m23 a0 a1).f3)), (.bor 0 (map b_si ((m23 a0 a1).f4))), (.bor 0 (map b_R ((m23 a0 a1).f5))), (.bor 0 (map b_si ((m23 a0 a1).f6))), (.i ((m23 a0 a1).f7)), (.i ((m23 a0 a1).f8)), (.i ((m23 a0 a1).f9))])] [] [] [(.one (.val (.bool (m26 (m1008300 a0 a1.f0 a1.f1) (m23 a0 a1)))))]) := (e26 (a0 := (m1008300 a0 a1.f0 a1.f1)) (a1 := (m23 a0 a1)) (by have q := okm1008300 a0 a1.f0 a1.f1; exact q.1) (by have q := okm1008300 a0 a1.f0 a1.f1; exact q.2.1) (by have q := okm1008300 a0 a1.f0 a1.f1; exact q.2.2.1) (by have q := okm1008300 a0 a1.f0 a1.f1; exact q.2.2.2) (by have q := okm23 a0 a1; exact q.1) (by have q := okm23 a0 a1; exact q.2.1) (by have q := okm23 a0 a1; exact q.2.2.1) (by have q := okm23 a0 a1; exact q.2.2.2))
      by_cases h2 : (!(m26 (m1008300 a0 a1.f0 a1.f1) (m23 a0 a1))) = true
      · try simp only [if_pos h2]
        exact callP_ok (ps := []) (os := []) (rs := [(.one (.val (.bool false)))]) (by kernel_rfl) (.r 13 [] [] f0 (.f (nt h0) (.h 20 (.b false) (.r 26 [] [] f2 (.f (nt h1) (.h 33 (.b false) (.r 37 [] [] f4 (.r 41 [] [] f5 (.f f6 (.f f7 (.f f8 (.f f9 (.f f10 (.f f11 (.f f12 (.f f13 (.f f14 (.r 43 [] [(map b_si a0.f2), (map b_R a0.f3), (map b_si a0.f4)] f15 (.f f16 (.f f17 (.f f18 (.f f19 (.f f20 (.f f21 (.r 51 [] [] f22 (.f f23 (.f f24 (.f f25 (.f f26 (.f f27 (.f f28 (.r 61 [] [] f29 (.f f30 (.f f31 (.f f32 (.f f33 (.f f34 (.f f35 (.f f36 (.f f37 (.f f38 (.r 63 [] [(map b_si a0.f2), (map b_R a0.f3), (map b_si a0.f4)] f39 (.f f40 (.f f41 (.f f42 (.f f43 (.f f44 (.f f45 (.f f46 (.f f47 (.f f48 (.f f49 (.f f50 (.f f51 (.f f52 (.f f53 (.f f54 (.f f55 (.f f56 (.f f57 (.f f58 (.f f59 (.f f60 (.f f61 (.f f62 (.f f63 (.r 73 [] [(map b_si ((m1008300 a0 a1.f0 a1.f1).f4)), (map b_R ((m1008300 a0 a1.f0 a1.f1).f5)), (map b_si ((m1008300 a0 a1.f0 a1.f1).f6)), (map b_si ((m23 a0 a1).f4)), (map b_R ((m23 a0 a1).f5)), (map b_si ((m23 a0 a1).f6))] f64 (.f h2 (.h 76 (.b true) .nil)))))))))))))))))))))))))))))))))))))))))))))))))))))))))))))))))))))
      · try simp only [if_neg h2]
        have f66 : Ev F X (.call 16 [(.agg [(.i a0.f0), (.i a0.f1), (.bor (l0_2 + 1) (map b_si a0.f2)), (.bor (l0_3 + 1) (map b_R a0.f3)), (.bor (l0_4 + 1) (map b_si a0.f4)), (.i a0.f5), (.i a0.f6), (.i a0.f7)])] [] [] [(.agg [(.i a0.f0), (.i a0.f1), (.own 2 (map d_si a0.f2)), (.own 5 (map d_R a0.f3)), (.own 2 (map d_si a0.f4)), (.i a0.f5), (.i a0.f6), (.i a0.f7)])]) := (e16 (a0 := a0) (by with_reducible assumption) (by with_reducible assumption) (by intro z hz; exact os_ok_R z ((by assumption : ∀ z ∈ a0.f3, os_R z) z hz)) (by with_reducible assumption))
        have f67 : 0 + (length (map d_si a0.f2)) ≤ (length (map d_si a0.f2)) := (by omega)
        have f68 : fullR (take (length (map d_si a0.f2)) (drop 0 (map d_si a0.f2))) = true := (ft_si _ _ _)
        have f69 : toBR (take (length (map d_si a0.f2)) (drop 0 (map d_si a0.f2))) = (map b_si a0.f2) := (tb_si _)
        have f70 : 0 + (length (map d_R a0.f3)) ≤ (length (map d_R a0.f3)) := (by omega)
        have f71 : fullR (take (length (map d_R a0.f3)) (drop 0 (map d_R a0.f3))) = true := (ft_R _ _ _)
        have f72 : toBR (take (length (map d_R a0.f3)) (drop 0 (map d_R a0.f3))) = (map b_R a0.f3) := (tb_R _)
        have f73 : 0 + (length (map d_si a0.f4)) ≤ (length (map d_si a0.f4)) := (by omega)
        have f74 : fullR (take (length (map d_si a0.f4)) (drop 0 (map d_si a0.f4))) = true := (ft_si _ _ _)
        have f75 : toBR (take (length (map d_si a0.f4)) (drop 0 (map d_si a0.f4))) = (map b_si a0.f4) := (tb_si _)
        have f76 : 0 + (length (map d_si a0.f2)) ≤ (length (map d_si a0.f2)) := (by omega)
        have f77 : fullR (take (length (map d_si a0.f2)) (drop 0 (map d_si a0.f2))) = true := (ft_si _ _ _)
        have f78 : toBR (take (length (map d_si a0.f2)) (drop 0 (map d_si a0.f2))) = (map b_si a0.f2) := (tb_si _)
        have f79 : 0 + (length (map d_R a0.f3)) ≤ (length (map d_R a0.f3)) := (by omega)
        have f80 : fullR (take (length (map d_R a0.f3)) (drop 0 (map d_R a0.f3))) = true := (ft_R _ _ _)
        have f81 : toBR (take (length (map d_R a0.f3)) (drop 0 (map d_R a0.f3))) = (map b_R a0.f3) := (tb_R _)
        have f82 : 0 + (length (map d_si a0.f4)) ≤ (length (map d_si a0.f4)) := (by omega)
        have f83 : fullR (take (length (map d_si a0.f4)) (drop 0 (map d_si a0.f4))) = true := (ft_si _ _ _)
        have f84 : toBR (take (length (map d_si a0.f4)) (drop 0 (map d_si a0.f4))) = (map b_si a0.f4) := (tb_si _)
        have f85 : Ev F X (.call 18 [(.agg [(.i a0.f0), (.i a0.f1), (.bor 0 (map b_si a0.f2)), (.bor 0 (map b_R a0.f3)), (.bor 0 (map b_si a0.f4)), (.i a0.f5), (.i a0.f6), (.i a0.f7)]), (.agg [(.i a0.f0), (.i a0.f1), (.bor 0 (map b_si a0.f2)), (.bor 0 (map b_R a0.f3)), (.bor 0 (map b_si a0.f4)), (.i a0.f5), (.i a0.f6), (.i a0.f7)])] [] [] [(.one (.val (.bool (m18 a0 a0))))]) := (e18 (a0 := a0) (a1 := a0) (by with_reducible assumption) (by with_reducible assumption) (by intro z hz; exact os_ok_R z ((by assumption : ∀ z ∈ a0.f3, os_R z) z hz)) (by with_reducible assumption) (by with_reducible assumption) (by with_reducible assumption) (by intro z hz; exact os_ok_R z ((by assumption : ∀ z ∈ a0.f3, os_R z) z hz)) (by with_reducible assumption))
        by_cases h3 : (!(m18 a0 a0)) = true
        · try simp only [if_pos h3]
          exact callP_ok (ps := []) (os := []) (rs := [(.one (.val (.bool false)))]) (by kernel_rfl) (.r 13 [] [] f0 (.f (nt h0) (.h 20 (.b false) (.r 26 [] [] f2 (.f (nt h1) (.h 33 (.b false) (.r 37 [] [] f4 (.r 41 [] [] f5 (.f f6 (.f f7 (.f f8 (.f f9 (.f f10 (.f f11 (.f f12 (.f f13 (.f f14 (.r 43 [] [(map b_si a0.f2), (map b_R a0.f3), (map b_si a0.f4)] f15 (.f f16 (.f f17 (.f f18 (.f f19 (.f f20 (.f f21 (.r 51 [] [] f22 (.f f23 (.f f24 (.f f25 (.f f26 (.f f27 (.f f28 (.r 61 [] [] f29 (.f f30 (.f f31 (.f f32 (.f f33 (.f f34 (.f f35 (.f f36 (.f f37 (.f f38 (.r 63 [] [(map b_si a0.f2), (map b_R a0.f3), (map b_si a0.f4)] f39 (.f f40 (.f f41 (.f f42 (.f f43 (.f f44 (.f f45 (.f f46 (.f f47 (.f f48 (.f f49 (.f f50 (.f f51 (.f f52 (.f f53 (.f f54 (.f f55 (.f f56 (.f f57 (.f f58 (.f f59 (.f f60 (.f f61 (.f f62 (.f f63 (.r 73 [] [(map b_si ((m1008300 a0 a1.f0 a1.f1).f4)), (map b_R ((m1008300 a0 a1.f0 a1.f1).f5)), (map b_si ((m1008300 a0 a1.f0 a1.f1).f6)), (map b_si ((m23 a0 a1).f4)), (map b_R ((m23 a0 a1).f5)), (map b_si ((m23 a0 a1).f6))] f64 (.f (nt h2) (.h 76 (.b false) (.r 82 [] [] f66 (.f f67 (.f f68 (.f f69 (.f f70 (.f f71 (.f f72 (.f f73 (.f f74 (.f f75 (.f f76 (.f f77 (.f f78 (.f f79 (.f f80 (.f f81 (.f f82 (.f f83 (.f f84 (.r 84 [] [(map b_si a0.f2), (map b_R a0.f3), (map b_si a0.f4), (map b_si a0.f2), (map b_R a0.f3), (map b_si a0.f4)] f85 (.f h3 (.h 87 (.b true) .nil)))))))))))))))))))))))))))))))))))))))))))))))))))))))))))))))))))))))))))))))))))))))))))
        · try simp only [if_neg h3]
          have f87 : pureR (map d_si a0.f2) = true := (pureR_si _)
          have f88 : pureR (map d_R a0.f3) = true := (pureR_R _)
          have f89 : pureR (map d_si a0.f4) = true := (pureR_si _)
          have f90 : Ev F X (.call 27 [(.agg [(.i a0.f0), (.i a0.f1), (.ref ⟨(0, 0, 0), [], 0, (length (map d_si a0.f2))⟩), (.ref ⟨(0, 1, 0), [], 0, (length (map d_R a0.f3))⟩), (.ref ⟨(0, 2, 0), [], 0, (length (map d_si a0.f4))⟩), (.i a0.f5), (.i a0.f6), (.i a0.f7)]), (.oi 1)] [((0, 2, 0), ⟨2, (map d_si a0.f4), []⟩), ((0, 1, 0), ⟨5, (map d_R a0.f3), []⟩), ((0, 0, 0), ⟨2, (map d_si a0.f2), []⟩)] [(map d_si (o27_0 a0 1)), (map d_R (o27_1 a0 1)), (map d_si (o27_2 a0 1))] [(.oi (m27 a0 1))]) := (e27 (a0 := a0) (a1 := 1) (by with_reducible assumption) (by with_reducible assumption) (by intro z hz; exact os_ok_R z ((by assumption : ∀ z ∈ a0.f3, os_R z) z hz)) (by with_reducible assumption))
          by_cases h4 : (decide ((m27 a0 1) < 0)) = true
          · try simp only [if_pos h4]
            exact callP_ok (ps := []) (os := []) (rs := [(.one (.val (.bool false)))]) (by kernel_rfl) (.r 13 [] [] f0 (.f (nt h0) (.h 20 (.b false) (.r 26 [] [] f2 (.f (nt h1) (.h 33 (.b false) (.r 37 [] [] f4 (.r 41 [] [] f5 (.f f6 (.f f7 (.f f8 (.f f9 (.f f10 (.f f11 (.f f12 (.f f13 (.f f14 (.r 43 [] [(map b_si a0.f2), (map b_R a0.f3), (map b_si a0.f4)] f15 (.f f16 (.f f17 (.f f18 (.f f19 (.f f20 (.f f21 (.r 51 [] [] f22 (.f f23 (.f f24 (.f f25 (.f f26 (.f f27 (.f f28 (.r 61 [] [] f29 (.f f30 (.f f31 (.f f32 (.f f33 (.f f34 (.f f35 (.f f36 (.f f37 (.f f38 (.r 63 [] [(map b_si a0.f2), (map b_R a0.f3), (map b_si a0.f4)] f39 (.f f40 (.f f41 (.f f42 (.f f43 (.f f44 (.f f45 (.f f46 (.f f47 (.f f48 (.f f49 (.f f50 (.f f51 (.f f52 (.f f53 (.f f54 (.f f55 (.f f56 (.f f57 (.f f58 (.f f59 (.f f60 (.f f61 (.f f62 (.f f63 (.r 73 [] [(map b_si ((m1008300 a0 a1.f0 a1.f1).f4)), (map b_R ((m1008300 a0 a1.f0 a1.f1).f5)), (map b_si ((m1008300 a0 a1.f0 a1.f1).f6)), (map b_si ((m23 a0 a1).f4)), (map b_R ((m23 a0 a1).f5)), (map b_si ((m23 a0 a1).f6))] f64 (.f (nt h2) (.h 76 (.b false) (.r 82 [] [] f66 (.f f67 (.f f68 (.f f69 (.f f70 (.f f71 (.f f72 (.f f73 (.f f74 (.f f75 (.f f76 (.f f77 (.f f78 (.f f79 (.f f80 (.f f81 (.f f82 (.f f83 (.f f84 (.r 84 [] [(map b_si a0.f2), (map b_R a0.f3), (map b_si a0.f4), (map b_si a0.f2), (map b_R a0.f3), (map b_si a0.f4)] f85 (.f (nt h3) (.f f87 (.f f88 (.f f89 (.h 87 (.b false) (.r 95 [true, true, true] [] f90 (.f h4 (.f h4 (.f h4 (.f h4 (.f h4 (.h 104 (.b true) (.h 106 (.b true) (.h 108 (.b true) (.h 110 (.b true) (.h 113 (.b true) .nil)))))))))))))))))))))))))))))))))))))))))))))))))))))))))))))))))))))))))))))))))))))))))))))))))))))))))
          · try simp only [if_neg h4]
            have f94 : 0 + (length (map d_si ((m1008300 a0 a1.f0 a1.f1).f4))) ≤ (length (map d_si ((m1008300 a0 a1.f0 a1.f1).f4))) := (by omega)
            have f95 : fullR (take (length (map d_si ((m1008300 a0 a1.f0 a1.f1).f4))) (drop 0 (map d_si ((m1008300 a0 a1.f0 a1.f1).f4)))) = true := (ft_si _ _ _)
            have f96 : toBR (take (length (map d_si ((m1008300 a0 a1.f0 a1.f1).f4))) (drop 0 (map d_si ((m1008300 a0 a1.f0 a1.f1).f4)))) = (map b_si ((m1008300 a0 a1.f0 a1.f1).f4)) := (tb_si _)
            have f97 : 0 + (length (map d_R ((m1008300 a0 a1.f0 a1.f1).f5))) ≤ (length (map d_R ((m1008300 a0 a1.f0 a1.f1).f5))) := (by omega)
            have f98 : fullR (take (length (map d_R ((m1008300 a0 a1.f0 a1.f1).f5))) (drop 0 (map d_R ((m1008300 a0 a1.f0 a1.f1).f5)))) = true := (ft_R _ _ _)
            have f99 : toBR (take (length (map d_R ((m1008300 a0 a1.f0 a1.f1).f5))) (drop 0 (map d_R ((m1008300 a0 a1.f0 a1.f1).f5)))) = (map b_R ((m1008300 a0 a1.f0 a1.f1).f5)) := (tb_R _)
            have f100 : 0 + (length (map d_si ((m1008300 a0 a1.f0 a1.f1).f6))) ≤ (length (map d_si ((m1008300 a0 a1.f0 a1.f1).f6))) := (by omega)
            have f101 : fullR (take (length (map d_si ((m1008300 a0 a1.f0 a1.f1).f6))) (drop 0 (map d_si ((m1008300 a0 a1.f0 a1.f1).f6)))) = true := (ft_si _ _ _)
            have f102 : toBR (take (length (map d_si ((m1008300 a0 a1.f0 a1.f1).f6))) (drop 0 (map d_si ((m1008300 a0 a1.f0 a1.f1).f6)))) = (map b_si ((m1008300 a0 a1.f0 a1.f1).f6)) := (tb_si _)
            have f103 : 0 + (length (map d_si ((m23 a0 a1).f4))) ≤ (length (map d_si ((m23 a0 a1).f4))) := (by omega)
            have f104 : fullR (take (length (map d_si ((m23 a0 a1).f4))) (drop 0 (map d_si ((m23 a0 a1).f4)))) = true := (ft_si _ _ _)
            have f105 : toBR (take (length (map d_si ((m23 a0 a1).f4))) (drop 0 (map d_si ((m23 a0 a1).f4)))) = (map b_si ((m23 a0 a1).f4)) := (tb_si _)
            have f106 : 0 + (length (map d_R ((m23 a0 a1).f5))) ≤ (length (map d_R ((m23 a0 a1).f5))) := (by omega)
            have f107 : fullR (take (length (map d_R ((m23 a0 a1).f5))) (drop 0 (map d_R ((m23 a0 a1).f5)))) = true := (ft_R _ _ _)
            have f108 : toBR (take (length (map d_R ((m23 a0 a1).f5))) (drop 0 (map d_R ((m23 a0 a1).f5)))) = (map b_R ((m23 a0 a1).f5)) := (tb_R _)
            have f109 : 0 + (length (map d_si ((m23 a0 a1).f6))) ≤ (length (map d_si ((m23 a0 a1).f6))) := (by omega)
            have f110 : fullR (take (length (map d_si ((m23 a0 a1).f6))) (drop 0 (map d_si ((m23 a0 a1).f6)))) = true := (ft_si _ _ _)
            have f111 : toBR (take (length (map d_si ((m23 a0 a1).f6))) (drop 0 (map d_si ((m23 a0 a1).f6)))) = (map b_si ((m23 a0 a1).f6)) := (tb_si _)
            have f112 : Ev F X (.call 26 [(.agg [(.i ((m1008300 a0 a1.f0 a1.f1).f0)), (.i ((m1008300 a0 a1.f0 a1.f1).f1)), (.i ((m1008300 a0 a1.f0 a1.f1).f2)), (.i ((m1008300 a0 a1.f0 a1.f1).f3)), (.bor 0 (map b_si ((m1008300 a0 a1.f0 a1.f1).f4))), (.bor 0 (map b_R ((m1008300 a0 a1.f0 a1.f1).f5))), (.bor 0 (map b_si ((m1008300 a0 a1.f0 a1.f1).f6))), (.i ((m1008300 a0 a1.f0 a1.f1).f7)), (.i ((m1008300 a0 a1.f0 a1.f1).f8)), (.i ((m1008300 a0 a1.f0 a1.f1).f9))]), (.agg [(.i ((m23 a0 a1).f0)), (.i ((m23 a0 a1).f1)), (.i ((m23 a0 a1).f2)), (.i ((m23 a0 a1).f3)), (.bor 0 (map b_si ((m23 a0 a1).f4))), (.bor 0 (map b_R ((m23 a0 a1).f5))), (.bor 0 (map b_si ((m23 a0 a1).f6))), (.i ((m23 a0 a1).f7)), (.i ((m23 a0 a1).f8)), (.i ((m23 a0 a1).f9))])] [] [] [(.one (.val (.bool (m26 (m1008300 a0 a1.f0 a1.f1) (m23 a0 a1)))))]) := (e26 (a0 := (m1008300 a0 a1.f0 a1.f1)) (a1 := (m23 a0 a1)) (by have q := okm1008300 a0 a1.f0 a1.f1; exact q.1) (by have q := okm1008300 a0 a1.f0 a1.f1; exact q.2.1) (by have q := okm1008300 a0 a1.f0 a1.f1; exact q.2.2.1) (by have q := okm1008300 a0 a1.f0 a1.f1; exact q.2.2.2) (by have q := okm23 a0 a1; exact q.1) (by have q := okm23 a0 a1; exact q.2.1) (by have q := okm23 a0 a1; exact q.2.2.1) (by have q := okm23 a0 a1; exact q.2.2.2))
            have f116 : pureR (map d_si ((m1008300 a0 a1.f0 a1.f1).f4)) = true := (by simp [ol85, ol86, ol27_0, ol27_1, ol27_2, ol28_0, ol28_1, ol28_2]; done)
            have f117 : pureR (map d_R ((m1008300 a0 a1.f0 a1.f1).f5)) = true := (by simp [ol85, ol86, ol27_0, ol27_1, ol27_2, ol28_0, ol28_1, ol28_2]; done)
            have f118 : pureR (map d_si ((m1008300 a0 a1.f0 a1.f1).f6)) = true := (by simp [ol85, ol86, ol27_0, ol27_1, ol27_2, ol28_0, ol28_1, ol28_2]; done)
            have f119 : Ev F X (.call 28 [(.agg [(.i ((m1008300 a0 a1.f0 a1.f1).f0)), (.i ((m1008300 a0 a1.f0 a1.f1).f1)), (.i ((m1008300 a0 a1.f0 a1.f1).f2)), (.i ((m1008300 a0 a1.f0 a1.f1).f3)), (.ref ⟨(0, 0, 0), [], 0, (length (map d_si ((m1008300 a0 a1.f0 a1.f1).f4)))⟩), (.ref ⟨(0, 1, 0), [], 0, (length (map d_R ((m1008300 a0 a1.f0 a1.f1).f5)))⟩), (.ref ⟨(0, 2, 0), [], 0, (length (map d_si ((m1008300 a0 a1.f0 a1.f1).f6)))⟩), (.i ((m1008300 a0 a1.f0 a1.f1).f7)), (.i ((m1008300 a0 a1.f0 a1.f1).f8)), (.i ((m1008300 a0 a1.f0 a1.f1).f9))]), (.oi 1)] [((0, 2, 0), ⟨2, (map d_si ((m1008300 a0 a1.f0 a1.f1).f6)), []⟩), ((0, 1, 0), ⟨5, (map d_R ((m1008300 a0 a1.f0 a1.f1).f5)), []⟩), ((0, 0, 0), ⟨2, (map d_si ((m1008300 a0 a1.f0 a1.f1).f4)), []⟩)] [(map d_si (o28_0 (m1008300 a0 a1.f0 a1.f1) 1)), (map d_R (o28_1 (m1008300 a0 a1.f0 a1.f1) 1)), (map d_si (o28_2 (m1008300 a0 a1.f0 a1.f1) 1))] [(.oi (m28 (m1008300 a0 a1.f0 a1.f1) 1))]) := (e28 (a0 := (m1008300 a0 a1.f0 a1.f1)) (a1 := 1) (by have q := okm1008300 a0 a1.f0 a1.f1; exact q.1) (by have q := okm1008300 a0 a1.f0 a1.f1; exact q.2.1) (by have q := okm1008300 a0 a1.f0 a1.f1; exact q.2.2.1) (by have q := okm1008300 a0 a1.f0 a1.f1; exact q.2.2.2))
            have f120 : 0 + (length (map d_si (o28_2 (m1008300 a0 a1.f0 a1.f1) 1))) ≤ (length (map d_si (o28_2 (m1008300 a0 a1.f0 a1.f1) 1))) := (by omega)
            have f121 : fullR (take (length (map d_si (o28_2 (m1008300 a0 a1.f0 a1.f1) 1))) (drop 0 (map d_si (o28_2 (m1008300 a0 a1.f0 a1.f1) 1)))) = true := (ft_si _ _ _)
            have f122 : toBR (take (length (map d_si (o28_2 (m1008300 a0 a1.f0 a1.f1) 1))) (drop 0 (map d_si (o28_2 (m1008300 a0 a1.f0 a1.f1) 1)))) = (map b_si (o28_2 (m1008300 a0 a1.f0 a1.f1) 1)) := (tb_si _)
            have f123 : 0 + (length (map d_R (o28_1 (m1008300 a0 a1.f0 a1.f1) 1))) ≤ (length (map d_R (o28_1 (m1008300 a0 a1.f0 a1.f1) 1))) := (by omega)
            have f124 : fullR (take (length (map d_R (o28_1 (m1008300 a0 a1.f0 a1.f1) 1))) (drop 0 (map d_R (o28_1 (m1008300 a0 a1.f0 a1.f1) 1)))) = true := (ft_R _ _ _)
            have f125 : toBR (take (length (map d_R (o28_1 (m1008300 a0 a1.f0 a1.f1) 1))) (drop 0 (map d_R (o28_1 (m1008300 a0 a1.f0 a1.f1) 1)))) = (map b_R (o28_1 (m1008300 a0 a1.f0 a1.f1) 1)) := (tb_R _)
            have f126 : 0 + (length (map d_si (o28_0 (m1008300 a0 a1.f0 a1.f1) 1))) ≤ (length (map d_si (o28_0 (m1008300 a0 a1.f0 a1.f1) 1))) := (by omega)
            have f127 : fullR (take (length (map d_si (o28_0 (m1008300 a0 a1.f0 a1.f1) 1))) (drop 0 (map d_si (o28_0 (m1008300 a0 a1.f0 a1.f1) 1)))) = true := (ft_si _ _ _)
            have f128 : toBR (take (length (map d_si (o28_0 (m1008300 a0 a1.f0 a1.f1) 1))) (drop 0 (map d_si (o28_0 (m1008300 a0 a1.f0 a1.f1) 1)))) = (map b_si (o28_0 (m1008300 a0 a1.f0 a1.f1) 1)) := (tb_si _)
            have f129 : Ev F X (.call 29 [(.agg [(.i ((m1008300 a0 a1.f0 a1.f1).f0)), (.i ((m1008300 a0 a1.f0 a1.f1).f1)), (.i ((m1008300 a0 a1.f0 a1.f1).f2)), (.i ((m1008300 a0 a1.f0 a1.f1).f3)), (.bor 0 (map b_si (o28_2 (m1008300 a0 a1.f0 a1.f1) 1))), (.bor 0 (map b_R (o28_1 (m1008300 a0 a1.f0 a1.f1) 1))), (.bor 0 (map b_si (o28_0 (m1008300 a0 a1.f0 a1.f1) 1))), (.i ((m1008300 a0 a1.f0 a1.f1).f7)), (.i ((m1008300 a0 a1.f0 a1.f1).f8)), (.i ((m1008300 a0 a1.f0 a1.f1).f9))]), (.oi 1)] [] [] [(.oi (m29 (K_C.mk ((m1008300 a0 a1.f0 a1.f1).f0) ((m1008300 a0 a1.f0 a1.f1).f1) ((m1008300 a0 a1.f0 a1.f1).f2) ((m1008300 a0 a1.f0 a1.f1).f3) (o28_2 (m1008300 a0 a1.f0 a1.f1) 1) (o28_1 (m1008300 a0 a1.f0 a1.f1) 1) (o28_0 (m1008300 a0 a1.f0 a1.f1) 1) ((m1008300 a0 a1.f0 a1.f1).f7) ((m1008300 a0 a1.f0 a1.f1).f8) ((m1008300 a0 a1.f0 a1.f1).f9)) 1))]) := (e29 (a0 := (K_C.mk ((m1008300 a0 a1.f0 a1.f1).f0) ((m1008300 a0 a1.f0 a1.f1).f1) ((m1008300 a0 a1.f0 a1.f1).f2) ((m1008300 a0 a1.f0 a1.f1).f3) (o28_2 (m1008300 a0 a1.f0 a1.f1) 1) (o28_1 (m1008300 a0 a1.f0 a1.f1) 1) (o28_0 (m1008300 a0 a1.f0 a1.f1) 1) ((m1008300 a0 a1.f0 a1.f1).f7) ((m1008300 a0 a1.f0 a1.f1).f8) ((m1008300 a0 a1.f0 a1.f1).f9))) (a1 := 1) (by have q := okm1008300 a0 a1.f0 a1.f1; rw [ol28_2]; exact q.1) (by have q := okm1008300 a0 a1.f0 a1.f1; rw [ol28_1]; exact q.2.1) (by have q := okm1008300 a0 a1.f0 a1.f1; exact oo86 _ _ q.2.2.1) (by have q := okm1008300 a0 a1.f0 a1.f1; rw [ol28_0]; exact q.2.2.2))
            by_cases h5 : (decide ((m29 (K_C.mk ((m1008300 a0 a1.f0 a1.f1).f0) ((m1008300 a0 a1.f0 a1.f1).f1) ((m1008300 a0 a1.f0 a1.f1).f2) ((m1008300 a0 a1.f0 a1.f1).f3) (o28_2 (m1008300 a0 a1.f0 a1.f1) 1) (o28_1 (m1008300 a0 a1.f0 a1.f1) 1) (o28_0 (m1008300 a0 a1.f0 a1.f1) 1) ((m1008300 a0 a1.f0 a1.f1).f7) ((m1008300 a0 a1.f0 a1.f1).f8) ((m1008300 a0 a1.f0 a1.f1).f9)) 1) < 0)) = true
            · try simp only [if_pos h5]
              exact callP_ok (ps := []) (os := []) (rs := [(.one (.val (.bool false)))]) (by kernel_rfl) (.r 13 [] [] f0 (.f (nt h0) (.h 20 (.b false) (.r 26 [] [] f2 (.f (nt h1) (.h 33 (.b false) (.r 37 [] [] f4 (.r 41 [] [] f5 (.f f6 (.f f7 (.f f8 (.f f9 (.f f10 (.f f11 (.f f12 (.f f13 (.f f14 (.r 43 [] [(map b_si a0.f2), (map b_R a0.f3), (map b_si a0.f4)] f15 (.f f16 (.f f17 (.f f18 (.f f19 (.f f20 (.f f21 (.r 51 [] [] f22 (.f f23 (.f f24 (.f f25 (.f f26 (.f f27 (.f f28 (.r 61 [] [] f29 (.f f30 (.f f31 (.f f32 (.f f33 (.f f34 (.f f35 (.f f36 (.f f37 (.f f38 (.r 63 [] [(map b_si a0.f2), (map b_R a0.f3), (map b_si a0.f4)] f39 (.f f40 (.f f41 (.f f42 (.f f43 (.f f44 (.f f45 (.f f46 (.f f47 (.f f48 (.f f49 (.f f50 (.f f51 (.f f52 (.f f53 (.f f54 (.f f55 (.f f56 (.f f57 (.f f58 (.f f59 (.f f60 (.f f61 (.f f62 (.f f63 (.r 73 [] [(map b_si ((m1008300 a0 a1.f0 a1.f1).f4)), (map b_R ((m1008300 a0 a1.f0 a1.f1).f5)), (map b_si ((m1008300 a0 a1.f0 a1.f1).f6)), (map b_si ((m23 a0 a1).f4)), (map b_R ((m23 a0 a1).f5)), (map b_si ((m23 a0 a1).f6))] f64 (.f (nt h2) (.h 76 (.b false) (.r 82 [] [] f66 (.f f67 (.f f68 (.f f69 (.f f70 (.f f71 (.f f72 (.f f73 (.f f74 (.f f75 (.f f76 (.f f77 (.f f78 (.f f79 (.f f80 (.f f81 (.f f82 (.f f83 (.f f84 (.r 84 [] [(map b_si a0.f2), (map b_R a0.f3), (map b_si a0.f4), (map b_si a0.f2), (map b_R a0.f3), (map b_si a0.f4)] f85 (.f (nt h3) (.f f87 (.f f88 (.f f89 (.h 87 (.b false) (.r 95 [true, true, true] [] f90 (.f (nt h4) (.f (nt h4) (.f (nt h4) (.f f94 (.f f95 (.f f96 (.f f97 (.f f98 (.f f99 (.f f100 (.f f101 (.f f102 (.f f103 (.f f104 (.f f105 (.f f106 (.f f107 (.f f108 (.f f109 (.f f110 (.f f111 (.h 104 (.b false) (.h 106 (.b false) (.h 108 (.b false) (.r 109 [] [(map b_si ((m1008300 a0 a1.f0 a1.f1).f4)), (map b_R ((m1008300 a0 a1.f0 a1.f1).f5)), (map b_si ((m1008300 a0 a1.f0 a1.f1).f6)), (map b_si ((m23 a0 a1).f4)), (map b_R ((m23 a0 a1).f5)), (map b_si ((m23 a0 a1).f6))] f112 (.f (nt h4) (.f (nt h4) (.f (nt h2) (.f f116 (.f f117 (.f f118 (.h 110 (.b false) (.h 113 (.b false) (.h 114 (.b false) (.r 122 [true, true, true] [] f119 (.f f120 (.f f121 (.f f122 (.f f123 (.f f124 (.f f125 (.f f126 (.f f127 (.f f128 (.r 132 [] [(map b_si (o28_2 (m1008300 a0 a1.f0 a1.f1) 1)), (map b_R (o28_1 (m1008300 a0 a1.f0 a1.f1) 1)), (map b_si (o28_0 (m1008300 a0 a1.f0 a1.f1) 1))] f129 (.f h5 (.h 139 (.b true) .nil))))))))))))))))))))))))))))))))))))))))))))))))))))))))))))))))))))))))))))))))))))))))))))))))))))))))))))))))))))))))))))))))))))))))))))))
            · try simp only [if_neg h5]
              by_cases h6 : ((m29 (K_C.mk ((m1008300 a0 a1.f0 a1.f1).f0) ((m1008300 a0 a1.f0 a1.f1).f1) ((m1008300 a0 a1.f0 a1.f1).f2) ((m1008300 a0 a1.f0 a1.f1).f3) (o28_2 (m1008300 a0 a1.f0 a1.f1) 1) (o28_1 (m1008300 a0 a1.f0 a1.f1) 1) (o28_0 (m1008300 a0 a1.f0 a1.f1) 1) ((m1008300 a0 a1.f0 a1.f1).f7) ((m1008300 a0 a1.f0 a1.f1).f8) ((m1008300 a0 a1.f0 a1.f1).f9)) 1) != (m28 (m1008300 a0 a1.f0 a1.f1) 1)) = true
              · try simp only [if_pos h6]
                exact callP_ok (ps := []) (os := []) (rs := [(.one (.val (.bool false)))]) (by kernel_rfl) (.r 13 [] [] f0 (.f (nt h0) (.h 20 (.b false) (.r 26 [] [] f2 (.f (nt h1) (.h 33 (.b false) (.r 37 [] [] f4 (.r 41 [] [] f5 (.f f6 (.f f7 (.f f8 (.f f9 (.f f10 (.f f11 (.f f12 (.f f13 (.f f14 (.r 43 [] [(map b_si a0.f2), (map b_R a0.f3), (map b_si a0.f4)] f15 (.f f16 (.f f17 (.f f18 (.f f19 (.f f20 (.f f21 (.r 51 [] [] f22 (.f f23 (.f f24 (.f f25 (.f f26 (.f f27 (.f f28 (.r 61 [] [] f29 (.f f30 (.f f31 (.f f32 (.f f33 (.f f34 (.f f35 (.f f36 (.f f37 (.f f38 (.r 63 [] [(map b_si a0.f2), (map b_R a0.f3), (map b_si a0.f4)] f39 (.f f40 (.f f41 (.f f42 (.f f43 (.f f44 (.f f45 (.f f46 (.f f47 (.f f48 (.f f49 (.f f50 (.f f51 (.f f52 (.f f53 (.f f54 (.f f55 (.f f56 (.f f57 (.f f58 (.f f59 (.f f60 (.f f61 (.f f62 (.f f63 (.r 73 [] [(map b_si ((m1008300 a0 a1.f0 a1.f1).f4)), (map b_R ((m1008300 a0 a1.f0 a1.f1).f5)), (map b_si ((m1008300 a0 a1.f0 a1.f1).f6)), (map b_si ((m23 a0 a1).f4)), (map b_R ((m23 a0 a1).f5)), (map b_si ((m23 a0 a1).f6))] f64 (.f (nt h2) (.h 76 (.b false) (.r 82 [] [] f66 (.f f67 (.f f68 (.f f69 (.f f70 (.f f71 (.f f72 (.f f73 (.f f74 (.f f75 (.f f76 (.f f77 (.f f78 (.f f79 (.f f80 (.f f81 (.f f82 (.f f83 (.f f84 (.r 84 [] [(map b_si a0.f2), (map b_R a0.f3), (map b_si a0.f4), (map b_si a0.f2), (map b_R a0.f3), (map b_si a0.f4)] f85 (.f (nt h3) (.f f87 (.f f88 (.f f89 (.h 87 (.b false) (.r 95 [true, true, true] [] f90 (.f (nt h4) (.f (nt h4) (.f (nt h4) (.f f94 (.f f95 (.f f96 (.f f97 (.f f98 (.f f99 (.f f100 (.f f101 (.f f102 (.f f103 (.f f104 (.f f105 (.f f106 (.f f107 (.f f108 (.f f109 (.f f110 (.f f111 (.h 104 (.b false) (.h 106 (.b false) (.h 108 (.b false) (.r 109 [] [(map b_si ((m1008300 a0 a1.f0 a1.f1).f4)), (map b_R ((m1008300 a0 a1.f0 a1.f1).f5)), (map b_si ((m1008300 a0 a1.f0 a1.f1).f6)), (map b_si ((m23 a0 a1).f4)), (map b_R ((m23 a0 a1).f5)), (map b_si ((m23 a0 a1).f6))] f112 (.f (nt h4) (.f (nt h4) (.f (nt h2) (.f f116 (.f f117 (.f f118 (.h 110 (.b false) (.h 113 (.b false) (.h 114 (.b false) (.r 122 [true, true, true] [] f119 (.f f120 (.f f121 (.f f122 (.f f123 (.f f124 (.f f125 (.f f126 (.f f127 (.f f128 (.r 132 [] [(map b_si (o28_2 (m1008300 a0 a1.f0 a1.f1) 1)), (map b_R (o28_1 (m1008300 a0 a1.f0 a1.f1) 1)), (map b_si (o28_0 (m1008300 a0 a1.f0 a1.f1) 1))] f129 (.f (nt h5) (.f h6 (.h 139 (.b false) (.h 146 (.b true) .nil))))))))))))))))))))))))))))))))))))))))))))))))))))))))))))))))))))))))))))))))))))))))))))))))))))))))))))))))))))))))))))))))))))))))))))))))
              · try simp only [if_neg h6]
                have f132 : Ev F X (.call 16 [(.agg [(.i a0.f0), (.i a0.f1), (.bor (l0_2 + 1) (map b_si a0.f2)), (.bor (l0_3 + 1) (map b_R a0.f3)), (.bor (l0_4 + 1) (map b_si a0.f4)), (.i a0.f5), (.i a0.f6), (.i a0.f7)])] [] [] [(.agg [(.i a0.f0), (.i a0.f1), (.own 2 (map d_si a0.f2)), (.own 5 (map d_R a0.f3)), (.own 2 (map d_si a0.f4)), (.i a0.f5), (.i a0.f6), (.i a0.f7)])]) := (e16 (a0 := a0) (by with_reducible assumption) (by with_reducible assumption) (by intro z hz; exact os_ok_R z ((by assumption : ∀ z ∈ a0.f3, os_R z) z hz)) (by with_reducible assumption))
                have f133 : Ev F X (.call 24 [(.agg [(.val (.string a1.f0)), (.i a1.f1)])] [] [] [(.agg [(.val (.string a1.f0)), (.i a1.f1)])]) := (e24 (a0 := a1))
                have f134 : 0 + (length (map d_si a0.f2)) ≤ (length (map d_si a0.f2)) := (by omega)
                have f135 : fullR (take (length (map d_si a0.f2)) (drop 0 (map d_si a0.f2))) = true := (ft_si _ _ _)
                have f136 : toBR (take (length (map d_si a0.f2)) (drop 0 (map d_si a0.f2))) = (map b_si a0.f2) := (tb_si _)
                have f137 : 0 + (length (map d_R a0.f3)) ≤ (length (map d_R a0.f3)) := (by omega)
                have f138 : fullR (take (length (map d_R a0.f3)) (drop 0 (map d_R a0.f3))) = true := (ft_R _ _ _)
                have f139 : toBR (take (length (map d_R a0.f3)) (drop 0 (map d_R a0.f3))) = (map b_R a0.f3) := (tb_R _)
                have f140 : 0 + (length (map d_si a0.f4)) ≤ (length (map d_si a0.f4)) := (by omega)
                have f141 : fullR (take (length (map d_si a0.f4)) (drop 0 (map d_si a0.f4))) = true := (ft_si _ _ _)
                have f142 : toBR (take (length (map d_si a0.f4)) (drop 0 (map d_si a0.f4))) = (map b_si a0.f4) := (tb_si _)
                have f143 : Ev F X (.call 25 [(.agg [(.i a0.f0), (.i a0.f1), (.bor 0 (map b_si a0.f2)), (.bor 0 (map b_R a0.f3)), (.bor 0 (map b_si a0.f4)), (.i a0.f5), (.i a0.f6), (.i a0.f7)]), (.agg [(.val (.string a1.f0)), (.i a1.f1)])] [] [] [(.agg [(.i ((m1008300 a0 a1.f0 a1.f1).f0)), (.i ((m1008300 a0 a1.f0 a1.f1).f1)), (.i ((m1008300 a0 a1.f0 a1.f1).f2)), (.i ((m1008300 a0 a1.f0 a1.f1).f3)), (.own 2 (map d_si ((m1008300 a0 a1.f0 a1.f1).f4))), (.own 5 (map d_R ((m1008300 a0 a1.f0 a1.f1).f5))), (.own 2 (map d_si ((m1008300 a0 a1.f0 a1.f1).f6))), (.i ((m1008300 a0 a1.f0 a1.f1).f7)), (.i ((m1008300 a0 a1.f0 a1.f1).f8)), (.i ((m1008300 a0 a1.f0 a1.f1).f9))])]) := (e25 (a0 := a0) (a1 := a1) (by with_reducible assumption) (by with_reducible assumption) (by intro z hz; exact os_ok_R z ((by assumption : ∀ z ∈ a0.f3, os_R z) z hz)) (by with_reducible assumption))
                have f144 : 0 = 0 := rfl
                have f145 : (length (map d_si ((m1008300 a0 a1.f0 a1.f1).f4))) = (length (map d_si ((m1008300 a0 a1.f0 a1.f1).f4))) := rfl
                have f146 : 0 = 0 := rfl
                have f147 : (length (map d_R ((m1008300 a0 a1.f0 a1.f1).f5))) = (length (map d_R ((m1008300 a0 a1.f0 a1.f1).f5))) := rfl
                have f148 : 0 = 0 := rfl
                have f149 : (length (map d_si ((m1008300 a0 a1.f0 a1.f1).f6))) = (length (map d_si ((m1008300 a0 a1.f0 a1.f1).f6))) := rfl
                have f150 : 0 + (length (map d_si ((m1008300 a0 a1.f0 a1.f1).f4))) ≤ (length (map d_si ((m1008300 a0 a1.f0 a1.f1).f4))) := (by omega)
                have f151 : fullR (take (length (map d_si ((m1008300 a0 a1.f0 a1.f1).f4))) (drop 0 (map d_si ((m1008300 a0 a1.f0 a1.f1).f4)))) = true := (ft_si _ _ _)
                have f152 : toBR (take (length (map d_si ((m1008300 a0 a1.f0 a1.f1).f4))) (drop 0 (map d_si ((m1008300 a0 a1.f0 a1.f1).f4)))) = (map b_si ((m1008300 a0 a1.f0 a1.f1).f4)) := (tb_si _)
                have f153 : 0 + (length (map d_R ((m1008300 a0 a1.f0 a1.f1).f5))) ≤ (length (map d_R ((m1008300 a0 a1.f0 a1.f1).f5))) := (by omega)
                have f154 : fullR (take (length (map d_R ((m1008300 a0 a1.f0 a1.f1).f5))) (drop 0 (map d_R ((m1008300 a0 a1.f0 a1.f1).f5)))) = true := (ft_R _ _ _)
                have f155 : toBR (take (length (map d_R ((m1008300 a0 a1.f0 a1.f1).f5))) (drop 0 (map d_R ((m1008300 a0 a1.f0 a1.f1).f5)))) = (map b_R ((m1008300 a0 a1.f0 a1.f1).f5)) := (tb_R _)
                have f156 : 0 + (length (map d_si ((m1008300 a0 a1.f0 a1.f1).f6))) ≤ (length (map d_si ((m1008300 a0 a1.f0 a1.f1).f6))) := (by omega)
                have f157 : fullR (take (length (map d_si ((m1008300 a0 a1.f0 a1.f1).f6))) (drop 0 (map d_si ((m1008300 a0 a1.f0 a1.f1).f6)))) = true := (ft_si _ _ _)
                have f158 : toBR (take (length (map d_si ((m1008300 a0 a1.f0 a1.f1).f6))) (drop 0 (map d_si ((m1008300 a0 a1.f0 a1.f1).f6)))) = (map b_si ((m1008300 a0 a1.f0 a1.f1).f6)) := (tb_si _)
                have f159 : 0 + (length (map d_si ((m23 a0 a1).f4))) ≤ (length (map d_si ((m23 a0 a1).f4))) := (by omega)
                have f160 : fullR (take (length (map d_si ((m23 a0 a1).f4))) (drop 0 (map d_si ((m23 a0 a1).f4)))) = true := (ft_si _ _ _)
                have f161 : toBR (take (length (map d_si ((m23 a0 a1).f4))) (drop 0 (map d_si ((m23 a0 a1).f4)))) = (map b_si ((m23 a0 a1).f4)) := (tb_si _)
                have f162 : 0 + (length (map d_R ((m23 a0 a1).f5))) ≤ (length (map d_R ((m23 a0 a1).f5))) := (by omega)
                have f163 : fullR (take (length (map d_R ((m23 a0 a1).f5))) (drop 0 (map d_R ((m23 a0 a1).f5)))) = true := (ft_R _ _ _)
                have f164 : toBR (take (length (map d_R ((m23 a0 a1).f5))) (drop 0 (map d_R ((m23 a0 a1).f5)))) = (map b_R ((m23 a0 a1).f5)) := (tb_R _)
                have f165 : 0 + (length (map d_si ((m23 a0 a1).f6))) ≤ (length (map d_si ((m23 a0 a1).f6))) := (by omega)
                have f166 : fullR (take (length (map d_si ((m23 a0 a1).f6))) (drop 0 (map d_si ((m23 a0 a1).f6)))) = true := (ft_si _ _ _)
                have f167 : toBR (take (length (map d_si ((m23 a0 a1).f6))) (drop 0 (map d_si ((m23 a0 a1).f6)))) = (map b_si ((m23 a0 a1).f6)) := (tb_si _)
                have f168 : Ev F X (.call 26 [(.agg [(.i ((m1008300 a0 a1.f0 a1.f1).f0)), (.i ((m1008300 a0 a1.f0 a1.f1).f1)), (.i ((m1008300 a0 a1.f0 a1.f1).f2)), (.i ((m1008300 a0 a1.f0 a1.f1).f3)), (.bor 0 (map b_si ((m1008300 a0 a1.f0 a1.f1).f4))), (.bor 0 (map b_R ((m1008300 a0 a1.f0 a1.f1).f5))), (.bor 0 (map b_si ((m1008300 a0 a1.f0 a1.f1).f6))), (.i ((m1008300 a0 a1.f0 a1.f1).f7)), (.i ((m1008300 a0 a1.f0 a1.f1).f8)), (.i ((m1008300 a0 a1.f0 a1.f1).f9))]), (.agg [(.i ((m23 a0 a1).f0)), (.i ((m23 a0 a1).f1)), (.i ((m23 a0 a1).f2)), (.i ((m23 a0 a1).f3)), (.bor 0 (map b_si ((m23 a0 a1).f4))), (.bor 0 (map b_R ((m23 a0 a1).f5))), (.bor 0 (map b_si ((m23 a0 a1).f6))), (.i ((m23 a0 a1).f7)), (.i ((m23 a0 a1).f8)), (.i ((m23 a0 a1).f9))])] [] [] [(.one (.val (.bool (m26 (m1008300 a0 a1.f0 a1.f1) (m23 a0 a1)))))]) := (e26 (a0 := (m1008300 a0 a1.f0 a1.f1)) (a1 := (m23 a0 a1)) (by have q := okm1008300 a0 a1.f0 a1.f1; exact q.1) (by have q := okm1008300 a0 a1.f0 a1.f1; exact q.2.1) (by have q := okm1008300 a0 a1.f0 a1.f1; exact q.2.2.1) (by have q := okm1008300 a0 a1.f0 a1.f1; exact q.2.2.2) (by have q := okm23 a0 a1; exact q.1) (by have q := okm23 a0 a1; exact q.2.1) (by have q := okm23 a0 a1; exact q.2.2.1) (by have q := okm23 a0 a1; exact q.2.2.2))
                have f170 : 0 + (length (map d_si (o28_2 (m1008300 a0 a1.f0 a1.f1) 1))) ≤ (length (map d_si (o28_2 (m1008300 a0 a1.f0 a1.f1) 1))) := (by omega)
                have f171 : fullR (take (length (map d_si (o28_2 (m1008300 a0 a1.f0 a1.f1) 1))) (drop 0 (map d_si (o28_2 (m1008300 a0 a1.f0 a1.f1) 1)))) = true := (ft_si _ _ _)
                have f172 : toBR (take (length (map d_si (o28_2 (m1008300 a0 a1.f0 a1.f1) 1))) (drop 0 (map d_si (o28_2 (m1008300 a0 a1.f0 a1.f1) 1)))) = (map b_si (o28_2 (m1008300 a0 a1.f0 a1.f1) 1)) := (tb_si _)
                have f173 : 0 + (length (map d_R (o28_1 (m1008300 a0 a1.f0 a1.f1) 1))) ≤ (length (map d_R (o28_1 (m1008300 a0 a1.f0 a1.f1) 1))) := (by omega)
                have f174 : fullR (take (length (map d_R (o28_1 (m1008300 a0 a1.f0 a1.f1) 1))) (drop 0 (map d_R (o28_1 (m1008300 a0 a1.f0 a1.f1) 1)))) = true := (ft_R _ _ _)
                have f175 : toBR (take (length (map d_R (o28_1 (m1008300 a0 a1.f0 a1.f1) 1))) (drop 0 (map d_R (o28_1 (m1008300 a0 a1.f0 a1.f1) 1)))) = (map b_R (o28_1 (m1008300 a0 a1.f0 a1.f1) 1)) := (tb_R _)
                have f176 : 0 + (length (map d_si (o28_0 (m1008300 a0 a1.f0 a1.f1) 1))) ≤ (length (map d_si (o28_0 (m1008300 a0 a1.f0 a1.f1) 1))) := (by omega)
                have f177 : fullR (take (length (map d_si (o28_0 (m1008300 a0 a1.f0 a1.f1) 1))) (drop 0 (map d_si (o28_0 (m1008300 a0 a1.f0 a1.f1) 1)))) = true := (ft_si _ _ _)
                have f178 : toBR (take (length (map d_si (o28_0 (m1008300 a0 a1.f0 a1.f1) 1))) (drop 0 (map d_si (o28_0 (m1008300 a0 a1.f0 a1.f1) 1)))) = (map b_si (o28_0 (m1008300 a0 a1.f0 a1.f1) 1)) := (tb_si _)
                have f179 : Ev F X (.call 29 [(.agg [(.i ((m1008300 a0 a1.f0 a1.f1).f0)), (.i ((m1008300 a0 a1.f0 a1.f1).f1)), (.i ((m1008300 a0 a1.f0 a1.f1).f2)), (.i ((m1008300 a0 a1.f0 a1.f1).f3)), (.bor 0 (map b_si (o28_2 (m1008300 a0 a1.f0 a1.f1) 1))), (.bor 0 (map b_R (o28_1 (m1008300 a0 a1.f0 a1.f1) 1))), (.bor 0 (map b_si (o28_0 (m1008300 a0 a1.f0 a1.f1) 1))), (.i ((m1008300 a0 a1.f0 a1.f1).f7)), (.i ((m1008300 a0 a1.f0 a1.f1).f8)), (.i ((m1008300 a0 a1.f0 a1.f1).f9))]), (.oi 1)] [] [] [(.oi (m29 (K_C.mk ((m1008300 a0 a1.f0 a1.f1).f0) ((m1008300 a0 a1.f0 a1.f1).f1) ((m1008300 a0 a1.f0 a1.f1).f2) ((m1008300 a0 a1.f0 a1.f1).f3) (o28_2 (m1008300 a0 a1.f0 a1.f1) 1) (o28_1 (m1008300 a0 a1.f0 a1.f1) 1) (o28_0 (m1008300 a0 a1.f0 a1.f1) 1) ((m1008300 a0 a1.f0 a1.f1).f7) ((m1008300 a0 a1.f0 a1.f1).f8) ((m1008300 a0 a1.f0 a1.f1).f9)) 1))]) := (e29 (a0 := (K_C.mk ((m1008300 a0 a1.f0 a1.f1).f0) ((m1008300 a0 a1.f0 a1.f1).f1) ((m1008300 a0 a1.f0 a1.f1).f2) ((m1008300 a0 a1.f0 a1.f1).f3) (o28_2 (m1008300 a0 a1.f0 a1.f1) 1) (o28_1 (m1008300 a0 a1.f0 a1.f1) 1) (o28_0 (m1008300 a0 a1.f0 a1.f1) 1) ((m1008300 a0 a1.f0 a1.f1).f7) ((m1008300 a0 a1.f0 a1.f1).f8) ((m1008300 a0 a1.f0 a1.f1).f9))) (a1 := 1) (by have q := okm1008300 a0 a1.f0 a1.f1; rw [ol28_2]; exact q.1) (by have q := okm1008300 a0 a1.f0 a1.f1; rw [ol28_1]; exact q.2.1) (by have q := okm1008300 a0 a1.f0 a1.f1; exact oo86 _ _ q.2.2.1) (by have q := okm1008300 a0 a1.f0 a1.f1; rw [ol28_0]; exact q.2.2.2))
                exact callP_ok (ps := []) (os := []) (rs := [(.one (.val (.bool true)))]) (by kernel_rfl) (.r 13 [] [] f0 (.f (nt h0) (.h 20 (.b false) (.r 26 [] [] f2 (.f (nt h1) (.h 33 (.b false) (.r 37 [] [] f4 (.r 41 [] [] f5 (.f f6 (.f f7 (.f f8 (.f f9 (.f f10 (.f f11 (.f f12 (.f f13 (.f f14 (.r 43 [] [(map b_si a0.f2), (map b_R a0.f3), (map b_si a0.f4)] f15 (.f f16 (.f f17 (.f f18 (.f f19 (.f f20 (.f f21 (.r 51 [] [] f22 (.f f23 (.f f24 (.f f25 (.f f26 (.f f27 (.f f28 (.r 61 [] [] f29 (.f f30 (.f f31 (.f f32 (.f f33 (.f f34 (.f f35 (.f f36 (.f f37 (.f f38 (.r 63 [] [(map b_si a0.f2), (map b_R a0.f3), (map b_si a0.f4)] f39 (.f f40 (.f f41 (.f f42 (.f f43 (.f f44 (.f f45 (.f f46 (.f f47 (.f f48 (.f f49 (.f f50 (.f f51 (.f f52 (.f f53 (.f f54 (.f f55 (.f f56 (.f f57 (.f f58 (.f f59 (.f f60 (.f f61 (.f f62 (.f f63 (.r 73 [] [(map b_si ((m1008300 a0 a1.f0 a1.f1).f4)), (map b_R ((m1008300 a0 a1.f0 a1.f1).f5)), (map b_si ((m1008300 a0 a1.f0 a1.f1).f6)), (map b_si ((m23 a0 a1).f4)), (map b_R ((m23 a0 a1).f5)), (map b_si ((m23 a0 a1).f6))] f64 (.f (nt h2) (.h 76 (.b false) (.r 82 [] [] f66 (.f f67 (.f f68 (.f f69 (.f f70 (.f f71 (.f f72 (.f f73 (.f f74 (.f f75 (.f f76 (.f f77 (.f f78 (.f f79 (.f f80 (.f f81 (.f f82 (.f f83 (.f f84 (.r 84 [] [(map b_si a0.f2), (map b_R a0.f3), (map b_si a0.f4), (map b_si a0.f2), (map b_R a0.f3), (map b_si a0.f4)] f85 (.f (nt h3) (.f f87 (.f f88 (.f f89 (.h 87 (.b false) (.r 95 [true, true, true] [] f90 (.f (nt h4) (.f (nt h4) (.f (nt h4) (.f f94 (.f f95 (.f f96 (.f f97 (.f f98 (.f f99 (.f f100 (.f f101 (.f f102 (.f f103 (.f f104 (.f f105 (.f f106 (.f f107 (.f f108 (.f f109 (.f f110 (.f f111 (.h 104 (.b false) (.h 106 (.b false) (.h 108 (.b false) (.r 109 [] [(map b_si ((m1008300 a0 a1.f0 a1.f1).f4)), (map b_R ((m1008300 a0 a1.f0 a1.f1).f5)), (map b_si ((m1008300 a0 a1.f0 a1.f1).f6)), (map b_si ((m23 a0 a1).f4)), (map b_R ((m23 a0 a1).f5)), (map b_si ((m23 a0 a1).f6))] f112 (.f (nt h4) (.f (nt h4) (.f (nt h2) (.f f116 (.f f117 (.f f118 (.h 110 (.b false) (.h 113 (.b false) (.h 114 (.b false) (.r 122 [true, true, true] [] f119 (.f f120 (.f f121 (.f f122 (.f f123 (.f f124 (.f f125 (.f f126 (.f f127 (.f f128 (.r 132 [] [(map b_si (o28_2 (m1008300 a0 a1.f0 a1.f1) 1)), (map b_R (o28_1 (m1008300 a0 a1.f0 a1.f1) 1)), (map b_si (o28_0 (m1008300 a0 a1.f0 a1.f1) 1))] f129 (.f (nt h5) (.f (nt h6) (.h 139 (.b false) (.h 146 (.b false) (.r 150 [] [] f132 (.r 154 [] [] f133 (.f f134 (.f f135 (.f f136 (.f f137 (.f f138 (.f f139 (.f f140 (.f f141 (.f f142 (.r 156 [] [(map b_si a0.f2), (map b_R a0.f3), (map b_si a0.f4)] f143 (.f f144 (.f f145 (.f f146 (.f f147 (.f f148 (.f f149 (.f f150 (.f f151 (.f f152 (.f f153 (.f f154 (.f f155 (.f f156 (.f f157 (.f f158 (.f f159 (.f f160 (.f f161 (.f f162 (.f f163 (.f f164 (.f f165 (.f f166 (.f f167 (.r 166 [] [(map b_si ((m1008300 a0 a1.f0 a1.f1).f4)), (map b_R ((m1008300 a0 a1.f0 a1.f1).f5)), (map b_si ((m1008300 a0 a1.f0 a1.f1).f6)), (map b_si ((m23 a0 a1).f4)), (map b_R ((m23 a0 a1).f5)), (map b_si ((m23 a0 a1).f6))] f168 (.f (nt h2) (.f f170 (.f f171 (.f f172 (.f f173 (.f f174 (.f f175 (.f f176 (.f f177 (.f f178 (.h 169 (.b false) (.r 177 [] [(map b_si (o28_2 (m1008300 a0 a1.f0 a1.f1) 1)), (map b_R (o28_1 (m1008300 a0 a1.f0 a1.f1) 1)), (map b_si (o28_0 (m1008300 a0 a1.f0 a1.f1) 1))] f179 (.f (nt h5) (.f (nt h6) (.h 184 (.b false) (.h 191 (.b false) .nil)))))))))))))))))))))))))))))))))))))))))))))))))))))))))))))))))))))))))))))))))))))))))))))))))))))))))))))))))))))))))))))))))))))))))))))))))))))))))))))))))))))))))))))))))))))))))))))))))))))
/-! weights -/
def wt_si (x : K_si) : Nat := 2
theorem wts_si : ∀ (l : List K_si), (map wt_si l).sum = l.length * 2
  | [] => rfl
  | x :: l => by simp only [List.map_cons, List.sum_cons, wts_si l, length_cons, wt_si]; omega
def wt_R (x : K_R) : Nat := 4 + (map wt_si x.f3).sum
def wt_B (x : K_B) : Nat := 5 + (map wt_si x.f2).sum + (map wt_R x.f3).sum + (map wt_si x.f4).sum
def wt_b (x : Bool) : Nat := 1
theorem wts_b : ∀ (l : List Bool), (map wt_b l).sum = l.length * 1
  | [] => rfl
  | x :: l => by simp only [List.map_cons, List.sum_cons, wts_b l, length_cons, wt_b]; omega
def wt_i (x : Int) : Nat := 1
theorem wts_i : ∀ (l : List Int), (map wt_i l).sum = l.length * 1
  | [] => rfl
  | x :: l => by simp only [List.map_cons, List.sum_cons, wts_i l, length_cons, wt_i]; omega
def wt_C (x : K_C) : Nat := 7 + (map wt_si x.f4).sum + (map wt_R x.f5).sum + (map wt_si x.f6).sum
def wt_LsiE (x : (List K_si)) : Nat := 0 + (map wt_si x).sum
def wt_iLsiE (x : K_iLsiE) : Nat := 1 + (map wt_si x.f1).sum
def wt_Q (x : (List K_R)) : Nat := 0 + (map wt_R x).sum
def wt_s (x : ByteArray) : Nat := 1
theorem wts_s : ∀ (l : List ByteArray), (map wt_s l).sum = l.length * 1
  | [] => rfl
  | x :: l => by simp only [List.map_cons, List.sum_cons, wts_s l, length_cons, wt_s]; omega
def wt_y (x : Int) : Nat := 1
theorem wts_y : ∀ (l : List Int), (map wt_y l).sum = l.length * 1
  | [] => rfl
  | x :: l => by simp only [List.map_cons, List.sum_cons, wts_y l, length_cons, wt_y]; omega
/-! marks of loop.example/g00539/laws.markWeightS -/
theorem mr85_0 (a0 : List K_si) : ∀ (l p : List K_si) (v1 : Int), 0 ≤ v1 → v1 + ((map wt_si l).sum : Nat) ≤ 4611686018427387904 → ∃ (q : List K_si) (k' : Int) (w2 : _) (w3 : _), r85_0 a0 l (p.length : Int) (p ++ l) v1 = .k0 (p ++ q) k' w2 w3 ∧ q.length = l.length ∧ v1 ≤ k' ∧ k' ≤ v1 + ((map wt_si l).sum : Nat) ∧ ∀ (c : List K_si) (j : Int), ∃ u1 u2, r142_0 c q j v1 = .k0 k' u1 u2
  | [], p, v1, h0, h1 => ⟨[], v1, (p.length : Int), (decide ((p.length : Int) < ((length (map d_si a0)) : Int))), rfl, rfl, by omega, by simp, fun c j => ⟨j, (decide (j < ((length (map b_si c)) : Int))), rfl⟩⟩
  | x0 :: l, p, v1, h0, h1 => by
    simp only [List.map_cons, List.sum_cons, wt_si] at h1 ⊢
    obtain ⟨q, k', w2, w3, e1, e2, e3, e4, e5⟩ := mr85_0 a0 l (p ++ [(K_si.mk (m141 v1) (v1 + 1))]) ((v1 + 1) + 1) (by omega) (by omega)
    refine ⟨(K_si.mk (m141 v1) (v1 + 1)) :: q, k', w2, w3, ?_, by simp [e2], by omega, by omega, ?_⟩
    · have e : set (p ++ x0 :: l) (Int.toNat (p.length : Int)) (K_si.mk (m141 v1) (v1 + 1)) = (p ++ [(K_si.mk (m141 v1) (v1 + 1))]) ++ l := by simp
      have e0 : ((p ++ [(K_si.mk (m141 v1) (v1 + 1))]).length : Int) = (p.length : Int) + 1 := by simp
      rw [e0] at e1
      simp (disch := omega) only [r85_0, wrap64d]
      first | (rw [e, e1]; simp; done) | (simp only [e, e1]; simp; done)
    · intro c j
      obtain ⟨u1, u2, g⟩ := e5 c (j + 1)
      refine ⟨u1, u2, ?_⟩
      simp (disch := omega) only [r142_0, wrap64d]
      first | (simpa using g) | (simp_all; done)
theorem mh85 (a : List K_si) (k : Int) (h0 : 0 ≤ k) (h1 : k + ((map wt_si a).sum : Nat) ≤ 4611686018427387904) : m142 (o85_0 a k) k = m85 a k ∧ k ≤ m85 a k ∧ m85 a k ≤ k + ((map wt_si a).sum : Nat) := by
  obtain ⟨q, k', w2, w3, e1, e2, e3, e4, e5⟩ := mr85_0 a a [] k h0 h1
  obtain ⟨u1, u2, g⟩ := e5 q 0
  simp only [List.nil_append, length_nil] at e1
  rw [show ((0 : Nat) : Int) = 0 from rfl] at e1
  unfold m85 o85_0 m142
  rw [e1]; simp only []; rw [g]; exact ⟨rfl, e3, e4⟩
/-! marks of loop.example/g00539/laws.markRewardS -/
theorem mr86_0 (a0 : List K_R) : ∀ (l p : List K_R) (v1 : Int), 0 ≤ v1 → v1 + ((map wt_R l).sum : Nat) ≤ 4611686018427387904 → ∃ (q : List K_R) (k' : Int) (w2 : _) (w3 : _), r86_0 a0 l (p.length : Int) (p ++ l) v1 = .k0 (p ++ q) k' w2 w3 ∧ q.length = l.length ∧ v1 ≤ k' ∧ k' ≤ v1 + ((map wt_R l).sum : Nat) ∧ ∀ (c : List K_R) (j : Int), ∃ u1 u2, r143_0 c q j v1 = .k0 k' u1 u2
  | [], p, v1, h0, h1 => ⟨[], v1, (p.length : Int), (decide ((p.length : Int) < ((length (map d_R a0)) : Int))), rfl, rfl, by omega, by simp, fun c j => ⟨j, (decide (j < ((length (map b_R c)) : Int))), rfl⟩⟩
  | x0 :: l, p, v1, h0, h1 => by
    simp only [List.map_cons, List.sum_cons, wt_R] at h1 ⊢
    have s0 := mh85 x0.f3 (((v1 + 1) + 1) + 1) (by omega) (by omega)
    obtain ⟨q, k', w2, w3, e1, e2, e3, e4, e5⟩ := mr86_0 a0 l (p ++ [(K_R.mk v1 (v1 + 1) ((v1 + 1) + 1) (o85_0 x0.f3 (((v1 + 1) + 1) + 1)) (m85 x0.f3 (((v1 + 1) + 1) + 1)))]) ((m85 x0.f3 (((v1 + 1) + 1) + 1)) + 1) (by omega) (by omega)
    refine ⟨(K_R.mk v1 (v1 + 1) ((v1 + 1) + 1) (o85_0 x0.f3 (((v1 + 1) + 1) + 1)) (m85 x0.f3 (((v1 + 1) + 1) + 1))) :: q, k', w2, w3, ?_, by simp [e2], by omega, by omega, ?_⟩
    · have e : set (p ++ x0 :: l) (Int.toNat (p.length : Int)) (K_R.mk v1 (v1 + 1) ((v1 + 1) + 1) (o85_0 x0.f3 (((v1 + 1) + 1) + 1)) (m85 x0.f3 (((v1 + 1) + 1) + 1))) = (p ++ [(K_R.mk v1 (v1 + 1) ((v1 + 1) + 1) (o85_0 x0.f3 (((v1 + 1) + 1) + 1)) (m85 x0.f3 (((v1 + 1) + 1) + 1)))]) ++ l := by simp
      have e0 : ((p ++ [(K_R.mk v1 (v1 + 1) ((v1 + 1) + 1) (o85_0 x0.f3 (((v1 + 1) + 1) + 1)) (m85 x0.f3 (((v1 + 1) + 1) + 1)))]).length : Int) = (p.length : Int) + 1 := by simp
      rw [e0] at e1
      simp (disch := omega) only [r86_0, wrap64d]
      first | (rw [e, e1]; simp; done) | (simp only [e, e1]; simp; done)
    · intro c j
      obtain ⟨u1, u2, g⟩ := e5 c (j + 1)
      refine ⟨u1, u2, ?_⟩
      have t0 := s0.1
      have n0 : ¬ (m85 x0.f3 (((v1 + 1) + 1) + 1) < 0) := by omega
      simp (disch := omega) only [r143_0, wrap64d, t0]
      first | (simpa [n0] using g) | (simp_all; done)
theorem mh86 (a : List K_R) (k : Int) (h0 : 0 ≤ k) (h1 : k + ((map wt_R a).sum : Nat) ≤ 4611686018427387904) : m143 (o86_0 a k) k = m86 a k ∧ k ≤ m86 a k ∧ m86 a k ≤ k + ((map wt_R a).sum : Nat) := by
  obtain ⟨q, k', w2, w3, e1, e2, e3, e4, e5⟩ := mr86_0 a a [] k h0 h1
  obtain ⟨u1, u2, g⟩ := e5 q 0
  simp only [List.nil_append, length_nil] at e1
  rw [show ((0 : Nat) : Int) = 0 from rfl] at e1
  unfold m86 o86_0 m143
  rw [e1]; simp only []; rw [g]; exact ⟨rfl, e3, e4⟩
/-! marks of loop.example/g00539/laws.markLedger -/
theorem mh27 (a : K_B) (k : Int) (h0 : 0 ≤ k) (h1 : k + (wt_B a : Nat) ≤ 4611686018427387904) : m87 (K_B.mk a.f0 a.f1 (o27_2 a k) (o27_1 a k) (o27_0 a k) a.f5 a.f6 a.f7) k = m27 a k ∧ k ≤ m27 a k ∧ m27 a k ≤ k + (wt_B a : Nat) := by
  simp only [wt_B] at h1 ⊢
  have s0 := mh85 a.f2 k (by omega) (by omega)
  have s1 := mh86 a.f3 (m85 a.f2 k) (by omega) (by omega)
  have s2 := mh85 a.f4 (m86 a.f3 (m85 a.f2 k)) (by omega) (by omega)
  have t0 := s0.1
  have t1 := s1.1
  have t2 := s2.1
  try simp only [length_map, wt_si, wt_R, wt_B, wt_b, wt_i, wt_C, wt_LsiE, wt_iLsiE, wt_Q, wt_s, wt_y] at *
  unfold m87 m27 o27_0 o27_1 o27_2
  simp (disch := omega) only [wrap64d, t0, t1, t2]
  refine ⟨?_, by omega, by omega⟩
  (repeat' rw [if_neg (by simp only [decide_eq_true_eq]; omega)]) <;> rfl
/-! marks of loop.example/g00539/laws.markLedgerResult -/
theorem mh28 (a : K_C) (k : Int) (h0 : 0 ≤ k) (h1 : k + (wt_C a : Nat) ≤ 4611686018427387904) : m29 (K_C.mk a.f0 a.f1 a.f2 a.f3 (o28_2 a k) (o28_1 a k) (o28_0 a k) a.f7 a.f8 a.f9) k = m28 a k ∧ k ≤ m28 a k ∧ m28 a k ≤ k + (wt_C a : Nat) := by
  simp only [wt_C] at h1 ⊢
  have s0 := mh27 (K_B.mk a.f2 a.f3 a.f4 a.f5 a.f6 a.f7 a.f8 a.f9) k (by omega) (by simp only [wt_si, wt_R, wt_B, wt_b, wt_i, wt_C, wt_LsiE, wt_iLsiE, wt_Q, wt_s, wt_y] at *; omega)
  have t0 := s0.1
  try simp only [length_map, wt_si, wt_R, wt_B, wt_b, wt_i, wt_C, wt_LsiE, wt_iLsiE, wt_Q, wt_s, wt_y] at *
  unfold m29 m28 o28_0 o28_1 o28_2
  simp (disch := omega) only [wrap64d, t0]
  refine ⟨?_, by omega, by omega⟩
  (repeat' rw [if_neg (by simp only [decide_eq_true_eq]; omega)]) <;> rfl
theorem ck106 (F : FuncId → Option VFun) (X : Ext) : CkD F X 28 46 2 24 [(.val (.string (⟨#[]⟩ : ByteArray))), (.val (.int .i64 0))] := by
  intro l rows h1 h2
  exact codeH_ok (t := 0) (hs := []) (q := [0 + 0 ≤ 0, (([] : List (List D)) ++ fromBR l rows).length * 24 ≤ 70368744177664, ∀ r ∈ fromBR l rows, r.length = 2]) (by rfl) ⟨by simp, by simpa using h1, h2, trivial⟩
theorem X_ok (f : FuncId) (args : List SV) (rs : List Ret) (h : X f args rs) : CallOK Tryd.prog f args [] [] rs := by
  rcases h with ⟨rfl, h⟩ | ⟨rfl, h⟩
  · exact clone_ok (X := fun _ _ _ => False) (T := 28) (E := 46) (k := 2) (kb := 24) (zero := [(.val (.string (⟨#[]⟩ : ByteArray))), (.val (.int .i64 0))]) (by kernel_rfl) F_ok (fun _ _ _ h => h.elim) (by kernel_rfl) (ck106 _ _) h
  · obtain ⟨s, c, h1, h2, h3, rfl, rfl⟩ := h
    exact trim_ok s c h1 h2 h3
end Go.Proofs.YtfmkbpiobddhdaaDoor.CreditShare
