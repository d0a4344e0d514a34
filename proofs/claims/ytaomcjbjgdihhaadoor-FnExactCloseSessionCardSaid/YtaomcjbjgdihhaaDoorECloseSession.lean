/- What the functions compute. -/
import Derived.Test.YtaomcjbjgdihhaaDoorECloseSessionA
import Derived.KernelRfl
namespace Go.Proofs.YtaomcjbjgdihhaaDoor.CloseSession
open Go Go.Proofs.YtaomcjbjgdihhaaDoor.V
set_option linter.unusedVariables false
set_option linter.unusedSimpArgs false
set_option maxRecDepth 20000
attribute [local simp] toBR_sisi fullR_sisi pureR_sisi lenB_sisi lenD_sisi fromBR_sisi copy_sisi toBR_LsisiEi fullR_LsisiEi pureR_LsisiEi lenB_LsisiEi lenD_LsisiEi toBR_i fullR_i pureR_i lenB_i lenD_i fromBR_i copy_i toBR_b fullR_b pureR_b lenB_b lenD_b fromBR_b copy_b toBR_s fullR_s pureR_s lenB_s lenD_s fromBR_s copy_s toBR_iisiiii fullR_iisiiii pureR_iisiiii lenB_iisiiii lenD_iisiiii fromBR_iisiiii copy_iisiiii toBR_iLsELiisiiiiELsisiEi fullR_iLsELiisiiiiELsisiEi pureR_iLsELiisiiiiELsisiEi lenB_iLsELiisiiiiELsisiEi lenD_iLsELiisiiiiELsisiEi toBR_LsisiE fullR_LsisiE pureR_LsisiE lenB_LsisiE lenD_LsisiE toBR_LsE fullR_LsE pureR_LsE lenB_LsE lenD_LsE toBR_LiisiiiiE fullR_LiisiiiiE pureR_LiisiiiiE lenB_LiisiiiiE lenD_LiisiiiiE strInts_len byteRows_len toBR_y fullR_y pureR_y lenB_y lenD_y fromBR_y copy_y
/-! loop 20_0 -/
inductive O20_0 where
  | k0 (w0 : Int) (w1 : Bool)
  | k1
def r20_0 (a0 : (List ByteArray)) : List ByteArray → List ByteArray → Int → O20_0
  | x0_20_0 :: l0_20_0, x1_20_0 :: l1_20_0, i_20_0 =>
    if (!(x0_20_0.toList == x1_20_0.toList)) = true then (O20_0.k1) else
    (r20_0 a0 l0_20_0 l1_20_0 (i_20_0 + 1) )
  | _, _, i_20_0 => (O20_0.k0 i_20_0 (decide (i_20_0 < ((List.length (List.map b_s a0)) : Int))))
def h20_0 (l0_0 : Nat) (l1_0 : Nat) (a0 : (List ByteArray)) (a1 : (List ByteArray)) (i_20_0 : Int)  : St := ⟨[(0, (.one (.bor l0_0 (List.map b_s a0)))), (1, (.one (.bor l1_0 (List.map b_s a1)))), (5, (.one (.val (.int .i64 i_20_0))))], []⟩
def ex20_0 : O20_0 → VX.Exit
  | .k0 _ _ => (.exit 0)
  | .k1 => .ret
def fin20_0 (l0_0 : Nat) (l1_0 : Nat) (a0 : (List ByteArray)) (a1 : (List ByteArray)) : O20_0 → St
  | .k0 w0 w1 => ⟨[(0, (.one (.bor l0_0 (List.map b_s a0)))), (1, (.one (.bor l1_0 (List.map b_s a1)))), (5, (.one (.val (.int .i64 w0)))), (14, (.one (.val (.bool w1))))], []⟩
  | .k1 => ⟨[(4, (.one (.val (.bool false))))], []⟩
theorem t20_0 {l0_0 : Nat} {l1_0 : Nat} {a0 : (List ByteArray)} {a1 : (List ByteArray)} (hy0 : List.length a0 * 16 ≤ 140737488351232) (hy1 : List.length a1 * 16 ≤ 140737488351232) : ∀ (l0_20_0 : List ByteArray) (l1_20_0 : List ByteArray) (p_20_0 : List ByteArray) (p_20_0_1 : List ByteArray) , p_20_0 ++ l0_20_0 = a0 → p_20_0_1 ++ l1_20_0 = a1 → List.length p_20_0 = List.length p_20_0_1 → List.length l0_20_0 = List.length l1_20_0 → Ev F X (.code l20_0 (h20_0 l0_0 l1_0 a0 a1 (List.length p_20_0 : Int) ) (ex20_0 (r20_0 a0 l0_20_0 l1_20_0 (List.length p_20_0 : Int) )) (fin20_0 l0_0 l1_0 a0 a1 (r20_0 a0 l0_20_0 l1_20_0 (List.length p_20_0 : Int) )))
  | [], [], p_20_0, p_20_0_1, hp0, hp1, hq1, hl1 => by
    have hc : ¬ (decide ((List.length p_20_0 : Int) < ((List.length (List.map b_s a0)) : Int))) = true := by
      rw [← hp0]; simp only [List.length_map, List.length_set, List.length_append, List.length_replicate, List.length_cons, List.length_nil, decide_eq_true_eq]; omega
    have st := ch b20_0 (h20_0 l0_0 l1_0 a0 a1 (List.length p_20_0 : Int) ) ⟨[(0, (.one (.bor l0_0 (List.map b_s a0)))), (1, (.one (.bor l1_0 (List.map b_s a1)))), (5, (.one (.val (.int .i64 (List.length p_20_0 : Int))))), (14, (.one (.val (.bool (decide ((List.length p_20_0 : Int) < ((List.length (List.map b_s a0)) : Int)))))))], []⟩ (.exit 0) 9 (by kernel_rfl) (.f (nt hc) (.h 8 (.b false) .nil))
    rw [show (⟨[(0, (.one (.bor l0_0 (List.map b_s a0)))), (1, (.one (.bor l1_0 (List.map b_s a1)))), (5, (.one (.val (.int .i64 (List.length p_20_0 : Int))))), (14, (.one (.val (.bool (decide ((List.length p_20_0 : Int) < ((List.length (List.map b_s a0)) : Int)))))))], []⟩ : St) = fin20_0 l0_0 l1_0 a0 a1 (.k0 (List.length p_20_0 : Int) (decide ((List.length p_20_0 : Int) < ((List.length (List.map b_s a0)) : Int)))) from by first | rfl | (unfold fin20_0; simp [byteRows_eq, ints_y, List.take_of_length_le, d_sisi, d_LsisiEi, d_i, d_b, d_s, d_iisiiii, d_iLsELiisiiiiELsisiEi, d_LsisiE, d_LsE, d_LiisiiiiE, d_y, fromBR_sisi, fromBR_i, fromBR_b, fromBR_s, fromBR_iisiiii, fromBR_y]; done)] at st
    exact .loopX st (show ((.exit 0) : VX.Exit) ≠ .normal from by simp)
  | x0_20_0 :: l0_20_0, x1_20_0 :: l1_20_0, p_20_0, p_20_0_1, hp0, hp1, hq1, hl1 => by
    have hc : (decide ((List.length p_20_0 : Int) < ((List.length (List.map b_s a0)) : Int))) = true := by
      rw [← hp0]; simp only [List.length_map, List.length_set, List.length_append, List.length_replicate, List.length_cons, List.length_nil, decide_eq_true_eq]; omega
    have Hx0_20_0 : (a0)[Int.toNat (List.length p_20_0 : Int)]? = some x0_20_0 := by
      rw [← hp0, Int.toNat_natCast]; simp
    have Hx1_20_0 : (a1)[Int.toNat (List.length p_20_0 : Int)]? = some x1_20_0 := by
      rw [← hp1, hq1, Int.toNat_natCast]; simp
    have hlen : List.length (a0) = List.length p_20_0 + List.length l0_20_0 + 1 := by rw [← hp0]; simp; omega
    have hw : IntKind.wrap .i64 ((List.length p_20_0 : Int) + 1) = (List.length p_20_0 : Int) + 1 := wrap64 (by omega)
    simp only [r20_0]
    have f1 : 0 ≤ (List.length p_20_0 : Int) := (by first | exact True.intro | with_reducible rfl | with_reducible assumption | omega | (simp only [decide_eq_true_eq] at *; omega) | (simp only [List.length_map, List.length_set, List.length_append, List.length_replicate, List.length_cons, List.length_nil]; omega) | (simp; omega) | (simp [List.take_of_length_le]; done) | assumption | trivial | (simp [*, byteRows_eq, ints_y]; done))
    have P1 {hs q} (r : PS F X hs q) := (PS.f hc (.f f1 (.f (mp_ b_s Hx0_20_0) (.f f1 (.f (mp_ b_s Hx1_20_0) (.h 8 (.b true) (.h 14 (.row [(.val (.string x0_20_0))]) (.h 22 (.row [(.val (.string x1_20_0))]) r))))))))
    by_cases h_20_0_1 : (!(x0_20_0.toList == x1_20_0.toList)) = true
    · try simp only [if_pos h_20_0_1]
      have st := ch b20_0 (h20_0 l0_0 l1_0 a0 a1 (List.length p_20_0 : Int) ) ⟨[(4, (.one (.val (.bool false))))], []⟩ .ret 30 (by kernel_rfl) (P1 (.f h_20_0_1 (.h 27 (.b true) .nil)))
      rw [show (⟨[(4, (.one (.val (.bool false))))], []⟩ : St) = fin20_0 l0_0 l1_0 a0 a1 (.k1) from by first | rfl | (unfold fin20_0; simp [byteRows_eq, ints_y, List.take_of_length_le, d_sisi, d_LsisiEi, d_i, d_b, d_s, d_iisiiii, d_iLsELiisiiiiELsisiEi, d_LsisiE, d_LsE, d_LiisiiiiE, d_y, fromBR_sisi, fromBR_i, fromBR_b, fromBR_s, fromBR_iisiiii, fromBR_y]; done)] at st
      exact .loopX st (show (.ret : VX.Exit) ≠ .normal from by simp)
    · try simp only [if_neg h_20_0_1]
      have st := ch b20_0 (h20_0 l0_0 l1_0 a0 a1 (List.length p_20_0 : Int) ) ⟨[(0, (.one (.bor l0_0 (List.map b_s a0)))), (1, (.one (.bor l1_0 (List.map b_s a1)))), (5, (.one (.val (.int .i64 (IntKind.wrap .i64 ((List.length p_20_0 : Int) + 1))))))], []⟩ .normal 34 (by kernel_rfl) (P1 (.f (nt h_20_0_1) (.f trivial (.h 27 (.b false) .nil))))
      have ih := t20_0 (l0_0 := l0_0) (l1_0 := l1_0) (a0 := a0) (a1 := a1) hy0 hy1 l0_20_0 l1_20_0 (p_20_0 ++ [x0_20_0]) (p_20_0_1 ++ [x1_20_0])  (by rw [List.append_assoc]; exact hp0) (by rw [List.append_assoc]; exact hp1) (by simp only [List.length_map, List.length_set, List.length_append, List.length_replicate, List.length_cons, List.length_nil]; omega) (by simp only [List.length_map, List.length_set, List.length_append, List.length_replicate, List.length_cons, List.length_nil] at hl1; omega)
      rw [show ((p_20_0 ++ [x0_20_0]).length : Int) = (p_20_0.length : Int) + 1 from by simp] at ih
      rw [show (⟨[(0, (.one (.bor l0_0 (List.map b_s a0)))), (1, (.one (.bor l1_0 (List.map b_s a1)))), (5, (.one (.val (.int .i64 (IntKind.wrap .i64 ((List.length p_20_0 : Int) + 1))))))], []⟩ : St) = h20_0 l0_0 l1_0 a0 a1 ((List.length p_20_0 : Int) + 1)  from by first | (unfold h20_0; simp only [hw]; done) | (unfold h20_0; simp only [hw, List.length_map, List.length_set, List.length_append, List.length_replicate, List.length_cons, List.length_nil]; done) | (unfold h20_0; simp [hw, byteRows_eq, ints_y, List.take_of_length_le, d_sisi, d_LsisiEi, d_i, d_b, d_s, d_iisiiii, d_iLsELiisiiiiELsisiEi, d_LsisiE, d_LsE, d_LiisiiiiE, d_y, fromBR_sisi, fromBR_i, fromBR_b, fromBR_s, fromBR_iisiiii, fromBR_y]; done)] at st
      exact .loopN st ih
/-! loop.example/g00539/laws.eqStringS -/
def m20 (a0 : (List ByteArray)) (a1 : (List ByteArray)) : Bool :=
  if (((List.length (List.map b_s a0)) : Int) != ((List.length (List.map b_s a1)) : Int)) = true then false else
  (match r20_0 a0 a0 a1 0 with | .k0 w0_20_0_1 w1_20_0_1 => true | .k1 => false)
theorem e20 {l0_0 : Nat} {a0 : (List ByteArray)} {l1_0 : Nat} {a1 : (List ByteArray)} (hy0 : List.length a0 * 16 ≤ 140737488351232) (hy1 : List.length a1 * 16 ≤ 140737488351232) : Ev F X (.call 20 [(.one (.bor l0_0 (List.map b_s a0))), (.one (.bor l1_0 (List.map b_s a1)))] [] [] [(.one (.val (.bool (m20 a0 a1))))]) := by
  unfold m20
  by_cases h0 : (((List.length (List.map b_s a0)) : Int) != ((List.length (List.map b_s a1)) : Int)) = true
  · try simp only [if_pos h0]
    exact cp (by kernel_rfl) (.f h0 (.h 12 (.b true) .nil))
  · try simp only [if_neg h0]
    cases h1 : r20_0 a0 a0 a1 0 with
    | k0 w0_20_0_1 w1_20_0_1 =>
      try dsimp only
      have f1 : (⟨[(0, (.one (.bor l0_0 (List.map b_s a0)))), (1, (.one (.bor l1_0 (List.map b_s a1)))), (5, (.one (.val (.int .i64 0))))], []⟩ : St) = h20_0 l0_0 l1_0 a0 a1 0  := (by first | rfl | (unfold h20_0; simp [byteRows_eq, ints_y, List.take_of_length_le, d_sisi, d_LsisiEi, d_i, d_b, d_s, d_iisiiii, d_iLsELiisiiiiELsisiEi, d_LsisiE, d_LsE, d_LiisiiiiE, d_y, fromBR_sisi, fromBR_i, fromBR_b, fromBR_s, fromBR_iisiiii, fromBR_y]; done))
      exact cp (by kernel_rfl) (.f (nt h0) (.f f1 (.f (ev_ (e := ex20_0) (g := (fin20_0 l0_0 l1_0 a0 a1)) h1 (t20_0 (l0_0 := l0_0) (l1_0 := l1_0) (a0 := a0) (a1 := a1) (by first | assumption | omega) (by first | assumption | omega) a0 a1 [] []  rfl rfl rfl (by first | omega | (simp at *; omega)))) (.h 12 (.b false) (.h 15 (.loop (h20_0 l0_0 l1_0 a0 a1 0 ) (.exit 0) ⟨[(0, (.one (.bor l0_0 (List.map b_s a0)))), (1, (.one (.bor l1_0 (List.map b_s a1)))), (5, (.one (.val (.int .i64 w0_20_0_1)))), (14, (.one (.val (.bool w1_20_0_1))))], []⟩) .nil)))))
    | k1 =>
      try dsimp only
      have f1 : (⟨[(0, (.one (.bor l0_0 (List.map b_s a0)))), (1, (.one (.bor l1_0 (List.map b_s a1)))), (5, (.one (.val (.int .i64 0))))], []⟩ : St) = h20_0 l0_0 l1_0 a0 a1 0  := (by first | rfl | (unfold h20_0; simp [byteRows_eq, ints_y, List.take_of_length_le, d_sisi, d_LsisiEi, d_i, d_b, d_s, d_iisiiii, d_iLsELiisiiiiELsisiEi, d_LsisiE, d_LsE, d_LiisiiiiE, d_y, fromBR_sisi, fromBR_i, fromBR_b, fromBR_s, fromBR_iisiiii, fromBR_y]; done))
      exact cp (by kernel_rfl) (.f (nt h0) (.f f1 (.f (ev_ (e := ex20_0) (g := (fin20_0 l0_0 l1_0 a0 a1)) h1 (t20_0 (l0_0 := l0_0) (l1_0 := l1_0) (a0 := a0) (a1 := a1) (by first | assumption | omega) (by first | assumption | omega) a0 a1 [] []  rfl rfl rfl (by first | omega | (simp at *; omega)))) (.h 12 (.b false) (.h 15 (.loop (h20_0 l0_0 l1_0 a0 a1 0 ) .ret ⟨[(4, (.one (.val (.bool false))))], []⟩) .nil)))))
theorem eqr20_0 (a0 : (List ByteArray)) : ∀ (l m : List ByteArray) (i : Int), l.length = m.length → (r20_0 a0 l m i = .k1 ∧ l ≠ m) ∨ (∃ w0 w1, r20_0 a0 l m i = .k0 w0 w1 ∧ l = m)
  | [], [], i, _ => .inr ⟨_, _, rfl, rfl⟩
  | [], _ :: _, i, h => by simp at h
  | _ :: _, [], i, h => by simp at h
  | x :: l, y :: m, i, h => by
    have ih := eqr20_0 a0 l m (i + 1) (by simpa using h)
    by_cases hxy : x = y
    · subst hxy
      have e : r20_0 a0 (x :: l) (x :: m) i = r20_0 a0 l m (i + 1) := by simp [r20_0, ba_eq]
      rw [e]
      rcases ih with ⟨h1, h2⟩ | ⟨w0, w1, h1, h2⟩
      · exact .inl ⟨h1, by simp [h2]⟩
      · exact .inr ⟨_, _, h1, by rw [h2]⟩
    · have e : r20_0 a0 (x :: l) (y :: m) i = .k1 := by
        simp only [r20_0]
        first
          | ((repeat' split) <;> simp_all [ba_eq]; done)
          | (cases x; cases y; (repeat' split) <;> simp_all [ba_eq])
      exact .inl ⟨e, by simp [hxy]⟩
open Classical in
theorem eqd20 (a b : (List ByteArray)) : m20 a b = decide (a = b) := by
  rw [Bool.eq_iff_iff, decide_eq_true_eq]
  unfold m20
  by_cases hl : List.length a = List.length b
  · rcases eqr20_0 a a b 0 hl with ⟨h1, h2⟩ | ⟨w0, w1, h1, h2⟩
    · simp only [h1, List.length_map, hl]
      first
        | (simp [h2, ba_eq]; done)
        | (cases a; cases b; simp_all [ba_eq]; done)
        | (cases a; cases b; (repeat' split) <;> simp_all [ba_eq])
    · simp only [h1, List.length_map, hl]
      first
        | (simp [h2, ba_eq]; done)
        | (cases a; cases b; simp_all [ba_eq]; done)
        | (cases a; cases b; (repeat' split) <;> simp_all [ba_eq])
  · have hn : a ≠ b := by rintro rfl; exact hl rfl
    simp only [List.length_map]
    first
      | (simp [hn, hl, ba_eq]; done)
      | ((repeat' split) <;> simp_all [ba_eq]; done)
      | (simp [hn]; omega)
/-! loop.example/g00539/laws.eqAct -/
def m36 (a0 : K_iisiiii) (a1 : K_iisiiii) : Bool :=
  if (a0.f0 != a1.f0) = true then false else
  if (a0.f1 != a1.f1) = true then false else
    if (!(a0.f2.toList == a1.f2.toList)) = true then false else
      if (a0.f3 != a1.f3) = true then false else
        if (a0.f4 != a1.f4) = true then false else
          if (a0.f5 != a1.f5) = true then false else
            if (a0.f6 != a1.f6) = true then false else
              true
theorem e36 {a0 : K_iisiiii} {a1 : K_iisiiii} : Ev F X (.call 36 [(.agg [(.val (.int .i64 a0.f0)), (.val (.int .i64 a0.f1)), (.val (.string a0.f2)), (.val (.int .i64 a0.f3)), (.val (.int .i64 a0.f4)), (.val (.int .i64 a0.f5)), (.val (.int .i64 a0.f6))]), (.agg [(.val (.int .i64 a1.f0)), (.val (.int .i64 a1.f1)), (.val (.string a1.f2)), (.val (.int .i64 a1.f3)), (.val (.int .i64 a1.f4)), (.val (.int .i64 a1.f5)), (.val (.int .i64 a1.f6))])] [] [] [(.one (.val (.bool (m36 a0 a1))))]) := by
  unfold m36
  by_cases h0 : (a0.f0 != a1.f0) = true
  · try simp only [if_pos h0]
    exact cp (by kernel_rfl) (.f h0 (.h 16 (.b true) .nil))
  · try simp only [if_neg h0]
    have P1 {hs q} (r : PS F X hs q) := (PS.f (nt h0) (.h 16 (.b false) r))
    by_cases h1 : (a0.f1 != a1.f1) = true
    · try simp only [if_pos h1]
      exact cp (by kernel_rfl) (P1 (.f h1 (.h 27 (.b true) .nil)))
    · try simp only [if_neg h1]
      have P2 {hs q} (r : PS F X hs q) := (P1 (.f (nt h1) (.h 27 (.b false) r)))
      by_cases h2 : (!(a0.f2.toList == a1.f2.toList)) = true
      · try simp only [if_pos h2]
        exact cp (by kernel_rfl) (P2 (.f h2 (.h 38 (.b true) .nil)))
      · try simp only [if_neg h2]
        have P3 {hs q} (r : PS F X hs q) := (P2 (.f (nt h2) (.h 38 (.b false) r)))
        by_cases h3 : (a0.f3 != a1.f3) = true
        · try simp only [if_pos h3]
          exact cp (by kernel_rfl) (P3 (.f h3 (.h 49 (.b true) .nil)))
        · try simp only [if_neg h3]
          have P4 {hs q} (r : PS F X hs q) := (P3 (.f (nt h3) (.h 49 (.b false) r)))
          by_cases h4 : (a0.f4 != a1.f4) = true
          · try simp only [if_pos h4]
            exact cp (by kernel_rfl) (P4 (.f h4 (.h 60 (.b true) .nil)))
          · try simp only [if_neg h4]
            by_cases h5 : (a0.f5 != a1.f5) = true
            · try simp only [if_pos h5]
              exact cp (by kernel_rfl) (P4 (.f (nt h4) (.f h5 (.h 60 (.b false) (.h 71 (.b true) .nil)))))
            · try simp only [if_neg h5]
              by_cases h6 : (a0.f6 != a1.f6) = true
              · try simp only [if_pos h6]
                exact cp (by kernel_rfl) (P4 (.f (nt h4) (.f (nt h5) (.f h6 (.h 60 (.b false) (.h 71 (.b false) (.h 82 (.b true) .nil)))))))
              · try simp only [if_neg h6]
                exact cp (by kernel_rfl) (P4 (.f (nt h4) (.f (nt h5) (.f (nt h6) (.h 60 (.b false) (.h 71 (.b false) (.h 82 (.b false) .nil)))))))
open Classical in
theorem eqd36 (a b : K_iisiiii) : m36 a b = decide (a = b) := by
  rw [Bool.eq_iff_iff, decide_eq_true_eq]
  constructor
  · intro h
    unfold m36 at h
    cases a; cases b
    (repeat' split at h) <;> simp_all [ba_eq]
  · rintro rfl
    simp [m36, ba_eq]
/-! loop 21_0 -/
inductive O21_0 where
  | k0 (w0 : Int) (w1 : Bool)
  | k1
def r21_0 (a0 : (List K_iisiiii)) : List K_iisiiii → List K_iisiiii → Int → O21_0
  | x0_21_0 :: l0_21_0, x1_21_0 :: l1_21_0, i_21_0 =>
    if (!(m36 x0_21_0 x1_21_0)) = true then (O21_0.k1) else
    (r21_0 a0 l0_21_0 l1_21_0 (i_21_0 + 1) )
  | _, _, i_21_0 => (O21_0.k0 i_21_0 (decide (i_21_0 < ((List.length (List.map b_iisiiii a0)) : Int))))
def h21_0 (l0_0 : Nat) (l1_0 : Nat) (a0 : (List K_iisiiii)) (a1 : (List K_iisiiii)) (i_21_0 : Int)  : St := ⟨[(0, (.one (.bor l0_0 (List.map b_iisiiii a0)))), (1, (.one (.bor l1_0 (List.map b_iisiiii a1)))), (5, (.one (.val (.int .i64 i_21_0))))], []⟩
def ex21_0 : O21_0 → VX.Exit
  | .k0 _ _ => (.exit 0)
  | .k1 => .ret
def fin21_0 (l0_0 : Nat) (l1_0 : Nat) (a0 : (List K_iisiiii)) (a1 : (List K_iisiiii)) : O21_0 → St
  | .k0 w0 w1 => ⟨[(0, (.one (.bor l0_0 (List.map b_iisiiii a0)))), (1, (.one (.bor l1_0 (List.map b_iisiiii a1)))), (5, (.one (.val (.int .i64 w0)))), (14, (.one (.val (.bool w1))))], []⟩
  | .k1 => ⟨[(4, (.one (.val (.bool false))))], []⟩
theorem t21_0 {l0_0 : Nat} {l1_0 : Nat} {a0 : (List K_iisiiii)} {a1 : (List K_iisiiii)} (hy0 : List.length a0 * 64 ≤ 140737488351232) (hy1 : List.length a1 * 64 ≤ 140737488351232) : ∀ (l0_21_0 : List K_iisiiii) (l1_21_0 : List K_iisiiii) (p_21_0 : List K_iisiiii) (p_21_0_1 : List K_iisiiii) , p_21_0 ++ l0_21_0 = a0 → p_21_0_1 ++ l1_21_0 = a1 → List.length p_21_0 = List.length p_21_0_1 → List.length l0_21_0 = List.length l1_21_0 → Ev F X (.code l21_0 (h21_0 l0_0 l1_0 a0 a1 (List.length p_21_0 : Int) ) (ex21_0 (r21_0 a0 l0_21_0 l1_21_0 (List.length p_21_0 : Int) )) (fin21_0 l0_0 l1_0 a0 a1 (r21_0 a0 l0_21_0 l1_21_0 (List.length p_21_0 : Int) )))
  | [], [], p_21_0, p_21_0_1, hp0, hp1, hq1, hl1 => by
    have hc : ¬ (decide ((List.length p_21_0 : Int) < ((List.length (List.map b_iisiiii a0)) : Int))) = true := by
      rw [← hp0]; simp only [List.length_map, List.length_set, List.length_append, List.length_replicate, List.length_cons, List.length_nil, decide_eq_true_eq]; omega
    have st := ch b21_0 (h21_0 l0_0 l1_0 a0 a1 (List.length p_21_0 : Int) ) ⟨[(0, (.one (.bor l0_0 (List.map b_iisiiii a0)))), (1, (.one (.bor l1_0 (List.map b_iisiiii a1)))), (5, (.one (.val (.int .i64 (List.length p_21_0 : Int))))), (14, (.one (.val (.bool (decide ((List.length p_21_0 : Int) < ((List.length (List.map b_iisiiii a0)) : Int)))))))], []⟩ (.exit 0) 9 (by kernel_rfl) (.f (nt hc) (.h 8 (.b false) .nil))
    rw [show (⟨[(0, (.one (.bor l0_0 (List.map b_iisiiii a0)))), (1, (.one (.bor l1_0 (List.map b_iisiiii a1)))), (5, (.one (.val (.int .i64 (List.length p_21_0 : Int))))), (14, (.one (.val (.bool (decide ((List.length p_21_0 : Int) < ((List.length (List.map b_iisiiii a0)) : Int)))))))], []⟩ : St) = fin21_0 l0_0 l1_0 a0 a1 (.k0 (List.length p_21_0 : Int) (decide ((List.length p_21_0 : Int) < ((List.length (List.map b_iisiiii a0)) : Int)))) from by first | rfl | (unfold fin21_0; simp [byteRows_eq, ints_y, List.take_of_length_le, d_sisi, d_LsisiEi, d_i, d_b, d_s, d_iisiiii, d_iLsELiisiiiiELsisiEi, d_LsisiE, d_LsE, d_LiisiiiiE, d_y, fromBR_sisi, fromBR_i, fromBR_b, fromBR_s, fromBR_iisiiii, fromBR_y]; done)] at st
    exact .loopX st (show ((.exit 0) : VX.Exit) ≠ .normal from by simp)
  | x0_21_0 :: l0_21_0, x1_21_0 :: l1_21_0, p_21_0, p_21_0_1, hp0, hp1, hq1, hl1 => by
    have hc : (decide ((List.length p_21_0 : Int) < ((List.length (List.map b_iisiiii a0)) : Int))) = true := by
      rw [← hp0]; simp only [List.length_map, List.length_set, List.length_append, List.length_replicate, List.length_cons, List.length_nil, decide_eq_true_eq]; omega
    have Hx0_21_0 : (a0)[Int.toNat (List.length p_21_0 : Int)]? = some x0_21_0 := by
      rw [← hp0, Int.toNat_natCast]; simp
    have Hx1_21_0 : (a1)[Int.toNat (List.length p_21_0 : Int)]? = some x1_21_0 := by
      rw [← hp1, hq1, Int.toNat_natCast]; simp
    have hlen : List.length (a0) = List.length p_21_0 + List.length l0_21_0 + 1 := by rw [← hp0]; simp; omega
    have hw : IntKind.wrap .i64 ((List.length p_21_0 : Int) + 1) = (List.length p_21_0 : Int) + 1 := wrap64 (by omega)
    simp only [r21_0]
    have f1 : 0 ≤ (List.length p_21_0 : Int) := (by first | exact True.intro | with_reducible rfl | with_reducible assumption | omega | (simp only [decide_eq_true_eq] at *; omega) | (simp only [List.length_map, List.length_set, List.length_append, List.length_replicate, List.length_cons, List.length_nil]; omega) | (simp; omega) | (simp [List.take_of_length_le]; done) | assumption | trivial | (simp [*, byteRows_eq, ints_y]; done))
    have P1 {hs q} (r : PS F X hs q) := (PS.f hc (.f f1 (.f (mp_ b_iisiiii Hx0_21_0) (.f f1 (.f (mp_ b_iisiiii Hx1_21_0) (.h 8 (.b true) (.h 14 (.row [(.val (.int .i64 x0_21_0.f0)), (.val (.int .i64 x0_21_0.f1)), (.val (.string x0_21_0.f2)), (.val (.int .i64 x0_21_0.f3)), (.val (.int .i64 x0_21_0.f4)), (.val (.int .i64 x0_21_0.f5)), (.val (.int .i64 x0_21_0.f6))]) (.h 22 (.row [(.val (.int .i64 x1_21_0.f0)), (.val (.int .i64 x1_21_0.f1)), (.val (.string x1_21_0.f2)), (.val (.int .i64 x1_21_0.f3)), (.val (.int .i64 x1_21_0.f4)), (.val (.int .i64 x1_21_0.f5)), (.val (.int .i64 x1_21_0.f6))]) (.r 26 [] [] (e36 (a0 := x0_21_0) (a1 := x1_21_0)) r)))))))))
    by_cases h_21_0_1 : (!(m36 x0_21_0 x1_21_0)) = true
    · try simp only [if_pos h_21_0_1]
      have st := ch b21_0 (h21_0 l0_0 l1_0 a0 a1 (List.length p_21_0 : Int) ) ⟨[(4, (.one (.val (.bool false))))], []⟩ .ret 32 (by kernel_rfl) (P1 (.f h_21_0_1 (.h 29 (.b true) .nil)))
      rw [show (⟨[(4, (.one (.val (.bool false))))], []⟩ : St) = fin21_0 l0_0 l1_0 a0 a1 (.k1) from by first | rfl | (unfold fin21_0; simp [byteRows_eq, ints_y, List.take_of_length_le, d_sisi, d_LsisiEi, d_i, d_b, d_s, d_iisiiii, d_iLsELiisiiiiELsisiEi, d_LsisiE, d_LsE, d_LiisiiiiE, d_y, fromBR_sisi, fromBR_i, fromBR_b, fromBR_s, fromBR_iisiiii, fromBR_y]; done)] at st
      exact .loopX st (show (.ret : VX.Exit) ≠ .normal from by simp)
    · try simp only [if_neg h_21_0_1]
      have st := ch b21_0 (h21_0 l0_0 l1_0 a0 a1 (List.length p_21_0 : Int) ) ⟨[(0, (.one (.bor l0_0 (List.map b_iisiiii a0)))), (1, (.one (.bor l1_0 (List.map b_iisiiii a1)))), (5, (.one (.val (.int .i64 (IntKind.wrap .i64 ((List.length p_21_0 : Int) + 1))))))], []⟩ .normal 36 (by kernel_rfl) (P1 (.f (nt h_21_0_1) (.f trivial (.h 29 (.b false) .nil))))
      have ih := t21_0 (l0_0 := l0_0) (l1_0 := l1_0) (a0 := a0) (a1 := a1) hy0 hy1 l0_21_0 l1_21_0 (p_21_0 ++ [x0_21_0]) (p_21_0_1 ++ [x1_21_0])  (by rw [List.append_assoc]; exact hp0) (by rw [List.append_assoc]; exact hp1) (by simp only [List.length_map, List.length_set, List.length_append, List.length_replicate, List.length_cons, List.length_nil]; omega) (by simp only [List.length_map, List.length_set, List.length_append, List.length_replicate, List.length_cons, List.length_nil] at hl1; omega)
      rw [show ((p_21_0 ++ [x0_21_0]).length : Int) = (p_21_0.length : Int) + 1 from by simp] at ih
      rw [show (⟨[(0, (.one (.bor l0_0 (List.map b_iisiiii a0)))), (1, (.one (.bor l1_0 (List.map b_iisiiii a1)))), (5, (.one (.val (.int .i64 (IntKind.wrap .i64 ((List.length p_21_0 : Int) + 1))))))], []⟩ : St) = h21_0 l0_0 l1_0 a0 a1 ((List.length p_21_0 : Int) + 1)  from by first | (unfold h21_0; simp only [hw]; done) | (unfold h21_0; simp only [hw, List.length_map, List.length_set, List.length_append, List.length_replicate, List.length_cons, List.length_nil]; done) | (unfold h21_0; simp [hw, byteRows_eq, ints_y, List.take_of_length_le, d_sisi, d_LsisiEi, d_i, d_b, d_s, d_iisiiii, d_iLsELiisiiiiELsisiEi, d_LsisiE, d_LsE, d_LiisiiiiE, d_y, fromBR_sisi, fromBR_i, fromBR_b, fromBR_s, fromBR_iisiiii, fromBR_y]; done)] at st
      exact .loopN st ih
/-! loop.example/g00539/laws.eqActS -/
def m21 (a0 : (List K_iisiiii)) (a1 : (List K_iisiiii)) : Bool :=
  if (((List.length (List.map b_iisiiii a0)) : Int) != ((List.length (List.map b_iisiiii a1)) : Int)) = true then false else
  (match r21_0 a0 a0 a1 0 with | .k0 w0_21_0_1 w1_21_0_1 => true | .k1 => false)
theorem e21 {l0_0 : Nat} {a0 : (List K_iisiiii)} {l1_0 : Nat} {a1 : (List K_iisiiii)} (hy0 : List.length a0 * 64 ≤ 140737488351232) (hy1 : List.length a1 * 64 ≤ 140737488351232) : Ev F X (.call 21 [(.one (.bor l0_0 (List.map b_iisiiii a0))), (.one (.bor l1_0 (List.map b_iisiiii a1)))] [] [] [(.one (.val (.bool (m21 a0 a1))))]) := by
  unfold m21
  by_cases h0 : (((List.length (List.map b_iisiiii a0)) : Int) != ((List.length (List.map b_iisiiii a1)) : Int)) = true
  · try simp only [if_pos h0]
    exact cp (by kernel_rfl) (.f h0 (.h 12 (.b true) .nil))
  · try simp only [if_neg h0]
    cases h1 : r21_0 a0 a0 a1 0 with
    | k0 w0_21_0_1 w1_21_0_1 =>
      try dsimp only
      have f1 : (⟨[(0, (.one (.bor l0_0 (List.map b_iisiiii a0)))), (1, (.one (.bor l1_0 (List.map b_iisiiii a1)))), (5, (.one (.val (.int .i64 0))))], []⟩ : St) = h21_0 l0_0 l1_0 a0 a1 0  := (by first | rfl | (unfold h21_0; simp [byteRows_eq, ints_y, List.take_of_length_le, d_sisi, d_LsisiEi, d_i, d_b, d_s, d_iisiiii, d_iLsELiisiiiiELsisiEi, d_LsisiE, d_LsE, d_LiisiiiiE, d_y, fromBR_sisi, fromBR_i, fromBR_b, fromBR_s, fromBR_iisiiii, fromBR_y]; done))
      exact cp (by kernel_rfl) (.f (nt h0) (.f f1 (.f (ev_ (e := ex21_0) (g := (fin21_0 l0_0 l1_0 a0 a1)) h1 (t21_0 (l0_0 := l0_0) (l1_0 := l1_0) (a0 := a0) (a1 := a1) (by first | assumption | omega) (by first | assumption | omega) a0 a1 [] []  rfl rfl rfl (by first | omega | (simp at *; omega)))) (.h 12 (.b false) (.h 15 (.loop (h21_0 l0_0 l1_0 a0 a1 0 ) (.exit 0) ⟨[(0, (.one (.bor l0_0 (List.map b_iisiiii a0)))), (1, (.one (.bor l1_0 (List.map b_iisiiii a1)))), (5, (.one (.val (.int .i64 w0_21_0_1)))), (14, (.one (.val (.bool w1_21_0_1))))], []⟩) .nil)))))
    | k1 =>
      try dsimp only
      have f1 : (⟨[(0, (.one (.bor l0_0 (List.map b_iisiiii a0)))), (1, (.one (.bor l1_0 (List.map b_iisiiii a1)))), (5, (.one (.val (.int .i64 0))))], []⟩ : St) = h21_0 l0_0 l1_0 a0 a1 0  := (by first | rfl | (unfold h21_0; simp [byteRows_eq, ints_y, List.take_of_length_le, d_sisi, d_LsisiEi, d_i, d_b, d_s, d_iisiiii, d_iLsELiisiiiiELsisiEi, d_LsisiE, d_LsE, d_LiisiiiiE, d_y, fromBR_sisi, fromBR_i, fromBR_b, fromBR_s, fromBR_iisiiii, fromBR_y]; done))
      exact cp (by kernel_rfl) (.f (nt h0) (.f f1 (.f (ev_ (e := ex21_0) (g := (fin21_0 l0_0 l1_0 a0 a1)) h1 (t21_0 (l0_0 := l0_0) (l1_0 := l1_0) (a0 := a0) (a1 := a1) (by first | assumption | omega) (by first | assumption | omega) a0 a1 [] []  rfl rfl rfl (by first | omega | (simp at *; omega)))) (.h 12 (.b false) (.h 15 (.loop (h21_0 l0_0 l1_0 a0 a1 0 ) .ret ⟨[(4, (.one (.val (.bool false))))], []⟩) .nil)))))
theorem eqr21_0 (a0 : (List K_iisiiii)) : ∀ (l m : List K_iisiiii) (i : Int), l.length = m.length → (r21_0 a0 l m i = .k1 ∧ l ≠ m) ∨ (∃ w0 w1, r21_0 a0 l m i = .k0 w0 w1 ∧ l = m)
  | [], [], i, _ => .inr ⟨_, _, rfl, rfl⟩
  | [], _ :: _, i, h => by simp at h
  | _ :: _, [], i, h => by simp at h
  | x :: l, y :: m, i, h => by
    have ih := eqr21_0 a0 l m (i + 1) (by simpa using h)
    by_cases hxy : x = y
    · subst hxy
      have e : r21_0 a0 (x :: l) (x :: m) i = r21_0 a0 l m (i + 1) := by simp [r21_0, ba_eq, eqd36]
      rw [e]
      rcases ih with ⟨h1, h2⟩ | ⟨w0, w1, h1, h2⟩
      · exact .inl ⟨h1, by simp [h2]⟩
      · exact .inr ⟨_, _, h1, by rw [h2]⟩
    · have e : r21_0 a0 (x :: l) (y :: m) i = .k1 := by
        simp only [r21_0]
        first
          | ((repeat' split) <;> simp_all [ba_eq, eqd36]; done)
          | (cases x; cases y; (repeat' split) <;> simp_all [ba_eq, eqd36])
      exact .inl ⟨e, by simp [hxy]⟩
open Classical in
theorem eqd21 (a b : (List K_iisiiii)) : m21 a b = decide (a = b) := by
  rw [Bool.eq_iff_iff, decide_eq_true_eq]
  unfold m21
  by_cases hl : List.length a = List.length b
  · rcases eqr21_0 a a b 0 hl with ⟨h1, h2⟩ | ⟨w0, w1, h1, h2⟩
    · simp only [h1, List.length_map, hl]
      first
        | (simp [h2, ba_eq, eqd36]; done)
        | (cases a; cases b; simp_all [ba_eq, eqd36]; done)
        | (cases a; cases b; (repeat' split) <;> simp_all [ba_eq, eqd36])
    · simp only [h1, List.length_map, hl]
      first
        | (simp [h2, ba_eq, eqd36]; done)
        | (cases a; cases b; simp_all [ba_eq, eqd36]; done)
        | (cases a; cases b; (repeat' split) <;> simp_all [ba_eq, eqd36])
  · have hn : a ≠ b := by rintro rfl; exact hl rfl
    simp only [List.length_map]
    first
      | (simp [hn, hl, ba_eq, eqd36]; done)
      | ((repeat' split) <;> simp_all [ba_eq, eqd36]; done)
      | (simp [hn]; omega)
/-! loop.example/g00539/laws.eqServerResult -/
def m8 (a0 : K_iLsELiisiiiiELsisiEi) (a1 : K_iLsELiisiiiiELsisiEi) : Bool :=
  if (a0.f0 != a1.f0) = true then false else
  if (!(m20 a0.f1 a1.f1)) = true then false else
    if (!(m21 a0.f2 a1.f2)) = true then false else
      if (!(m9 (K_LsisiEi.mk a0.f3 a0.f4) (K_LsisiEi.mk a1.f3 a1.f4))) = true then false else
        true
theorem e8 {l0_1 : Nat} {l0_2 : Nat} {l0_3 : Nat} {a0 : K_iLsELiisiiiiELsisiEi} {l1_1 : Nat} {l1_2 : Nat} {l1_3 : Nat} {a1 : K_iLsELiisiiiiELsisiEi} (hy0 : List.length a0.f1 * 16 ≤ 140737488351232) (hy1 : List.length a0.f2 * 64 ≤ 140737488351232) (hy2 : List.length a0.f3 * 48 ≤ 140737488351232) (hy3 : List.length a1.f1 * 16 ≤ 140737488351232) (hy4 : List.length a1.f2 * 64 ≤ 140737488351232) (hy5 : List.length a1.f3 * 48 ≤ 140737488351232) : Ev F X (.call 8 [(.agg [(.val (.int .i64 a0.f0)), (.bor l0_1 (List.map b_s a0.f1)), (.bor l0_2 (List.map b_iisiiii a0.f2)), (.bor l0_3 (List.map b_sisi a0.f3)), (.val (.int .i64 a0.f4))]), (.agg [(.val (.int .i64 a1.f0)), (.bor l1_1 (List.map b_s a1.f1)), (.bor l1_2 (List.map b_iisiiii a1.f2)), (.bor l1_3 (List.map b_sisi a1.f3)), (.val (.int .i64 a1.f4))])] [] [] [(.one (.val (.bool (m8 a0 a1))))]) := by
  unfold m8
  by_cases h0 : (a0.f0 != a1.f0) = true
  · try simp only [if_pos h0]
    exact cp (by kernel_rfl) (.f h0 (.h 16 (.b true) .nil))
  · try simp only [if_neg h0]
    have P1 {hs q} (r : PS F X hs q) := (PS.f (nt h0) (.h 16 (.b false) (.r 26 [] [] (e20 (l0_0 := (l0_1 + 1)) (l1_0 := (l1_1 + 1)) (a0 := a0.f1) (a1 := a1.f1) (by first | with_reducible assumption | omega | assumption | (simp only [List.length_map]; omega) | (simp; omega)) (by first | with_reducible assumption | omega | assumption | (simp only [List.length_map]; omega) | (simp; omega))) r)))
    by_cases h1 : (!(m20 a0.f1 a1.f1)) = true
    · try simp only [if_pos h1]
      exact cp (by kernel_rfl) (P1 (.f h1 (.h 29 (.b true) .nil)))
    · try simp only [if_neg h1]
      have P2 {hs q} (r : PS F X hs q) := (P1 (.f (nt h1) (.h 29 (.b false) (.r 39 [] [] (e21 (l0_0 := (l0_2 + 1)) (l1_0 := (l1_2 + 1)) (a0 := a0.f2) (a1 := a1.f2) (by first | with_reducible assumption | omega | assumption | (simp only [List.length_map]; omega) | (simp; omega)) (by first | with_reducible assumption | omega | assumption | (simp only [List.length_map]; omega) | (simp; omega))) r))))
      by_cases h2 : (!(m21 a0.f2 a1.f2)) = true
      · try simp only [if_pos h2]
        exact cp (by kernel_rfl) (P2 (.f h2 (.h 42 (.b true) .nil)))
      · try simp only [if_neg h2]
        have P3 {hs q} (r : PS F X hs q) := (P2 (.f (nt h2) (.h 42 (.b false) (.r 52 [] [] (e9 (l0_0 := (l0_3 + 1)) (l1_0 := (l1_3 + 1)) (a0 := (K_LsisiEi.mk a0.f3 a0.f4)) (a1 := (K_LsisiEi.mk a1.f3 a1.f4)) (by first | with_reducible assumption | omega | assumption | (simp only [List.length_map]; omega) | (simp; omega)) (by first | with_reducible assumption | omega | assumption | (simp only [List.length_map]; omega) | (simp; omega))) r))))
        by_cases h3 : (!(m9 (K_LsisiEi.mk a0.f3 a0.f4) (K_LsisiEi.mk a1.f3 a1.f4))) = true
        · try simp only [if_pos h3]
          exact cp (by kernel_rfl) (P3 (.f h3 (.h 55 (.b true) .nil)))
        · try simp only [if_neg h3]
          exact cp (by kernel_rfl) (P3 (.f (nt h3) (.h 55 (.b false) .nil)))
open Classical in
theorem eqd8 (a b : K_iLsELiisiiiiELsisiEi) : m8 a b = decide (a = b) := by
  rw [Bool.eq_iff_iff, decide_eq_true_eq]
  constructor
  · intro h
    unfold m8 at h
    cases a; cases b
    (repeat' split at h) <;> simp_all [ba_eq, eqd9, eqd20, eqd21]
  · rintro rfl
    simp [m8, ba_eq, eqd9, eqd20, eqd21]
/-! loop 38_0 -/
inductive O38_0 where
  | k0 (w0 : Int) (w1 : ByteArray) (w2 : Bool)
def r38_0  : Nat → Int → ByteArray → O38_0
  | n_38_0 + 1, v0_38_0, v1_38_0 =>
    if (decide (v0_38_0 > 0)) = true then (r38_0 n_38_0 (IntKind.wrap .i64 (Int.tdiv v0_38_0 10)) ((bytesOf [(IntKind.wrap .u8 ((IntKind.wrap .i64 (48 + (Int.tmod v0_38_0 10)))))]) ++ v1_38_0)) else
    (O38_0.k0 v0_38_0 v1_38_0 (decide (v0_38_0 > 0)))
  | 0, v0_38_0, v1_38_0 => (O38_0.k0 v0_38_0 v1_38_0 (decide (v0_38_0 > 0)))
def h38_0 (a0 : Int) (v0_38_0 : Int) (v1_38_0 : ByteArray) : St := ⟨[(0, (.one (.val (.int .i64 v0_38_0)))), (3, (.one (.val (.string v1_38_0))))], []⟩
def ex38_0 : O38_0 → VX.Exit
  | .k0 _ _ _ => (.exit 0)
def fin38_0 (a0 : Int) : O38_0 → St
  | .k0 w0 w1 w2 => ⟨[(0, (.one (.val (.int .i64 w0)))), (3, (.one (.val (.string w1)))), (7, (.one (.val (.bool w2))))], []⟩
theorem t38_0 {a0 : Int}  : ∀ (n_38_0 : Nat) (v0_38_0 : Int) (v1_38_0 : ByteArray), ByteArray.size v1_38_0 + pot64 v0_38_0 ≤ 100 → fuel64 v0_38_0 ≤ n_38_0 → Ev F X (.code l38_0 (h38_0 a0 v0_38_0 v1_38_0) (ex38_0 (r38_0 n_38_0 v0_38_0 v1_38_0)) (fin38_0 a0 (r38_0 n_38_0 v0_38_0 v1_38_0)))
  | 0, v0_38_0, v1_38_0, hi0, hn => by
    have hc : ¬ (decide (v0_38_0 > 0)) = true := by first | (exact fuel64_zero hn) | (simp only [decide_eq_true_eq] at *; omega) | (simp at *; omega)
    have st := ch b38_0 (h38_0 a0 v0_38_0 v1_38_0) ⟨[(0, (.one (.val (.int .i64 v0_38_0)))), (3, (.one (.val (.string v1_38_0)))), (7, (.one (.val (.bool (decide (v0_38_0 > 0))))))], []⟩ (.exit 0) 5 (by kernel_rfl) (.f (nt hc) (.h 4 (.b false) .nil))
    rw [show (⟨[(0, (.one (.val (.int .i64 v0_38_0)))), (3, (.one (.val (.string v1_38_0)))), (7, (.one (.val (.bool (decide (v0_38_0 > 0))))))], []⟩ : St) = fin38_0 a0 (.k0 v0_38_0 v1_38_0 (decide (v0_38_0 > 0))) from by first | rfl | (unfold fin38_0; simp [byteRows_eq, ints_y, List.take_of_length_le, d_sisi, d_LsisiEi, d_i, d_b, d_s, d_iisiiii, d_iLsELiisiiiiELsisiEi, d_LsisiE, d_LsE, d_LiisiiiiE, d_y, fromBR_sisi, fromBR_i, fromBR_b, fromBR_s, fromBR_iisiiii, fromBR_y]; done)] at st
    exact .loopX st (show ((.exit 0) : VX.Exit) ≠ .normal from by simp)
  | n_38_0 + 1, v0_38_0, v1_38_0, hi0, hn => by
    simp only [r38_0]
    by_cases h_38_0_0 : (decide (v0_38_0 > 0)) = true
    · try simp only [if_pos h_38_0_0]
      have f1 : (10 : Int) ≠ 0 := (by first | exact True.intro | with_reducible rfl | with_reducible assumption | omega | (simp only [bytesOf_size, List.length_cons, List.length_nil]; omega) | (show 1 + _ ≤ _; omega) | (simp only [List.length_map, List.length_set, List.length_append, List.length_replicate, List.length_cons, List.length_nil]; omega) | (simp; done) | (simp; omega) | (simp [List.take_of_length_le]; done) | (simp [← List.map_take, ← List.map_drop]; done) | assumption | trivial | (simp [*, byteRows_eq, ints_y]; done))
      have f3 : 1 ≤ 1 := (by omega)
      have f4 : rowsInts .u8 [[(.val (.int .u8 (IntKind.wrap .u8 ((IntKind.wrap .i64 (48 + (Int.tmod v0_38_0 10)))))))]] = some [(IntKind.wrap .u8 ((IntKind.wrap .i64 (48 + (Int.tmod v0_38_0 10)))))] := (by first | (simp only [List.drop_zero, tbr, tsi, ly_y, ly0_y, ← List.map_append, List.take_length, List.cons_append, List.nil_append, List.append_assoc, toBR_y, fullR_y, pureR_y, copy_y, ints_y]; done) | exact True.intro | with_reducible rfl | with_reducible assumption | omega | (simp only [bytesOf_size, List.length_cons, List.length_nil]; omega) | (show 1 + _ ≤ _; omega) | (simp only [List.length_map, List.length_set, List.length_append, List.length_replicate, List.length_cons, List.length_nil]; omega) | (simp; done) | (simp; omega) | (simp [List.take_of_length_le]; done) | (simp [← List.map_take, ← List.map_drop]; done) | assumption | trivial | (simp [*, byteRows_eq, ints_y]; done))
      have f5 : ByteArray.size (bytesOf [(IntKind.wrap .u8 ((IntKind.wrap .i64 (48 + (Int.tmod v0_38_0 10)))))]) + ByteArray.size v1_38_0 ≤ 9223372036854775807 := (by first | exact True.intro | with_reducible rfl | with_reducible assumption | omega | (simp only [bytesOf_size, List.length_cons, List.length_nil]; omega) | (show 1 + _ ≤ _; omega) | (simp only [decide_eq_true_eq] at *; omega) | (simp only [List.length_map, List.length_set, List.length_append, List.length_replicate, List.length_cons, List.length_nil]; omega) | (simp; omega) | (simp [List.take_of_length_le]; done) | assumption | trivial | (simp [*, byteRows_eq, ints_y]; done))
      have st := ch b38_0 (h38_0 a0 v0_38_0 v1_38_0) ⟨[(0, (.one (.val (.int .i64 (IntKind.wrap .i64 (Int.tdiv v0_38_0 10)))))), (3, (.one (.val (.string ((bytesOf [(IntKind.wrap .u8 ((IntKind.wrap .i64 (48 + (Int.tmod v0_38_0 10)))))]) ++ v1_38_0)))))], []⟩ .normal 29 (by kernel_rfl) (.f h_38_0_0 (.f f1 (.f trivial (.f f3 (.f f4 (.f f5 (.f f1 (.h 4 (.b true) (.h 16 (.ints [(IntKind.wrap .u8 ((IntKind.wrap .i64 (48 + (Int.tmod v0_38_0 10)))))]) .nil)))))))))
      have ih := t38_0 (a0 := a0)  n_38_0 (IntKind.wrap .i64 (Int.tdiv v0_38_0 10)) ((bytesOf [(IntKind.wrap .u8 ((IntKind.wrap .i64 (48 + (Int.tmod v0_38_0 10)))))]) ++ v1_38_0) (by first | assumption | omega | (simp only [List.length_map, List.length_set, List.length_append, List.length_replicate, List.length_cons, List.length_nil]; omega) | (have q := pot64_tdiv (x := v0_38_0) (by assumption); simp only [ByteArray.size_append, bytesOf_size, List.length_cons, List.length_nil]; omega) | (simp only [decide_eq_true_eq] at *; omega)) (by first | (exact fuel64_tdiv (by assumption) hn) | omega | (simp only [decide_eq_true_eq] at *; omega) | (simp at *; omega))
      rw [show (⟨[(0, (.one (.val (.int .i64 (IntKind.wrap .i64 (Int.tdiv v0_38_0 10)))))), (3, (.one (.val (.string ((bytesOf [(IntKind.wrap .u8 ((IntKind.wrap .i64 (48 + (Int.tmod v0_38_0 10)))))]) ++ v1_38_0)))))], []⟩ : St) = h38_0 a0 (IntKind.wrap .i64 (Int.tdiv v0_38_0 10)) ((bytesOf [(IntKind.wrap .u8 ((IntKind.wrap .i64 (48 + (Int.tmod v0_38_0 10)))))]) ++ v1_38_0) from by first | rfl | (unfold h38_0; simp only [List.length_map, List.length_set, List.length_append, List.length_replicate, List.length_cons, List.length_nil]; done) | (unfold h38_0; simp [byteRows_eq, ints_y, List.take_of_length_le, d_sisi, d_LsisiEi, d_i, d_b, d_s, d_iisiiii, d_iLsELiisiiiiELsisiEi, d_LsisiE, d_LsE, d_LiisiiiiE, d_y, fromBR_sisi, fromBR_i, fromBR_b, fromBR_s, fromBR_iisiiii, fromBR_y]; done)] at st
      exact .loopN st ih
    · try simp only [if_neg h_38_0_0]
      have st := ch b38_0 (h38_0 a0 v0_38_0 v1_38_0) ⟨[(0, (.one (.val (.int .i64 v0_38_0)))), (3, (.one (.val (.string v1_38_0)))), (7, (.one (.val (.bool (decide (v0_38_0 > 0))))))], []⟩ (.exit 0) 5 (by kernel_rfl) (.f (nt h_38_0_0) (.h 4 (.b false) .nil))
      rw [show (⟨[(0, (.one (.val (.int .i64 v0_38_0)))), (3, (.one (.val (.string v1_38_0)))), (7, (.one (.val (.bool (decide (v0_38_0 > 0))))))], []⟩ : St) = fin38_0 a0 (.k0 v0_38_0 v1_38_0 (decide (v0_38_0 > 0))) from by first | rfl | (unfold fin38_0; simp [byteRows_eq, ints_y, List.take_of_length_le, d_sisi, d_LsisiEi, d_i, d_b, d_s, d_iisiiii, d_iLsELiisiiiiELsisiEi, d_LsisiE, d_LsE, d_LiisiiiiE, d_y, fromBR_sisi, fromBR_i, fromBR_b, fromBR_s, fromBR_iisiiii, fromBR_y]; done)] at st
      exact .loopX st (show ((.exit 0) : VX.Exit) ≠ .normal from by simp)
/-! loop 38_0, behind -/
def post38_0 (a0 : Int) : O38_0 → Prop
  | .k0 _ w1 _ => ByteArray.size w1 ≤ 100
theorem z38_0 {a0 : Int}  : ∀ (n_38_0 : Nat) (v0_38_0 : Int) (v1_38_0 : ByteArray), ByteArray.size v1_38_0 + pot64 v0_38_0 ≤ 100 → post38_0 a0 (r38_0 n_38_0 v0_38_0 v1_38_0)
  | 0, v0_38_0, v1_38_0, hi0 => by
    simp only [r38_0]
    first | trivial | (show _ ; simp only [post38_0]; omega) | (simp only [post38_0] at *; omega) | (have q := pot64_tdiv (x := v0_38_0) (by assumption); simp only [ByteArray.size_append, bytesOf_size, List.length_cons, List.length_nil]; omega) | (simp only [decide_eq_true_eq] at *; omega)
  | n_38_0 + 1, v0_38_0, v1_38_0, hi0 => by
    simp only [r38_0]
    by_cases h_38_0_0 : (decide (v0_38_0 > 0)) = true
    · try simp only [if_pos h_38_0_0]
      exact z38_0 (a0 := a0) n_38_0 (IntKind.wrap .i64 (Int.tdiv v0_38_0 10)) ((bytesOf [(IntKind.wrap .u8 ((IntKind.wrap .i64 (48 + (Int.tmod v0_38_0 10)))))]) ++ v1_38_0) (by first | assumption | omega | (simp only [List.length_map, List.length_set, List.length_append, List.length_replicate, List.length_cons, List.length_nil]; omega) | (have q := pot64_tdiv (x := v0_38_0) (by assumption); simp only [ByteArray.size_append, bytesOf_size, List.length_cons, List.length_nil]; omega) | (simp only [decide_eq_true_eq] at *; omega))
    · try simp only [if_neg h_38_0_0]
      first | trivial | (show _ ; simp only [post38_0]; omega) | (simp only [post38_0] at *; omega) | (have q := pot64_tdiv (x := v0_38_0) (by assumption); simp only [ByteArray.size_append, bytesOf_size, List.length_cons, List.length_nil]; omega) | (simp only [decide_eq_true_eq] at *; omega)
/-! loop.example/g00539/laws.markText -/
def m38 (a0 : Int) : ByteArray :=
  if (decide (a0 ≤ 0)) = true then (⟨#[109, 48]⟩ : ByteArray) else
  (match r38_0 (fuel64 a0) a0 (⟨#[]⟩ : ByteArray) with | .k0 w0_38_0_1 w1_38_0_1 w2_38_0_1 => ((⟨#[109]⟩ : ByteArray) ++ w1_38_0_1))
theorem e38 {a0 : Int} : Ev F X (.call 38 [(.one (.val (.int .i64 a0)))] [] [] [(.one (.val (.string (m38 a0))))]) := by
  unfold m38
  by_cases h0 : (decide (a0 ≤ 0)) = true
  · try simp only [if_pos h0]
    exact cp (by kernel_rfl) (.f h0 (.h 6 (.b true) .nil))
  · try simp only [if_neg h0]
    cases h1 : r38_0 (fuel64 a0) a0 (⟨#[]⟩ : ByteArray) with
    | k0 w0_38_0_1 w1_38_0_1 w2_38_0_1 =>
      try dsimp only
      have zh1 := z38_0 (a0 := a0) (fuel64 a0) a0 (⟨#[]⟩ : ByteArray) (by first | rfl | omega | (have q := pot64_le a0; show 0 + pot64 a0 ≤ 100; omega) | (simp only [List.length_map, List.length_set, List.length_append, List.length_replicate, List.length_cons, List.length_nil]; done) | (simp only [List.length_map, List.length_set, List.length_append, List.length_replicate, List.length_cons, List.length_nil]; omega) | (simp; done)); rw [h1] at zh1; simp only [post38_0] at zh1
      have f1 : (⟨[(0, (.one (.val (.int .i64 a0)))), (3, (.one (.val (.string (⟨#[]⟩ : ByteArray)))))], []⟩ : St) = h38_0 a0 a0 (⟨#[]⟩ : ByteArray) := (by first | rfl | (unfold h38_0; simp [byteRows_eq, ints_y, List.take_of_length_le, d_sisi, d_LsisiEi, d_i, d_b, d_s, d_iisiiii, d_iLsELiisiiiiELsisiEi, d_LsisiE, d_LsE, d_LiisiiiiE, d_y, fromBR_sisi, fromBR_i, fromBR_b, fromBR_s, fromBR_iisiiii, fromBR_y]; done))
      have f3 : ByteArray.size (⟨#[109]⟩ : ByteArray) + ByteArray.size w1_38_0_1 ≤ 9223372036854775807 := (by first | exact True.intro | with_reducible rfl | with_reducible assumption | omega | (simp only [bytesOf_size, List.length_cons, List.length_nil]; omega) | (show 1 + _ ≤ _; omega) | (simp only [decide_eq_true_eq] at *; omega) | (simp only [List.length_map, List.length_set, List.length_append, List.length_replicate, List.length_cons, List.length_nil]; omega) | (simp; omega) | (simp [List.take_of_length_le]; done) | assumption | trivial | (simp [*, byteRows_eq, ints_y]; done))
      exact cp (by kernel_rfl) (.f (nt h0) (.f f1 (.f (ev_ (e := ex38_0) (g := (fin38_0 a0)) h1 (t38_0 (a0 := a0)  (fuel64 a0) a0 (⟨#[]⟩ : ByteArray)  (by first | rfl | omega | (have q := pot64_le a0; show 0 + pot64 a0 ≤ 100; omega) | (simp only [List.length_map, List.length_set, List.length_append, List.length_replicate, List.length_cons, List.length_nil]; done) | (simp only [List.length_map, List.length_set, List.length_append, List.length_replicate, List.length_cons, List.length_nil]; omega) | (simp; done)) (Nat.le_refl _))) (.f f3 (.h 6 (.b false) (.h 9 (.loop (h38_0 a0 a0 (⟨#[]⟩ : ByteArray)) (.exit 0) ⟨[(0, (.one (.val (.int .i64 w0_38_0_1)))), (3, (.one (.val (.string w1_38_0_1)))), (7, (.one (.val (.bool w2_38_0_1))))], []⟩) .nil))))))
/-! loop 23_0 -/
inductive O23_0 where
  | k0 (w0 : List K_sisi) (w1 : Int) (w2 : Int) (w3 : Bool)
def r23_0 (a0 : (List K_sisi)) : List K_sisi → Int → List K_sisi → Int → O23_0
  | x0_23_0 :: l0_23_0, i_23_0, v0_23_0, v1_23_0 =>
    (r23_0 a0 l0_23_0 (i_23_0 + 1) (List.set v0_23_0 (Int.toNat i_23_0) (K_sisi.mk (m38 v1_23_0) (IntKind.wrap .i64 (v1_23_0 + 1)) (m38 (IntKind.wrap .i64 ((IntKind.wrap .i64 (v1_23_0 + 1)) + 1))) (IntKind.wrap .i64 ((IntKind.wrap .i64 ((IntKind.wrap .i64 (v1_23_0 + 1)) + 1)) + 1)))) (IntKind.wrap .i64 ((IntKind.wrap .i64 ((IntKind.wrap .i64 ((IntKind.wrap .i64 (v1_23_0 + 1)) + 1)) + 1)) + 1)))
  | [], i_23_0, v0_23_0, v1_23_0 => (O23_0.k0 v0_23_0 v1_23_0 i_23_0 (decide (i_23_0 < ((List.length (List.map d_sisi a0)) : Int))))
def h23_0 (a0 : (List K_sisi)) (a1 : Int) (i_23_0 : Int) (v0_23_0 : List K_sisi) (v1_23_0 : Int) : St := ⟨[(0, (.one (.ref ⟨(0, 0, 0), [], 0, (List.length (List.map d_sisi a0))⟩))), (1, (.one (.val (.int .i64 v1_23_0)))), (5, (.one (.val (.int .i64 i_23_0))))], [((0, 0, 0), .live ⟨4, (List.map d_sisi v0_23_0), []⟩)]⟩
def ex23_0 : O23_0 → VX.Exit
  | .k0 _ _ _ _ => (.exit 0)
def fin23_0 (a0 : (List K_sisi)) (a1 : Int) : O23_0 → St
  | .k0 w0 w1 w2 w3 => ⟨[(0, (.one (.ref ⟨(0, 0, 0), [], 0, (List.length (List.map d_sisi a0))⟩))), (1, (.one (.val (.int .i64 w1)))), (5, (.one (.val (.int .i64 w2)))), (9, (.one (.val (.bool w3))))], [((0, 0, 0), .live ⟨4, (List.map d_sisi w0), []⟩)]⟩
theorem t23_0 {a0 : (List K_sisi)} {a1 : Int} (hy0 : List.length a0 * 48 ≤ 140737488351232) : ∀ (l0_23_0 : List K_sisi) (p_23_0 : List K_sisi) (v0_23_0 : List K_sisi) (v1_23_0 : Int), p_23_0 ++ l0_23_0 = a0 → List.length v0_23_0 = (List.length (List.map d_sisi a0)) → List.drop (List.length p_23_0) v0_23_0 = l0_23_0 → Ev F X (.code l23_0 (h23_0 a0 a1 (List.length p_23_0 : Int) v0_23_0 v1_23_0) (ex23_0 (r23_0 a0 l0_23_0 (List.length p_23_0 : Int) v0_23_0 v1_23_0)) (fin23_0 a0 a1 (r23_0 a0 l0_23_0 (List.length p_23_0 : Int) v0_23_0 v1_23_0)))
  | [], p_23_0, v0_23_0, v1_23_0, hp0, hi0, hi1 => by
    have hc : ¬ (decide ((List.length p_23_0 : Int) < ((List.length (List.map d_sisi a0)) : Int))) = true := by
      rw [← hp0]; simp only [List.length_map, List.length_set, List.length_append, List.length_replicate, List.length_cons, List.length_nil, decide_eq_true_eq]; omega
    have hj0 := hi0; try simp only [List.length_map, List.length_set, List.length_append, List.length_replicate, List.length_cons, List.length_nil, Int.toNat_natCast] at hj0
    have hj1 := hi1; try simp only [List.length_map, List.length_set, List.length_append, List.length_replicate, List.length_cons, List.length_nil, Int.toNat_natCast] at hj1
    have st := ch b23_0 (h23_0 a0 a1 (List.length p_23_0 : Int) v0_23_0 v1_23_0) ⟨[(0, (.one (.ref ⟨(0, 0, 0), [], 0, (List.length (List.map d_sisi a0))⟩))), (1, (.one (.val (.int .i64 v1_23_0)))), (5, (.one (.val (.int .i64 (List.length p_23_0 : Int))))), (9, (.one (.val (.bool (decide ((List.length p_23_0 : Int) < ((List.length (List.map d_sisi a0)) : Int)))))))], [((0, 0, 0), .live ⟨4, (List.map d_sisi v0_23_0), []⟩)]⟩ (.exit 0) 9 (by kernel_rfl) (.f (nt hc) (.h 8 (.b false) .nil))
    rw [show (⟨[(0, (.one (.ref ⟨(0, 0, 0), [], 0, (List.length (List.map d_sisi a0))⟩))), (1, (.one (.val (.int .i64 v1_23_0)))), (5, (.one (.val (.int .i64 (List.length p_23_0 : Int))))), (9, (.one (.val (.bool (decide ((List.length p_23_0 : Int) < ((List.length (List.map d_sisi a0)) : Int)))))))], [((0, 0, 0), .live ⟨4, (List.map d_sisi v0_23_0), []⟩)]⟩ : St) = fin23_0 a0 a1 (.k0 v0_23_0 v1_23_0 (List.length p_23_0 : Int) (decide ((List.length p_23_0 : Int) < ((List.length (List.map d_sisi a0)) : Int)))) from by first | rfl | (unfold fin23_0; simp [byteRows_eq, ints_y, List.take_of_length_le, d_sisi, d_LsisiEi, d_i, d_b, d_s, d_iisiiii, d_iLsELiisiiiiELsisiEi, d_LsisiE, d_LsE, d_LiisiiiiE, d_y, fromBR_sisi, fromBR_i, fromBR_b, fromBR_s, fromBR_iisiiii, fromBR_y]; done)] at st
    exact .loopX st (show ((.exit 0) : VX.Exit) ≠ .normal from by simp)
  | x0_23_0 :: l0_23_0, p_23_0, v0_23_0, v1_23_0, hp0, hi0, hi1 => by
    have hc : (decide ((List.length p_23_0 : Int) < ((List.length (List.map d_sisi a0)) : Int))) = true := by
      rw [← hp0]; simp only [List.length_map, List.length_set, List.length_append, List.length_replicate, List.length_cons, List.length_nil, decide_eq_true_eq]; omega
    have Hx0_23_0 : (a0)[Int.toNat (List.length p_23_0 : Int)]? = some x0_23_0 := by
      rw [← hp0, Int.toNat_natCast]; simp
    have hlen : List.length (a0) = List.length p_23_0 + List.length l0_23_0 + 1 := by rw [← hp0]; simp; omega
    have hw : IntKind.wrap .i64 ((List.length p_23_0 : Int) + 1) = (List.length p_23_0 : Int) + 1 := wrap64 (by omega)
    have hj0 := hi0; try simp only [List.length_map, List.length_set, List.length_append, List.length_replicate, List.length_cons, List.length_nil, Int.toNat_natCast] at hj0
    have hj1 := hi1; try simp only [List.length_map, List.length_set, List.length_append, List.length_replicate, List.length_cons, List.length_nil, Int.toNat_natCast] at hj1
    have Hv0_23_0 : v0_23_0[Int.toNat (List.length p_23_0 : Int)]? = some x0_23_0 := by rw [Int.toNat_natCast]; exact drop_at hi1
    simp only [r23_0]
    have f2 : 0 + (List.length (List.map d_sisi a0)) ≤ (List.length (List.map d_sisi v0_23_0)) := (by first | exact True.intro | with_reducible rfl | with_reducible assumption | omega | (simp only [decide_eq_true_eq] at *; omega) | (simp only [List.length_map]; omega) | (simp; omega) | (simp [List.take_of_length_le]; done) | assumption | trivial | (simp [*, b_sisi, d_sisi, byteRows_eq, ints_y]; done))
    have f3 : 0 ≤ (List.length p_23_0 : Int) ∧ (List.length p_23_0 : Int) < ((List.length (List.map d_sisi a0)) : Int) := (by first | exact True.intro | with_reducible rfl | with_reducible assumption | omega | (simp only [decide_eq_true_eq] at *; omega) | (simp only [List.length_map]; omega) | (simp; omega) | (simp [List.take_of_length_le]; done) | assumption | trivial | (simp [*, b_sisi, d_sisi, byteRows_eq, ints_y]; done))
    have f5 : (List.set (List.map d_sisi v0_23_0) (0 + (Int.toNat (List.length p_23_0 : Int))) [(.val (.string (m38 v1_23_0))), (.val (.int .i64 x0_23_0.f1)), (.val (.string x0_23_0.f2)), (.val (.int .i64 x0_23_0.f3))]) = (List.map d_sisi (List.set v0_23_0 (Int.toNat (List.length p_23_0 : Int)) (K_sisi.mk (m38 v1_23_0) x0_23_0.f1 x0_23_0.f2 x0_23_0.f3))) := (by first | rfl | (simp [byteRows_eq, ints_y, List.take_of_length_le, d_sisi, d_LsisiEi, d_i, d_b, d_s, d_iisiiii, d_iLsELiisiiiiELsisiEi, d_LsisiE, d_LsE, d_LiisiiiiE, d_y, fromBR_sisi, fromBR_i, fromBR_b, fromBR_s, fromBR_iisiiii, fromBR_y]; done) | (simp [List.map_set, List.map_take, List.map_drop, byteRows_eq, ints_y, List.take_of_length_le, d_sisi, d_LsisiEi, d_i, d_b, d_s, d_iisiiii, d_iLsELiisiiiiELsisiEi, d_LsisiE, d_LsE, d_LiisiiiiE, d_y, fromBR_sisi, fromBR_i, fromBR_b, fromBR_s, fromBR_iisiiii, fromBR_y]; done))
    have f7 : 0 + (List.length (List.map d_sisi a0)) ≤ (List.length (List.map d_sisi (List.set v0_23_0 (Int.toNat (List.length p_23_0 : Int)) (K_sisi.mk (m38 v1_23_0) x0_23_0.f1 x0_23_0.f2 x0_23_0.f3)))) := (by first | exact True.intro | with_reducible rfl | with_reducible assumption | omega | (unfold m38; (repeat' split) <;> simp_all <;> omega) | (simp only [decide_eq_true_eq] at *; omega) | (simp only [List.length_map, List.length_set]; omega) | (simp; omega) | (simp [List.take_of_length_le]; done) | assumption | trivial | (simp [*, b_sisi, d_sisi, byteRows_eq, ints_y]; done))
    have f9 : (List.map d_sisi (List.set v0_23_0 (Int.toNat (List.length p_23_0 : Int)) (K_sisi.mk (m38 v1_23_0) x0_23_0.f1 x0_23_0.f2 x0_23_0.f3)))[(0 + (Int.toNat (List.length p_23_0 : Int)))]? = some [(.val (.string (m38 v1_23_0))), (.val (.int .i64 x0_23_0.f1)), (.val (.string x0_23_0.f2)), (.val (.int .i64 x0_23_0.f3))] := (by first | (rw [List.map_set, List.getElem?_set_self (by simp only [List.length_map]; omega)]; rfl) | (rw [Nat.zero_add, List.map_set, List.getElem?_set_self (by simp only [List.length_map]; omega)]; rfl) | (rw [List.getElem?_set_self (by simp only [List.length_map]; omega)]; rfl) | (rw [Nat.zero_add, List.getElem?_set_self (by simp only [List.length_map]; omega)]; rfl))
    have f10 : (List.set (List.map d_sisi (List.set v0_23_0 (Int.toNat (List.length p_23_0 : Int)) (K_sisi.mk (m38 v1_23_0) x0_23_0.f1 x0_23_0.f2 x0_23_0.f3))) (0 + (Int.toNat (List.length p_23_0 : Int))) [(.val (.string (m38 v1_23_0))), (.val (.int .i64 (IntKind.wrap .i64 (v1_23_0 + 1)))), (.val (.string x0_23_0.f2)), (.val (.int .i64 x0_23_0.f3))]) = (List.map d_sisi (List.set v0_23_0 (Int.toNat (List.length p_23_0 : Int)) (K_sisi.mk (m38 v1_23_0) (IntKind.wrap .i64 (v1_23_0 + 1)) x0_23_0.f2 x0_23_0.f3))) := (by first | rfl | (simp [byteRows_eq, ints_y, List.take_of_length_le, d_sisi, d_LsisiEi, d_i, d_b, d_s, d_iisiiii, d_iLsELiisiiiiELsisiEi, d_LsisiE, d_LsE, d_LiisiiiiE, d_y, fromBR_sisi, fromBR_i, fromBR_b, fromBR_s, fromBR_iisiiii, fromBR_y]; done) | (simp [List.map_set, List.map_take, List.map_drop, byteRows_eq, ints_y, List.take_of_length_le, d_sisi, d_LsisiEi, d_i, d_b, d_s, d_iisiiii, d_iLsELiisiiiiELsisiEi, d_LsisiE, d_LsE, d_LiisiiiiE, d_y, fromBR_sisi, fromBR_i, fromBR_b, fromBR_s, fromBR_iisiiii, fromBR_y]; done))
    have f13 : 0 + (List.length (List.map d_sisi a0)) ≤ (List.length (List.map d_sisi (List.set v0_23_0 (Int.toNat (List.length p_23_0 : Int)) (K_sisi.mk (m38 v1_23_0) (IntKind.wrap .i64 (v1_23_0 + 1)) x0_23_0.f2 x0_23_0.f3)))) := (by first | exact True.intro | with_reducible rfl | with_reducible assumption | omega | (unfold m38; (repeat' split) <;> simp_all <;> omega) | (simp only [decide_eq_true_eq] at *; omega) | (simp only [List.length_map, List.length_set]; omega) | (simp; omega) | (simp [List.take_of_length_le]; done) | assumption | trivial | (simp [*, b_sisi, d_sisi, byteRows_eq, ints_y]; done))
    have f15 : (List.map d_sisi (List.set v0_23_0 (Int.toNat (List.length p_23_0 : Int)) (K_sisi.mk (m38 v1_23_0) (IntKind.wrap .i64 (v1_23_0 + 1)) x0_23_0.f2 x0_23_0.f3)))[(0 + (Int.toNat (List.length p_23_0 : Int)))]? = some [(.val (.string (m38 v1_23_0))), (.val (.int .i64 (IntKind.wrap .i64 (v1_23_0 + 1)))), (.val (.string x0_23_0.f2)), (.val (.int .i64 x0_23_0.f3))] := (by first | (rw [List.map_set, List.getElem?_set_self (by simp only [List.length_map]; omega)]; rfl) | (rw [Nat.zero_add, List.map_set, List.getElem?_set_self (by simp only [List.length_map]; omega)]; rfl) | (rw [List.getElem?_set_self (by simp only [List.length_map]; omega)]; rfl) | (rw [Nat.zero_add, List.getElem?_set_self (by simp only [List.length_map]; omega)]; rfl))
    have f16 : (List.set (List.map d_sisi (List.set v0_23_0 (Int.toNat (List.length p_23_0 : Int)) (K_sisi.mk (m38 v1_23_0) (IntKind.wrap .i64 (v1_23_0 + 1)) x0_23_0.f2 x0_23_0.f3))) (0 + (Int.toNat (List.length p_23_0 : Int))) [(.val (.string (m38 v1_23_0))), (.val (.int .i64 (IntKind.wrap .i64 (v1_23_0 + 1)))), (.val (.string (m38 (IntKind.wrap .i64 ((IntKind.wrap .i64 (v1_23_0 + 1)) + 1))))), (.val (.int .i64 x0_23_0.f3))]) = (List.map d_sisi (List.set v0_23_0 (Int.toNat (List.length p_23_0 : Int)) (K_sisi.mk (m38 v1_23_0) (IntKind.wrap .i64 (v1_23_0 + 1)) (m38 (IntKind.wrap .i64 ((IntKind.wrap .i64 (v1_23_0 + 1)) + 1))) x0_23_0.f3))) := (by first | rfl | (simp [byteRows_eq, ints_y, List.take_of_length_le, d_sisi, d_LsisiEi, d_i, d_b, d_s, d_iisiiii, d_iLsELiisiiiiELsisiEi, d_LsisiE, d_LsE, d_LiisiiiiE, d_y, fromBR_sisi, fromBR_i, fromBR_b, fromBR_s, fromBR_iisiiii, fromBR_y]; done) | (simp [List.map_set, List.map_take, List.map_drop, byteRows_eq, ints_y, List.take_of_length_le, d_sisi, d_LsisiEi, d_i, d_b, d_s, d_iisiiii, d_iLsELiisiiiiELsisiEi, d_LsisiE, d_LsE, d_LiisiiiiE, d_y, fromBR_sisi, fromBR_i, fromBR_b, fromBR_s, fromBR_iisiiii, fromBR_y]; done))
    have f18 : 0 + (List.length (List.map d_sisi a0)) ≤ (List.length (List.map d_sisi (List.set v0_23_0 (Int.toNat (List.length p_23_0 : Int)) (K_sisi.mk (m38 v1_23_0) (IntKind.wrap .i64 (v1_23_0 + 1)) (m38 (IntKind.wrap .i64 ((IntKind.wrap .i64 (v1_23_0 + 1)) + 1))) x0_23_0.f3)))) := (by first | exact True.intro | with_reducible rfl | with_reducible assumption | omega | (unfold m38; (repeat' split) <;> simp_all <;> omega) | (simp only [decide_eq_true_eq] at *; omega) | (simp only [List.length_map, List.length_set]; omega) | (simp; omega) | (simp [List.take_of_length_le]; done) | assumption | trivial | (simp [*, b_sisi, d_sisi, byteRows_eq, ints_y]; done))
    have f20 : (List.map d_sisi (List.set v0_23_0 (Int.toNat (List.length p_23_0 : Int)) (K_sisi.mk (m38 v1_23_0) (IntKind.wrap .i64 (v1_23_0 + 1)) (m38 (IntKind.wrap .i64 ((IntKind.wrap .i64 (v1_23_0 + 1)) + 1))) x0_23_0.f3)))[(0 + (Int.toNat (List.length p_23_0 : Int)))]? = some [(.val (.string (m38 v1_23_0))), (.val (.int .i64 (IntKind.wrap .i64 (v1_23_0 + 1)))), (.val (.string (m38 (IntKind.wrap .i64 ((IntKind.wrap .i64 (v1_23_0 + 1)) + 1))))), (.val (.int .i64 x0_23_0.f3))] := (by first | (rw [List.map_set, List.getElem?_set_self (by simp only [List.length_map]; omega)]; rfl) | (rw [Nat.zero_add, List.map_set, List.getElem?_set_self (by simp only [List.length_map]; omega)]; rfl) | (rw [List.getElem?_set_self (by simp only [List.length_map]; omega)]; rfl) | (rw [Nat.zero_add, List.getElem?_set_self (by simp only [List.length_map]; omega)]; rfl))
    have f21 : (List.set (List.map d_sisi (List.set v0_23_0 (Int.toNat (List.length p_23_0 : Int)) (K_sisi.mk (m38 v1_23_0) (IntKind.wrap .i64 (v1_23_0 + 1)) (m38 (IntKind.wrap .i64 ((IntKind.wrap .i64 (v1_23_0 + 1)) + 1))) x0_23_0.f3))) (0 + (Int.toNat (List.length p_23_0 : Int))) [(.val (.string (m38 v1_23_0))), (.val (.int .i64 (IntKind.wrap .i64 (v1_23_0 + 1)))), (.val (.string (m38 (IntKind.wrap .i64 ((IntKind.wrap .i64 (v1_23_0 + 1)) + 1))))), (.val (.int .i64 (IntKind.wrap .i64 ((IntKind.wrap .i64 ((IntKind.wrap .i64 (v1_23_0 + 1)) + 1)) + 1))))]) = (List.map d_sisi (List.set v0_23_0 (Int.toNat (List.length p_23_0 : Int)) (K_sisi.mk (m38 v1_23_0) (IntKind.wrap .i64 (v1_23_0 + 1)) (m38 (IntKind.wrap .i64 ((IntKind.wrap .i64 (v1_23_0 + 1)) + 1))) (IntKind.wrap .i64 ((IntKind.wrap .i64 ((IntKind.wrap .i64 (v1_23_0 + 1)) + 1)) + 1))))) := (by first | rfl | (simp [byteRows_eq, ints_y, List.take_of_length_le, d_sisi, d_LsisiEi, d_i, d_b, d_s, d_iisiiii, d_iLsELiisiiiiELsisiEi, d_LsisiE, d_LsE, d_LiisiiiiE, d_y, fromBR_sisi, fromBR_i, fromBR_b, fromBR_s, fromBR_iisiiii, fromBR_y]; done) | (simp [List.map_set, List.map_take, List.map_drop, byteRows_eq, ints_y, List.take_of_length_le, d_sisi, d_LsisiEi, d_i, d_b, d_s, d_iisiiii, d_iLsELiisiiiiELsisiEi, d_LsisiE, d_LsE, d_LiisiiiiE, d_y, fromBR_sisi, fromBR_i, fromBR_b, fromBR_s, fromBR_iisiiii, fromBR_y]; done))
    have st := ch b23_0 (h23_0 a0 a1 (List.length p_23_0 : Int) v0_23_0 v1_23_0) ⟨[(0, (.one (.ref ⟨(0, 0, 0), [], 0, (List.length (List.map d_sisi a0))⟩))), (1, (.one (.val (.int .i64 (IntKind.wrap .i64 ((IntKind.wrap .i64 ((IntKind.wrap .i64 ((IntKind.wrap .i64 (v1_23_0 + 1)) + 1)) + 1)) + 1)))))), (5, (.one (.val (.int .i64 (IntKind.wrap .i64 ((List.length p_23_0 : Int) + 1))))))], [((0, 0, 0), .live ⟨4, (List.map d_sisi (List.set v0_23_0 (Int.toNat (List.length p_23_0 : Int)) (K_sisi.mk (m38 v1_23_0) (IntKind.wrap .i64 (v1_23_0 + 1)) (m38 (IntKind.wrap .i64 ((IntKind.wrap .i64 (v1_23_0 + 1)) + 1))) (IntKind.wrap .i64 ((IntKind.wrap .i64 ((IntKind.wrap .i64 (v1_23_0 + 1)) + 1)) + 1))))), []⟩)]⟩ .normal 95 (by kernel_rfl) (.f hc (.h 8 (.b true) (.r 16 [] [] (e38 (a0 := v1_23_0)) (.f f2 (.f f3 (.f (mz_ d_sisi Hv0_23_0) (.f f5 (.f trivial (.f f7 (.f f3 (.f f9 (.f f10 (.f trivial (.h 22 (.rowD [(.val (.string x0_23_0.f0)), (.val (.int .i64 x0_23_0.f1)), (.val (.string x0_23_0.f2)), (.val (.int .i64 x0_23_0.f3))]) (.h 23 (.norm (0, 0, 0) (List.map d_sisi (List.set v0_23_0 (Int.toNat (List.length p_23_0 : Int)) (K_sisi.mk (m38 v1_23_0) x0_23_0.f1 x0_23_0.f2 x0_23_0.f3)))) (.h 41 (.rowD [(.val (.string (m38 v1_23_0))), (.val (.int .i64 x0_23_0.f1)), (.val (.string x0_23_0.f2)), (.val (.int .i64 x0_23_0.f3))]) (.h 42 (.norm (0, 0, 0) (List.map d_sisi (List.set v0_23_0 (Int.toNat (List.length p_23_0 : Int)) (K_sisi.mk (m38 v1_23_0) (IntKind.wrap .i64 (v1_23_0 + 1)) x0_23_0.f2 x0_23_0.f3)))) (.r 56 [] [] (e38 (a0 := (IntKind.wrap .i64 ((IntKind.wrap .i64 (v1_23_0 + 1)) + 1)))) (.f f13 (.f f3 (.f f15 (.f f16 (.f trivial (.f f18 (.f f3 (.f f20 (.f f21 (.f trivial (.f trivial (.h 62 (.rowD [(.val (.string (m38 v1_23_0))), (.val (.int .i64 (IntKind.wrap .i64 (v1_23_0 + 1)))), (.val (.string x0_23_0.f2)), (.val (.int .i64 x0_23_0.f3))]) (.h 63 (.norm (0, 0, 0) (List.map d_sisi (List.set v0_23_0 (Int.toNat (List.length p_23_0 : Int)) (K_sisi.mk (m38 v1_23_0) (IntKind.wrap .i64 (v1_23_0 + 1)) (m38 (IntKind.wrap .i64 ((IntKind.wrap .i64 (v1_23_0 + 1)) + 1))) x0_23_0.f3)))) (.h 81 (.rowD [(.val (.string (m38 v1_23_0))), (.val (.int .i64 (IntKind.wrap .i64 (v1_23_0 + 1)))), (.val (.string (m38 (IntKind.wrap .i64 ((IntKind.wrap .i64 (v1_23_0 + 1)) + 1))))), (.val (.int .i64 x0_23_0.f3))]) (.h 82 (.norm (0, 0, 0) (List.map d_sisi (List.set v0_23_0 (Int.toNat (List.length p_23_0 : Int)) (K_sisi.mk (m38 v1_23_0) (IntKind.wrap .i64 (v1_23_0 + 1)) (m38 (IntKind.wrap .i64 ((IntKind.wrap .i64 (v1_23_0 + 1)) + 1))) (IntKind.wrap .i64 ((IntKind.wrap .i64 ((IntKind.wrap .i64 (v1_23_0 + 1)) + 1)) + 1)))))) .nil)))))))))))))))))))))))))))))))))
    have ih := t23_0 (a0 := a0) (a1 := a1) hy0 l0_23_0 (p_23_0 ++ [x0_23_0]) (List.set v0_23_0 (Int.toNat (List.length p_23_0 : Int)) (K_sisi.mk (m38 v1_23_0) (IntKind.wrap .i64 (v1_23_0 + 1)) (m38 (IntKind.wrap .i64 ((IntKind.wrap .i64 (v1_23_0 + 1)) + 1))) (IntKind.wrap .i64 ((IntKind.wrap .i64 ((IntKind.wrap .i64 (v1_23_0 + 1)) + 1)) + 1)))) (IntKind.wrap .i64 ((IntKind.wrap .i64 ((IntKind.wrap .i64 ((IntKind.wrap .i64 (v1_23_0 + 1)) + 1)) + 1)) + 1)) (by rw [List.append_assoc]; exact hp0) (by first | omega | (simp only [List.length_map, List.length_set, List.length_append, List.length_replicate, List.length_cons, List.length_nil]; omega) | (simp only [List.length_map, List.length_set, List.length_append, List.length_replicate, List.length_cons, List.length_nil]; assumption) | assumption | (simp only [List.length_map, List.length_set, List.length_append, List.length_replicate, List.length_cons, List.length_nil] at *; omega)) (by simp only [List.length_map, List.length_set, List.length_append, List.length_replicate, List.length_cons, List.length_nil, Int.toNat_natCast]; first | exact drop_set_next hi1 _ | exact drop_next hi1)
    rw [show ((p_23_0 ++ [x0_23_0]).length : Int) = (p_23_0.length : Int) + 1 from by simp] at ih
    rw [show (⟨[(0, (.one (.ref ⟨(0, 0, 0), [], 0, (List.length (List.map d_sisi a0))⟩))), (1, (.one (.val (.int .i64 (IntKind.wrap .i64 ((IntKind.wrap .i64 ((IntKind.wrap .i64 ((IntKind.wrap .i64 (v1_23_0 + 1)) + 1)) + 1)) + 1)))))), (5, (.one (.val (.int .i64 (IntKind.wrap .i64 ((List.length p_23_0 : Int) + 1))))))], [((0, 0, 0), .live ⟨4, (List.map d_sisi (List.set v0_23_0 (Int.toNat (List.length p_23_0 : Int)) (K_sisi.mk (m38 v1_23_0) (IntKind.wrap .i64 (v1_23_0 + 1)) (m38 (IntKind.wrap .i64 ((IntKind.wrap .i64 (v1_23_0 + 1)) + 1))) (IntKind.wrap .i64 ((IntKind.wrap .i64 ((IntKind.wrap .i64 (v1_23_0 + 1)) + 1)) + 1))))), []⟩)]⟩ : St) = h23_0 a0 a1 ((List.length p_23_0 : Int) + 1) (List.set v0_23_0 (Int.toNat (List.length p_23_0 : Int)) (K_sisi.mk (m38 v1_23_0) (IntKind.wrap .i64 (v1_23_0 + 1)) (m38 (IntKind.wrap .i64 ((IntKind.wrap .i64 (v1_23_0 + 1)) + 1))) (IntKind.wrap .i64 ((IntKind.wrap .i64 ((IntKind.wrap .i64 (v1_23_0 + 1)) + 1)) + 1)))) (IntKind.wrap .i64 ((IntKind.wrap .i64 ((IntKind.wrap .i64 ((IntKind.wrap .i64 (v1_23_0 + 1)) + 1)) + 1)) + 1)) from by first | (unfold h23_0; simp only [hw]; done) | (unfold h23_0; simp only [hw, List.length_map, List.length_set, List.length_append, List.length_replicate, List.length_cons, List.length_nil]; done) | (unfold h23_0; simp [hw, byteRows_eq, ints_y, List.take_of_length_le, d_sisi, d_LsisiEi, d_i, d_b, d_s, d_iisiiii, d_iLsELiisiiiiELsisiEi, d_LsisiE, d_LsE, d_LiisiiiiE, d_y, fromBR_sisi, fromBR_i, fromBR_b, fromBR_s, fromBR_iisiiii, fromBR_y]; done)] at st
    exact .loopN st ih
def post23_0 (n0 : Nat) : O23_0 → Prop
  | .k0 w0 _ _ _ => List.length w0 = n0
theorem z23_0 {a0 : (List K_sisi)} : ∀ (l0_23_0 : List K_sisi) (i_23_0 : Int) (v0_23_0 : List K_sisi) (v1_23_0 : Int), post23_0 (List.length v0_23_0) (r23_0 a0 l0_23_0 i_23_0 v0_23_0 v1_23_0)
  | [], i_23_0, v0_23_0, v1_23_0 => by
    first | trivial | (simp only [post23_0, List.length_nil, Nat.add_zero]; done) | (simp [post23_0]; done)
  | x0_23_0 :: l0_23_0, i_23_0, v0_23_0, v1_23_0 => by
    simp only [r23_0]
    have z := z23_0 (a0 := a0) l0_23_0 (i_23_0 + 1) (List.set v0_23_0 (Int.toNat i_23_0) (K_sisi.mk (m38 v1_23_0) (IntKind.wrap .i64 (v1_23_0 + 1)) (m38 (IntKind.wrap .i64 ((IntKind.wrap .i64 (v1_23_0 + 1)) + 1))) (IntKind.wrap .i64 ((IntKind.wrap .i64 ((IntKind.wrap .i64 (v1_23_0 + 1)) + 1)) + 1)))) (IntKind.wrap .i64 ((IntKind.wrap .i64 ((IntKind.wrap .i64 ((IntKind.wrap .i64 (v1_23_0 + 1)) + 1)) + 1)) + 1))
    rw [show (List.length v0_23_0) = (List.length (List.set v0_23_0 (Int.toNat i_23_0) (K_sisi.mk (m38 v1_23_0) (IntKind.wrap .i64 (v1_23_0 + 1)) (m38 (IntKind.wrap .i64 ((IntKind.wrap .i64 (v1_23_0 + 1)) + 1))) (IntKind.wrap .i64 ((IntKind.wrap .i64 ((IntKind.wrap .i64 (v1_23_0 + 1)) + 1)) + 1))))) from by first | omega | (simp only [List.length_map, List.length_set, List.length_append, List.length_replicate, List.length_cons, List.length_nil]; done) | (simp only [List.length_map, List.length_set, List.length_append, List.length_replicate, List.length_cons, List.length_nil]; omega)]
    exact z
/-! loop.example/g00539/laws.markSessionS -/
def o23_0 (a0 : (List K_sisi)) (a1 : Int) : List K_sisi :=
  (match r23_0 a0 a0 0 a0 a1 with | .k0 w0_23_0_0 w1_23_0_0 w2_23_0_0 w3_23_0_0 => w0_23_0_0)
def m23 (a0 : (List K_sisi)) (a1 : Int) : Int :=
  (match r23_0 a0 a0 0 a0 a1 with | .k0 w0_23_0_0 w1_23_0_0 w2_23_0_0 w3_23_0_0 => w1_23_0_0)
theorem e23 {a0 : (List K_sisi)} {a1 : Int} (hy0 : List.length a0 * 48 ≤ 140737488351232) : Ev F X (.call 23 [(.one (.ref ⟨(0, 0, 0), [], 0, (List.length (List.map d_sisi a0))⟩)), (.one (.val (.int .i64 a1)))] [((0, 0, 0), ⟨4, (List.map d_sisi a0), []⟩)] [(List.map d_sisi (o23_0 a0 a1))] [(.one (.val (.int .i64 (m23 a0 a1))))]) := by
  unfold m23 o23_0
  cases h0 : r23_0 a0 a0 0 a0 a1 with
  | k0 w0_23_0_0 w1_23_0_0 w2_23_0_0 w3_23_0_0 =>
    try dsimp only
    have zh0 := z23_0 (a0 := a0) a0 0 a0 a1; rw [h0] at zh0; simp only [post23_0, List.length_map, List.length_set, List.length_append, List.length_replicate, List.length_cons, List.length_nil, Int.toNat_natCast] at zh0
    have f0 : (⟨[(0, (.one (.ref ⟨(0, 0, 0), [], 0, (List.length (List.map d_sisi a0))⟩))), (1, (.one (.val (.int .i64 a1)))), (5, (.one (.val (.int .i64 0))))], [((0, 0, 0), .live ⟨4, (List.map d_sisi a0), []⟩)]⟩ : St) = h23_0 a0 a1 0 a0 a1 := (by first | rfl | (unfold h23_0; simp [byteRows_eq, ints_y, List.take_of_length_le, d_sisi, d_LsisiEi, d_i, d_b, d_s, d_iisiiii, d_iLsELiisiiiiELsisiEi, d_LsisiE, d_LsE, d_LiisiiiiE, d_y, fromBR_sisi, fromBR_i, fromBR_b, fromBR_s, fromBR_iisiiii, fromBR_y]; done))
    exact cq [true] (by kernel_rfl) (.f f0 (.f (ev_ (e := ex23_0) (g := (fin23_0 a0 a1)) h0 (t23_0 (a0 := a0) (a1 := a1) (by first | assumption | omega) a0 [] a0 a1 rfl (by first | rfl | omega | (simp only [List.length_map, List.length_set, List.length_append, List.length_replicate, List.length_cons, List.length_nil]; done) | (simp only [List.length_map, List.length_set, List.length_append, List.length_replicate, List.length_cons, List.length_nil]; omega) | (simp; done)) (by first | rfl | omega | (simp only [List.length_map, List.length_set, List.length_append, List.length_replicate, List.length_cons, List.length_nil]; done) | (simp only [List.length_map, List.length_set, List.length_append, List.length_replicate, List.length_cons, List.length_nil]; omega) | (simp; done)))) (.f (pureR_sisi w0_23_0_0) (.h 4 (.loop (h23_0 a0 a1 0 a0 a1) (.exit 0) ⟨[(0, (.one (.ref ⟨(0, 0, 0), [], 0, (List.length (List.map d_sisi a0))⟩))), (1, (.one (.val (.int .i64 w1_23_0_0)))), (5, (.one (.val (.int .i64 w2_23_0_0)))), (9, (.one (.val (.bool w3_23_0_0))))], [((0, 0, 0), .live ⟨4, (List.map d_sisi w0_23_0_0), []⟩)]⟩) .nil))))
theorem ow23_0 (a0 : List K_sisi) : ∀ (l p : List K_sisi) (v1_23_0 : Int), ∃ (q : List K_sisi) (w1 : _) (w2 : _) (w3 : _), r23_0 a0 l (p.length : Int) (p ++ l) v1_23_0 = .k0 (p ++ q) w1 w2 w3 ∧ q.length = l.length
  | [], p, v1_23_0 => ⟨[], v1_23_0, (p.length : Int), (decide ((p.length : Int) < ((List.length (List.map d_sisi a0)) : Int))), rfl, rfl⟩
  | x0_23_0 :: l, p, v1_23_0 => by
    obtain ⟨q, w1, w2, w3, e1, e2⟩ := ow23_0 a0 l (p ++ [(K_sisi.mk (m38 v1_23_0) (IntKind.wrap .i64 (v1_23_0 + 1)) (m38 (IntKind.wrap .i64 ((IntKind.wrap .i64 (v1_23_0 + 1)) + 1))) (IntKind.wrap .i64 ((IntKind.wrap .i64 ((IntKind.wrap .i64 (v1_23_0 + 1)) + 1)) + 1)))]) (IntKind.wrap .i64 ((IntKind.wrap .i64 ((IntKind.wrap .i64 ((IntKind.wrap .i64 (v1_23_0 + 1)) + 1)) + 1)) + 1))
    refine ⟨(K_sisi.mk (m38 v1_23_0) (IntKind.wrap .i64 (v1_23_0 + 1)) (m38 (IntKind.wrap .i64 ((IntKind.wrap .i64 (v1_23_0 + 1)) + 1))) (IntKind.wrap .i64 ((IntKind.wrap .i64 ((IntKind.wrap .i64 (v1_23_0 + 1)) + 1)) + 1))) :: q, w1, w2, w3, ?_, by simp [e2]⟩
    · have e : List.set (p ++ x0_23_0 :: l) (Int.toNat (p.length : Int)) (K_sisi.mk (m38 v1_23_0) (IntKind.wrap .i64 (v1_23_0 + 1)) (m38 (IntKind.wrap .i64 ((IntKind.wrap .i64 (v1_23_0 + 1)) + 1))) (IntKind.wrap .i64 ((IntKind.wrap .i64 ((IntKind.wrap .i64 (v1_23_0 + 1)) + 1)) + 1))) = (p ++ [(K_sisi.mk (m38 v1_23_0) (IntKind.wrap .i64 (v1_23_0 + 1)) (m38 (IntKind.wrap .i64 ((IntKind.wrap .i64 (v1_23_0 + 1)) + 1))) (IntKind.wrap .i64 ((IntKind.wrap .i64 ((IntKind.wrap .i64 (v1_23_0 + 1)) + 1)) + 1)))]) ++ l := by simp
      have e0 : ((p ++ [(K_sisi.mk (m38 v1_23_0) (IntKind.wrap .i64 (v1_23_0 + 1)) (m38 (IntKind.wrap .i64 ((IntKind.wrap .i64 (v1_23_0 + 1)) + 1))) (IntKind.wrap .i64 ((IntKind.wrap .i64 ((IntKind.wrap .i64 (v1_23_0 + 1)) + 1)) + 1)))]).length : Int) = (p.length : Int) + 1 := by simp
      rw [e0] at e1
      simp only [r23_0]
      first | (rw [e, e1]; simp; done) | (simp only [e, e1]; simp; done)

theorem ol23 (a : List K_sisi) (k : Int) : (o23_0 a k).length = a.length := by
  obtain ⟨q, w1, w2, w3, e1, e2⟩ := ow23_0 a a [] k
  simp only [List.nil_append, List.length_nil] at e1
  rw [show ((0 : Nat) : Int) = 0 from rfl] at e1
  unfold o23_0
  rw [e1]; exact e2
/-! loop.example/g00539/laws.markServer -/
def o10_0 (a0 : K_LsisiEi) (a1 : Int) : List K_sisi :=
  (o23_0 a0.f0 a1)
def m10 (a0 : K_LsisiEi) (a1 : Int) : Int :=
  (m23 a0.f0 a1)
theorem e10 {a0 : K_LsisiEi} {a1 : Int} (hy0 : List.length a0.f0 * 48 ≤ 140737488351232) : Ev F X (.call 10 [(.agg [(.ref ⟨(0, 0, 0), [], 0, (List.length (List.map d_sisi a0.f0))⟩), (.val (.int .i64 a0.f1))]), (.one (.val (.int .i64 a1)))] [((0, 0, 0), ⟨4, (List.map d_sisi a0.f0), []⟩)] [(List.map d_sisi (o10_0 a0 a1))] [(.one (.val (.int .i64 (m10 a0 a1))))]) := by
  exact cq [true] (by kernel_rfl) (pe 0 (pe (List.length (List.map d_sisi a0.f0)) (.f (pureR_sisi a0.f0) (.r 11 [true] [] (e23 (a0 := a0.f0) (a1 := a1) (by first | with_reducible assumption | omega | assumption | (simp only [List.length_map]; omega) | (simp [ol23]; omega))) (.f (pureR_sisi (o23_0 a0.f0 a1)) .nil)))))
theorem ol10_0 (a : K_LsisiEi) (k : Int) : (o10_0 a k).length = List.length a.f0 := by
  unfold o10_0
  simp [ol23]
/-! loop 24_0 -/
inductive O24_0 where
  | k0 (w0 : List ByteArray) (w1 : Int) (w2 : Int) (w3 : Bool)
def r24_0 (a0 : (List ByteArray)) : List ByteArray → Int → List ByteArray → Int → O24_0
  | x0_24_0 :: l0_24_0, i_24_0, v0_24_0, v1_24_0 =>
    (r24_0 a0 l0_24_0 (i_24_0 + 1) (List.set v0_24_0 (Int.toNat i_24_0) (m38 v1_24_0)) (IntKind.wrap .i64 (v1_24_0 + 1)))
  | [], i_24_0, v0_24_0, v1_24_0 => (O24_0.k0 v0_24_0 v1_24_0 i_24_0 (decide (i_24_0 < ((List.length (List.map d_s a0)) : Int))))
def h24_0 (a0 : (List ByteArray)) (a1 : Int) (i_24_0 : Int) (v0_24_0 : List ByteArray) (v1_24_0 : Int) : St := ⟨[(0, (.one (.ref ⟨(0, 0, 0), [], 0, (List.length (List.map d_s a0))⟩))), (1, (.one (.val (.int .i64 v1_24_0)))), (5, (.one (.val (.int .i64 i_24_0))))], [((0, 0, 0), .live ⟨1, (List.map d_s v0_24_0), []⟩)]⟩
def ex24_0 : O24_0 → VX.Exit
  | .k0 _ _ _ _ => (.exit 0)
def fin24_0 (a0 : (List ByteArray)) (a1 : Int) : O24_0 → St
  | .k0 w0 w1 w2 w3 => ⟨[(0, (.one (.ref ⟨(0, 0, 0), [], 0, (List.length (List.map d_s a0))⟩))), (1, (.one (.val (.int .i64 w1)))), (5, (.one (.val (.int .i64 w2)))), (9, (.one (.val (.bool w3))))], [((0, 0, 0), .live ⟨1, (List.map d_s w0), []⟩)]⟩
theorem t24_0 {a0 : (List ByteArray)} {a1 : Int} (hy0 : List.length a0 * 16 ≤ 140737488351232) : ∀ (l0_24_0 : List ByteArray) (p_24_0 : List ByteArray) (v0_24_0 : List ByteArray) (v1_24_0 : Int), p_24_0 ++ l0_24_0 = a0 → List.length v0_24_0 = (List.length (List.map d_s a0)) → List.drop (List.length p_24_0) v0_24_0 = l0_24_0 → Ev F X (.code l24_0 (h24_0 a0 a1 (List.length p_24_0 : Int) v0_24_0 v1_24_0) (ex24_0 (r24_0 a0 l0_24_0 (List.length p_24_0 : Int) v0_24_0 v1_24_0)) (fin24_0 a0 a1 (r24_0 a0 l0_24_0 (List.length p_24_0 : Int) v0_24_0 v1_24_0)))
  | [], p_24_0, v0_24_0, v1_24_0, hp0, hi0, hi1 => by
    have hc : ¬ (decide ((List.length p_24_0 : Int) < ((List.length (List.map d_s a0)) : Int))) = true := by
      rw [← hp0]; simp only [List.length_map, List.length_set, List.length_append, List.length_replicate, List.length_cons, List.length_nil, decide_eq_true_eq]; omega
    have hj0 := hi0; try simp only [List.length_map, List.length_set, List.length_append, List.length_replicate, List.length_cons, List.length_nil, Int.toNat_natCast] at hj0
    have hj1 := hi1; try simp only [List.length_map, List.length_set, List.length_append, List.length_replicate, List.length_cons, List.length_nil, Int.toNat_natCast] at hj1
    have st := ch b24_0 (h24_0 a0 a1 (List.length p_24_0 : Int) v0_24_0 v1_24_0) ⟨[(0, (.one (.ref ⟨(0, 0, 0), [], 0, (List.length (List.map d_s a0))⟩))), (1, (.one (.val (.int .i64 v1_24_0)))), (5, (.one (.val (.int .i64 (List.length p_24_0 : Int))))), (9, (.one (.val (.bool (decide ((List.length p_24_0 : Int) < ((List.length (List.map d_s a0)) : Int)))))))], [((0, 0, 0), .live ⟨1, (List.map d_s v0_24_0), []⟩)]⟩ (.exit 0) 9 (by kernel_rfl) (.f (nt hc) (.h 8 (.b false) .nil))
    rw [show (⟨[(0, (.one (.ref ⟨(0, 0, 0), [], 0, (List.length (List.map d_s a0))⟩))), (1, (.one (.val (.int .i64 v1_24_0)))), (5, (.one (.val (.int .i64 (List.length p_24_0 : Int))))), (9, (.one (.val (.bool (decide ((List.length p_24_0 : Int) < ((List.length (List.map d_s a0)) : Int)))))))], [((0, 0, 0), .live ⟨1, (List.map d_s v0_24_0), []⟩)]⟩ : St) = fin24_0 a0 a1 (.k0 v0_24_0 v1_24_0 (List.length p_24_0 : Int) (decide ((List.length p_24_0 : Int) < ((List.length (List.map d_s a0)) : Int)))) from by first | rfl | (unfold fin24_0; simp [byteRows_eq, ints_y, List.take_of_length_le, d_sisi, d_LsisiEi, d_i, d_b, d_s, d_iisiiii, d_iLsELiisiiiiELsisiEi, d_LsisiE, d_LsE, d_LiisiiiiE, d_y, fromBR_sisi, fromBR_i, fromBR_b, fromBR_s, fromBR_iisiiii, fromBR_y, ol23, ol10_0]; done)] at st
    exact .loopX st (show ((.exit 0) : VX.Exit) ≠ .normal from by simp)
  | x0_24_0 :: l0_24_0, p_24_0, v0_24_0, v1_24_0, hp0, hi0, hi1 => by
    have hc : (decide ((List.length p_24_0 : Int) < ((List.length (List.map d_s a0)) : Int))) = true := by
      rw [← hp0]; simp only [List.length_map, List.length_set, List.length_append, List.length_replicate, List.length_cons, List.length_nil, decide_eq_true_eq]; omega
    have Hx0_24_0 : (a0)[Int.toNat (List.length p_24_0 : Int)]? = some x0_24_0 := by
      rw [← hp0, Int.toNat_natCast]; simp
    have hlen : List.length (a0) = List.length p_24_0 + List.length l0_24_0 + 1 := by rw [← hp0]; simp; omega
    have hw : IntKind.wrap .i64 ((List.length p_24_0 : Int) + 1) = (List.length p_24_0 : Int) + 1 := wrap64 (by omega)
    have hj0 := hi0; try simp only [List.length_map, List.length_set, List.length_append, List.length_replicate, List.length_cons, List.length_nil, Int.toNat_natCast] at hj0
    have hj1 := hi1; try simp only [List.length_map, List.length_set, List.length_append, List.length_replicate, List.length_cons, List.length_nil, Int.toNat_natCast] at hj1
    have Hv0_24_0 : v0_24_0[Int.toNat (List.length p_24_0 : Int)]? = some x0_24_0 := by rw [Int.toNat_natCast]; exact drop_at hi1
    simp only [r24_0]
    have f2 : 0 + (List.length (List.map d_s a0)) ≤ (List.length (List.map d_s v0_24_0)) := (by first | exact True.intro | with_reducible rfl | with_reducible assumption | omega | (simp only [decide_eq_true_eq] at *; omega) | (simp only [List.length_map]; omega) | (simp [ol23, ol10_0]; omega) | (simp [List.take_of_length_le, ol23, ol10_0]; done) | assumption | trivial | (simp [*, ol23, ol10_0, b_s, d_s, byteRows_eq, ints_y]; done))
    have f3 : 0 ≤ (List.length p_24_0 : Int) ∧ (List.length p_24_0 : Int) < ((List.length (List.map d_s a0)) : Int) := (by first | exact True.intro | with_reducible rfl | with_reducible assumption | omega | (simp only [decide_eq_true_eq] at *; omega) | (simp only [List.length_map]; omega) | (simp [ol23, ol10_0]; omega) | (simp [List.take_of_length_le, ol23, ol10_0]; done) | assumption | trivial | (simp [*, ol23, ol10_0, b_s, d_s, byteRows_eq, ints_y]; done))
    have f5 : (List.set (List.map d_s v0_24_0) (0 + (Int.toNat (List.length p_24_0 : Int))) [(.val (.string (m38 v1_24_0)))]) = (List.map d_s (List.set v0_24_0 (Int.toNat (List.length p_24_0 : Int)) (m38 v1_24_0))) := (by first | rfl | (simp [byteRows_eq, ints_y, List.take_of_length_le, d_sisi, d_LsisiEi, d_i, d_b, d_s, d_iisiiii, d_iLsELiisiiiiELsisiEi, d_LsisiE, d_LsE, d_LiisiiiiE, d_y, fromBR_sisi, fromBR_i, fromBR_b, fromBR_s, fromBR_iisiiii, fromBR_y, ol23, ol10_0]; done) | (simp [List.map_set, List.map_take, List.map_drop, byteRows_eq, ints_y, List.take_of_length_le, d_sisi, d_LsisiEi, d_i, d_b, d_s, d_iisiiii, d_iLsELiisiiiiELsisiEi, d_LsisiE, d_LsE, d_LiisiiiiE, d_y, fromBR_sisi, fromBR_i, fromBR_b, fromBR_s, fromBR_iisiiii, fromBR_y, ol23, ol10_0]; done))
    have st := ch b24_0 (h24_0 a0 a1 (List.length p_24_0 : Int) v0_24_0 v1_24_0) ⟨[(0, (.one (.ref ⟨(0, 0, 0), [], 0, (List.length (List.map d_s a0))⟩))), (1, (.one (.val (.int .i64 (IntKind.wrap .i64 (v1_24_0 + 1)))))), (5, (.one (.val (.int .i64 (IntKind.wrap .i64 ((List.length p_24_0 : Int) + 1))))))], [((0, 0, 0), .live ⟨1, (List.map d_s (List.set v0_24_0 (Int.toNat (List.length p_24_0 : Int)) (m38 v1_24_0))), []⟩)]⟩ .normal 34 (by kernel_rfl) (.f hc (.h 8 (.b true) (.r 16 [] [] (e38 (a0 := v1_24_0)) (.f f2 (.f f3 (.f (mz_ d_s Hv0_24_0) (.f f5 (.f trivial (.f trivial (.h 20 (.rowD [(.val (.string x0_24_0))]) (.h 21 (.norm (0, 0, 0) (List.map d_s (List.set v0_24_0 (Int.toNat (List.length p_24_0 : Int)) (m38 v1_24_0)))) .nil)))))))))))
    have ih := t24_0 (a0 := a0) (a1 := a1) hy0 l0_24_0 (p_24_0 ++ [x0_24_0]) (List.set v0_24_0 (Int.toNat (List.length p_24_0 : Int)) (m38 v1_24_0)) (IntKind.wrap .i64 (v1_24_0 + 1)) (by rw [List.append_assoc]; exact hp0) (by first | omega | (simp only [List.length_map, List.length_set, List.length_append, List.length_replicate, List.length_cons, List.length_nil]; omega) | (simp only [List.length_map, List.length_set, List.length_append, List.length_replicate, List.length_cons, List.length_nil]; assumption) | assumption | (simp only [List.length_map, List.length_set, List.length_append, List.length_replicate, List.length_cons, List.length_nil] at *; omega)) (by simp only [List.length_map, List.length_set, List.length_append, List.length_replicate, List.length_cons, List.length_nil, Int.toNat_natCast]; first | exact drop_set_next hi1 _ | exact drop_next hi1)
    rw [show ((p_24_0 ++ [x0_24_0]).length : Int) = (p_24_0.length : Int) + 1 from by simp] at ih
    rw [show (⟨[(0, (.one (.ref ⟨(0, 0, 0), [], 0, (List.length (List.map d_s a0))⟩))), (1, (.one (.val (.int .i64 (IntKind.wrap .i64 (v1_24_0 + 1)))))), (5, (.one (.val (.int .i64 (IntKind.wrap .i64 ((List.length p_24_0 : Int) + 1))))))], [((0, 0, 0), .live ⟨1, (List.map d_s (List.set v0_24_0 (Int.toNat (List.length p_24_0 : Int)) (m38 v1_24_0))), []⟩)]⟩ : St) = h24_0 a0 a1 ((List.length p_24_0 : Int) + 1) (List.set v0_24_0 (Int.toNat (List.length p_24_0 : Int)) (m38 v1_24_0)) (IntKind.wrap .i64 (v1_24_0 + 1)) from by first | (unfold h24_0; simp only [hw]; done) | (unfold h24_0; simp only [hw, List.length_map, List.length_set, List.length_append, List.length_replicate, List.length_cons, List.length_nil]; done) | (unfold h24_0; simp [hw, byteRows_eq, ints_y, List.take_of_length_le, d_sisi, d_LsisiEi, d_i, d_b, d_s, d_iisiiii, d_iLsELiisiiiiELsisiEi, d_LsisiE, d_LsE, d_LiisiiiiE, d_y, fromBR_sisi, fromBR_i, fromBR_b, fromBR_s, fromBR_iisiiii, fromBR_y, ol23, ol10_0]; done)] at st
    exact .loopN st ih
def post24_0 (n0 : Nat) : O24_0 → Prop
  | .k0 w0 _ _ _ => List.length w0 = n0
theorem z24_0 {a0 : (List ByteArray)} : ∀ (l0_24_0 : List ByteArray) (i_24_0 : Int) (v0_24_0 : List ByteArray) (v1_24_0 : Int), post24_0 (List.length v0_24_0) (r24_0 a0 l0_24_0 i_24_0 v0_24_0 v1_24_0)
  | [], i_24_0, v0_24_0, v1_24_0 => by
    first | trivial | (simp only [post24_0, List.length_nil, Nat.add_zero]; done) | (simp [post24_0]; done)
  | x0_24_0 :: l0_24_0, i_24_0, v0_24_0, v1_24_0 => by
    simp only [r24_0]
    have z := z24_0 (a0 := a0) l0_24_0 (i_24_0 + 1) (List.set v0_24_0 (Int.toNat i_24_0) (m38 v1_24_0)) (IntKind.wrap .i64 (v1_24_0 + 1))
    rw [show (List.length v0_24_0) = (List.length (List.set v0_24_0 (Int.toNat i_24_0) (m38 v1_24_0))) from by first | omega | (simp only [List.length_map, List.length_set, List.length_append, List.length_replicate, List.length_cons, List.length_nil]; done) | (simp only [List.length_map, List.length_set, List.length_append, List.length_replicate, List.length_cons, List.length_nil]; omega)]
    exact z
/-! loop.example/g00539/laws.markStringS -/
def o24_0 (a0 : (List ByteArray)) (a1 : Int) : List ByteArray :=
  (match r24_0 a0 a0 0 a0 a1 with | .k0 w0_24_0_0 w1_24_0_0 w2_24_0_0 w3_24_0_0 => w0_24_0_0)
def m24 (a0 : (List ByteArray)) (a1 : Int) : Int :=
  (match r24_0 a0 a0 0 a0 a1 with | .k0 w0_24_0_0 w1_24_0_0 w2_24_0_0 w3_24_0_0 => w1_24_0_0)
theorem e24 {a0 : (List ByteArray)} {a1 : Int} (hy0 : List.length a0 * 16 ≤ 140737488351232) : Ev F X (.call 24 [(.one (.ref ⟨(0, 0, 0), [], 0, (List.length (List.map d_s a0))⟩)), (.one (.val (.int .i64 a1)))] [((0, 0, 0), ⟨1, (List.map d_s a0), []⟩)] [(List.map d_s (o24_0 a0 a1))] [(.one (.val (.int .i64 (m24 a0 a1))))]) := by
  unfold m24 o24_0
  cases h0 : r24_0 a0 a0 0 a0 a1 with
  | k0 w0_24_0_0 w1_24_0_0 w2_24_0_0 w3_24_0_0 =>
    try dsimp only
    have zh0 := z24_0 (a0 := a0) a0 0 a0 a1; rw [h0] at zh0; simp only [post24_0, List.length_map, List.length_set, List.length_append, List.length_replicate, List.length_cons, List.length_nil, Int.toNat_natCast] at zh0
    have f0 : (⟨[(0, (.one (.ref ⟨(0, 0, 0), [], 0, (List.length (List.map d_s a0))⟩))), (1, (.one (.val (.int .i64 a1)))), (5, (.one (.val (.int .i64 0))))], [((0, 0, 0), .live ⟨1, (List.map d_s a0), []⟩)]⟩ : St) = h24_0 a0 a1 0 a0 a1 := (by first | rfl | (unfold h24_0; simp [byteRows_eq, ints_y, List.take_of_length_le, d_sisi, d_LsisiEi, d_i, d_b, d_s, d_iisiiii, d_iLsELiisiiiiELsisiEi, d_LsisiE, d_LsE, d_LiisiiiiE, d_y, fromBR_sisi, fromBR_i, fromBR_b, fromBR_s, fromBR_iisiiii, fromBR_y, ol23, ol10_0]; done))
    exact cq [true] (by kernel_rfl) (.f f0 (.f (ev_ (e := ex24_0) (g := (fin24_0 a0 a1)) h0 (t24_0 (a0 := a0) (a1 := a1) (by first | assumption | omega) a0 [] a0 a1 rfl (by first | rfl | omega | (simp only [List.length_map, List.length_set, List.length_append, List.length_replicate, List.length_cons, List.length_nil]; done) | (simp only [List.length_map, List.length_set, List.length_append, List.length_replicate, List.length_cons, List.length_nil]; omega) | (simp; done)) (by first | rfl | omega | (simp only [List.length_map, List.length_set, List.length_append, List.length_replicate, List.length_cons, List.length_nil]; done) | (simp only [List.length_map, List.length_set, List.length_append, List.length_replicate, List.length_cons, List.length_nil]; omega) | (simp; done)))) (.f (pureR_s w0_24_0_0) (.h 4 (.loop (h24_0 a0 a1 0 a0 a1) (.exit 0) ⟨[(0, (.one (.ref ⟨(0, 0, 0), [], 0, (List.length (List.map d_s a0))⟩))), (1, (.one (.val (.int .i64 w1_24_0_0)))), (5, (.one (.val (.int .i64 w2_24_0_0)))), (9, (.one (.val (.bool w3_24_0_0))))], [((0, 0, 0), .live ⟨1, (List.map d_s w0_24_0_0), []⟩)]⟩) .nil))))
theorem ow24_0 (a0 : List ByteArray) : ∀ (l p : List ByteArray) (v1_24_0 : Int), ∃ (q : List ByteArray) (w1 : _) (w2 : _) (w3 : _), r24_0 a0 l (p.length : Int) (p ++ l) v1_24_0 = .k0 (p ++ q) w1 w2 w3 ∧ q.length = l.length
  | [], p, v1_24_0 => ⟨[], v1_24_0, (p.length : Int), (decide ((p.length : Int) < ((List.length (List.map d_s a0)) : Int))), rfl, rfl⟩
  | x0_24_0 :: l, p, v1_24_0 => by
    obtain ⟨q, w1, w2, w3, e1, e2⟩ := ow24_0 a0 l (p ++ [(m38 v1_24_0)]) (IntKind.wrap .i64 (v1_24_0 + 1))
    refine ⟨(m38 v1_24_0) :: q, w1, w2, w3, ?_, by simp [e2]⟩
    · have e : List.set (p ++ x0_24_0 :: l) (Int.toNat (p.length : Int)) (m38 v1_24_0) = (p ++ [(m38 v1_24_0)]) ++ l := by simp
      have e0 : ((p ++ [(m38 v1_24_0)]).length : Int) = (p.length : Int) + 1 := by simp
      rw [e0] at e1
      simp only [r24_0]
      first | (rw [e, e1]; simp; done) | (simp only [e, e1]; simp; done)

theorem ol24 (a : List ByteArray) (k : Int) : (o24_0 a k).length = a.length := by
  obtain ⟨q, w1, w2, w3, e1, e2⟩ := ow24_0 a a [] k
  simp only [List.nil_append, List.length_nil] at e1
  rw [show ((0 : Nat) : Int) = 0 from rfl] at e1
  unfold o24_0
  rw [e1]; exact e2
/-! loop 25_0 -/
inductive O25_0 where
  | k0 (w0 : List K_iisiiii) (w1 : Int) (w2 : Int) (w3 : Bool)
def r25_0 (a0 : (List K_iisiiii)) : List K_iisiiii → Int → List K_iisiiii → Int → O25_0
  | x0_25_0 :: l0_25_0, i_25_0, v0_25_0, v1_25_0 =>
    (r25_0 a0 l0_25_0 (i_25_0 + 1) (List.set v0_25_0 (Int.toNat i_25_0) (K_iisiiii.mk v1_25_0 (IntKind.wrap .i64 (v1_25_0 + 1)) (m38 (IntKind.wrap .i64 ((IntKind.wrap .i64 (v1_25_0 + 1)) + 1))) (IntKind.wrap .i64 ((IntKind.wrap .i64 ((IntKind.wrap .i64 (v1_25_0 + 1)) + 1)) + 1)) (IntKind.wrap .i64 ((IntKind.wrap .i64 ((IntKind.wrap .i64 ((IntKind.wrap .i64 (v1_25_0 + 1)) + 1)) + 1)) + 1)) (IntKind.wrap .i64 ((IntKind.wrap .i64 ((IntKind.wrap .i64 ((IntKind.wrap .i64 ((IntKind.wrap .i64 (v1_25_0 + 1)) + 1)) + 1)) + 1)) + 1)) (IntKind.wrap .i64 ((IntKind.wrap .i64 ((IntKind.wrap .i64 ((IntKind.wrap .i64 ((IntKind.wrap .i64 ((IntKind.wrap .i64 (v1_25_0 + 1)) + 1)) + 1)) + 1)) + 1)) + 1)))) (IntKind.wrap .i64 ((IntKind.wrap .i64 ((IntKind.wrap .i64 ((IntKind.wrap .i64 ((IntKind.wrap .i64 ((IntKind.wrap .i64 ((IntKind.wrap .i64 (v1_25_0 + 1)) + 1)) + 1)) + 1)) + 1)) + 1)) + 1)))
  | [], i_25_0, v0_25_0, v1_25_0 => (O25_0.k0 v0_25_0 v1_25_0 i_25_0 (decide (i_25_0 < ((List.length (List.map d_iisiiii a0)) : Int))))
def h25_0 (a0 : (List K_iisiiii)) (a1 : Int) (i_25_0 : Int) (v0_25_0 : List K_iisiiii) (v1_25_0 : Int) : St := ⟨[(0, (.one (.ref ⟨(0, 0, 0), [], 0, (List.length (List.map d_iisiiii a0))⟩))), (1, (.one (.val (.int .i64 v1_25_0)))), (5, (.one (.val (.int .i64 i_25_0))))], [((0, 0, 0), .live ⟨7, (List.map d_iisiiii v0_25_0), []⟩)]⟩
def ex25_0 : O25_0 → VX.Exit
  | .k0 _ _ _ _ => (.exit 0)
def fin25_0 (a0 : (List K_iisiiii)) (a1 : Int) : O25_0 → St
  | .k0 w0 w1 w2 w3 => ⟨[(0, (.one (.ref ⟨(0, 0, 0), [], 0, (List.length (List.map d_iisiiii a0))⟩))), (1, (.one (.val (.int .i64 w1)))), (5, (.one (.val (.int .i64 w2)))), (9, (.one (.val (.bool w3))))], [((0, 0, 0), .live ⟨7, (List.map d_iisiiii w0), []⟩)]⟩
theorem t25_0 {a0 : (List K_iisiiii)} {a1 : Int} (hy0 : List.length a0 * 64 ≤ 140737488351232) : ∀ (l0_25_0 : List K_iisiiii) (p_25_0 : List K_iisiiii) (v0_25_0 : List K_iisiiii) (v1_25_0 : Int), p_25_0 ++ l0_25_0 = a0 → List.length v0_25_0 = (List.length (List.map d_iisiiii a0)) → List.drop (List.length p_25_0) v0_25_0 = l0_25_0 → Ev F X (.code l25_0 (h25_0 a0 a1 (List.length p_25_0 : Int) v0_25_0 v1_25_0) (ex25_0 (r25_0 a0 l0_25_0 (List.length p_25_0 : Int) v0_25_0 v1_25_0)) (fin25_0 a0 a1 (r25_0 a0 l0_25_0 (List.length p_25_0 : Int) v0_25_0 v1_25_0)))
  | [], p_25_0, v0_25_0, v1_25_0, hp0, hi0, hi1 => by
    have hc : ¬ (decide ((List.length p_25_0 : Int) < ((List.length (List.map d_iisiiii a0)) : Int))) = true := by
      rw [← hp0]; simp only [List.length_map, List.length_set, List.length_append, List.length_replicate, List.length_cons, List.length_nil, decide_eq_true_eq]; omega
    have hj0 := hi0; try simp only [List.length_map, List.length_set, List.length_append, List.length_replicate, List.length_cons, List.length_nil, Int.toNat_natCast] at hj0
    have hj1 := hi1; try simp only [List.length_map, List.length_set, List.length_append, List.length_replicate, List.length_cons, List.length_nil, Int.toNat_natCast] at hj1
    have st := ch b25_0 (h25_0 a0 a1 (List.length p_25_0 : Int) v0_25_0 v1_25_0) ⟨[(0, (.one (.ref ⟨(0, 0, 0), [], 0, (List.length (List.map d_iisiiii a0))⟩))), (1, (.one (.val (.int .i64 v1_25_0)))), (5, (.one (.val (.int .i64 (List.length p_25_0 : Int))))), (9, (.one (.val (.bool (decide ((List.length p_25_0 : Int) < ((List.length (List.map d_iisiiii a0)) : Int)))))))], [((0, 0, 0), .live ⟨7, (List.map d_iisiiii v0_25_0), []⟩)]⟩ (.exit 0) 9 (by kernel_rfl) (.f (nt hc) (.h 8 (.b false) .nil))
    rw [show (⟨[(0, (.one (.ref ⟨(0, 0, 0), [], 0, (List.length (List.map d_iisiiii a0))⟩))), (1, (.one (.val (.int .i64 v1_25_0)))), (5, (.one (.val (.int .i64 (List.length p_25_0 : Int))))), (9, (.one (.val (.bool (decide ((List.length p_25_0 : Int) < ((List.length (List.map d_iisiiii a0)) : Int)))))))], [((0, 0, 0), .live ⟨7, (List.map d_iisiiii v0_25_0), []⟩)]⟩ : St) = fin25_0 a0 a1 (.k0 v0_25_0 v1_25_0 (List.length p_25_0 : Int) (decide ((List.length p_25_0 : Int) < ((List.length (List.map d_iisiiii a0)) : Int)))) from by first | rfl | (unfold fin25_0; simp [byteRows_eq, ints_y, List.take_of_length_le, d_sisi, d_LsisiEi, d_i, d_b, d_s, d_iisiiii, d_iLsELiisiiiiELsisiEi, d_LsisiE, d_LsE, d_LiisiiiiE, d_y, fromBR_sisi, fromBR_i, fromBR_b, fromBR_s, fromBR_iisiiii, fromBR_y, ol23, ol10_0, ol24]; done)] at st
    exact .loopX st (show ((.exit 0) : VX.Exit) ≠ .normal from by simp)
  | x0_25_0 :: l0_25_0, p_25_0, v0_25_0, v1_25_0, hp0, hi0, hi1 => by
    have hc : (decide ((List.length p_25_0 : Int) < ((List.length (List.map d_iisiiii a0)) : Int))) = true := by
      rw [← hp0]; simp only [List.length_map, List.length_set, List.length_append, List.length_replicate, List.length_cons, List.length_nil, decide_eq_true_eq]; omega
    have Hx0_25_0 : (a0)[Int.toNat (List.length p_25_0 : Int)]? = some x0_25_0 := by
      rw [← hp0, Int.toNat_natCast]; simp
    have hlen : List.length (a0) = List.length p_25_0 + List.length l0_25_0 + 1 := by rw [← hp0]; simp; omega
    have hw : IntKind.wrap .i64 ((List.length p_25_0 : Int) + 1) = (List.length p_25_0 : Int) + 1 := wrap64 (by omega)
    have hj0 := hi0; try simp only [List.length_map, List.length_set, List.length_append, List.length_replicate, List.length_cons, List.length_nil, Int.toNat_natCast] at hj0
    have hj1 := hi1; try simp only [List.length_map, List.length_set, List.length_append, List.length_replicate, List.length_cons, List.length_nil, Int.toNat_natCast] at hj1
    have Hv0_25_0 : v0_25_0[Int.toNat (List.length p_25_0 : Int)]? = some x0_25_0 := by rw [Int.toNat_natCast]; exact drop_at hi1
    simp only [r25_0]
    have f1 : 0 + (List.length (List.map d_iisiiii a0)) ≤ (List.length (List.map d_iisiiii v0_25_0)) := (by first | exact True.intro | with_reducible rfl | with_reducible assumption | omega | (simp only [decide_eq_true_eq] at *; omega) | (simp only [List.length_map]; omega) | (simp [ol23, ol10_0, ol24]; omega) | (simp [List.take_of_length_le, ol23, ol10_0, ol24]; done) | assumption | trivial | (simp [*, ol23, ol10_0, ol24, b_iisiiii, d_iisiiii, byteRows_eq, ints_y]; done))
    have f2 : 0 ≤ (List.length p_25_0 : Int) ∧ (List.length p_25_0 : Int) < ((List.length (List.map d_iisiiii a0)) : Int) := (by first | exact True.intro | with_reducible rfl | with_reducible assumption | omega | (simp only [decide_eq_true_eq] at *; omega) | (simp only [List.length_map]; omega) | (simp [ol23, ol10_0, ol24]; omega) | (simp [List.take_of_length_le, ol23, ol10_0, ol24]; done) | assumption | trivial | (simp [*, ol23, ol10_0, ol24, b_iisiiii, d_iisiiii, byteRows_eq, ints_y]; done))
    have f4 : (List.set (List.map d_iisiiii v0_25_0) (0 + (Int.toNat (List.length p_25_0 : Int))) [(.val (.int .i64 v1_25_0)), (.val (.int .i64 x0_25_0.f1)), (.val (.string x0_25_0.f2)), (.val (.int .i64 x0_25_0.f3)), (.val (.int .i64 x0_25_0.f4)), (.val (.int .i64 x0_25_0.f5)), (.val (.int .i64 x0_25_0.f6))]) = (List.map d_iisiiii (List.set v0_25_0 (Int.toNat (List.length p_25_0 : Int)) (K_iisiiii.mk v1_25_0 x0_25_0.f1 x0_25_0.f2 x0_25_0.f3 x0_25_0.f4 x0_25_0.f5 x0_25_0.f6))) := (by first | rfl | (simp [byteRows_eq, ints_y, List.take_of_length_le, d_sisi, d_LsisiEi, d_i, d_b, d_s, d_iisiiii, d_iLsELiisiiiiELsisiEi, d_LsisiE, d_LsE, d_LiisiiiiE, d_y, fromBR_sisi, fromBR_i, fromBR_b, fromBR_s, fromBR_iisiiii, fromBR_y, ol23, ol10_0, ol24]; done) | (simp [List.map_set, List.map_take, List.map_drop, byteRows_eq, ints_y, List.take_of_length_le, d_sisi, d_LsisiEi, d_i, d_b, d_s, d_iisiiii, d_iLsELiisiiiiELsisiEi, d_LsisiE, d_LsE, d_LiisiiiiE, d_y, fromBR_sisi, fromBR_i, fromBR_b, fromBR_s, fromBR_iisiiii, fromBR_y, ol23, ol10_0, ol24]; done))
    have f6 : 0 + (List.length (List.map d_iisiiii a0)) ≤ (List.length (List.map d_iisiiii (List.set v0_25_0 (Int.toNat (List.length p_25_0 : Int)) (K_iisiiii.mk v1_25_0 x0_25_0.f1 x0_25_0.f2 x0_25_0.f3 x0_25_0.f4 x0_25_0.f5 x0_25_0.f6)))) := (by first | exact True.intro | with_reducible rfl | with_reducible assumption | omega | (simp only [decide_eq_true_eq] at *; omega) | (simp only [List.length_map, List.length_set]; omega) | (simp [ol23, ol10_0, ol24]; omega) | (simp [List.take_of_length_le, ol23, ol10_0, ol24]; done) | assumption | trivial | (simp [*, ol23, ol10_0, ol24, b_iisiiii, d_iisiiii, byteRows_eq, ints_y]; done))
    have f8 : (List.map d_iisiiii (List.set v0_25_0 (Int.toNat (List.length p_25_0 : Int)) (K_iisiiii.mk v1_25_0 x0_25_0.f1 x0_25_0.f2 x0_25_0.f3 x0_25_0.f4 x0_25_0.f5 x0_25_0.f6)))[(0 + (Int.toNat (List.length p_25_0 : Int)))]? = some [(.val (.int .i64 v1_25_0)), (.val (.int .i64 x0_25_0.f1)), (.val (.string x0_25_0.f2)), (.val (.int .i64 x0_25_0.f3)), (.val (.int .i64 x0_25_0.f4)), (.val (.int .i64 x0_25_0.f5)), (.val (.int .i64 x0_25_0.f6))] := (by first | (rw [List.map_set, List.getElem?_set_self (by simp only [List.length_map]; omega)]; rfl) | (rw [Nat.zero_add, List.map_set, List.getElem?_set_self (by simp only [List.length_map]; omega)]; rfl) | (rw [List.getElem?_set_self (by simp only [List.length_map]; omega)]; rfl) | (rw [Nat.zero_add, List.getElem?_set_self (by simp only [List.length_map]; omega)]; rfl))
    have f9 : (List.set (List.map d_iisiiii (List.set v0_25_0 (Int.toNat (List.length p_25_0 : Int)) (K_iisiiii.mk v1_25_0 x0_25_0.f1 x0_25_0.f2 x0_25_0.f3 x0_25_0.f4 x0_25_0.f5 x0_25_0.f6))) (0 + (Int.toNat (List.length p_25_0 : Int))) [(.val (.int .i64 v1_25_0)), (.val (.int .i64 (IntKind.wrap .i64 (v1_25_0 + 1)))), (.val (.string x0_25_0.f2)), (.val (.int .i64 x0_25_0.f3)), (.val (.int .i64 x0_25_0.f4)), (.val (.int .i64 x0_25_0.f5)), (.val (.int .i64 x0_25_0.f6))]) = (List.map d_iisiiii (List.set v0_25_0 (Int.toNat (List.length p_25_0 : Int)) (K_iisiiii.mk v1_25_0 (IntKind.wrap .i64 (v1_25_0 + 1)) x0_25_0.f2 x0_25_0.f3 x0_25_0.f4 x0_25_0.f5 x0_25_0.f6))) := (by first | rfl | (simp [byteRows_eq, ints_y, List.take_of_length_le, d_sisi, d_LsisiEi, d_i, d_b, d_s, d_iisiiii, d_iLsELiisiiiiELsisiEi, d_LsisiE, d_LsE, d_LiisiiiiE, d_y, fromBR_sisi, fromBR_i, fromBR_b, fromBR_s, fromBR_iisiiii, fromBR_y, ol23, ol10_0, ol24]; done) | (simp [List.map_set, List.map_take, List.map_drop, byteRows_eq, ints_y, List.take_of_length_le, d_sisi, d_LsisiEi, d_i, d_b, d_s, d_iisiiii, d_iLsELiisiiiiELsisiEi, d_LsisiE, d_LsE, d_LiisiiiiE, d_y, fromBR_sisi, fromBR_i, fromBR_b, fromBR_s, fromBR_iisiiii, fromBR_y, ol23, ol10_0, ol24]; done))
    have f12 : 0 + (List.length (List.map d_iisiiii a0)) ≤ (List.length (List.map d_iisiiii (List.set v0_25_0 (Int.toNat (List.length p_25_0 : Int)) (K_iisiiii.mk v1_25_0 (IntKind.wrap .i64 (v1_25_0 + 1)) x0_25_0.f2 x0_25_0.f3 x0_25_0.f4 x0_25_0.f5 x0_25_0.f6)))) := (by first | exact True.intro | with_reducible rfl | with_reducible assumption | omega | (simp only [decide_eq_true_eq] at *; omega) | (simp only [List.length_map, List.length_set]; omega) | (simp [ol23, ol10_0, ol24]; omega) | (simp [List.take_of_length_le, ol23, ol10_0, ol24]; done) | assumption | trivial | (simp [*, ol23, ol10_0, ol24, b_iisiiii, d_iisiiii, byteRows_eq, ints_y]; done))
    have f14 : (List.map d_iisiiii (List.set v0_25_0 (Int.toNat (List.length p_25_0 : Int)) (K_iisiiii.mk v1_25_0 (IntKind.wrap .i64 (v1_25_0 + 1)) x0_25_0.f2 x0_25_0.f3 x0_25_0.f4 x0_25_0.f5 x0_25_0.f6)))[(0 + (Int.toNat (List.length p_25_0 : Int)))]? = some [(.val (.int .i64 v1_25_0)), (.val (.int .i64 (IntKind.wrap .i64 (v1_25_0 + 1)))), (.val (.string x0_25_0.f2)), (.val (.int .i64 x0_25_0.f3)), (.val (.int .i64 x0_25_0.f4)), (.val (.int .i64 x0_25_0.f5)), (.val (.int .i64 x0_25_0.f6))] := (by first | (rw [List.map_set, List.getElem?_set_self (by simp only [List.length_map]; omega)]; rfl) | (rw [Nat.zero_add, List.map_set, List.getElem?_set_self (by simp only [List.length_map]; omega)]; rfl) | (rw [List.getElem?_set_self (by simp only [List.length_map]; omega)]; rfl) | (rw [Nat.zero_add, List.getElem?_set_self (by simp only [List.length_map]; omega)]; rfl))
    have f15 : (List.set (List.map d_iisiiii (List.set v0_25_0 (Int.toNat (List.length p_25_0 : Int)) (K_iisiiii.mk v1_25_0 (IntKind.wrap .i64 (v1_25_0 + 1)) x0_25_0.f2 x0_25_0.f3 x0_25_0.f4 x0_25_0.f5 x0_25_0.f6))) (0 + (Int.toNat (List.length p_25_0 : Int))) [(.val (.int .i64 v1_25_0)), (.val (.int .i64 (IntKind.wrap .i64 (v1_25_0 + 1)))), (.val (.string (m38 (IntKind.wrap .i64 ((IntKind.wrap .i64 (v1_25_0 + 1)) + 1))))), (.val (.int .i64 x0_25_0.f3)), (.val (.int .i64 x0_25_0.f4)), (.val (.int .i64 x0_25_0.f5)), (.val (.int .i64 x0_25_0.f6))]) = (List.map d_iisiiii (List.set v0_25_0 (Int.toNat (List.length p_25_0 : Int)) (K_iisiiii.mk v1_25_0 (IntKind.wrap .i64 (v1_25_0 + 1)) (m38 (IntKind.wrap .i64 ((IntKind.wrap .i64 (v1_25_0 + 1)) + 1))) x0_25_0.f3 x0_25_0.f4 x0_25_0.f5 x0_25_0.f6))) := (by first | rfl | (simp [byteRows_eq, ints_y, List.take_of_length_le, d_sisi, d_LsisiEi, d_i, d_b, d_s, d_iisiiii, d_iLsELiisiiiiELsisiEi, d_LsisiE, d_LsE, d_LiisiiiiE, d_y, fromBR_sisi, fromBR_i, fromBR_b, fromBR_s, fromBR_iisiiii, fromBR_y, ol23, ol10_0, ol24]; done) | (simp [List.map_set, List.map_take, List.map_drop, byteRows_eq, ints_y, List.take_of_length_le, d_sisi, d_LsisiEi, d_i, d_b, d_s, d_iisiiii, d_iLsELiisiiiiELsisiEi, d_LsisiE, d_LsE, d_LiisiiiiE, d_y, fromBR_sisi, fromBR_i, fromBR_b, fromBR_s, fromBR_iisiiii, fromBR_y, ol23, ol10_0, ol24]; done))
    have f17 : 0 + (List.length (List.map d_iisiiii a0)) ≤ (List.length (List.map d_iisiiii (List.set v0_25_0 (Int.toNat (List.length p_25_0 : Int)) (K_iisiiii.mk v1_25_0 (IntKind.wrap .i64 (v1_25_0 + 1)) (m38 (IntKind.wrap .i64 ((IntKind.wrap .i64 (v1_25_0 + 1)) + 1))) x0_25_0.f3 x0_25_0.f4 x0_25_0.f5 x0_25_0.f6)))) := (by first | exact True.intro | with_reducible rfl | with_reducible assumption | omega | (unfold m38; (repeat' split) <;> simp_all <;> omega) | (simp only [decide_eq_true_eq] at *; omega) | (simp only [List.length_map, List.length_set]; omega) | (simp [ol23, ol10_0, ol24]; omega) | (simp [List.take_of_length_le, ol23, ol10_0, ol24]; done) | assumption | trivial | (simp [*, ol23, ol10_0, ol24, b_iisiiii, d_iisiiii, byteRows_eq, ints_y]; done))
    have f19 : (List.map d_iisiiii (List.set v0_25_0 (Int.toNat (List.length p_25_0 : Int)) (K_iisiiii.mk v1_25_0 (IntKind.wrap .i64 (v1_25_0 + 1)) (m38 (IntKind.wrap .i64 ((IntKind.wrap .i64 (v1_25_0 + 1)) + 1))) x0_25_0.f3 x0_25_0.f4 x0_25_0.f5 x0_25_0.f6)))[(0 + (Int.toNat (List.length p_25_0 : Int)))]? = some [(.val (.int .i64 v1_25_0)), (.val (.int .i64 (IntKind.wrap .i64 (v1_25_0 + 1)))), (.val (.string (m38 (IntKind.wrap .i64 ((IntKind.wrap .i64 (v1_25_0 + 1)) + 1))))), (.val (.int .i64 x0_25_0.f3)), (.val (.int .i64 x0_25_0.f4)), (.val (.int .i64 x0_25_0.f5)), (.val (.int .i64 x0_25_0.f6))] := (by first | (rw [List.map_set, List.getElem?_set_self (by simp only [List.length_map]; omega)]; rfl) | (rw [Nat.zero_add, List.map_set, List.getElem?_set_self (by simp only [List.length_map]; omega)]; rfl) | (rw [List.getElem?_set_self (by simp only [List.length_map]; omega)]; rfl) | (rw [Nat.zero_add, List.getElem?_set_self (by simp only [List.length_map]; omega)]; rfl))
    have f20 : (List.set (List.map d_iisiiii (List.set v0_25_0 (Int.toNat (List.length p_25_0 : Int)) (K_iisiiii.mk v1_25_0 (IntKind.wrap .i64 (v1_25_0 + 1)) (m38 (IntKind.wrap .i64 ((IntKind.wrap .i64 (v1_25_0 + 1)) + 1))) x0_25_0.f3 x0_25_0.f4 x0_25_0.f5 x0_25_0.f6))) (0 + (Int.toNat (List.length p_25_0 : Int))) [(.val (.int .i64 v1_25_0)), (.val (.int .i64 (IntKind.wrap .i64 (v1_25_0 + 1)))), (.val (.string (m38 (IntKind.wrap .i64 ((IntKind.wrap .i64 (v1_25_0 + 1)) + 1))))), (.val (.int .i64 (IntKind.wrap .i64 ((IntKind.wrap .i64 ((IntKind.wrap .i64 (v1_25_0 + 1)) + 1)) + 1)))), (.val (.int .i64 x0_25_0.f4)), (.val (.int .i64 x0_25_0.f5)), (.val (.int .i64 x0_25_0.f6))]) = (List.map d_iisiiii (List.set v0_25_0 (Int.toNat (List.length p_25_0 : Int)) (K_iisiiii.mk v1_25_0 (IntKind.wrap .i64 (v1_25_0 + 1)) (m38 (IntKind.wrap .i64 ((IntKind.wrap .i64 (v1_25_0 + 1)) + 1))) (IntKind.wrap .i64 ((IntKind.wrap .i64 ((IntKind.wrap .i64 (v1_25_0 + 1)) + 1)) + 1)) x0_25_0.f4 x0_25_0.f5 x0_25_0.f6))) := (by first | rfl | (simp [byteRows_eq, ints_y, List.take_of_length_le, d_sisi, d_LsisiEi, d_i, d_b, d_s, d_iisiiii, d_iLsELiisiiiiELsisiEi, d_LsisiE, d_LsE, d_LiisiiiiE, d_y, fromBR_sisi, fromBR_i, fromBR_b, fromBR_s, fromBR_iisiiii, fromBR_y, ol23, ol10_0, ol24]; done) | (simp [List.map_set, List.map_take, List.map_drop, byteRows_eq, ints_y, List.take_of_length_le, d_sisi, d_LsisiEi, d_i, d_b, d_s, d_iisiiii, d_iLsELiisiiiiELsisiEi, d_LsisiE, d_LsE, d_LiisiiiiE, d_y, fromBR_sisi, fromBR_i, fromBR_b, fromBR_s, fromBR_iisiiii, fromBR_y, ol23, ol10_0, ol24]; done))
    have f22 : 0 + (List.length (List.map d_iisiiii a0)) ≤ (List.length (List.map d_iisiiii (List.set v0_25_0 (Int.toNat (List.length p_25_0 : Int)) (K_iisiiii.mk v1_25_0 (IntKind.wrap .i64 (v1_25_0 + 1)) (m38 (IntKind.wrap .i64 ((IntKind.wrap .i64 (v1_25_0 + 1)) + 1))) (IntKind.wrap .i64 ((IntKind.wrap .i64 ((IntKind.wrap .i64 (v1_25_0 + 1)) + 1)) + 1)) x0_25_0.f4 x0_25_0.f5 x0_25_0.f6)))) := (by first | exact True.intro | with_reducible rfl | with_reducible assumption | omega | (unfold m38; (repeat' split) <;> simp_all <;> omega) | (simp only [decide_eq_true_eq] at *; omega) | (simp only [List.length_map, List.length_set]; omega) | (simp [ol23, ol10_0, ol24]; omega) | (simp [List.take_of_length_le, ol23, ol10_0, ol24]; done) | assumption | trivial | (simp [*, ol23, ol10_0, ol24, b_iisiiii, d_iisiiii, byteRows_eq, ints_y]; done))
    have f24 : (List.map d_iisiiii (List.set v0_25_0 (Int.toNat (List.length p_25_0 : Int)) (K_iisiiii.mk v1_25_0 (IntKind.wrap .i64 (v1_25_0 + 1)) (m38 (IntKind.wrap .i64 ((IntKind.wrap .i64 (v1_25_0 + 1)) + 1))) (IntKind.wrap .i64 ((IntKind.wrap .i64 ((IntKind.wrap .i64 (v1_25_0 + 1)) + 1)) + 1)) x0_25_0.f4 x0_25_0.f5 x0_25_0.f6)))[(0 + (Int.toNat (List.length p_25_0 : Int)))]? = some [(.val (.int .i64 v1_25_0)), (.val (.int .i64 (IntKind.wrap .i64 (v1_25_0 + 1)))), (.val (.string (m38 (IntKind.wrap .i64 ((IntKind.wrap .i64 (v1_25_0 + 1)) + 1))))), (.val (.int .i64 (IntKind.wrap .i64 ((IntKind.wrap .i64 ((IntKind.wrap .i64 (v1_25_0 + 1)) + 1)) + 1)))), (.val (.int .i64 x0_25_0.f4)), (.val (.int .i64 x0_25_0.f5)), (.val (.int .i64 x0_25_0.f6))] := (by first | (rw [List.map_set, List.getElem?_set_self (by simp only [List.length_map]; omega)]; rfl) | (rw [Nat.zero_add, List.map_set, List.getElem?_set_self (by simp only [List.length_map]; omega)]; rfl) | (rw [List.getElem?_set_self (by simp only [List.length_map]; omega)]; rfl) | (rw [Nat.zero_add, List.getElem?_set_self (by simp only [List.length_map]; omega)]; rfl))
    have f25 : (List.set (List.map d_iisiiii (List.set v0_25_0 (Int.toNat (List.length p_25_0 : Int)) (K_iisiiii.mk v1_25_0 (IntKind.wrap .i64 (v1_25_0 + 1)) (m38 (IntKind.wrap .i64 ((IntKind.wrap .i64 (v1_25_0 + 1)) + 1))) (IntKind.wrap .i64 ((IntKind.wrap .i64 ((IntKind.wrap .i64 (v1_25_0 + 1)) + 1)) + 1)) x0_25_0.f4 x0_25_0.f5 x0_25_0.f6))) (0 + (Int.toNat (List.length p_25_0 : Int))) [(.val (.int .i64 v1_25_0)), (.val (.int .i64 (IntKind.wrap .i64 (v1_25_0 + 1)))), (.val (.string (m38 (IntKind.wrap .i64 ((IntKind.wrap .i64 (v1_25_0 + 1)) + 1))))), (.val (.int .i64 (IntKind.wrap .i64 ((IntKind.wrap .i64 ((IntKind.wrap .i64 (v1_25_0 + 1)) + 1)) + 1)))), (.val (.int .i64 (IntKind.wrap .i64 ((IntKind.wrap .i64 ((IntKind.wrap .i64 ((IntKind.wrap .i64 (v1_25_0 + 1)) + 1)) + 1)) + 1)))), (.val (.int .i64 x0_25_0.f5)), (.val (.int .i64 x0_25_0.f6))]) = (List.map d_iisiiii (List.set v0_25_0 (Int.toNat (List.length p_25_0 : Int)) (K_iisiiii.mk v1_25_0 (IntKind.wrap .i64 (v1_25_0 + 1)) (m38 (IntKind.wrap .i64 ((IntKind.wrap .i64 (v1_25_0 + 1)) + 1))) (IntKind.wrap .i64 ((IntKind.wrap .i64 ((IntKind.wrap .i64 (v1_25_0 + 1)) + 1)) + 1)) (IntKind.wrap .i64 ((IntKind.wrap .i64 ((IntKind.wrap .i64 ((IntKind.wrap .i64 (v1_25_0 + 1)) + 1)) + 1)) + 1)) x0_25_0.f5 x0_25_0.f6))) := (by first | rfl | (simp [byteRows_eq, ints_y, List.take_of_length_le, d_sisi, d_LsisiEi, d_i, d_b, d_s, d_iisiiii, d_iLsELiisiiiiELsisiEi, d_LsisiE, d_LsE, d_LiisiiiiE, d_y, fromBR_sisi, fromBR_i, fromBR_b, fromBR_s, fromBR_iisiiii, fromBR_y, ol23, ol10_0, ol24]; done) | (simp [List.map_set, List.map_take, List.map_drop, byteRows_eq, ints_y, List.take_of_length_le, d_sisi, d_LsisiEi, d_i, d_b, d_s, d_iisiiii, d_iLsELiisiiiiELsisiEi, d_LsisiE, d_LsE, d_LiisiiiiE, d_y, fromBR_sisi, fromBR_i, fromBR_b, fromBR_s, fromBR_iisiiii, fromBR_y, ol23, ol10_0, ol24]; done))
    have f27 : 0 + (List.length (List.map d_iisiiii a0)) ≤ (List.length (List.map d_iisiiii (List.set v0_25_0 (Int.toNat (List.length p_25_0 : Int)) (K_iisiiii.mk v1_25_0 (IntKind.wrap .i64 (v1_25_0 + 1)) (m38 (IntKind.wrap .i64 ((IntKind.wrap .i64 (v1_25_0 + 1)) + 1))) (IntKind.wrap .i64 ((IntKind.wrap .i64 ((IntKind.wrap .i64 (v1_25_0 + 1)) + 1)) + 1)) (IntKind.wrap .i64 ((IntKind.wrap .i64 ((IntKind.wrap .i64 ((IntKind.wrap .i64 (v1_25_0 + 1)) + 1)) + 1)) + 1)) x0_25_0.f5 x0_25_0.f6)))) := (by first | exact True.intro | with_reducible rfl | with_reducible assumption | omega | (unfold m38; (repeat' split) <;> simp_all <;> omega) | (simp only [decide_eq_true_eq] at *; omega) | (simp only [List.length_map, List.length_set]; omega) | (simp [ol23, ol10_0, ol24]; omega) | (simp [List.take_of_length_le, ol23, ol10_0, ol24]; done) | assumption | trivial | (simp [*, ol23, ol10_0, ol24, b_iisiiii, d_iisiiii, byteRows_eq, ints_y]; done))
    have f29 : (List.map d_iisiiii (List.set v0_25_0 (Int.toNat (List.length p_25_0 : Int)) (K_iisiiii.mk v1_25_0 (IntKind.wrap .i64 (v1_25_0 + 1)) (m38 (IntKind.wrap .i64 ((IntKind.wrap .i64 (v1_25_0 + 1)) + 1))) (IntKind.wrap .i64 ((IntKind.wrap .i64 ((IntKind.wrap .i64 (v1_25_0 + 1)) + 1)) + 1)) (IntKind.wrap .i64 ((IntKind.wrap .i64 ((IntKind.wrap .i64 ((IntKind.wrap .i64 (v1_25_0 + 1)) + 1)) + 1)) + 1)) x0_25_0.f5 x0_25_0.f6)))[(0 + (Int.toNat (List.length p_25_0 : Int)))]? = some [(.val (.int .i64 v1_25_0)), (.val (.int .i64 (IntKind.wrap .i64 (v1_25_0 + 1)))), (.val (.string (m38 (IntKind.wrap .i64 ((IntKind.wrap .i64 (v1_25_0 + 1)) + 1))))), (.val (.int .i64 (IntKind.wrap .i64 ((IntKind.wrap .i64 ((IntKind.wrap .i64 (v1_25_0 + 1)) + 1)) + 1)))), (.val (.int .i64 (IntKind.wrap .i64 ((IntKind.wrap .i64 ((IntKind.wrap .i64 ((IntKind.wrap .i64 (v1_25_0 + 1)) + 1)) + 1)) + 1)))), (.val (.int .i64 x0_25_0.f5)), (.val (.int .i64 x0_25_0.f6))] := (by first | (rw [List.map_set, List.getElem?_set_self (by simp only [List.length_map]; omega)]; rfl) | (rw [Nat.zero_add, List.map_set, List.getElem?_set_self (by simp only [List.length_map]; omega)]; rfl) | (rw [List.getElem?_set_self (by simp only [List.length_map]; omega)]; rfl) | (rw [Nat.zero_add, List.getElem?_set_self (by simp only [List.length_map]; omega)]; rfl))
    have f30 : (List.set (List.map d_iisiiii (List.set v0_25_0 (Int.toNat (List.length p_25_0 : Int)) (K_iisiiii.mk v1_25_0 (IntKind.wrap .i64 (v1_25_0 + 1)) (m38 (IntKind.wrap .i64 ((IntKind.wrap .i64 (v1_25_0 + 1)) + 1))) (IntKind.wrap .i64 ((IntKind.wrap .i64 ((IntKind.wrap .i64 (v1_25_0 + 1)) + 1)) + 1)) (IntKind.wrap .i64 ((IntKind.wrap .i64 ((IntKind.wrap .i64 ((IntKind.wrap .i64 (v1_25_0 + 1)) + 1)) + 1)) + 1)) x0_25_0.f5 x0_25_0.f6))) (0 + (Int.toNat (List.length p_25_0 : Int))) [(.val (.int .i64 v1_25_0)), (.val (.int .i64 (IntKind.wrap .i64 (v1_25_0 + 1)))), (.val (.string (m38 (IntKind.wrap .i64 ((IntKind.wrap .i64 (v1_25_0 + 1)) + 1))))), (.val (.int .i64 (IntKind.wrap .i64 ((IntKind.wrap .i64 ((IntKind.wrap .i64 (v1_25_0 + 1)) + 1)) + 1)))), (.val (.int .i64 (IntKind.wrap .i64 ((IntKind.wrap .i64 ((IntKind.wrap .i64 ((IntKind.wrap .i64 (v1_25_0 + 1)) + 1)) + 1)) + 1)))), (.val (.int .i64 (IntKind.wrap .i64 ((IntKind.wrap .i64 ((IntKind.wrap .i64 ((IntKind.wrap .i64 ((IntKind.wrap .i64 (v1_25_0 + 1)) + 1)) + 1)) + 1)) + 1)))), (.val (.int .i64 x0_25_0.f6))]) = (List.map d_iisiiii (List.set v0_25_0 (Int.toNat (List.length p_25_0 : Int)) (K_iisiiii.mk v1_25_0 (IntKind.wrap .i64 (v1_25_0 + 1)) (m38 (IntKind.wrap .i64 ((IntKind.wrap .i64 (v1_25_0 + 1)) + 1))) (IntKind.wrap .i64 ((IntKind.wrap .i64 ((IntKind.wrap .i64 (v1_25_0 + 1)) + 1)) + 1)) (IntKind.wrap .i64 ((IntKind.wrap .i64 ((IntKind.wrap .i64 ((IntKind.wrap .i64 (v1_25_0 + 1)) + 1)) + 1)) + 1)) (IntKind.wrap .i64 ((IntKind.wrap .i64 ((IntKind.wrap .i64 ((IntKind.wrap .i64 ((IntKind.wrap .i64 (v1_25_0 + 1)) + 1)) + 1)) + 1)) + 1)) x0_25_0.f6))) := (by first | rfl | (simp [byteRows_eq, ints_y, List.take_of_length_le, d_sisi, d_LsisiEi, d_i, d_b, d_s, d_iisiiii, d_iLsELiisiiiiELsisiEi, d_LsisiE, d_LsE, d_LiisiiiiE, d_y, fromBR_sisi, fromBR_i, fromBR_b, fromBR_s, fromBR_iisiiii, fromBR_y, ol23, ol10_0, ol24]; done) | (simp [List.map_set, List.map_take, List.map_drop, byteRows_eq, ints_y, List.take_of_length_le, d_sisi, d_LsisiEi, d_i, d_b, d_s, d_iisiiii, d_iLsELiisiiiiELsisiEi, d_LsisiE, d_LsE, d_LiisiiiiE, d_y, fromBR_sisi, fromBR_i, fromBR_b, fromBR_s, fromBR_iisiiii, fromBR_y, ol23, ol10_0, ol24]; done))
    have f32 : 0 + (List.length (List.map d_iisiiii a0)) ≤ (List.length (List.map d_iisiiii (List.set v0_25_0 (Int.toNat (List.length p_25_0 : Int)) (K_iisiiii.mk v1_25_0 (IntKind.wrap .i64 (v1_25_0 + 1)) (m38 (IntKind.wrap .i64 ((IntKind.wrap .i64 (v1_25_0 + 1)) + 1))) (IntKind.wrap .i64 ((IntKind.wrap .i64 ((IntKind.wrap .i64 (v1_25_0 + 1)) + 1)) + 1)) (IntKind.wrap .i64 ((IntKind.wrap .i64 ((IntKind.wrap .i64 ((IntKind.wrap .i64 (v1_25_0 + 1)) + 1)) + 1)) + 1)) (IntKind.wrap .i64 ((IntKind.wrap .i64 ((IntKind.wrap .i64 ((IntKind.wrap .i64 ((IntKind.wrap .i64 (v1_25_0 + 1)) + 1)) + 1)) + 1)) + 1)) x0_25_0.f6)))) := (by first | exact True.intro | with_reducible rfl | with_reducible assumption | omega | (unfold m38; (repeat' split) <;> simp_all <;> omega) | (simp only [decide_eq_true_eq] at *; omega) | (simp only [List.length_map, List.length_set]; omega) | (simp [ol23, ol10_0, ol24]; omega) | (simp [List.take_of_length_le, ol23, ol10_0, ol24]; done) | assumption | trivial | (simp [*, ol23, ol10_0, ol24, b_iisiiii, d_iisiiii, byteRows_eq, ints_y]; done))
    have f34 : (List.map d_iisiiii (List.set v0_25_0 (Int.toNat (List.length p_25_0 : Int)) (K_iisiiii.mk v1_25_0 (IntKind.wrap .i64 (v1_25_0 + 1)) (m38 (IntKind.wrap .i64 ((IntKind.wrap .i64 (v1_25_0 + 1)) + 1))) (IntKind.wrap .i64 ((IntKind.wrap .i64 ((IntKind.wrap .i64 (v1_25_0 + 1)) + 1)) + 1)) (IntKind.wrap .i64 ((IntKind.wrap .i64 ((IntKind.wrap .i64 ((IntKind.wrap .i64 (v1_25_0 + 1)) + 1)) + 1)) + 1)) (IntKind.wrap .i64 ((IntKind.wrap .i64 ((IntKind.wrap .i64 ((IntKind.wrap .i64 ((IntKind.wrap .i64 (v1_25_0 + 1)) + 1)) + 1)) + 1)) + 1)) x0_25_0.f6)))[(0 + (Int.toNat (List.length p_25_0 : Int)))]? = some [(.val (.int .i64 v1_25_0)), (.val (.int .i64 (IntKind.wrap .i64 (v1_25_0 + 1)))), (.val (.string (m38 (IntKind.wrap .i64 ((IntKind.wrap .i64 (v1_25_0 + 1)) + 1))))), (.val (.int .i64 (IntKind.wrap .i64 ((IntKind.wrap .i64 ((IntKind.wrap .i64 (v1_25_0 + 1)) + 1)) + 1)))), (.val (.int .i64 (IntKind.wrap .i64 ((IntKind.wrap .i64 ((IntKind.wrap .i64 ((IntKind.wrap .i64 (v1_25_0 + 1)) + 1)) + 1)) + 1)))), (.val (.int .i64 (IntKind.wrap .i64 ((IntKind.wrap .i64 ((IntKind.wrap .i64 ((IntKind.wrap .i64 ((IntKind.wrap .i64 (v1_25_0 + 1)) + 1)) + 1)) + 1)) + 1)))), (.val (.int .i64 x0_25_0.f6))] := (by first | (rw [List.map_set, List.getElem?_set_self (by simp only [List.length_map]; omega)]; rfl) | (rw [Nat.zero_add, List.map_set, List.getElem?_set_self (by simp only [List.length_map]; omega)]; rfl) | (rw [List.getElem?_set_self (by simp only [List.length_map]; omega)]; rfl) | (rw [Nat.zero_add, List.getElem?_set_self (by simp only [List.length_map]; omega)]; rfl))
    have f35 : (List.set (List.map d_iisiiii (List.set v0_25_0 (Int.toNat (List.length p_25_0 : Int)) (K_iisiiii.mk v1_25_0 (IntKind.wrap .i64 (v1_25_0 + 1)) (m38 (IntKind.wrap .i64 ((IntKind.wrap .i64 (v1_25_0 + 1)) + 1))) (IntKind.wrap .i64 ((IntKind.wrap .i64 ((IntKind.wrap .i64 (v1_25_0 + 1)) + 1)) + 1)) (IntKind.wrap .i64 ((IntKind.wrap .i64 ((IntKind.wrap .i64 ((IntKind.wrap .i64 (v1_25_0 + 1)) + 1)) + 1)) + 1)) (IntKind.wrap .i64 ((IntKind.wrap .i64 ((IntKind.wrap .i64 ((IntKind.wrap .i64 ((IntKind.wrap .i64 (v1_25_0 + 1)) + 1)) + 1)) + 1)) + 1)) x0_25_0.f6))) (0 + (Int.toNat (List.length p_25_0 : Int))) [(.val (.int .i64 v1_25_0)), (.val (.int .i64 (IntKind.wrap .i64 (v1_25_0 + 1)))), (.val (.string (m38 (IntKind.wrap .i64 ((IntKind.wrap .i64 (v1_25_0 + 1)) + 1))))), (.val (.int .i64 (IntKind.wrap .i64 ((IntKind.wrap .i64 ((IntKind.wrap .i64 (v1_25_0 + 1)) + 1)) + 1)))), (.val (.int .i64 (IntKind.wrap .i64 ((IntKind.wrap .i64 ((IntKind.wrap .i64 ((IntKind.wrap .i64 (v1_25_0 + 1)) + 1)) + 1)) + 1)))), (.val (.int .i64 (IntKind.wrap .i64 ((IntKind.wrap .i64 ((IntKind.wrap .i64 ((IntKind.wrap .i64 ((IntKind.wrap .i64 (v1_25_0 + 1)) + 1)) + 1)) + 1)) + 1)))), (.val (.int .i64 (IntKind.wrap .i64 ((IntKind.wrap .i64 ((IntKind.wrap .i64 ((IntKind.wrap .i64 ((IntKind.wrap .i64 ((IntKind.wrap .i64 (v1_25_0 + 1)) + 1)) + 1)) + 1)) + 1)) + 1))))]) = (List.map d_iisiiii (List.set v0_25_0 (Int.toNat (List.length p_25_0 : Int)) (K_iisiiii.mk v1_25_0 (IntKind.wrap .i64 (v1_25_0 + 1)) (m38 (IntKind.wrap .i64 ((IntKind.wrap .i64 (v1_25_0 + 1)) + 1))) (IntKind.wrap .i64 ((IntKind.wrap .i64 ((IntKind.wrap .i64 (v1_25_0 + 1)) + 1)) + 1)) (IntKind.wrap .i64 ((IntKind.wrap .i64 ((IntKind.wrap .i64 ((IntKind.wrap .i64 (v1_25_0 + 1)) + 1)) + 1)) + 1)) (IntKind.wrap .i64 ((IntKind.wrap .i64 ((IntKind.wrap .i64 ((IntKind.wrap .i64 ((IntKind.wrap .i64 (v1_25_0 + 1)) + 1)) + 1)) + 1)) + 1)) (IntKind.wrap .i64 ((IntKind.wrap .i64 ((IntKind.wrap .i64 ((IntKind.wrap .i64 ((IntKind.wrap .i64 ((IntKind.wrap .i64 (v1_25_0 + 1)) + 1)) + 1)) + 1)) + 1)) + 1))))) := (by first | rfl | (simp [byteRows_eq, ints_y, List.take_of_length_le, d_sisi, d_LsisiEi, d_i, d_b, d_s, d_iisiiii, d_iLsELiisiiiiELsisiEi, d_LsisiE, d_LsE, d_LiisiiiiE, d_y, fromBR_sisi, fromBR_i, fromBR_b, fromBR_s, fromBR_iisiiii, fromBR_y, ol23, ol10_0, ol24]; done) | (simp [List.map_set, List.map_take, List.map_drop, byteRows_eq, ints_y, List.take_of_length_le, d_sisi, d_LsisiEi, d_i, d_b, d_s, d_iisiiii, d_iLsELiisiiiiELsisiEi, d_LsisiE, d_LsE, d_LiisiiiiE, d_y, fromBR_sisi, fromBR_i, fromBR_b, fromBR_s, fromBR_iisiiii, fromBR_y, ol23, ol10_0, ol24]; done))
    have st := ch b25_0 (h25_0 a0 a1 (List.length p_25_0 : Int) v0_25_0 v1_25_0) ⟨[(0, (.one (.ref ⟨(0, 0, 0), [], 0, (List.length (List.map d_iisiiii a0))⟩))), (1, (.one (.val (.int .i64 (IntKind.wrap .i64 ((IntKind.wrap .i64 ((IntKind.wrap .i64 ((IntKind.wrap .i64 ((IntKind.wrap .i64 ((IntKind.wrap .i64 ((IntKind.wrap .i64 (v1_25_0 + 1)) + 1)) + 1)) + 1)) + 1)) + 1)) + 1)))))), (5, (.one (.val (.int .i64 (IntKind.wrap .i64 ((List.length p_25_0 : Int) + 1))))))], [((0, 0, 0), .live ⟨7, (List.map d_iisiiii (List.set v0_25_0 (Int.toNat (List.length p_25_0 : Int)) (K_iisiiii.mk v1_25_0 (IntKind.wrap .i64 (v1_25_0 + 1)) (m38 (IntKind.wrap .i64 ((IntKind.wrap .i64 (v1_25_0 + 1)) + 1))) (IntKind.wrap .i64 ((IntKind.wrap .i64 ((IntKind.wrap .i64 (v1_25_0 + 1)) + 1)) + 1)) (IntKind.wrap .i64 ((IntKind.wrap .i64 ((IntKind.wrap .i64 ((IntKind.wrap .i64 (v1_25_0 + 1)) + 1)) + 1)) + 1)) (IntKind.wrap .i64 ((IntKind.wrap .i64 ((IntKind.wrap .i64 ((IntKind.wrap .i64 ((IntKind.wrap .i64 (v1_25_0 + 1)) + 1)) + 1)) + 1)) + 1)) (IntKind.wrap .i64 ((IntKind.wrap .i64 ((IntKind.wrap .i64 ((IntKind.wrap .i64 ((IntKind.wrap .i64 ((IntKind.wrap .i64 (v1_25_0 + 1)) + 1)) + 1)) + 1)) + 1)) + 1))))), []⟩)]⟩ .normal 150 (by kernel_rfl) (.f hc (.f f1 (.f f2 (.f (mz_ d_iisiiii Hv0_25_0) (.f f4 (.f trivial (.f f6 (.f f2 (.f f8 (.f f9 (.f trivial (.h 8 (.b true) (.h 20 (.rowD [(.val (.int .i64 x0_25_0.f0)), (.val (.int .i64 x0_25_0.f1)), (.val (.string x0_25_0.f2)), (.val (.int .i64 x0_25_0.f3)), (.val (.int .i64 x0_25_0.f4)), (.val (.int .i64 x0_25_0.f5)), (.val (.int .i64 x0_25_0.f6))]) (.h 21 (.norm (0, 0, 0) (List.map d_iisiiii (List.set v0_25_0 (Int.toNat (List.length p_25_0 : Int)) (K_iisiiii.mk v1_25_0 x0_25_0.f1 x0_25_0.f2 x0_25_0.f3 x0_25_0.f4 x0_25_0.f5 x0_25_0.f6)))) (.h 39 (.rowD [(.val (.int .i64 v1_25_0)), (.val (.int .i64 x0_25_0.f1)), (.val (.string x0_25_0.f2)), (.val (.int .i64 x0_25_0.f3)), (.val (.int .i64 x0_25_0.f4)), (.val (.int .i64 x0_25_0.f5)), (.val (.int .i64 x0_25_0.f6))]) (.h 40 (.norm (0, 0, 0) (List.map d_iisiiii (List.set v0_25_0 (Int.toNat (List.length p_25_0 : Int)) (K_iisiiii.mk v1_25_0 (IntKind.wrap .i64 (v1_25_0 + 1)) x0_25_0.f2 x0_25_0.f3 x0_25_0.f4 x0_25_0.f5 x0_25_0.f6)))) (.r 54 [] [] (e38 (a0 := (IntKind.wrap .i64 ((IntKind.wrap .i64 (v1_25_0 + 1)) + 1)))) (.f f12 (.f f2 (.f f14 (.f f15 (.f trivial (.f f17 (.f f2 (.f f19 (.f f20 (.f trivial (.f f22 (.f f2 (.f f24 (.f f25 (.f trivial (.f f27 (.f f2 (.f f29 (.f f30 (.f trivial (.f f32 (.f f2 (.f f34 (.f f35 (.f trivial (.f trivial (.h 60 (.rowD [(.val (.int .i64 v1_25_0)), (.val (.int .i64 (IntKind.wrap .i64 (v1_25_0 + 1)))), (.val (.string x0_25_0.f2)), (.val (.int .i64 x0_25_0.f3)), (.val (.int .i64 x0_25_0.f4)), (.val (.int .i64 x0_25_0.f5)), (.val (.int .i64 x0_25_0.f6))]) (.h 61 (.norm (0, 0, 0) (List.map d_iisiiii (List.set v0_25_0 (Int.toNat (List.length p_25_0 : Int)) (K_iisiiii.mk v1_25_0 (IntKind.wrap .i64 (v1_25_0 + 1)) (m38 (IntKind.wrap .i64 ((IntKind.wrap .i64 (v1_25_0 + 1)) + 1))) x0_25_0.f3 x0_25_0.f4 x0_25_0.f5 x0_25_0.f6)))) (.h 79 (.rowD [(.val (.int .i64 v1_25_0)), (.val (.int .i64 (IntKind.wrap .i64 (v1_25_0 + 1)))), (.val (.string (m38 (IntKind.wrap .i64 ((IntKind.wrap .i64 (v1_25_0 + 1)) + 1))))), (.val (.int .i64 x0_25_0.f3)), (.val (.int .i64 x0_25_0.f4)), (.val (.int .i64 x0_25_0.f5)), (.val (.int .i64 x0_25_0.f6))]) (.h 80 (.norm (0, 0, 0) (List.map d_iisiiii (List.set v0_25_0 (Int.toNat (List.length p_25_0 : Int)) (K_iisiiii.mk v1_25_0 (IntKind.wrap .i64 (v1_25_0 + 1)) (m38 (IntKind.wrap .i64 ((IntKind.wrap .i64 (v1_25_0 + 1)) + 1))) (IntKind.wrap .i64 ((IntKind.wrap .i64 ((IntKind.wrap .i64 (v1_25_0 + 1)) + 1)) + 1)) x0_25_0.f4 x0_25_0.f5 x0_25_0.f6)))) (.h 98 (.rowD [(.val (.int .i64 v1_25_0)), (.val (.int .i64 (IntKind.wrap .i64 (v1_25_0 + 1)))), (.val (.string (m38 (IntKind.wrap .i64 ((IntKind.wrap .i64 (v1_25_0 + 1)) + 1))))), (.val (.int .i64 (IntKind.wrap .i64 ((IntKind.wrap .i64 ((IntKind.wrap .i64 (v1_25_0 + 1)) + 1)) + 1)))), (.val (.int .i64 x0_25_0.f4)), (.val (.int .i64 x0_25_0.f5)), (.val (.int .i64 x0_25_0.f6))]) (.h 99 (.norm (0, 0, 0) (List.map d_iisiiii (List.set v0_25_0 (Int.toNat (List.length p_25_0 : Int)) (K_iisiiii.mk v1_25_0 (IntKind.wrap .i64 (v1_25_0 + 1)) (m38 (IntKind.wrap .i64 ((IntKind.wrap .i64 (v1_25_0 + 1)) + 1))) (IntKind.wrap .i64 ((IntKind.wrap .i64 ((IntKind.wrap .i64 (v1_25_0 + 1)) + 1)) + 1)) (IntKind.wrap .i64 ((IntKind.wrap .i64 ((IntKind.wrap .i64 ((IntKind.wrap .i64 (v1_25_0 + 1)) + 1)) + 1)) + 1)) x0_25_0.f5 x0_25_0.f6)))) (.h 117 (.rowD [(.val (.int .i64 v1_25_0)), (.val (.int .i64 (IntKind.wrap .i64 (v1_25_0 + 1)))), (.val (.string (m38 (IntKind.wrap .i64 ((IntKind.wrap .i64 (v1_25_0 + 1)) + 1))))), (.val (.int .i64 (IntKind.wrap .i64 ((IntKind.wrap .i64 ((IntKind.wrap .i64 (v1_25_0 + 1)) + 1)) + 1)))), (.val (.int .i64 (IntKind.wrap .i64 ((IntKind.wrap .i64 ((IntKind.wrap .i64 ((IntKind.wrap .i64 (v1_25_0 + 1)) + 1)) + 1)) + 1)))), (.val (.int .i64 x0_25_0.f5)), (.val (.int .i64 x0_25_0.f6))]) (.h 118 (.norm (0, 0, 0) (List.map d_iisiiii (List.set v0_25_0 (Int.toNat (List.length p_25_0 : Int)) (K_iisiiii.mk v1_25_0 (IntKind.wrap .i64 (v1_25_0 + 1)) (m38 (IntKind.wrap .i64 ((IntKind.wrap .i64 (v1_25_0 + 1)) + 1))) (IntKind.wrap .i64 ((IntKind.wrap .i64 ((IntKind.wrap .i64 (v1_25_0 + 1)) + 1)) + 1)) (IntKind.wrap .i64 ((IntKind.wrap .i64 ((IntKind.wrap .i64 ((IntKind.wrap .i64 (v1_25_0 + 1)) + 1)) + 1)) + 1)) (IntKind.wrap .i64 ((IntKind.wrap .i64 ((IntKind.wrap .i64 ((IntKind.wrap .i64 ((IntKind.wrap .i64 (v1_25_0 + 1)) + 1)) + 1)) + 1)) + 1)) x0_25_0.f6)))) (.h 136 (.rowD [(.val (.int .i64 v1_25_0)), (.val (.int .i64 (IntKind.wrap .i64 (v1_25_0 + 1)))), (.val (.string (m38 (IntKind.wrap .i64 ((IntKind.wrap .i64 (v1_25_0 + 1)) + 1))))), (.val (.int .i64 (IntKind.wrap .i64 ((IntKind.wrap .i64 ((IntKind.wrap .i64 (v1_25_0 + 1)) + 1)) + 1)))), (.val (.int .i64 (IntKind.wrap .i64 ((IntKind.wrap .i64 ((IntKind.wrap .i64 ((IntKind.wrap .i64 (v1_25_0 + 1)) + 1)) + 1)) + 1)))), (.val (.int .i64 (IntKind.wrap .i64 ((IntKind.wrap .i64 ((IntKind.wrap .i64 ((IntKind.wrap .i64 ((IntKind.wrap .i64 (v1_25_0 + 1)) + 1)) + 1)) + 1)) + 1)))), (.val (.int .i64 x0_25_0.f6))]) (.h 137 (.norm (0, 0, 0) (List.map d_iisiiii (List.set v0_25_0 (Int.toNat (List.length p_25_0 : Int)) (K_iisiiii.mk v1_25_0 (IntKind.wrap .i64 (v1_25_0 + 1)) (m38 (IntKind.wrap .i64 ((IntKind.wrap .i64 (v1_25_0 + 1)) + 1))) (IntKind.wrap .i64 ((IntKind.wrap .i64 ((IntKind.wrap .i64 (v1_25_0 + 1)) + 1)) + 1)) (IntKind.wrap .i64 ((IntKind.wrap .i64 ((IntKind.wrap .i64 ((IntKind.wrap .i64 (v1_25_0 + 1)) + 1)) + 1)) + 1)) (IntKind.wrap .i64 ((IntKind.wrap .i64 ((IntKind.wrap .i64 ((IntKind.wrap .i64 ((IntKind.wrap .i64 (v1_25_0 + 1)) + 1)) + 1)) + 1)) + 1)) (IntKind.wrap .i64 ((IntKind.wrap .i64 ((IntKind.wrap .i64 ((IntKind.wrap .i64 ((IntKind.wrap .i64 ((IntKind.wrap .i64 (v1_25_0 + 1)) + 1)) + 1)) + 1)) + 1)) + 1)))))) .nil)))))))))))))))))))))))))))))))))))))))))))))))))))))
    have ih := t25_0 (a0 := a0) (a1 := a1) hy0 l0_25_0 (p_25_0 ++ [x0_25_0]) (List.set v0_25_0 (Int.toNat (List.length p_25_0 : Int)) (K_iisiiii.mk v1_25_0 (IntKind.wrap .i64 (v1_25_0 + 1)) (m38 (IntKind.wrap .i64 ((IntKind.wrap .i64 (v1_25_0 + 1)) + 1))) (IntKind.wrap .i64 ((IntKind.wrap .i64 ((IntKind.wrap .i64 (v1_25_0 + 1)) + 1)) + 1)) (IntKind.wrap .i64 ((IntKind.wrap .i64 ((IntKind.wrap .i64 ((IntKind.wrap .i64 (v1_25_0 + 1)) + 1)) + 1)) + 1)) (IntKind.wrap .i64 ((IntKind.wrap .i64 ((IntKind.wrap .i64 ((IntKind.wrap .i64 ((IntKind.wrap .i64 (v1_25_0 + 1)) + 1)) + 1)) + 1)) + 1)) (IntKind.wrap .i64 ((IntKind.wrap .i64 ((IntKind.wrap .i64 ((IntKind.wrap .i64 ((IntKind.wrap .i64 ((IntKind.wrap .i64 (v1_25_0 + 1)) + 1)) + 1)) + 1)) + 1)) + 1)))) (IntKind.wrap .i64 ((IntKind.wrap .i64 ((IntKind.wrap .i64 ((IntKind.wrap .i64 ((IntKind.wrap .i64 ((IntKind.wrap .i64 ((IntKind.wrap .i64 (v1_25_0 + 1)) + 1)) + 1)) + 1)) + 1)) + 1)) + 1)) (by rw [List.append_assoc]; exact hp0) (by first | omega | (simp only [List.length_map, List.length_set, List.length_append, List.length_replicate, List.length_cons, List.length_nil]; omega) | (simp only [List.length_map, List.length_set, List.length_append, List.length_replicate, List.length_cons, List.length_nil]; assumption) | assumption | (simp only [List.length_map, List.length_set, List.length_append, List.length_replicate, List.length_cons, List.length_nil] at *; omega)) (by simp only [List.length_map, List.length_set, List.length_append, List.length_replicate, List.length_cons, List.length_nil, Int.toNat_natCast]; first | exact drop_set_next hi1 _ | exact drop_next hi1)
    rw [show ((p_25_0 ++ [x0_25_0]).length : Int) = (p_25_0.length : Int) + 1 from by simp] at ih
    rw [show (⟨[(0, (.one (.ref ⟨(0, 0, 0), [], 0, (List.length (List.map d_iisiiii a0))⟩))), (1, (.one (.val (.int .i64 (IntKind.wrap .i64 ((IntKind.wrap .i64 ((IntKind.wrap .i64 ((IntKind.wrap .i64 ((IntKind.wrap .i64 ((IntKind.wrap .i64 ((IntKind.wrap .i64 (v1_25_0 + 1)) + 1)) + 1)) + 1)) + 1)) + 1)) + 1)))))), (5, (.one (.val (.int .i64 (IntKind.wrap .i64 ((List.length p_25_0 : Int) + 1))))))], [((0, 0, 0), .live ⟨7, (List.map d_iisiiii (List.set v0_25_0 (Int.toNat (List.length p_25_0 : Int)) (K_iisiiii.mk v1_25_0 (IntKind.wrap .i64 (v1_25_0 + 1)) (m38 (IntKind.wrap .i64 ((IntKind.wrap .i64 (v1_25_0 + 1)) + 1))) (IntKind.wrap .i64 ((IntKind.wrap .i64 ((IntKind.wrap .i64 (v1_25_0 + 1)) + 1)) + 1)) (IntKind.wrap .i64 ((IntKind.wrap .i64 ((IntKind.wrap .i64 ((IntKind.wrap .i64 (v1_25_0 + 1)) + 1)) + 1)) + 1)) (IntKind.wrap .i64 ((IntKind.wrap .i64 ((IntKind.wrap .i64 ((IntKind.wrap .i64 ((IntKind.wrap .i64 (v1_25_0 + 1)) + 1)) + 1)) + 1)) + 1)) (IntKind.wrap .i64 ((IntKind.wrap .i64 ((IntKind.wrap .i64 ((IntKind.wrap .i64 ((IntKind.wrap .i64 ((IntKind.wrap .i64 (v1_25_0 + 1)) + 1)) + 1)) + 1)) + 1)) + 1))))), []⟩)]⟩ : St) = h25_0 a0 a1 ((List.length p_25_0 : Int) + 1) (List.set v0_25_0 (Int.toNat (List.length p_25_0 : Int)) (K_iisiiii.mk v1_25_0 (IntKind.wrap .i64 (v1_25_0 + 1)) (m38 (IntKind.wrap .i64 ((IntKind.wrap .i64 (v1_25_0 + 1)) + 1))) (IntKind.wrap .i64 ((IntKind.wrap .i64 ((IntKind.wrap .i64 (v1_25_0 + 1)) + 1)) + 1)) (IntKind.wrap .i64 ((IntKind.wrap .i64 ((IntKind.wrap .i64 ((IntKind.wrap .i64 (v1_25_0 + 1)) + 1)) + 1)) + 1)) (IntKind.wrap .i64 ((IntKind.wrap .i64 ((IntKind.wrap .i64 ((IntKind.wrap .i64 ((IntKind.wrap .i64 (v1_25_0 + 1)) + 1)) + 1)) + 1)) + 1)) (IntKind.wrap .i64 ((IntKind.wrap .i64 ((IntKind.wrap .i64 ((IntKind.wrap .i64 ((IntKind.wrap .i64 ((IntKind.wrap .i64 (v1_25_0 + 1)) + 1)) + 1)) + 1)) + 1)) + 1)))) (IntKind.wrap .i64 ((IntKind.wrap .i64 ((IntKind.wrap .i64 ((IntKind.wrap .i64 ((IntKind.wrap .i64 ((IntKind.wrap .i64 ((IntKind.wrap .i64 (v1_25_0 + 1)) + 1)) + 1)) + 1)) + 1)) + 1)) + 1)) from by first | (unfold h25_0; simp only [hw]; done) | (unfold h25_0; simp only [hw, List.length_map, List.length_set, List.length_append, List.length_replicate, List.length_cons, List.length_nil]; done) | (unfold h25_0; simp [hw, byteRows_eq, ints_y, List.take_of_length_le, d_sisi, d_LsisiEi, d_i, d_b, d_s, d_iisiiii, d_iLsELiisiiiiELsisiEi, d_LsisiE, d_LsE, d_LiisiiiiE, d_y, fromBR_sisi, fromBR_i, fromBR_b, fromBR_s, fromBR_iisiiii, fromBR_y, ol23, ol10_0, ol24]; done)] at st
    exact .loopN st ih
def post25_0 (n0 : Nat) : O25_0 → Prop
  | .k0 w0 _ _ _ => List.length w0 = n0
theorem z25_0 {a0 : (List K_iisiiii)} : ∀ (l0_25_0 : List K_iisiiii) (i_25_0 : Int) (v0_25_0 : List K_iisiiii) (v1_25_0 : Int), post25_0 (List.length v0_25_0) (r25_0 a0 l0_25_0 i_25_0 v0_25_0 v1_25_0)
  | [], i_25_0, v0_25_0, v1_25_0 => by
    first | trivial | (simp only [post25_0, List.length_nil, Nat.add_zero]; done) | (simp [post25_0]; done)
  | x0_25_0 :: l0_25_0, i_25_0, v0_25_0, v1_25_0 => by
    simp only [r25_0]
    have z := z25_0 (a0 := a0) l0_25_0 (i_25_0 + 1) (List.set v0_25_0 (Int.toNat i_25_0) (K_iisiiii.mk v1_25_0 (IntKind.wrap .i64 (v1_25_0 + 1)) (m38 (IntKind.wrap .i64 ((IntKind.wrap .i64 (v1_25_0 + 1)) + 1))) (IntKind.wrap .i64 ((IntKind.wrap .i64 ((IntKind.wrap .i64 (v1_25_0 + 1)) + 1)) + 1)) (IntKind.wrap .i64 ((IntKind.wrap .i64 ((IntKind.wrap .i64 ((IntKind.wrap .i64 (v1_25_0 + 1)) + 1)) + 1)) + 1)) (IntKind.wrap .i64 ((IntKind.wrap .i64 ((IntKind.wrap .i64 ((IntKind.wrap .i64 ((IntKind.wrap .i64 (v1_25_0 + 1)) + 1)) + 1)) + 1)) + 1)) (IntKind.wrap .i64 ((IntKind.wrap .i64 ((IntKind.wrap .i64 ((IntKind.wrap .i64 ((IntKind.wrap .i64 ((IntKind.wrap .i64 (v1_25_0 + 1)) + 1)) + 1)) + 1)) + 1)) + 1)))) (IntKind.wrap .i64 ((IntKind.wrap .i64 ((IntKind.wrap .i64 ((IntKind.wrap .i64 ((IntKind.wrap .i64 ((IntKind.wrap .i64 ((IntKind.wrap .i64 (v1_25_0 + 1)) + 1)) + 1)) + 1)) + 1)) + 1)) + 1))
    rw [show (List.length v0_25_0) = (List.length (List.set v0_25_0 (Int.toNat i_25_0) (K_iisiiii.mk v1_25_0 (IntKind.wrap .i64 (v1_25_0 + 1)) (m38 (IntKind.wrap .i64 ((IntKind.wrap .i64 (v1_25_0 + 1)) + 1))) (IntKind.wrap .i64 ((IntKind.wrap .i64 ((IntKind.wrap .i64 (v1_25_0 + 1)) + 1)) + 1)) (IntKind.wrap .i64 ((IntKind.wrap .i64 ((IntKind.wrap .i64 ((IntKind.wrap .i64 (v1_25_0 + 1)) + 1)) + 1)) + 1)) (IntKind.wrap .i64 ((IntKind.wrap .i64 ((IntKind.wrap .i64 ((IntKind.wrap .i64 ((IntKind.wrap .i64 (v1_25_0 + 1)) + 1)) + 1)) + 1)) + 1)) (IntKind.wrap .i64 ((IntKind.wrap .i64 ((IntKind.wrap .i64 ((IntKind.wrap .i64 ((IntKind.wrap .i64 ((IntKind.wrap .i64 (v1_25_0 + 1)) + 1)) + 1)) + 1)) + 1)) + 1))))) from by first | omega | (simp only [List.length_map, List.length_set, List.length_append, List.length_replicate, List.length_cons, List.length_nil]; done) | (simp only [List.length_map, List.length_set, List.length_append, List.length_replicate, List.length_cons, List.length_nil]; omega)]
    exact z
/-! loop.example/g00539/laws.markActS -/
def o25_0 (a0 : (List K_iisiiii)) (a1 : Int) : List K_iisiiii :=
  (match r25_0 a0 a0 0 a0 a1 with | .k0 w0_25_0_0 w1_25_0_0 w2_25_0_0 w3_25_0_0 => w0_25_0_0)
def m25 (a0 : (List K_iisiiii)) (a1 : Int) : Int :=
  (match r25_0 a0 a0 0 a0 a1 with | .k0 w0_25_0_0 w1_25_0_0 w2_25_0_0 w3_25_0_0 => w1_25_0_0)
theorem e25 {a0 : (List K_iisiiii)} {a1 : Int} (hy0 : List.length a0 * 64 ≤ 140737488351232) : Ev F X (.call 25 [(.one (.ref ⟨(0, 0, 0), [], 0, (List.length (List.map d_iisiiii a0))⟩)), (.one (.val (.int .i64 a1)))] [((0, 0, 0), ⟨7, (List.map d_iisiiii a0), []⟩)] [(List.map d_iisiiii (o25_0 a0 a1))] [(.one (.val (.int .i64 (m25 a0 a1))))]) := by
  unfold m25 o25_0
  cases h0 : r25_0 a0 a0 0 a0 a1 with
  | k0 w0_25_0_0 w1_25_0_0 w2_25_0_0 w3_25_0_0 =>
    try dsimp only
    have zh0 := z25_0 (a0 := a0) a0 0 a0 a1; rw [h0] at zh0; simp only [post25_0, List.length_map, List.length_set, List.length_append, List.length_replicate, List.length_cons, List.length_nil, Int.toNat_natCast] at zh0
    have f0 : (⟨[(0, (.one (.ref ⟨(0, 0, 0), [], 0, (List.length (List.map d_iisiiii a0))⟩))), (1, (.one (.val (.int .i64 a1)))), (5, (.one (.val (.int .i64 0))))], [((0, 0, 0), .live ⟨7, (List.map d_iisiiii a0), []⟩)]⟩ : St) = h25_0 a0 a1 0 a0 a1 := (by first | rfl | (unfold h25_0; simp [byteRows_eq, ints_y, List.take_of_length_le, d_sisi, d_LsisiEi, d_i, d_b, d_s, d_iisiiii, d_iLsELiisiiiiELsisiEi, d_LsisiE, d_LsE, d_LiisiiiiE, d_y, fromBR_sisi, fromBR_i, fromBR_b, fromBR_s, fromBR_iisiiii, fromBR_y, ol23, ol10_0, ol24]; done))
    exact cq [true] (by kernel_rfl) (.f f0 (.f (ev_ (e := ex25_0) (g := (fin25_0 a0 a1)) h0 (t25_0 (a0 := a0) (a1 := a1) (by first | assumption | omega) a0 [] a0 a1 rfl (by first | rfl | omega | (simp only [List.length_map, List.length_set, List.length_append, List.length_replicate, List.length_cons, List.length_nil]; done) | (simp only [List.length_map, List.length_set, List.length_append, List.length_replicate, List.length_cons, List.length_nil]; omega) | (simp; done)) (by first | rfl | omega | (simp only [List.length_map, List.length_set, List.length_append, List.length_replicate, List.length_cons, List.length_nil]; done) | (simp only [List.length_map, List.length_set, List.length_append, List.length_replicate, List.length_cons, List.length_nil]; omega) | (simp; done)))) (.f (pureR_iisiiii w0_25_0_0) (.h 4 (.loop (h25_0 a0 a1 0 a0 a1) (.exit 0) ⟨[(0, (.one (.ref ⟨(0, 0, 0), [], 0, (List.length (List.map d_iisiiii a0))⟩))), (1, (.one (.val (.int .i64 w1_25_0_0)))), (5, (.one (.val (.int .i64 w2_25_0_0)))), (9, (.one (.val (.bool w3_25_0_0))))], [((0, 0, 0), .live ⟨7, (List.map d_iisiiii w0_25_0_0), []⟩)]⟩) .nil))))
theorem ow25_0 (a0 : List K_iisiiii) : ∀ (l p : List K_iisiiii) (v1_25_0 : Int), ∃ (q : List K_iisiiii) (w1 : _) (w2 : _) (w3 : _), r25_0 a0 l (p.length : Int) (p ++ l) v1_25_0 = .k0 (p ++ q) w1 w2 w3 ∧ q.length = l.length
  | [], p, v1_25_0 => ⟨[], v1_25_0, (p.length : Int), (decide ((p.length : Int) < ((List.length (List.map d_iisiiii a0)) : Int))), rfl, rfl⟩
  | x0_25_0 :: l, p, v1_25_0 => by
    obtain ⟨q, w1, w2, w3, e1, e2⟩ := ow25_0 a0 l (p ++ [(K_iisiiii.mk v1_25_0 (IntKind.wrap .i64 (v1_25_0 + 1)) (m38 (IntKind.wrap .i64 ((IntKind.wrap .i64 (v1_25_0 + 1)) + 1))) (IntKind.wrap .i64 ((IntKind.wrap .i64 ((IntKind.wrap .i64 (v1_25_0 + 1)) + 1)) + 1)) (IntKind.wrap .i64 ((IntKind.wrap .i64 ((IntKind.wrap .i64 ((IntKind.wrap .i64 (v1_25_0 + 1)) + 1)) + 1)) + 1)) (IntKind.wrap .i64 ((IntKind.wrap .i64 ((IntKind.wrap .i64 ((IntKind.wrap .i64 ((IntKind.wrap .i64 (v1_25_0 + 1)) + 1)) + 1)) + 1)) + 1)) (IntKind.wrap .i64 ((IntKind.wrap .i64 ((IntKind.wrap .i64 ((IntKind.wrap .i64 ((IntKind.wrap .i64 ((IntKind.wrap .i64 (v1_25_0 + 1)) + 1)) + 1)) + 1)) + 1)) + 1)))]) (IntKind.wrap .i64 ((IntKind.wrap .i64 ((IntKind.wrap .i64 ((IntKind.wrap .i64 ((IntKind.wrap .i64 ((IntKind.wrap .i64 ((IntKind.wrap .i64 (v1_25_0 + 1)) + 1)) + 1)) + 1)) + 1)) + 1)) + 1))
    refine ⟨(K_iisiiii.mk v1_25_0 (IntKind.wrap .i64 (v1_25_0 + 1)) (m38 (IntKind.wrap .i64 ((IntKind.wrap .i64 (v1_25_0 + 1)) + 1))) (IntKind.wrap .i64 ((IntKind.wrap .i64 ((IntKind.wrap .i64 (v1_25_0 + 1)) + 1)) + 1)) (IntKind.wrap .i64 ((IntKind.wrap .i64 ((IntKind.wrap .i64 ((IntKind.wrap .i64 (v1_25_0 + 1)) + 1)) + 1)) + 1)) (IntKind.wrap .i64 ((IntKind.wrap .i64 ((IntKind.wrap .i64 ((IntKind.wrap .i64 ((IntKind.wrap .i64 (v1_25_0 + 1)) + 1)) + 1)) + 1)) + 1)) (IntKind.wrap .i64 ((IntKind.wrap .i64 ((IntKind.wrap .i64 ((IntKind.wrap .i64 ((IntKind.wrap .i64 ((IntKind.wrap .i64 (v1_25_0 + 1)) + 1)) + 1)) + 1)) + 1)) + 1))) :: q, w1, w2, w3, ?_, by simp [e2]⟩
    · have e : List.set (p ++ x0_25_0 :: l) (Int.toNat (p.length : Int)) (K_iisiiii.mk v1_25_0 (IntKind.wrap .i64 (v1_25_0 + 1)) (m38 (IntKind.wrap .i64 ((IntKind.wrap .i64 (v1_25_0 + 1)) + 1))) (IntKind.wrap .i64 ((IntKind.wrap .i64 ((IntKind.wrap .i64 (v1_25_0 + 1)) + 1)) + 1)) (IntKind.wrap .i64 ((IntKind.wrap .i64 ((IntKind.wrap .i64 ((IntKind.wrap .i64 (v1_25_0 + 1)) + 1)) + 1)) + 1)) (IntKind.wrap .i64 ((IntKind.wrap .i64 ((IntKind.wrap .i64 ((IntKind.wrap .i64 ((IntKind.wrap .i64 (v1_25_0 + 1)) + 1)) + 1)) + 1)) + 1)) (IntKind.wrap .i64 ((IntKind.wrap .i64 ((IntKind.wrap .i64 ((IntKind.wrap .i64 ((IntKind.wrap .i64 ((IntKind.wrap .i64 (v1_25_0 + 1)) + 1)) + 1)) + 1)) + 1)) + 1))) = (p ++ [(K_iisiiii.mk v1_25_0 (IntKind.wrap .i64 (v1_25_0 + 1)) (m38 (IntKind.wrap .i64 ((IntKind.wrap .i64 (v1_25_0 + 1)) + 1))) (IntKind.wrap .i64 ((IntKind.wrap .i64 ((IntKind.wrap .i64 (v1_25_0 + 1)) + 1)) + 1)) (IntKind.wrap .i64 ((IntKind.wrap .i64 ((IntKind.wrap .i64 ((IntKind.wrap .i64 (v1_25_0 + 1)) + 1)) + 1)) + 1)) (IntKind.wrap .i64 ((IntKind.wrap .i64 ((IntKind.wrap .i64 ((IntKind.wrap .i64 ((IntKind.wrap .i64 (v1_25_0 + 1)) + 1)) + 1)) + 1)) + 1)) (IntKind.wrap .i64 ((IntKind.wrap .i64 ((IntKind.wrap .i64 ((IntKind.wrap .i64 ((IntKind.wrap .i64 ((IntKind.wrap .i64 (v1_25_0 + 1)) + 1)) + 1)) + 1)) + 1)) + 1)))]) ++ l := by simp
      have e0 : ((p ++ [(K_iisiiii.mk v1_25_0 (IntKind.wrap .i64 (v1_25_0 + 1)) (m38 (IntKind.wrap .i64 ((IntKind.wrap .i64 (v1_25_0 + 1)) + 1))) (IntKind.wrap .i64 ((IntKind.wrap .i64 ((IntKind.wrap .i64 (v1_25_0 + 1)) + 1)) + 1)) (IntKind.wrap .i64 ((IntKind.wrap .i64 ((IntKind.wrap .i64 ((IntKind.wrap .i64 (v1_25_0 + 1)) + 1)) + 1)) + 1)) (IntKind.wrap .i64 ((IntKind.wrap .i64 ((IntKind.wrap .i64 ((IntKind.wrap .i64 ((IntKind.wrap .i64 (v1_25_0 + 1)) + 1)) + 1)) + 1)) + 1)) (IntKind.wrap .i64 ((IntKind.wrap .i64 ((IntKind.wrap .i64 ((IntKind.wrap .i64 ((IntKind.wrap .i64 ((IntKind.wrap .i64 (v1_25_0 + 1)) + 1)) + 1)) + 1)) + 1)) + 1)))]).length : Int) = (p.length : Int) + 1 := by simp
      rw [e0] at e1
      simp only [r25_0]
      first | (rw [e, e1]; simp; done) | (simp only [e, e1]; simp; done)

theorem ol25 (a : List K_iisiiii) (k : Int) : (o25_0 a k).length = a.length := by
  obtain ⟨q, w1, w2, w3, e1, e2⟩ := ow25_0 a a [] k
  simp only [List.nil_append, List.length_nil] at e1
  rw [show ((0 : Nat) : Int) = 0 from rfl] at e1
  unfold o25_0
  rw [e1]; exact e2
/-! loop.example/g00539/laws.markServerResult -/
def o11_0 (a0 : K_iLsELiisiiiiELsisiEi) (a1 : Int) : List K_sisi :=
  (o10_0 (K_LsisiEi.mk a0.f3 a0.f4) (m25 a0.f2 (m24 a0.f1 a1)))
def o11_1 (a0 : K_iLsELiisiiiiELsisiEi) (a1 : Int) : List K_iisiiii :=
  (o25_0 a0.f2 (m24 a0.f1 a1))
def o11_2 (a0 : K_iLsELiisiiiiELsisiEi) (a1 : Int) : List ByteArray :=
  (o24_0 a0.f1 a1)
def m11 (a0 : K_iLsELiisiiiiELsisiEi) (a1 : Int) : Int :=
  (m10 (K_LsisiEi.mk a0.f3 a0.f4) (m25 a0.f2 (m24 a0.f1 a1)))
theorem e11 {a0 : K_iLsELiisiiiiELsisiEi} {a1 : Int} (hy0 : List.length a0.f1 * 16 ≤ 140737488351232) (hy1 : List.length a0.f2 * 64 ≤ 140737488351232) (hy2 : List.length a0.f3 * 48 ≤ 140737488351232) : Ev F X (.call 11 [(.agg [(.val (.int .i64 a0.f0)), (.ref ⟨(0, 0, 0), [], 0, (List.length (List.map d_s a0.f1))⟩), (.ref ⟨(0, 1, 0), [], 0, (List.length (List.map d_iisiiii a0.f2))⟩), (.ref ⟨(0, 2, 0), [], 0, (List.length (List.map d_sisi a0.f3))⟩), (.val (.int .i64 a0.f4))]), (.one (.val (.int .i64 a1)))] [((0, 2, 0), ⟨4, (List.map d_sisi a0.f3), []⟩), ((0, 1, 0), ⟨7, (List.map d_iisiiii a0.f2), []⟩), ((0, 0, 0), ⟨1, (List.map d_s a0.f1), []⟩)] [(List.map d_sisi (o11_0 a0 a1)), (List.map d_iisiiii (o11_1 a0 a1)), (List.map d_s (o11_2 a0 a1))] [(.one (.val (.int .i64 (m11 a0 a1))))]) := by
  exact cq [true, true, true] (by kernel_rfl) (pe 0 (pe (List.length (List.map d_s a0.f1)) (pe 0 (pe (List.length (List.map d_iisiiii a0.f2)) (pe 0 (pe (List.length (List.map d_sisi a0.f3)) (.f (pureR_s a0.f1) (.r 11 [true] [] (e24 (a0 := a0.f1) (a1 := a1) (by first | with_reducible assumption | omega | assumption | (simp only [List.length_map]; omega) | (simp [ol23, ol10_0, ol24, ol25]; omega))) (.f (pureR_iisiiii a0.f2) (.r 21 [true] [] (e25 (a0 := a0.f2) (a1 := (m24 a0.f1 a1)) (by first | with_reducible assumption | omega | assumption | (simp only [List.length_map]; omega) | (simp [ol23, ol10_0, ol24, ol25]; omega))) (.f (pureR_sisi a0.f3) (.r 31 [true] [] (e10 (a0 := (K_LsisiEi.mk a0.f3 a0.f4)) (a1 := (m25 a0.f2 (m24 a0.f1 a1))) (by first | with_reducible assumption | omega | assumption | (simp only [List.length_map]; omega) | (simp [ol23, ol10_0, ol24, ol25]; omega))) (.f (pureR_sisi (o10_0 (K_LsisiEi.mk a0.f3 a0.f4) (m25 a0.f2 (m24 a0.f1 a1)))) (.f (pureR_iisiiii (o25_0 a0.f2 (m24 a0.f1 a1))) (.f (pureR_s (o24_0 a0.f1 a1)) .nil)))))))))))))))
theorem ol11_0 (a : K_iLsELiisiiiiELsisiEi) (k : Int) : (o11_0 a k).length = List.length a.f3 := by
  unfold o11_0
  simp [ol24, ol25, ol10_0]
theorem ol11_1 (a : K_iLsELiisiiiiELsisiEi) (k : Int) : (o11_1 a k).length = List.length a.f2 := by
  unfold o11_1
  simp [ol24, ol25, ol10_0]
theorem ol11_2 (a : K_iLsELiisiiiiELsisiEi) (k : Int) : (o11_2 a k).length = List.length a.f1 := by
  unfold o11_2
  simp [ol24, ol25, ol10_0]
/-! loop 26_0 -/
inductive O26_0 where
  | k0 (w0 : Int) (w1 : Int) (w2 : Bool)
  | k1
def r26_0 (a0 : (List ByteArray)) : List ByteArray → Int → Int → O26_0
  | x0_26_0 :: l0_26_0, i_26_0, v0_26_0 =>
    if (!(x0_26_0.toList == (m38 v0_26_0).toList)) = true then (O26_0.k1) else
    (r26_0 a0 l0_26_0 (i_26_0 + 1) (IntKind.wrap .i64 (v0_26_0 + 1)))
  | [], i_26_0, v0_26_0 => (O26_0.k0 v0_26_0 i_26_0 (decide (i_26_0 < ((List.length (List.map b_s a0)) : Int))))
def h26_0 (l0_0 : Nat) (a0 : (List ByteArray)) (a1 : Int) (i_26_0 : Int) (v0_26_0 : Int) : St := ⟨[(0, (.one (.bor l0_0 (List.map b_s a0)))), (1, (.one (.val (.int .i64 v0_26_0)))), (5, (.one (.val (.int .i64 i_26_0))))], []⟩
def ex26_0 : O26_0 → VX.Exit
  | .k0 _ _ _ => (.exit 0)
  | .k1 => .ret
def fin26_0 (l0_0 : Nat) (a0 : (List ByteArray)) (a1 : Int) : O26_0 → St
  | .k0 w0 w1 w2 => ⟨[(0, (.one (.bor l0_0 (List.map b_s a0)))), (1, (.one (.val (.int .i64 w0)))), (5, (.one (.val (.int .i64 w1)))), (9, (.one (.val (.bool w2))))], []⟩
  | .k1 => ⟨[(4, (.one (.val (.int .i64 (-1)))))], []⟩
theorem t26_0 {l0_0 : Nat} {a0 : (List ByteArray)} {a1 : Int} (hy0 : List.length a0 * 16 ≤ 140737488351232) : ∀ (l0_26_0 : List ByteArray) (p_26_0 : List ByteArray) (v0_26_0 : Int), p_26_0 ++ l0_26_0 = a0 → Ev F X (.code l26_0 (h26_0 l0_0 a0 a1 (List.length p_26_0 : Int) v0_26_0) (ex26_0 (r26_0 a0 l0_26_0 (List.length p_26_0 : Int) v0_26_0)) (fin26_0 l0_0 a0 a1 (r26_0 a0 l0_26_0 (List.length p_26_0 : Int) v0_26_0)))
  | [], p_26_0, v0_26_0, hp0 => by
    have hc : ¬ (decide ((List.length p_26_0 : Int) < ((List.length (List.map b_s a0)) : Int))) = true := by
      rw [← hp0]; simp only [List.length_map, List.length_set, List.length_append, List.length_replicate, List.length_cons, List.length_nil, decide_eq_true_eq]; omega
    have st := ch b26_0 (h26_0 l0_0 a0 a1 (List.length p_26_0 : Int) v0_26_0) ⟨[(0, (.one (.bor l0_0 (List.map b_s a0)))), (1, (.one (.val (.int .i64 v0_26_0)))), (5, (.one (.val (.int .i64 (List.length p_26_0 : Int))))), (9, (.one (.val (.bool (decide ((List.length p_26_0 : Int) < ((List.length (List.map b_s a0)) : Int)))))))], []⟩ (.exit 0) 9 (by kernel_rfl) (.f (nt hc) (.h 8 (.b false) .nil))
    rw [show (⟨[(0, (.one (.bor l0_0 (List.map b_s a0)))), (1, (.one (.val (.int .i64 v0_26_0)))), (5, (.one (.val (.int .i64 (List.length p_26_0 : Int))))), (9, (.one (.val (.bool (decide ((List.length p_26_0 : Int) < ((List.length (List.map b_s a0)) : Int)))))))], []⟩ : St) = fin26_0 l0_0 a0 a1 (.k0 v0_26_0 (List.length p_26_0 : Int) (decide ((List.length p_26_0 : Int) < ((List.length (List.map b_s a0)) : Int)))) from by first | rfl | (unfold fin26_0; simp [byteRows_eq, ints_y, List.take_of_length_le, d_sisi, d_LsisiEi, d_i, d_b, d_s, d_iisiiii, d_iLsELiisiiiiELsisiEi, d_LsisiE, d_LsE, d_LiisiiiiE, d_y, fromBR_sisi, fromBR_i, fromBR_b, fromBR_s, fromBR_iisiiii, fromBR_y, ol23, ol10_0, ol24, ol25, ol11_0, ol11_1, ol11_2]; done)] at st
    exact .loopX st (show ((.exit 0) : VX.Exit) ≠ .normal from by simp)
  | x0_26_0 :: l0_26_0, p_26_0, v0_26_0, hp0 => by
    have hc : (decide ((List.length p_26_0 : Int) < ((List.length (List.map b_s a0)) : Int))) = true := by
      rw [← hp0]; simp only [List.length_map, List.length_set, List.length_append, List.length_replicate, List.length_cons, List.length_nil, decide_eq_true_eq]; omega
    have Hx0_26_0 : (a0)[Int.toNat (List.length p_26_0 : Int)]? = some x0_26_0 := by
      rw [← hp0, Int.toNat_natCast]; simp
    have hlen : List.length (a0) = List.length p_26_0 + List.length l0_26_0 + 1 := by rw [← hp0]; simp; omega
    have hw : IntKind.wrap .i64 ((List.length p_26_0 : Int) + 1) = (List.length p_26_0 : Int) + 1 := wrap64 (by omega)
    simp only [r26_0]
    have f1 : 0 ≤ (List.length p_26_0 : Int) := (by first | exact True.intro | with_reducible rfl | with_reducible assumption | omega | (simp only [decide_eq_true_eq] at *; omega) | (simp only [List.length_map, List.length_set, List.length_append, List.length_replicate, List.length_cons, List.length_nil]; omega) | (simp [ol23, ol10_0, ol24, ol25, ol11_0, ol11_1, ol11_2]; omega) | (simp [List.take_of_length_le, ol23, ol10_0, ol24, ol25, ol11_0, ol11_1, ol11_2]; done) | assumption | trivial | (simp [*, ol23, ol10_0, ol24, ol25, ol11_0, ol11_1, ol11_2, byteRows_eq, ints_y]; done))
    have P1 {hs q} (r : PS F X hs q) := (PS.f hc (.f f1 (.f (mp_ b_s Hx0_26_0) (.h 8 (.b true) (.h 14 (.row [(.val (.string x0_26_0))]) (.r 20 [] [] (e38 (a0 := v0_26_0)) r))))))
    by_cases h_26_0_1 : (!(x0_26_0.toList == (m38 v0_26_0).toList)) = true
    · try simp only [if_pos h_26_0_1]
      have st := ch b26_0 (h26_0 l0_0 a0 a1 (List.length p_26_0 : Int) v0_26_0) ⟨[(4, (.one (.val (.int .i64 (-1)))))], []⟩ .ret 26 (by kernel_rfl) (P1 (.f h_26_0_1 (.h 23 (.b true) .nil)))
      rw [show (⟨[(4, (.one (.val (.int .i64 (-1)))))], []⟩ : St) = fin26_0 l0_0 a0 a1 (.k1) from by first | rfl | (unfold fin26_0; simp [byteRows_eq, ints_y, List.take_of_length_le, d_sisi, d_LsisiEi, d_i, d_b, d_s, d_iisiiii, d_iLsELiisiiiiELsisiEi, d_LsisiE, d_LsE, d_LiisiiiiE, d_y, fromBR_sisi, fromBR_i, fromBR_b, fromBR_s, fromBR_iisiiii, fromBR_y, ol23, ol10_0, ol24, ol25, ol11_0, ol11_1, ol11_2]; done)] at st
      exact .loopX st (show (.ret : VX.Exit) ≠ .normal from by simp)
    · try simp only [if_neg h_26_0_1]
      have st := ch b26_0 (h26_0 l0_0 a0 a1 (List.length p_26_0 : Int) v0_26_0) ⟨[(0, (.one (.bor l0_0 (List.map b_s a0)))), (1, (.one (.val (.int .i64 (IntKind.wrap .i64 (v0_26_0 + 1)))))), (5, (.one (.val (.int .i64 (IntKind.wrap .i64 ((List.length p_26_0 : Int) + 1))))))], []⟩ .normal 36 (by kernel_rfl) (P1 (.f (nt h_26_0_1) (.f trivial (.f trivial (.h 23 (.b false) .nil)))))
      have ih := t26_0 (l0_0 := l0_0) (a0 := a0) (a1 := a1) hy0 l0_26_0 (p_26_0 ++ [x0_26_0]) (IntKind.wrap .i64 (v0_26_0 + 1)) (by rw [List.append_assoc]; exact hp0)
      rw [show ((p_26_0 ++ [x0_26_0]).length : Int) = (p_26_0.length : Int) + 1 from by simp] at ih
      rw [show (⟨[(0, (.one (.bor l0_0 (List.map b_s a0)))), (1, (.one (.val (.int .i64 (IntKind.wrap .i64 (v0_26_0 + 1)))))), (5, (.one (.val (.int .i64 (IntKind.wrap .i64 ((List.length p_26_0 : Int) + 1))))))], []⟩ : St) = h26_0 l0_0 a0 a1 ((List.length p_26_0 : Int) + 1) (IntKind.wrap .i64 (v0_26_0 + 1)) from by first | (unfold h26_0; simp only [hw]; done) | (unfold h26_0; simp only [hw, List.length_map, List.length_set, List.length_append, List.length_replicate, List.length_cons, List.length_nil]; done) | (unfold h26_0; simp [hw, byteRows_eq, ints_y, List.take_of_length_le, d_sisi, d_LsisiEi, d_i, d_b, d_s, d_iisiiii, d_iLsELiisiiiiELsisiEi, d_LsisiE, d_LsE, d_LiisiiiiE, d_y, fromBR_sisi, fromBR_i, fromBR_b, fromBR_s, fromBR_iisiiii, fromBR_y, ol23, ol10_0, ol24, ol25, ol11_0, ol11_1, ol11_2]; done)] at st
      exact .loopN st ih
/-! loop.example/g00539/laws.heldStringS -/
def m26 (a0 : (List ByteArray)) (a1 : Int) : Int :=
  (match r26_0 a0 a0 0 a1 with | .k0 w0_26_0_0 w1_26_0_0 w2_26_0_0 => w0_26_0_0 | .k1 => (-1))
theorem e26 {l0_0 : Nat} {a0 : (List ByteArray)} {a1 : Int} (hy0 : List.length a0 * 16 ≤ 140737488351232) : Ev F X (.call 26 [(.one (.bor l0_0 (List.map b_s a0))), (.one (.val (.int .i64 a1)))] [] [] [(.one (.val (.int .i64 (m26 a0 a1))))]) := by
  unfold m26
  cases h0 : r26_0 a0 a0 0 a1 with
  | k0 w0_26_0_0 w1_26_0_0 w2_26_0_0 =>
    try dsimp only
    have f0 : (⟨[(0, (.one (.bor l0_0 (List.map b_s a0)))), (1, (.one (.val (.int .i64 a1)))), (5, (.one (.val (.int .i64 0))))], []⟩ : St) = h26_0 l0_0 a0 a1 0 a1 := (by first | rfl | (unfold h26_0; simp [byteRows_eq, ints_y, List.take_of_length_le, d_sisi, d_LsisiEi, d_i, d_b, d_s, d_iisiiii, d_iLsELiisiiiiELsisiEi, d_LsisiE, d_LsE, d_LiisiiiiE, d_y, fromBR_sisi, fromBR_i, fromBR_b, fromBR_s, fromBR_iisiiii, fromBR_y, ol23, ol10_0, ol24, ol25, ol11_0, ol11_1, ol11_2]; done))
    exact cp (by kernel_rfl) (.f f0 (.f (ev_ (e := ex26_0) (g := (fin26_0 l0_0 a0 a1)) h0 (t26_0 (l0_0 := l0_0) (a0 := a0) (a1 := a1) (by first | assumption | omega) a0 [] a1 rfl)) (.h 4 (.loop (h26_0 l0_0 a0 a1 0 a1) (.exit 0) ⟨[(0, (.one (.bor l0_0 (List.map b_s a0)))), (1, (.one (.val (.int .i64 w0_26_0_0)))), (5, (.one (.val (.int .i64 w1_26_0_0)))), (9, (.one (.val (.bool w2_26_0_0))))], []⟩) .nil)))
  | k1 =>
    try dsimp only
    have f0 : (⟨[(0, (.one (.bor l0_0 (List.map b_s a0)))), (1, (.one (.val (.int .i64 a1)))), (5, (.one (.val (.int .i64 0))))], []⟩ : St) = h26_0 l0_0 a0 a1 0 a1 := (by first | rfl | (unfold h26_0; simp [byteRows_eq, ints_y, List.take_of_length_le, d_sisi, d_LsisiEi, d_i, d_b, d_s, d_iisiiii, d_iLsELiisiiiiELsisiEi, d_LsisiE, d_LsE, d_LiisiiiiE, d_y, fromBR_sisi, fromBR_i, fromBR_b, fromBR_s, fromBR_iisiiii, fromBR_y, ol23, ol10_0, ol24, ol25, ol11_0, ol11_1, ol11_2]; done))
    exact cp (by kernel_rfl) (.f f0 (.f (ev_ (e := ex26_0) (g := (fin26_0 l0_0 a0 a1)) h0 (t26_0 (l0_0 := l0_0) (a0 := a0) (a1 := a1) (by first | assumption | omega) a0 [] a1 rfl)) (.h 4 (.loop (h26_0 l0_0 a0 a1 0 a1) .ret ⟨[(4, (.one (.val (.int .i64 (-1)))))], []⟩) .nil)))
/-! loop 27_0 -/
inductive O27_0 where
  | k0 (w0 : Int) (w1 : Int) (w2 : Bool)
  | k1
def r27_0 (a0 : (List K_iisiiii)) : List K_iisiiii → Int → Int → O27_0
  | x0_27_0 :: l0_27_0, i_27_0, v0_27_0 =>
    if (x0_27_0.f0 != v0_27_0) = true then (O27_0.k1) else
    if (x0_27_0.f1 != (IntKind.wrap .i64 (v0_27_0 + 1))) = true then (O27_0.k1) else
      if (!(x0_27_0.f2.toList == (m38 (IntKind.wrap .i64 ((IntKind.wrap .i64 (v0_27_0 + 1)) + 1))).toList)) = true then (O27_0.k1) else
        if (x0_27_0.f3 != (IntKind.wrap .i64 ((IntKind.wrap .i64 ((IntKind.wrap .i64 (v0_27_0 + 1)) + 1)) + 1))) = true then (O27_0.k1) else
          if (x0_27_0.f4 != (IntKind.wrap .i64 ((IntKind.wrap .i64 ((IntKind.wrap .i64 ((IntKind.wrap .i64 (v0_27_0 + 1)) + 1)) + 1)) + 1))) = true then (O27_0.k1) else
            if (x0_27_0.f5 != (IntKind.wrap .i64 ((IntKind.wrap .i64 ((IntKind.wrap .i64 ((IntKind.wrap .i64 ((IntKind.wrap .i64 (v0_27_0 + 1)) + 1)) + 1)) + 1)) + 1))) = true then (O27_0.k1) else
              if (x0_27_0.f6 != (IntKind.wrap .i64 ((IntKind.wrap .i64 ((IntKind.wrap .i64 ((IntKind.wrap .i64 ((IntKind.wrap .i64 ((IntKind.wrap .i64 (v0_27_0 + 1)) + 1)) + 1)) + 1)) + 1)) + 1))) = true then (O27_0.k1) else
                (r27_0 a0 l0_27_0 (i_27_0 + 1) (IntKind.wrap .i64 ((IntKind.wrap .i64 ((IntKind.wrap .i64 ((IntKind.wrap .i64 ((IntKind.wrap .i64 ((IntKind.wrap .i64 ((IntKind.wrap .i64 (v0_27_0 + 1)) + 1)) + 1)) + 1)) + 1)) + 1)) + 1)))
  | [], i_27_0, v0_27_0 => (O27_0.k0 v0_27_0 i_27_0 (decide (i_27_0 < ((List.length (List.map b_iisiiii a0)) : Int))))
def h27_0 (l0_0 : Nat) (a0 : (List K_iisiiii)) (a1 : Int) (i_27_0 : Int) (v0_27_0 : Int) : St := ⟨[(0, (.one (.bor l0_0 (List.map b_iisiiii a0)))), (1, (.one (.val (.int .i64 v0_27_0)))), (5, (.one (.val (.int .i64 i_27_0))))], []⟩
def ex27_0 : O27_0 → VX.Exit
  | .k0 _ _ _ => (.exit 0)
  | .k1 => .ret
def fin27_0 (l0_0 : Nat) (a0 : (List K_iisiiii)) (a1 : Int) : O27_0 → St
  | .k0 w0 w1 w2 => ⟨[(0, (.one (.bor l0_0 (List.map b_iisiiii a0)))), (1, (.one (.val (.int .i64 w0)))), (5, (.one (.val (.int .i64 w1)))), (9, (.one (.val (.bool w2))))], []⟩
  | .k1 => ⟨[(4, (.one (.val (.int .i64 (-1)))))], []⟩
theorem t27_0 {l0_0 : Nat} {a0 : (List K_iisiiii)} {a1 : Int} (hy0 : List.length a0 * 64 ≤ 140737488351232) : ∀ (l0_27_0 : List K_iisiiii) (p_27_0 : List K_iisiiii) (v0_27_0 : Int), p_27_0 ++ l0_27_0 = a0 → Ev F X (.code l27_0 (h27_0 l0_0 a0 a1 (List.length p_27_0 : Int) v0_27_0) (ex27_0 (r27_0 a0 l0_27_0 (List.length p_27_0 : Int) v0_27_0)) (fin27_0 l0_0 a0 a1 (r27_0 a0 l0_27_0 (List.length p_27_0 : Int) v0_27_0)))
  | [], p_27_0, v0_27_0, hp0 => by
    have hc : ¬ (decide ((List.length p_27_0 : Int) < ((List.length (List.map b_iisiiii a0)) : Int))) = true := by
      rw [← hp0]; simp only [List.length_map, List.length_set, List.length_append, List.length_replicate, List.length_cons, List.length_nil, decide_eq_true_eq]; omega
    have st := ch b27_0 (h27_0 l0_0 a0 a1 (List.length p_27_0 : Int) v0_27_0) ⟨[(0, (.one (.bor l0_0 (List.map b_iisiiii a0)))), (1, (.one (.val (.int .i64 v0_27_0)))), (5, (.one (.val (.int .i64 (List.length p_27_0 : Int))))), (9, (.one (.val (.bool (decide ((List.length p_27_0 : Int) < ((List.length (List.map b_iisiiii a0)) : Int)))))))], []⟩ (.exit 0) 9 (by kernel_rfl) (.f (nt hc) (.h 8 (.b false) .nil))
    rw [show (⟨[(0, (.one (.bor l0_0 (List.map b_iisiiii a0)))), (1, (.one (.val (.int .i64 v0_27_0)))), (5, (.one (.val (.int .i64 (List.length p_27_0 : Int))))), (9, (.one (.val (.bool (decide ((List.length p_27_0 : Int) < ((List.length (List.map b_iisiiii a0)) : Int)))))))], []⟩ : St) = fin27_0 l0_0 a0 a1 (.k0 v0_27_0 (List.length p_27_0 : Int) (decide ((List.length p_27_0 : Int) < ((List.length (List.map b_iisiiii a0)) : Int)))) from by first | rfl | (unfold fin27_0; simp [byteRows_eq, ints_y, List.take_of_length_le, d_sisi, d_LsisiEi, d_i, d_b, d_s, d_iisiiii, d_iLsELiisiiiiELsisiEi, d_LsisiE, d_LsE, d_LiisiiiiE, d_y, fromBR_sisi, fromBR_i, fromBR_b, fromBR_s, fromBR_iisiiii, fromBR_y, ol23, ol10_0, ol24, ol25, ol11_0, ol11_1, ol11_2]; done)] at st
    exact .loopX st (show ((.exit 0) : VX.Exit) ≠ .normal from by simp)
  | x0_27_0 :: l0_27_0, p_27_0, v0_27_0, hp0 => by
    have hc : (decide ((List.length p_27_0 : Int) < ((List.length (List.map b_iisiiii a0)) : Int))) = true := by
      rw [← hp0]; simp only [List.length_map, List.length_set, List.length_append, List.length_replicate, List.length_cons, List.length_nil, decide_eq_true_eq]; omega
    have Hx0_27_0 : (a0)[Int.toNat (List.length p_27_0 : Int)]? = some x0_27_0 := by
      rw [← hp0, Int.toNat_natCast]; simp
    have hlen : List.length (a0) = List.length p_27_0 + List.length l0_27_0 + 1 := by rw [← hp0]; simp; omega
    have hw : IntKind.wrap .i64 ((List.length p_27_0 : Int) + 1) = (List.length p_27_0 : Int) + 1 := wrap64 (by omega)
    simp only [r27_0]
    have f1 : 0 ≤ (List.length p_27_0 : Int) := (by first | exact True.intro | with_reducible rfl | with_reducible assumption | omega | (simp only [decide_eq_true_eq] at *; omega) | (simp only [List.length_map, List.length_set, List.length_append, List.length_replicate, List.length_cons, List.length_nil]; omega) | (simp [ol23, ol10_0, ol24, ol25, ol11_0, ol11_1, ol11_2]; omega) | (simp [List.take_of_length_le, ol23, ol10_0, ol24, ol25, ol11_0, ol11_1, ol11_2]; done) | assumption | trivial | (simp [*, ol23, ol10_0, ol24, ol25, ol11_0, ol11_1, ol11_2, byteRows_eq, ints_y]; done))
    have P1 {hs q} (r : PS F X hs q) := (PS.f hc (.f f1 (.f (mp_ b_iisiiii Hx0_27_0) (.h 8 (.b true) (.h 14 (.row [(.val (.int .i64 x0_27_0.f0)), (.val (.int .i64 x0_27_0.f1)), (.val (.string x0_27_0.f2)), (.val (.int .i64 x0_27_0.f3)), (.val (.int .i64 x0_27_0.f4)), (.val (.int .i64 x0_27_0.f5)), (.val (.int .i64 x0_27_0.f6))]) r)))))
    by_cases h_27_0_1 : (x0_27_0.f0 != v0_27_0) = true
    · try simp only [if_pos h_27_0_1]
      have st := ch b27_0 (h27_0 l0_0 a0 a1 (List.length p_27_0 : Int) v0_27_0) ⟨[(4, (.one (.val (.int .i64 (-1)))))], []⟩ .ret 26 (by kernel_rfl) (P1 (.f h_27_0_1 (.h 23 (.b true) .nil)))
      rw [show (⟨[(4, (.one (.val (.int .i64 (-1)))))], []⟩ : St) = fin27_0 l0_0 a0 a1 (.k1) from by first | rfl | (unfold fin27_0; simp [byteRows_eq, ints_y, List.take_of_length_le, d_sisi, d_LsisiEi, d_i, d_b, d_s, d_iisiiii, d_iLsELiisiiiiELsisiEi, d_LsisiE, d_LsE, d_LiisiiiiE, d_y, fromBR_sisi, fromBR_i, fromBR_b, fromBR_s, fromBR_iisiiii, fromBR_y, ol23, ol10_0, ol24, ol25, ol11_0, ol11_1, ol11_2]; done)] at st
      exact .loopX st (show (.ret : VX.Exit) ≠ .normal from by simp)
    · try simp only [if_neg h_27_0_1]
      have P2 {hs q} (r : PS F X hs q) := (P1 (.f (nt h_27_0_1) (.f trivial (.f f1 (.f (mp_ b_iisiiii Hx0_27_0) (.h 23 (.b false) (.h 35 (.row [(.val (.int .i64 x0_27_0.f0)), (.val (.int .i64 x0_27_0.f1)), (.val (.string x0_27_0.f2)), (.val (.int .i64 x0_27_0.f3)), (.val (.int .i64 x0_27_0.f4)), (.val (.int .i64 x0_27_0.f5)), (.val (.int .i64 x0_27_0.f6))]) r)))))))
      by_cases h_27_0_2 : (x0_27_0.f1 != (IntKind.wrap .i64 (v0_27_0 + 1))) = true
      · try simp only [if_pos h_27_0_2]
        have st := ch b27_0 (h27_0 l0_0 a0 a1 (List.length p_27_0 : Int) v0_27_0) ⟨[(4, (.one (.val (.int .i64 (-1)))))], []⟩ .ret 47 (by kernel_rfl) (P2 (.f h_27_0_2 (.h 44 (.b true) .nil)))
        rw [show (⟨[(4, (.one (.val (.int .i64 (-1)))))], []⟩ : St) = fin27_0 l0_0 a0 a1 (.k1) from by first | rfl | (unfold fin27_0; simp [byteRows_eq, ints_y, List.take_of_length_le, d_sisi, d_LsisiEi, d_i, d_b, d_s, d_iisiiii, d_iLsELiisiiiiELsisiEi, d_LsisiE, d_LsE, d_LiisiiiiE, d_y, fromBR_sisi, fromBR_i, fromBR_b, fromBR_s, fromBR_iisiiii, fromBR_y, ol23, ol10_0, ol24, ol25, ol11_0, ol11_1, ol11_2]; done)] at st
        exact .loopX st (show (.ret : VX.Exit) ≠ .normal from by simp)
      · try simp only [if_neg h_27_0_2]
        have P3 {hs q} (r : PS F X hs q) := (P2 (.f (nt h_27_0_2) (.f trivial (.f f1 (.f (mp_ b_iisiiii Hx0_27_0) (.h 44 (.b false) (.h 56 (.row [(.val (.int .i64 x0_27_0.f0)), (.val (.int .i64 x0_27_0.f1)), (.val (.string x0_27_0.f2)), (.val (.int .i64 x0_27_0.f3)), (.val (.int .i64 x0_27_0.f4)), (.val (.int .i64 x0_27_0.f5)), (.val (.int .i64 x0_27_0.f6))]) (.r 64 [] [] (e38 (a0 := (IntKind.wrap .i64 ((IntKind.wrap .i64 (v0_27_0 + 1)) + 1)))) r))))))))
        by_cases h_27_0_3 : (!(x0_27_0.f2.toList == (m38 (IntKind.wrap .i64 ((IntKind.wrap .i64 (v0_27_0 + 1)) + 1))).toList)) = true
        · try simp only [if_pos h_27_0_3]
          have st := ch b27_0 (h27_0 l0_0 a0 a1 (List.length p_27_0 : Int) v0_27_0) ⟨[(4, (.one (.val (.int .i64 (-1)))))], []⟩ .ret 70 (by kernel_rfl) (P3 (.f h_27_0_3 (.h 67 (.b true) .nil)))
          rw [show (⟨[(4, (.one (.val (.int .i64 (-1)))))], []⟩ : St) = fin27_0 l0_0 a0 a1 (.k1) from by first | rfl | (unfold fin27_0; simp [byteRows_eq, ints_y, List.take_of_length_le, d_sisi, d_LsisiEi, d_i, d_b, d_s, d_iisiiii, d_iLsELiisiiiiELsisiEi, d_LsisiE, d_LsE, d_LiisiiiiE, d_y, fromBR_sisi, fromBR_i, fromBR_b, fromBR_s, fromBR_iisiiii, fromBR_y, ol23, ol10_0, ol24, ol25, ol11_0, ol11_1, ol11_2]; done)] at st
          exact .loopX st (show (.ret : VX.Exit) ≠ .normal from by simp)
        · try simp only [if_neg h_27_0_3]
          have P4 {hs q} (r : PS F X hs q) := (P3 (.f (nt h_27_0_3) (.f trivial (.f f1 (.f (mp_ b_iisiiii Hx0_27_0) (.h 67 (.b false) (.h 79 (.row [(.val (.int .i64 x0_27_0.f0)), (.val (.int .i64 x0_27_0.f1)), (.val (.string x0_27_0.f2)), (.val (.int .i64 x0_27_0.f3)), (.val (.int .i64 x0_27_0.f4)), (.val (.int .i64 x0_27_0.f5)), (.val (.int .i64 x0_27_0.f6))]) r)))))))
          by_cases h_27_0_4 : (x0_27_0.f3 != (IntKind.wrap .i64 ((IntKind.wrap .i64 ((IntKind.wrap .i64 (v0_27_0 + 1)) + 1)) + 1))) = true
          · try simp only [if_pos h_27_0_4]
            have st := ch b27_0 (h27_0 l0_0 a0 a1 (List.length p_27_0 : Int) v0_27_0) ⟨[(4, (.one (.val (.int .i64 (-1)))))], []⟩ .ret 91 (by kernel_rfl) (P4 (.f h_27_0_4 (.h 88 (.b true) .nil)))
            rw [show (⟨[(4, (.one (.val (.int .i64 (-1)))))], []⟩ : St) = fin27_0 l0_0 a0 a1 (.k1) from by first | rfl | (unfold fin27_0; simp [byteRows_eq, ints_y, List.take_of_length_le, d_sisi, d_LsisiEi, d_i, d_b, d_s, d_iisiiii, d_iLsELiisiiiiELsisiEi, d_LsisiE, d_LsE, d_LiisiiiiE, d_y, fromBR_sisi, fromBR_i, fromBR_b, fromBR_s, fromBR_iisiiii, fromBR_y, ol23, ol10_0, ol24, ol25, ol11_0, ol11_1, ol11_2]; done)] at st
            exact .loopX st (show (.ret : VX.Exit) ≠ .normal from by simp)
          · try simp only [if_neg h_27_0_4]
            have P5 {hs q} (r : PS F X hs q) := (P4 (.f (nt h_27_0_4) (.f trivial (.f f1 (.f (mp_ b_iisiiii Hx0_27_0) (.h 88 (.b false) (.h 100 (.row [(.val (.int .i64 x0_27_0.f0)), (.val (.int .i64 x0_27_0.f1)), (.val (.string x0_27_0.f2)), (.val (.int .i64 x0_27_0.f3)), (.val (.int .i64 x0_27_0.f4)), (.val (.int .i64 x0_27_0.f5)), (.val (.int .i64 x0_27_0.f6))]) r)))))))
            by_cases h_27_0_5 : (x0_27_0.f4 != (IntKind.wrap .i64 ((IntKind.wrap .i64 ((IntKind.wrap .i64 ((IntKind.wrap .i64 (v0_27_0 + 1)) + 1)) + 1)) + 1))) = true
            · try simp only [if_pos h_27_0_5]
              have st := ch b27_0 (h27_0 l0_0 a0 a1 (List.length p_27_0 : Int) v0_27_0) ⟨[(4, (.one (.val (.int .i64 (-1)))))], []⟩ .ret 112 (by kernel_rfl) (P5 (.f h_27_0_5 (.h 109 (.b true) .nil)))
              rw [show (⟨[(4, (.one (.val (.int .i64 (-1)))))], []⟩ : St) = fin27_0 l0_0 a0 a1 (.k1) from by first | rfl | (unfold fin27_0; simp [byteRows_eq, ints_y, List.take_of_length_le, d_sisi, d_LsisiEi, d_i, d_b, d_s, d_iisiiii, d_iLsELiisiiiiELsisiEi, d_LsisiE, d_LsE, d_LiisiiiiE, d_y, fromBR_sisi, fromBR_i, fromBR_b, fromBR_s, fromBR_iisiiii, fromBR_y, ol23, ol10_0, ol24, ol25, ol11_0, ol11_1, ol11_2]; done)] at st
              exact .loopX st (show (.ret : VX.Exit) ≠ .normal from by simp)
            · try simp only [if_neg h_27_0_5]
              have P6 {hs q} (r : PS F X hs q) := (P5 (.f (nt h_27_0_5) (.f trivial (.f f1 (.f (mp_ b_iisiiii Hx0_27_0) (.h 109 (.b false) (.h 121 (.row [(.val (.int .i64 x0_27_0.f0)), (.val (.int .i64 x0_27_0.f1)), (.val (.string x0_27_0.f2)), (.val (.int .i64 x0_27_0.f3)), (.val (.int .i64 x0_27_0.f4)), (.val (.int .i64 x0_27_0.f5)), (.val (.int .i64 x0_27_0.f6))]) r)))))))
              by_cases h_27_0_6 : (x0_27_0.f5 != (IntKind.wrap .i64 ((IntKind.wrap .i64 ((IntKind.wrap .i64 ((IntKind.wrap .i64 ((IntKind.wrap .i64 (v0_27_0 + 1)) + 1)) + 1)) + 1)) + 1))) = true
              · try simp only [if_pos h_27_0_6]
                have st := ch b27_0 (h27_0 l0_0 a0 a1 (List.length p_27_0 : Int) v0_27_0) ⟨[(4, (.one (.val (.int .i64 (-1)))))], []⟩ .ret 133 (by kernel_rfl) (P6 (.f h_27_0_6 (.h 130 (.b true) .nil)))
                rw [show (⟨[(4, (.one (.val (.int .i64 (-1)))))], []⟩ : St) = fin27_0 l0_0 a0 a1 (.k1) from by first | rfl | (unfold fin27_0; simp [byteRows_eq, ints_y, List.take_of_length_le, d_sisi, d_LsisiEi, d_i, d_b, d_s, d_iisiiii, d_iLsELiisiiiiELsisiEi, d_LsisiE, d_LsE, d_LiisiiiiE, d_y, fromBR_sisi, fromBR_i, fromBR_b, fromBR_s, fromBR_iisiiii, fromBR_y, ol23, ol10_0, ol24, ol25, ol11_0, ol11_1, ol11_2]; done)] at st
                exact .loopX st (show (.ret : VX.Exit) ≠ .normal from by simp)
              · try simp only [if_neg h_27_0_6]
                have P7 {hs q} (r : PS F X hs q) := (P6 (.f (nt h_27_0_6) (.f trivial (.f f1 (.f (mp_ b_iisiiii Hx0_27_0) (.h 130 (.b false) (.h 142 (.row [(.val (.int .i64 x0_27_0.f0)), (.val (.int .i64 x0_27_0.f1)), (.val (.string x0_27_0.f2)), (.val (.int .i64 x0_27_0.f3)), (.val (.int .i64 x0_27_0.f4)), (.val (.int .i64 x0_27_0.f5)), (.val (.int .i64 x0_27_0.f6))]) r)))))))
                by_cases h_27_0_7 : (x0_27_0.f6 != (IntKind.wrap .i64 ((IntKind.wrap .i64 ((IntKind.wrap .i64 ((IntKind.wrap .i64 ((IntKind.wrap .i64 ((IntKind.wrap .i64 (v0_27_0 + 1)) + 1)) + 1)) + 1)) + 1)) + 1))) = true
                · try simp only [if_pos h_27_0_7]
                  have st := ch b27_0 (h27_0 l0_0 a0 a1 (List.length p_27_0 : Int) v0_27_0) ⟨[(4, (.one (.val (.int .i64 (-1)))))], []⟩ .ret 154 (by kernel_rfl) (P7 (.f h_27_0_7 (.h 151 (.b true) .nil)))
                  rw [show (⟨[(4, (.one (.val (.int .i64 (-1)))))], []⟩ : St) = fin27_0 l0_0 a0 a1 (.k1) from by first | rfl | (unfold fin27_0; simp [byteRows_eq, ints_y, List.take_of_length_le, d_sisi, d_LsisiEi, d_i, d_b, d_s, d_iisiiii, d_iLsELiisiiiiELsisiEi, d_LsisiE, d_LsE, d_LiisiiiiE, d_y, fromBR_sisi, fromBR_i, fromBR_b, fromBR_s, fromBR_iisiiii, fromBR_y, ol23, ol10_0, ol24, ol25, ol11_0, ol11_1, ol11_2]; done)] at st
                  exact .loopX st (show (.ret : VX.Exit) ≠ .normal from by simp)
                · try simp only [if_neg h_27_0_7]
                  have st := ch b27_0 (h27_0 l0_0 a0 a1 (List.length p_27_0 : Int) v0_27_0) ⟨[(0, (.one (.bor l0_0 (List.map b_iisiiii a0)))), (1, (.one (.val (.int .i64 (IntKind.wrap .i64 ((IntKind.wrap .i64 ((IntKind.wrap .i64 ((IntKind.wrap .i64 ((IntKind.wrap .i64 ((IntKind.wrap .i64 ((IntKind.wrap .i64 (v0_27_0 + 1)) + 1)) + 1)) + 1)) + 1)) + 1)) + 1)))))), (5, (.one (.val (.int .i64 (IntKind.wrap .i64 ((List.length p_27_0 : Int) + 1))))))], []⟩ .normal 164 (by kernel_rfl) (P7 (.f (nt h_27_0_7) (.f trivial (.f trivial (.h 151 (.b false) .nil)))))
                  have ih := t27_0 (l0_0 := l0_0) (a0 := a0) (a1 := a1) hy0 l0_27_0 (p_27_0 ++ [x0_27_0]) (IntKind.wrap .i64 ((IntKind.wrap .i64 ((IntKind.wrap .i64 ((IntKind.wrap .i64 ((IntKind.wrap .i64 ((IntKind.wrap .i64 ((IntKind.wrap .i64 (v0_27_0 + 1)) + 1)) + 1)) + 1)) + 1)) + 1)) + 1)) (by rw [List.append_assoc]; exact hp0)
                  rw [show ((p_27_0 ++ [x0_27_0]).length : Int) = (p_27_0.length : Int) + 1 from by simp] at ih
                  rw [show (⟨[(0, (.one (.bor l0_0 (List.map b_iisiiii a0)))), (1, (.one (.val (.int .i64 (IntKind.wrap .i64 ((IntKind.wrap .i64 ((IntKind.wrap .i64 ((IntKind.wrap .i64 ((IntKind.wrap .i64 ((IntKind.wrap .i64 ((IntKind.wrap .i64 (v0_27_0 + 1)) + 1)) + 1)) + 1)) + 1)) + 1)) + 1)))))), (5, (.one (.val (.int .i64 (IntKind.wrap .i64 ((List.length p_27_0 : Int) + 1))))))], []⟩ : St) = h27_0 l0_0 a0 a1 ((List.length p_27_0 : Int) + 1) (IntKind.wrap .i64 ((IntKind.wrap .i64 ((IntKind.wrap .i64 ((IntKind.wrap .i64 ((IntKind.wrap .i64 ((IntKind.wrap .i64 ((IntKind.wrap .i64 (v0_27_0 + 1)) + 1)) + 1)) + 1)) + 1)) + 1)) + 1)) from by first | (unfold h27_0; simp only [hw]; done) | (unfold h27_0; simp only [hw, List.length_map, List.length_set, List.length_append, List.length_replicate, List.length_cons, List.length_nil]; done) | (unfold h27_0; simp [hw, byteRows_eq, ints_y, List.take_of_length_le, d_sisi, d_LsisiEi, d_i, d_b, d_s, d_iisiiii, d_iLsELiisiiiiELsisiEi, d_LsisiE, d_LsE, d_LiisiiiiE, d_y, fromBR_sisi, fromBR_i, fromBR_b, fromBR_s, fromBR_iisiiii, fromBR_y, ol23, ol10_0, ol24, ol25, ol11_0, ol11_1, ol11_2]; done)] at st
                  exact .loopN st ih
/-! loop.example/g00539/laws.heldActS -/
def m27 (a0 : (List K_iisiiii)) (a1 : Int) : Int :=
  (match r27_0 a0 a0 0 a1 with | .k0 w0_27_0_0 w1_27_0_0 w2_27_0_0 => w0_27_0_0 | .k1 => (-1))
theorem e27 {l0_0 : Nat} {a0 : (List K_iisiiii)} {a1 : Int} (hy0 : List.length a0 * 64 ≤ 140737488351232) : Ev F X (.call 27 [(.one (.bor l0_0 (List.map b_iisiiii a0))), (.one (.val (.int .i64 a1)))] [] [] [(.one (.val (.int .i64 (m27 a0 a1))))]) := by
  unfold m27
  cases h0 : r27_0 a0 a0 0 a1 with
  | k0 w0_27_0_0 w1_27_0_0 w2_27_0_0 =>
    try dsimp only
    have f0 : (⟨[(0, (.one (.bor l0_0 (List.map b_iisiiii a0)))), (1, (.one (.val (.int .i64 a1)))), (5, (.one (.val (.int .i64 0))))], []⟩ : St) = h27_0 l0_0 a0 a1 0 a1 := (by first | rfl | (unfold h27_0; simp [byteRows_eq, ints_y, List.take_of_length_le, d_sisi, d_LsisiEi, d_i, d_b, d_s, d_iisiiii, d_iLsELiisiiiiELsisiEi, d_LsisiE, d_LsE, d_LiisiiiiE, d_y, fromBR_sisi, fromBR_i, fromBR_b, fromBR_s, fromBR_iisiiii, fromBR_y, ol23, ol10_0, ol24, ol25, ol11_0, ol11_1, ol11_2]; done))
    exact cp (by kernel_rfl) (.f f0 (.f (ev_ (e := ex27_0) (g := (fin27_0 l0_0 a0 a1)) h0 (t27_0 (l0_0 := l0_0) (a0 := a0) (a1 := a1) (by first | assumption | omega) a0 [] a1 rfl)) (.h 4 (.loop (h27_0 l0_0 a0 a1 0 a1) (.exit 0) ⟨[(0, (.one (.bor l0_0 (List.map b_iisiiii a0)))), (1, (.one (.val (.int .i64 w0_27_0_0)))), (5, (.one (.val (.int .i64 w1_27_0_0)))), (9, (.one (.val (.bool w2_27_0_0))))], []⟩) .nil)))
  | k1 =>
    try dsimp only
    have f0 : (⟨[(0, (.one (.bor l0_0 (List.map b_iisiiii a0)))), (1, (.one (.val (.int .i64 a1)))), (5, (.one (.val (.int .i64 0))))], []⟩ : St) = h27_0 l0_0 a0 a1 0 a1 := (by first | rfl | (unfold h27_0; simp [byteRows_eq, ints_y, List.take_of_length_le, d_sisi, d_LsisiEi, d_i, d_b, d_s, d_iisiiii, d_iLsELiisiiiiELsisiEi, d_LsisiE, d_LsE, d_LiisiiiiE, d_y, fromBR_sisi, fromBR_i, fromBR_b, fromBR_s, fromBR_iisiiii, fromBR_y, ol23, ol10_0, ol24, ol25, ol11_0, ol11_1, ol11_2]; done))
    exact cp (by kernel_rfl) (.f f0 (.f (ev_ (e := ex27_0) (g := (fin27_0 l0_0 a0 a1)) h0 (t27_0 (l0_0 := l0_0) (a0 := a0) (a1 := a1) (by first | assumption | omega) a0 [] a1 rfl)) (.h 4 (.loop (h27_0 l0_0 a0 a1 0 a1) .ret ⟨[(4, (.one (.val (.int .i64 (-1)))))], []⟩) .nil)))
/-! loop 39_0 -/
inductive O39_0 where
  | k0 (w0 : Int) (w1 : Int) (w2 : Bool)
  | k1
def r39_0 (a0 : (List K_sisi)) : List K_sisi → Int → Int → O39_0
  | x0_39_0 :: l0_39_0, i_39_0, v0_39_0 =>
    if (!(x0_39_0.f0.toList == (m38 v0_39_0).toList)) = true then (O39_0.k1) else
    if (x0_39_0.f1 != (IntKind.wrap .i64 (v0_39_0 + 1))) = true then (O39_0.k1) else
      if (!(x0_39_0.f2.toList == (m38 (IntKind.wrap .i64 ((IntKind.wrap .i64 (v0_39_0 + 1)) + 1))).toList)) = true then (O39_0.k1) else
        if (x0_39_0.f3 != (IntKind.wrap .i64 ((IntKind.wrap .i64 ((IntKind.wrap .i64 (v0_39_0 + 1)) + 1)) + 1))) = true then (O39_0.k1) else
          (r39_0 a0 l0_39_0 (i_39_0 + 1) (IntKind.wrap .i64 ((IntKind.wrap .i64 ((IntKind.wrap .i64 ((IntKind.wrap .i64 (v0_39_0 + 1)) + 1)) + 1)) + 1)))
  | [], i_39_0, v0_39_0 => (O39_0.k0 v0_39_0 i_39_0 (decide (i_39_0 < ((List.length (List.map b_sisi a0)) : Int))))
def h39_0 (l0_0 : Nat) (a0 : (List K_sisi)) (a1 : Int) (i_39_0 : Int) (v0_39_0 : Int) : St := ⟨[(0, (.one (.bor l0_0 (List.map b_sisi a0)))), (1, (.one (.val (.int .i64 v0_39_0)))), (5, (.one (.val (.int .i64 i_39_0))))], []⟩
def ex39_0 : O39_0 → VX.Exit
  | .k0 _ _ _ => (.exit 0)
  | .k1 => .ret
def fin39_0 (l0_0 : Nat) (a0 : (List K_sisi)) (a1 : Int) : O39_0 → St
  | .k0 w0 w1 w2 => ⟨[(0, (.one (.bor l0_0 (List.map b_sisi a0)))), (1, (.one (.val (.int .i64 w0)))), (5, (.one (.val (.int .i64 w1)))), (9, (.one (.val (.bool w2))))], []⟩
  | .k1 => ⟨[(4, (.one (.val (.int .i64 (-1)))))], []⟩
theorem t39_0 {l0_0 : Nat} {a0 : (List K_sisi)} {a1 : Int} (hy0 : List.length a0 * 48 ≤ 140737488351232) : ∀ (l0_39_0 : List K_sisi) (p_39_0 : List K_sisi) (v0_39_0 : Int), p_39_0 ++ l0_39_0 = a0 → Ev F X (.code l39_0 (h39_0 l0_0 a0 a1 (List.length p_39_0 : Int) v0_39_0) (ex39_0 (r39_0 a0 l0_39_0 (List.length p_39_0 : Int) v0_39_0)) (fin39_0 l0_0 a0 a1 (r39_0 a0 l0_39_0 (List.length p_39_0 : Int) v0_39_0)))
  | [], p_39_0, v0_39_0, hp0 => by
    have hc : ¬ (decide ((List.length p_39_0 : Int) < ((List.length (List.map b_sisi a0)) : Int))) = true := by
      rw [← hp0]; simp only [List.length_map, List.length_set, List.length_append, List.length_replicate, List.length_cons, List.length_nil, decide_eq_true_eq]; omega
    have st := ch b39_0 (h39_0 l0_0 a0 a1 (List.length p_39_0 : Int) v0_39_0) ⟨[(0, (.one (.bor l0_0 (List.map b_sisi a0)))), (1, (.one (.val (.int .i64 v0_39_0)))), (5, (.one (.val (.int .i64 (List.length p_39_0 : Int))))), (9, (.one (.val (.bool (decide ((List.length p_39_0 : Int) < ((List.length (List.map b_sisi a0)) : Int)))))))], []⟩ (.exit 0) 9 (by kernel_rfl) (.f (nt hc) (.h 8 (.b false) .nil))
    rw [show (⟨[(0, (.one (.bor l0_0 (List.map b_sisi a0)))), (1, (.one (.val (.int .i64 v0_39_0)))), (5, (.one (.val (.int .i64 (List.length p_39_0 : Int))))), (9, (.one (.val (.bool (decide ((List.length p_39_0 : Int) < ((List.length (List.map b_sisi a0)) : Int)))))))], []⟩ : St) = fin39_0 l0_0 a0 a1 (.k0 v0_39_0 (List.length p_39_0 : Int) (decide ((List.length p_39_0 : Int) < ((List.length (List.map b_sisi a0)) : Int)))) from by first | rfl | (unfold fin39_0; simp [byteRows_eq, ints_y, List.take_of_length_le, d_sisi, d_LsisiEi, d_i, d_b, d_s, d_iisiiii, d_iLsELiisiiiiELsisiEi, d_LsisiE, d_LsE, d_LiisiiiiE, d_y, fromBR_sisi, fromBR_i, fromBR_b, fromBR_s, fromBR_iisiiii, fromBR_y, ol23, ol10_0, ol24, ol25, ol11_0, ol11_1, ol11_2]; done)] at st
    exact .loopX st (show ((.exit 0) : VX.Exit) ≠ .normal from by simp)
  | x0_39_0 :: l0_39_0, p_39_0, v0_39_0, hp0 => by
    have hc : (decide ((List.length p_39_0 : Int) < ((List.length (List.map b_sisi a0)) : Int))) = true := by
      rw [← hp0]; simp only [List.length_map, List.length_set, List.length_append, List.length_replicate, List.length_cons, List.length_nil, decide_eq_true_eq]; omega
    have Hx0_39_0 : (a0)[Int.toNat (List.length p_39_0 : Int)]? = some x0_39_0 := by
      rw [← hp0, Int.toNat_natCast]; simp
    have hlen : List.length (a0) = List.length p_39_0 + List.length l0_39_0 + 1 := by rw [← hp0]; simp; omega
    have hw : IntKind.wrap .i64 ((List.length p_39_0 : Int) + 1) = (List.length p_39_0 : Int) + 1 := wrap64 (by omega)
    simp only [r39_0]
    have f1 : 0 ≤ (List.length p_39_0 : Int) := (by first | exact True.intro | with_reducible rfl | with_reducible assumption | omega | (simp only [decide_eq_true_eq] at *; omega) | (simp only [List.length_map, List.length_set, List.length_append, List.length_replicate, List.length_cons, List.length_nil]; omega) | (simp [ol23, ol10_0, ol24, ol25, ol11_0, ol11_1, ol11_2]; omega) | (simp [List.take_of_length_le, ol23, ol10_0, ol24, ol25, ol11_0, ol11_1, ol11_2]; done) | assumption | trivial | (simp [*, ol23, ol10_0, ol24, ol25, ol11_0, ol11_1, ol11_2, byteRows_eq, ints_y]; done))
    have P1 {hs q} (r : PS F X hs q) := (PS.f hc (.f f1 (.f (mp_ b_sisi Hx0_39_0) (.h 8 (.b true) (.h 14 (.row [(.val (.string x0_39_0.f0)), (.val (.int .i64 x0_39_0.f1)), (.val (.string x0_39_0.f2)), (.val (.int .i64 x0_39_0.f3))]) (.r 22 [] [] (e38 (a0 := v0_39_0)) r))))))
    by_cases h_39_0_1 : (!(x0_39_0.f0.toList == (m38 v0_39_0).toList)) = true
    · try simp only [if_pos h_39_0_1]
      have st := ch b39_0 (h39_0 l0_0 a0 a1 (List.length p_39_0 : Int) v0_39_0) ⟨[(4, (.one (.val (.int .i64 (-1)))))], []⟩ .ret 28 (by kernel_rfl) (P1 (.f h_39_0_1 (.h 25 (.b true) .nil)))
      rw [show (⟨[(4, (.one (.val (.int .i64 (-1)))))], []⟩ : St) = fin39_0 l0_0 a0 a1 (.k1) from by first | rfl | (unfold fin39_0; simp [byteRows_eq, ints_y, List.take_of_length_le, d_sisi, d_LsisiEi, d_i, d_b, d_s, d_iisiiii, d_iLsELiisiiiiELsisiEi, d_LsisiE, d_LsE, d_LiisiiiiE, d_y, fromBR_sisi, fromBR_i, fromBR_b, fromBR_s, fromBR_iisiiii, fromBR_y, ol23, ol10_0, ol24, ol25, ol11_0, ol11_1, ol11_2]; done)] at st
      exact .loopX st (show (.ret : VX.Exit) ≠ .normal from by simp)
    · try simp only [if_neg h_39_0_1]
      have P2 {hs q} (r : PS F X hs q) := (P1 (.f (nt h_39_0_1) (.f trivial (.f f1 (.f (mp_ b_sisi Hx0_39_0) (.h 25 (.b false) (.h 37 (.row [(.val (.string x0_39_0.f0)), (.val (.int .i64 x0_39_0.f1)), (.val (.string x0_39_0.f2)), (.val (.int .i64 x0_39_0.f3))]) r)))))))
      by_cases h_39_0_2 : (x0_39_0.f1 != (IntKind.wrap .i64 (v0_39_0 + 1))) = true
      · try simp only [if_pos h_39_0_2]
        have st := ch b39_0 (h39_0 l0_0 a0 a1 (List.length p_39_0 : Int) v0_39_0) ⟨[(4, (.one (.val (.int .i64 (-1)))))], []⟩ .ret 49 (by kernel_rfl) (P2 (.f h_39_0_2 (.h 46 (.b true) .nil)))
        rw [show (⟨[(4, (.one (.val (.int .i64 (-1)))))], []⟩ : St) = fin39_0 l0_0 a0 a1 (.k1) from by first | rfl | (unfold fin39_0; simp [byteRows_eq, ints_y, List.take_of_length_le, d_sisi, d_LsisiEi, d_i, d_b, d_s, d_iisiiii, d_iLsELiisiiiiELsisiEi, d_LsisiE, d_LsE, d_LiisiiiiE, d_y, fromBR_sisi, fromBR_i, fromBR_b, fromBR_s, fromBR_iisiiii, fromBR_y, ol23, ol10_0, ol24, ol25, ol11_0, ol11_1, ol11_2]; done)] at st
        exact .loopX st (show (.ret : VX.Exit) ≠ .normal from by simp)
      · try simp only [if_neg h_39_0_2]
        have P3 {hs q} (r : PS F X hs q) := (P2 (.f (nt h_39_0_2) (.f trivial (.f f1 (.f (mp_ b_sisi Hx0_39_0) (.h 46 (.b false) (.h 58 (.row [(.val (.string x0_39_0.f0)), (.val (.int .i64 x0_39_0.f1)), (.val (.string x0_39_0.f2)), (.val (.int .i64 x0_39_0.f3))]) (.r 66 [] [] (e38 (a0 := (IntKind.wrap .i64 ((IntKind.wrap .i64 (v0_39_0 + 1)) + 1)))) r))))))))
        by_cases h_39_0_3 : (!(x0_39_0.f2.toList == (m38 (IntKind.wrap .i64 ((IntKind.wrap .i64 (v0_39_0 + 1)) + 1))).toList)) = true
        · try simp only [if_pos h_39_0_3]
          have st := ch b39_0 (h39_0 l0_0 a0 a1 (List.length p_39_0 : Int) v0_39_0) ⟨[(4, (.one (.val (.int .i64 (-1)))))], []⟩ .ret 72 (by kernel_rfl) (P3 (.f h_39_0_3 (.h 69 (.b true) .nil)))
          rw [show (⟨[(4, (.one (.val (.int .i64 (-1)))))], []⟩ : St) = fin39_0 l0_0 a0 a1 (.k1) from by first | rfl | (unfold fin39_0; simp [byteRows_eq, ints_y, List.take_of_length_le, d_sisi, d_LsisiEi, d_i, d_b, d_s, d_iisiiii, d_iLsELiisiiiiELsisiEi, d_LsisiE, d_LsE, d_LiisiiiiE, d_y, fromBR_sisi, fromBR_i, fromBR_b, fromBR_s, fromBR_iisiiii, fromBR_y, ol23, ol10_0, ol24, ol25, ol11_0, ol11_1, ol11_2]; done)] at st
          exact .loopX st (show (.ret : VX.Exit) ≠ .normal from by simp)
        · try simp only [if_neg h_39_0_3]
          have P4 {hs q} (r : PS F X hs q) := (P3 (.f (nt h_39_0_3) (.f trivial (.f f1 (.f (mp_ b_sisi Hx0_39_0) (.h 69 (.b false) (.h 81 (.row [(.val (.string x0_39_0.f0)), (.val (.int .i64 x0_39_0.f1)), (.val (.string x0_39_0.f2)), (.val (.int .i64 x0_39_0.f3))]) r)))))))
          by_cases h_39_0_4 : (x0_39_0.f3 != (IntKind.wrap .i64 ((IntKind.wrap .i64 ((IntKind.wrap .i64 (v0_39_0 + 1)) + 1)) + 1))) = true
          · try simp only [if_pos h_39_0_4]
            have st := ch b39_0 (h39_0 l0_0 a0 a1 (List.length p_39_0 : Int) v0_39_0) ⟨[(4, (.one (.val (.int .i64 (-1)))))], []⟩ .ret 93 (by kernel_rfl) (P4 (.f h_39_0_4 (.h 90 (.b true) .nil)))
            rw [show (⟨[(4, (.one (.val (.int .i64 (-1)))))], []⟩ : St) = fin39_0 l0_0 a0 a1 (.k1) from by first | rfl | (unfold fin39_0; simp [byteRows_eq, ints_y, List.take_of_length_le, d_sisi, d_LsisiEi, d_i, d_b, d_s, d_iisiiii, d_iLsELiisiiiiELsisiEi, d_LsisiE, d_LsE, d_LiisiiiiE, d_y, fromBR_sisi, fromBR_i, fromBR_b, fromBR_s, fromBR_iisiiii, fromBR_y, ol23, ol10_0, ol24, ol25, ol11_0, ol11_1, ol11_2]; done)] at st
            exact .loopX st (show (.ret : VX.Exit) ≠ .normal from by simp)
          · try simp only [if_neg h_39_0_4]
            have st := ch b39_0 (h39_0 l0_0 a0 a1 (List.length p_39_0 : Int) v0_39_0) ⟨[(0, (.one (.bor l0_0 (List.map b_sisi a0)))), (1, (.one (.val (.int .i64 (IntKind.wrap .i64 ((IntKind.wrap .i64 ((IntKind.wrap .i64 ((IntKind.wrap .i64 (v0_39_0 + 1)) + 1)) + 1)) + 1)))))), (5, (.one (.val (.int .i64 (IntKind.wrap .i64 ((List.length p_39_0 : Int) + 1))))))], []⟩ .normal 103 (by kernel_rfl) (P4 (.f (nt h_39_0_4) (.f trivial (.f trivial (.h 90 (.b false) .nil)))))
            have ih := t39_0 (l0_0 := l0_0) (a0 := a0) (a1 := a1) hy0 l0_39_0 (p_39_0 ++ [x0_39_0]) (IntKind.wrap .i64 ((IntKind.wrap .i64 ((IntKind.wrap .i64 ((IntKind.wrap .i64 (v0_39_0 + 1)) + 1)) + 1)) + 1)) (by rw [List.append_assoc]; exact hp0)
            rw [show ((p_39_0 ++ [x0_39_0]).length : Int) = (p_39_0.length : Int) + 1 from by simp] at ih
            rw [show (⟨[(0, (.one (.bor l0_0 (List.map b_sisi a0)))), (1, (.one (.val (.int .i64 (IntKind.wrap .i64 ((IntKind.wrap .i64 ((IntKind.wrap .i64 ((IntKind.wrap .i64 (v0_39_0 + 1)) + 1)) + 1)) + 1)))))), (5, (.one (.val (.int .i64 (IntKind.wrap .i64 ((List.length p_39_0 : Int) + 1))))))], []⟩ : St) = h39_0 l0_0 a0 a1 ((List.length p_39_0 : Int) + 1) (IntKind.wrap .i64 ((IntKind.wrap .i64 ((IntKind.wrap .i64 ((IntKind.wrap .i64 (v0_39_0 + 1)) + 1)) + 1)) + 1)) from by first | (unfold h39_0; simp only [hw]; done) | (unfold h39_0; simp only [hw, List.length_map, List.length_set, List.length_append, List.length_replicate, List.length_cons, List.length_nil]; done) | (unfold h39_0; simp [hw, byteRows_eq, ints_y, List.take_of_length_le, d_sisi, d_LsisiEi, d_i, d_b, d_s, d_iisiiii, d_iLsELiisiiiiELsisiEi, d_LsisiE, d_LsE, d_LiisiiiiE, d_y, fromBR_sisi, fromBR_i, fromBR_b, fromBR_s, fromBR_iisiiii, fromBR_y, ol23, ol10_0, ol24, ol25, ol11_0, ol11_1, ol11_2]; done)] at st
            exact .loopN st ih
/-! loop.example/g00539/laws.heldSessionS -/
def m39 (a0 : (List K_sisi)) (a1 : Int) : Int :=
  (match r39_0 a0 a0 0 a1 with | .k0 w0_39_0_0 w1_39_0_0 w2_39_0_0 => w0_39_0_0 | .k1 => (-1))
theorem e39 {l0_0 : Nat} {a0 : (List K_sisi)} {a1 : Int} (hy0 : List.length a0 * 48 ≤ 140737488351232) : Ev F X (.call 39 [(.one (.bor l0_0 (List.map b_sisi a0))), (.one (.val (.int .i64 a1)))] [] [] [(.one (.val (.int .i64 (m39 a0 a1))))]) := by
  unfold m39
  cases h0 : r39_0 a0 a0 0 a1 with
  | k0 w0_39_0_0 w1_39_0_0 w2_39_0_0 =>
    try dsimp only
    have f0 : (⟨[(0, (.one (.bor l0_0 (List.map b_sisi a0)))), (1, (.one (.val (.int .i64 a1)))), (5, (.one (.val (.int .i64 0))))], []⟩ : St) = h39_0 l0_0 a0 a1 0 a1 := (by first | rfl | (unfold h39_0; simp [byteRows_eq, ints_y, List.take_of_length_le, d_sisi, d_LsisiEi, d_i, d_b, d_s, d_iisiiii, d_iLsELiisiiiiELsisiEi, d_LsisiE, d_LsE, d_LiisiiiiE, d_y, fromBR_sisi, fromBR_i, fromBR_b, fromBR_s, fromBR_iisiiii, fromBR_y, ol23, ol10_0, ol24, ol25, ol11_0, ol11_1, ol11_2]; done))
    exact cp (by kernel_rfl) (.f f0 (.f (ev_ (e := ex39_0) (g := (fin39_0 l0_0 a0 a1)) h0 (t39_0 (l0_0 := l0_0) (a0 := a0) (a1 := a1) (by first | assumption | omega) a0 [] a1 rfl)) (.h 4 (.loop (h39_0 l0_0 a0 a1 0 a1) (.exit 0) ⟨[(0, (.one (.bor l0_0 (List.map b_sisi a0)))), (1, (.one (.val (.int .i64 w0_39_0_0)))), (5, (.one (.val (.int .i64 w1_39_0_0)))), (9, (.one (.val (.bool w2_39_0_0))))], []⟩) .nil)))
  | k1 =>
    try dsimp only
    have f0 : (⟨[(0, (.one (.bor l0_0 (List.map b_sisi a0)))), (1, (.one (.val (.int .i64 a1)))), (5, (.one (.val (.int .i64 0))))], []⟩ : St) = h39_0 l0_0 a0 a1 0 a1 := (by first | rfl | (unfold h39_0; simp [byteRows_eq, ints_y, List.take_of_length_le, d_sisi, d_LsisiEi, d_i, d_b, d_s, d_iisiiii, d_iLsELiisiiiiELsisiEi, d_LsisiE, d_LsE, d_LiisiiiiE, d_y, fromBR_sisi, fromBR_i, fromBR_b, fromBR_s, fromBR_iisiiii, fromBR_y, ol23, ol10_0, ol24, ol25, ol11_0, ol11_1, ol11_2]; done))
    exact cp (by kernel_rfl) (.f f0 (.f (ev_ (e := ex39_0) (g := (fin39_0 l0_0 a0 a1)) h0 (t39_0 (l0_0 := l0_0) (a0 := a0) (a1 := a1) (by first | assumption | omega) a0 [] a1 rfl)) (.h 4 (.loop (h39_0 l0_0 a0 a1 0 a1) .ret ⟨[(4, (.one (.val (.int .i64 (-1)))))], []⟩) .nil)))
/-! loop.example/g00539/laws.heldServer -/
def m28 (a0 : K_LsisiEi) (a1 : Int) : Int :=
  if (decide ((m39 a0.f0 a1) < 0)) = true then (-1) else
  (m39 a0.f0 a1)
theorem e28 {l0_0 : Nat} {a0 : K_LsisiEi} {a1 : Int} (hy0 : List.length a0.f0 * 48 ≤ 140737488351232) : Ev F X (.call 28 [(.agg [(.bor l0_0 (List.map b_sisi a0.f0)), (.val (.int .i64 a0.f1))]), (.one (.val (.int .i64 a1)))] [] [] [(.one (.val (.int .i64 (m28 a0 a1))))]) := by
  unfold m28
  have P0 {hs q} (r : PS F X hs q) := (PS.r 11 [] [] (e39 (l0_0 := (l0_0 + 1)) (a0 := a0.f0) (a1 := a1) (by first | with_reducible assumption | omega | assumption | (simp only [List.length_map]; omega) | (simp [ol23, ol10_0, ol24, ol25, ol11_0, ol11_1, ol11_2]; omega))) r)
  by_cases h0 : (decide ((m39 a0.f0 a1) < 0)) = true
  · try simp only [if_pos h0]
    exact cp (by kernel_rfl) (P0 (.f h0 (.h 18 (.b true) .nil)))
  · try simp only [if_neg h0]
    exact cp (by kernel_rfl) (P0 (.f (nt h0) (.h 18 (.b false) .nil)))
/-! loop.example/g00539/laws.heldServerResult -/
def m12 (a0 : K_iLsELiisiiiiELsisiEi) (a1 : Int) : Int :=
  if (decide ((m26 a0.f1 a1) < 0)) = true then (-1) else
  if (decide ((m27 a0.f2 (m26 a0.f1 a1)) < 0)) = true then (-1) else
    if (decide ((m28 (K_LsisiEi.mk a0.f3 a0.f4) (m27 a0.f2 (m26 a0.f1 a1))) < 0)) = true then (-1) else
      (m28 (K_LsisiEi.mk a0.f3 a0.f4) (m27 a0.f2 (m26 a0.f1 a1)))
theorem e12 {l0_1 : Nat} {l0_2 : Nat} {l0_3 : Nat} {a0 : K_iLsELiisiiiiELsisiEi} {a1 : Int} (hy0 : List.length a0.f1 * 16 ≤ 140737488351232) (hy1 : List.length a0.f2 * 64 ≤ 140737488351232) (hy2 : List.length a0.f3 * 48 ≤ 140737488351232) : Ev F X (.call 12 [(.agg [(.val (.int .i64 a0.f0)), (.bor l0_1 (List.map b_s a0.f1)), (.bor l0_2 (List.map b_iisiiii a0.f2)), (.bor l0_3 (List.map b_sisi a0.f3)), (.val (.int .i64 a0.f4))]), (.one (.val (.int .i64 a1)))] [] [] [(.one (.val (.int .i64 (m12 a0 a1))))]) := by
  unfold m12
  have P0 {hs q} (r : PS F X hs q) := (PS.r 11 [] [] (e26 (l0_0 := (l0_1 + 1)) (a0 := a0.f1) (a1 := a1) (by first | with_reducible assumption | omega | assumption | (simp only [List.length_map]; omega) | (simp [ol23, ol10_0, ol24, ol25, ol11_0, ol11_1, ol11_2]; omega))) r)
  by_cases h0 : (decide ((m26 a0.f1 a1) < 0)) = true
  · try simp only [if_pos h0]
    exact cp (by kernel_rfl) (P0 (.f h0 (.h 18 (.b true) .nil)))
  · try simp only [if_neg h0]
    have P1 {hs q} (r : PS F X hs q) := (P0 (.f (nt h0) (.h 18 (.b false) (.r 26 [] [] (e27 (l0_0 := (l0_2 + 1)) (a0 := a0.f2) (a1 := (m26 a0.f1 a1)) (by first | with_reducible assumption | omega | assumption | (simp only [List.length_map]; omega) | (simp [ol23, ol10_0, ol24, ol25, ol11_0, ol11_1, ol11_2]; omega))) r))))
    by_cases h1 : (decide ((m27 a0.f2 (m26 a0.f1 a1)) < 0)) = true
    · try simp only [if_pos h1]
      exact cp (by kernel_rfl) (P1 (.f h1 (.h 33 (.b true) .nil)))
    · try simp only [if_neg h1]
      have P2 {hs q} (r : PS F X hs q) := (P1 (.f (nt h1) (.h 33 (.b false) (.r 41 [] [] (e28 (l0_0 := (l0_3 + 1)) (a0 := (K_LsisiEi.mk a0.f3 a0.f4)) (a1 := (m27 a0.f2 (m26 a0.f1 a1))) (by first | with_reducible assumption | omega | assumption | (simp only [List.length_map]; omega) | (simp [ol23, ol10_0, ol24, ol25, ol11_0, ol11_1, ol11_2]; omega))) r))))
      by_cases h2 : (decide ((m28 (K_LsisiEi.mk a0.f3 a0.f4) (m27 a0.f2 (m26 a0.f1 a1))) < 0)) = true
      · try simp only [if_pos h2]
        exact cp (by kernel_rfl) (P2 (.f h2 (.h 48 (.b true) .nil)))
      · try simp only [if_neg h2]
        exact cp (by kernel_rfl) (P2 (.f (nt h2) (.h 48 (.b false) .nil)))
/-! loop.example/g00539/laws.FnExactCloseSession -/
def m3 (a0 : K_LsisiEi) (a1 : Int) : Bool :=
  if (decide ((m4 a0 1048576) < 0)) = true then true else
  if (!(m8 (m7 a0 a1) (m5 a0 a1))) = true then false else
    if (!(m9 a0 a0)) = true then false else
      if (decide ((m10 a0 1) < 0)) = true then false else
        if (decide ((m12 (K_iLsELiisiiiiELsisiEi.mk ((m7 a0 a1).f0) (o11_2 (m7 a0 a1) 1) (o11_1 (m7 a0 a1) 1) (o11_0 (m7 a0 a1) 1) ((m7 a0 a1).f4)) 1) < 0)) = true then false else
          if ((m12 (K_iLsELiisiiiiELsisiEi.mk ((m7 a0 a1).f0) (o11_2 (m7 a0 a1) 1) (o11_1 (m7 a0 a1) 1) (o11_0 (m7 a0 a1) 1) ((m7 a0 a1).f4)) 1) != (m11 (m7 a0 a1) 1)) = true then false else
            true
set_option maxHeartbeats 8000000 in
theorem e3 {l0_0 : Nat} {a0 : K_LsisiEi} {a1 : Int} (hy0 : List.length a0.f0 * 48 ≤ 140737488351232) (hy1 : ∀ z ∈ a0.f0, os_sisi z) : Ev F X (.call 3 [(.agg [(.bor l0_0 (List.map b_sisi a0.f0)), (.val (.int .i64 a0.f1))]), (.one (.val (.int .i64 a1)))] [] [] [(.one (.val (.bool (m3 a0 a1))))]) := by
  unfold m3
  have P0 {hs q} (r : PS F X hs q) := (PS.r 11 [] [] (e4 (l0_0 := (l0_0 + 1)) (a0 := a0) (a1 := 1048576) (by first | with_reducible assumption | omega | assumption | (simp only [List.length_map]; omega) | (simp [ol23, ol10_0, ol24, ol25, ol11_0, ol11_1, ol11_2]; omega))) r)
  by_cases h0 : (decide ((m4 a0 1048576) < 0)) = true
  · try simp only [if_pos h0]
    exact cp (by kernel_rfl) (P0 (.f h0 (.h 18 (.b true) .nil)))
  · try simp only [if_neg h0]
    have f2 := (e6 (l0_0 := (l0_0 + 1)) (a0 := a0) (by first | with_reducible assumption | omega | assumption | (simp only [List.length_map]; omega) | (simp [ol23, ol10_0, ol24, ol25, ol11_0, ol11_1, ol11_2]; omega)))
    have P1 {hs q} (r : PS F X hs q) := (P0 (.f (nt h0) (.h 18 (.b false) (.r 22 [] [] f2 (ln_sisi a0.f0 (.r 26 [] [(List.map b_sisi a0.f0)] (e5 (l0_0 := 0) (a0 := a0) (a1 := a1) (by first | with_reducible assumption | omega | assumption | (simp only [List.length_map]; omega) | (simp [ol23, ol10_0, ol24, ol25, ol11_0, ol11_1, ol11_2]; omega)) (by first | exact True.intro | with_reducible rfl | with_reducible assumption | omega | (simp only [List.length_map, List.length_set, List.length_append, List.length_replicate, List.length_cons, List.length_nil]; omega) | (simp [ol23, ol10_0, ol24, ol25, ol11_0, ol11_1, ol11_2]; done) | (simp [ol23, ol10_0, ol24, ol25, ol11_0, ol11_1, ol11_2]; omega) | (simp [List.take_of_length_le, ol23, ol10_0, ol24, ol25, ol11_0, ol11_1, ol11_2]; done) | (simp [← List.map_take, ← List.map_drop, ol23, ol10_0, ol24, ol25, ol11_0, ol11_1, ol11_2]; done) | assumption | trivial | (simp [*, ol23, ol10_0, ol24, ol25, ol11_0, ol11_1, ol11_2, byteRows_eq, ints_y]; done))) (pe 0 (pe (List.length (List.map d_s ((m5 a0 a1).f1))) (pe 0 (pe (List.length (List.map d_iisiiii ((m5 a0 a1).f2))) (pe 0 (pe (List.length (List.map d_sisi ((m5 a0 a1).f3))) (.r 34 [] [] f2 (pe 0 (pe (List.length (List.map d_sisi a0.f0)) (ln_sisi a0.f0 (.r 44 [] [(List.map b_sisi a0.f0)] (e7 (l0_0 := 0) (a0 := a0) (a1 := a1) (by first | with_reducible assumption | omega | assumption | (simp only [List.length_map]; omega) | (simp [ol23, ol10_0, ol24, ol25, ol11_0, ol11_1, ol11_2]; omega))) (pe 0 (pe (List.length (List.map d_s ((m7 a0 a1).f1))) (pe 0 (pe (List.length (List.map d_iisiiii ((m7 a0 a1).f2))) (pe 0 (pe (List.length (List.map d_sisi ((m7 a0 a1).f3))) (ln_s ((m7 a0 a1).f1) (ln_iisiiii ((m7 a0 a1).f2) (ln_sisi ((m7 a0 a1).f3) (ln_s ((m5 a0 a1).f1) (ln_iisiiii ((m5 a0 a1).f2) (ln_sisi ((m5 a0 a1).f3) (.r 54 [] [(List.map b_s ((m7 a0 a1).f1)), (List.map b_iisiiii ((m7 a0 a1).f2)), (List.map b_sisi ((m7 a0 a1).f3)), (List.map b_s ((m5 a0 a1).f1)), (List.map b_iisiiii ((m5 a0 a1).f2)), (List.map b_sisi ((m5 a0 a1).f3))] (e8 (l0_1 := 0) (l0_2 := 0) (l0_3 := 0) (l1_1 := 0) (l1_2 := 0) (l1_3 := 0) (a0 := (m7 a0 a1)) (a1 := (m5 a0 a1)) (by first | with_reducible assumption | omega | (have q := okm7 a0 a1; exact q.1) | (have q := okm7 a0 a1; exact q.2.1) | (have q := okm7 a0 a1; exact q.2.2) | (unfold m7; (repeat' split) <;> simp_all <;> omega) | assumption | (simp only [List.length_map]; omega) | (simp [ol23, ol10_0, ol24, ol25, ol11_0, ol11_1, ol11_2]; omega)) (by first | with_reducible assumption | omega | (have q := okm7 a0 a1; exact q.1) | (have q := okm7 a0 a1; exact q.2.1) | (have q := okm7 a0 a1; exact q.2.2) | (unfold m7; (repeat' split) <;> simp_all <;> omega) | assumption | (simp only [List.length_map]; omega) | (simp [ol23, ol10_0, ol24, ol25, ol11_0, ol11_1, ol11_2]; omega)) (by first | with_reducible assumption | omega | (have q := okm7 a0 a1; exact q.1) | (have q := okm7 a0 a1; exact q.2.1) | (have q := okm7 a0 a1; exact q.2.2) | (unfold m7; (repeat' split) <;> simp_all <;> omega) | assumption | (simp only [List.length_map]; omega) | (simp [ol23, ol10_0, ol24, ol25, ol11_0, ol11_1, ol11_2]; omega)) (by first | with_reducible assumption | omega | (have q := okm5 a0 a1; exact q.1) | (have q := okm5 a0 a1; exact q.2.1) | (have q := okm5 a0 a1; exact q.2.2) | (unfold m5; (repeat' split) <;> simp_all <;> omega) | assumption | (simp only [List.length_map]; omega) | (simp [ol23, ol10_0, ol24, ol25, ol11_0, ol11_1, ol11_2]; omega)) (by first | with_reducible assumption | omega | (have q := okm5 a0 a1; exact q.1) | (have q := okm5 a0 a1; exact q.2.1) | (have q := okm5 a0 a1; exact q.2.2) | (unfold m5; (repeat' split) <;> simp_all <;> omega) | assumption | (simp only [List.length_map]; omega) | (simp [ol23, ol10_0, ol24, ol25, ol11_0, ol11_1, ol11_2]; omega)) (by first | with_reducible assumption | omega | (have q := okm5 a0 a1; exact q.1) | (have q := okm5 a0 a1; exact q.2.1) | (have q := okm5 a0 a1; exact q.2.2) | (unfold m5; (repeat' split) <;> simp_all <;> omega) | assumption | (simp only [List.length_map]; omega) | (simp [ol23, ol10_0, ol24, ol25, ol11_0, ol11_1, ol11_2]; omega))) r))))))))))))))))))))))))))))))
    by_cases h1 : (!(m8 (m7 a0 a1) (m5 a0 a1))) = true
    · try simp only [if_pos h1]
      exact cp (by kernel_rfl) (P1 (.f h1 (.h 57 (.b true) .nil)))
    · try simp only [if_neg h1]
      have P2 {hs q} (r : PS F X hs q) := (P1 (.f (nt h1) (.h 57 (.b false) (.r 63 [] [] f2 (ln_sisi a0.f0 (ln_sisi a0.f0 (.r 65 [] [(List.map b_sisi a0.f0), (List.map b_sisi a0.f0)] (e9 (l0_0 := 0) (l1_0 := 0) (a0 := a0) (a1 := a0) (by first | with_reducible assumption | omega | assumption | (simp only [List.length_map]; omega) | (simp [ol23, ol10_0, ol24, ol25, ol11_0, ol11_1, ol11_2]; omega)) (by first | with_reducible assumption | omega | assumption | (simp only [List.length_map]; omega) | (simp [ol23, ol10_0, ol24, ol25, ol11_0, ol11_1, ol11_2]; omega))) r)))))))
      by_cases h2 : (!(m9 a0 a0)) = true
      · try simp only [if_pos h2]
        exact cp (by kernel_rfl) (P2 (.f h2 (.h 68 (.b true) .nil)))
      · try simp only [if_neg h2]
        have P3 {hs q} (r : PS F X hs q) := (P2 (.f (nt h2) (.f (pureR_sisi a0.f0) (.h 68 (.b false) (.r 76 [true] [] (e10 (a0 := a0) (a1 := 1) (by first | with_reducible assumption | omega | assumption | (simp only [List.length_map]; omega) | (simp [ol23, ol10_0, ol24, ol25, ol11_0, ol11_1, ol11_2]; omega))) r)))))
        by_cases h3 : (decide ((m10 a0 1) < 0)) = true
        · try simp only [if_pos h3]
          exact cp (by kernel_rfl) (P3 (.f h3 (.f h3 (.f h3 (.f h3 (.f h3 (.h 85 (.b true) (.h 87 (.b true) (.h 89 (.b true) (.h 91 (.b true) (.h 94 (.b true) .nil)))))))))))
        · try simp only [if_neg h3]
          have P4 {hs q} (r : PS F X hs q) := (P3 (.f (nt h3) (.f (nt h3) (.f (nt h3) (ln_s ((m7 a0 a1).f1) (ln_iisiiii ((m7 a0 a1).f2) (ln_sisi ((m7 a0 a1).f3) (ln_s ((m5 a0 a1).f1) (ln_iisiiii ((m5 a0 a1).f2) (ln_sisi ((m5 a0 a1).f3) (.h 85 (.b false) (.h 87 (.b false) (.h 89 (.b false) (.r 90 [] [(List.map b_s ((m7 a0 a1).f1)), (List.map b_iisiiii ((m7 a0 a1).f2)), (List.map b_sisi ((m7 a0 a1).f3)), (List.map b_s ((m5 a0 a1).f1)), (List.map b_iisiiii ((m5 a0 a1).f2)), (List.map b_sisi ((m5 a0 a1).f3))] (e8 (l0_1 := 0) (l0_2 := 0) (l0_3 := 0) (l1_1 := 0) (l1_2 := 0) (l1_3 := 0) (a0 := (m7 a0 a1)) (a1 := (m5 a0 a1)) (by first | with_reducible assumption | omega | (have q := okm7 a0 a1; exact q.1) | (have q := okm7 a0 a1; exact q.2.1) | (have q := okm7 a0 a1; exact q.2.2) | (unfold m7; (repeat' split) <;> simp_all <;> omega) | assumption | (simp only [List.length_map]; omega) | (simp [ol23, ol10_0, ol24, ol25, ol11_0, ol11_1, ol11_2]; omega)) (by first | with_reducible assumption | omega | (have q := okm7 a0 a1; exact q.1) | (have q := okm7 a0 a1; exact q.2.1) | (have q := okm7 a0 a1; exact q.2.2) | (unfold m7; (repeat' split) <;> simp_all <;> omega) | assumption | (simp only [List.length_map]; omega) | (simp [ol23, ol10_0, ol24, ol25, ol11_0, ol11_1, ol11_2]; omega)) (by first | with_reducible assumption | omega | (have q := okm7 a0 a1; exact q.1) | (have q := okm7 a0 a1; exact q.2.1) | (have q := okm7 a0 a1; exact q.2.2) | (unfold m7; (repeat' split) <;> simp_all <;> omega) | assumption | (simp only [List.length_map]; omega) | (simp [ol23, ol10_0, ol24, ol25, ol11_0, ol11_1, ol11_2]; omega)) (by first | with_reducible assumption | omega | (have q := okm5 a0 a1; exact q.1) | (have q := okm5 a0 a1; exact q.2.1) | (have q := okm5 a0 a1; exact q.2.2) | (unfold m5; (repeat' split) <;> simp_all <;> omega) | assumption | (simp only [List.length_map]; omega) | (simp [ol23, ol10_0, ol24, ol25, ol11_0, ol11_1, ol11_2]; omega)) (by first | with_reducible assumption | omega | (have q := okm5 a0 a1; exact q.1) | (have q := okm5 a0 a1; exact q.2.1) | (have q := okm5 a0 a1; exact q.2.2) | (unfold m5; (repeat' split) <;> simp_all <;> omega) | assumption | (simp only [List.length_map]; omega) | (simp [ol23, ol10_0, ol24, ol25, ol11_0, ol11_1, ol11_2]; omega)) (by first | with_reducible assumption | omega | (have q := okm5 a0 a1; exact q.1) | (have q := okm5 a0 a1; exact q.2.1) | (have q := okm5 a0 a1; exact q.2.2) | (unfold m5; (repeat' split) <;> simp_all <;> omega) | assumption | (simp only [List.length_map]; omega) | (simp [ol23, ol10_0, ol24, ol25, ol11_0, ol11_1, ol11_2]; omega))) (.f (nt h3) (.f (nt h3) (.f (nt h1) (.f (pureR_s ((m7 a0 a1).f1)) (.f (pureR_iisiiii ((m7 a0 a1).f2)) (.f (pureR_sisi ((m7 a0 a1).f3)) (.h 91 (.b false) (.h 94 (.b false) (.h 95 (.b false) (.r 103 [true, true, true] [] (e11 (a0 := (m7 a0 a1)) (a1 := 1) (by first | with_reducible assumption | omega | (have q := okm7 a0 a1; exact q.1) | (have q := okm7 a0 a1; exact q.2.1) | (have q := okm7 a0 a1; exact q.2.2) | (unfold m7; (repeat' split) <;> simp_all <;> omega) | assumption | (simp only [List.length_map]; omega) | (simp [ol23, ol10_0, ol24, ol25, ol11_0, ol11_1, ol11_2]; omega)) (by first | with_reducible assumption | omega | (have q := okm7 a0 a1; exact q.1) | (have q := okm7 a0 a1; exact q.2.1) | (have q := okm7 a0 a1; exact q.2.2) | (unfold m7; (repeat' split) <;> simp_all <;> omega) | assumption | (simp only [List.length_map]; omega) | (simp [ol23, ol10_0, ol24, ol25, ol11_0, ol11_1, ol11_2]; omega)) (by first | with_reducible assumption | omega | (have q := okm7 a0 a1; exact q.1) | (have q := okm7 a0 a1; exact q.2.1) | (have q := okm7 a0 a1; exact q.2.2) | (unfold m7; (repeat' split) <;> simp_all <;> omega) | assumption | (simp only [List.length_map]; omega) | (simp [ol23, ol10_0, ol24, ol25, ol11_0, ol11_1, ol11_2]; omega))) (ln_s (o11_2 (m7 a0 a1) 1) (ln_iisiiii (o11_1 (m7 a0 a1) 1) (ln_sisi (o11_0 (m7 a0 a1) 1) (.r 113 [] [(List.map b_s (o11_2 (m7 a0 a1) 1)), (List.map b_iisiiii (o11_1 (m7 a0 a1) 1)), (List.map b_sisi (o11_0 (m7 a0 a1) 1))] (e12 (l0_1 := 0) (l0_2 := 0) (l0_3 := 0) (a0 := (K_iLsELiisiiiiELsisiEi.mk ((m7 a0 a1).f0) (o11_2 (m7 a0 a1) 1) (o11_1 (m7 a0 a1) 1) (o11_0 (m7 a0 a1) 1) ((m7 a0 a1).f4))) (a1 := 1) (by first | with_reducible assumption | omega | (have q := okm7 a0 a1; exact q.1) | (have q := okm7 a0 a1; rw [ol11_2]; exact q.1) | (have q := okm7 a0 a1; exact q.2.1) | (have q := okm7 a0 a1; rw [ol11_2]; exact q.2.1) | (have q := okm7 a0 a1; exact q.2.2) | (have q := okm7 a0 a1; rw [ol11_2]; exact q.2.2) | (unfold m7; (repeat' split) <;> simp_all <;> omega) | assumption | (simp only [List.length_map]; omega) | (simp [ol23, ol10_0, ol24, ol25, ol11_0, ol11_1, ol11_2]; omega)) (by first | with_reducible assumption | omega | (have q := okm7 a0 a1; exact q.1) | (have q := okm7 a0 a1; rw [ol11_1]; exact q.1) | (have q := okm7 a0 a1; exact q.2.1) | (have q := okm7 a0 a1; rw [ol11_1]; exact q.2.1) | (have q := okm7 a0 a1; exact q.2.2) | (have q := okm7 a0 a1; rw [ol11_1]; exact q.2.2) | (unfold m7; (repeat' split) <;> simp_all <;> omega) | assumption | (simp only [List.length_map]; omega) | (simp [ol23, ol10_0, ol24, ol25, ol11_0, ol11_1, ol11_2]; omega)) (by first | with_reducible assumption | omega | (have q := okm7 a0 a1; exact q.1) | (have q := okm7 a0 a1; rw [ol11_0]; exact q.1) | (have q := okm7 a0 a1; exact q.2.1) | (have q := okm7 a0 a1; rw [ol11_0]; exact q.2.1) | (have q := okm7 a0 a1; exact q.2.2) | (have q := okm7 a0 a1; rw [ol11_0]; exact q.2.2) | (unfold m7; (repeat' split) <;> simp_all <;> omega) | assumption | (simp only [List.length_map]; omega) | (simp [ol23, ol10_0, ol24, ol25, ol11_0, ol11_1, ol11_2]; omega))) r))))))))))))))))))))))))))))
          by_cases h4 : (decide ((m12 (K_iLsELiisiiiiELsisiEi.mk ((m7 a0 a1).f0) (o11_2 (m7 a0 a1) 1) (o11_1 (m7 a0 a1) 1) (o11_0 (m7 a0 a1) 1) ((m7 a0 a1).f4)) 1) < 0)) = true
          · try simp only [if_pos h4]
            exact cp (by kernel_rfl) (P4 (.f h4 (.h 120 (.b true) .nil)))
          · try simp only [if_neg h4]
            by_cases h5 : ((m12 (K_iLsELiisiiiiELsisiEi.mk ((m7 a0 a1).f0) (o11_2 (m7 a0 a1) 1) (o11_1 (m7 a0 a1) 1) (o11_0 (m7 a0 a1) 1) ((m7 a0 a1).f4)) 1) != (m11 (m7 a0 a1) 1)) = true
            · try simp only [if_pos h5]
              exact cp (by kernel_rfl) (P4 (.f (nt h4) (.f h5 (.h 120 (.b false) (.h 127 (.b true) .nil)))))
            · try simp only [if_neg h5]
              exact cp (by kernel_rfl) (P4 (.f (nt h4) (.f (nt h5) (.h 120 (.b false) (.h 127 (.b false) (.r 131 [] [] f2 (ln_sisi a0.f0 (.r 135 [] [(List.map b_sisi a0.f0)] (e7 (l0_0 := 0) (a0 := a0) (a1 := a1) (by first | with_reducible assumption | omega | assumption | (simp only [List.length_map]; omega) | (simp [ol23, ol10_0, ol24, ol25, ol11_0, ol11_1, ol11_2]; omega))) (pe 0 (pe (List.length (List.map d_s ((m7 a0 a1).f1))) (pe 0 (pe (List.length (List.map d_iisiiii ((m7 a0 a1).f2))) (pe 0 (pe (List.length (List.map d_sisi ((m7 a0 a1).f3))) (ln_s ((m7 a0 a1).f1) (ln_iisiiii ((m7 a0 a1).f2) (ln_sisi ((m7 a0 a1).f3) (ln_s ((m5 a0 a1).f1) (ln_iisiiii ((m5 a0 a1).f2) (ln_sisi ((m5 a0 a1).f3) (.r 145 [] [(List.map b_s ((m7 a0 a1).f1)), (List.map b_iisiiii ((m7 a0 a1).f2)), (List.map b_sisi ((m7 a0 a1).f3)), (List.map b_s ((m5 a0 a1).f1)), (List.map b_iisiiii ((m5 a0 a1).f2)), (List.map b_sisi ((m5 a0 a1).f3))] (e8 (l0_1 := 0) (l0_2 := 0) (l0_3 := 0) (l1_1 := 0) (l1_2 := 0) (l1_3 := 0) (a0 := (m7 a0 a1)) (a1 := (m5 a0 a1)) (by first | with_reducible assumption | omega | (have q := okm7 a0 a1; exact q.1) | (have q := okm7 a0 a1; exact q.2.1) | (have q := okm7 a0 a1; exact q.2.2) | (unfold m7; (repeat' split) <;> simp_all <;> omega) | assumption | (simp only [List.length_map]; omega) | (simp [ol23, ol10_0, ol24, ol25, ol11_0, ol11_1, ol11_2]; omega)) (by first | with_reducible assumption | omega | (have q := okm7 a0 a1; exact q.1) | (have q := okm7 a0 a1; exact q.2.1) | (have q := okm7 a0 a1; exact q.2.2) | (unfold m7; (repeat' split) <;> simp_all <;> omega) | assumption | (simp only [List.length_map]; omega) | (simp [ol23, ol10_0, ol24, ol25, ol11_0, ol11_1, ol11_2]; omega)) (by first | with_reducible assumption | omega | (have q := okm7 a0 a1; exact q.1) | (have q := okm7 a0 a1; exact q.2.1) | (have q := okm7 a0 a1; exact q.2.2) | (unfold m7; (repeat' split) <;> simp_all <;> omega) | assumption | (simp only [List.length_map]; omega) | (simp [ol23, ol10_0, ol24, ol25, ol11_0, ol11_1, ol11_2]; omega)) (by first | with_reducible assumption | omega | (have q := okm5 a0 a1; exact q.1) | (have q := okm5 a0 a1; exact q.2.1) | (have q := okm5 a0 a1; exact q.2.2) | (unfold m5; (repeat' split) <;> simp_all <;> omega) | assumption | (simp only [List.length_map]; omega) | (simp [ol23, ol10_0, ol24, ol25, ol11_0, ol11_1, ol11_2]; omega)) (by first | with_reducible assumption | omega | (have q := okm5 a0 a1; exact q.1) | (have q := okm5 a0 a1; exact q.2.1) | (have q := okm5 a0 a1; exact q.2.2) | (unfold m5; (repeat' split) <;> simp_all <;> omega) | assumption | (simp only [List.length_map]; omega) | (simp [ol23, ol10_0, ol24, ol25, ol11_0, ol11_1, ol11_2]; omega)) (by first | with_reducible assumption | omega | (have q := okm5 a0 a1; exact q.1) | (have q := okm5 a0 a1; exact q.2.1) | (have q := okm5 a0 a1; exact q.2.2) | (unfold m5; (repeat' split) <;> simp_all <;> omega) | assumption | (simp only [List.length_map]; omega) | (simp [ol23, ol10_0, ol24, ol25, ol11_0, ol11_1, ol11_2]; omega))) (.f (nt h1) (ln_s (o11_2 (m7 a0 a1) 1) (ln_iisiiii (o11_1 (m7 a0 a1) 1) (ln_sisi (o11_0 (m7 a0 a1) 1) (.h 148 (.b false) (.r 156 [] [(List.map b_s (o11_2 (m7 a0 a1) 1)), (List.map b_iisiiii (o11_1 (m7 a0 a1) 1)), (List.map b_sisi (o11_0 (m7 a0 a1) 1))] (e12 (l0_1 := 0) (l0_2 := 0) (l0_3 := 0) (a0 := (K_iLsELiisiiiiELsisiEi.mk ((m7 a0 a1).f0) (o11_2 (m7 a0 a1) 1) (o11_1 (m7 a0 a1) 1) (o11_0 (m7 a0 a1) 1) ((m7 a0 a1).f4))) (a1 := 1) (by first | with_reducible assumption | omega | (have q := okm7 a0 a1; exact q.1) | (have q := okm7 a0 a1; rw [ol11_2]; exact q.1) | (have q := okm7 a0 a1; exact q.2.1) | (have q := okm7 a0 a1; rw [ol11_2]; exact q.2.1) | (have q := okm7 a0 a1; exact q.2.2) | (have q := okm7 a0 a1; rw [ol11_2]; exact q.2.2) | (unfold m7; (repeat' split) <;> simp_all <;> omega) | assumption | (simp only [List.length_map]; omega) | (simp [ol23, ol10_0, ol24, ol25, ol11_0, ol11_1, ol11_2]; omega)) (by first | with_reducible assumption | omega | (have q := okm7 a0 a1; exact q.1) | (have q := okm7 a0 a1; rw [ol11_1]; exact q.1) | (have q := okm7 a0 a1; exact q.2.1) | (have q := okm7 a0 a1; rw [ol11_1]; exact q.2.1) | (have q := okm7 a0 a1; exact q.2.2) | (have q := okm7 a0 a1; rw [ol11_1]; exact q.2.2) | (unfold m7; (repeat' split) <;> simp_all <;> omega) | assumption | (simp only [List.length_map]; omega) | (simp [ol23, ol10_0, ol24, ol25, ol11_0, ol11_1, ol11_2]; omega)) (by first | with_reducible assumption | omega | (have q := okm7 a0 a1; exact q.1) | (have q := okm7 a0 a1; rw [ol11_0]; exact q.1) | (have q := okm7 a0 a1; exact q.2.1) | (have q := okm7 a0 a1; rw [ol11_0]; exact q.2.1) | (have q := okm7 a0 a1; exact q.2.2) | (have q := okm7 a0 a1; rw [ol11_0]; exact q.2.2) | (unfold m7; (repeat' split) <;> simp_all <;> omega) | assumption | (simp only [List.length_map]; omega) | (simp [ol23, ol10_0, ol24, ol25, ol11_0, ol11_1, ol11_2]; omega))) (.f (nt h4) (.f (nt h5) (.h 163 (.b false) (.h 170 (.b false) .nil)))))))))))))))))))))))))))))))
/-! weights -/
def wt_sisi (x : K_sisi) : Nat := 4
theorem wts_sisi : ∀ (l : List K_sisi), (List.map wt_sisi l).sum = l.length * 4
  | [] => rfl
  | x :: l => by simp only [List.map_cons, List.sum_cons, wts_sisi l, List.length_cons, wt_sisi]; omega
def wt_LsisiEi (x : K_LsisiEi) : Nat := 1 + (List.map wt_sisi x.f0).sum
def wt_i (x : Int) : Nat := 1
theorem wts_i : ∀ (l : List Int), (List.map wt_i l).sum = l.length * 1
  | [] => rfl
  | x :: l => by simp only [List.map_cons, List.sum_cons, wts_i l, List.length_cons, wt_i]; omega
def wt_b (x : Bool) : Nat := 1
theorem wts_b : ∀ (l : List Bool), (List.map wt_b l).sum = l.length * 1
  | [] => rfl
  | x :: l => by simp only [List.map_cons, List.sum_cons, wts_b l, List.length_cons, wt_b]; omega
def wt_s (x : ByteArray) : Nat := 1
theorem wts_s : ∀ (l : List ByteArray), (List.map wt_s l).sum = l.length * 1
  | [] => rfl
  | x :: l => by simp only [List.map_cons, List.sum_cons, wts_s l, List.length_cons, wt_s]; omega
def wt_iisiiii (x : K_iisiiii) : Nat := 7
theorem wts_iisiiii : ∀ (l : List K_iisiiii), (List.map wt_iisiiii l).sum = l.length * 7
  | [] => rfl
  | x :: l => by simp only [List.map_cons, List.sum_cons, wts_iisiiii l, List.length_cons, wt_iisiiii]; omega
def wt_iLsELiisiiiiELsisiEi (x : K_iLsELiisiiiiELsisiEi) : Nat := 2 + (List.map wt_s x.f1).sum + (List.map wt_iisiiii x.f2).sum + (List.map wt_sisi x.f3).sum
def wt_LsisiE (x : (List K_sisi)) : Nat := 0 + (List.map wt_sisi x).sum
def wt_LsE (x : (List ByteArray)) : Nat := 0 + (List.map wt_s x).sum
def wt_LiisiiiiE (x : (List K_iisiiii)) : Nat := 0 + (List.map wt_iisiiii x).sum
def wt_y (x : Int) : Nat := 1
theorem wts_y : ∀ (l : List Int), (List.map wt_y l).sum = l.length * 1
  | [] => rfl
  | x :: l => by simp only [List.map_cons, List.sum_cons, wts_y l, List.length_cons, wt_y]; omega
/-! marks of loop.example/g00539/laws.markSessionS -/
theorem mr23_0 (a0 : List K_sisi) : ∀ (l p : List K_sisi) (v1_23_0 : Int), 0 ≤ v1_23_0 → v1_23_0 + ((List.map wt_sisi l).sum : Nat) ≤ 4611686018427387904 → ∃ (q : List K_sisi) (k' : Int) (w2 : _) (w3 : _), r23_0 a0 l (p.length : Int) (p ++ l) v1_23_0 = .k0 (p ++ q) k' w2 w3 ∧ q.length = l.length ∧ v1_23_0 ≤ k' ∧ k' ≤ v1_23_0 + ((List.map wt_sisi l).sum : Nat) ∧ ∀ (c : List K_sisi) (j : Int), ∃ u1 u2, r39_0 c q j v1_23_0 = .k0 k' u1 u2
  | [], p, v1_23_0, h0, h1 => ⟨[], v1_23_0, (p.length : Int), (decide ((p.length : Int) < ((List.length (List.map d_sisi a0)) : Int))), rfl, rfl, by omega, by simp, fun c j => ⟨j, (decide (j < ((List.length (List.map b_sisi c)) : Int))), rfl⟩⟩
  | x0_23_0 :: l, p, v1_23_0, h0, h1 => by
    simp only [List.map_cons, List.sum_cons, wt_sisi] at h1 ⊢
    obtain ⟨q, k', w2, w3, e1, e2, e3, e4, e5⟩ := mr23_0 a0 l (p ++ [(K_sisi.mk (m38 v1_23_0) (v1_23_0 + 1) (m38 ((v1_23_0 + 1) + 1)) (((v1_23_0 + 1) + 1) + 1))]) ((((v1_23_0 + 1) + 1) + 1) + 1) (by omega) (by omega)
    refine ⟨(K_sisi.mk (m38 v1_23_0) (v1_23_0 + 1) (m38 ((v1_23_0 + 1) + 1)) (((v1_23_0 + 1) + 1) + 1)) :: q, k', w2, w3, ?_, by simp [e2], by omega, by omega, ?_⟩
    · have e : List.set (p ++ x0_23_0 :: l) (Int.toNat (p.length : Int)) (K_sisi.mk (m38 v1_23_0) (v1_23_0 + 1) (m38 ((v1_23_0 + 1) + 1)) (((v1_23_0 + 1) + 1) + 1)) = (p ++ [(K_sisi.mk (m38 v1_23_0) (v1_23_0 + 1) (m38 ((v1_23_0 + 1) + 1)) (((v1_23_0 + 1) + 1) + 1))]) ++ l := by simp
      have e0 : ((p ++ [(K_sisi.mk (m38 v1_23_0) (v1_23_0 + 1) (m38 ((v1_23_0 + 1) + 1)) (((v1_23_0 + 1) + 1) + 1))]).length : Int) = (p.length : Int) + 1 := by simp
      rw [e0] at e1
      simp (disch := omega) only [r23_0, wrap64d]
      first | (rw [e, e1]; simp; done) | (simp only [e, e1]; simp; done)
    · intro c j
      obtain ⟨u1, u2, g⟩ := e5 c (j + 1)
      refine ⟨u1, u2, ?_⟩
      simp (disch := omega) only [r39_0, wrap64d]
      first | (simpa using g) | (simp_all; done)
theorem mh23 (a : List K_sisi) (k : Int) (h0 : 0 ≤ k) (h1 : k + ((List.map wt_sisi a).sum : Nat) ≤ 4611686018427387904) : m39 (o23_0 a k) k = m23 a k ∧ k ≤ m23 a k ∧ m23 a k ≤ k + ((List.map wt_sisi a).sum : Nat) := by
  obtain ⟨q, k', w2, w3, e1, e2, e3, e4, e5⟩ := mr23_0 a a [] k h0 h1
  obtain ⟨u1, u2, g⟩ := e5 q 0
  simp only [List.nil_append, List.length_nil] at e1
  rw [show ((0 : Nat) : Int) = 0 from rfl] at e1
  unfold m23 o23_0 m39
  rw [e1]; simp only []; rw [g]; exact ⟨rfl, e3, e4⟩
/-! marks of loop.example/g00539/laws.markServer -/
theorem mh10 (a : K_LsisiEi) (k : Int) (h0 : 0 ≤ k) (h1 : k + (wt_LsisiEi a : Nat) ≤ 4611686018427387904) : m28 (K_LsisiEi.mk (o10_0 a k) a.f1) k = m10 a k ∧ k ≤ m10 a k ∧ m10 a k ≤ k + (wt_LsisiEi a : Nat) := by
  simp only [wt_LsisiEi] at h1 ⊢
  have s0 := mh23 a.f0 k (by omega) (by first | omega | (simp only [wt_sisi, wt_LsisiEi, wt_i, wt_b, wt_s, wt_iisiiii, wt_iLsELiisiiiiELsisiEi, wt_LsisiE, wt_LsE, wt_LiisiiiiE, wt_y] at *; omega) | (simp only [List.length_map, List.length_nil, List.map_nil, List.sum_nil] at *; omega))
  have t0 := s0.1
  try simp only [List.length_map, wt_sisi, wt_LsisiEi, wt_i, wt_b, wt_s, wt_iisiiii, wt_iLsELiisiiiiELsisiEi, wt_LsisiE, wt_LsE, wt_LiisiiiiE, wt_y] at *
  unfold m28 m10 o10_0
  simp (disch := omega) only [wrap64d, t0]
  refine ⟨?_, by omega, by omega⟩
  (repeat' rw [if_neg (by first | (simp; done) | (simp only [decide_eq_true_eq]; omega))]) <;> rfl
/-! marks of loop.example/g00539/laws.markStringS -/
theorem mr24_0 (a0 : List ByteArray) : ∀ (l p : List ByteArray) (v1_24_0 : Int), 0 ≤ v1_24_0 → v1_24_0 + ((List.map wt_s l).sum : Nat) ≤ 4611686018427387904 → ∃ (q : List ByteArray) (k' : Int) (w2 : _) (w3 : _), r24_0 a0 l (p.length : Int) (p ++ l) v1_24_0 = .k0 (p ++ q) k' w2 w3 ∧ q.length = l.length ∧ v1_24_0 ≤ k' ∧ k' ≤ v1_24_0 + ((List.map wt_s l).sum : Nat) ∧ ∀ (c : List ByteArray) (j : Int), ∃ u1 u2, r26_0 c q j v1_24_0 = .k0 k' u1 u2
  | [], p, v1_24_0, h0, h1 => ⟨[], v1_24_0, (p.length : Int), (decide ((p.length : Int) < ((List.length (List.map d_s a0)) : Int))), rfl, rfl, by omega, by simp, fun c j => ⟨j, (decide (j < ((List.length (List.map b_s c)) : Int))), rfl⟩⟩
  | x0_24_0 :: l, p, v1_24_0, h0, h1 => by
    simp only [List.map_cons, List.sum_cons, wt_s] at h1 ⊢
    obtain ⟨q, k', w2, w3, e1, e2, e3, e4, e5⟩ := mr24_0 a0 l (p ++ [(m38 v1_24_0)]) (v1_24_0 + 1) (by omega) (by omega)
    refine ⟨(m38 v1_24_0) :: q, k', w2, w3, ?_, by simp [e2], by omega, by omega, ?_⟩
    · have e : List.set (p ++ x0_24_0 :: l) (Int.toNat (p.length : Int)) (m38 v1_24_0) = (p ++ [(m38 v1_24_0)]) ++ l := by simp
      have e0 : ((p ++ [(m38 v1_24_0)]).length : Int) = (p.length : Int) + 1 := by simp
      rw [e0] at e1
      simp (disch := omega) only [r24_0, wrap64d]
      first | (rw [e, e1]; simp; done) | (simp only [e, e1]; simp; done)
    · intro c j
      obtain ⟨u1, u2, g⟩ := e5 c (j + 1)
      refine ⟨u1, u2, ?_⟩
      simp (disch := omega) only [r26_0, wrap64d]
      first | (simpa using g) | (simp_all; done)
theorem mh24 (a : List ByteArray) (k : Int) (h0 : 0 ≤ k) (h1 : k + ((List.map wt_s a).sum : Nat) ≤ 4611686018427387904) : m26 (o24_0 a k) k = m24 a k ∧ k ≤ m24 a k ∧ m24 a k ≤ k + ((List.map wt_s a).sum : Nat) := by
  obtain ⟨q, k', w2, w3, e1, e2, e3, e4, e5⟩ := mr24_0 a a [] k h0 h1
  obtain ⟨u1, u2, g⟩ := e5 q 0
  simp only [List.nil_append, List.length_nil] at e1
  rw [show ((0 : Nat) : Int) = 0 from rfl] at e1
  unfold m24 o24_0 m26
  rw [e1]; simp only []; rw [g]; exact ⟨rfl, e3, e4⟩
/-! marks of loop.example/g00539/laws.markActS -/
theorem mr25_0 (a0 : List K_iisiiii) : ∀ (l p : List K_iisiiii) (v1_25_0 : Int), 0 ≤ v1_25_0 → v1_25_0 + ((List.map wt_iisiiii l).sum : Nat) ≤ 4611686018427387904 → ∃ (q : List K_iisiiii) (k' : Int) (w2 : _) (w3 : _), r25_0 a0 l (p.length : Int) (p ++ l) v1_25_0 = .k0 (p ++ q) k' w2 w3 ∧ q.length = l.length ∧ v1_25_0 ≤ k' ∧ k' ≤ v1_25_0 + ((List.map wt_iisiiii l).sum : Nat) ∧ ∀ (c : List K_iisiiii) (j : Int), ∃ u1 u2, r27_0 c q j v1_25_0 = .k0 k' u1 u2
  | [], p, v1_25_0, h0, h1 => ⟨[], v1_25_0, (p.length : Int), (decide ((p.length : Int) < ((List.length (List.map d_iisiiii a0)) : Int))), rfl, rfl, by omega, by simp, fun c j => ⟨j, (decide (j < ((List.length (List.map b_iisiiii c)) : Int))), rfl⟩⟩
  | x0_25_0 :: l, p, v1_25_0, h0, h1 => by
    simp only [List.map_cons, List.sum_cons, wt_iisiiii] at h1 ⊢
    obtain ⟨q, k', w2, w3, e1, e2, e3, e4, e5⟩ := mr25_0 a0 l (p ++ [(K_iisiiii.mk v1_25_0 (v1_25_0 + 1) (m38 ((v1_25_0 + 1) + 1)) (((v1_25_0 + 1) + 1) + 1) ((((v1_25_0 + 1) + 1) + 1) + 1) (((((v1_25_0 + 1) + 1) + 1) + 1) + 1) ((((((v1_25_0 + 1) + 1) + 1) + 1) + 1) + 1))]) (((((((v1_25_0 + 1) + 1) + 1) + 1) + 1) + 1) + 1) (by omega) (by omega)
    refine ⟨(K_iisiiii.mk v1_25_0 (v1_25_0 + 1) (m38 ((v1_25_0 + 1) + 1)) (((v1_25_0 + 1) + 1) + 1) ((((v1_25_0 + 1) + 1) + 1) + 1) (((((v1_25_0 + 1) + 1) + 1) + 1) + 1) ((((((v1_25_0 + 1) + 1) + 1) + 1) + 1) + 1)) :: q, k', w2, w3, ?_, by simp [e2], by omega, by omega, ?_⟩
    · have e : List.set (p ++ x0_25_0 :: l) (Int.toNat (p.length : Int)) (K_iisiiii.mk v1_25_0 (v1_25_0 + 1) (m38 ((v1_25_0 + 1) + 1)) (((v1_25_0 + 1) + 1) + 1) ((((v1_25_0 + 1) + 1) + 1) + 1) (((((v1_25_0 + 1) + 1) + 1) + 1) + 1) ((((((v1_25_0 + 1) + 1) + 1) + 1) + 1) + 1)) = (p ++ [(K_iisiiii.mk v1_25_0 (v1_25_0 + 1) (m38 ((v1_25_0 + 1) + 1)) (((v1_25_0 + 1) + 1) + 1) ((((v1_25_0 + 1) + 1) + 1) + 1) (((((v1_25_0 + 1) + 1) + 1) + 1) + 1) ((((((v1_25_0 + 1) + 1) + 1) + 1) + 1) + 1))]) ++ l := by simp
      have e0 : ((p ++ [(K_iisiiii.mk v1_25_0 (v1_25_0 + 1) (m38 ((v1_25_0 + 1) + 1)) (((v1_25_0 + 1) + 1) + 1) ((((v1_25_0 + 1) + 1) + 1) + 1) (((((v1_25_0 + 1) + 1) + 1) + 1) + 1) ((((((v1_25_0 + 1) + 1) + 1) + 1) + 1) + 1))]).length : Int) = (p.length : Int) + 1 := by simp
      rw [e0] at e1
      simp (disch := omega) only [r25_0, wrap64d]
      first | (rw [e, e1]; simp; done) | (simp only [e, e1]; simp; done)
    · intro c j
      obtain ⟨u1, u2, g⟩ := e5 c (j + 1)
      refine ⟨u1, u2, ?_⟩
      simp (disch := omega) only [r27_0, wrap64d]
      first | (simpa using g) | (simp_all; done)
theorem mh25 (a : List K_iisiiii) (k : Int) (h0 : 0 ≤ k) (h1 : k + ((List.map wt_iisiiii a).sum : Nat) ≤ 4611686018427387904) : m27 (o25_0 a k) k = m25 a k ∧ k ≤ m25 a k ∧ m25 a k ≤ k + ((List.map wt_iisiiii a).sum : Nat) := by
  obtain ⟨q, k', w2, w3, e1, e2, e3, e4, e5⟩ := mr25_0 a a [] k h0 h1
  obtain ⟨u1, u2, g⟩ := e5 q 0
  simp only [List.nil_append, List.length_nil] at e1
  rw [show ((0 : Nat) : Int) = 0 from rfl] at e1
  unfold m25 o25_0 m27
  rw [e1]; simp only []; rw [g]; exact ⟨rfl, e3, e4⟩
/-! marks of loop.example/g00539/laws.markServerResult -/
theorem mh11 (a : K_iLsELiisiiiiELsisiEi) (k : Int) (h0 : 0 ≤ k) (h1 : k + (wt_iLsELiisiiiiELsisiEi a : Nat) ≤ 4611686018427387904) : m12 (K_iLsELiisiiiiELsisiEi.mk a.f0 (o11_2 a k) (o11_1 a k) (o11_0 a k) a.f4) k = m11 a k ∧ k ≤ m11 a k ∧ m11 a k ≤ k + (wt_iLsELiisiiiiELsisiEi a : Nat) := by
  simp only [wt_iLsELiisiiiiELsisiEi] at h1 ⊢
  have s0 := mh24 a.f1 k (by omega) (by first | omega | (simp only [wt_sisi, wt_LsisiEi, wt_i, wt_b, wt_s, wt_iisiiii, wt_iLsELiisiiiiELsisiEi, wt_LsisiE, wt_LsE, wt_LiisiiiiE, wt_y] at *; omega) | (simp only [List.length_map, List.length_nil, List.map_nil, List.sum_nil] at *; omega))
  have s1 := mh25 a.f2 (m24 a.f1 k) (by omega) (by first | omega | (simp only [wt_sisi, wt_LsisiEi, wt_i, wt_b, wt_s, wt_iisiiii, wt_iLsELiisiiiiELsisiEi, wt_LsisiE, wt_LsE, wt_LiisiiiiE, wt_y] at *; omega) | (simp only [List.length_map, List.length_nil, List.map_nil, List.sum_nil] at *; omega))
  have s2 := mh10 (K_LsisiEi.mk a.f3 a.f4) (m25 a.f2 (m24 a.f1 k)) (by omega) (by first | omega | (simp only [wt_sisi, wt_LsisiEi, wt_i, wt_b, wt_s, wt_iisiiii, wt_iLsELiisiiiiELsisiEi, wt_LsisiE, wt_LsE, wt_LiisiiiiE, wt_y] at *; omega) | (simp only [List.length_map, List.length_nil, List.map_nil, List.sum_nil] at *; omega))
  have t0 := s0.1
  have t1 := s1.1
  have t2 := s2.1
  try simp only [List.length_map, wt_sisi, wt_LsisiEi, wt_i, wt_b, wt_s, wt_iisiiii, wt_iLsELiisiiiiELsisiEi, wt_LsisiE, wt_LsE, wt_LiisiiiiE, wt_y] at *
  unfold m12 m11 o11_0 o11_1 o11_2
  simp (disch := omega) only [wrap64d, t0, t1, t2]
  refine ⟨?_, by omega, by omega⟩
  (repeat' rw [if_neg (by first | (simp; done) | (simp only [decide_eq_true_eq]; omega))]) <;> rfl
theorem ck35 (F : FuncId → Option VFun) (X : Ext) : CkD F X 28 49 4 48 [(.val (.string (⟨#[]⟩ : ByteArray))), (.val (.int .i64 0)), (.val (.string (⟨#[]⟩ : ByteArray))), (.val (.int .i64 0))] := by
  intro l rows h1 h2
  exact codeH_ok (t := 0) (hs := []) (q := [0 + 0 ≤ 0, (([] : List (List D)) ++ fromBR l rows).length * 48 ≤ 70368744177664, ∀ r ∈ fromBR l rows, r.length = 4]) (by rfl) ⟨by simp, by simpa using h1, h2, trivial⟩
theorem X_ok (f : FuncId) (args : List SV) (objs : List (V.Id × VObj)) (rs : List Ret) (h : X f args objs rs) : CallOK Tryd.prog f args objs [] [] rs := by
  rcases h with ⟨rfl, rfl, h⟩ | ⟨rfl, rfl, h⟩ | ⟨rfl, rfl, h⟩ | ⟨rfl, _, h⟩
  · exact clone_ok (X := fun _ _ _ _ => False) (T := 28) (E := 49) (k := 4) (kb := 48) (zero := [(.val (.string (⟨#[]⟩ : ByteArray))), (.val (.int .i64 0)), (.val (.string (⟨#[]⟩ : ByteArray))), (.val (.int .i64 0))]) (by kernel_rfl) F_ok (fun _ _ _ _ h => h.elim) (by kernel_rfl) (ck35 _ _) h
  · obtain ⟨s, c, rfl, rfl⟩ := h
    exact idx_ok s c
  · obtain ⟨s, c, h1, h2, h3, rfl, rfl⟩ := h
    exact trim_ok s c h1 h2 h3
  · exact del19_ok h
end Go.Proofs.YtaomcjbjgdihhaaDoor.CloseSession
