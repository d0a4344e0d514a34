/- What the functions compute. -/
import Derived.Test.YtdnopbpdiineiaaDoorEOpenSessionA
import Derived.KernelRfl
namespace Go.Proofs.YtdnopbpdiineiaaDoor.OpenSession
open Go Go.Proofs.YtdnopbpdiineiaaDoor.V
set_option linter.unusedVariables false
set_option linter.unusedSimpArgs false
set_option maxRecDepth 20000
open List (length_replicate length_map length_set length_append length_cons length_nil length_take length_drop take_of_length_le map_take map_drop map_set append_assoc getElem?_map map length take drop getD set)
attribute [local simp] toBR_sisi fullR_sisi pureR_sisi lenB_sisi lenD_sisi fromBR_sisi copy_sisi toBR_LsisiEi fullR_LsisiEi pureR_LsisiEi lenB_LsisiEi lenD_LsisiEi toBR_b fullR_b pureR_b lenB_b lenD_b fromBR_b copy_b toBR_i fullR_i pureR_i lenB_i lenD_i fromBR_i copy_i toBR_s fullR_s pureR_s lenB_s lenD_s fromBR_s copy_s toBR_iisiiii fullR_iisiiii pureR_iisiiii lenB_iisiiii lenD_iisiiii fromBR_iisiiii copy_iisiiii toBR_iLsELiisiiiiELsisiEi fullR_iLsELiisiiiiELsisiEi pureR_iLsELiisiiiiELsisiEi lenB_iLsELiisiiiiELsisiEi lenD_iLsELiisiiiiELsisiEi toBR_LsisiE fullR_LsisiE pureR_LsisiE lenB_LsisiE lenD_LsisiE toBR_LsE fullR_LsE pureR_LsE lenB_LsE lenD_LsE toBR_LiisiiiiE fullR_LiisiiiiE pureR_LiisiiiiE lenB_LiisiiiiE lenD_LiisiiiiE strInts_len byteRows_len toBR_y fullR_y pureR_y lenB_y lenD_y fromBR_y copy_y
/-! loop.example/g00539/impl.argOk -/
def m149 (a0 : ByteArray) : Bool :=
  if (decide ((ByteArray.size a0 : Int) ≤ 12)) = true then ((trimB a0 (⟨#[97, 98, 99, 100, 101, 102, 103, 104, 105, 106, 107, 108, 109, 110, 111, 112, 113, 114, 115, 116, 117, 118, 119, 120, 121, 122, 65, 66, 67, 68, 69, 70, 71, 72, 73, 74, 75, 76, 77, 78, 79, 80, 81, 82, 83, 84, 85, 86, 87, 88, 89, 90, 48, 49, 50, 51, 52, 53, 54, 55, 56, 57]⟩ : ByteArray)).toList == (⟨#[]⟩ : ByteArray).toList) else
  false
theorem e149 {a0 : ByteArray} : Ev F X (.call 149 [(.one (.val (.string a0)))] [] [] [(.one (.val (.bool (m149 a0))))]) := by
  unfold m149
  by_cases h0 : (decide ((ByteArray.size a0 : Int) ≤ 12)) = true
  · try simp only [if_pos h0]
    have f2 : Ev F X (.call 156 [(.one (.val (.string a0))), (.one (.val (.string (⟨#[97, 98, 99, 100, 101, 102, 103, 104, 105, 106, 107, 108, 109, 110, 111, 112, 113, 114, 115, 116, 117, 118, 119, 120, 121, 122, 65, 66, 67, 68, 69, 70, 71, 72, 73, 74, 75, 76, 77, 78, 79, 80, 81, 82, 83, 84, 85, 86, 87, 88, 89, 90, 48, 49, 50, 51, 52, 53, 54, 55, 56, 57]⟩ : ByteArray))))] [] [] [(.one (.val (.string (trimB a0 (⟨#[97, 98, 99, 100, 101, 102, 103, 104, 105, 106, 107, 108, 109, 110, 111, 112, 113, 114, 115, 116, 117, 118, 119, 120, 121, 122, 65, 66, 67, 68, 69, 70, 71, 72, 73, 74, 75, 76, 77, 78, 79, 80, 81, 82, 83, 84, 85, 86, 87, 88, 89, 90, 48, 49, 50, 51, 52, 53, 54, 55, 56, 57]⟩ : ByteArray)))))]) := (e156 (a0 := a0) (a1 := (⟨#[97, 98, 99, 100, 101, 102, 103, 104, 105, 106, 107, 108, 109, 110, 111, 112, 113, 114, 115, 116, 117, 118, 119, 120, 121, 122, 65, 66, 67, 68, 69, 70, 71, 72, 73, 74, 75, 76, 77, 78, 79, 80, 81, 82, 83, 84, 85, 86, 87, 88, 89, 90, 48, 49, 50, 51, 52, 53, 54, 55, 56, 57]⟩ : ByteArray)) (by simp only [decide_eq_true_eq] at *; omega) (by decide) (by decide))
    exact callP_ok (ps := []) (os := []) (rs := [(.one (.val (.bool ((trimB a0 (⟨#[97, 98, 99, 100, 101, 102, 103, 104, 105, 106, 107, 108, 109, 110, 111, 112, 113, 114, 115, 116, 117, 118, 119, 120, 121, 122, 65, 66, 67, 68, 69, 70, 71, 72, 73, 74, 75, 76, 77, 78, 79, 80, 81, 82, 83, 84, 85, 86, 87, 88, 89, 90, 48, 49, 50, 51, 52, 53, 54, 55, 56, 57]⟩ : ByteArray)).toList == (⟨#[]⟩ : ByteArray).toList))))]) (by kernel_rfl) (.f h0 (.f h0 (.h 10 (.b true) (.h 12 (.b true) (.r 13 [] [] f2 (.f h0 (.f h0 (.h 14 (.b true) (.h 17 (.b true) .nil)))))))))
  · try simp only [if_neg h0]
    exact callP_ok (ps := []) (os := []) (rs := [(.one (.val (.bool false)))]) (by kernel_rfl) (.f (nt h0) (.f (nt h0) (.f (nt h0) (.f (nt h0) (.h 10 (.b false) (.h 12 (.b false) (.h 14 (.b false) (.h 17 (.b false) .nil))))))))
/-! loop.example/g00539/impl.badArg -/
def m139 (a0 : ByteArray) : Bool :=
  (!(m149 a0))
theorem e139 {a0 : ByteArray} : Ev F X (.call 139 [(.one (.val (.string a0)))] [] [] [(.one (.val (.bool (!(m149 a0)))))]) := by
  have f0 : Ev F X (.call 149 [(.one (.val (.string a0)))] [] [] [(.one (.val (.bool (m149 a0))))]) := (e149 (a0 := a0))
  exact callP_ok (ps := []) (os := []) (rs := [(.one (.val (.bool (!(m149 a0)))))]) (by kernel_rfl) (.r 5 [] [] f0 .nil)
/-! loop.example/g00539/impl.isLevel -/
def m140 (a0 : Int) : Bool :=
  (m93 a0 1 9999)
theorem e140 {a0 : Int} : Ev F X (.call 140 [(.one (.val (.int .i64 a0)))] [] [] [(.one (.val (.bool (m93 a0 1 9999))))]) := by
  have f0 : Ev F X (.call 93 [(.oi a0), (.oi 1), (.oi 9999)] [] [] [(.one (.val (.bool (m93 a0 1 9999))))]) := (e93 (a0 := a0) (a1 := 1) (a2 := 9999))
  exact callP_ok (ps := []) (os := []) (rs := [(.one (.val (.bool (m93 a0 1 9999))))]) (by kernel_rfl) (.r 5 [] [] f0 .nil)
/-! loop.example/g00539/impl.sessionFault$1 -/
def m1014100 (a0 : K_sisi) (a101001 : ByteArray) (a101002 : Int) (a101003 : ByteArray) (a101004 : Int) : Bool :=
  (a101002 == a0.f1)
theorem e1014100 {a0 : K_sisi} {l101000 : Nat} {a101001 : ByteArray} {a101002 : Int} {a101003 : ByteArray} {a101004 : Int} : Ev F X (.call 141 [(.agg [(.val (.string a0.f0)), (.val (.int .i64 a0.f1)), (.val (.string a0.f2)), (.val (.int .i64 a0.f3))]), (.bptr l101000 [(.val (.string a101001)), (.val (.int .i64 a101002)), (.val (.string a101003)), (.val (.int .i64 a101004))])] [] [] [(.one (.val (.bool (a101002 == a0.f1))))]) := by
  exact callP_ok (ps := []) (os := []) (rs := [(.one (.val (.bool (a101002 == a0.f1))))]) (by kernel_rfl) .nil
/-! loop 1014200_0 -/
inductive O1014200_0 where
  | k0 (w0 : Int) (w1 : Bool)
  | k1 (w0 : Int)
def r1014200_0 (a0 : (List K_sisi)) (a2002 : Int) : List K_sisi → Int → O1014200_0
  | x0 :: y0, i =>
    if (a2002 == x0.f1) = true then (O1014200_0.k1 i) else
    (r1014200_0 a0 a2002 y0 (i + 1) )
  | [], i => (O1014200_0.k0 i (decide (i < ((length (map b_sisi a0)) : Int))))
def h1014200_0 (l0_0 : Nat) (l2000 : Nat) (a0 : (List K_sisi)) (a2001 : ByteArray) (a2002 : Int) (a2003 : ByteArray) (a2004 : Int) (i : Int)  : St := ⟨[(0, (.one (.bor l0_0 (map b_sisi a0)))), (1, (.clo 141 [] [(.bptr l2000 [(.val (.string a2001)), (.val (.int .i64 a2002)), (.val (.string a2003)), (.val (.int .i64 a2004))])])), (7, (.one (.val (.int .i64 ((length (map b_sisi a0)) : Int))))), (8, (.one (.val (.int .i64 i))))], []⟩
def ex1014200_0 : O1014200_0 → VX.Exit
  | .k0 _ _ => (.exit 0)
  | .k1 _ => .ret
def fin1014200_0 (l0_0 : Nat) (l2000 : Nat) (a0 : (List K_sisi)) (a2001 : ByteArray) (a2002 : Int) (a2003 : ByteArray) (a2004 : Int) : O1014200_0 → St
  | .k0 w0 w1 => ⟨[(0, (.one (.bor l0_0 (map b_sisi a0)))), (1, (.clo 141 [] [(.bptr l2000 [(.val (.string a2001)), (.val (.int .i64 a2002)), (.val (.string a2003)), (.val (.int .i64 a2004))])])), (7, (.one (.val (.int .i64 ((length (map b_sisi a0)) : Int))))), (8, (.one (.val (.int .i64 w0)))), (9, (.one (.val (.bool w1))))], []⟩
  | .k1 w0 => ⟨[(4, (.one (.val (.int .i64 w0))))], []⟩
theorem t1014200_0 {l0_0 : Nat} {l2000 : Nat} {a0 : (List K_sisi)} {a2001 : ByteArray} {a2002 : Int} {a2003 : ByteArray} {a2004 : Int} (hy0 : length a0 * 48 ≤ 140737488351232) : ∀ (y0 : List K_sisi) (p : List K_sisi) , p ++ y0 = a0 → Ev F X (.code l142_0 (h1014200_0 l0_0 l2000 a0 a2001 a2002 a2003 a2004 (length p : Int) ) (ex1014200_0 (r1014200_0 a0 a2002 y0 (length p : Int) )) (fin1014200_0 l0_0 l2000 a0 a2001 a2002 a2003 a2004 (r1014200_0 a0 a2002 y0 (length p : Int) )))
  | [], p, hp0 => by
    have hc : ¬ (decide ((length p : Int) < ((length (map b_sisi a0)) : Int))) = true := by
      rw [← hp0]; simp only [length_map, length_set, length_append, length_replicate, length_cons, length_nil, decide_eq_true_eq]; omega
    have st := codeH_ok (F := F) (X := X) (c := b142_0) (t := 0) (hs := [(2, .b false)]) (σ := h1014200_0 l0_0 l2000 a0 a2001 a2002 a2003 a2004 (length p : Int) ) (σ' := fin1014200_0 l0_0 l2000 a0 a2001 a2002 a2003 a2004 (.k0 (length p : Int) (decide ((length p : Int) < ((length (map b_sisi a0)) : Int))))) (e := (.exit 0)) (t' := 3) (hs' := []) (q := [(decide ((length p : Int) < ((length (map b_sisi a0)) : Int))) = false]) (by kernel_rfl) ⟨(nt hc), trivial⟩
    exact .loopX st (show ((.exit 0) : VX.Exit) ≠ .normal from by simp)
  | x0 :: y0, p, hp0 => by
    have hc : (decide ((length p : Int) < ((length (map b_sisi a0)) : Int))) = true := by
      rw [← hp0]; simp only [length_map, length_set, length_append, length_replicate, length_cons, length_nil, decide_eq_true_eq]; omega
    have Hx0 : (a0)[Int.toNat (length p : Int)]? = some x0 := by
      rw [← hp0, Int.toNat_natCast]; simp
    have hlen : length (a0) = length p + length y0 + 1 := by rw [← hp0]; simp; omega
    have hw : IntKind.wrap .i64 ((length p : Int) + 1) = (length p : Int) + 1 := wrap64 (by omega)
    simp only [r1014200_0]
    by_cases h_1 : (a2002 == x0.f1) = true
    · try simp only [if_pos h_1]
      have st := codeH_ok (F := F) (X := X) (c := b142_0) (t := 0) (hs := [(2, .b true), (14, .row [(.val (.string x0.f0)), (.i x0.f1), (.val (.string x0.f2)), (.i x0.f3)]), (18, .ret [] [(.one (.val (.bool (a2002 == x0.f1))))] [] []), (19, .b true)]) (σ := h1014200_0 l0_0 l2000 a0 a2001 a2002 a2003 a2004 (length p : Int) ) (σ' := fin1014200_0 l0_0 l2000 a0 a2001 a2002 a2003 a2004 (.k1 (length p : Int))) (e := .ret) (t' := 24) (hs' := []) (q := [(decide ((length p : Int) < ((length (map b_sisi a0)) : Int))) = true, 0 ≤ (length p : Int), (map b_sisi a0)[(Int.toNat (length p : Int))]? = some [(.val (.string x0.f0)), (.i x0.f1), (.val (.string x0.f2)), (.i x0.f3)], Ev F X (.call 141 [(.agg [(.val (.string x0.f0)), (.i x0.f1), (.val (.string x0.f2)), (.i x0.f3)]), (.bptr (l2000 + 1) [(.val (.string a2001)), (.i a2002), (.val (.string a2003)), (.i a2004)])] [] [] [(.one (.val (.bool (a2002 == x0.f1))))]), (a2002 == x0.f1) = true]) (by kernel_rfl) ⟨hc, (by omega), (by rw [getElem?_map, Hx0]; rfl), (e1014100 (a0 := x0) (a101001 := a2001) (a101002 := a2002) (a101003 := a2003) (a101004 := a2004)), h_1, trivial⟩
      exact .loopX st (show (.ret : VX.Exit) ≠ .normal from by simp)
    · try simp only [if_neg h_1]
      have st := codeH_ok (F := F) (X := X) (c := b142_0) (t := 0) (hs := [(2, .b true), (14, .row [(.val (.string x0.f0)), (.i x0.f1), (.val (.string x0.f2)), (.i x0.f3)]), (18, .ret [] [(.one (.val (.bool (a2002 == x0.f1))))] [] []), (19, .b false)]) (σ := h1014200_0 l0_0 l2000 a0 a2001 a2002 a2003 a2004 (length p : Int) ) (σ' := ⟨[(0, (.one (.bor l0_0 (map b_sisi a0)))), (1, (.clo 141 [] [(.bptr l2000 [(.val (.string a2001)), (.i a2002), (.val (.string a2003)), (.i a2004)])])), (7, (.oi ((length (map b_sisi a0)) : Int))), (8, (.oi (IntKind.wrap .i64 ((length p : Int) + 1))))], []⟩) (e := .normal) (t' := 24) (hs' := []) (q := [(decide ((length p : Int) < ((length (map b_sisi a0)) : Int))) = true, 0 ≤ (length p : Int), (map b_sisi a0)[(Int.toNat (length p : Int))]? = some [(.val (.string x0.f0)), (.i x0.f1), (.val (.string x0.f2)), (.i x0.f3)], Ev F X (.call 141 [(.agg [(.val (.string x0.f0)), (.i x0.f1), (.val (.string x0.f2)), (.i x0.f3)]), (.bptr (l2000 + 1) [(.val (.string a2001)), (.i a2002), (.val (.string a2003)), (.i a2004)])] [] [] [(.one (.val (.bool (a2002 == x0.f1))))]), (a2002 == x0.f1) = false, True]) (by kernel_rfl) ⟨hc, (by omega), (by rw [getElem?_map, Hx0]; rfl), (e1014100 (a0 := x0) (a101001 := a2001) (a101002 := a2002) (a101003 := a2003) (a101004 := a2004)), (nt h_1), trivial, trivial⟩
      have ih := t1014200_0 (l0_0 := l0_0) (l2000 := l2000) (a0 := a0) (a2001 := a2001) (a2002 := a2002) (a2003 := a2003) (a2004 := a2004) hy0 y0 (p ++ [x0])  (by rw [append_assoc]; exact hp0)
      rw [show ((p ++ [x0]).length : Int) = (p.length : Int) + 1 from by simp] at ih
      rw [show (⟨[(0, (.one (.bor l0_0 (map b_sisi a0)))), (1, (.clo 141 [] [(.bptr l2000 [(.val (.string a2001)), (.i a2002), (.val (.string a2003)), (.i a2004)])])), (7, (.oi ((length (map b_sisi a0)) : Int))), (8, (.oi (IntKind.wrap .i64 ((length p : Int) + 1))))], []⟩ : St) = h1014200_0 l0_0 l2000 a0 a2001 a2002 a2003 a2004 ((length p : Int) + 1)  from (by unfold h1014200_0; simp only [hw]; done)] at st
      exact .loopN st ih
/-! slices.IndexFunc[[]loop.example/g00539/impl.Session,loop.example/g00539/impl.Session] -/
def m1014200 (a0 : (List K_sisi)) (a2001 : ByteArray) (a2002 : Int) (a2003 : ByteArray) (a2004 : Int) : Int :=
  (match r1014200_0 a0 a2002 a0 0 with | .k0 w0_0 w1_0 => (-1) | .k1 w0_0 => w0_0)
theorem e1014200 {l0_0 : Nat} {a0 : (List K_sisi)} {l2000 : Nat} {a2001 : ByteArray} {a2002 : Int} {a2003 : ByteArray} {a2004 : Int} (hy0 : length a0 * 48 ≤ 140737488351232) : Ev F X (.call 142 [(.one (.bor l0_0 (map b_sisi a0))), (.clo 141 [] [(.bptr l2000 [(.val (.string a2001)), (.val (.int .i64 a2002)), (.val (.string a2003)), (.val (.int .i64 a2004))])])] [] [] [(.one (.val (.int .i64 (m1014200 a0 a2001 a2002 a2003 a2004))))]) := by
  unfold m1014200
  cases h0 : r1014200_0 a0 a2002 a0 0 with
  | k0 w0_0 w1_0 =>
    try dsimp only
    have f0 : (⟨[(0, (.one (.bor l0_0 (map b_sisi a0)))), (1, (.clo 141 [] [(.bptr l2000 [(.val (.string a2001)), (.i a2002), (.val (.string a2003)), (.i a2004)])])), (7, (.oi ((length (map b_sisi a0)) : Int))), (8, (.oi 0))], []⟩ : St) = h1014200_0 l0_0 l2000 a0 a2001 a2002 a2003 a2004 0  := (by rfl)
    have f1 : Ev F X (.code l142_0 (h1014200_0 l0_0 l2000 a0 a2001 a2002 a2003 a2004 0 ) (.exit 0) ⟨[(0, (.one (.bor l0_0 (map b_sisi a0)))), (1, (.clo 141 [] [(.bptr l2000 [(.val (.string a2001)), (.i a2002), (.val (.string a2003)), (.i a2004)])])), (7, (.oi ((length (map b_sisi a0)) : Int))), (8, (.oi w0_0)), (9, (.one (.val (.bool w1_0))))], []⟩) := (by have t : Ev F X (.code l142_0 (h1014200_0 l0_0 l2000 a0 a2001 a2002 a2003 a2004 0 ) (ex1014200_0 (r1014200_0 a0 a2002 a0 0)) (fin1014200_0 l0_0 l2000 a0 a2001 a2002 a2003 a2004 (r1014200_0 a0 a2002 a0 0))) := t1014200_0 (l0_0 := l0_0) (l2000 := l2000) (a0 := a0) (a2001 := a2001) (a2002 := a2002) (a2003 := a2003) (a2004 := a2004) (by assumption) a0 []  rfl; rw [h0] at t; exact t)
    exact callP_ok (ps := []) (os := []) (rs := [(.oi (-1))]) (by kernel_rfl) (.f f0 (.f f1 (.h 8 (.loop (h1014200_0 l0_0 l2000 a0 a2001 a2002 a2003 a2004 0 ) (.exit 0) ⟨[(0, (.one (.bor l0_0 (map b_sisi a0)))), (1, (.clo 141 [] [(.bptr l2000 [(.val (.string a2001)), (.i a2002), (.val (.string a2003)), (.i a2004)])])), (7, (.oi ((length (map b_sisi a0)) : Int))), (8, (.oi w0_0)), (9, (.one (.val (.bool w1_0))))], []⟩) .nil)))
  | k1 w0_0 =>
    try dsimp only
    have f0 : (⟨[(0, (.one (.bor l0_0 (map b_sisi a0)))), (1, (.clo 141 [] [(.bptr l2000 [(.val (.string a2001)), (.i a2002), (.val (.string a2003)), (.i a2004)])])), (7, (.oi ((length (map b_sisi a0)) : Int))), (8, (.oi 0))], []⟩ : St) = h1014200_0 l0_0 l2000 a0 a2001 a2002 a2003 a2004 0  := (by rfl)
    have f1 : Ev F X (.code l142_0 (h1014200_0 l0_0 l2000 a0 a2001 a2002 a2003 a2004 0 ) .ret ⟨[(4, (.oi w0_0))], []⟩) := (by have t : Ev F X (.code l142_0 (h1014200_0 l0_0 l2000 a0 a2001 a2002 a2003 a2004 0 ) (ex1014200_0 (r1014200_0 a0 a2002 a0 0)) (fin1014200_0 l0_0 l2000 a0 a2001 a2002 a2003 a2004 (r1014200_0 a0 a2002 a0 0))) := t1014200_0 (l0_0 := l0_0) (l2000 := l2000) (a0 := a0) (a2001 := a2001) (a2002 := a2002) (a2003 := a2003) (a2004 := a2004) (by assumption) a0 []  rfl; rw [h0] at t; exact t)
    exact callP_ok (ps := []) (os := []) (rs := [(.oi w0_0)]) (by kernel_rfl) (.f f0 (.f f1 (.h 8 (.loop (h1014200_0 l0_0 l2000 a0 a2001 a2002 a2003 a2004 0 ) .ret ⟨[(4, (.oi w0_0))], []⟩) .nil)))
theorem ixr1014200_0 (a0 : (List K_sisi)) (a2002 : Int) : ∀ (l : List K_sisi) (i : Int), (∃ (w0 : _) (w1 : _), r1014200_0 a0 a2002 l i = .k0 w0 w1) ∨ (∃ w, r1014200_0 a0 a2002 l i = .k1 w ∧ i ≤ w ∧ w < i + l.length)
  | [], i => .inl ⟨i, (decide (i < ((length (map b_sisi a0)) : Int))), rfl⟩
  | x :: l, i => by
    have ih := ixr1014200_0 a0 a2002 l (i + 1)
    simp only [r1014200_0]
    (repeat' split)
    all_goals first
      | exact .inr ⟨i, rfl, by omega, by simp only [length_cons]; omega⟩
      | (rcases ih with ⟨w0, w1, h⟩ | ⟨w, h, h1, h2⟩
         · exact .inl ⟨w0, w1, h⟩
         · exact .inr ⟨w, h, by omega, by simp only [length_cons]; omega⟩)
theorem ix1014200 (a0 : (List K_sisi)) (a2001 : ByteArray) (a2002 : Int) (a2003 : ByteArray) (a2004 : Int) : -1 ≤ m1014200 a0 a2001 a2002 a2003 a2004 ∧ m1014200 a0 a2001 a2002 a2003 a2004 < (length a0 : Int) := by
  unfold m1014200
  rcases ixr1014200_0 a0 a2002 a0 0 with ⟨w0, w1, h⟩ | ⟨w, h, h1, h2⟩ <;> simp only [h] <;> omega
/-! slices.ContainsFunc[[]loop.example/g00539/impl.Session,loop.example/g00539/impl.Session] -/
def m1009400 (a0 : (List K_sisi)) (a2001 : ByteArray) (a2002 : Int) (a2003 : ByteArray) (a2004 : Int) : Bool :=
  (decide ((m1014200 a0 a2001 a2002 a2003 a2004) ≥ 0))
theorem e1009400 {l0_0 : Nat} {a0 : (List K_sisi)} {l2000 : Nat} {a2001 : ByteArray} {a2002 : Int} {a2003 : ByteArray} {a2004 : Int} (hy0 : length a0 * 48 ≤ 140737488351232) : Ev F X (.call 94 [(.one (.bor l0_0 (map b_sisi a0))), (.clo 141 [] [(.bptr l2000 [(.val (.string a2001)), (.val (.int .i64 a2002)), (.val (.string a2003)), (.val (.int .i64 a2004))])])] [] [] [(.one (.val (.bool (decide ((m1014200 a0 a2001 a2002 a2003 a2004) ≥ 0)))))]) := by
  have f0 : Ev F X (.call 142 [(.one (.bor (l0_0 + 1) (map b_sisi a0))), (.clo 141 [] [(.bptr (l2000 + 1) [(.val (.string a2001)), (.i a2002), (.val (.string a2003)), (.i a2004)])])] [] [] [(.oi (m1014200 a0 a2001 a2002 a2003 a2004))]) := (e1014200 (a0 := a0) (a2001 := a2001) (a2002 := a2002) (a2003 := a2003) (a2004 := a2004) (by with_reducible assumption))
  exact callP_ok (ps := []) (os := []) (rs := [(.one (.val (.bool (decide ((m1014200 a0 a2001 a2002 a2003 a2004) ≥ 0)))))]) (by kernel_rfl) (.r 7 [] [] f0 .nil)
/-! loop.example/g00539/impl.sessionFault -/
def m92 (a0 : K_sisi) (a1 : (List K_sisi)) : Int :=
  if (decide ((ByteArray.size a0.f0 : Int) > 161)) = true then 5 else
  if (decide ((idxB a0.f0 10) ≥ 0)) = true then 5 else
    if (!(m149 a0.f2)) = true then 5 else
      if (!(m93 a0.f1 (-1) 998)) = true then 3 else
        if (!(m93 a0.f3 1 9999)) = true then 3 else
          if (!(a0.f2.toList == (⟨#[]⟩ : ByteArray).toList)) = true then (if (a0.f1 == (-1)) = true then 1 else
              if (a0.f1 != (-1)) = true then (if (decide ((m1014200 a1 a0.f0 a0.f1 a0.f2 a0.f3) ≥ 0)) = true then 6 else
                  0) else
                0) else
            if (a0.f1 != (-1)) = true then (if (decide ((m1014200 a1 a0.f0 a0.f1 a0.f2 a0.f3) ≥ 0)) = true then 6 else
                0) else
              0
theorem e92 {a0 : K_sisi} {l1_0 : Nat} {a1 : (List K_sisi)} (hy0 : length a1 * 48 ≤ 140737488351232) : Ev F X (.call 92 [(.agg [(.val (.string a0.f0)), (.val (.int .i64 a0.f1)), (.val (.string a0.f2)), (.val (.int .i64 a0.f3))]), (.one (.bor l1_0 (map b_sisi a1)))] [] [] [(.one (.val (.int .i64 (m92 a0 a1))))]) := by
  unfold m92
  by_cases h0 : (decide ((ByteArray.size a0.f0 : Int) > 161)) = true
  · try simp only [if_pos h0]
    exact callP_ok (ps := []) (os := []) (rs := [(.oi 5)]) (by kernel_rfl) (.f h0 (.f h0 (.f h0 (.f h0 (.f h0 (.h 14 (.b true) (.h 16 (.b true) (.h 18 (.b true) (.h 20 (.b true) (.h 23 (.b true) .nil))))))))))
  · try simp only [if_neg h0]
    have f3 : Ev F X (.call 138 [(.one (.val (.string a0.f0))), (.one (.val (.int .u8 10)))] [] [] [(.oi (idxB a0.f0 10))]) := (e138 (a0 := a0.f0) (a1 := 10))
    by_cases h1 : (decide ((idxB a0.f0 10) ≥ 0)) = true
    · try simp only [if_pos h1]
      exact callP_ok (ps := []) (os := []) (rs := [(.oi 5)]) (by kernel_rfl) (.f (nt h0) (.f (nt h0) (.f (nt h0) (.h 14 (.b false) (.h 16 (.b false) (.h 18 (.b false) (.r 19 [] [] f3 (.f (nt h0) (.f (nt h0) (.f h1 (.f h1 (.f h1 (.f h1 (.h 20 (.b false) (.h 23 (.b false) (.h 26 (.b true) (.h 28 (.b true) (.h 30 (.b true) (.h 33 (.b true) .nil)))))))))))))))))))
    · try simp only [if_neg h1]
      have f9 : Ev F X (.call 139 [(.one (.val (.string a0.f2)))] [] [] [(.one (.val (.bool (!(m149 a0.f2)))))]) := (e139 (a0 := a0.f2))
      by_cases h2 : (!(m149 a0.f2)) = true
      · try simp only [if_pos h2]
        exact callP_ok (ps := []) (os := []) (rs := [(.oi 5)]) (by kernel_rfl) (.f (nt h0) (.f (nt h0) (.f (nt h0) (.h 14 (.b false) (.h 16 (.b false) (.h 18 (.b false) (.r 19 [] [] f3 (.f (nt h0) (.f (nt h0) (.f (nt h1) (.f (nt h1) (.f (nt h1) (.h 20 (.b false) (.h 23 (.b false) (.h 26 (.b false) (.h 28 (.b false) (.h 30 (.b false) (.r 31 [] [] f9 (.f (nt h1) (.f h2 (.h 33 (.b false) (.h 36 (.b true) .nil))))))))))))))))))))))
      · try simp only [if_neg h2]
        have f12 : Ev F X (.call 93 [(.oi a0.f1), (.oi (-1)), (.oi 998)] [] [] [(.one (.val (.bool (m93 a0.f1 (-1) 998))))]) := (e93 (a0 := a0.f1) (a1 := (-1)) (a2 := 998))
        by_cases h3 : (!(m93 a0.f1 (-1) 998)) = true
        · try simp only [if_pos h3]
          exact callP_ok (ps := []) (os := []) (rs := [(.oi 3)]) (by kernel_rfl) (.f (nt h0) (.f (nt h0) (.f (nt h0) (.h 14 (.b false) (.h 16 (.b false) (.h 18 (.b false) (.r 19 [] [] f3 (.f (nt h0) (.f (nt h0) (.f (nt h1) (.f (nt h1) (.f (nt h1) (.h 20 (.b false) (.h 23 (.b false) (.h 26 (.b false) (.h 28 (.b false) (.h 30 (.b false) (.r 31 [] [] f9 (.f (nt h1) (.f (nt h2) (.h 33 (.b false) (.h 36 (.b false) (.r 42 [] [] f12 (.f h3 (.f h3 (.f h3 (.f h3 (.f h3 (.h 47 (.b true) (.h 49 (.b true) (.h 51 (.b true) (.h 53 (.b true) (.h 56 (.b true) .nil)))))))))))))))))))))))))))))))))
        · try simp only [if_neg h3]
          have f16 : Ev F X (.call 140 [(.oi a0.f3)] [] [] [(.one (.val (.bool (m93 a0.f3 1 9999))))]) := (e140 (a0 := a0.f3))
          by_cases h4 : (!(m93 a0.f3 1 9999)) = true
          · try simp only [if_pos h4]
            exact callP_ok (ps := []) (os := []) (rs := [(.oi 3)]) (by kernel_rfl) (.f (nt h0) (.f (nt h0) (.f (nt h0) (.h 14 (.b false) (.h 16 (.b false) (.h 18 (.b false) (.r 19 [] [] f3 (.f (nt h0) (.f (nt h0) (.f (nt h1) (.f (nt h1) (.f (nt h1) (.h 20 (.b false) (.h 23 (.b false) (.h 26 (.b false) (.h 28 (.b false) (.h 30 (.b false) (.r 31 [] [] f9 (.f (nt h1) (.f (nt h2) (.h 33 (.b false) (.h 36 (.b false) (.r 42 [] [] f12 (.f (nt h3) (.f (nt h3) (.f (nt h3) (.h 47 (.b false) (.h 49 (.b false) (.h 51 (.b false) (.r 52 [] [] f16 (.f (nt h3) (.f (nt h3) (.f h4 (.h 53 (.b false) (.h 56 (.b false) (.h 59 (.b true) .nil))))))))))))))))))))))))))))))))))))
          · try simp only [if_neg h4]
            by_cases h5 : (!(a0.f2.toList == (⟨#[]⟩ : ByteArray).toList)) = true
            · try simp only [if_pos h5]
              by_cases h6 : (a0.f1 == (-1)) = true
              · try simp only [if_pos h6]
                exact callP_ok (ps := []) (os := []) (rs := [(.oi 1)]) (by kernel_rfl) (.f (nt h0) (.f (nt h0) (.f (nt h0) (.h 14 (.b false) (.h 16 (.b false) (.h 18 (.b false) (.r 19 [] [] f3 (.f (nt h0) (.f (nt h0) (.f (nt h1) (.f (nt h1) (.f (nt h1) (.h 20 (.b false) (.h 23 (.b false) (.h 26 (.b false) (.h 28 (.b false) (.h 30 (.b false) (.r 31 [] [] f9 (.f (nt h1) (.f (nt h2) (.h 33 (.b false) (.h 36 (.b false) (.r 42 [] [] f12 (.f (nt h3) (.f (nt h3) (.f (nt h3) (.h 47 (.b false) (.h 49 (.b false) (.h 51 (.b false) (.r 52 [] [] f16 (.f (nt h3) (.f (nt h3) (.f (nt h4) (.f h5 (.f h5 (.f h5 (.f h5 (.f h6 (.h 53 (.b false) (.h 56 (.b false) (.h 59 (.b false) (.h 68 (.b true) (.h 70 (.b true) (.h 72 (.b true) (.h 75 (.b true) (.h 78 (.b true) .nil))))))))))))))))))))))))))))))))))))))))))))))
              · try simp only [if_neg h6]
                by_cases h7 : (a0.f1 != (-1)) = true
                · try simp only [if_pos h7]
                  have f28 : fullL [(.val (.string a0.f0)), (.val (.int .i64 a0.f1)), (.val (.string a0.f2)), (.val (.int .i64 a0.f3))] = true := (by trivial)
                  have f29 : Ev F X (.call 94 [(.one (.bor (l1_0 + 1) (map b_sisi a1))), (.clo 141 [] [(.bptr 0 [(.val (.string a0.f0)), (.i a0.f1), (.val (.string a0.f2)), (.i a0.f3)])])] [] [] [(.one (.val (.bool (decide ((m1014200 a1 a0.f0 a0.f1 a0.f2 a0.f3) ≥ 0)))))]) := (e1009400 (a0 := a1) (a2001 := a0.f0) (a2002 := a0.f1) (a2003 := a0.f2) (a2004 := a0.f3) (by with_reducible assumption))
                  by_cases h8 : (decide ((m1014200 a1 a0.f0 a0.f1 a0.f2 a0.f3) ≥ 0)) = true
                  · try simp only [if_pos h8]
                    exact callP_ok (ps := []) (os := []) (rs := [(.oi 6)]) (by kernel_rfl) (.f (nt h0) (.f (nt h0) (.f (nt h0) (.h 14 (.b false) (.h 16 (.b false) (.h 18 (.b false) (.r 19 [] [] f3 (.f (nt h0) (.f (nt h0) (.f (nt h1) (.f (nt h1) (.f (nt h1) (.h 20 (.b false) (.h 23 (.b false) (.h 26 (.b false) (.h 28 (.b false) (.h 30 (.b false) (.r 31 [] [] f9 (.f (nt h1) (.f (nt h2) (.h 33 (.b false) (.h 36 (.b false) (.r 42 [] [] f12 (.f (nt h3) (.f (nt h3) (.f (nt h3) (.h 47 (.b false) (.h 49 (.b false) (.h 51 (.b false) (.r 52 [] [] f16 (.f (nt h3) (.f (nt h3) (.f (nt h4) (.f h5 (.f h5 (.f h5 (.f h5 (.f (nt h6) (.f h7 (.f h7 (.f h7 (.f f28 (.h 53 (.b false) (.h 56 (.b false) (.h 59 (.b false) (.h 68 (.b true) (.h 70 (.b true) (.h 72 (.b true) (.h 75 (.b true) (.h 78 (.b false) (.h 87 (.b true) (.h 89 (.b true) (.h 91 (.b true) (.r 92 [] [] f29 (.f h7 (.f h8 (.h 94 (.b true) (.h 97 (.b true) .nil))))))))))))))))))))))))))))))))))))))))))))))))))))))))))
                  · try simp only [if_neg h8]
                    exact callP_ok (ps := []) (os := []) (rs := [(.oi 0)]) (by kernel_rfl) (.f (nt h0) (.f (nt h0) (.f (nt h0) (.h 14 (.b false) (.h 16 (.b false) (.h 18 (.b false) (.r 19 [] [] f3 (.f (nt h0) (.f (nt h0) (.f (nt h1) (.f (nt h1) (.f (nt h1) (.h 20 (.b false) (.h 23 (.b false) (.h 26 (.b false) (.h 28 (.b false) (.h 30 (.b false) (.r 31 [] [] f9 (.f (nt h1) (.f (nt h2) (.h 33 (.b false) (.h 36 (.b false) (.r 42 [] [] f12 (.f (nt h3) (.f (nt h3) (.f (nt h3) (.h 47 (.b false) (.h 49 (.b false) (.h 51 (.b false) (.r 52 [] [] f16 (.f (nt h3) (.f (nt h3) (.f (nt h4) (.f h5 (.f h5 (.f h5 (.f h5 (.f (nt h6) (.f h7 (.f h7 (.f h7 (.f f28 (.h 53 (.b false) (.h 56 (.b false) (.h 59 (.b false) (.h 68 (.b true) (.h 70 (.b true) (.h 72 (.b true) (.h 75 (.b true) (.h 78 (.b false) (.h 87 (.b true) (.h 89 (.b true) (.h 91 (.b true) (.r 92 [] [] f29 (.f h7 (.f (nt h8) (.h 94 (.b true) (.h 97 (.b false) .nil))))))))))))))))))))))))))))))))))))))))))))))))))))))))))
                · try simp only [if_neg h7]
                  exact callP_ok (ps := []) (os := []) (rs := [(.oi 0)]) (by kernel_rfl) (.f (nt h0) (.f (nt h0) (.f (nt h0) (.h 14 (.b false) (.h 16 (.b false) (.h 18 (.b false) (.r 19 [] [] f3 (.f (nt h0) (.f (nt h0) (.f (nt h1) (.f (nt h1) (.f (nt h1) (.h 20 (.b false) (.h 23 (.b false) (.h 26 (.b false) (.h 28 (.b false) (.h 30 (.b false) (.r 31 [] [] f9 (.f (nt h1) (.f (nt h2) (.h 33 (.b false) (.h 36 (.b false) (.r 42 [] [] f12 (.f (nt h3) (.f (nt h3) (.f (nt h3) (.h 47 (.b false) (.h 49 (.b false) (.h 51 (.b false) (.r 52 [] [] f16 (.f (nt h3) (.f (nt h3) (.f (nt h4) (.f h5 (.f h5 (.f h5 (.f h5 (.f (nt h6) (.f (nt h7) (.f (nt h7) (.f (nt h7) (.f (nt h7) (.h 53 (.b false) (.h 56 (.b false) (.h 59 (.b false) (.h 68 (.b true) (.h 70 (.b true) (.h 72 (.b true) (.h 75 (.b true) (.h 78 (.b false) (.h 87 (.b false) (.h 89 (.b false) (.h 91 (.b false) (.h 94 (.b false) .nil))))))))))))))))))))))))))))))))))))))))))))))))))))))
            · try simp only [if_neg h5]
              by_cases h6 : (a0.f1 != (-1)) = true
              · try simp only [if_pos h6]
                have f27 : fullL [(.val (.string a0.f0)), (.val (.int .i64 a0.f1)), (.val (.string a0.f2)), (.val (.int .i64 a0.f3))] = true := (by trivial)
                have f28 : Ev F X (.call 94 [(.one (.bor (l1_0 + 1) (map b_sisi a1))), (.clo 141 [] [(.bptr 0 [(.val (.string a0.f0)), (.i a0.f1), (.val (.string a0.f2)), (.i a0.f3)])])] [] [] [(.one (.val (.bool (decide ((m1014200 a1 a0.f0 a0.f1 a0.f2 a0.f3) ≥ 0)))))]) := (e1009400 (a0 := a1) (a2001 := a0.f0) (a2002 := a0.f1) (a2003 := a0.f2) (a2004 := a0.f3) (by with_reducible assumption))
                by_cases h7 : (decide ((m1014200 a1 a0.f0 a0.f1 a0.f2 a0.f3) ≥ 0)) = true
                · try simp only [if_pos h7]
                  exact callP_ok (ps := []) (os := []) (rs := [(.oi 6)]) (by kernel_rfl) (.f (nt h0) (.f (nt h0) (.f (nt h0) (.h 14 (.b false) (.h 16 (.b false) (.h 18 (.b false) (.r 19 [] [] f3 (.f (nt h0) (.f (nt h0) (.f (nt h1) (.f (nt h1) (.f (nt h1) (.h 20 (.b false) (.h 23 (.b false) (.h 26 (.b false) (.h 28 (.b false) (.h 30 (.b false) (.r 31 [] [] f9 (.f (nt h1) (.f (nt h2) (.h 33 (.b false) (.h 36 (.b false) (.r 42 [] [] f12 (.f (nt h3) (.f (nt h3) (.f (nt h3) (.h 47 (.b false) (.h 49 (.b false) (.h 51 (.b false) (.r 52 [] [] f16 (.f (nt h3) (.f (nt h3) (.f (nt h4) (.f (nt h5) (.f (nt h5) (.f (nt h5) (.f (nt h5) (.f h6 (.f h6 (.f h6 (.f f27 (.h 53 (.b false) (.h 56 (.b false) (.h 59 (.b false) (.h 68 (.b false) (.h 70 (.b false) (.h 72 (.b false) (.h 75 (.b false) (.h 87 (.b true) (.h 89 (.b true) (.h 91 (.b true) (.r 92 [] [] f28 (.f h6 (.f h7 (.h 94 (.b true) (.h 97 (.b true) .nil))))))))))))))))))))))))))))))))))))))))))))))))))))))))
                · try simp only [if_neg h7]
                  exact callP_ok (ps := []) (os := []) (rs := [(.oi 0)]) (by kernel_rfl) (.f (nt h0) (.f (nt h0) (.f (nt h0) (.h 14 (.b false) (.h 16 (.b false) (.h 18 (.b false) (.r 19 [] [] f3 (.f (nt h0) (.f (nt h0) (.f (nt h1) (.f (nt h1) (.f (nt h1) (.h 20 (.b false) (.h 23 (.b false) (.h 26 (.b false) (.h 28 (.b false) (.h 30 (.b false) (.r 31 [] [] f9 (.f (nt h1) (.f (nt h2) (.h 33 (.b false) (.h 36 (.b false) (.r 42 [] [] f12 (.f (nt h3) (.f (nt h3) (.f (nt h3) (.h 47 (.b false) (.h 49 (.b false) (.h 51 (.b false) (.r 52 [] [] f16 (.f (nt h3) (.f (nt h3) (.f (nt h4) (.f (nt h5) (.f (nt h5) (.f (nt h5) (.f (nt h5) (.f h6 (.f h6 (.f h6 (.f f27 (.h 53 (.b false) (.h 56 (.b false) (.h 59 (.b false) (.h 68 (.b false) (.h 70 (.b false) (.h 72 (.b false) (.h 75 (.b false) (.h 87 (.b true) (.h 89 (.b true) (.h 91 (.b true) (.r 92 [] [] f28 (.f h6 (.f (nt h7) (.h 94 (.b true) (.h 97 (.b false) .nil))))))))))))))))))))))))))))))))))))))))))))))))))))))))
              · try simp only [if_neg h6]
                exact callP_ok (ps := []) (os := []) (rs := [(.oi 0)]) (by kernel_rfl) (.f (nt h0) (.f (nt h0) (.f (nt h0) (.h 14 (.b false) (.h 16 (.b false) (.h 18 (.b false) (.r 19 [] [] f3 (.f (nt h0) (.f (nt h0) (.f (nt h1) (.f (nt h1) (.f (nt h1) (.h 20 (.b false) (.h 23 (.b false) (.h 26 (.b false) (.h 28 (.b false) (.h 30 (.b false) (.r 31 [] [] f9 (.f (nt h1) (.f (nt h2) (.h 33 (.b false) (.h 36 (.b false) (.r 42 [] [] f12 (.f (nt h3) (.f (nt h3) (.f (nt h3) (.h 47 (.b false) (.h 49 (.b false) (.h 51 (.b false) (.r 52 [] [] f16 (.f (nt h3) (.f (nt h3) (.f (nt h4) (.f (nt h5) (.f (nt h5) (.f (nt h5) (.f (nt h5) (.f (nt h6) (.f (nt h6) (.f (nt h6) (.f (nt h6) (.h 53 (.b false) (.h 56 (.b false) (.h 59 (.b false) (.h 68 (.b false) (.h 70 (.b false) (.h 72 (.b false) (.h 75 (.b false) (.h 87 (.b false) (.h 89 (.b false) (.h 91 (.b false) (.h 94 (.b false) .nil))))))))))))))))))))))))))))))))))))))))))))))))))))
/-! loop 47_0 -/
inductive O47_0 where
  | k0 (w0 : Int) (w1 : Bool)
  | k1 (w0 : Int)
def r47_0 (a0 : K_LsisiEi) : List K_sisi → Int → O47_0
  | x0 :: y0, i =>
    if ((m92 x0 (take (Int.toNat i) a0.f0)) != 0) = true then (O47_0.k1 (m92 x0 (take (Int.toNat i) a0.f0))) else
    (r47_0 a0 y0 (i + 1) )
  | [], i => (O47_0.k0 i (decide (i < ((length (map b_sisi a0.f0)) : Int))))
def h47_0 (l0_0 : Nat) (a0 : K_LsisiEi) (i : Int)  : St := ⟨[(1, (.ptr ⟨(1, 0, 0), [], 0, 0, 2⟩)), (11, (.one (.bor l0_0 (map b_sisi a0.f0)))), (12, (.one (.val (.int .i64 ((length (map b_sisi a0.f0)) : Int))))), (13, (.one (.val (.int .i64 i))))], [((1, 0, 0), .live ⟨2, [[(.bor l0_0 (map b_sisi a0.f0)), (.val (.int .i64 a0.f1))]], []⟩)]⟩
def ex47_0 : O47_0 → VX.Exit
  | .k0 _ _ => (.exit 0)
  | .k1 _ => .ret
def fin47_0 (l0_0 : Nat) (a0 : K_LsisiEi) : O47_0 → St
  | .k0 w0 w1 => ⟨[(1, (.ptr ⟨(1, 0, 0), [], 0, 0, 2⟩)), (11, (.one (.bor l0_0 (map b_sisi a0.f0)))), (12, (.one (.val (.int .i64 ((length (map b_sisi a0.f0)) : Int))))), (13, (.one (.val (.int .i64 w0)))), (14, (.one (.val (.bool w1))))], [((1, 0, 0), .live ⟨2, [[(.bor l0_0 (map b_sisi a0.f0)), (.val (.int .i64 a0.f1))]], []⟩)]⟩
  | .k1 w0 => ⟨[(2, (.one (.val (.int .i64 w0))))], []⟩
theorem t47_0 {l0_0 : Nat} {a0 : K_LsisiEi} (hy0 : length a0.f0 * 48 ≤ 140737488351232) : ∀ (y0 : List K_sisi) (p : List K_sisi) , p ++ y0 = a0.f0 → Ev F X (.code l47_0 (h47_0 l0_0 a0 (length p : Int) ) (ex47_0 (r47_0 a0 y0 (length p : Int) )) (fin47_0 l0_0 a0 (r47_0 a0 y0 (length p : Int) )))
  | [], p, hp0 => by
    have hc : ¬ (decide ((length p : Int) < ((length (map b_sisi a0.f0)) : Int))) = true := by
      rw [← hp0]; simp only [length_map, length_set, length_append, length_replicate, length_cons, length_nil, decide_eq_true_eq]; omega
    have st := codeH_ok (F := F) (X := X) (c := b47_0) (t := 0) (hs := [(2, .b false)]) (σ := h47_0 l0_0 a0 (length p : Int) ) (σ' := fin47_0 l0_0 a0 (.k0 (length p : Int) (decide ((length p : Int) < ((length (map b_sisi a0.f0)) : Int))))) (e := (.exit 0)) (t' := 3) (hs' := []) (q := [(decide ((length p : Int) < ((length (map b_sisi a0.f0)) : Int))) = false]) (by kernel_rfl) ⟨(nt hc), trivial⟩
    exact .loopX st (show ((.exit 0) : VX.Exit) ≠ .normal from by simp)
  | x0 :: y0, p, hp0 => by
    have hc : (decide ((length p : Int) < ((length (map b_sisi a0.f0)) : Int))) = true := by
      rw [← hp0]; simp only [length_map, length_set, length_append, length_replicate, length_cons, length_nil, decide_eq_true_eq]; omega
    have Hx0 : (a0.f0)[Int.toNat (length p : Int)]? = some x0 := by
      rw [← hp0, Int.toNat_natCast]; simp
    have hlen : length (a0.f0) = length p + length y0 + 1 := by rw [← hp0]; simp; omega
    have hw : IntKind.wrap .i64 ((length p : Int) + 1) = (length p : Int) + 1 := wrap64 (by omega)
    simp only [r47_0]
    by_cases h_1 : ((m92 x0 (take (Int.toNat (length p : Int)) a0.f0)) != 0) = true
    · try simp only [if_pos h_1]
      have st := codeH_ok (F := F) (X := X) (c := b47_0) (t := 0) (hs := [(2, .b true), (6, .row [(.val (.string x0.f0)), (.i x0.f1), (.val (.string x0.f2)), (.i x0.f3)]), (26, .ret [] [(.oi (m92 x0 (take (Int.toNat (length p : Int)) a0.f0)))] [] []), (33, .b true)]) (σ := h47_0 l0_0 a0 (length p : Int) ) (σ' := fin47_0 l0_0 a0 (.k1 (m92 x0 (take (Int.toNat (length p : Int)) a0.f0)))) (e := .ret) (t' := 38) (hs' := []) (q := [(decide ((length p : Int) < ((length (map b_sisi a0.f0)) : Int))) = true, 0 ≤ (length p : Int), (map b_sisi a0.f0)[(Int.toNat (length p : Int))]? = some [(.val (.string x0.f0)), (.i x0.f1), (.val (.string x0.f2)), (.i x0.f3)], (0 ≤ (0 : Int) ∧ (0 : Int) ≤ (length p : Int) ∧ (length p : Int) ≤ ((length (map b_sisi a0.f0)) : Int)) ∧ ∀ r ∈ ((map b_sisi a0.f0) : List (List B)), r.length = 4, Ev F X (.call 92 [(.agg [(.val (.string x0.f0)), (.i x0.f1), (.val (.string x0.f2)), (.i x0.f3)]), (.one (.bor (l0_0 + 1) (take (Int.toNat (length p : Int) - Int.toNat 0) (drop 0 (map b_sisi a0.f0)))))] [] [] [(.oi (m92 x0 (take (Int.toNat (length p : Int)) a0.f0)))]), ((m92 x0 (take (Int.toNat (length p : Int)) a0.f0)) != 0) = true]) (by kernel_rfl) ⟨hc, (by omega), (by rw [getElem?_map, Hx0]; rfl), (by refine ⟨?_, lenB_sisi _⟩; simp only [length_map, length_set, length_append, length_replicate, length_cons, length_nil]; omega), (by rw [show (take (Int.toNat (length p : Int) - Int.toNat 0) (drop 0 (map b_sisi a0.f0))) = (map b_sisi (take (Int.toNat (length p : Int)) a0.f0)) from by first | rfl | (simp [map_take, map_drop, ol99, ol52_0]; done) | (simp [byteRows_eq, map_take, map_drop, ol99, ol52_0]; done) | (simp [*, map_take, map_drop, ol99, ol52_0]; done)]; exact (e92 (a0 := x0) (a1 := (take (Int.toNat (length p : Int)) a0.f0)) (by simp only [length_take]; omega))), h_1, trivial⟩
      exact .loopX st (show (.ret : VX.Exit) ≠ .normal from by simp)
    · try simp only [if_neg h_1]
      have st := codeH_ok (F := F) (X := X) (c := b47_0) (t := 0) (hs := [(2, .b true), (6, .row [(.val (.string x0.f0)), (.i x0.f1), (.val (.string x0.f2)), (.i x0.f3)]), (26, .ret [] [(.oi (m92 x0 (take (Int.toNat (length p : Int)) a0.f0)))] [] []), (33, .b false)]) (σ := h47_0 l0_0 a0 (length p : Int) ) (σ' := ⟨[(1, (.ptr ⟨(1, 0, 0), [], 0, 0, 2⟩)), (11, (.one (.bor l0_0 (map b_sisi a0.f0)))), (12, (.oi ((length (map b_sisi a0.f0)) : Int))), (13, (.oi (IntKind.wrap .i64 ((length p : Int) + 1))))], [((1, 0, 0), .live ⟨2, [[(.bor l0_0 (map b_sisi a0.f0)), (.i a0.f1)]], []⟩)]⟩) (e := .normal) (t' := 38) (hs' := []) (q := [(decide ((length p : Int) < ((length (map b_sisi a0.f0)) : Int))) = true, 0 ≤ (length p : Int), (map b_sisi a0.f0)[(Int.toNat (length p : Int))]? = some [(.val (.string x0.f0)), (.i x0.f1), (.val (.string x0.f2)), (.i x0.f3)], (0 ≤ (0 : Int) ∧ (0 : Int) ≤ (length p : Int) ∧ (length p : Int) ≤ ((length (map b_sisi a0.f0)) : Int)) ∧ ∀ r ∈ ((map b_sisi a0.f0) : List (List B)), r.length = 4, Ev F X (.call 92 [(.agg [(.val (.string x0.f0)), (.i x0.f1), (.val (.string x0.f2)), (.i x0.f3)]), (.one (.bor (l0_0 + 1) (take (Int.toNat (length p : Int) - Int.toNat 0) (drop 0 (map b_sisi a0.f0)))))] [] [] [(.oi (m92 x0 (take (Int.toNat (length p : Int)) a0.f0)))]), ((m92 x0 (take (Int.toNat (length p : Int)) a0.f0)) != 0) = false, True]) (by kernel_rfl) ⟨hc, (by omega), (by rw [getElem?_map, Hx0]; rfl), (by refine ⟨?_, lenB_sisi _⟩; simp only [length_map, length_set, length_append, length_replicate, length_cons, length_nil]; omega), (by rw [show (take (Int.toNat (length p : Int) - Int.toNat 0) (drop 0 (map b_sisi a0.f0))) = (map b_sisi (take (Int.toNat (length p : Int)) a0.f0)) from by first | rfl | (simp [map_take, map_drop, ol99, ol52_0]; done) | (simp [byteRows_eq, map_take, map_drop, ol99, ol52_0]; done) | (simp [*, map_take, map_drop, ol99, ol52_0]; done)]; exact (e92 (a0 := x0) (a1 := (take (Int.toNat (length p : Int)) a0.f0)) (by simp only [length_take]; omega))), (nt h_1), trivial, trivial⟩
      have ih := t47_0 (l0_0 := l0_0) (a0 := a0) hy0 y0 (p ++ [x0])  (by rw [append_assoc]; exact hp0)
      rw [show ((p ++ [x0]).length : Int) = (p.length : Int) + 1 from by simp] at ih
      rw [show (⟨[(1, (.ptr ⟨(1, 0, 0), [], 0, 0, 2⟩)), (11, (.one (.bor l0_0 (map b_sisi a0.f0)))), (12, (.oi ((length (map b_sisi a0.f0)) : Int))), (13, (.oi (IntKind.wrap .i64 ((length p : Int) + 1))))], [((1, 0, 0), .live ⟨2, [[(.bor l0_0 (map b_sisi a0.f0)), (.i a0.f1)]], []⟩)]⟩ : St) = h47_0 l0_0 a0 ((length p : Int) + 1)  from (by unfold h47_0; simp only [hw]; done)] at st
      exact .loopN st ih
/-! loop.example/g00539/impl.ServerFault$1 -/
def m1009500 (a0 : K_sisi) (a101001 : List K_sisi) (a101002 : Int) : Bool :=
  (decide (a0.f1 ≥ a101002))
theorem e1009500 {a0 : K_sisi} {l101000 : Nat} {a101001 : List K_sisi} {a101002 : Int} : Ev F X (.call 95 [(.agg [(.val (.string a0.f0)), (.val (.int .i64 a0.f1)), (.val (.string a0.f2)), (.val (.int .i64 a0.f3))]), (.bptr l101000 [(.sl (map b_sisi a101001)), (.val (.int .i64 a101002))])] [] [] [(.one (.val (.bool (decide (a0.f1 ≥ a101002)))))]) := by
  exact callP_ok (ps := []) (os := []) (rs := [(.one (.val (.bool (decide (a0.f1 ≥ a101002)))))]) (by kernel_rfl) .nil
/-! loop 1014201_0 -/
inductive O1014201_0 where
  | k0 (w0 : Int) (w1 : Bool)
  | k1 (w0 : Int)
def r1014201_0 (a0 : (List K_sisi)) (a2002 : Int) : List K_sisi → Int → O1014201_0
  | x0 :: y0, i =>
    if (decide (x0.f1 ≥ a2002)) = true then (O1014201_0.k1 i) else
    (r1014201_0 a0 a2002 y0 (i + 1) )
  | [], i => (O1014201_0.k0 i (decide (i < ((length (map b_sisi a0)) : Int))))
def h1014201_0 (l0_0 : Nat) (l2000 : Nat) (a0 : (List K_sisi)) (a2001 : List K_sisi) (a2002 : Int) (i : Int)  : St := ⟨[(0, (.one (.bor l0_0 (map b_sisi a0)))), (1, (.clo 95 [] [(.bptr l2000 [(.sl (map b_sisi a2001)), (.val (.int .i64 a2002))])])), (7, (.one (.val (.int .i64 ((length (map b_sisi a0)) : Int))))), (8, (.one (.val (.int .i64 i))))], []⟩
def ex1014201_0 : O1014201_0 → VX.Exit
  | .k0 _ _ => (.exit 0)
  | .k1 _ => .ret
def fin1014201_0 (l0_0 : Nat) (l2000 : Nat) (a0 : (List K_sisi)) (a2001 : List K_sisi) (a2002 : Int) : O1014201_0 → St
  | .k0 w0 w1 => ⟨[(0, (.one (.bor l0_0 (map b_sisi a0)))), (1, (.clo 95 [] [(.bptr l2000 [(.sl (map b_sisi a2001)), (.val (.int .i64 a2002))])])), (7, (.one (.val (.int .i64 ((length (map b_sisi a0)) : Int))))), (8, (.one (.val (.int .i64 w0)))), (9, (.one (.val (.bool w1))))], []⟩
  | .k1 w0 => ⟨[(4, (.one (.val (.int .i64 w0))))], []⟩
theorem t1014201_0 {l0_0 : Nat} {l2000 : Nat} {a0 : (List K_sisi)} {a2001 : List K_sisi} {a2002 : Int} (hy0 : length a0 * 48 ≤ 140737488351232) (hy1 : length a2001 * 48 ≤ 140737488351232) : ∀ (y0 : List K_sisi) (p : List K_sisi) , p ++ y0 = a0 → Ev F X (.code l142_0 (h1014201_0 l0_0 l2000 a0 a2001 a2002 (length p : Int) ) (ex1014201_0 (r1014201_0 a0 a2002 y0 (length p : Int) )) (fin1014201_0 l0_0 l2000 a0 a2001 a2002 (r1014201_0 a0 a2002 y0 (length p : Int) )))
  | [], p, hp0 => by
    have hc : ¬ (decide ((length p : Int) < ((length (map b_sisi a0)) : Int))) = true := by
      rw [← hp0]; simp only [length_map, length_set, length_append, length_replicate, length_cons, length_nil, decide_eq_true_eq]; omega
    have st := codeH_ok (F := F) (X := X) (c := b142_0) (t := 0) (hs := [(2, .b false)]) (σ := h1014201_0 l0_0 l2000 a0 a2001 a2002 (length p : Int) ) (σ' := fin1014201_0 l0_0 l2000 a0 a2001 a2002 (.k0 (length p : Int) (decide ((length p : Int) < ((length (map b_sisi a0)) : Int))))) (e := (.exit 0)) (t' := 3) (hs' := []) (q := [(decide ((length p : Int) < ((length (map b_sisi a0)) : Int))) = false]) (by kernel_rfl) ⟨(nt hc), trivial⟩
    exact .loopX st (show ((.exit 0) : VX.Exit) ≠ .normal from by simp)
  | x0 :: y0, p, hp0 => by
    have hc : (decide ((length p : Int) < ((length (map b_sisi a0)) : Int))) = true := by
      rw [← hp0]; simp only [length_map, length_set, length_append, length_replicate, length_cons, length_nil, decide_eq_true_eq]; omega
    have Hx0 : (a0)[Int.toNat (length p : Int)]? = some x0 := by
      rw [← hp0, Int.toNat_natCast]; simp
    have hlen : length (a0) = length p + length y0 + 1 := by rw [← hp0]; simp; omega
    have hw : IntKind.wrap .i64 ((length p : Int) + 1) = (length p : Int) + 1 := wrap64 (by omega)
    simp only [r1014201_0]
    by_cases h_1 : (decide (x0.f1 ≥ a2002)) = true
    · try simp only [if_pos h_1]
      have st := codeH_ok (F := F) (X := X) (c := b142_0) (t := 0) (hs := [(2, .b true), (14, .row [(.val (.string x0.f0)), (.i x0.f1), (.val (.string x0.f2)), (.i x0.f3)]), (18, .ret [] [(.one (.val (.bool (decide (x0.f1 ≥ a2002)))))] [] []), (19, .b true)]) (σ := h1014201_0 l0_0 l2000 a0 a2001 a2002 (length p : Int) ) (σ' := fin1014201_0 l0_0 l2000 a0 a2001 a2002 (.k1 (length p : Int))) (e := .ret) (t' := 24) (hs' := []) (q := [(decide ((length p : Int) < ((length (map b_sisi a0)) : Int))) = true, 0 ≤ (length p : Int), (map b_sisi a0)[(Int.toNat (length p : Int))]? = some [(.val (.string x0.f0)), (.i x0.f1), (.val (.string x0.f2)), (.i x0.f3)], Ev F X (.call 95 [(.agg [(.val (.string x0.f0)), (.i x0.f1), (.val (.string x0.f2)), (.i x0.f3)]), (.bptr (l2000 + 1) [(.sl (map b_sisi a2001)), (.i a2002)])] [] [] [(.one (.val (.bool (decide (x0.f1 ≥ a2002)))))]), (decide (x0.f1 ≥ a2002)) = true]) (by kernel_rfl) ⟨hc, (by omega), (by rw [getElem?_map, Hx0]; rfl), (e1009500 (a0 := x0) (a101001 := a2001) (a101002 := a2002)), h_1, trivial⟩
      exact .loopX st (show (.ret : VX.Exit) ≠ .normal from by simp)
    · try simp only [if_neg h_1]
      have st := codeH_ok (F := F) (X := X) (c := b142_0) (t := 0) (hs := [(2, .b true), (14, .row [(.val (.string x0.f0)), (.i x0.f1), (.val (.string x0.f2)), (.i x0.f3)]), (18, .ret [] [(.one (.val (.bool (decide (x0.f1 ≥ a2002)))))] [] []), (19, .b false)]) (σ := h1014201_0 l0_0 l2000 a0 a2001 a2002 (length p : Int) ) (σ' := ⟨[(0, (.one (.bor l0_0 (map b_sisi a0)))), (1, (.clo 95 [] [(.bptr l2000 [(.sl (map b_sisi a2001)), (.i a2002)])])), (7, (.oi ((length (map b_sisi a0)) : Int))), (8, (.oi (IntKind.wrap .i64 ((length p : Int) + 1))))], []⟩) (e := .normal) (t' := 24) (hs' := []) (q := [(decide ((length p : Int) < ((length (map b_sisi a0)) : Int))) = true, 0 ≤ (length p : Int), (map b_sisi a0)[(Int.toNat (length p : Int))]? = some [(.val (.string x0.f0)), (.i x0.f1), (.val (.string x0.f2)), (.i x0.f3)], Ev F X (.call 95 [(.agg [(.val (.string x0.f0)), (.i x0.f1), (.val (.string x0.f2)), (.i x0.f3)]), (.bptr (l2000 + 1) [(.sl (map b_sisi a2001)), (.i a2002)])] [] [] [(.one (.val (.bool (decide (x0.f1 ≥ a2002)))))]), (decide (x0.f1 ≥ a2002)) = false, True]) (by kernel_rfl) ⟨hc, (by omega), (by rw [getElem?_map, Hx0]; rfl), (e1009500 (a0 := x0) (a101001 := a2001) (a101002 := a2002)), (nt h_1), trivial, trivial⟩
      have ih := t1014201_0 (l0_0 := l0_0) (l2000 := l2000) (a0 := a0) (a2001 := a2001) (a2002 := a2002) hy0 hy1 y0 (p ++ [x0])  (by rw [append_assoc]; exact hp0)
      rw [show ((p ++ [x0]).length : Int) = (p.length : Int) + 1 from by simp] at ih
      rw [show (⟨[(0, (.one (.bor l0_0 (map b_sisi a0)))), (1, (.clo 95 [] [(.bptr l2000 [(.sl (map b_sisi a2001)), (.i a2002)])])), (7, (.oi ((length (map b_sisi a0)) : Int))), (8, (.oi (IntKind.wrap .i64 ((length p : Int) + 1))))], []⟩ : St) = h1014201_0 l0_0 l2000 a0 a2001 a2002 ((length p : Int) + 1)  from (by unfold h1014201_0; simp only [hw]; done)] at st
      exact .loopN st ih
/-! slices.IndexFunc[[]loop.example/g00539/impl.Session,loop.example/g00539/impl.Session] -/
def m1014201 (a0 : (List K_sisi)) (a2001 : List K_sisi) (a2002 : Int) : Int :=
  (match r1014201_0 a0 a2002 a0 0 with | .k0 w0_0 w1_0 => (-1) | .k1 w0_0 => w0_0)
theorem e1014201 {l0_0 : Nat} {a0 : (List K_sisi)} {l2000 : Nat} {a2001 : List K_sisi} {a2002 : Int} (hy0 : length a0 * 48 ≤ 140737488351232) (hy1 : length a2001 * 48 ≤ 140737488351232) : Ev F X (.call 142 [(.one (.bor l0_0 (map b_sisi a0))), (.clo 95 [] [(.bptr l2000 [(.sl (map b_sisi a2001)), (.val (.int .i64 a2002))])])] [] [] [(.one (.val (.int .i64 (m1014201 a0 a2001 a2002))))]) := by
  unfold m1014201
  cases h0 : r1014201_0 a0 a2002 a0 0 with
  | k0 w0_0 w1_0 =>
    try dsimp only
    have f0 : (⟨[(0, (.one (.bor l0_0 (map b_sisi a0)))), (1, (.clo 95 [] [(.bptr l2000 [(.sl (map b_sisi a2001)), (.i a2002)])])), (7, (.oi ((length (map b_sisi a0)) : Int))), (8, (.oi 0))], []⟩ : St) = h1014201_0 l0_0 l2000 a0 a2001 a2002 0  := (by rfl)
    have f1 : Ev F X (.code l142_0 (h1014201_0 l0_0 l2000 a0 a2001 a2002 0 ) (.exit 0) ⟨[(0, (.one (.bor l0_0 (map b_sisi a0)))), (1, (.clo 95 [] [(.bptr l2000 [(.sl (map b_sisi a2001)), (.i a2002)])])), (7, (.oi ((length (map b_sisi a0)) : Int))), (8, (.oi w0_0)), (9, (.one (.val (.bool w1_0))))], []⟩) := (by have t : Ev F X (.code l142_0 (h1014201_0 l0_0 l2000 a0 a2001 a2002 0 ) (ex1014201_0 (r1014201_0 a0 a2002 a0 0)) (fin1014201_0 l0_0 l2000 a0 a2001 a2002 (r1014201_0 a0 a2002 a0 0))) := t1014201_0 (l0_0 := l0_0) (l2000 := l2000) (a0 := a0) (a2001 := a2001) (a2002 := a2002) (by assumption) (by assumption) a0 []  rfl; rw [h0] at t; exact t)
    exact callP_ok (ps := []) (os := []) (rs := [(.oi (-1))]) (by kernel_rfl) (.f f0 (.f f1 (.h 8 (.loop (h1014201_0 l0_0 l2000 a0 a2001 a2002 0 ) (.exit 0) ⟨[(0, (.one (.bor l0_0 (map b_sisi a0)))), (1, (.clo 95 [] [(.bptr l2000 [(.sl (map b_sisi a2001)), (.i a2002)])])), (7, (.oi ((length (map b_sisi a0)) : Int))), (8, (.oi w0_0)), (9, (.one (.val (.bool w1_0))))], []⟩) .nil)))
  | k1 w0_0 =>
    try dsimp only
    have f0 : (⟨[(0, (.one (.bor l0_0 (map b_sisi a0)))), (1, (.clo 95 [] [(.bptr l2000 [(.sl (map b_sisi a2001)), (.i a2002)])])), (7, (.oi ((length (map b_sisi a0)) : Int))), (8, (.oi 0))], []⟩ : St) = h1014201_0 l0_0 l2000 a0 a2001 a2002 0  := (by rfl)
    have f1 : Ev F X (.code l142_0 (h1014201_0 l0_0 l2000 a0 a2001 a2002 0 ) .ret ⟨[(4, (.oi w0_0))], []⟩) := (by have t : Ev F X (.code l142_0 (h1014201_0 l0_0 l2000 a0 a2001 a2002 0 ) (ex1014201_0 (r1014201_0 a0 a2002 a0 0)) (fin1014201_0 l0_0 l2000 a0 a2001 a2002 (r1014201_0 a0 a2002 a0 0))) := t1014201_0 (l0_0 := l0_0) (l2000 := l2000) (a0 := a0) (a2001 := a2001) (a2002 := a2002) (by assumption) (by assumption) a0 []  rfl; rw [h0] at t; exact t)
    exact callP_ok (ps := []) (os := []) (rs := [(.oi w0_0)]) (by kernel_rfl) (.f f0 (.f f1 (.h 8 (.loop (h1014201_0 l0_0 l2000 a0 a2001 a2002 0 ) .ret ⟨[(4, (.oi w0_0))], []⟩) .nil)))
theorem ixr1014201_0 (a0 : (List K_sisi)) (a2002 : Int) : ∀ (l : List K_sisi) (i : Int), (∃ (w0 : _) (w1 : _), r1014201_0 a0 a2002 l i = .k0 w0 w1) ∨ (∃ w, r1014201_0 a0 a2002 l i = .k1 w ∧ i ≤ w ∧ w < i + l.length)
  | [], i => .inl ⟨i, (decide (i < ((length (map b_sisi a0)) : Int))), rfl⟩
  | x :: l, i => by
    have ih := ixr1014201_0 a0 a2002 l (i + 1)
    simp only [r1014201_0]
    (repeat' split)
    all_goals first
      | exact .inr ⟨i, rfl, by omega, by simp only [length_cons]; omega⟩
      | (rcases ih with ⟨w0, w1, h⟩ | ⟨w, h, h1, h2⟩
         · exact .inl ⟨w0, w1, h⟩
         · exact .inr ⟨w, h, by omega, by simp only [length_cons]; omega⟩)
theorem ix1014201 (a0 : (List K_sisi)) (a2001 : List K_sisi) (a2002 : Int) : -1 ≤ m1014201 a0 a2001 a2002 ∧ m1014201 a0 a2001 a2002 < (length a0 : Int) := by
  unfold m1014201
  rcases ixr1014201_0 a0 a2002 a0 0 with ⟨w0, w1, h⟩ | ⟨w, h, h1, h2⟩ <;> simp only [h] <;> omega
/-! slices.ContainsFunc[[]loop.example/g00539/impl.Session,loop.example/g00539/impl.Session] -/
def m1009401 (a0 : (List K_sisi)) (a2001 : List K_sisi) (a2002 : Int) : Bool :=
  (decide ((m1014201 a0 a2001 a2002) ≥ 0))
theorem e1009401 {l0_0 : Nat} {a0 : (List K_sisi)} {l2000 : Nat} {a2001 : List K_sisi} {a2002 : Int} (hy0 : length a0 * 48 ≤ 140737488351232) (hy1 : length a2001 * 48 ≤ 140737488351232) : Ev F X (.call 94 [(.one (.bor l0_0 (map b_sisi a0))), (.clo 95 [] [(.bptr l2000 [(.sl (map b_sisi a2001)), (.val (.int .i64 a2002))])])] [] [] [(.one (.val (.bool (decide ((m1014201 a0 a2001 a2002) ≥ 0)))))]) := by
  have f0 : Ev F X (.call 142 [(.one (.bor (l0_0 + 1) (map b_sisi a0))), (.clo 95 [] [(.bptr (l2000 + 1) [(.sl (map b_sisi a2001)), (.i a2002)])])] [] [] [(.oi (m1014201 a0 a2001 a2002))]) := (e1014201 (a0 := a0) (a2001 := a2001) (a2002 := a2002) (by with_reducible assumption) (by with_reducible assumption))
  exact callP_ok (ps := []) (os := []) (rs := [(.one (.val (.bool (decide ((m1014201 a0 a2001 a2002) ≥ 0)))))]) (by kernel_rfl) (.r 7 [] [] f0 .nil)
/-! loop.example/g00539/impl.ServerFault -/
def m47 (a0 : K_LsisiEi) : Int :=
  if (decide (((length (map b_sisi a0.f0)) : Int) > 4)) = true then 2 else
  (match r47_0 a0 a0.f0 0 with | .k0 w0_1 w1_1 => (if (!(m93 a0.f1 0 999)) = true then 3 else if (decide ((m1014201 a0.f0 a0.f0 a0.f1) ≥ 0)) = true then 3 else 0) | .k1 w0_1 => w0_1)
theorem e47 {l0_0 : Nat} {a0 : K_LsisiEi} (hy0 : length a0.f0 * 48 ≤ 140737488351232) : Ev F X (.call 47 [(.agg [(.bor l0_0 (map b_sisi a0.f0)), (.val (.int .i64 a0.f1))])] [] [] [(.one (.val (.int .i64 (m47 a0))))]) := by
  unfold m47
  by_cases h0 : (decide (((length (map b_sisi a0.f0)) : Int) > 4)) = true
  · try simp only [if_pos h0]
    exact callP_ok (ps := []) (os := []) (rs := [(.oi 2)]) (by kernel_rfl) (.f h0 (.h 12 (.b true) .nil))
  · try simp only [if_neg h0]
    cases h1 : r47_0 a0 a0.f0 0 with
    | k0 w0_1 w1_1 =>
      try dsimp only
      have f1 : (⟨[(1, (.ptr ⟨(1, 0, 0), [], 0, 0, 2⟩)), (11, (.one (.bor l0_0 (map b_sisi a0.f0)))), (12, (.oi ((length (map b_sisi a0.f0)) : Int))), (13, (.oi 0))], [((1, 0, 0), .live ⟨2, [[(.bor l0_0 (map b_sisi a0.f0)), (.i a0.f1)]], []⟩)]⟩ : St) = h47_0 l0_0 a0 0  := (by rfl)
      have f2 : Ev F X (.code l47_0 (h47_0 l0_0 a0 0 ) (.exit 0) ⟨[(1, (.ptr ⟨(1, 0, 0), [], 0, 0, 2⟩)), (11, (.one (.bor l0_0 (map b_sisi a0.f0)))), (12, (.oi ((length (map b_sisi a0.f0)) : Int))), (13, (.oi w0_1)), (14, (.one (.val (.bool w1_1))))], [((1, 0, 0), .live ⟨2, [[(.bor l0_0 (map b_sisi a0.f0)), (.i a0.f1)]], []⟩)]⟩) := (by have t : Ev F X (.code l47_0 (h47_0 l0_0 a0 0 ) (ex47_0 (r47_0 a0 a0.f0 0)) (fin47_0 l0_0 a0 (r47_0 a0 a0.f0 0))) := t47_0 (l0_0 := l0_0) (a0 := a0) (by assumption) a0.f0 []  rfl; rw [h1] at t; exact t)
      have f3 : Ev F X (.call 93 [(.oi a0.f1), (.oi 0), (.oi 999)] [] [] [(.one (.val (.bool (m93 a0.f1 0 999))))]) := (e93 (a0 := a0.f1) (a1 := 0) (a2 := 999))
      by_cases h2 : (!(m93 a0.f1 0 999)) = true
      · try simp only [if_pos h2]
        exact callP_ok (ps := []) (os := []) (rs := [(.oi 3)]) (by kernel_rfl) (.f (nt h0) (.f f1 (.f f2 (.h 12 (.b false) (.h 21 (.loop (h47_0 l0_0 a0 0 ) (.exit 0) ⟨[(1, (.ptr ⟨(1, 0, 0), [], 0, 0, 2⟩)), (11, (.one (.bor l0_0 (map b_sisi a0.f0)))), (12, (.oi ((length (map b_sisi a0.f0)) : Int))), (13, (.oi w0_1)), (14, (.one (.val (.bool w1_1))))], [((1, 0, 0), .live ⟨2, [[(.bor l0_0 (map b_sisi a0.f0)), (.i a0.f1)]], []⟩)]⟩) (.r 27 [] [] f3 (.f h2 (.f h2 (.f h2 (.f h2 (.f h2 (.h 32 (.b true) (.h 34 (.b true) (.h 36 (.b true) (.h 38 (.b true) (.h 41 (.b true) .nil))))))))))))))))
      · try simp only [if_neg h2]
        have f8 : fullL [(.bor l0_0 (map b_sisi a0.f0)), (.val (.int .i64 a0.f1))] = true := (by trivial)
        have f9 : Ev F X (.call 94 [(.one (.bor (l0_0 + 1) (map b_sisi a0.f0))), (.clo 95 [] [(.bptr 0 [(.sl (map b_sisi a0.f0)), (.i a0.f1)])])] [] [] [(.one (.val (.bool (decide ((m1014201 a0.f0 a0.f0 a0.f1) ≥ 0)))))]) := (e1009401 (a0 := a0.f0) (a2001 := a0.f0) (a2002 := a0.f1) (by with_reducible assumption) (by with_reducible assumption))
        by_cases h3 : (decide ((m1014201 a0.f0 a0.f0 a0.f1) ≥ 0)) = true
        · try simp only [if_pos h3]
          exact callP_ok (ps := []) (os := []) (rs := [(.oi 3)]) (by kernel_rfl) (.f (nt h0) (.f f1 (.f f2 (.h 12 (.b false) (.h 21 (.loop (h47_0 l0_0 a0 0 ) (.exit 0) ⟨[(1, (.ptr ⟨(1, 0, 0), [], 0, 0, 2⟩)), (11, (.one (.bor l0_0 (map b_sisi a0.f0)))), (12, (.oi ((length (map b_sisi a0.f0)) : Int))), (13, (.oi w0_1)), (14, (.one (.val (.bool w1_1))))], [((1, 0, 0), .live ⟨2, [[(.bor l0_0 (map b_sisi a0.f0)), (.i a0.f1)]], []⟩)]⟩) (.r 27 [] [] f3 (.f (nt h2) (.f (nt h2) (.f (nt h2) (.f (nt h2) (.f f8 (.h 32 (.b false) (.h 34 (.b false) (.h 36 (.b false) (.h 38 (.b false) (.r 39 [] [] f9 (.f (nt h2) (.f h3 (.h 41 (.b false) (.h 42 (.b true) .nil))))))))))))))))))))
        · try simp only [if_neg h3]
          exact callP_ok (ps := []) (os := []) (rs := [(.oi 0)]) (by kernel_rfl) (.f (nt h0) (.f f1 (.f f2 (.h 12 (.b false) (.h 21 (.loop (h47_0 l0_0 a0 0 ) (.exit 0) ⟨[(1, (.ptr ⟨(1, 0, 0), [], 0, 0, 2⟩)), (11, (.one (.bor l0_0 (map b_sisi a0.f0)))), (12, (.oi ((length (map b_sisi a0.f0)) : Int))), (13, (.oi w0_1)), (14, (.one (.val (.bool w1_1))))], [((1, 0, 0), .live ⟨2, [[(.bor l0_0 (map b_sisi a0.f0)), (.i a0.f1)]], []⟩)]⟩) (.r 27 [] [] f3 (.f (nt h2) (.f (nt h2) (.f (nt h2) (.f (nt h2) (.f f8 (.h 32 (.b false) (.h 34 (.b false) (.h 36 (.b false) (.h 38 (.b false) (.r 39 [] [] f9 (.f (nt h2) (.f (nt h3) (.h 41 (.b false) (.h 42 (.b false) .nil))))))))))))))))))))
    | k1 w0_1 =>
      try dsimp only
      have f1 : (⟨[(1, (.ptr ⟨(1, 0, 0), [], 0, 0, 2⟩)), (11, (.one (.bor l0_0 (map b_sisi a0.f0)))), (12, (.oi ((length (map b_sisi a0.f0)) : Int))), (13, (.oi 0))], [((1, 0, 0), .live ⟨2, [[(.bor l0_0 (map b_sisi a0.f0)), (.i a0.f1)]], []⟩)]⟩ : St) = h47_0 l0_0 a0 0  := (by rfl)
      have f2 : Ev F X (.code l47_0 (h47_0 l0_0 a0 0 ) .ret ⟨[(2, (.oi w0_1))], []⟩) := (by have t : Ev F X (.code l47_0 (h47_0 l0_0 a0 0 ) (ex47_0 (r47_0 a0 a0.f0 0)) (fin47_0 l0_0 a0 (r47_0 a0 a0.f0 0))) := t47_0 (l0_0 := l0_0) (a0 := a0) (by assumption) a0.f0 []  rfl; rw [h1] at t; exact t)
      exact callP_ok (ps := []) (os := []) (rs := [(.oi w0_1)]) (by kernel_rfl) (.f (nt h0) (.f f1 (.f f2 (.h 12 (.b false) (.h 21 (.loop (h47_0 l0_0 a0 0 ) .ret ⟨[(2, (.oi w0_1))], []⟩) .nil)))))
/-! slices.Clone[[]loop.example/g00539/impl.Session,loop.example/g00539/impl.Session] -/
theorem e145 {a0 : List K_sisi} {l0 : Nat} (hy0 : length a0 * 48 ≤ 70368744177664) : Ev F X (.call 145 [(.one (.bor l0 (map b_sisi a0)))] [] [] [(.one (.own 4 (map d_sisi a0)))]) := by
  refine .ext (.inl ⟨rfl, ?_⟩)
  have e : fromBR l0 (map b_sisi a0) = map d_sisi a0 := by first | exact fromBR_sisi .. | simp [fromBR_sisi]
  refine ⟨l0, _, rfl, by rw [e], by rw [e]; simpa using hy0, by rw [e]; exact lenD_sisi _, by rw [e]; first | exact pureR_sisi _ | simp [pureR_sisi]⟩
/-! loop.example/g00539/impl.cloneServer -/
def m104 (a0 : K_LsisiEi) : K_LsisiEi :=
  a0
theorem e104 {l0_0 : Nat} {a0 : K_LsisiEi} (hy0 : length a0.f0 * 48 ≤ 70368744177664) : Ev F X (.call 104 [(.agg [(.bor l0_0 (map b_sisi a0.f0)), (.val (.int .i64 a0.f1))])] [] [] [(.agg [(.own 4 (map d_sisi a0.f0)), (.val (.int .i64 a0.f1))])]) := by
  have f0 : Ev F X (.call 145 [(.one (.bor (l0_0 + 1) (map b_sisi a0.f0)))] [] [] [(.one (.own 4 (map d_sisi a0.f0)))]) := (e145 (a0 := a0.f0) (by with_reducible assumption))
  have f1 : 0 = 0 := rfl
  have f2 : (length (map d_sisi a0.f0)) = (length (map d_sisi a0.f0)) := rfl
  have f3 : pureR (map d_sisi a0.f0) = true := (pureR_sisi _)
  exact callP_ok (ps := []) (os := []) (rs := [(.agg [(.own 4 (map d_sisi a0.f0)), (.i a0.f1)])]) (by kernel_rfl) (.r 9 [] [] f0 (.f f1 (.f f2 (.f f3 .nil))))
/-! loop.example/g00539/impl.OpenSession -/
def m56 (a0 : K_LsisiEi) : K_iLsELiisiiiiELsisiEi :=
  if ((m47 a0) != 0) = true then (K_iLsELiisiiiiELsisiEi.mk (m47 a0) [] [] [] 0) else
  if (decide (((length (map b_sisi a0.f0)) : Int) ≥ 4)) = true then (K_iLsELiisiiiiELsisiEi.mk 10 [] [] [] 0) else
    (K_iLsELiisiiiiELsisiEi.mk 0 [] [] (a0.f0 ++ ([(K_sisi.mk (⟨#[]⟩ : ByteArray) (-1) (⟨#[]⟩ : ByteArray) 1)])) a0.f1)
theorem e56 {l0_0 : Nat} {a0 : K_LsisiEi} (hy0 : length a0.f0 * 48 ≤ 140737488351232) : Ev F X (.call 56 [(.agg [(.bor l0_0 (map b_sisi a0.f0)), (.val (.int .i64 a0.f1))])] [] [] [(.agg [(.val (.int .i64 ((m56 a0).f0))), (.own 1 (map d_s ((m56 a0).f1))), (.own 7 (map d_iisiiii ((m56 a0).f2))), (.own 4 (map d_sisi ((m56 a0).f3))), (.val (.int .i64 ((m56 a0).f4)))])]) := by
  unfold m56
  have f0 : Ev F X (.call 47 [(.agg [(.bor (l0_0 + 1) (map b_sisi a0.f0)), (.i a0.f1)])] [] [] [(.oi (m47 a0))]) := (e47 (a0 := a0) (by with_reducible assumption))
  by_cases h0 : ((m47 a0) != 0) = true
  · try simp only [if_pos h0]
    have f2 : pureR [] = true := (by trivial)
    have f3 : pureR [] = true := (by with_reducible assumption)
    have f4 : pureR [] = true := (by with_reducible assumption)
    exact callP_ok (ps := []) (os := []) (rs := [(.agg [(.i (m47 a0)), (.own 1 []), (.own 7 []), (.own 4 []), (.i 0)])]) (by kernel_rfl) (.r 7 [] [] f0 (.f h0 (.f f2 (.f f3 (.f f4 (.h 16 (.b true) .nil))))))
  · try simp only [if_neg h0]
    by_cases h1 : (decide (((length (map b_sisi a0.f0)) : Int) ≥ 4)) = true
    · try simp only [if_pos h1]
      have f3 : pureR [] = true := (by trivial)
      have f4 : pureR [] = true := (by with_reducible assumption)
      have f5 : pureR [] = true := (by with_reducible assumption)
      exact callP_ok (ps := []) (os := []) (rs := [(.agg [(.i 10), (.own 1 []), (.own 7 []), (.own 4 []), (.i 0)])]) (by kernel_rfl) (.r 7 [] [] f0 (.f (nt h0) (.f h1 (.f f3 (.f f4 (.f f5 (.h 16 (.b false) (.h 27 (.b true) .nil))))))))
    · try simp only [if_neg h1]
      have f3 : Ev F X (.call 104 [(.agg [(.bor (l0_0 + 1) (map b_sisi a0.f0)), (.i a0.f1)])] [] [] [(.agg [(.own 4 (map d_sisi a0.f0)), (.i a0.f1)])]) := (e104 (a0 := a0) (by have q : length a0.f0 < 4 := (by simp only [decide_eq_true_eq, length_map] at *; omega); omega))
      have f4 : 0 = 0 := rfl
      have f5 : (length (map d_sisi a0.f0)) = (length (map d_sisi a0.f0)) := rfl
      have f6 : 0 + (length (map d_sisi a0.f0)) ≤ (length (map d_sisi a0.f0)) := (by omega)
      have f7 : 1 ≤ 1 := (by omega)
      have f8 : ((take 1 (drop 0 [[(.val (.string (⟨#[]⟩ : ByteArray))), (.val (.int .i64 (-1))), (.val (.string (⟨#[]⟩ : ByteArray))), (.val (.int .i64 1))]])).all fun x => x.all copyable) = true := (by trivial)
      have f9 : (length ((take (length (map d_sisi a0.f0)) (drop 0 (map d_sisi a0.f0))) ++ ([[(.val (.string (⟨#[]⟩ : ByteArray))), (.val (.int .i64 (-1))), (.val (.string (⟨#[]⟩ : ByteArray))), (.val (.int .i64 1))]] : List (List D)))) * 48 ≤ 70368744177664 := (by have q : length a0.f0 < 4 := (by simp only [decide_eq_true_eq, length_map] at *; omega); simp only [List.nil_append, length_append, length_take, length_drop, length_map, length_cons, length_nil]; omega)
      have f10 : ∀ r ∈ ([[(.val (.string (⟨#[]⟩ : ByteArray))), (.val (.int .i64 (-1))), (.val (.string (⟨#[]⟩ : ByteArray))), (.val (.int .i64 1))]] : List (List D)), r.length = 4 := (by simp [ol99, ol52_0]; done)
      have f11 : 0 = 0 := rfl
      have f12 : (length ((take (length (map d_sisi a0.f0)) (drop 0 (map d_sisi a0.f0))) ++ ([[(.val (.string (⟨#[]⟩ : ByteArray))), (.val (.int .i64 (-1))), (.val (.string (⟨#[]⟩ : ByteArray))), (.val (.int .i64 1))]] : List (List D)))) = (length ((take (length (map d_sisi a0.f0)) (drop 0 (map d_sisi a0.f0))) ++ ([[(.val (.string (⟨#[]⟩ : ByteArray))), (.val (.int .i64 (-1))), (.val (.string (⟨#[]⟩ : ByteArray))), (.val (.int .i64 1))]] : List (List D)))) := rfl
      have f13 : ([[(.own 4 ((take (length (map d_sisi a0.f0)) (drop 0 (map d_sisi a0.f0))) ++ ([[(.val (.string (⟨#[]⟩ : ByteArray))), (.val (.int .i64 (-1))), (.val (.string (⟨#[]⟩ : ByteArray))), (.val (.int .i64 1))]] : List (List D)))), (.val (.int .i64 a0.f1))]] : List (List D)) = [[(.own 4 (map d_sisi (a0.f0 ++ ([(K_sisi.mk (⟨#[]⟩ : ByteArray) (-1) (⟨#[]⟩ : ByteArray) 1)])))), (.val (.int .i64 a0.f1))]] := (by simp [byteRows_eq, ints_y, take_of_length_le, d_sisi, d_LsisiEi, d_b, d_i, d_s, d_iisiiii, d_iLsELiisiiiiELsisiEi, d_LsisiE, d_LsE, d_LiisiiiiE, d_y, fromBR_sisi, fromBR_b, fromBR_i, fromBR_s, fromBR_iisiiii, fromBR_y, ol99, ol52_0]; done)
      have f14 : 0 = 0 := rfl
      have f15 : (length (map d_sisi (a0.f0 ++ ([(K_sisi.mk (⟨#[]⟩ : ByteArray) (-1) (⟨#[]⟩ : ByteArray) 1)])))) = (length (map d_sisi (a0.f0 ++ ([(K_sisi.mk (⟨#[]⟩ : ByteArray) (-1) (⟨#[]⟩ : ByteArray) 1)])))) := rfl
      have f16 : pureR [] = true := (by assumption)
      have f17 : pureR [] = true := (by with_reducible assumption)
      have f18 : pureR (map d_sisi (a0.f0 ++ ([(K_sisi.mk (⟨#[]⟩ : ByteArray) (-1) (⟨#[]⟩ : ByteArray) 1)]))) = true := (pureR_sisi _)
      exact callP_ok (ps := []) (os := []) (rs := [(.agg [(.i 0), (.own 1 []), (.own 7 []), (.own 4 (map d_sisi (a0.f0 ++ ([(K_sisi.mk (⟨#[]⟩ : ByteArray) (-1) (⟨#[]⟩ : ByteArray) 1)])))), (.i a0.f1)])]) (by kernel_rfl) (.r 7 [] [] f0 (.f (nt h0) (.f (nt h1) (.h 16 (.b false) (.h 27 (.b false) (.r 31 [] [] f3 (.f f4 (.f f5 (.f f6 (.f f7 (.f f8 (.f f9 (.f f10 (.f f11 (.f f12 (.f f13 (.f f14 (.f f15 (.f f16 (.f f17 (.f f18 (.h 45 (.b true) (.h 50 (.norm (4, 0, 0) [[(.own 4 (map d_sisi (a0.f0 ++ ([(K_sisi.mk (⟨#[]⟩ : ByteArray) (-1) (⟨#[]⟩ : ByteArray) 1)])))), (.i a0.f1)]]) .nil)))))))))))))))))))))))
theorem okm56 (a0 : K_LsisiEi) : ok_iLsELiisiiiiELsisiEi (m56 a0) := by
  unfold m56
  split
  · simp [ok_LsisiEi, ok_iLsELiisiiiiELsisiEi, ok_LsisiE, ok_LsE, ok_LiisiiiiE]
  · split
    · simp [ok_LsisiEi, ok_iLsELiisiiiiELsisiEi, ok_LsisiE, ok_LsE, ok_LiisiiiiE]
    · rename_i h
      simp only [decide_eq_true_eq, length_map] at h
      simp only [ok_LsisiEi, ok_iLsELiisiiiiELsisiEi, ok_LsisiE, ok_LsE, ok_LiisiiiiE, List.nil_append, length_append, length_cons, length_nil]; omega
/-! loop 98_0 -/
inductive O98_0 where
  | k0 (w0 : Int) (w1 : Bool)
  | k1
def r98_0 (a0 : (List ByteArray)) : List ByteArray → List ByteArray → Int → O98_0
  | x0 :: y0, x1 :: y1, i =>
    if (!(x0.toList == x1.toList)) = true then (O98_0.k1) else
    (r98_0 a0 y0 y1 (i + 1) )
  | _, _, i => (O98_0.k0 i (decide (i < ((length (map b_s a0)) : Int))))
def h98_0 (l0_0 : Nat) (l1_0 : Nat) (a0 : (List ByteArray)) (a1 : (List ByteArray)) (i : Int)  : St := ⟨[(0, (.one (.bor l0_0 (map b_s a0)))), (1, (.one (.bor l1_0 (map b_s a1)))), (5, (.one (.val (.int .i64 i))))], []⟩
def ex98_0 : O98_0 → VX.Exit
  | .k0 _ _ => (.exit 0)
  | .k1 => .ret
def fin98_0 (l0_0 : Nat) (l1_0 : Nat) (a0 : (List ByteArray)) (a1 : (List ByteArray)) : O98_0 → St
  | .k0 w0 w1 => ⟨[(0, (.one (.bor l0_0 (map b_s a0)))), (1, (.one (.bor l1_0 (map b_s a1)))), (5, (.one (.val (.int .i64 w0)))), (14, (.one (.val (.bool w1))))], []⟩
  | .k1 => ⟨[(4, (.one (.val (.bool false))))], []⟩
theorem t98_0 {l0_0 : Nat} {l1_0 : Nat} {a0 : (List ByteArray)} {a1 : (List ByteArray)} (hy0 : length a0 * 16 ≤ 140737488351232) (hy1 : length a1 * 16 ≤ 140737488351232) : ∀ (y0 : List ByteArray) (y1 : List ByteArray) (p : List ByteArray) (p_1 : List ByteArray) , p ++ y0 = a0 → p_1 ++ y1 = a1 → length p = length p_1 → length y0 = length y1 → Ev F X (.code l98_0 (h98_0 l0_0 l1_0 a0 a1 (length p : Int) ) (ex98_0 (r98_0 a0 y0 y1 (length p : Int) )) (fin98_0 l0_0 l1_0 a0 a1 (r98_0 a0 y0 y1 (length p : Int) )))
  | [], [], p, p_1, hp0, hp1, hq1, hl1 => by
    have hc : ¬ (decide ((length p : Int) < ((length (map b_s a0)) : Int))) = true := by
      rw [← hp0]; simp only [length_map, length_set, length_append, length_replicate, length_cons, length_nil, decide_eq_true_eq]; omega
    have st := codeH_ok (F := F) (X := X) (c := b98_0) (t := 0) (hs := [(8, .b false)]) (σ := h98_0 l0_0 l1_0 a0 a1 (length p : Int) ) (σ' := fin98_0 l0_0 l1_0 a0 a1 (.k0 (length p : Int) (decide ((length p : Int) < ((length (map b_s a0)) : Int))))) (e := (.exit 0)) (t' := 9) (hs' := []) (q := [(decide ((length p : Int) < ((length (map b_s a0)) : Int))) = false]) (by kernel_rfl) ⟨(nt hc), trivial⟩
    exact .loopX st (show ((.exit 0) : VX.Exit) ≠ .normal from by simp)
  | x0 :: y0, x1 :: y1, p, p_1, hp0, hp1, hq1, hl1 => by
    have hc : (decide ((length p : Int) < ((length (map b_s a0)) : Int))) = true := by
      rw [← hp0]; simp only [length_map, length_set, length_append, length_replicate, length_cons, length_nil, decide_eq_true_eq]; omega
    have Hx0 : (a0)[Int.toNat (length p : Int)]? = some x0 := by
      rw [← hp0, Int.toNat_natCast]; simp
    have Hx1 : (a1)[Int.toNat (length p : Int)]? = some x1 := by
      rw [← hp1, hq1, Int.toNat_natCast]; simp
    have hlen : length (a0) = length p + length y0 + 1 := by rw [← hp0]; simp; omega
    have hw : IntKind.wrap .i64 ((length p : Int) + 1) = (length p : Int) + 1 := wrap64 (by omega)
    simp only [r98_0]
    by_cases h_1 : (!(x0.toList == x1.toList)) = true
    · try simp only [if_pos h_1]
      have st := codeH_ok (F := F) (X := X) (c := b98_0) (t := 0) (hs := [(8, .b true), (14, .row [(.val (.string x0))]), (22, .row [(.val (.string x1))]), (27, .b true)]) (σ := h98_0 l0_0 l1_0 a0 a1 (length p : Int) ) (σ' := fin98_0 l0_0 l1_0 a0 a1 (.k1)) (e := .ret) (t' := 30) (hs' := []) (q := [(decide ((length p : Int) < ((length (map b_s a0)) : Int))) = true, 0 ≤ (length p : Int), (map b_s a0)[(Int.toNat (length p : Int))]? = some [(.val (.string x0))], 0 ≤ (length p : Int), (map b_s a1)[(Int.toNat (length p : Int))]? = some [(.val (.string x1))], (!(x0.toList == x1.toList)) = true]) (by kernel_rfl) ⟨hc, (by omega), (by rw [getElem?_map, Hx0]; rfl), (by omega), (by rw [getElem?_map, Hx1]; rfl), h_1, trivial⟩
      exact .loopX st (show (.ret : VX.Exit) ≠ .normal from by simp)
    · try simp only [if_neg h_1]
      have st := codeH_ok (F := F) (X := X) (c := b98_0) (t := 0) (hs := [(8, .b true), (14, .row [(.val (.string x0))]), (22, .row [(.val (.string x1))]), (27, .b false)]) (σ := h98_0 l0_0 l1_0 a0 a1 (length p : Int) ) (σ' := ⟨[(0, (.one (.bor l0_0 (map b_s a0)))), (1, (.one (.bor l1_0 (map b_s a1)))), (5, (.oi (IntKind.wrap .i64 ((length p : Int) + 1))))], []⟩) (e := .normal) (t' := 34) (hs' := []) (q := [(decide ((length p : Int) < ((length (map b_s a0)) : Int))) = true, 0 ≤ (length p : Int), (map b_s a0)[(Int.toNat (length p : Int))]? = some [(.val (.string x0))], 0 ≤ (length p : Int), (map b_s a1)[(Int.toNat (length p : Int))]? = some [(.val (.string x1))], (!(x0.toList == x1.toList)) = false, True]) (by kernel_rfl) ⟨hc, (by omega), (by rw [getElem?_map, Hx0]; rfl), (by omega), (by rw [getElem?_map, Hx1]; rfl), (nt h_1), trivial, trivial⟩
      have ih := t98_0 (l0_0 := l0_0) (l1_0 := l1_0) (a0 := a0) (a1 := a1) hy0 hy1 y0 y1 (p ++ [x0]) (p_1 ++ [x1])  (by rw [append_assoc]; exact hp0) (by rw [append_assoc]; exact hp1) (by simp only [length_map, length_set, length_append, length_replicate, length_cons, length_nil]; omega) (by simp only [length_map, length_set, length_append, length_replicate, length_cons, length_nil] at hl1; omega)
      rw [show ((p ++ [x0]).length : Int) = (p.length : Int) + 1 from by simp] at ih
      rw [show (⟨[(0, (.one (.bor l0_0 (map b_s a0)))), (1, (.one (.bor l1_0 (map b_s a1)))), (5, (.oi (IntKind.wrap .i64 ((length p : Int) + 1))))], []⟩ : St) = h98_0 l0_0 l1_0 a0 a1 ((length p : Int) + 1)  from (by unfold h98_0; simp only [hw]; done)] at st
      exact .loopN st ih
/-! loop.example/g00539/laws.eqStringS -/
def m98 (a0 : (List ByteArray)) (a1 : (List ByteArray)) : Bool :=
  if (((length (map b_s a0)) : Int) != ((length (map b_s a1)) : Int)) = true then false else
  (match r98_0 a0 a0 a1 0 with | .k0 w0_1 w1_1 => true | .k1 => false)
theorem e98 {l0_0 : Nat} {a0 : (List ByteArray)} {l1_0 : Nat} {a1 : (List ByteArray)} (hy0 : length a0 * 16 ≤ 140737488351232) (hy1 : length a1 * 16 ≤ 140737488351232) : Ev F X (.call 98 [(.one (.bor l0_0 (map b_s a0))), (.one (.bor l1_0 (map b_s a1)))] [] [] [(.one (.val (.bool (m98 a0 a1))))]) := by
  unfold m98
  by_cases h0 : (((length (map b_s a0)) : Int) != ((length (map b_s a1)) : Int)) = true
  · try simp only [if_pos h0]
    exact callP_ok (ps := []) (os := []) (rs := [(.one (.val (.bool false)))]) (by kernel_rfl) (.f h0 (.h 12 (.b true) .nil))
  · try simp only [if_neg h0]
    cases h1 : r98_0 a0 a0 a1 0 with
    | k0 w0_1 w1_1 =>
      try dsimp only
      have f1 : (⟨[(0, (.one (.bor l0_0 (map b_s a0)))), (1, (.one (.bor l1_0 (map b_s a1)))), (5, (.oi 0))], []⟩ : St) = h98_0 l0_0 l1_0 a0 a1 0  := (by rfl)
      have f2 : Ev F X (.code l98_0 (h98_0 l0_0 l1_0 a0 a1 0 ) (.exit 0) ⟨[(0, (.one (.bor l0_0 (map b_s a0)))), (1, (.one (.bor l1_0 (map b_s a1)))), (5, (.oi w0_1)), (14, (.one (.val (.bool w1_1))))], []⟩) := (by have t : Ev F X (.code l98_0 (h98_0 l0_0 l1_0 a0 a1 0 ) (ex98_0 (r98_0 a0 a0 a1 0)) (fin98_0 l0_0 l1_0 a0 a1 (r98_0 a0 a0 a1 0))) := t98_0 (l0_0 := l0_0) (l1_0 := l1_0) (a0 := a0) (a1 := a1) (by assumption) (by assumption) a0 a1 [] []  rfl rfl rfl (by simp at *; omega); rw [h1] at t; exact t)
      exact callP_ok (ps := []) (os := []) (rs := [(.one (.val (.bool true)))]) (by kernel_rfl) (.f (nt h0) (.f f1 (.f f2 (.h 12 (.b false) (.h 15 (.loop (h98_0 l0_0 l1_0 a0 a1 0 ) (.exit 0) ⟨[(0, (.one (.bor l0_0 (map b_s a0)))), (1, (.one (.bor l1_0 (map b_s a1)))), (5, (.oi w0_1)), (14, (.one (.val (.bool w1_1))))], []⟩) .nil)))))
    | k1 =>
      try dsimp only
      have f1 : (⟨[(0, (.one (.bor l0_0 (map b_s a0)))), (1, (.one (.bor l1_0 (map b_s a1)))), (5, (.oi 0))], []⟩ : St) = h98_0 l0_0 l1_0 a0 a1 0  := (by rfl)
      have f2 : Ev F X (.code l98_0 (h98_0 l0_0 l1_0 a0 a1 0 ) .ret ⟨[(4, (.one (.val (.bool false))))], []⟩) := (by have t : Ev F X (.code l98_0 (h98_0 l0_0 l1_0 a0 a1 0 ) (ex98_0 (r98_0 a0 a0 a1 0)) (fin98_0 l0_0 l1_0 a0 a1 (r98_0 a0 a0 a1 0))) := t98_0 (l0_0 := l0_0) (l1_0 := l1_0) (a0 := a0) (a1 := a1) (by assumption) (by assumption) a0 a1 [] []  rfl rfl rfl (by simp at *; omega); rw [h1] at t; exact t)
      exact callP_ok (ps := []) (os := []) (rs := [(.one (.val (.bool false)))]) (by kernel_rfl) (.f (nt h0) (.f f1 (.f f2 (.h 12 (.b false) (.h 15 (.loop (h98_0 l0_0 l1_0 a0 a1 0 ) .ret ⟨[(4, (.one (.val (.bool false))))], []⟩) .nil)))))
theorem eqr98_0 (a0 : (List ByteArray)) : ∀ (l m : List ByteArray) (i : Int), l.length = m.length → (r98_0 a0 l m i = .k1 ∧ l ≠ m) ∨ (∃ w0 w1, r98_0 a0 l m i = .k0 w0 w1 ∧ l = m)
  | [], [], i, _ => .inr ⟨_, _, rfl, rfl⟩
  | [], _ :: _, i, h => by simp at h
  | _ :: _, [], i, h => by simp at h
  | x :: l, y :: m, i, h => by
    have ih := eqr98_0 a0 l m (i + 1) (by simpa using h)
    by_cases hxy : x = y
    · subst hxy
      have e : r98_0 a0 (x :: l) (x :: m) i = r98_0 a0 l m (i + 1) := by simp [r98_0, ba_eq]
      rw [e]
      rcases ih with ⟨h1, h2⟩ | ⟨w0, w1, h1, h2⟩
      · exact .inl ⟨h1, by simp [h2]⟩
      · exact .inr ⟨_, _, h1, by rw [h2]⟩
    · have e : r98_0 a0 (x :: l) (y :: m) i = .k1 := by
        simp only [r98_0]
        first
          | ((repeat' split) <;> simp_all [ba_eq]; done)
          | (cases x; cases y; (repeat' split) <;> simp_all [ba_eq])
      exact .inl ⟨e, by simp [hxy]⟩
open Classical in
theorem eqd98 (a b : (List ByteArray)) : m98 a b = decide (a = b) := by
  rw [Bool.eq_iff_iff, decide_eq_true_eq]
  unfold m98
  by_cases hl : length a = length b
  · rcases eqr98_0 a a b 0 hl with ⟨h1, h2⟩ | ⟨w0, w1, h1, h2⟩
    · simp only [h1, length_map, hl]
      first
        | (simp [h2, ba_eq]; done)
        | (cases a; cases b; simp_all [ba_eq]; done)
        | (cases a; cases b; (repeat' split) <;> simp_all [ba_eq])
    · simp only [h1, length_map, hl]
      first
        | (simp [h2, ba_eq]; done)
        | (cases a; cases b; simp_all [ba_eq]; done)
        | (cases a; cases b; (repeat' split) <;> simp_all [ba_eq])
  · have hn : a ≠ b := by rintro rfl; exact hl rfl
    simp only [length_map]
    first
      | (simp [hn, hl, ba_eq]; done)
      | ((repeat' split) <;> simp_all [ba_eq]; done)
      | (simp [hn]; omega)
/-! loop.example/g00539/laws.eqAct -/
def m146 (a0 : K_iisiiii) (a1 : K_iisiiii) : Bool :=
  if (a0.f0 != a1.f0) = true then false else
  if (a0.f1 != a1.f1) = true then false else
    if (!(a0.f2.toList == a1.f2.toList)) = true then false else
      if (a0.f3 != a1.f3) = true then false else
        if (a0.f4 != a1.f4) = true then false else
          if (a0.f5 != a1.f5) = true then false else
            if (a0.f6 != a1.f6) = true then false else
              true
theorem e146 {a0 : K_iisiiii} {a1 : K_iisiiii} : Ev F X (.call 146 [(.agg [(.val (.int .i64 a0.f0)), (.val (.int .i64 a0.f1)), (.val (.string a0.f2)), (.val (.int .i64 a0.f3)), (.val (.int .i64 a0.f4)), (.val (.int .i64 a0.f5)), (.val (.int .i64 a0.f6))]), (.agg [(.val (.int .i64 a1.f0)), (.val (.int .i64 a1.f1)), (.val (.string a1.f2)), (.val (.int .i64 a1.f3)), (.val (.int .i64 a1.f4)), (.val (.int .i64 a1.f5)), (.val (.int .i64 a1.f6))])] [] [] [(.one (.val (.bool (m146 a0 a1))))]) := by
  unfold m146
  by_cases h0 : (a0.f0 != a1.f0) = true
  · try simp only [if_pos h0]
    exact callP_ok (ps := []) (os := []) (rs := [(.one (.val (.bool false)))]) (by kernel_rfl) (.f h0 (.h 16 (.b true) .nil))
  · try simp only [if_neg h0]
    by_cases h1 : (a0.f1 != a1.f1) = true
    · try simp only [if_pos h1]
      exact callP_ok (ps := []) (os := []) (rs := [(.one (.val (.bool false)))]) (by kernel_rfl) (.f (nt h0) (.f h1 (.h 16 (.b false) (.h 27 (.b true) .nil))))
    · try simp only [if_neg h1]
      by_cases h2 : (!(a0.f2.toList == a1.f2.toList)) = true
      · try simp only [if_pos h2]
        exact callP_ok (ps := []) (os := []) (rs := [(.one (.val (.bool false)))]) (by kernel_rfl) (.f (nt h0) (.f (nt h1) (.f h2 (.h 16 (.b false) (.h 27 (.b false) (.h 38 (.b true) .nil))))))
      · try simp only [if_neg h2]
        by_cases h3 : (a0.f3 != a1.f3) = true
        · try simp only [if_pos h3]
          exact callP_ok (ps := []) (os := []) (rs := [(.one (.val (.bool false)))]) (by kernel_rfl) (.f (nt h0) (.f (nt h1) (.f (nt h2) (.f h3 (.h 16 (.b false) (.h 27 (.b false) (.h 38 (.b false) (.h 49 (.b true) .nil))))))))
        · try simp only [if_neg h3]
          by_cases h4 : (a0.f4 != a1.f4) = true
          · try simp only [if_pos h4]
            exact callP_ok (ps := []) (os := []) (rs := [(.one (.val (.bool false)))]) (by kernel_rfl) (.f (nt h0) (.f (nt h1) (.f (nt h2) (.f (nt h3) (.f h4 (.h 16 (.b false) (.h 27 (.b false) (.h 38 (.b false) (.h 49 (.b false) (.h 60 (.b true) .nil))))))))))
          · try simp only [if_neg h4]
            by_cases h5 : (a0.f5 != a1.f5) = true
            · try simp only [if_pos h5]
              exact callP_ok (ps := []) (os := []) (rs := [(.one (.val (.bool false)))]) (by kernel_rfl) (.f (nt h0) (.f (nt h1) (.f (nt h2) (.f (nt h3) (.f (nt h4) (.f h5 (.h 16 (.b false) (.h 27 (.b false) (.h 38 (.b false) (.h 49 (.b false) (.h 60 (.b false) (.h 71 (.b true) .nil))))))))))))
            · try simp only [if_neg h5]
              by_cases h6 : (a0.f6 != a1.f6) = true
              · try simp only [if_pos h6]
                exact callP_ok (ps := []) (os := []) (rs := [(.one (.val (.bool false)))]) (by kernel_rfl) (.f (nt h0) (.f (nt h1) (.f (nt h2) (.f (nt h3) (.f (nt h4) (.f (nt h5) (.f h6 (.h 16 (.b false) (.h 27 (.b false) (.h 38 (.b false) (.h 49 (.b false) (.h 60 (.b false) (.h 71 (.b false) (.h 82 (.b true) .nil))))))))))))))
              · try simp only [if_neg h6]
                exact callP_ok (ps := []) (os := []) (rs := [(.one (.val (.bool true)))]) (by kernel_rfl) (.f (nt h0) (.f (nt h1) (.f (nt h2) (.f (nt h3) (.f (nt h4) (.f (nt h5) (.f (nt h6) (.h 16 (.b false) (.h 27 (.b false) (.h 38 (.b false) (.h 49 (.b false) (.h 60 (.b false) (.h 71 (.b false) (.h 82 (.b false) .nil))))))))))))))
open Classical in
theorem eqd146 (a b : K_iisiiii) : m146 a b = decide (a = b) := by
  rw [Bool.eq_iff_iff, decide_eq_true_eq]
  constructor
  · intro h
    unfold m146 at h
    cases a; cases b
    (repeat' split at h) <;> simp_all [ba_eq]
  · rintro rfl
    simp [m146, ba_eq]
/-! loop 105_0 -/
inductive O105_0 where
  | k0 (w0 : Int) (w1 : Bool)
  | k1
def r105_0 (a0 : (List K_iisiiii)) : List K_iisiiii → List K_iisiiii → Int → O105_0
  | x0 :: y0, x1 :: y1, i =>
    if (!(m146 x0 x1)) = true then (O105_0.k1) else
    (r105_0 a0 y0 y1 (i + 1) )
  | _, _, i => (O105_0.k0 i (decide (i < ((length (map b_iisiiii a0)) : Int))))
def h105_0 (l0_0 : Nat) (l1_0 : Nat) (a0 : (List K_iisiiii)) (a1 : (List K_iisiiii)) (i : Int)  : St := ⟨[(0, (.one (.bor l0_0 (map b_iisiiii a0)))), (1, (.one (.bor l1_0 (map b_iisiiii a1)))), (5, (.one (.val (.int .i64 i))))], []⟩
def ex105_0 : O105_0 → VX.Exit
  | .k0 _ _ => (.exit 0)
  | .k1 => .ret
def fin105_0 (l0_0 : Nat) (l1_0 : Nat) (a0 : (List K_iisiiii)) (a1 : (List K_iisiiii)) : O105_0 → St
  | .k0 w0 w1 => ⟨[(0, (.one (.bor l0_0 (map b_iisiiii a0)))), (1, (.one (.bor l1_0 (map b_iisiiii a1)))), (5, (.one (.val (.int .i64 w0)))), (14, (.one (.val (.bool w1))))], []⟩
  | .k1 => ⟨[(4, (.one (.val (.bool false))))], []⟩
theorem t105_0 {l0_0 : Nat} {l1_0 : Nat} {a0 : (List K_iisiiii)} {a1 : (List K_iisiiii)} (hy0 : length a0 * 64 ≤ 140737488351232) (hy1 : length a1 * 64 ≤ 140737488351232) : ∀ (y0 : List K_iisiiii) (y1 : List K_iisiiii) (p : List K_iisiiii) (p_1 : List K_iisiiii) , p ++ y0 = a0 → p_1 ++ y1 = a1 → length p = length p_1 → length y0 = length y1 → Ev F X (.code l105_0 (h105_0 l0_0 l1_0 a0 a1 (length p : Int) ) (ex105_0 (r105_0 a0 y0 y1 (length p : Int) )) (fin105_0 l0_0 l1_0 a0 a1 (r105_0 a0 y0 y1 (length p : Int) )))
  | [], [], p, p_1, hp0, hp1, hq1, hl1 => by
    have hc : ¬ (decide ((length p : Int) < ((length (map b_iisiiii a0)) : Int))) = true := by
      rw [← hp0]; simp only [length_map, length_set, length_append, length_replicate, length_cons, length_nil, decide_eq_true_eq]; omega
    have st := codeH_ok (F := F) (X := X) (c := b105_0) (t := 0) (hs := [(8, .b false)]) (σ := h105_0 l0_0 l1_0 a0 a1 (length p : Int) ) (σ' := fin105_0 l0_0 l1_0 a0 a1 (.k0 (length p : Int) (decide ((length p : Int) < ((length (map b_iisiiii a0)) : Int))))) (e := (.exit 0)) (t' := 9) (hs' := []) (q := [(decide ((length p : Int) < ((length (map b_iisiiii a0)) : Int))) = false]) (by kernel_rfl) ⟨(nt hc), trivial⟩
    exact .loopX st (show ((.exit 0) : VX.Exit) ≠ .normal from by simp)
  | x0 :: y0, x1 :: y1, p, p_1, hp0, hp1, hq1, hl1 => by
    have hc : (decide ((length p : Int) < ((length (map b_iisiiii a0)) : Int))) = true := by
      rw [← hp0]; simp only [length_map, length_set, length_append, length_replicate, length_cons, length_nil, decide_eq_true_eq]; omega
    have Hx0 : (a0)[Int.toNat (length p : Int)]? = some x0 := by
      rw [← hp0, Int.toNat_natCast]; simp
    have Hx1 : (a1)[Int.toNat (length p : Int)]? = some x1 := by
      rw [← hp1, hq1, Int.toNat_natCast]; simp
    have hlen : length (a0) = length p + length y0 + 1 := by rw [← hp0]; simp; omega
    have hw : IntKind.wrap .i64 ((length p : Int) + 1) = (length p : Int) + 1 := wrap64 (by omega)
    simp only [r105_0]
    by_cases h_1 : (!(m146 x0 x1)) = true
    · try simp only [if_pos h_1]
      have st := codeH_ok (F := F) (X := X) (c := b105_0) (t := 0) (hs := [(8, .b true), (14, .row [(.i x0.f0), (.i x0.f1), (.val (.string x0.f2)), (.i x0.f3), (.i x0.f4), (.i x0.f5), (.i x0.f6)]), (22, .row [(.i x1.f0), (.i x1.f1), (.val (.string x1.f2)), (.i x1.f3), (.i x1.f4), (.i x1.f5), (.i x1.f6)]), (26, .ret [] [(.one (.val (.bool (m146 x0 x1))))] [] []), (29, .b true)]) (σ := h105_0 l0_0 l1_0 a0 a1 (length p : Int) ) (σ' := fin105_0 l0_0 l1_0 a0 a1 (.k1)) (e := .ret) (t' := 32) (hs' := []) (q := [(decide ((length p : Int) < ((length (map b_iisiiii a0)) : Int))) = true, 0 ≤ (length p : Int), (map b_iisiiii a0)[(Int.toNat (length p : Int))]? = some [(.i x0.f0), (.i x0.f1), (.val (.string x0.f2)), (.i x0.f3), (.i x0.f4), (.i x0.f5), (.i x0.f6)], 0 ≤ (length p : Int), (map b_iisiiii a1)[(Int.toNat (length p : Int))]? = some [(.i x1.f0), (.i x1.f1), (.val (.string x1.f2)), (.i x1.f3), (.i x1.f4), (.i x1.f5), (.i x1.f6)], Ev F X (.call 146 [(.agg [(.i x0.f0), (.i x0.f1), (.val (.string x0.f2)), (.i x0.f3), (.i x0.f4), (.i x0.f5), (.i x0.f6)]), (.agg [(.i x1.f0), (.i x1.f1), (.val (.string x1.f2)), (.i x1.f3), (.i x1.f4), (.i x1.f5), (.i x1.f6)])] [] [] [(.one (.val (.bool (m146 x0 x1))))]), (!(m146 x0 x1)) = true]) (by kernel_rfl) ⟨hc, (by omega), (by rw [getElem?_map, Hx0]; rfl), (by omega), (by rw [getElem?_map, Hx1]; rfl), (e146 (a0 := x0) (a1 := x1)), h_1, trivial⟩
      exact .loopX st (show (.ret : VX.Exit) ≠ .normal from by simp)
    · try simp only [if_neg h_1]
      have st := codeH_ok (F := F) (X := X) (c := b105_0) (t := 0) (hs := [(8, .b true), (14, .row [(.i x0.f0), (.i x0.f1), (.val (.string x0.f2)), (.i x0.f3), (.i x0.f4), (.i x0.f5), (.i x0.f6)]), (22, .row [(.i x1.f0), (.i x1.f1), (.val (.string x1.f2)), (.i x1.f3), (.i x1.f4), (.i x1.f5), (.i x1.f6)]), (26, .ret [] [(.one (.val (.bool (m146 x0 x1))))] [] []), (29, .b false)]) (σ := h105_0 l0_0 l1_0 a0 a1 (length p : Int) ) (σ' := ⟨[(0, (.one (.bor l0_0 (map b_iisiiii a0)))), (1, (.one (.bor l1_0 (map b_iisiiii a1)))), (5, (.oi (IntKind.wrap .i64 ((length p : Int) + 1))))], []⟩) (e := .normal) (t' := 36) (hs' := []) (q := [(decide ((length p : Int) < ((length (map b_iisiiii a0)) : Int))) = true, 0 ≤ (length p : Int), (map b_iisiiii a0)[(Int.toNat (length p : Int))]? = some [(.i x0.f0), (.i x0.f1), (.val (.string x0.f2)), (.i x0.f3), (.i x0.f4), (.i x0.f5), (.i x0.f6)], 0 ≤ (length p : Int), (map b_iisiiii a1)[(Int.toNat (length p : Int))]? = some [(.i x1.f0), (.i x1.f1), (.val (.string x1.f2)), (.i x1.f3), (.i x1.f4), (.i x1.f5), (.i x1.f6)], Ev F X (.call 146 [(.agg [(.i x0.f0), (.i x0.f1), (.val (.string x0.f2)), (.i x0.f3), (.i x0.f4), (.i x0.f5), (.i x0.f6)]), (.agg [(.i x1.f0), (.i x1.f1), (.val (.string x1.f2)), (.i x1.f3), (.i x1.f4), (.i x1.f5), (.i x1.f6)])] [] [] [(.one (.val (.bool (m146 x0 x1))))]), (!(m146 x0 x1)) = false, True]) (by kernel_rfl) ⟨hc, (by omega), (by rw [getElem?_map, Hx0]; rfl), (by omega), (by rw [getElem?_map, Hx1]; rfl), (e146 (a0 := x0) (a1 := x1)), (nt h_1), trivial, trivial⟩
      have ih := t105_0 (l0_0 := l0_0) (l1_0 := l1_0) (a0 := a0) (a1 := a1) hy0 hy1 y0 y1 (p ++ [x0]) (p_1 ++ [x1])  (by rw [append_assoc]; exact hp0) (by rw [append_assoc]; exact hp1) (by simp only [length_map, length_set, length_append, length_replicate, length_cons, length_nil]; omega) (by simp only [length_map, length_set, length_append, length_replicate, length_cons, length_nil] at hl1; omega)
      rw [show ((p ++ [x0]).length : Int) = (p.length : Int) + 1 from by simp] at ih
      rw [show (⟨[(0, (.one (.bor l0_0 (map b_iisiiii a0)))), (1, (.one (.bor l1_0 (map b_iisiiii a1)))), (5, (.oi (IntKind.wrap .i64 ((length p : Int) + 1))))], []⟩ : St) = h105_0 l0_0 l1_0 a0 a1 ((length p : Int) + 1)  from (by unfold h105_0; simp only [hw]; done)] at st
      exact .loopN st ih
/-! loop.example/g00539/laws.eqActS -/
def m105 (a0 : (List K_iisiiii)) (a1 : (List K_iisiiii)) : Bool :=
  if (((length (map b_iisiiii a0)) : Int) != ((length (map b_iisiiii a1)) : Int)) = true then false else
  (match r105_0 a0 a0 a1 0 with | .k0 w0_1 w1_1 => true | .k1 => false)
theorem e105 {l0_0 : Nat} {a0 : (List K_iisiiii)} {l1_0 : Nat} {a1 : (List K_iisiiii)} (hy0 : length a0 * 64 ≤ 140737488351232) (hy1 : length a1 * 64 ≤ 140737488351232) : Ev F X (.call 105 [(.one (.bor l0_0 (map b_iisiiii a0))), (.one (.bor l1_0 (map b_iisiiii a1)))] [] [] [(.one (.val (.bool (m105 a0 a1))))]) := by
  unfold m105
  by_cases h0 : (((length (map b_iisiiii a0)) : Int) != ((length (map b_iisiiii a1)) : Int)) = true
  · try simp only [if_pos h0]
    exact callP_ok (ps := []) (os := []) (rs := [(.one (.val (.bool false)))]) (by kernel_rfl) (.f h0 (.h 12 (.b true) .nil))
  · try simp only [if_neg h0]
    cases h1 : r105_0 a0 a0 a1 0 with
    | k0 w0_1 w1_1 =>
      try dsimp only
      have f1 : (⟨[(0, (.one (.bor l0_0 (map b_iisiiii a0)))), (1, (.one (.bor l1_0 (map b_iisiiii a1)))), (5, (.oi 0))], []⟩ : St) = h105_0 l0_0 l1_0 a0 a1 0  := (by rfl)
      have f2 : Ev F X (.code l105_0 (h105_0 l0_0 l1_0 a0 a1 0 ) (.exit 0) ⟨[(0, (.one (.bor l0_0 (map b_iisiiii a0)))), (1, (.one (.bor l1_0 (map b_iisiiii a1)))), (5, (.oi w0_1)), (14, (.one (.val (.bool w1_1))))], []⟩) := (by have t : Ev F X (.code l105_0 (h105_0 l0_0 l1_0 a0 a1 0 ) (ex105_0 (r105_0 a0 a0 a1 0)) (fin105_0 l0_0 l1_0 a0 a1 (r105_0 a0 a0 a1 0))) := t105_0 (l0_0 := l0_0) (l1_0 := l1_0) (a0 := a0) (a1 := a1) (by assumption) (by assumption) a0 a1 [] []  rfl rfl rfl (by simp at *; omega); rw [h1] at t; exact t)
      exact callP_ok (ps := []) (os := []) (rs := [(.one (.val (.bool true)))]) (by kernel_rfl) (.f (nt h0) (.f f1 (.f f2 (.h 12 (.b false) (.h 15 (.loop (h105_0 l0_0 l1_0 a0 a1 0 ) (.exit 0) ⟨[(0, (.one (.bor l0_0 (map b_iisiiii a0)))), (1, (.one (.bor l1_0 (map b_iisiiii a1)))), (5, (.oi w0_1)), (14, (.one (.val (.bool w1_1))))], []⟩) .nil)))))
    | k1 =>
      try dsimp only
      have f1 : (⟨[(0, (.one (.bor l0_0 (map b_iisiiii a0)))), (1, (.one (.bor l1_0 (map b_iisiiii a1)))), (5, (.oi 0))], []⟩ : St) = h105_0 l0_0 l1_0 a0 a1 0  := (by rfl)
      have f2 : Ev F X (.code l105_0 (h105_0 l0_0 l1_0 a0 a1 0 ) .ret ⟨[(4, (.one (.val (.bool false))))], []⟩) := (by have t : Ev F X (.code l105_0 (h105_0 l0_0 l1_0 a0 a1 0 ) (ex105_0 (r105_0 a0 a0 a1 0)) (fin105_0 l0_0 l1_0 a0 a1 (r105_0 a0 a0 a1 0))) := t105_0 (l0_0 := l0_0) (l1_0 := l1_0) (a0 := a0) (a1 := a1) (by assumption) (by assumption) a0 a1 [] []  rfl rfl rfl (by simp at *; omega); rw [h1] at t; exact t)
      exact callP_ok (ps := []) (os := []) (rs := [(.one (.val (.bool false)))]) (by kernel_rfl) (.f (nt h0) (.f f1 (.f f2 (.h 12 (.b false) (.h 15 (.loop (h105_0 l0_0 l1_0 a0 a1 0 ) .ret ⟨[(4, (.one (.val (.bool false))))], []⟩) .nil)))))
theorem eqr105_0 (a0 : (List K_iisiiii)) : ∀ (l m : List K_iisiiii) (i : Int), l.length = m.length → (r105_0 a0 l m i = .k1 ∧ l ≠ m) ∨ (∃ w0 w1, r105_0 a0 l m i = .k0 w0 w1 ∧ l = m)
  | [], [], i, _ => .inr ⟨_, _, rfl, rfl⟩
  | [], _ :: _, i, h => by simp at h
  | _ :: _, [], i, h => by simp at h
  | x :: l, y :: m, i, h => by
    have ih := eqr105_0 a0 l m (i + 1) (by simpa using h)
    by_cases hxy : x = y
    · subst hxy
      have e : r105_0 a0 (x :: l) (x :: m) i = r105_0 a0 l m (i + 1) := by simp [r105_0, ba_eq, eqd146]
      rw [e]
      rcases ih with ⟨h1, h2⟩ | ⟨w0, w1, h1, h2⟩
      · exact .inl ⟨h1, by simp [h2]⟩
      · exact .inr ⟨_, _, h1, by rw [h2]⟩
    · have e : r105_0 a0 (x :: l) (y :: m) i = .k1 := by
        simp only [r105_0]
        first
          | ((repeat' split) <;> simp_all [ba_eq, eqd146]; done)
          | (cases x; cases y; (repeat' split) <;> simp_all [ba_eq, eqd146])
      exact .inl ⟨e, by simp [hxy]⟩
open Classical in
theorem eqd105 (a b : (List K_iisiiii)) : m105 a b = decide (a = b) := by
  rw [Bool.eq_iff_iff, decide_eq_true_eq]
  unfold m105
  by_cases hl : length a = length b
  · rcases eqr105_0 a a b 0 hl with ⟨h1, h2⟩ | ⟨w0, w1, h1, h2⟩
    · simp only [h1, length_map, hl]
      first
        | (simp [h2, ba_eq, eqd146]; done)
        | (cases a; cases b; simp_all [ba_eq, eqd146]; done)
        | (cases a; cases b; (repeat' split) <;> simp_all [ba_eq, eqd146])
    · simp only [h1, length_map, hl]
      first
        | (simp [h2, ba_eq, eqd146]; done)
        | (cases a; cases b; simp_all [ba_eq, eqd146]; done)
        | (cases a; cases b; (repeat' split) <;> simp_all [ba_eq, eqd146])
  · have hn : a ≠ b := by rintro rfl; exact hl rfl
    simp only [length_map]
    first
      | (simp [hn, hl, ba_eq, eqd146]; done)
      | ((repeat' split) <;> simp_all [ba_eq, eqd146]; done)
      | (simp [hn]; omega)
/-! loop.example/g00539/laws.eqServerResult -/
def m57 (a0 : K_iLsELiisiiiiELsisiEi) (a1 : K_iLsELiisiiiiELsisiEi) : Bool :=
  if (a0.f0 != a1.f0) = true then false else
  if (!(m98 a0.f1 a1.f1)) = true then false else
    if (!(m105 a0.f2 a1.f2)) = true then false else
      if (!(m48 (K_LsisiEi.mk a0.f3 a0.f4) (K_LsisiEi.mk a1.f3 a1.f4))) = true then false else
        true
theorem e57 {l0_1 : Nat} {l0_2 : Nat} {l0_3 : Nat} {a0 : K_iLsELiisiiiiELsisiEi} {l1_1 : Nat} {l1_2 : Nat} {l1_3 : Nat} {a1 : K_iLsELiisiiiiELsisiEi} (hy0 : length a0.f1 * 16 ≤ 140737488351232) (hy1 : length a0.f2 * 64 ≤ 140737488351232) (hy2 : length a0.f3 * 48 ≤ 140737488351232) (hy3 : length a1.f1 * 16 ≤ 140737488351232) (hy4 : length a1.f2 * 64 ≤ 140737488351232) (hy5 : length a1.f3 * 48 ≤ 140737488351232) : Ev F X (.call 57 [(.agg [(.val (.int .i64 a0.f0)), (.bor l0_1 (map b_s a0.f1)), (.bor l0_2 (map b_iisiiii a0.f2)), (.bor l0_3 (map b_sisi a0.f3)), (.val (.int .i64 a0.f4))]), (.agg [(.val (.int .i64 a1.f0)), (.bor l1_1 (map b_s a1.f1)), (.bor l1_2 (map b_iisiiii a1.f2)), (.bor l1_3 (map b_sisi a1.f3)), (.val (.int .i64 a1.f4))])] [] [] [(.one (.val (.bool (m57 a0 a1))))]) := by
  unfold m57
  by_cases h0 : (a0.f0 != a1.f0) = true
  · try simp only [if_pos h0]
    exact callP_ok (ps := []) (os := []) (rs := [(.one (.val (.bool false)))]) (by kernel_rfl) (.f h0 (.h 16 (.b true) .nil))
  · try simp only [if_neg h0]
    have f1 : Ev F X (.call 98 [(.one (.bor (l0_1 + 1) (map b_s a0.f1))), (.one (.bor (l1_1 + 1) (map b_s a1.f1)))] [] [] [(.one (.val (.bool (m98 a0.f1 a1.f1))))]) := (e98 (a0 := a0.f1) (a1 := a1.f1) (by with_reducible assumption) (by with_reducible assumption))
    by_cases h1 : (!(m98 a0.f1 a1.f1)) = true
    · try simp only [if_pos h1]
      exact callP_ok (ps := []) (os := []) (rs := [(.one (.val (.bool false)))]) (by kernel_rfl) (.f (nt h0) (.h 16 (.b false) (.r 26 [] [] f1 (.f h1 (.h 29 (.b true) .nil)))))
    · try simp only [if_neg h1]
      have f3 : Ev F X (.call 105 [(.one (.bor (l0_2 + 1) (map b_iisiiii a0.f2))), (.one (.bor (l1_2 + 1) (map b_iisiiii a1.f2)))] [] [] [(.one (.val (.bool (m105 a0.f2 a1.f2))))]) := (e105 (a0 := a0.f2) (a1 := a1.f2) (by with_reducible assumption) (by with_reducible assumption))
      by_cases h2 : (!(m105 a0.f2 a1.f2)) = true
      · try simp only [if_pos h2]
        exact callP_ok (ps := []) (os := []) (rs := [(.one (.val (.bool false)))]) (by kernel_rfl) (.f (nt h0) (.h 16 (.b false) (.r 26 [] [] f1 (.f (nt h1) (.h 29 (.b false) (.r 39 [] [] f3 (.f h2 (.h 42 (.b true) .nil))))))))
      · try simp only [if_neg h2]
        have f5 : Ev F X (.call 48 [(.agg [(.bor (l0_3 + 1) (map b_sisi a0.f3)), (.i a0.f4)]), (.agg [(.bor (l1_3 + 1) (map b_sisi a1.f3)), (.i a1.f4)])] [] [] [(.one (.val (.bool (m48 (K_LsisiEi.mk a0.f3 a0.f4) (K_LsisiEi.mk a1.f3 a1.f4)))))]) := (e48 (a0 := (K_LsisiEi.mk a0.f3 a0.f4)) (a1 := (K_LsisiEi.mk a1.f3 a1.f4)) (by with_reducible assumption) (by with_reducible assumption))
        by_cases h3 : (!(m48 (K_LsisiEi.mk a0.f3 a0.f4) (K_LsisiEi.mk a1.f3 a1.f4))) = true
        · try simp only [if_pos h3]
          exact callP_ok (ps := []) (os := []) (rs := [(.one (.val (.bool false)))]) (by kernel_rfl) (.f (nt h0) (.h 16 (.b false) (.r 26 [] [] f1 (.f (nt h1) (.h 29 (.b false) (.r 39 [] [] f3 (.f (nt h2) (.h 42 (.b false) (.r 52 [] [] f5 (.f h3 (.h 55 (.b true) .nil)))))))))))
        · try simp only [if_neg h3]
          exact callP_ok (ps := []) (os := []) (rs := [(.one (.val (.bool true)))]) (by kernel_rfl) (.f (nt h0) (.h 16 (.b false) (.r 26 [] [] f1 (.f (nt h1) (.h 29 (.b false) (.r 39 [] [] f3 (.f (nt h2) (.h 42 (.b false) (.r 52 [] [] f5 (.f (nt h3) (.h 55 (.b false) .nil)))))))))))
open Classical in
theorem eqd57 (a b : K_iLsELiisiiiiELsisiEi) : m57 a b = decide (a = b) := by
  rw [Bool.eq_iff_iff, decide_eq_true_eq]
  constructor
  · intro h
    unfold m57 at h
    cases a; cases b
    (repeat' split at h) <;> simp_all [ba_eq, eqd48, eqd98, eqd105]
  · rintro rfl
    simp [m57, ba_eq, eqd48, eqd98, eqd105]
/-! loop 100_0 -/
inductive O100_0 where
  | k0 (w0 : List ByteArray) (w1 : Int) (w2 : Int) (w3 : Bool)
def r100_0 (a0 : (List ByteArray)) : List ByteArray → Int → List ByteArray → Int → O100_0
  | x0 :: y0, i, v0, v1 =>
    (r100_0 a0 y0 (i + 1) (set v0 (Int.toNat i) (m82 v1)) (IntKind.wrap .i64 (v1 + 1)))
  | [], i, v0, v1 => (O100_0.k0 v0 v1 i (decide (i < ((length (map d_s a0)) : Int))))
def h100_0 (a0 : (List ByteArray)) (a1 : Int) (i : Int) (v0 : List ByteArray) (v1 : Int) : St := ⟨[(0, (.one (.ref ⟨(0, 0, 0), [], 0, (length (map d_s a0))⟩))), (1, (.one (.val (.int .i64 v1)))), (5, (.one (.val (.int .i64 i))))], [((0, 0, 0), .live ⟨1, (map d_s v0), []⟩)]⟩
def ex100_0 : O100_0 → VX.Exit
  | .k0 _ _ _ _ => (.exit 0)
def fin100_0 (a0 : (List ByteArray)) (a1 : Int) : O100_0 → St
  | .k0 w0 w1 w2 w3 => ⟨[(0, (.one (.ref ⟨(0, 0, 0), [], 0, (length (map d_s a0))⟩))), (1, (.one (.val (.int .i64 w1)))), (5, (.one (.val (.int .i64 w2)))), (9, (.one (.val (.bool w3))))], [((0, 0, 0), .live ⟨1, (map d_s w0), []⟩)]⟩
theorem t100_0 {a0 : (List ByteArray)} {a1 : Int} (hy0 : length a0 * 16 ≤ 140737488351232) : ∀ (y0 : List ByteArray) (p : List ByteArray) (v0 : List ByteArray) (v1 : Int), p ++ y0 = a0 → length v0 = (length (map d_s a0)) → drop (length p) v0 = y0 → Ev F X (.code l100_0 (h100_0 a0 a1 (length p : Int) v0 v1) (ex100_0 (r100_0 a0 y0 (length p : Int) v0 v1)) (fin100_0 a0 a1 (r100_0 a0 y0 (length p : Int) v0 v1)))
  | [], p, v0, v1, hp0, hi0, hi1 => by
    have hc : ¬ (decide ((length p : Int) < ((length (map d_s a0)) : Int))) = true := by
      rw [← hp0]; simp only [length_map, length_set, length_append, length_replicate, length_cons, length_nil, decide_eq_true_eq]; omega
    have hj0 := hi0; try simp only [length_map, length_set, length_append, length_replicate, length_cons, length_nil, Int.toNat_natCast] at hj0
    have hj1 := hi1; try simp only [length_map, length_set, length_append, length_replicate, length_cons, length_nil, Int.toNat_natCast] at hj1
    have st := codeH_ok (F := F) (X := X) (c := b100_0) (t := 0) (hs := [(8, .b false)]) (σ := h100_0 a0 a1 (length p : Int) v0 v1) (σ' := fin100_0 a0 a1 (.k0 v0 v1 (length p : Int) (decide ((length p : Int) < ((length (map d_s a0)) : Int))))) (e := (.exit 0)) (t' := 9) (hs' := []) (q := [(decide ((length p : Int) < ((length (map d_s a0)) : Int))) = false]) (by kernel_rfl) ⟨(nt hc), trivial⟩
    exact .loopX st (show ((.exit 0) : VX.Exit) ≠ .normal from by simp)
  | x0 :: y0, p, v0, v1, hp0, hi0, hi1 => by
    have hc : (decide ((length p : Int) < ((length (map d_s a0)) : Int))) = true := by
      rw [← hp0]; simp only [length_map, length_set, length_append, length_replicate, length_cons, length_nil, decide_eq_true_eq]; omega
    have Hx0 : (a0)[Int.toNat (length p : Int)]? = some x0 := by
      rw [← hp0, Int.toNat_natCast]; simp
    have hlen : length (a0) = length p + length y0 + 1 := by rw [← hp0]; simp; omega
    have hw : IntKind.wrap .i64 ((length p : Int) + 1) = (length p : Int) + 1 := wrap64 (by omega)
    have hj0 := hi0; try simp only [length_map, length_set, length_append, length_replicate, length_cons, length_nil, Int.toNat_natCast] at hj0
    have hj1 := hi1; try simp only [length_map, length_set, length_append, length_replicate, length_cons, length_nil, Int.toNat_natCast] at hj1
    have Hv0 : v0[Int.toNat (length p : Int)]? = some x0 := by rw [Int.toNat_natCast]; exact drop_at hi1
    simp only [r100_0]
    have st := codeH_ok (F := F) (X := X) (c := b100_0) (t := 0) (hs := [(8, .b true), (16, .ret [] [(.one (.val (.string (m82 v1))))] [] []), (20, .rowD [(.val (.string x0))]), (21, .norm (0, 0, 0) (map d_s (set v0 (Int.toNat (length p : Int)) (m82 v1))))]) (σ := h100_0 a0 a1 (length p : Int) v0 v1) (σ' := ⟨[(0, (.one (.ref ⟨(0, 0, 0), [], 0, (length (map d_s a0))⟩))), (1, (.oi (IntKind.wrap .i64 (v1 + 1)))), (5, (.oi (IntKind.wrap .i64 ((length p : Int) + 1))))], [((0, 0, 0), .live ⟨1, (map d_s (set v0 (Int.toNat (length p : Int)) (m82 v1))), []⟩)]⟩) (e := .normal) (t' := 34) (hs' := []) (q := [(decide ((length p : Int) < ((length (map d_s a0)) : Int))) = true, Ev F X (.call 82 [(.oi v1)] [] [] [(.one (.val (.string (m82 v1))))]), 0 + (length (map d_s a0)) ≤ (length (map d_s v0)), 0 ≤ (length p : Int) ∧ (length p : Int) < ((length (map d_s a0)) : Int), (map d_s v0)[(0 + (Int.toNat (length p : Int)))]? = some [(.val (.string x0))], (set (map d_s v0) (0 + (Int.toNat (length p : Int))) [(.val (.string (m82 v1)))]) = (map d_s (set v0 (Int.toNat (length p : Int)) (m82 v1))), True, True]) (by kernel_rfl) ⟨hc, (e82 (a0 := v1)), (by simp only [length_map]; omega), (by omega), (by rw [Nat.zero_add, getElem?_map, Hv0]; rfl), (by simp [byteRows_eq, ints_y, take_of_length_le, d_sisi, d_LsisiEi, d_b, d_i, d_s, d_iisiiii, d_iLsELiisiiiiELsisiEi, d_LsisiE, d_LsE, d_LiisiiiiE, d_y, fromBR_sisi, fromBR_b, fromBR_i, fromBR_s, fromBR_iisiiii, fromBR_y, ol99, ol52_0]; done), trivial, trivial, trivial⟩
    have ih := t100_0 (a0 := a0) (a1 := a1) hy0 y0 (p ++ [x0]) (set v0 (Int.toNat (length p : Int)) (m82 v1)) (IntKind.wrap .i64 (v1 + 1)) (by rw [append_assoc]; exact hp0) (by simp only [length_map, length_set, length_append, length_replicate, length_cons, length_nil]; omega) (by simp only [length_map, length_set, length_append, length_replicate, length_cons, length_nil, Int.toNat_natCast]; first | exact drop_set_next hi1 _ | exact drop_next hi1)
    rw [show ((p ++ [x0]).length : Int) = (p.length : Int) + 1 from by simp] at ih
    rw [show (⟨[(0, (.one (.ref ⟨(0, 0, 0), [], 0, (length (map d_s a0))⟩))), (1, (.oi (IntKind.wrap .i64 (v1 + 1)))), (5, (.oi (IntKind.wrap .i64 ((length p : Int) + 1))))], [((0, 0, 0), .live ⟨1, (map d_s (set v0 (Int.toNat (length p : Int)) (m82 v1))), []⟩)]⟩ : St) = h100_0 a0 a1 ((length p : Int) + 1) (set v0 (Int.toNat (length p : Int)) (m82 v1)) (IntKind.wrap .i64 (v1 + 1)) from (by unfold h100_0; simp only [hw]; done)] at st
    exact .loopN st ih
def post100_0 (n0 : Nat) : O100_0 → Prop
  | .k0 w0 _ _ _ => length w0 = n0
theorem z100_0 {a0 : (List ByteArray)} : ∀ (y0 : List ByteArray) (i : Int) (v0 : List ByteArray) (v1 : Int), post100_0 (length v0) (r100_0 a0 y0 i v0 v1)
  | [], i, v0, v1 => by
    first | trivial | (simp only [post100_0, length_nil, Nat.add_zero]; done) | (simp [post100_0]; done)
  | x0 :: y0, i, v0, v1 => by
    simp only [r100_0]
    have z := z100_0 (a0 := a0) y0 (i + 1) (set v0 (Int.toNat i) (m82 v1)) (IntKind.wrap .i64 (v1 + 1))
    rw [show (length v0) = (length (set v0 (Int.toNat i) (m82 v1))) from by first | omega | (simp only [length_map, length_set, length_append, length_replicate, length_cons, length_nil]; done) | (simp only [length_map, length_set, length_append, length_replicate, length_cons, length_nil]; omega)]
    exact z
/-! loop.example/g00539/laws.markStringS -/
def o100_0 (a0 : (List ByteArray)) (a1 : Int) : List ByteArray :=
  (match r100_0 a0 a0 0 a0 a1 with | .k0 w0_0 w1_0 w2_0 w3_0 => w0_0)
def m100 (a0 : (List ByteArray)) (a1 : Int) : Int :=
  (match r100_0 a0 a0 0 a0 a1 with | .k0 w0_0 w1_0 w2_0 w3_0 => w1_0)
theorem e100 {a0 : (List ByteArray)} {a1 : Int} (hy0 : length a0 * 16 ≤ 140737488351232) : Ev F X (.call 100 [(.one (.ref ⟨(0, 0, 0), [], 0, (length (map d_s a0))⟩)), (.one (.val (.int .i64 a1)))] [((0, 0, 0), ⟨1, (map d_s a0), []⟩)] [(map d_s (o100_0 a0 a1))] [(.one (.val (.int .i64 (m100 a0 a1))))]) := by
  unfold m100 o100_0
  cases h0 : r100_0 a0 a0 0 a0 a1 with
  | k0 w0_0 w1_0 w2_0 w3_0 =>
    try dsimp only
    have zh0 := z100_0 (a0 := a0) a0 0 a0 a1; rw [h0] at zh0; simp only [post100_0, length_map, length_set, length_append, length_replicate, length_cons, length_nil, Int.toNat_natCast] at zh0
    have f0 : (⟨[(0, (.one (.ref ⟨(0, 0, 0), [], 0, (length (map d_s a0))⟩))), (1, (.oi a1)), (5, (.oi 0))], [((0, 0, 0), .live ⟨1, (map d_s a0), []⟩)]⟩ : St) = h100_0 a0 a1 0 a0 a1 := (by rfl)
    have f1 : Ev F X (.code l100_0 (h100_0 a0 a1 0 a0 a1) (.exit 0) ⟨[(0, (.one (.ref ⟨(0, 0, 0), [], 0, (length (map d_s a0))⟩))), (1, (.oi w1_0)), (5, (.oi w2_0)), (9, (.one (.val (.bool w3_0))))], [((0, 0, 0), .live ⟨1, (map d_s w0_0), []⟩)]⟩) := (by have t : Ev F X (.code l100_0 (h100_0 a0 a1 0 a0 a1) (ex100_0 (r100_0 a0 a0 0 a0 a1)) (fin100_0 a0 a1 (r100_0 a0 a0 0 a0 a1))) := t100_0 (a0 := a0) (a1 := a1) (by assumption) a0 [] a0 a1 rfl (by simp only [length_map, length_set, length_append, length_replicate, length_cons, length_nil]; done) (by rfl); rw [h0] at t; exact t)
    have f2 : pureR (map d_s w0_0) = true := (pureR_s _)
    exact callP_ok (ps := [true]) (os := [(map d_s w0_0)]) (rs := [(.oi w1_0)]) (by kernel_rfl) (.f f0 (.f f1 (.f f2 (.h 4 (.loop (h100_0 a0 a1 0 a0 a1) (.exit 0) ⟨[(0, (.one (.ref ⟨(0, 0, 0), [], 0, (length (map d_s a0))⟩))), (1, (.oi w1_0)), (5, (.oi w2_0)), (9, (.one (.val (.bool w3_0))))], [((0, 0, 0), .live ⟨1, (map d_s w0_0), []⟩)]⟩) .nil))))
theorem ow100_0 (a0 : List ByteArray) : ∀ (l p : List ByteArray) (v1 : Int), ∃ (q : List ByteArray) (w1 : _) (w2 : _) (w3 : _), r100_0 a0 l (p.length : Int) (p ++ l) v1 = .k0 (p ++ q) w1 w2 w3 ∧ q.length = l.length
  | [], p, v1 => ⟨[], v1, (p.length : Int), (decide ((p.length : Int) < ((length (map d_s a0)) : Int))), rfl, rfl⟩
  | x0 :: l, p, v1 => by
    obtain ⟨q, w1, w2, w3, e1, e2⟩ := ow100_0 a0 l (p ++ [(m82 v1)]) (IntKind.wrap .i64 (v1 + 1))
    refine ⟨(m82 v1) :: q, w1, w2, w3, ?_, by simp [e2]⟩
    · have e : set (p ++ x0 :: l) (Int.toNat (p.length : Int)) (m82 v1) = (p ++ [(m82 v1)]) ++ l := by simp
      have e0 : ((p ++ [(m82 v1)]).length : Int) = (p.length : Int) + 1 := by simp
      rw [e0] at e1
      simp only [r100_0]
      first | (rw [e, e1]; simp; done) | (simp only [e, e1]; simp; done)

theorem ol100 (a : List ByteArray) (k : Int) : (o100_0 a k).length = a.length := by
  obtain ⟨q, w1, w2, w3, e1, e2⟩ := ow100_0 a a [] k
  simp only [List.nil_append, length_nil] at e1
  rw [show ((0 : Nat) : Int) = 0 from rfl] at e1
  unfold o100_0
  rw [e1]; exact e2
/-! loop 106_0 -/
inductive O106_0 where
  | k0 (w0 : List K_iisiiii) (w1 : Int) (w2 : Int) (w3 : Bool)
def r106_0 (a0 : (List K_iisiiii)) : List K_iisiiii → Int → List K_iisiiii → Int → O106_0
  | x0 :: y0, i, v0, v1 =>
    (r106_0 a0 y0 (i + 1) (set v0 (Int.toNat i) (K_iisiiii.mk v1 (IntKind.wrap .i64 (v1 + 1)) (m82 (IntKind.wrap .i64 ((IntKind.wrap .i64 (v1 + 1)) + 1))) (IntKind.wrap .i64 ((IntKind.wrap .i64 ((IntKind.wrap .i64 (v1 + 1)) + 1)) + 1)) (IntKind.wrap .i64 ((IntKind.wrap .i64 ((IntKind.wrap .i64 ((IntKind.wrap .i64 (v1 + 1)) + 1)) + 1)) + 1)) (IntKind.wrap .i64 ((IntKind.wrap .i64 ((IntKind.wrap .i64 ((IntKind.wrap .i64 ((IntKind.wrap .i64 (v1 + 1)) + 1)) + 1)) + 1)) + 1)) (IntKind.wrap .i64 ((IntKind.wrap .i64 ((IntKind.wrap .i64 ((IntKind.wrap .i64 ((IntKind.wrap .i64 ((IntKind.wrap .i64 (v1 + 1)) + 1)) + 1)) + 1)) + 1)) + 1)))) (IntKind.wrap .i64 ((IntKind.wrap .i64 ((IntKind.wrap .i64 ((IntKind.wrap .i64 ((IntKind.wrap .i64 ((IntKind.wrap .i64 ((IntKind.wrap .i64 (v1 + 1)) + 1)) + 1)) + 1)) + 1)) + 1)) + 1)))
  | [], i, v0, v1 => (O106_0.k0 v0 v1 i (decide (i < ((length (map d_iisiiii a0)) : Int))))
def h106_0 (a0 : (List K_iisiiii)) (a1 : Int) (i : Int) (v0 : List K_iisiiii) (v1 : Int) : St := ⟨[(0, (.one (.ref ⟨(0, 0, 0), [], 0, (length (map d_iisiiii a0))⟩))), (1, (.one (.val (.int .i64 v1)))), (5, (.one (.val (.int .i64 i))))], [((0, 0, 0), .live ⟨7, (map d_iisiiii v0), []⟩)]⟩
def ex106_0 : O106_0 → VX.Exit
  | .k0 _ _ _ _ => (.exit 0)
def fin106_0 (a0 : (List K_iisiiii)) (a1 : Int) : O106_0 → St
  | .k0 w0 w1 w2 w3 => ⟨[(0, (.one (.ref ⟨(0, 0, 0), [], 0, (length (map d_iisiiii a0))⟩))), (1, (.one (.val (.int .i64 w1)))), (5, (.one (.val (.int .i64 w2)))), (9, (.one (.val (.bool w3))))], [((0, 0, 0), .live ⟨7, (map d_iisiiii w0), []⟩)]⟩
theorem t106_0 {a0 : (List K_iisiiii)} {a1 : Int} (hy0 : length a0 * 64 ≤ 140737488351232) : ∀ (y0 : List K_iisiiii) (p : List K_iisiiii) (v0 : List K_iisiiii) (v1 : Int), p ++ y0 = a0 → length v0 = (length (map d_iisiiii a0)) → drop (length p) v0 = y0 → Ev F X (.code l106_0 (h106_0 a0 a1 (length p : Int) v0 v1) (ex106_0 (r106_0 a0 y0 (length p : Int) v0 v1)) (fin106_0 a0 a1 (r106_0 a0 y0 (length p : Int) v0 v1)))
  | [], p, v0, v1, hp0, hi0, hi1 => by
    have hc : ¬ (decide ((length p : Int) < ((length (map d_iisiiii a0)) : Int))) = true := by
      rw [← hp0]; simp only [length_map, length_set, length_append, length_replicate, length_cons, length_nil, decide_eq_true_eq]; omega
    have hj0 := hi0; try simp only [length_map, length_set, length_append, length_replicate, length_cons, length_nil, Int.toNat_natCast] at hj0
    have hj1 := hi1; try simp only [length_map, length_set, length_append, length_replicate, length_cons, length_nil, Int.toNat_natCast] at hj1
    have st := codeH_ok (F := F) (X := X) (c := b106_0) (t := 0) (hs := [(8, .b false)]) (σ := h106_0 a0 a1 (length p : Int) v0 v1) (σ' := fin106_0 a0 a1 (.k0 v0 v1 (length p : Int) (decide ((length p : Int) < ((length (map d_iisiiii a0)) : Int))))) (e := (.exit 0)) (t' := 9) (hs' := []) (q := [(decide ((length p : Int) < ((length (map d_iisiiii a0)) : Int))) = false]) (by kernel_rfl) ⟨(nt hc), trivial⟩
    exact .loopX st (show ((.exit 0) : VX.Exit) ≠ .normal from by simp)
  | x0 :: y0, p, v0, v1, hp0, hi0, hi1 => by
    have hc : (decide ((length p : Int) < ((length (map d_iisiiii a0)) : Int))) = true := by
      rw [← hp0]; simp only [length_map, length_set, length_append, length_replicate, length_cons, length_nil, decide_eq_true_eq]; omega
    have Hx0 : (a0)[Int.toNat (length p : Int)]? = some x0 := by
      rw [← hp0, Int.toNat_natCast]; simp
    have hlen : length (a0) = length p + length y0 + 1 := by rw [← hp0]; simp; omega
    have hw : IntKind.wrap .i64 ((length p : Int) + 1) = (length p : Int) + 1 := wrap64 (by omega)
    have hj0 := hi0; try simp only [length_map, length_set, length_append, length_replicate, length_cons, length_nil, Int.toNat_natCast] at hj0
    have hj1 := hi1; try simp only [length_map, length_set, length_append, length_replicate, length_cons, length_nil, Int.toNat_natCast] at hj1
    have Hv0 : v0[Int.toNat (length p : Int)]? = some x0 := by rw [Int.toNat_natCast]; exact drop_at hi1
    simp only [r106_0]
    have st := codeH_ok (F := F) (X := X) (c := b106_0) (t := 0) (hs := [(8, .b true), (20, .rowD [(.i x0.f0), (.i x0.f1), (.val (.string x0.f2)), (.i x0.f3), (.i x0.f4), (.i x0.f5), (.i x0.f6)]), (21, .norm (0, 0, 0) (map d_iisiiii (set v0 (Int.toNat (length p : Int)) (K_iisiiii.mk v1 x0.f1 x0.f2 x0.f3 x0.f4 x0.f5 x0.f6)))), (39, .rowD [(.i v1), (.i x0.f1), (.val (.string x0.f2)), (.i x0.f3), (.i x0.f4), (.i x0.f5), (.i x0.f6)]), (40, .norm (0, 0, 0) (map d_iisiiii (set v0 (Int.toNat (length p : Int)) (K_iisiiii.mk v1 (IntKind.wrap .i64 (v1 + 1)) x0.f2 x0.f3 x0.f4 x0.f5 x0.f6)))), (54, .ret [] [(.one (.val (.string (m82 (IntKind.wrap .i64 ((IntKind.wrap .i64 (v1 + 1)) + 1))))))] [] []), (60, .rowD [(.i v1), (.i (IntKind.wrap .i64 (v1 + 1))), (.val (.string x0.f2)), (.i x0.f3), (.i x0.f4), (.i x0.f5), (.i x0.f6)]), (61, .norm (0, 0, 0) (map d_iisiiii (set v0 (Int.toNat (length p : Int)) (K_iisiiii.mk v1 (IntKind.wrap .i64 (v1 + 1)) (m82 (IntKind.wrap .i64 ((IntKind.wrap .i64 (v1 + 1)) + 1))) x0.f3 x0.f4 x0.f5 x0.f6)))), (79, .rowD [(.i v1), (.i (IntKind.wrap .i64 (v1 + 1))), (.val (.string (m82 (IntKind.wrap .i64 ((IntKind.wrap .i64 (v1 + 1)) + 1))))), (.i x0.f3), (.i x0.f4), (.i x0.f5), (.i x0.f6)]), (80, .norm (0, 0, 0) (map d_iisiiii (set v0 (Int.toNat (length p : Int)) (K_iisiiii.mk v1 (IntKind.wrap .i64 (v1 + 1)) (m82 (IntKind.wrap .i64 ((IntKind.wrap .i64 (v1 + 1)) + 1))) (IntKind.wrap .i64 ((IntKind.wrap .i64 ((IntKind.wrap .i64 (v1 + 1)) + 1)) + 1)) x0.f4 x0.f5 x0.f6)))), (98, .rowD [(.i v1), (.i (IntKind.wrap .i64 (v1 + 1))), (.val (.string (m82 (IntKind.wrap .i64 ((IntKind.wrap .i64 (v1 + 1)) + 1))))), (.i (IntKind.wrap .i64 ((IntKind.wrap .i64 ((IntKind.wrap .i64 (v1 + 1)) + 1)) + 1))), (.i x0.f4), (.i x0.f5), (.i x0.f6)]), (99, .norm (0, 0, 0) (map d_iisiiii (set v0 (Int.toNat (length p : Int)) (K_iisiiii.mk v1 (IntKind.wrap .i64 (v1 + 1)) (m82 (IntKind.wrap .i64 ((IntKind.wrap .i64 (v1 + 1)) + 1))) (IntKind.wrap .i64 ((IntKind.wrap .i64 ((IntKind.wrap .i64 (v1 + 1)) + 1)) + 1)) (IntKind.wrap .i64 ((IntKind.wrap .i64 ((IntKind.wrap .i64 ((IntKind.wrap .i64 (v1 + 1)) + 1)) + 1)) + 1)) x0.f5 x0.f6)))), (117, .rowD [(.i v1), (.i (IntKind.wrap .i64 (v1 + 1))), (.val (.string (m82 (IntKind.wrap .i64 ((IntKind.wrap .i64 (v1 + 1)) + 1))))), (.i (IntKind.wrap .i64 ((IntKind.wrap .i64 ((IntKind.wrap .i64 (v1 + 1)) + 1)) + 1))), (.i (IntKind.wrap .i64 ((IntKind.wrap .i64 ((IntKind.wrap .i64 ((IntKind.wrap .i64 (v1 + 1)) + 1)) + 1)) + 1))), (.i x0.f5), (.i x0.f6)]), (118, .norm (0, 0, 0) (map d_iisiiii (set v0 (Int.toNat (length p : Int)) (K_iisiiii.mk v1 (IntKind.wrap .i64 (v1 + 1)) (m82 (IntKind.wrap .i64 ((IntKind.wrap .i64 (v1 + 1)) + 1))) (IntKind.wrap .i64 ((IntKind.wrap .i64 ((IntKind.wrap .i64 (v1 + 1)) + 1)) + 1)) (IntKind.wrap .i64 ((IntKind.wrap .i64 ((IntKind.wrap .i64 ((IntKind.wrap .i64 (v1 + 1)) + 1)) + 1)) + 1)) (IntKind.wrap .i64 ((IntKind.wrap .i64 ((IntKind.wrap .i64 ((IntKind.wrap .i64 ((IntKind.wrap .i64 (v1 + 1)) + 1)) + 1)) + 1)) + 1)) x0.f6)))), (136, .rowD [(.i v1), (.i (IntKind.wrap .i64 (v1 + 1))), (.val (.string (m82 (IntKind.wrap .i64 ((IntKind.wrap .i64 (v1 + 1)) + 1))))), (.i (IntKind.wrap .i64 ((IntKind.wrap .i64 ((IntKind.wrap .i64 (v1 + 1)) + 1)) + 1))), (.i (IntKind.wrap .i64 ((IntKind.wrap .i64 ((IntKind.wrap .i64 ((IntKind.wrap .i64 (v1 + 1)) + 1)) + 1)) + 1))), (.i (IntKind.wrap .i64 ((IntKind.wrap .i64 ((IntKind.wrap .i64 ((IntKind.wrap .i64 ((IntKind.wrap .i64 (v1 + 1)) + 1)) + 1)) + 1)) + 1))), (.i x0.f6)]), (137, .norm (0, 0, 0) (map d_iisiiii (set v0 (Int.toNat (length p : Int)) (K_iisiiii.mk v1 (IntKind.wrap .i64 (v1 + 1)) (m82 (IntKind.wrap .i64 ((IntKind.wrap .i64 (v1 + 1)) + 1))) (IntKind.wrap .i64 ((IntKind.wrap .i64 ((IntKind.wrap .i64 (v1 + 1)) + 1)) + 1)) (IntKind.wrap .i64 ((IntKind.wrap .i64 ((IntKind.wrap .i64 ((IntKind.wrap .i64 (v1 + 1)) + 1)) + 1)) + 1)) (IntKind.wrap .i64 ((IntKind.wrap .i64 ((IntKind.wrap .i64 ((IntKind.wrap .i64 ((IntKind.wrap .i64 (v1 + 1)) + 1)) + 1)) + 1)) + 1)) (IntKind.wrap .i64 ((IntKind.wrap .i64 ((IntKind.wrap .i64 ((IntKind.wrap .i64 ((IntKind.wrap .i64 ((IntKind.wrap .i64 (v1 + 1)) + 1)) + 1)) + 1)) + 1)) + 1))))))]) (σ := h106_0 a0 a1 (length p : Int) v0 v1) (σ' := ⟨[(0, (.one (.ref ⟨(0, 0, 0), [], 0, (length (map d_iisiiii a0))⟩))), (1, (.oi (IntKind.wrap .i64 ((IntKind.wrap .i64 ((IntKind.wrap .i64 ((IntKind.wrap .i64 ((IntKind.wrap .i64 ((IntKind.wrap .i64 ((IntKind.wrap .i64 (v1 + 1)) + 1)) + 1)) + 1)) + 1)) + 1)) + 1)))), (5, (.oi (IntKind.wrap .i64 ((length p : Int) + 1))))], [((0, 0, 0), .live ⟨7, (map d_iisiiii (set v0 (Int.toNat (length p : Int)) (K_iisiiii.mk v1 (IntKind.wrap .i64 (v1 + 1)) (m82 (IntKind.wrap .i64 ((IntKind.wrap .i64 (v1 + 1)) + 1))) (IntKind.wrap .i64 ((IntKind.wrap .i64 ((IntKind.wrap .i64 (v1 + 1)) + 1)) + 1)) (IntKind.wrap .i64 ((IntKind.wrap .i64 ((IntKind.wrap .i64 ((IntKind.wrap .i64 (v1 + 1)) + 1)) + 1)) + 1)) (IntKind.wrap .i64 ((IntKind.wrap .i64 ((IntKind.wrap .i64 ((IntKind.wrap .i64 ((IntKind.wrap .i64 (v1 + 1)) + 1)) + 1)) + 1)) + 1)) (IntKind.wrap .i64 ((IntKind.wrap .i64 ((IntKind.wrap .i64 ((IntKind.wrap .i64 ((IntKind.wrap .i64 ((IntKind.wrap .i64 (v1 + 1)) + 1)) + 1)) + 1)) + 1)) + 1))))), []⟩)]⟩) (e := .normal) (t' := 150) (hs' := []) (q := [(decide ((length p : Int) < ((length (map d_iisiiii a0)) : Int))) = true, 0 + (length (map d_iisiiii a0)) ≤ (length (map d_iisiiii v0)), 0 ≤ (length p : Int) ∧ (length p : Int) < ((length (map d_iisiiii a0)) : Int), (map d_iisiiii v0)[(0 + (Int.toNat (length p : Int)))]? = some [(.i x0.f0), (.i x0.f1), (.val (.string x0.f2)), (.i x0.f3), (.i x0.f4), (.i x0.f5), (.i x0.f6)], (set (map d_iisiiii v0) (0 + (Int.toNat (length p : Int))) [(.i v1), (.i x0.f1), (.val (.string x0.f2)), (.i x0.f3), (.i x0.f4), (.i x0.f5), (.i x0.f6)]) = (map d_iisiiii (set v0 (Int.toNat (length p : Int)) (K_iisiiii.mk v1 x0.f1 x0.f2 x0.f3 x0.f4 x0.f5 x0.f6))), True, 0 + (length (map d_iisiiii a0)) ≤ (length (map d_iisiiii (set v0 (Int.toNat (length p : Int)) (K_iisiiii.mk v1 x0.f1 x0.f2 x0.f3 x0.f4 x0.f5 x0.f6)))), 0 ≤ (length p : Int) ∧ (length p : Int) < ((length (map d_iisiiii a0)) : Int), (map d_iisiiii (set v0 (Int.toNat (length p : Int)) (K_iisiiii.mk v1 x0.f1 x0.f2 x0.f3 x0.f4 x0.f5 x0.f6)))[(0 + (Int.toNat (length p : Int)))]? = some [(.i v1), (.i x0.f1), (.val (.string x0.f2)), (.i x0.f3), (.i x0.f4), (.i x0.f5), (.i x0.f6)], (set (map d_iisiiii (set v0 (Int.toNat (length p : Int)) (K_iisiiii.mk v1 x0.f1 x0.f2 x0.f3 x0.f4 x0.f5 x0.f6))) (0 + (Int.toNat (length p : Int))) [(.i v1), (.i (IntKind.wrap .i64 (v1 + 1))), (.val (.string x0.f2)), (.i x0.f3), (.i x0.f4), (.i x0.f5), (.i x0.f6)]) = (map d_iisiiii (set v0 (Int.toNat (length p : Int)) (K_iisiiii.mk v1 (IntKind.wrap .i64 (v1 + 1)) x0.f2 x0.f3 x0.f4 x0.f5 x0.f6))), True, Ev F X (.call 82 [(.oi (IntKind.wrap .i64 ((IntKind.wrap .i64 (v1 + 1)) + 1)))] [] [] [(.one (.val (.string (m82 (IntKind.wrap .i64 ((IntKind.wrap .i64 (v1 + 1)) + 1))))))]), 0 + (length (map d_iisiiii a0)) ≤ (length (map d_iisiiii (set v0 (Int.toNat (length p : Int)) (K_iisiiii.mk v1 (IntKind.wrap .i64 (v1 + 1)) x0.f2 x0.f3 x0.f4 x0.f5 x0.f6)))), 0 ≤ (length p : Int) ∧ (length p : Int) < ((length (map d_iisiiii a0)) : Int), (map d_iisiiii (set v0 (Int.toNat (length p : Int)) (K_iisiiii.mk v1 (IntKind.wrap .i64 (v1 + 1)) x0.f2 x0.f3 x0.f4 x0.f5 x0.f6)))[(0 + (Int.toNat (length p : Int)))]? = some [(.i v1), (.i (IntKind.wrap .i64 (v1 + 1))), (.val (.string x0.f2)), (.i x0.f3), (.i x0.f4), (.i x0.f5), (.i x0.f6)], (set (map d_iisiiii (set v0 (Int.toNat (length p : Int)) (K_iisiiii.mk v1 (IntKind.wrap .i64 (v1 + 1)) x0.f2 x0.f3 x0.f4 x0.f5 x0.f6))) (0 + (Int.toNat (length p : Int))) [(.i v1), (.i (IntKind.wrap .i64 (v1 + 1))), (.val (.string (m82 (IntKind.wrap .i64 ((IntKind.wrap .i64 (v1 + 1)) + 1))))), (.i x0.f3), (.i x0.f4), (.i x0.f5), (.i x0.f6)]) = (map d_iisiiii (set v0 (Int.toNat (length p : Int)) (K_iisiiii.mk v1 (IntKind.wrap .i64 (v1 + 1)) (m82 (IntKind.wrap .i64 ((IntKind.wrap .i64 (v1 + 1)) + 1))) x0.f3 x0.f4 x0.f5 x0.f6))), True, 0 + (length (map d_iisiiii a0)) ≤ (length (map d_iisiiii (set v0 (Int.toNat (length p : Int)) (K_iisiiii.mk v1 (IntKind.wrap .i64 (v1 + 1)) (m82 (IntKind.wrap .i64 ((IntKind.wrap .i64 (v1 + 1)) + 1))) x0.f3 x0.f4 x0.f5 x0.f6)))), 0 ≤ (length p : Int) ∧ (length p : Int) < ((length (map d_iisiiii a0)) : Int), (map d_iisiiii (set v0 (Int.toNat (length p : Int)) (K_iisiiii.mk v1 (IntKind.wrap .i64 (v1 + 1)) (m82 (IntKind.wrap .i64 ((IntKind.wrap .i64 (v1 + 1)) + 1))) x0.f3 x0.f4 x0.f5 x0.f6)))[(0 + (Int.toNat (length p : Int)))]? = some [(.i v1), (.i (IntKind.wrap .i64 (v1 + 1))), (.val (.string (m82 (IntKind.wrap .i64 ((IntKind.wrap .i64 (v1 + 1)) + 1))))), (.i x0.f3), (.i x0.f4), (.i x0.f5), (.i x0.f6)], (set (map d_iisiiii (set v0 (Int.toNat (length p : Int)) (K_iisiiii.mk v1 (IntKind.wrap .i64 (v1 + 1)) (m82 (IntKind.wrap .i64 ((IntKind.wrap .i64 (v1 + 1)) + 1))) x0.f3 x0.f4 x0.f5 x0.f6))) (0 + (Int.toNat (length p : Int))) [(.i v1), (.i (IntKind.wrap .i64 (v1 + 1))), (.val (.string (m82 (IntKind.wrap .i64 ((IntKind.wrap .i64 (v1 + 1)) + 1))))), (.i (IntKind.wrap .i64 ((IntKind.wrap .i64 ((IntKind.wrap .i64 (v1 + 1)) + 1)) + 1))), (.i x0.f4), (.i x0.f5), (.i x0.f6)]) = (map d_iisiiii (set v0 (Int.toNat (length p : Int)) (K_iisiiii.mk v1 (IntKind.wrap .i64 (v1 + 1)) (m82 (IntKind.wrap .i64 ((IntKind.wrap .i64 (v1 + 1)) + 1))) (IntKind.wrap .i64 ((IntKind.wrap .i64 ((IntKind.wrap .i64 (v1 + 1)) + 1)) + 1)) x0.f4 x0.f5 x0.f6))), True, 0 + (length (map d_iisiiii a0)) ≤ (length (map d_iisiiii (set v0 (Int.toNat (length p : Int)) (K_iisiiii.mk v1 (IntKind.wrap .i64 (v1 + 1)) (m82 (IntKind.wrap .i64 ((IntKind.wrap .i64 (v1 + 1)) + 1))) (IntKind.wrap .i64 ((IntKind.wrap .i64 ((IntKind.wrap .i64 (v1 + 1)) + 1)) + 1)) x0.f4 x0.f5 x0.f6)))), 0 ≤ (length p : Int) ∧ (length p : Int) < ((length (map d_iisiiii a0)) : Int), (map d_iisiiii (set v0 (Int.toNat (length p : Int)) (K_iisiiii.mk v1 (IntKind.wrap .i64 (v1 + 1)) (m82 (IntKind.wrap .i64 ((IntKind.wrap .i64 (v1 + 1)) + 1))) (IntKind.wrap .i64 ((IntKind.wrap .i64 ((IntKind.wrap .i64 (v1 + 1)) + 1)) + 1)) x0.f4 x0.f5 x0.f6)))[(0 + (Int.toNat (length p : Int)))]? = some [(.i v1), (.i (IntKind.wrap .i64 (v1 + 1))), (.val (.string (m82 (IntKind.wrap .i64 ((IntKind.wrap .i64 (v1 + 1)) + 1))))), (.i (IntKind.wrap .i64 ((IntKind.wrap .i64 ((IntKind.wrap .i64 (v1 + 1)) + 1)) + 1))), (.i x0.f4), (.i x0.f5), (.i x0.f6)], (set (map d_iisiiii (set v0 (Int.toNat (length p : Int)) (K_iisiiii.mk v1 (IntKind.wrap .i64 (v1 + 1)) (m82 (IntKind.wrap .i64 ((IntKind.wrap .i64 (v1 + 1)) + 1))) (IntKind.wrap .i64 ((IntKind.wrap .i64 ((IntKind.wrap .i64 (v1 + 1)) + 1)) + 1)) x0.f4 x0.f5 x0.f6))) (0 + (Int.toNat (length p : Int))) [(.i v1), (.i (IntKind.wrap .i64 (v1 + 1))), (.val (.string (m82 (IntKind.wrap .i64 ((IntKind.wrap .i64 (v1 + 1)) + 1))))), (.i (IntKind.wrap .i64 ((IntKind.wrap .i64 ((IntKind.wrap .i64 (v1 + 1)) + 1)) + 1))), (.i (IntKind.wrap .i64 ((IntKind.wrap .i64 ((IntKind.wrap .i64 ((IntKind.wrap .i64 (v1 + 1)) + 1)) + 1)) + 1))), (.i x0.f5), (.i x0.f6)]) = (map d_iisiiii (set v0 (Int.toNat (length p : Int)) (K_iisiiii.mk v1 (IntKind.wrap .i64 (v1 + 1)) (m82 (IntKind.wrap .i64 ((IntKind.wrap .i64 (v1 + 1)) + 1))) (IntKind.wrap .i64 ((IntKind.wrap .i64 ((IntKind.wrap .i64 (v1 + 1)) + 1)) + 1)) (IntKind.wrap .i64 ((IntKind.wrap .i64 ((IntKind.wrap .i64 ((IntKind.wrap .i64 (v1 + 1)) + 1)) + 1)) + 1)) x0.f5 x0.f6))), True, 0 + (length (map d_iisiiii a0)) ≤ (length (map d_iisiiii (set v0 (Int.toNat (length p : Int)) (K_iisiiii.mk v1 (IntKind.wrap .i64 (v1 + 1)) (m82 (IntKind.wrap .i64 ((IntKind.wrap .i64 (v1 + 1)) + 1))) (IntKind.wrap .i64 ((IntKind.wrap .i64 ((IntKind.wrap .i64 (v1 + 1)) + 1)) + 1)) (IntKind.wrap .i64 ((IntKind.wrap .i64 ((IntKind.wrap .i64 ((IntKind.wrap .i64 (v1 + 1)) + 1)) + 1)) + 1)) x0.f5 x0.f6)))), 0 ≤ (length p : Int) ∧ (length p : Int) < ((length (map d_iisiiii a0)) : Int), (map d_iisiiii (set v0 (Int.toNat (length p : Int)) (K_iisiiii.mk v1 (IntKind.wrap .i64 (v1 + 1)) (m82 (IntKind.wrap .i64 ((IntKind.wrap .i64 (v1 + 1)) + 1))) (IntKind.wrap .i64 ((IntKind.wrap .i64 ((IntKind.wrap .i64 (v1 + 1)) + 1)) + 1)) (IntKind.wrap .i64 ((IntKind.wrap .i64 ((IntKind.wrap .i64 ((IntKind.wrap .i64 (v1 + 1)) + 1)) + 1)) + 1)) x0.f5 x0.f6)))[(0 + (Int.toNat (length p : Int)))]? = some [(.i v1), (.i (IntKind.wrap .i64 (v1 + 1))), (.val (.string (m82 (IntKind.wrap .i64 ((IntKind.wrap .i64 (v1 + 1)) + 1))))), (.i (IntKind.wrap .i64 ((IntKind.wrap .i64 ((IntKind.wrap .i64 (v1 + 1)) + 1)) + 1))), (.i (IntKind.wrap .i64 ((IntKind.wrap .i64 ((IntKind.wrap .i64 ((IntKind.wrap .i64 (v1 + 1)) + 1)) + 1)) + 1))), (.i x0.f5), (.i x0.f6)], (set (map d_iisiiii (set v0 (Int.toNat (length p : Int)) (K_iisiiii.mk v1 (IntKind.wrap .i64 (v1 + 1)) (m82 (IntKind.wrap .i64 ((IntKind.wrap .i64 (v1 + 1)) + 1))) (IntKind.wrap .i64 ((IntKind.wrap .i64 ((IntKind.wrap .i64 (v1 + 1)) + 1)) + 1)) (IntKind.wrap .i64 ((IntKind.wrap .i64 ((IntKind.wrap .i64 ((IntKind.wrap .i64 (v1 + 1)) + 1)) + 1)) + 1)) x0.f5 x0.f6))) (0 + (Int.toNat (length p : Int))) [(.i v1), (.i (IntKind.wrap .i64 (v1 + 1))), (.val (.string (m82 (IntKind.wrap .i64 ((IntKind.wrap .i64 (v1 + 1)) + 1))))), (.i (IntKind.wrap .i64 ((IntKind.wrap .i64 ((IntKind.wrap .i64 (v1 + 1)) + 1)) + 1))), (.i (IntKind.wrap .i64 ((IntKind.wrap .i64 ((IntKind.wrap .i64 ((IntKind.wrap .i64 (v1 + 1)) + 1)) + 1)) + 1))), (.i (IntKind.wrap .i64 ((IntKind.wrap .i64 ((IntKind.wrap .i64 ((IntKind.wrap .i64 ((IntKind.wrap .i64 (v1 + 1)) + 1)) + 1)) + 1)) + 1))), (.i x0.f6)]) = (map d_iisiiii (set v0 (Int.toNat (length p : Int)) (K_iisiiii.mk v1 (IntKind.wrap .i64 (v1 + 1)) (m82 (IntKind.wrap .i64 ((IntKind.wrap .i64 (v1 + 1)) + 1))) (IntKind.wrap .i64 ((IntKind.wrap .i64 ((IntKind.wrap .i64 (v1 + 1)) + 1)) + 1)) (IntKind.wrap .i64 ((IntKind.wrap .i64 ((IntKind.wrap .i64 ((IntKind.wrap .i64 (v1 + 1)) + 1)) + 1)) + 1)) (IntKind.wrap .i64 ((IntKind.wrap .i64 ((IntKind.wrap .i64 ((IntKind.wrap .i64 ((IntKind.wrap .i64 (v1 + 1)) + 1)) + 1)) + 1)) + 1)) x0.f6))), True, 0 + (length (map d_iisiiii a0)) ≤ (length (map d_iisiiii (set v0 (Int.toNat (length p : Int)) (K_iisiiii.mk v1 (IntKind.wrap .i64 (v1 + 1)) (m82 (IntKind.wrap .i64 ((IntKind.wrap .i64 (v1 + 1)) + 1))) (IntKind.wrap .i64 ((IntKind.wrap .i64 ((IntKind.wrap .i64 (v1 + 1)) + 1)) + 1)) (IntKind.wrap .i64 ((IntKind.wrap .i64 ((IntKind.wrap .i64 ((IntKind.wrap .i64 (v1 + 1)) + 1)) + 1)) + 1)) (IntKind.wrap .i64 ((IntKind.wrap .i64 ((IntKind.wrap .i64 ((IntKind.wrap .i64 ((IntKind.wrap .i64 (v1 + 1)) + 1)) + 1)) + 1)) + 1)) x0.f6)))), 0 ≤ (length p : Int) ∧ (length p : Int) < ((length (map d_iisiiii a0)) : Int), (map d_iisiiii (set v0 (Int.toNat (length p : Int)) (K_iisiiii.mk v1 (IntKind.wrap .i64 (v1 + 1)) (m82 (IntKind.wrap .i64 ((IntKind.wrap .i64 (v1 + 1)) + 1))) (IntKind.wrap .i64 ((IntKind.wrap .i64 ((IntKind.wrap .i64 (v1 + 1)) + 1)) + 1)) (IntKind.wrap .i64 ((IntKind.wrap .i64 ((IntKind.wrap .i64 ((IntKind.wrap .i64 (v1 + 1)) + 1)) + 1)) + 1)) (IntKind.wrap .i64 ((IntKind.wrap .i64 ((IntKind.wrap .i64 ((IntKind.wrap .i64 ((IntKind.wrap .i64 (v1 + 1)) + 1)) + 1)) + 1)) + 1)) x0.f6)))[(0 + (Int.toNat (length p : Int)))]? = some [(.i v1), (.i (IntKind.wrap .i64 (v1 + 1))), (.val (.string (m82 (IntKind.wrap .i64 ((IntKind.wrap .i64 (v1 + 1)) + 1))))), (.i (IntKind.wrap .i64 ((IntKind.wrap .i64 ((IntKind.wrap .i64 (v1 + 1)) + 1)) + 1))), (.i (IntKind.wrap .i64 ((IntKind.wrap .i64 ((IntKind.wrap .i64 ((IntKind.wrap .i64 (v1 + 1)) + 1)) + 1)) + 1))), (.i (IntKind.wrap .i64 ((IntKind.wrap .i64 ((IntKind.wrap .i64 ((IntKind.wrap .i64 ((IntKind.wrap .i64 (v1 + 1)) + 1)) + 1)) + 1)) + 1))), (.i x0.f6)], (set (map d_iisiiii (set v0 (Int.toNat (length p : Int)) (K_iisiiii.mk v1 (IntKind.wrap .i64 (v1 + 1)) (m82 (IntKind.wrap .i64 ((IntKind.wrap .i64 (v1 + 1)) + 1))) (IntKind.wrap .i64 ((IntKind.wrap .i64 ((IntKind.wrap .i64 (v1 + 1)) + 1)) + 1)) (IntKind.wrap .i64 ((IntKind.wrap .i64 ((IntKind.wrap .i64 ((IntKind.wrap .i64 (v1 + 1)) + 1)) + 1)) + 1)) (IntKind.wrap .i64 ((IntKind.wrap .i64 ((IntKind.wrap .i64 ((IntKind.wrap .i64 ((IntKind.wrap .i64 (v1 + 1)) + 1)) + 1)) + 1)) + 1)) x0.f6))) (0 + (Int.toNat (length p : Int))) [(.i v1), (.i (IntKind.wrap .i64 (v1 + 1))), (.val (.string (m82 (IntKind.wrap .i64 ((IntKind.wrap .i64 (v1 + 1)) + 1))))), (.i (IntKind.wrap .i64 ((IntKind.wrap .i64 ((IntKind.wrap .i64 (v1 + 1)) + 1)) + 1))), (.i (IntKind.wrap .i64 ((IntKind.wrap .i64 ((IntKind.wrap .i64 ((IntKind.wrap .i64 (v1 + 1)) + 1)) + 1)) + 1))), (.i (IntKind.wrap .i64 ((IntKind.wrap .i64 ((IntKind.wrap .i64 ((IntKind.wrap .i64 ((IntKind.wrap .i64 (v1 + 1)) + 1)) + 1)) + 1)) + 1))), (.i (IntKind.wrap .i64 ((IntKind.wrap .i64 ((IntKind.wrap .i64 ((IntKind.wrap .i64 ((IntKind.wrap .i64 ((IntKind.wrap .i64 (v1 + 1)) + 1)) + 1)) + 1)) + 1)) + 1)))]) = (map d_iisiiii (set v0 (Int.toNat (length p : Int)) (K_iisiiii.mk v1 (IntKind.wrap .i64 (v1 + 1)) (m82 (IntKind.wrap .i64 ((IntKind.wrap .i64 (v1 + 1)) + 1))) (IntKind.wrap .i64 ((IntKind.wrap .i64 ((IntKind.wrap .i64 (v1 + 1)) + 1)) + 1)) (IntKind.wrap .i64 ((IntKind.wrap .i64 ((IntKind.wrap .i64 ((IntKind.wrap .i64 (v1 + 1)) + 1)) + 1)) + 1)) (IntKind.wrap .i64 ((IntKind.wrap .i64 ((IntKind.wrap .i64 ((IntKind.wrap .i64 ((IntKind.wrap .i64 (v1 + 1)) + 1)) + 1)) + 1)) + 1)) (IntKind.wrap .i64 ((IntKind.wrap .i64 ((IntKind.wrap .i64 ((IntKind.wrap .i64 ((IntKind.wrap .i64 ((IntKind.wrap .i64 (v1 + 1)) + 1)) + 1)) + 1)) + 1)) + 1))))), True, True]) (by kernel_rfl) ⟨hc, (by simp only [length_map]; omega), (by omega), (by rw [Nat.zero_add, getElem?_map, Hv0]; rfl), (by simp [byteRows_eq, ints_y, take_of_length_le, d_sisi, d_LsisiEi, d_b, d_i, d_s, d_iisiiii, d_iLsELiisiiiiELsisiEi, d_LsisiE, d_LsE, d_LiisiiiiE, d_y, fromBR_sisi, fromBR_b, fromBR_i, fromBR_s, fromBR_iisiiii, fromBR_y, ol99, ol52_0, ol100]; done), trivial, (by simp only [length_map, length_set]; omega), (by omega), (by rw [Nat.zero_add, map_set, List.getElem?_set_self (by simp only [length_map]; omega)]; rfl), (by simp [byteRows_eq, ints_y, take_of_length_le, d_sisi, d_LsisiEi, d_b, d_i, d_s, d_iisiiii, d_iLsELiisiiiiELsisiEi, d_LsisiE, d_LsE, d_LiisiiiiE, d_y, fromBR_sisi, fromBR_b, fromBR_i, fromBR_s, fromBR_iisiiii, fromBR_y, ol99, ol52_0, ol100]; done), trivial, (e82 (a0 := (IntKind.wrap .i64 ((IntKind.wrap .i64 (v1 + 1)) + 1)))), (by simp only [length_map, length_set]; omega), (by omega), (by rw [Nat.zero_add, map_set, List.getElem?_set_self (by simp only [length_map]; omega)]; rfl), (by simp [byteRows_eq, ints_y, take_of_length_le, d_sisi, d_LsisiEi, d_b, d_i, d_s, d_iisiiii, d_iLsELiisiiiiELsisiEi, d_LsisiE, d_LsE, d_LiisiiiiE, d_y, fromBR_sisi, fromBR_b, fromBR_i, fromBR_s, fromBR_iisiiii, fromBR_y, ol99, ol52_0, ol100]; done), trivial, (by unfold m82; (repeat' split) <;> simp_all <;> omega), (by omega), (by rw [Nat.zero_add, map_set, List.getElem?_set_self (by simp only [length_map]; omega)]; rfl), (by simp [byteRows_eq, ints_y, take_of_length_le, d_sisi, d_LsisiEi, d_b, d_i, d_s, d_iisiiii, d_iLsELiisiiiiELsisiEi, d_LsisiE, d_LsE, d_LiisiiiiE, d_y, fromBR_sisi, fromBR_b, fromBR_i, fromBR_s, fromBR_iisiiii, fromBR_y, ol99, ol52_0, ol100]; done), trivial, (by unfold m82; (repeat' split) <;> simp_all <;> omega), (by omega), (by rw [Nat.zero_add, map_set, List.getElem?_set_self (by simp only [length_map]; omega)]; rfl), (by simp [byteRows_eq, ints_y, take_of_length_le, d_sisi, d_LsisiEi, d_b, d_i, d_s, d_iisiiii, d_iLsELiisiiiiELsisiEi, d_LsisiE, d_LsE, d_LiisiiiiE, d_y, fromBR_sisi, fromBR_b, fromBR_i, fromBR_s, fromBR_iisiiii, fromBR_y, ol99, ol52_0, ol100]; done), trivial, (by unfold m82; (repeat' split) <;> simp_all <;> omega), (by omega), (by rw [Nat.zero_add, map_set, List.getElem?_set_self (by simp only [length_map]; omega)]; rfl), (by simp [byteRows_eq, ints_y, take_of_length_le, d_sisi, d_LsisiEi, d_b, d_i, d_s, d_iisiiii, d_iLsELiisiiiiELsisiEi, d_LsisiE, d_LsE, d_LiisiiiiE, d_y, fromBR_sisi, fromBR_b, fromBR_i, fromBR_s, fromBR_iisiiii, fromBR_y, ol99, ol52_0, ol100]; done), trivial, (by unfold m82; (repeat' split) <;> simp_all <;> omega), (by omega), (by rw [Nat.zero_add, map_set, List.getElem?_set_self (by simp only [length_map]; omega)]; rfl), (by simp [byteRows_eq, ints_y, take_of_length_le, d_sisi, d_LsisiEi, d_b, d_i, d_s, d_iisiiii, d_iLsELiisiiiiELsisiEi, d_LsisiE, d_LsE, d_LiisiiiiE, d_y, fromBR_sisi, fromBR_b, fromBR_i, fromBR_s, fromBR_iisiiii, fromBR_y, ol99, ol52_0, ol100]; done), trivial, trivial, trivial⟩
    have ih := t106_0 (a0 := a0) (a1 := a1) hy0 y0 (p ++ [x0]) (set v0 (Int.toNat (length p : Int)) (K_iisiiii.mk v1 (IntKind.wrap .i64 (v1 + 1)) (m82 (IntKind.wrap .i64 ((IntKind.wrap .i64 (v1 + 1)) + 1))) (IntKind.wrap .i64 ((IntKind.wrap .i64 ((IntKind.wrap .i64 (v1 + 1)) + 1)) + 1)) (IntKind.wrap .i64 ((IntKind.wrap .i64 ((IntKind.wrap .i64 ((IntKind.wrap .i64 (v1 + 1)) + 1)) + 1)) + 1)) (IntKind.wrap .i64 ((IntKind.wrap .i64 ((IntKind.wrap .i64 ((IntKind.wrap .i64 ((IntKind.wrap .i64 (v1 + 1)) + 1)) + 1)) + 1)) + 1)) (IntKind.wrap .i64 ((IntKind.wrap .i64 ((IntKind.wrap .i64 ((IntKind.wrap .i64 ((IntKind.wrap .i64 ((IntKind.wrap .i64 (v1 + 1)) + 1)) + 1)) + 1)) + 1)) + 1)))) (IntKind.wrap .i64 ((IntKind.wrap .i64 ((IntKind.wrap .i64 ((IntKind.wrap .i64 ((IntKind.wrap .i64 ((IntKind.wrap .i64 ((IntKind.wrap .i64 (v1 + 1)) + 1)) + 1)) + 1)) + 1)) + 1)) + 1)) (by rw [append_assoc]; exact hp0) (by simp only [length_map, length_set, length_append, length_replicate, length_cons, length_nil]; omega) (by simp only [length_map, length_set, length_append, length_replicate, length_cons, length_nil, Int.toNat_natCast]; first | exact drop_set_next hi1 _ | exact drop_next hi1)
    rw [show ((p ++ [x0]).length : Int) = (p.length : Int) + 1 from by simp] at ih
    rw [show (⟨[(0, (.one (.ref ⟨(0, 0, 0), [], 0, (length (map d_iisiiii a0))⟩))), (1, (.oi (IntKind.wrap .i64 ((IntKind.wrap .i64 ((IntKind.wrap .i64 ((IntKind.wrap .i64 ((IntKind.wrap .i64 ((IntKind.wrap .i64 ((IntKind.wrap .i64 (v1 + 1)) + 1)) + 1)) + 1)) + 1)) + 1)) + 1)))), (5, (.oi (IntKind.wrap .i64 ((length p : Int) + 1))))], [((0, 0, 0), .live ⟨7, (map d_iisiiii (set v0 (Int.toNat (length p : Int)) (K_iisiiii.mk v1 (IntKind.wrap .i64 (v1 + 1)) (m82 (IntKind.wrap .i64 ((IntKind.wrap .i64 (v1 + 1)) + 1))) (IntKind.wrap .i64 ((IntKind.wrap .i64 ((IntKind.wrap .i64 (v1 + 1)) + 1)) + 1)) (IntKind.wrap .i64 ((IntKind.wrap .i64 ((IntKind.wrap .i64 ((IntKind.wrap .i64 (v1 + 1)) + 1)) + 1)) + 1)) (IntKind.wrap .i64 ((IntKind.wrap .i64 ((IntKind.wrap .i64 ((IntKind.wrap .i64 ((IntKind.wrap .i64 (v1 + 1)) + 1)) + 1)) + 1)) + 1)) (IntKind.wrap .i64 ((IntKind.wrap .i64 ((IntKind.wrap .i64 ((IntKind.wrap .i64 ((IntKind.wrap .i64 ((IntKind.wrap .i64 (v1 + 1)) + 1)) + 1)) + 1)) + 1)) + 1))))), []⟩)]⟩ : St) = h106_0 a0 a1 ((length p : Int) + 1) (set v0 (Int.toNat (length p : Int)) (K_iisiiii.mk v1 (IntKind.wrap .i64 (v1 + 1)) (m82 (IntKind.wrap .i64 ((IntKind.wrap .i64 (v1 + 1)) + 1))) (IntKind.wrap .i64 ((IntKind.wrap .i64 ((IntKind.wrap .i64 (v1 + 1)) + 1)) + 1)) (IntKind.wrap .i64 ((IntKind.wrap .i64 ((IntKind.wrap .i64 ((IntKind.wrap .i64 (v1 + 1)) + 1)) + 1)) + 1)) (IntKind.wrap .i64 ((IntKind.wrap .i64 ((IntKind.wrap .i64 ((IntKind.wrap .i64 ((IntKind.wrap .i64 (v1 + 1)) + 1)) + 1)) + 1)) + 1)) (IntKind.wrap .i64 ((IntKind.wrap .i64 ((IntKind.wrap .i64 ((IntKind.wrap .i64 ((IntKind.wrap .i64 ((IntKind.wrap .i64 (v1 + 1)) + 1)) + 1)) + 1)) + 1)) + 1)))) (IntKind.wrap .i64 ((IntKind.wrap .i64 ((IntKind.wrap .i64 ((IntKind.wrap .i64 ((IntKind.wrap .i64 ((IntKind.wrap .i64 ((IntKind.wrap .i64 (v1 + 1)) + 1)) + 1)) + 1)) + 1)) + 1)) + 1)) from (by unfold h106_0; simp only [hw]; done)] at st
    exact .loopN st ih
def post106_0 (n0 : Nat) : O106_0 → Prop
  | .k0 w0 _ _ _ => length w0 = n0
theorem z106_0 {a0 : (List K_iisiiii)} : ∀ (y0 : List K_iisiiii) (i : Int) (v0 : List K_iisiiii) (v1 : Int), post106_0 (length v0) (r106_0 a0 y0 i v0 v1)
  | [], i, v0, v1 => by
    first | trivial | (simp only [post106_0, length_nil, Nat.add_zero]; done) | (simp [post106_0]; done)
  | x0 :: y0, i, v0, v1 => by
    simp only [r106_0]
    have z := z106_0 (a0 := a0) y0 (i + 1) (set v0 (Int.toNat i) (K_iisiiii.mk v1 (IntKind.wrap .i64 (v1 + 1)) (m82 (IntKind.wrap .i64 ((IntKind.wrap .i64 (v1 + 1)) + 1))) (IntKind.wrap .i64 ((IntKind.wrap .i64 ((IntKind.wrap .i64 (v1 + 1)) + 1)) + 1)) (IntKind.wrap .i64 ((IntKind.wrap .i64 ((IntKind.wrap .i64 ((IntKind.wrap .i64 (v1 + 1)) + 1)) + 1)) + 1)) (IntKind.wrap .i64 ((IntKind.wrap .i64 ((IntKind.wrap .i64 ((IntKind.wrap .i64 ((IntKind.wrap .i64 (v1 + 1)) + 1)) + 1)) + 1)) + 1)) (IntKind.wrap .i64 ((IntKind.wrap .i64 ((IntKind.wrap .i64 ((IntKind.wrap .i64 ((IntKind.wrap .i64 ((IntKind.wrap .i64 (v1 + 1)) + 1)) + 1)) + 1)) + 1)) + 1)))) (IntKind.wrap .i64 ((IntKind.wrap .i64 ((IntKind.wrap .i64 ((IntKind.wrap .i64 ((IntKind.wrap .i64 ((IntKind.wrap .i64 ((IntKind.wrap .i64 (v1 + 1)) + 1)) + 1)) + 1)) + 1)) + 1)) + 1))
    rw [show (length v0) = (length (set v0 (Int.toNat i) (K_iisiiii.mk v1 (IntKind.wrap .i64 (v1 + 1)) (m82 (IntKind.wrap .i64 ((IntKind.wrap .i64 (v1 + 1)) + 1))) (IntKind.wrap .i64 ((IntKind.wrap .i64 ((IntKind.wrap .i64 (v1 + 1)) + 1)) + 1)) (IntKind.wrap .i64 ((IntKind.wrap .i64 ((IntKind.wrap .i64 ((IntKind.wrap .i64 (v1 + 1)) + 1)) + 1)) + 1)) (IntKind.wrap .i64 ((IntKind.wrap .i64 ((IntKind.wrap .i64 ((IntKind.wrap .i64 ((IntKind.wrap .i64 (v1 + 1)) + 1)) + 1)) + 1)) + 1)) (IntKind.wrap .i64 ((IntKind.wrap .i64 ((IntKind.wrap .i64 ((IntKind.wrap .i64 ((IntKind.wrap .i64 ((IntKind.wrap .i64 (v1 + 1)) + 1)) + 1)) + 1)) + 1)) + 1))))) from by first | omega | (simp only [length_map, length_set, length_append, length_replicate, length_cons, length_nil]; done) | (simp only [length_map, length_set, length_append, length_replicate, length_cons, length_nil]; omega)]
    exact z
/-! loop.example/g00539/laws.markActS -/
def o106_0 (a0 : (List K_iisiiii)) (a1 : Int) : List K_iisiiii :=
  (match r106_0 a0 a0 0 a0 a1 with | .k0 w0_0 w1_0 w2_0 w3_0 => w0_0)
def m106 (a0 : (List K_iisiiii)) (a1 : Int) : Int :=
  (match r106_0 a0 a0 0 a0 a1 with | .k0 w0_0 w1_0 w2_0 w3_0 => w1_0)
theorem e106 {a0 : (List K_iisiiii)} {a1 : Int} (hy0 : length a0 * 64 ≤ 140737488351232) : Ev F X (.call 106 [(.one (.ref ⟨(0, 0, 0), [], 0, (length (map d_iisiiii a0))⟩)), (.one (.val (.int .i64 a1)))] [((0, 0, 0), ⟨7, (map d_iisiiii a0), []⟩)] [(map d_iisiiii (o106_0 a0 a1))] [(.one (.val (.int .i64 (m106 a0 a1))))]) := by
  unfold m106 o106_0
  cases h0 : r106_0 a0 a0 0 a0 a1 with
  | k0 w0_0 w1_0 w2_0 w3_0 =>
    try dsimp only
    have zh0 := z106_0 (a0 := a0) a0 0 a0 a1; rw [h0] at zh0; simp only [post106_0, length_map, length_set, length_append, length_replicate, length_cons, length_nil, Int.toNat_natCast] at zh0
    have f0 : (⟨[(0, (.one (.ref ⟨(0, 0, 0), [], 0, (length (map d_iisiiii a0))⟩))), (1, (.oi a1)), (5, (.oi 0))], [((0, 0, 0), .live ⟨7, (map d_iisiiii a0), []⟩)]⟩ : St) = h106_0 a0 a1 0 a0 a1 := (by rfl)
    have f1 : Ev F X (.code l106_0 (h106_0 a0 a1 0 a0 a1) (.exit 0) ⟨[(0, (.one (.ref ⟨(0, 0, 0), [], 0, (length (map d_iisiiii a0))⟩))), (1, (.oi w1_0)), (5, (.oi w2_0)), (9, (.one (.val (.bool w3_0))))], [((0, 0, 0), .live ⟨7, (map d_iisiiii w0_0), []⟩)]⟩) := (by have t : Ev F X (.code l106_0 (h106_0 a0 a1 0 a0 a1) (ex106_0 (r106_0 a0 a0 0 a0 a1)) (fin106_0 a0 a1 (r106_0 a0 a0 0 a0 a1))) := t106_0 (a0 := a0) (a1 := a1) (by assumption) a0 [] a0 a1 rfl (by simp only [length_map, length_set, length_append, length_replicate, length_cons, length_nil]; done) (by rfl); rw [h0] at t; exact t)
    have f2 : pureR (map d_iisiiii w0_0) = true := (pureR_iisiiii _)
    exact callP_ok (ps := [true]) (os := [(map d_iisiiii w0_0)]) (rs := [(.oi w1_0)]) (by kernel_rfl) (.f f0 (.f f1 (.f f2 (.h 4 (.loop (h106_0 a0 a1 0 a0 a1) (.exit 0) ⟨[(0, (.one (.ref ⟨(0, 0, 0), [], 0, (length (map d_iisiiii a0))⟩))), (1, (.oi w1_0)), (5, (.oi w2_0)), (9, (.one (.val (.bool w3_0))))], [((0, 0, 0), .live ⟨7, (map d_iisiiii w0_0), []⟩)]⟩) .nil))))
theorem ow106_0 (a0 : List K_iisiiii) : ∀ (l p : List K_iisiiii) (v1 : Int), ∃ (q : List K_iisiiii) (w1 : _) (w2 : _) (w3 : _), r106_0 a0 l (p.length : Int) (p ++ l) v1 = .k0 (p ++ q) w1 w2 w3 ∧ q.length = l.length
  | [], p, v1 => ⟨[], v1, (p.length : Int), (decide ((p.length : Int) < ((length (map d_iisiiii a0)) : Int))), rfl, rfl⟩
  | x0 :: l, p, v1 => by
    obtain ⟨q, w1, w2, w3, e1, e2⟩ := ow106_0 a0 l (p ++ [(K_iisiiii.mk v1 (IntKind.wrap .i64 (v1 + 1)) (m82 (IntKind.wrap .i64 ((IntKind.wrap .i64 (v1 + 1)) + 1))) (IntKind.wrap .i64 ((IntKind.wrap .i64 ((IntKind.wrap .i64 (v1 + 1)) + 1)) + 1)) (IntKind.wrap .i64 ((IntKind.wrap .i64 ((IntKind.wrap .i64 ((IntKind.wrap .i64 (v1 + 1)) + 1)) + 1)) + 1)) (IntKind.wrap .i64 ((IntKind.wrap .i64 ((IntKind.wrap .i64 ((IntKind.wrap .i64 ((IntKind.wrap .i64 (v1 + 1)) + 1)) + 1)) + 1)) + 1)) (IntKind.wrap .i64 ((IntKind.wrap .i64 ((IntKind.wrap .i64 ((IntKind.wrap .i64 ((IntKind.wrap .i64 ((IntKind.wrap .i64 (v1 + 1)) + 1)) + 1)) + 1)) + 1)) + 1)))]) (IntKind.wrap .i64 ((IntKind.wrap .i64 ((IntKind.wrap .i64 ((IntKind.wrap .i64 ((IntKind.wrap .i64 ((IntKind.wrap .i64 ((IntKind.wrap .i64 (v1 + 1)) + 1)) + 1)) + 1)) + 1)) + 1)) + 1))
    refine ⟨(K_iisiiii.mk v1 (IntKind.wrap .i64 (v1 + 1)) (m82 (IntKind.wrap .i64 ((IntKind.wrap .i64 (v1 + 1)) + 1))) (IntKind.wrap .i64 ((IntKind.wrap .i64 ((IntKind.wrap .i64 (v1 + 1)) + 1)) + 1)) (IntKind.wrap .i64 ((IntKind.wrap .i64 ((IntKind.wrap .i64 ((IntKind.wrap .i64 (v1 + 1)) + 1)) + 1)) + 1)) (IntKind.wrap .i64 ((IntKind.wrap .i64 ((IntKind.wrap .i64 ((IntKind.wrap .i64 ((IntKind.wrap .i64 (v1 + 1)) + 1)) + 1)) + 1)) + 1)) (IntKind.wrap .i64 ((IntKind.wrap .i64 ((IntKind.wrap .i64 ((IntKind.wrap .i64 ((IntKind.wrap .i64 ((IntKind.wrap .i64 (v1 + 1)) + 1)) + 1)) + 1)) + 1)) + 1))) :: q, w1, w2, w3, ?_, by simp [e2]⟩
    · have e : set (p ++ x0 :: l) (Int.toNat (p.length : Int)) (K_iisiiii.mk v1 (IntKind.wrap .i64 (v1 + 1)) (m82 (IntKind.wrap .i64 ((IntKind.wrap .i64 (v1 + 1)) + 1))) (IntKind.wrap .i64 ((IntKind.wrap .i64 ((IntKind.wrap .i64 (v1 + 1)) + 1)) + 1)) (IntKind.wrap .i64 ((IntKind.wrap .i64 ((IntKind.wrap .i64 ((IntKind.wrap .i64 (v1 + 1)) + 1)) + 1)) + 1)) (IntKind.wrap .i64 ((IntKind.wrap .i64 ((IntKind.wrap .i64 ((IntKind.wrap .i64 ((IntKind.wrap .i64 (v1 + 1)) + 1)) + 1)) + 1)) + 1)) (IntKind.wrap .i64 ((IntKind.wrap .i64 ((IntKind.wrap .i64 ((IntKind.wrap .i64 ((IntKind.wrap .i64 ((IntKind.wrap .i64 (v1 + 1)) + 1)) + 1)) + 1)) + 1)) + 1))) = (p ++ [(K_iisiiii.mk v1 (IntKind.wrap .i64 (v1 + 1)) (m82 (IntKind.wrap .i64 ((IntKind.wrap .i64 (v1 + 1)) + 1))) (IntKind.wrap .i64 ((IntKind.wrap .i64 ((IntKind.wrap .i64 (v1 + 1)) + 1)) + 1)) (IntKind.wrap .i64 ((IntKind.wrap .i64 ((IntKind.wrap .i64 ((IntKind.wrap .i64 (v1 + 1)) + 1)) + 1)) + 1)) (IntKind.wrap .i64 ((IntKind.wrap .i64 ((IntKind.wrap .i64 ((IntKind.wrap .i64 ((IntKind.wrap .i64 (v1 + 1)) + 1)) + 1)) + 1)) + 1)) (IntKind.wrap .i64 ((IntKind.wrap .i64 ((IntKind.wrap .i64 ((IntKind.wrap .i64 ((IntKind.wrap .i64 ((IntKind.wrap .i64 (v1 + 1)) + 1)) + 1)) + 1)) + 1)) + 1)))]) ++ l := by simp
      have e0 : ((p ++ [(K_iisiiii.mk v1 (IntKind.wrap .i64 (v1 + 1)) (m82 (IntKind.wrap .i64 ((IntKind.wrap .i64 (v1 + 1)) + 1))) (IntKind.wrap .i64 ((IntKind.wrap .i64 ((IntKind.wrap .i64 (v1 + 1)) + 1)) + 1)) (IntKind.wrap .i64 ((IntKind.wrap .i64 ((IntKind.wrap .i64 ((IntKind.wrap .i64 (v1 + 1)) + 1)) + 1)) + 1)) (IntKind.wrap .i64 ((IntKind.wrap .i64 ((IntKind.wrap .i64 ((IntKind.wrap .i64 ((IntKind.wrap .i64 (v1 + 1)) + 1)) + 1)) + 1)) + 1)) (IntKind.wrap .i64 ((IntKind.wrap .i64 ((IntKind.wrap .i64 ((IntKind.wrap .i64 ((IntKind.wrap .i64 ((IntKind.wrap .i64 (v1 + 1)) + 1)) + 1)) + 1)) + 1)) + 1)))]).length : Int) = (p.length : Int) + 1 := by simp
      rw [e0] at e1
      simp only [r106_0]
      first | (rw [e, e1]; simp; done) | (simp only [e, e1]; simp; done)

theorem ol106 (a : List K_iisiiii) (k : Int) : (o106_0 a k).length = a.length := by
  obtain ⟨q, w1, w2, w3, e1, e2⟩ := ow106_0 a a [] k
  simp only [List.nil_append, length_nil] at e1
  rw [show ((0 : Nat) : Int) = 0 from rfl] at e1
  unfold o106_0
  rw [e1]; exact e2
/-! loop.example/g00539/laws.markServerResult -/
def o58_0 (a0 : K_iLsELiisiiiiELsisiEi) (a1 : Int) : List K_sisi :=
  (o52_0 (K_LsisiEi.mk a0.f3 a0.f4) (m106 a0.f2 (m100 a0.f1 a1)))
def o58_1 (a0 : K_iLsELiisiiiiELsisiEi) (a1 : Int) : List K_iisiiii :=
  (o106_0 a0.f2 (m100 a0.f1 a1))
def o58_2 (a0 : K_iLsELiisiiiiELsisiEi) (a1 : Int) : List ByteArray :=
  (o100_0 a0.f1 a1)
def m58 (a0 : K_iLsELiisiiiiELsisiEi) (a1 : Int) : Int :=
  (m52 (K_LsisiEi.mk a0.f3 a0.f4) (m106 a0.f2 (m100 a0.f1 a1)))
theorem e58 {a0 : K_iLsELiisiiiiELsisiEi} {a1 : Int} (hy0 : length a0.f1 * 16 ≤ 140737488351232) (hy1 : length a0.f2 * 64 ≤ 140737488351232) (hy2 : length a0.f3 * 48 ≤ 140737488351232) : Ev F X (.call 58 [(.agg [(.val (.int .i64 a0.f0)), (.ref ⟨(0, 0, 0), [], 0, (length (map d_s a0.f1))⟩), (.ref ⟨(0, 1, 0), [], 0, (length (map d_iisiiii a0.f2))⟩), (.ref ⟨(0, 2, 0), [], 0, (length (map d_sisi a0.f3))⟩), (.val (.int .i64 a0.f4))]), (.one (.val (.int .i64 a1)))] [((0, 2, 0), ⟨4, (map d_sisi a0.f3), []⟩), ((0, 1, 0), ⟨7, (map d_iisiiii a0.f2), []⟩), ((0, 0, 0), ⟨1, (map d_s a0.f1), []⟩)] [(map d_sisi (o58_0 a0 a1)), (map d_iisiiii (o58_1 a0 a1)), (map d_s (o58_2 a0 a1))] [(.one (.val (.int .i64 (m58 a0 a1))))]) := by
  have f0 : 0 = 0 := rfl
  have f1 : (length (map d_s a0.f1)) = (length (map d_s a0.f1)) := rfl
  have f2 : 0 = 0 := rfl
  have f3 : (length (map d_iisiiii a0.f2)) = (length (map d_iisiiii a0.f2)) := rfl
  have f4 : 0 = 0 := rfl
  have f5 : (length (map d_sisi a0.f3)) = (length (map d_sisi a0.f3)) := rfl
  have f6 : pureR (map d_s a0.f1) = true := (pureR_s _)
  have f7 : Ev F X (.call 100 [(.one (.ref ⟨(0, 0, 0), [], 0, (length (map d_s a0.f1))⟩)), (.oi a1)] [((0, 0, 0), ⟨1, (map d_s a0.f1), []⟩)] [(map d_s (o100_0 a0.f1 a1))] [(.oi (m100 a0.f1 a1))]) := (e100 (a0 := a0.f1) (a1 := a1) (by with_reducible assumption))
  have f8 : pureR (map d_iisiiii a0.f2) = true := (pureR_iisiiii _)
  have f9 : Ev F X (.call 106 [(.one (.ref ⟨(0, 0, 0), [], 0, (length (map d_iisiiii a0.f2))⟩)), (.oi (m100 a0.f1 a1))] [((0, 0, 0), ⟨7, (map d_iisiiii a0.f2), []⟩)] [(map d_iisiiii (o106_0 a0.f2 (m100 a0.f1 a1)))] [(.oi (m106 a0.f2 (m100 a0.f1 a1)))]) := (e106 (a0 := a0.f2) (a1 := (m100 a0.f1 a1)) (by with_reducible assumption))
  have f10 : pureR (map d_sisi a0.f3) = true := (pureR_sisi _)
  have f11 : Ev F X (.call 52 [(.agg [(.ref ⟨(0, 0, 0), [], 0, (length (map d_sisi a0.f3))⟩), (.i a0.f4)]), (.oi (m106 a0.f2 (m100 a0.f1 a1)))] [((0, 0, 0), ⟨4, (map d_sisi a0.f3), []⟩)] [(map d_sisi (o52_0 (K_LsisiEi.mk a0.f3 a0.f4) (m106 a0.f2 (m100 a0.f1 a1))))] [(.oi (m52 (K_LsisiEi.mk a0.f3 a0.f4) (m106 a0.f2 (m100 a0.f1 a1))))]) := (e52 (a0 := (K_LsisiEi.mk a0.f3 a0.f4)) (a1 := (m106 a0.f2 (m100 a0.f1 a1))) (by with_reducible assumption))
  have f12 : pureR (map d_sisi (o52_0 (K_LsisiEi.mk a0.f3 a0.f4) (m106 a0.f2 (m100 a0.f1 a1)))) = true := (pureR_sisi _)
  have f13 : pureR (map d_iisiiii (o106_0 a0.f2 (m100 a0.f1 a1))) = true := (pureR_iisiiii _)
  have f14 : pureR (map d_s (o100_0 a0.f1 a1)) = true := (pureR_s _)
  exact callP_ok (ps := [true, true, true]) (os := [(map d_sisi (o52_0 (K_LsisiEi.mk a0.f3 a0.f4) (m106 a0.f2 (m100 a0.f1 a1)))), (map d_iisiiii (o106_0 a0.f2 (m100 a0.f1 a1))), (map d_s (o100_0 a0.f1 a1))]) (rs := [(.oi (m52 (K_LsisiEi.mk a0.f3 a0.f4) (m106 a0.f2 (m100 a0.f1 a1))))]) (by kernel_rfl) (.f f0 (.f f1 (.f f2 (.f f3 (.f f4 (.f f5 (.f f6 (.r 11 [true] [] f7 (.f f8 (.r 21 [true] [] f9 (.f f10 (.r 31 [true] [] f11 (.f f12 (.f f13 (.f f14 .nil)))))))))))))))
theorem ol58_0 (a : K_iLsELiisiiiiELsisiEi) (k : Int) : (o58_0 a k).length = length a.f3 := by
  unfold o58_0
  simp [ol100, ol106, ol52_0]
theorem ol58_1 (a : K_iLsELiisiiiiELsisiEi) (k : Int) : (o58_1 a k).length = length a.f2 := by
  unfold o58_1
  simp [ol100, ol106, ol52_0]
theorem ol58_2 (a : K_iLsELiisiiiiELsisiEi) (k : Int) : (o58_2 a k).length = length a.f1 := by
  unfold o58_2
  simp [ol100, ol106, ol52_0]
/-! loop 101_0 -/
inductive O101_0 where
  | k0 (w0 : Int) (w1 : Int) (w2 : Bool)
  | k1
def r101_0 (a0 : (List ByteArray)) : List ByteArray → Int → Int → O101_0
  | x0 :: y0, i, v0 =>
    if (!(x0.toList == (m82 v0).toList)) = true then (O101_0.k1) else
    (r101_0 a0 y0 (i + 1) (IntKind.wrap .i64 (v0 + 1)))
  | [], i, v0 => (O101_0.k0 v0 i (decide (i < ((length (map b_s a0)) : Int))))
def h101_0 (l0_0 : Nat) (a0 : (List ByteArray)) (a1 : Int) (i : Int) (v0 : Int) : St := ⟨[(0, (.one (.bor l0_0 (map b_s a0)))), (1, (.one (.val (.int .i64 v0)))), (5, (.one (.val (.int .i64 i))))], []⟩
def ex101_0 : O101_0 → VX.Exit
  | .k0 _ _ _ => (.exit 0)
  | .k1 => .ret
def fin101_0 (l0_0 : Nat) (a0 : (List ByteArray)) (a1 : Int) : O101_0 → St
  | .k0 w0 w1 w2 => ⟨[(0, (.one (.bor l0_0 (map b_s a0)))), (1, (.one (.val (.int .i64 w0)))), (5, (.one (.val (.int .i64 w1)))), (9, (.one (.val (.bool w2))))], []⟩
  | .k1 => ⟨[(4, (.one (.val (.int .i64 (-1)))))], []⟩
theorem t101_0 {l0_0 : Nat} {a0 : (List ByteArray)} {a1 : Int} (hy0 : length a0 * 16 ≤ 140737488351232) : ∀ (y0 : List ByteArray) (p : List ByteArray) (v0 : Int), p ++ y0 = a0 → Ev F X (.code l101_0 (h101_0 l0_0 a0 a1 (length p : Int) v0) (ex101_0 (r101_0 a0 y0 (length p : Int) v0)) (fin101_0 l0_0 a0 a1 (r101_0 a0 y0 (length p : Int) v0)))
  | [], p, v0, hp0 => by
    have hc : ¬ (decide ((length p : Int) < ((length (map b_s a0)) : Int))) = true := by
      rw [← hp0]; simp only [length_map, length_set, length_append, length_replicate, length_cons, length_nil, decide_eq_true_eq]; omega
    have st := codeH_ok (F := F) (X := X) (c := b101_0) (t := 0) (hs := [(8, .b false)]) (σ := h101_0 l0_0 a0 a1 (length p : Int) v0) (σ' := fin101_0 l0_0 a0 a1 (.k0 v0 (length p : Int) (decide ((length p : Int) < ((length (map b_s a0)) : Int))))) (e := (.exit 0)) (t' := 9) (hs' := []) (q := [(decide ((length p : Int) < ((length (map b_s a0)) : Int))) = false]) (by kernel_rfl) ⟨(nt hc), trivial⟩
    exact .loopX st (show ((.exit 0) : VX.Exit) ≠ .normal from by simp)
  | x0 :: y0, p, v0, hp0 => by
    have hc : (decide ((length p : Int) < ((length (map b_s a0)) : Int))) = true := by
      rw [← hp0]; simp only [length_map, length_set, length_append, length_replicate, length_cons, length_nil, decide_eq_true_eq]; omega
    have Hx0 : (a0)[Int.toNat (length p : Int)]? = some x0 := by
      rw [← hp0, Int.toNat_natCast]; simp
    have hlen : length (a0) = length p + length y0 + 1 := by rw [← hp0]; simp; omega
    have hw : IntKind.wrap .i64 ((length p : Int) + 1) = (length p : Int) + 1 := wrap64 (by omega)
    simp only [r101_0]
    by_cases h_1 : (!(x0.toList == (m82 v0).toList)) = true
    · try simp only [if_pos h_1]
      have st := codeH_ok (F := F) (X := X) (c := b101_0) (t := 0) (hs := [(8, .b true), (14, .row [(.val (.string x0))]), (20, .ret [] [(.one (.val (.string (m82 v0))))] [] []), (23, .b true)]) (σ := h101_0 l0_0 a0 a1 (length p : Int) v0) (σ' := fin101_0 l0_0 a0 a1 (.k1)) (e := .ret) (t' := 26) (hs' := []) (q := [(decide ((length p : Int) < ((length (map b_s a0)) : Int))) = true, 0 ≤ (length p : Int), (map b_s a0)[(Int.toNat (length p : Int))]? = some [(.val (.string x0))], Ev F X (.call 82 [(.oi v0)] [] [] [(.one (.val (.string (m82 v0))))]), (!(x0.toList == (m82 v0).toList)) = true]) (by kernel_rfl) ⟨hc, (by omega), (by rw [getElem?_map, Hx0]; rfl), (e82 (a0 := v0)), h_1, trivial⟩
      exact .loopX st (show (.ret : VX.Exit) ≠ .normal from by simp)
    · try simp only [if_neg h_1]
      have st := codeH_ok (F := F) (X := X) (c := b101_0) (t := 0) (hs := [(8, .b true), (14, .row [(.val (.string x0))]), (20, .ret [] [(.one (.val (.string (m82 v0))))] [] []), (23, .b false)]) (σ := h101_0 l0_0 a0 a1 (length p : Int) v0) (σ' := ⟨[(0, (.one (.bor l0_0 (map b_s a0)))), (1, (.oi (IntKind.wrap .i64 (v0 + 1)))), (5, (.oi (IntKind.wrap .i64 ((length p : Int) + 1))))], []⟩) (e := .normal) (t' := 36) (hs' := []) (q := [(decide ((length p : Int) < ((length (map b_s a0)) : Int))) = true, 0 ≤ (length p : Int), (map b_s a0)[(Int.toNat (length p : Int))]? = some [(.val (.string x0))], Ev F X (.call 82 [(.oi v0)] [] [] [(.one (.val (.string (m82 v0))))]), (!(x0.toList == (m82 v0).toList)) = false, True, True]) (by kernel_rfl) ⟨hc, (by omega), (by rw [getElem?_map, Hx0]; rfl), (e82 (a0 := v0)), (nt h_1), trivial, trivial, trivial⟩
      have ih := t101_0 (l0_0 := l0_0) (a0 := a0) (a1 := a1) hy0 y0 (p ++ [x0]) (IntKind.wrap .i64 (v0 + 1)) (by rw [append_assoc]; exact hp0)
      rw [show ((p ++ [x0]).length : Int) = (p.length : Int) + 1 from by simp] at ih
      rw [show (⟨[(0, (.one (.bor l0_0 (map b_s a0)))), (1, (.oi (IntKind.wrap .i64 (v0 + 1)))), (5, (.oi (IntKind.wrap .i64 ((length p : Int) + 1))))], []⟩ : St) = h101_0 l0_0 a0 a1 ((length p : Int) + 1) (IntKind.wrap .i64 (v0 + 1)) from (by unfold h101_0; simp only [hw]; done)] at st
      exact .loopN st ih
/-! loop.example/g00539/laws.heldStringS -/
def m101 (a0 : (List ByteArray)) (a1 : Int) : Int :=
  (match r101_0 a0 a0 0 a1 with | .k0 w0_0 w1_0 w2_0 => w0_0 | .k1 => (-1))
theorem e101 {l0_0 : Nat} {a0 : (List ByteArray)} {a1 : Int} (hy0 : length a0 * 16 ≤ 140737488351232) : Ev F X (.call 101 [(.one (.bor l0_0 (map b_s a0))), (.one (.val (.int .i64 a1)))] [] [] [(.one (.val (.int .i64 (m101 a0 a1))))]) := by
  unfold m101
  cases h0 : r101_0 a0 a0 0 a1 with
  | k0 w0_0 w1_0 w2_0 =>
    try dsimp only
    have f0 : (⟨[(0, (.one (.bor l0_0 (map b_s a0)))), (1, (.oi a1)), (5, (.oi 0))], []⟩ : St) = h101_0 l0_0 a0 a1 0 a1 := (by rfl)
    have f1 : Ev F X (.code l101_0 (h101_0 l0_0 a0 a1 0 a1) (.exit 0) ⟨[(0, (.one (.bor l0_0 (map b_s a0)))), (1, (.oi w0_0)), (5, (.oi w1_0)), (9, (.one (.val (.bool w2_0))))], []⟩) := (by have t : Ev F X (.code l101_0 (h101_0 l0_0 a0 a1 0 a1) (ex101_0 (r101_0 a0 a0 0 a1)) (fin101_0 l0_0 a0 a1 (r101_0 a0 a0 0 a1))) := t101_0 (l0_0 := l0_0) (a0 := a0) (a1 := a1) (by assumption) a0 [] a1 rfl; rw [h0] at t; exact t)
    exact callP_ok (ps := []) (os := []) (rs := [(.oi w0_0)]) (by kernel_rfl) (.f f0 (.f f1 (.h 4 (.loop (h101_0 l0_0 a0 a1 0 a1) (.exit 0) ⟨[(0, (.one (.bor l0_0 (map b_s a0)))), (1, (.oi w0_0)), (5, (.oi w1_0)), (9, (.one (.val (.bool w2_0))))], []⟩) .nil)))
  | k1 =>
    try dsimp only
    have f0 : (⟨[(0, (.one (.bor l0_0 (map b_s a0)))), (1, (.oi a1)), (5, (.oi 0))], []⟩ : St) = h101_0 l0_0 a0 a1 0 a1 := (by rfl)
    have f1 : Ev F X (.code l101_0 (h101_0 l0_0 a0 a1 0 a1) .ret ⟨[(4, (.oi (-1)))], []⟩) := (by have t : Ev F X (.code l101_0 (h101_0 l0_0 a0 a1 0 a1) (ex101_0 (r101_0 a0 a0 0 a1)) (fin101_0 l0_0 a0 a1 (r101_0 a0 a0 0 a1))) := t101_0 (l0_0 := l0_0) (a0 := a0) (a1 := a1) (by assumption) a0 [] a1 rfl; rw [h0] at t; exact t)
    exact callP_ok (ps := []) (os := []) (rs := [(.oi (-1))]) (by kernel_rfl) (.f f0 (.f f1 (.h 4 (.loop (h101_0 l0_0 a0 a1 0 a1) .ret ⟨[(4, (.oi (-1)))], []⟩) .nil)))
end Go.Proofs.YtdnopbpdiineiaaDoor.OpenSession
