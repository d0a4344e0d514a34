/- What the functions compute. -/
import Derived.Test.YtdnopbpdiineiaaDoorEReadEntriesD
import Derived.KernelRfl
namespace Go.Proofs.YtdnopbpdiineiaaDoor.ReadEntries
open Go Go.Proofs.YtdnopbpdiineiaaDoor.V
set_option linter.unusedVariables false
set_option linter.unusedSimpArgs false
set_option maxRecDepth 20000
open List (length_replicate length_map length_set length_append length_cons length_nil length_take length_drop take_of_length_le map_take map_drop map_set append_assoc getElem?_map map length take drop getD set)
attribute [local simp] strInts_len byteRows_len toBR_y fullR_y pureR_y lenB_y lenD_y fromBR_y copy_y toBR_LyE fullR_LyE pureR_LyE lenB_LyE lenD_LyE toBR_b fullR_b pureR_b lenB_b lenD_b fromBR_b copy_b toBR_isii fullR_isii pureR_isii lenB_isii lenD_isii fromBR_isii copy_isii toBR_iiLisiiE fullR_iiLisiiE pureR_iiLisiiE lenB_iiLisiiE lenD_iiLisiiE toBR_i fullR_i pureR_i lenB_i lenD_i fromBR_i copy_i toBR_LLyEE fullR_LLyEE pureR_LLyEE lenB_LLyEE lenD_LLyEE toBR_s fullR_s pureR_s lenB_s lenD_s fromBR_s copy_s toBR_LisiiE fullR_LisiiE pureR_LisiiE lenB_LisiiE lenD_LisiiE
def o41_0 (a0 : (List Int)) (a1 : Int) : List Int :=
 (match r41_0 a0 a0 0 a0 a1 with | .k0 w0_0 w1_0 w2_0 w3_0 => w0_0)
def m41 (a0 : (List Int)) (a1 : Int) : Int :=
 (match r41_0 a0 a0 0 a0 a1 with | .k0 w0_0 w1_0 w2_0 w3_0 => w1_0)
theorem e41 {a0 : (List Int)} {a1 : Int} (hy0 : length a0 * 1 ≤ 140737488351232) : Ev F X (.call 41 [(.one (.ref ⟨(0, 0, 0), [], 0, (length (map d_y a0))⟩)), (.one (.val (.int .i64 a1)))] [((0, 0, 0), ⟨1, (map d_y a0), []⟩)] [(map d_y (o41_0 a0 a1))] [(.one (.val (.int .i64 (m41 a0 a1))))]) := by
 unfold m41 o41_0
 cases h0 : r41_0 a0 a0 0 a0 a1 with
 | k0 w0_0 w1_0 w2_0 w3_0 =>
  try dsimp only
  have zh0 := z41_0 (a0 := a0) a0 0 a0 a1; rw [h0] at zh0; simp only [post41_0, length_map, length_set, length_append, length_replicate, length_cons, length_nil, Int.toNat_natCast] at zh0
  have f0 : (⟨[(0, (.one (.ref ⟨(0, 0, 0), [], 0, (length (map d_y a0))⟩))), (1, (.oi a1)), (5, (.oi 0))], [((0, 0, 0), .live ⟨1, (map d_y a0), []⟩)]⟩ : St) = h41_0 a0 a1 0 a0 a1 := (by rfl)
  have f1 : Ev F X (.code l41_0 (h41_0 a0 a1 0 a0 a1) (.exit 0) ⟨[(0, (.one (.ref ⟨(0, 0, 0), [], 0, (length (map d_y a0))⟩))), (1, (.oi w1_0)), (5, (.oi w2_0)), (9, (.one (.val (.bool w3_0))))], [((0, 0, 0), .live ⟨1, (map d_y w0_0), []⟩)]⟩) := (by have t : Ev F X (.code l41_0 (h41_0 a0 a1 0 a0 a1) (ex41_0 (r41_0 a0 a0 0 a0 a1)) (fin41_0 a0 a1 (r41_0 a0 a0 0 a0 a1))) := t41_0 (a0 := a0) (a1 := a1) (by assumption) a0 [] a0 a1 rfl (by simp only [length_map, length_set, length_append, length_replicate, length_cons, length_nil]; done) (by rfl); rw [h0] at t; exact t)
  exact callP_ok (ps := [true]) (os := [(map d_y w0_0)]) (rs := [(.oi w1_0)]) (by kernel_rfl) (.f f0 (.f f1 (.f (pureR_y w0_0) (.h 4 (.loop (h41_0 a0 a1 0 a0 a1) (.exit 0) ⟨[(0, (.one (.ref ⟨(0, 0, 0), [], 0, (length (map d_y a0))⟩))), (1, (.oi w1_0)), (5, (.oi w2_0)), (9, (.one (.val (.bool w3_0))))], [((0, 0, 0), .live ⟨1, (map d_y w0_0), []⟩)]⟩) .nil))))
theorem ow41_0 (a0 : List Int) : ∀ (l p : List Int) (v1 : Int), ∃ (q : List Int) (w1 : _) (w2 : _) (w3 : _), r41_0 a0 l (p.length : Int) (p ++ l) v1 = .k0 (p ++ q) w1 w2 w3 ∧ q.length = l.length
 | [], p, v1 => ⟨[], v1, (p.length : Int), (decide ((p.length : Int) < ((length (map d_y a0)) : Int))), rfl, rfl⟩
 | x0 :: l, p, v1 => by
  obtain ⟨q, w1, w2, w3, e1, e2⟩ := ow41_0 a0 l (p ++ [(IntKind.wrap .u8 (v1))]) (w64 (v1 + 1))
  refine ⟨(IntKind.wrap .u8 (v1)) :: q, w1, w2, w3, ?_, by simp [e2]⟩
  ·have e : set (p ++ x0 :: l) (Int.toNat (p.length : Int)) (IntKind.wrap .u8 (v1)) = (p ++ [(IntKind.wrap .u8 (v1))]) ++ l := by simp
   have e0 : ((p ++ [(IntKind.wrap .u8 (v1))]).length : Int) = (p.length : Int) + 1 := by simp
   rw [e0] at e1
   simp only [r41_0]
   first | (rw [e, e1]; simp; done) | (simp only [e, e1]; simp; done)
theorem ol41 (a : List Int) (k : Int) : (o41_0 a k).length = a.length := by
 obtain ⟨q, w1, w2, w3, e1, e2⟩ := ow41_0 a a [] k
 simp only [List.nil_append, length_nil] at e1
 rw [show ((0 : Nat) : Int) = 0 from rfl] at e1
 unfold o41_0
 rw [e1]; exact e2
inductive O82_0 where
 | k0 (w0 : Int) (w1 : ByteArray) (w2 : Bool)
def r82_0  : Nat → Int → ByteArray → O82_0
 | n + 1, v0, v1 =>
  if (decide (v0 > 0)) = true then (r82_0 n (w64 (Int.tdiv v0 10)) ((bytesOf [(IntKind.wrap .u8 ((w64 (48 + (Int.tmod v0 10)))))]) ++ v1)) else
  (O82_0.k0 v0 v1 (decide (v0 > 0)))
 | 0, v0, v1 => (O82_0.k0 v0 v1 (decide (v0 > 0)))
def h82_0 (a0 : Int) (v0 : Int) (v1 : ByteArray) : St := ⟨[(0, (.one (.val (.int .i64 v0)))), (3, (.one (.val (.string v1))))], []⟩
def ex82_0 : O82_0 → VX.Exit
 | .k0 _ _ _ => (.exit 0)
def fin82_0 (a0 : Int) : O82_0 → St
 | .k0 w0 w1 w2 => ⟨[(0, (.one (.val (.int .i64 w0)))), (3, (.one (.val (.string w1)))), (7, (.one (.val (.bool w2))))], []⟩
theorem t82_0 {a0 : Int}  : ∀ (n : Nat) (v0 : Int) (v1 : ByteArray), ByteArray.size v1 + pot64 v0 ≤ 100 → fuel64 v0 ≤ n → Ev F X (.code l82_0 (h82_0 a0 v0 v1) (ex82_0 (r82_0 n v0 v1)) (fin82_0 a0 (r82_0 n v0 v1)))
 | 0, v0, v1, hi0, hn => by
  have hc : ¬ (decide (v0 > 0)) = true := by first | (exact fuel64_zero hn) | (simp only [decide_eq_true_eq] at *; omega) | (simp at *; omega)
  have st := codeP_ok (F := F) (X := X) (c := b82_0) (t := 0) (σ := h82_0 a0 v0 v1) (σ' := ⟨[(0, (.oi v0)), (3, (.one (.val (.string v1)))), (7, (.one (.val (.bool (decide (v0 > 0))))))], []⟩) (e := (.exit 0)) (t' := 5) (by kernel_rfl) (.g hc (.z 4 .nil))
  replace st := to_ (s' := fin82_0 a0 (.k0 v0 v1 (decide (v0 > 0)))) st (by rfl)
  exact .loopX st (show ((.exit 0) : VX.Exit) ≠ .normal from by simp)
 | n + 1, v0, v1, hi0, hn => by
  simp only [r82_0]
  by_cases h_0 : (decide (v0 > 0)) = true
  ·try simp only [if_pos h_0]
   have f1 : (10 : Int) ≠ 0 := (by omega)
   have f3 : 1 ≤ 1 := (by omega)
   have f4 : rowsInts .u8 [[(.val (.int .u8 (IntKind.wrap .u8 ((w64 (48 + (Int.tmod v0 10)))))))]] = some [(IntKind.wrap .u8 ((w64 (48 + (Int.tmod v0 10)))))] := (by simp only [List.drop_zero, tbr, tsi, ly_y, ly0_y, ← List.map_append, List.take_length, List.cons_append, List.nil_append, append_assoc, toBR_y, fullR_y, pureR_y, copy_y, ints_y]; done)
   have f5 : ByteArray.size (bytesOf [(IntKind.wrap .u8 ((w64 (48 + (Int.tmod v0 10)))))]) + ByteArray.size v1 ≤ 9223372036854775807 := (by simp only [bytesOf_size, length_cons, length_nil]; omega)
   have f6 : (10 : Int) ≠ 0 := (by with_reducible assumption)
   have st := codeP_ok (F := F) (X := X) (c := b82_0) (t := 0) (σ := h82_0 a0 v0 v1) (σ' := ⟨[(0, (.oi (w64 (Int.tdiv v0 10)))), (3, (.one (.val (.string ((bytesOf [(IntKind.wrap .u8 ((w64 (48 + (Int.tmod v0 10)))))]) ++ v1)))))], []⟩) (e := .normal) (t' := 29) (by kernel_rfl) (.f h_0 (.f f1 (.f trivial (.f f3 (.f f4 (.f f5 (.f f6 (.y 4 (.h 16 (.ints [(IntKind.wrap .u8 ((w64 (48 + (Int.tmod v0 10)))))]) .nil)))))))))
   have ih := t82_0 (a0 := a0)  n (w64 (Int.tdiv v0 10)) ((bytesOf [(IntKind.wrap .u8 ((w64 (48 + (Int.tmod v0 10)))))]) ++ v1) (by have q := pot64_tdiv (x := v0) (by assumption); simp only [ByteArray.size_append, bytesOf_size, length_cons, length_nil]; omega) (by exact fuel64_tdiv (by assumption) hn)
   replace st := to_ (s' := h82_0 a0 (w64 (Int.tdiv v0 10)) ((bytesOf [(IntKind.wrap .u8 ((w64 (48 + (Int.tmod v0 10)))))]) ++ v1)) st (by rfl)
   exact .loopN st ih
  ·try simp only [if_neg h_0]
   have st := codeP_ok (F := F) (X := X) (c := b82_0) (t := 0) (σ := h82_0 a0 v0 v1) (σ' := ⟨[(0, (.oi v0)), (3, (.one (.val (.string v1)))), (7, (.one (.val (.bool (decide (v0 > 0))))))], []⟩) (e := (.exit 0)) (t' := 5) (by kernel_rfl) (.g h_0 (.z 4 .nil))
   replace st := to_ (s' := fin82_0 a0 (.k0 v0 v1 (decide (v0 > 0)))) st (by rfl)
   exact .loopX st (show ((.exit 0) : VX.Exit) ≠ .normal from by simp)
def post82_0 (a0 : Int) : O82_0 → Prop
 | .k0 _ w1 _ => ByteArray.size w1 ≤ 100
theorem z82_0 {a0 : Int}  : ∀ (n : Nat) (v0 : Int) (v1 : ByteArray), ByteArray.size v1 + pot64 v0 ≤ 100 → post82_0 a0 (r82_0 n v0 v1)
 | 0, v0, v1, hi0 => by
  simp only [r82_0]
  first | trivial | (show _ ; simp only [post82_0]; omega) | (simp only [post82_0] at *; omega) | (have q := pot64_tdiv (x := v0) (by assumption); simp only [ByteArray.size_append, bytesOf_size, length_cons, length_nil]; omega) | (simp only [decide_eq_true_eq] at *; omega)
 | n + 1, v0, v1, hi0 => by
  simp only [r82_0]
  by_cases h_0 : (decide (v0 > 0)) = true
  ·try simp only [if_pos h_0]
   exact z82_0 (a0 := a0) n (w64 (Int.tdiv v0 10)) ((bytesOf [(IntKind.wrap .u8 ((w64 (48 + (Int.tmod v0 10)))))]) ++ v1) (by have q := pot64_tdiv (x := v0) (by assumption); simp only [ByteArray.size_append, bytesOf_size, length_cons, length_nil]; omega)
  ·try simp only [if_neg h_0]
   first | trivial | (show _ ; simp only [post82_0]; omega) | (simp only [post82_0] at *; omega) | (have q := pot64_tdiv (x := v0) (by assumption); simp only [ByteArray.size_append, bytesOf_size, length_cons, length_nil]; omega) | (simp only [decide_eq_true_eq] at *; omega)
def m82 (a0 : Int) : ByteArray :=
 if (decide (a0 ≤ 0)) = true then (⟨#[109, 48]⟩ : ByteArray) else
 (match r82_0 (fuel64 a0) a0 (⟨#[]⟩ : ByteArray) with | .k0 w0_1 w1_1 w2_1 => ((⟨#[109]⟩ : ByteArray) ++ w1_1))
theorem e82 {a0 : Int} : Ev F X (.call 82 [(.one (.val (.int .i64 a0)))] [] [] [(.one (.val (.string (m82 a0))))]) := by
 unfold m82
 by_cases h0 : (decide (a0 ≤ 0)) = true
 ·try simp only [if_pos h0]
  exact cp (by kernel_rfl) (.f h0 (.y 6 .nil))
 ·try simp only [if_neg h0]
  cases h1 : r82_0 (fuel64 a0) a0 (⟨#[]⟩ : ByteArray) with
  | k0 w0_1 w1_1 w2_1 =>
   try dsimp only
   have zh1 := z82_0 (a0 := a0) (fuel64 a0) a0 (⟨#[]⟩ : ByteArray) (by have q := pot64_le a0; show 0 + pot64 a0 ≤ 100; omega); rw [h1] at zh1; simp only [post82_0] at zh1
   have f1 : (⟨[(0, (.oi a0)), (3, (.one (.val (.string (⟨#[]⟩ : ByteArray)))))], []⟩ : St) = h82_0 a0 a0 (⟨#[]⟩ : ByteArray) := (by rfl)
   have f2 : Ev F X (.code l82_0 (h82_0 a0 a0 (⟨#[]⟩ : ByteArray)) (.exit 0) ⟨[(0, (.oi w0_1)), (3, (.one (.val (.string w1_1)))), (7, (.one (.val (.bool w2_1))))], []⟩) := (by have t : Ev F X (.code l82_0 (h82_0 a0 a0 (⟨#[]⟩ : ByteArray)) (ex82_0 (r82_0 (fuel64 a0) a0 (⟨#[]⟩ : ByteArray))) (fin82_0 a0 (r82_0 (fuel64 a0) a0 (⟨#[]⟩ : ByteArray)))) := t82_0 (a0 := a0)  (fuel64 a0) a0 (⟨#[]⟩ : ByteArray)  (by have q := pot64_le a0; show 0 + pot64 a0 ≤ 100; omega) (Nat.le_refl _); rw [h1] at t; exact t)
   have f3 : ByteArray.size (⟨#[109]⟩ : ByteArray) + ByteArray.size w1_1 ≤ 9223372036854775807 := (by show 1 + _ ≤ _; omega)
   exact cp (by kernel_rfl) (.g h0 (.f f1 (.f f2 (.f f3 (.z 6 (.h 9 (.loop (h82_0 a0 a0 (⟨#[]⟩ : ByteArray)) (.exit 0) ⟨[(0, (.oi w0_1)), (3, (.one (.val (.string w1_1)))), (7, (.one (.val (.bool w2_1))))], []⟩) .nil))))))
inductive O87_0 where
 | k0 (w0 : List K_isii) (w1 : Int) (w2 : Int) (w3 : Bool)
def r87_0 (a0 : (List K_isii)) : List K_isii → Int → List K_isii → Int → O87_0
 | x0 :: y0, i, v0, v1 =>
  (r87_0 a0 y0 (i + 1) (set v0 (Int.toNat i) (K_isii.mk v1 (m82 (w64 (v1 + 1))) (w64 ((w64 (v1 + 1)) + 1)) (w64 ((w64 ((w64 (v1 + 1)) + 1)) + 1)))) (w64 ((w64 ((w64 ((w64 (v1 + 1)) + 1)) + 1)) + 1)))
 | [], i, v0, v1 => (O87_0.k0 v0 v1 i (decide (i < ((length (map d_isii a0)) : Int))))
def h87_0 (a0 : (List K_isii)) (a1 : Int) (i : Int) (v0 : List K_isii) (v1 : Int) : St := ⟨[(0, (.one (.ref ⟨(0, 0, 0), [], 0, (length (map d_isii a0))⟩))), (1, (.one (.val (.int .i64 v1)))), (5, (.one (.val (.int .i64 i))))], [((0, 0, 0), .live ⟨4, (map d_isii v0), []⟩)]⟩
def ex87_0 : O87_0 → VX.Exit
 | .k0 _ _ _ _ => (.exit 0)
def fin87_0 (a0 : (List K_isii)) (a1 : Int) : O87_0 → St
 | .k0 w0 w1 w2 w3 => ⟨[(0, (.one (.ref ⟨(0, 0, 0), [], 0, (length (map d_isii a0))⟩))), (1, (.one (.val (.int .i64 w1)))), (5, (.one (.val (.int .i64 w2)))), (9, (.one (.val (.bool w3))))], [((0, 0, 0), .live ⟨4, (map d_isii w0), []⟩)]⟩
theorem t87_0 {a0 : (List K_isii)} {a1 : Int} (hy0 : length a0 * 40 ≤ 140737488351232) : ∀ (y0 : List K_isii) (p : List K_isii) (v0 : List K_isii) (v1 : Int), p ++ y0 = a0 → length v0 = (length (map d_isii a0)) → drop (length p) v0 = y0 → Ev F X (.code l87_0 (h87_0 a0 a1 (length p : Int) v0 v1) (ex87_0 (r87_0 a0 y0 (length p : Int) v0 v1)) (fin87_0 a0 a1 (r87_0 a0 y0 (length p : Int) v0 v1)))
 | [], p, v0, v1, hp0, hi0, hi1 => by
  have hc : ¬ (decide ((length p : Int) < ((length (map d_isii a0)) : Int))) = true := by
   rw [← hp0]; simp only [length_map, length_set, length_append, length_replicate, length_cons, length_nil, decide_eq_true_eq]; omega
  have hj0 := hi0; try simp only [length_map, length_set, length_append, length_replicate, length_cons, length_nil, Int.toNat_natCast] at hj0
  have hj1 := hi1; try simp only [length_map, length_set, length_append, length_replicate, length_cons, length_nil, Int.toNat_natCast] at hj1
  have st := ch b87_0 [(8, .b false)] (h87_0 a0 a1 (length p : Int) v0 v1) (fin87_0 a0 a1 (.k0 v0 v1 (length p : Int) (decide ((length p : Int) < ((length (map d_isii a0)) : Int))))) (.exit 0) 9 [(decide ((length p : Int) < ((length (map d_isii a0)) : Int))) = false] (by kernel_rfl) ⟨(nt hc), trivial⟩
  exact .loopX st (show ((.exit 0) : VX.Exit) ≠ .normal from by simp)
 | x0 :: y0, p, v0, v1, hp0, hi0, hi1 => by
  have hc : (decide ((length p : Int) < ((length (map d_isii a0)) : Int))) = true := lt1 hp0
  have Hx0 : (a0)[Int.toNat (length p : Int)]? = some x0 := by
   rw [← hp0, Int.toNat_natCast]; simp
  have hlen : length (a0) = length p + length y0 + 1 := by rw [← hp0]; simp; omega
  have hw : w64 ((length p : Int) + 1) = (length p : Int) + 1 := wrap64 (by omega)
  have hj0 := hi0; try simp only [length_map, length_set, length_append, length_replicate, length_cons, length_nil, Int.toNat_natCast] at hj0
  have hj1 := hi1; try simp only [length_map, length_set, length_append, length_replicate, length_cons, length_nil, Int.toNat_natCast] at hj1
  have Hv0 : v0[Int.toNat (length p : Int)]? = some x0 := by rw [Int.toNat_natCast]; exact drop_at hi1
  simp only [r87_0]
  have st := ch b87_0 [(8, .b true), (20, .rowD (d_isii x0)), (21, .norm (0, 0, 0) (map d_isii (set v0 (Int.toNat (length p : Int)) (K_isii.mk v1 x0.f1 x0.f2 x0.f3)))), (35, .ret [] [(.one (.val (.string (m82 (w64 (v1 + 1))))))] [] []), (41, .rowD [(.i v1), (.val (.string x0.f1)), (.i x0.f2), (.i x0.f3)]), (42, .norm (0, 0, 0) (map d_isii (set v0 (Int.toNat (length p : Int)) (K_isii.mk v1 (m82 (w64 (v1 + 1))) x0.f2 x0.f3)))), (60, .rowD [(.i v1), (.val (.string (m82 (w64 (v1 + 1))))), (.i x0.f2), (.i x0.f3)]), (61, .norm (0, 0, 0) (map d_isii (set v0 (Int.toNat (length p : Int)) (K_isii.mk v1 (m82 (w64 (v1 + 1))) (w64 ((w64 (v1 + 1)) + 1)) x0.f3)))), (79, .rowD [(.i v1), (.val (.string (m82 (w64 (v1 + 1))))), (.i (w64 ((w64 (v1 + 1)) + 1))), (.i x0.f3)]), (80, .norm (0, 0, 0) (map d_isii (set v0 (Int.toNat (length p : Int)) (K_isii.mk v1 (m82 (w64 (v1 + 1))) (w64 ((w64 (v1 + 1)) + 1)) (w64 ((w64 ((w64 (v1 + 1)) + 1)) + 1))))))] (h87_0 a0 a1 (length p : Int) v0 v1) ⟨[(0, (.one (.ref ⟨(0, 0, 0), [], 0, (length (map d_isii a0))⟩))), (1, (.oi (w64 ((w64 ((w64 ((w64 (v1 + 1)) + 1)) + 1)) + 1)))), (5, (.oi (w64 ((length p : Int) + 1))))], [((0, 0, 0), .live ⟨4, (map d_isii (set v0 (Int.toNat (length p : Int)) (K_isii.mk v1 (m82 (w64 (v1 + 1))) (w64 ((w64 (v1 + 1)) + 1)) (w64 ((w64 ((w64 (v1 + 1)) + 1)) + 1))))), []⟩)]⟩ .normal 93 [(decide ((length p : Int) < ((length (map d_isii a0)) : Int))) = true, 0 + (length (map d_isii a0)) ≤ (length (map d_isii v0)), 0 ≤ (length p : Int) ∧ (length p : Int) < ((length (map d_isii a0)) : Int), (map d_isii v0)[(0 + (Int.toNat (length p : Int)))]? = some [(.i x0.f0), (.val (.string x0.f1)), (.i x0.f2), (.i x0.f3)], (set (map d_isii v0) (0 + (Int.toNat (length p : Int))) [(.i v1), (.val (.string x0.f1)), (.i x0.f2), (.i x0.f3)]) = (map d_isii (set v0 (Int.toNat (length p : Int)) (K_isii.mk v1 x0.f1 x0.f2 x0.f3))), True, Ev F X (.call 82 [(.oi (w64 (v1 + 1)))] [] [] [(.one (.val (.string (m82 (w64 (v1 + 1))))))]), 0 + (length (map d_isii a0)) ≤ (length (map d_isii (set v0 (Int.toNat (length p : Int)) (K_isii.mk v1 x0.f1 x0.f2 x0.f3)))), 0 ≤ (length p : Int) ∧ (length p : Int) < ((length (map d_isii a0)) : Int), (map d_isii (set v0 (Int.toNat (length p : Int)) (K_isii.mk v1 x0.f1 x0.f2 x0.f3)))[(0 + (Int.toNat (length p : Int)))]? = some [(.i v1), (.val (.string x0.f1)), (.i x0.f2), (.i x0.f3)], (set (map d_isii (set v0 (Int.toNat (length p : Int)) (K_isii.mk v1 x0.f1 x0.f2 x0.f3))) (0 + (Int.toNat (length p : Int))) [(.i v1), (.val (.string (m82 (w64 (v1 + 1))))), (.i x0.f2), (.i x0.f3)]) = (map d_isii (set v0 (Int.toNat (length p : Int)) (K_isii.mk v1 (m82 (w64 (v1 + 1))) x0.f2 x0.f3))), True, 0 + (length (map d_isii a0)) ≤ (length (map d_isii (set v0 (Int.toNat (length p : Int)) (K_isii.mk v1 (m82 (w64 (v1 + 1))) x0.f2 x0.f3)))), 0 ≤ (length p : Int) ∧ (length p : Int) < ((length (map d_isii a0)) : Int), (map d_isii (set v0 (Int.toNat (length p : Int)) (K_isii.mk v1 (m82 (w64 (v1 + 1))) x0.f2 x0.f3)))[(0 + (Int.toNat (length p : Int)))]? = some [(.i v1), (.val (.string (m82 (w64 (v1 + 1))))), (.i x0.f2), (.i x0.f3)], (set (map d_isii (set v0 (Int.toNat (length p : Int)) (K_isii.mk v1 (m82 (w64 (v1 + 1))) x0.f2 x0.f3))) (0 + (Int.toNat (length p : Int))) [(.i v1), (.val (.string (m82 (w64 (v1 + 1))))), (.i (w64 ((w64 (v1 + 1)) + 1))), (.i x0.f3)]) = (map d_isii (set v0 (Int.toNat (length p : Int)) (K_isii.mk v1 (m82 (w64 (v1 + 1))) (w64 ((w64 (v1 + 1)) + 1)) x0.f3))), True, 0 + (length (map d_isii a0)) ≤ (length (map d_isii (set v0 (Int.toNat (length p : Int)) (K_isii.mk v1 (m82 (w64 (v1 + 1))) (w64 ((w64 (v1 + 1)) + 1)) x0.f3)))), 0 ≤ (length p : Int) ∧ (length p : Int) < ((length (map d_isii a0)) : Int), (map d_isii (set v0 (Int.toNat (length p : Int)) (K_isii.mk v1 (m82 (w64 (v1 + 1))) (w64 ((w64 (v1 + 1)) + 1)) x0.f3)))[(0 + (Int.toNat (length p : Int)))]? = some [(.i v1), (.val (.string (m82 (w64 (v1 + 1))))), (.i (w64 ((w64 (v1 + 1)) + 1))), (.i x0.f3)], (set (map d_isii (set v0 (Int.toNat (length p : Int)) (K_isii.mk v1 (m82 (w64 (v1 + 1))) (w64 ((w64 (v1 + 1)) + 1)) x0.f3))) (0 + (Int.toNat (length p : Int))) [(.i v1), (.val (.string (m82 (w64 (v1 + 1))))), (.i (w64 ((w64 (v1 + 1)) + 1))), (.i (w64 ((w64 ((w64 (v1 + 1)) + 1)) + 1)))]) = (map d_isii (set v0 (Int.toNat (length p : Int)) (K_isii.mk v1 (m82 (w64 (v1 + 1))) (w64 ((w64 (v1 + 1)) + 1)) (w64 ((w64 ((w64 (v1 + 1)) + 1)) + 1))))), True, True] (by kernel_rfl) ⟨hc, (by simp only [length_map]; omega), (by omega), (by rw [Nat.zero_add, getElem?_map, Hv0]; rfl), (by simp [byteRows_eq, ints_y, take_of_length_le, d_y, d_LyE, d_b, d_isii, d_iiLisiiE, d_i, d_LLyEE, d_s, d_LisiiE, fromBR_y, fromBR_b, fromBR_isii, fromBR_i, fromBR_s, four_len, high4, high2, ol41]; done), trivial, (e82 (a0 := (w64 (v1 + 1)))), (by simp only [length_map, length_set]; omega), (by omega), (by rw [Nat.zero_add, map_set, List.getElem?_set_self (by simp only [length_map]; omega)]; rfl), (by simp [byteRows_eq, ints_y, take_of_length_le, d_y, d_LyE, d_b, d_isii, d_iiLisiiE, d_i, d_LLyEE, d_s, d_LisiiE, fromBR_y, fromBR_b, fromBR_isii, fromBR_i, fromBR_s, four_len, high4, high2, ol41]; done), trivial, (by unfold m82; (repeat' split) <;> simp_all <;> omega), (by omega), (by rw [Nat.zero_add, map_set, List.getElem?_set_self (by simp only [length_map]; omega)]; rfl), (by simp [byteRows_eq, ints_y, take_of_length_le, d_y, d_LyE, d_b, d_isii, d_iiLisiiE, d_i, d_LLyEE, d_s, d_LisiiE, fromBR_y, fromBR_b, fromBR_isii, fromBR_i, fromBR_s, four_len, high4, high2, ol41]; done), trivial, (by unfold m82; (repeat' split) <;> simp_all <;> omega), (by omega), (by rw [Nat.zero_add, map_set, List.getElem?_set_self (by simp only [length_map]; omega)]; rfl), (by simp [byteRows_eq, ints_y, take_of_length_le, d_y, d_LyE, d_b, d_isii, d_iiLisiiE, d_i, d_LLyEE, d_s, d_LisiiE, fromBR_y, fromBR_b, fromBR_isii, fromBR_i, fromBR_s, four_len, high4, high2, ol41]; done), trivial, trivial, trivial⟩
  have ih := t87_0 (a0 := a0) (a1 := a1) hy0 y0 (p ++ [x0]) (set v0 (Int.toNat (length p : Int)) (K_isii.mk v1 (m82 (w64 (v1 + 1))) (w64 ((w64 (v1 + 1)) + 1)) (w64 ((w64 ((w64 (v1 + 1)) + 1)) + 1)))) (w64 ((w64 ((w64 ((w64 (v1 + 1)) + 1)) + 1)) + 1)) (by rw [append_assoc]; exact hp0) (by simp only [length_map, length_set, length_append, length_replicate, length_cons, length_nil]; omega) (by simp only [length_map, length_set, length_append, length_replicate, length_cons, length_nil, Int.toNat_natCast]; first | exact drop_set_next hi1 _ | exact drop_next hi1)
  rw [show ((p ++ [x0]).length : Int) = (p.length : Int) + 1 from by simp] at ih
  replace st := to_ (s' := h87_0 a0 a1 ((length p : Int) + 1) (set v0 (Int.toNat (length p : Int)) (K_isii.mk v1 (m82 (w64 (v1 + 1))) (w64 ((w64 (v1 + 1)) + 1)) (w64 ((w64 ((w64 (v1 + 1)) + 1)) + 1)))) (w64 ((w64 ((w64 ((w64 (v1 + 1)) + 1)) + 1)) + 1))) st (by unfold h87_0; simp only [hw]; done)
  exact .loopN st ih
def post87_0 (n0 : Nat) : O87_0 → Prop
 | .k0 w0 _ _ _ => length w0 = n0
theorem z87_0 {a0 : (List K_isii)} : ∀ (y0 : List K_isii) (i : Int) (v0 : List K_isii) (v1 : Int), post87_0 (length v0) (r87_0 a0 y0 i v0 v1)
 | [], i, v0, v1 => by
  first | trivial | (simp only [post87_0, length_nil, Nat.add_zero]; done) | (simp [post87_0]; done)
 | x0 :: y0, i, v0, v1 => by
  simp only [r87_0]
  have z := z87_0 (a0 := a0) y0 (i + 1) (set v0 (Int.toNat i) (K_isii.mk v1 (m82 (w64 (v1 + 1))) (w64 ((w64 (v1 + 1)) + 1)) (w64 ((w64 ((w64 (v1 + 1)) + 1)) + 1)))) (w64 ((w64 ((w64 ((w64 (v1 + 1)) + 1)) + 1)) + 1))
  rw [show (length v0) = (length (set v0 (Int.toNat i) (K_isii.mk v1 (m82 (w64 (v1 + 1))) (w64 ((w64 (v1 + 1)) + 1)) (w64 ((w64 ((w64 (v1 + 1)) + 1)) + 1))))) from by first | omega | (simp only [length_map, length_set, length_append, length_replicate, length_cons, length_nil]; done) | (simp only [length_map, length_set, length_append, length_replicate, length_cons, length_nil]; omega)]
  exact z
def o87_0 (a0 : (List K_isii)) (a1 : Int) : List K_isii :=
 (match r87_0 a0 a0 0 a0 a1 with | .k0 w0_0 w1_0 w2_0 w3_0 => w0_0)
def m87 (a0 : (List K_isii)) (a1 : Int) : Int :=
 (match r87_0 a0 a0 0 a0 a1 with | .k0 w0_0 w1_0 w2_0 w3_0 => w1_0)
theorem e87 {a0 : (List K_isii)} {a1 : Int} (hy0 : length a0 * 40 ≤ 140737488351232) : Ev F X (.call 87 [(.one (.ref ⟨(0, 0, 0), [], 0, (length (map d_isii a0))⟩)), (.one (.val (.int .i64 a1)))] [((0, 0, 0), ⟨4, (map d_isii a0), []⟩)] [(map d_isii (o87_0 a0 a1))] [(.one (.val (.int .i64 (m87 a0 a1))))]) := by
 unfold m87 o87_0
 cases h0 : r87_0 a0 a0 0 a0 a1 with
 | k0 w0_0 w1_0 w2_0 w3_0 =>
  try dsimp only
  have zh0 := z87_0 (a0 := a0) a0 0 a0 a1; rw [h0] at zh0; simp only [post87_0, length_map, length_set, length_append, length_replicate, length_cons, length_nil, Int.toNat_natCast] at zh0
  have f0 : (⟨[(0, (.one (.ref ⟨(0, 0, 0), [], 0, (length (map d_isii a0))⟩))), (1, (.oi a1)), (5, (.oi 0))], [((0, 0, 0), .live ⟨4, (map d_isii a0), []⟩)]⟩ : St) = h87_0 a0 a1 0 a0 a1 := (by rfl)
  have f1 : Ev F X (.code l87_0 (h87_0 a0 a1 0 a0 a1) (.exit 0) ⟨[(0, (.one (.ref ⟨(0, 0, 0), [], 0, (length (map d_isii a0))⟩))), (1, (.oi w1_0)), (5, (.oi w2_0)), (9, (.one (.val (.bool w3_0))))], [((0, 0, 0), .live ⟨4, (map d_isii w0_0), []⟩)]⟩) := (by have t : Ev F X (.code l87_0 (h87_0 a0 a1 0 a0 a1) (ex87_0 (r87_0 a0 a0 0 a0 a1)) (fin87_0 a0 a1 (r87_0 a0 a0 0 a0 a1))) := t87_0 (a0 := a0) (a1 := a1) (by assumption) a0 [] a0 a1 rfl (by simp only [length_map, length_set, length_append, length_replicate, length_cons, length_nil]; done) (by rfl); rw [h0] at t; exact t)
  exact callP_ok (ps := [true]) (os := [(map d_isii w0_0)]) (rs := [(.oi w1_0)]) (by kernel_rfl) (.f f0 (.f f1 (.f (pureR_isii w0_0) (.h 4 (.loop (h87_0 a0 a1 0 a0 a1) (.exit 0) ⟨[(0, (.one (.ref ⟨(0, 0, 0), [], 0, (length (map d_isii a0))⟩))), (1, (.oi w1_0)), (5, (.oi w2_0)), (9, (.one (.val (.bool w3_0))))], [((0, 0, 0), .live ⟨4, (map d_isii w0_0), []⟩)]⟩) .nil))))
theorem ow87_0 (a0 : List K_isii) : ∀ (l p : List K_isii) (v1 : Int), ∃ (q : List K_isii) (w1 : _) (w2 : _) (w3 : _), r87_0 a0 l (p.length : Int) (p ++ l) v1 = .k0 (p ++ q) w1 w2 w3 ∧ q.length = l.length
 | [], p, v1 => ⟨[], v1, (p.length : Int), (decide ((p.length : Int) < ((length (map d_isii a0)) : Int))), rfl, rfl⟩
 | x0 :: l, p, v1 => by
  obtain ⟨q, w1, w2, w3, e1, e2⟩ := ow87_0 a0 l (p ++ [(K_isii.mk v1 (m82 (w64 (v1 + 1))) (w64 ((w64 (v1 + 1)) + 1)) (w64 ((w64 ((w64 (v1 + 1)) + 1)) + 1)))]) (w64 ((w64 ((w64 ((w64 (v1 + 1)) + 1)) + 1)) + 1))
  refine ⟨(K_isii.mk v1 (m82 (w64 (v1 + 1))) (w64 ((w64 (v1 + 1)) + 1)) (w64 ((w64 ((w64 (v1 + 1)) + 1)) + 1))) :: q, w1, w2, w3, ?_, by simp [e2]⟩
  ·have e : set (p ++ x0 :: l) (Int.toNat (p.length : Int)) (K_isii.mk v1 (m82 (w64 (v1 + 1))) (w64 ((w64 (v1 + 1)) + 1)) (w64 ((w64 ((w64 (v1 + 1)) + 1)) + 1))) = (p ++ [(K_isii.mk v1 (m82 (w64 (v1 + 1))) (w64 ((w64 (v1 + 1)) + 1)) (w64 ((w64 ((w64 (v1 + 1)) + 1)) + 1)))]) ++ l := by simp
   have e0 : ((p ++ [(K_isii.mk v1 (m82 (w64 (v1 + 1))) (w64 ((w64 (v1 + 1)) + 1)) (w64 ((w64 ((w64 (v1 + 1)) + 1)) + 1)))]).length : Int) = (p.length : Int) + 1 := by simp
   rw [e0] at e1
   simp only [r87_0]
   first | (rw [e, e1]; simp; done) | (simp only [e, e1]; simp; done)
theorem ol87 (a : List K_isii) (k : Int) : (o87_0 a k).length = a.length := by
 obtain ⟨q, w1, w2, w3, e1, e2⟩ := ow87_0 a a [] k
 simp only [List.nil_append, length_nil] at e1
 rw [show ((0 : Nat) : Int) = 0 from rfl] at e1
 unfold o87_0
 rw [e1]; exact e2
def o42_0 (a0 : K_iiLisiiE) (a1 : Int) : List K_isii :=
 (o87_0 a0.f2 a1)
def m42 (a0 : K_iiLisiiE) (a1 : Int) : Int :=
 (m87 a0.f2 a1)
theorem e42 {a0 : K_iiLisiiE} {a1 : Int} (hy0 : length a0.f2 * 40 ≤ 140737488351232) : Ev F X (.call 42 [(.agg [(.val (.int .i64 a0.f0)), (.val (.int .i64 a0.f1)), (.ref ⟨(0, 0, 0), [], 0, (length (map d_isii a0.f2))⟩)]), (.one (.val (.int .i64 a1)))] [((0, 0, 0), ⟨4, (map d_isii a0.f2), []⟩)] [(map d_isii (o42_0 a0 a1))] [(.one (.val (.int .i64 (m42 a0 a1))))]) := by
 have f3 := e87 (a0 := a0.f2) (a1 := a1) (by with_reducible assumption)
 exact callP_ok (ps := [true]) (os := [(map d_isii (o87_0 a0.f2 a1))]) (rs := [(.oi (m87 a0.f2 a1))]) (by kernel_rfl) (.e 0 (.e (length (map d_isii a0.f2)) (.f (pureR_isii (a0.f2)) (.r 11 [true] [] f3 (.f (pureR_isii (o87_0 a0.f2 a1)) .nil)))))
theorem ol42_0 (a : K_iiLisiiE) (k : Int) : (o42_0 a k).length = length a.f2 := by
 unfold o42_0
 simp [ol87]
inductive O88_0 where
 | k0 (w0 : Int) (w1 : Int) (w2 : Bool)
 | k1
def r88_0 (a0 : (List K_isii)) : List K_isii → Int → Int → O88_0
 | x0 :: y0, i, v0 =>
  if (x0.f0 != v0) = true then (O88_0.k1) else
  if (!(x0.f1.toList == (m82 (w64 (v0 + 1))).toList)) = true then (O88_0.k1) else
   if (x0.f2 != (w64 ((w64 (v0 + 1)) + 1))) = true then (O88_0.k1) else
    if (x0.f3 != (w64 ((w64 ((w64 (v0 + 1)) + 1)) + 1))) = true then (O88_0.k1) else
     (r88_0 a0 y0 (i + 1) (w64 ((w64 ((w64 ((w64 (v0 + 1)) + 1)) + 1)) + 1)))
 | [], i, v0 => (O88_0.k0 v0 i (decide (i < ((length (map b_isii a0)) : Int))))
def h88_0 (l0_0 : Nat) (a0 : (List K_isii)) (a1 : Int) (i : Int) (v0 : Int) : St := ⟨[(0, (.one (.bor l0_0 (map b_isii a0)))), (1, (.one (.val (.int .i64 v0)))), (5, (.one (.val (.int .i64 i))))], []⟩
def ex88_0 : O88_0 → VX.Exit
 | .k0 _ _ _ => (.exit 0)
 | .k1 => .ret
def fin88_0 (l0_0 : Nat) (a0 : (List K_isii)) (a1 : Int) : O88_0 → St
 | .k0 w0 w1 w2 => ⟨[(0, (.one (.bor l0_0 (map b_isii a0)))), (1, (.one (.val (.int .i64 w0)))), (5, (.one (.val (.int .i64 w1)))), (9, (.one (.val (.bool w2))))], []⟩
 | .k1 => ⟨[(4, (.one (.val (.int .i64 (-1)))))], []⟩
theorem t88_0 {l0_0 : Nat} {a0 : (List K_isii)} {a1 : Int} (hy0 : length a0 * 40 ≤ 140737488351232) : ∀ (y0 : List K_isii) (p : List K_isii) (v0 : Int), p ++ y0 = a0 → Ev F X (.code l88_0 (h88_0 l0_0 a0 a1 (length p : Int) v0) (ex88_0 (r88_0 a0 y0 (length p : Int) v0)) (fin88_0 l0_0 a0 a1 (r88_0 a0 y0 (length p : Int) v0)))
 | [], p, v0, hp0 => by
  have hc : ¬ (decide ((length p : Int) < ((length (map b_isii a0)) : Int))) = true := by
   rw [← hp0]; simp only [length_map, length_set, length_append, length_replicate, length_cons, length_nil, decide_eq_true_eq]; omega
  have st := ch b88_0 [(8, .b false)] (h88_0 l0_0 a0 a1 (length p : Int) v0) (fin88_0 l0_0 a0 a1 (.k0 v0 (length p : Int) (decide ((length p : Int) < ((length (map b_isii a0)) : Int))))) (.exit 0) 9 [(decide ((length p : Int) < ((length (map b_isii a0)) : Int))) = false] (by kernel_rfl) ⟨(nt hc), trivial⟩
  exact .loopX st (show ((.exit 0) : VX.Exit) ≠ .normal from by simp)
 | x0 :: y0, p, v0, hp0 => by
  have hc : (decide ((length p : Int) < ((length (map b_isii a0)) : Int))) = true := lt1 hp0
  have Hx0 : (a0)[Int.toNat (length p : Int)]? = some x0 := by
   rw [← hp0, Int.toNat_natCast]; simp
  have hlen : length (a0) = length p + length y0 + 1 := by rw [← hp0]; simp; omega
  have hw : w64 ((length p : Int) + 1) = (length p : Int) + 1 := wrap64 (by omega)
  simp only [r88_0]
  by_cases h_1 : (x0.f0 != v0) = true
  ·try simp only [if_pos h_1]
   have st := ch b88_0 [(8, .b true), (14, .row (b_isii x0)), (23, .b true)] (h88_0 l0_0 a0 a1 (length p : Int) v0) (fin88_0 l0_0 a0 a1 (.k1)) .ret 26 [(decide ((length p : Int) < ((length (map b_isii a0)) : Int))) = true, 0 ≤ (length p : Int), (map b_isii a0)[(Int.toNat (length p : Int))]? = some (b_isii x0), (x0.f0 != v0) = true] (by kernel_rfl) ⟨hc, (by omega), (by rw [getElem?_map, Hx0]; rfl), h_1, trivial⟩
   exact .loopX st (show (.ret : VX.Exit) ≠ .normal from by simp)
  ·try simp only [if_neg h_1]
   by_cases h_2 : (!(x0.f1.toList == (m82 (w64 (v0 + 1))).toList)) = true
   ·try simp only [if_pos h_2]
    have st := ch b88_0 [(8, .b true), (14, .row (b_isii x0)), (23, .b false), (35, .row (b_isii x0)), (43, .ret [] [(.one (.val (.string (m82 (w64 (v0 + 1))))))] [] []), (46, .b true)] (h88_0 l0_0 a0 a1 (length p : Int) v0) (fin88_0 l0_0 a0 a1 (.k1)) .ret 49 [(decide ((length p : Int) < ((length (map b_isii a0)) : Int))) = true, 0 ≤ (length p : Int), (map b_isii a0)[(Int.toNat (length p : Int))]? = some (b_isii x0), (x0.f0 != v0) = false, True, 0 ≤ (length p : Int), (map b_isii a0)[(Int.toNat (length p : Int))]? = some (b_isii x0), Ev F X (.call 82 [(.oi (w64 (v0 + 1)))] [] [] [(.one (.val (.string (m82 (w64 (v0 + 1))))))]), (!(x0.f1.toList == (m82 (w64 (v0 + 1))).toList)) = true] (by kernel_rfl) ⟨hc, (by omega), (by rw [getElem?_map, Hx0]; rfl), (nt h_1), trivial, (by omega), (by rw [getElem?_map, Hx0]; rfl), (e82 (a0 := (w64 (v0 + 1)))), h_2, trivial⟩
    exact .loopX st (show (.ret : VX.Exit) ≠ .normal from by simp)
   ·try simp only [if_neg h_2]
    by_cases h_3 : (x0.f2 != (w64 ((w64 (v0 + 1)) + 1))) = true
    ·try simp only [if_pos h_3]
     have st := ch b88_0 [(8, .b true), (14, .row (b_isii x0)), (23, .b false), (35, .row (b_isii x0)), (43, .ret [] [(.one (.val (.string (m82 (w64 (v0 + 1))))))] [] []), (46, .b false), (58, .row (b_isii x0)), (67, .b true)] (h88_0 l0_0 a0 a1 (length p : Int) v0) (fin88_0 l0_0 a0 a1 (.k1)) .ret 70 [(decide ((length p : Int) < ((length (map b_isii a0)) : Int))) = true, 0 ≤ (length p : Int), (map b_isii a0)[(Int.toNat (length p : Int))]? = some (b_isii x0), (x0.f0 != v0) = false, True, 0 ≤ (length p : Int), (map b_isii a0)[(Int.toNat (length p : Int))]? = some (b_isii x0), Ev F X (.call 82 [(.oi (w64 (v0 + 1)))] [] [] [(.one (.val (.string (m82 (w64 (v0 + 1))))))]), (!(x0.f1.toList == (m82 (w64 (v0 + 1))).toList)) = false, True, 0 ≤ (length p : Int), (map b_isii a0)[(Int.toNat (length p : Int))]? = some (b_isii x0), (x0.f2 != (w64 ((w64 (v0 + 1)) + 1))) = true] (by kernel_rfl) ⟨hc, (by omega), (by rw [getElem?_map, Hx0]; rfl), (nt h_1), trivial, (by omega), (by rw [getElem?_map, Hx0]; rfl), (e82 (a0 := (w64 (v0 + 1)))), (nt h_2), trivial, (by omega), (by rw [getElem?_map, Hx0]; rfl), h_3, trivial⟩
     exact .loopX st (show (.ret : VX.Exit) ≠ .normal from by simp)
    ·try simp only [if_neg h_3]
     by_cases h_4 : (x0.f3 != (w64 ((w64 ((w64 (v0 + 1)) + 1)) + 1))) = true
     ·try simp only [if_pos h_4]
      have st := ch b88_0 [(8, .b true), (14, .row (b_isii x0)), (23, .b false), (35, .row (b_isii x0)), (43, .ret [] [(.one (.val (.string (m82 (w64 (v0 + 1))))))] [] []), (46, .b false), (58, .row (b_isii x0)), (67, .b false), (79, .row (b_isii x0)), (88, .b true)] (h88_0 l0_0 a0 a1 (length p : Int) v0) (fin88_0 l0_0 a0 a1 (.k1)) .ret 91 [(decide ((length p : Int) < ((length (map b_isii a0)) : Int))) = true, 0 ≤ (length p : Int), (map b_isii a0)[(Int.toNat (length p : Int))]? = some (b_isii x0), (x0.f0 != v0) = false, True, 0 ≤ (length p : Int), (map b_isii a0)[(Int.toNat (length p : Int))]? = some (b_isii x0), Ev F X (.call 82 [(.oi (w64 (v0 + 1)))] [] [] [(.one (.val (.string (m82 (w64 (v0 + 1))))))]), (!(x0.f1.toList == (m82 (w64 (v0 + 1))).toList)) = false, True, 0 ≤ (length p : Int), (map b_isii a0)[(Int.toNat (length p : Int))]? = some (b_isii x0), (x0.f2 != (w64 ((w64 (v0 + 1)) + 1))) = false, True, 0 ≤ (length p : Int), (map b_isii a0)[(Int.toNat (length p : Int))]? = some (b_isii x0), (x0.f3 != (w64 ((w64 ((w64 (v0 + 1)) + 1)) + 1))) = true] (by kernel_rfl) ⟨hc, (by omega), (by rw [getElem?_map, Hx0]; rfl), (nt h_1), trivial, (by omega), (by rw [getElem?_map, Hx0]; rfl), (e82 (a0 := (w64 (v0 + 1)))), (nt h_2), trivial, (by omega), (by rw [getElem?_map, Hx0]; rfl), (nt h_3), trivial, (by omega), (by rw [getElem?_map, Hx0]; rfl), h_4, trivial⟩
      exact .loopX st (show (.ret : VX.Exit) ≠ .normal from by simp)
     ·try simp only [if_neg h_4]
      have st := ch b88_0 [(8, .b true), (14, .row (b_isii x0)), (23, .b false), (35, .row (b_isii x0)), (43, .ret [] [(.one (.val (.string (m82 (w64 (v0 + 1))))))] [] []), (46, .b false), (58, .row (b_isii x0)), (67, .b false), (79, .row (b_isii x0)), (88, .b false)] (h88_0 l0_0 a0 a1 (length p : Int) v0) ⟨[(0, (.one (.bor l0_0 (map b_isii a0)))), (1, (.oi (w64 ((w64 ((w64 ((w64 (v0 + 1)) + 1)) + 1)) + 1)))), (5, (.oi (w64 ((length p : Int) + 1))))], []⟩ .normal 101 [(decide ((length p : Int) < ((length (map b_isii a0)) : Int))) = true, 0 ≤ (length p : Int), (map b_isii a0)[(Int.toNat (length p : Int))]? = some (b_isii x0), (x0.f0 != v0) = false, True, 0 ≤ (length p : Int), (map b_isii a0)[(Int.toNat (length p : Int))]? = some (b_isii x0), Ev F X (.call 82 [(.oi (w64 (v0 + 1)))] [] [] [(.one (.val (.string (m82 (w64 (v0 + 1))))))]), (!(x0.f1.toList == (m82 (w64 (v0 + 1))).toList)) = false, True, 0 ≤ (length p : Int), (map b_isii a0)[(Int.toNat (length p : Int))]? = some (b_isii x0), (x0.f2 != (w64 ((w64 (v0 + 1)) + 1))) = false, True, 0 ≤ (length p : Int), (map b_isii a0)[(Int.toNat (length p : Int))]? = some (b_isii x0), (x0.f3 != (w64 ((w64 ((w64 (v0 + 1)) + 1)) + 1))) = false, True, True] (by kernel_rfl) ⟨hc, (by omega), (by rw [getElem?_map, Hx0]; rfl), (nt h_1), trivial, (by omega), (by rw [getElem?_map, Hx0]; rfl), (e82 (a0 := (w64 (v0 + 1)))), (nt h_2), trivial, (by omega), (by rw [getElem?_map, Hx0]; rfl), (nt h_3), trivial, (by omega), (by rw [getElem?_map, Hx0]; rfl), (nt h_4), trivial, trivial, trivial⟩
      have ih := t88_0 (l0_0 := l0_0) (a0 := a0) (a1 := a1) hy0 y0 (p ++ [x0]) (w64 ((w64 ((w64 ((w64 (v0 + 1)) + 1)) + 1)) + 1)) (by rw [append_assoc]; exact hp0)
      rw [show ((p ++ [x0]).length : Int) = (p.length : Int) + 1 from by simp] at ih
      replace st := to_ (s' := h88_0 l0_0 a0 a1 ((length p : Int) + 1) (w64 ((w64 ((w64 ((w64 (v0 + 1)) + 1)) + 1)) + 1))) st (by unfold h88_0; simp only [hw]; done)
      exact .loopN st ih
def m88 (a0 : (List K_isii)) (a1 : Int) : Int :=
 (match r88_0 a0 a0 0 a1 with | .k0 w0_0 w1_0 w2_0 => w0_0 | .k1 => (-1))
theorem e88 {l0_0 : Nat} {a0 : (List K_isii)} {a1 : Int} (hy0 : length a0 * 40 ≤ 140737488351232) : Ev F X (.call 88 [(.one (.bor l0_0 (map b_isii a0))), (.one (.val (.int .i64 a1)))] [] [] [(.one (.val (.int .i64 (m88 a0 a1))))]) := by
 unfold m88
 cases h0 : r88_0 a0 a0 0 a1 with
 | k0 w0_0 w1_0 w2_0 =>
  try dsimp only
  have f0 : (⟨[(0, (.one (.bor l0_0 (map b_isii a0)))), (1, (.oi a1)), (5, (.oi 0))], []⟩ : St) = h88_0 l0_0 a0 a1 0 a1 := (by rfl)
  have f1 : Ev F X (.code l88_0 (h88_0 l0_0 a0 a1 0 a1) (.exit 0) ⟨[(0, (.one (.bor l0_0 (map b_isii a0)))), (1, (.oi w0_0)), (5, (.oi w1_0)), (9, (.one (.val (.bool w2_0))))], []⟩) := (by have t : Ev F X (.code l88_0 (h88_0 l0_0 a0 a1 0 a1) (ex88_0 (r88_0 a0 a0 0 a1)) (fin88_0 l0_0 a0 a1 (r88_0 a0 a0 0 a1))) := t88_0 (l0_0 := l0_0) (a0 := a0) (a1 := a1) (by assumption) a0 [] a1 rfl; rw [h0] at t; exact t)
  exact cp (by kernel_rfl) (.f f0 (.f f1 (.h 4 (.loop (h88_0 l0_0 a0 a1 0 a1) (.exit 0) ⟨[(0, (.one (.bor l0_0 (map b_isii a0)))), (1, (.oi w0_0)), (5, (.oi w1_0)), (9, (.one (.val (.bool w2_0))))], []⟩) .nil)))
 | k1 =>
  try dsimp only
  have f0 : (⟨[(0, (.one (.bor l0_0 (map b_isii a0)))), (1, (.oi a1)), (5, (.oi 0))], []⟩ : St) = h88_0 l0_0 a0 a1 0 a1 := (by rfl)
  have f1 : Ev F X (.code l88_0 (h88_0 l0_0 a0 a1 0 a1) .ret ⟨[(4, (.oi (-1)))], []⟩) := (by have t : Ev F X (.code l88_0 (h88_0 l0_0 a0 a1 0 a1) (ex88_0 (r88_0 a0 a0 0 a1)) (fin88_0 l0_0 a0 a1 (r88_0 a0 a0 0 a1))) := t88_0 (l0_0 := l0_0) (a0 := a0) (a1 := a1) (by assumption) a0 [] a1 rfl; rw [h0] at t; exact t)
  exact cp (by kernel_rfl) (.f f0 (.f f1 (.h 4 (.loop (h88_0 l0_0 a0 a1 0 a1) .ret ⟨[(4, (.oi (-1)))], []⟩) .nil)))
def m43 (a0 : K_iiLisiiE) (a1 : Int) : Int :=
 if (decide ((m88 a0.f2 a1) < 0)) = true then (-1) else
 (m88 a0.f2 a1)
theorem e43 {l0_2 : Nat} {a0 : K_iiLisiiE} {a1 : Int} (hy0 : length a0.f2 * 40 ≤ 140737488351232) : Ev F X (.call 43 [(.agg [(.val (.int .i64 a0.f0)), (.val (.int .i64 a0.f1)), (.bor l0_2 (map b_isii a0.f2))]), (.one (.val (.int .i64 a1)))] [] [] [(.one (.val (.int .i64 (m43 a0 a1))))]) := by
 unfold m43
 have f0 := e88 (l0_0 := l0_2 + 1) (a0 := a0.f2) (a1 := a1) (by with_reducible assumption)
 by_cases h0 : (decide ((m88 a0.f2 a1) < 0)) = true
 ·try simp only [if_pos h0]
  exact cp (by kernel_rfl) (.r 11 [] [] f0 (.f h0 (.y 18 .nil)))
 ·try simp only [if_neg h0]
  exact cp (by kernel_rfl) (.r 11 [] [] f0 (.g h0 (.z 18 .nil)))
def m6 (a0 : (List Int)) : Bool :=
 if (decide (((length (map b_y a0)) : Int) > 1048576)) = true then true else
 if (!(m39 (m38 a0) (m36 a0))) = true then false else
  if (!(m40 a0 a0)) = true then false else
   if (decide ((m41 a0 1) < 0)) = true then false else
    if (decide ((m43 (K_iiLisiiE.mk ((m38 a0).f0) ((m38 a0).f1) (o42_0 (m38 a0) 1)) 1) < 0)) = true then false else
     if ((m43 (K_iiLisiiE.mk ((m38 a0).f0) ((m38 a0).f1) (o42_0 (m38 a0) 1)) 1) != (m42 (m38 a0) 1)) = true then false else
      true
set_option maxHeartbeats 8000000 in
theorem e6 {l0_0 : Nat} {a0 : (List Int)} (hy0 : ∀ z ∈ a0, (0 : Int) ≤ z ∧ z ≤ 255) (hy1 : length a0 ≤ 140737488351232) : Ev F X (.call 6 [(.one (.bor l0_0 (map b_y a0)))] [] [] [(.one (.val (.bool (m6 a0))))]) := by
 unfold m6
 by_cases h0 : (decide (((length (map b_y a0)) : Int) > 1048576)) = true
 ·try simp only [if_pos h0]
  exact cp (by kernel_rfl) (.f h0 (.y 8 .nil))
 ·try simp only [if_neg h0]
  have f1 : Ev F X (.call 37 [(.one (.bor (l0_0 + 1) (map b_y a0)))] [] [] [(.one (.own 1 (map d_y a0)))]) := (g37 (a0 := a0) (by omega))
  have f2 : 0 + (length (map d_y a0)) ≤ (length (map d_y a0)) := (by omega)
  have f3 : fullR (take (length (map d_y a0)) (drop 0 (map d_y a0))) = true := (ft_y _ _ _)
  have f4 : toBR (take (length (map d_y a0)) (drop 0 (map d_y a0))) = (map b_y a0) := (tb_y _)
  have f5 := e36 (l0_0 := 0) (a0 := a0) (by with_reducible assumption) (by with_reducible assumption)
  have f7 : (length (map d_isii ((m36 a0).f2))) = (length (map d_isii ((m36 a0).f2))) := rfl
  have f8 : Ev F X (.call 37 [(.one (.bor (l0_0 + 1) (map b_y a0)))] [] [] [(.one (.own 1 (map d_y a0)))]) := (g37 (a0 := a0) (by omega))
  have f9 : 0 + (length (map d_y a0)) ≤ (length (map d_y a0)) := (by omega)
  have f10 : fullR (take (length (map d_y a0)) (drop 0 (map d_y a0))) = true := (ft_y _ _ _)
  have f11 : toBR (take (length (map d_y a0)) (drop 0 (map d_y a0))) = (map b_y a0) := (tb_y _)
  have f12 := e38 (l0_0 := 0) (a0 := a0) (by with_reducible assumption) (by with_reducible assumption)
  have f14 : (length (map d_isii ((m38 a0).f2))) = (length (map d_isii ((m38 a0).f2))) := rfl
  have f15 : 0 + (length (map d_isii ((m38 a0).f2))) ≤ (length (map d_isii ((m38 a0).f2))) := (by omega)
  have f16 : fullR (take (length (map d_isii ((m38 a0).f2))) (drop 0 (map d_isii ((m38 a0).f2)))) = true := (ft_isii _ _ _)
  have f17 : toBR (take (length (map d_isii ((m38 a0).f2))) (drop 0 (map d_isii ((m38 a0).f2)))) = (map b_isii ((m38 a0).f2)) := (tb_isii _)
  have f18 : 0 + (length (map d_isii ((m36 a0).f2))) ≤ (length (map d_isii ((m36 a0).f2))) := (by omega)
  have f19 : fullR (take (length (map d_isii ((m36 a0).f2))) (drop 0 (map d_isii ((m36 a0).f2)))) = true := (ft_isii _ _ _)
  have f20 : toBR (take (length (map d_isii ((m36 a0).f2))) (drop 0 (map d_isii ((m36 a0).f2)))) = (map b_isii ((m36 a0).f2)) := (tb_isii _)
  have f21 := e39 (l0_2 := 0) (l1_2 := 0) (a0 := (m38 a0)) (a1 := (m36 a0)) (by have q := (sze a0 hy0 hy1).1; omega) (by have q := (szs a0 hy0).1; omega)
  by_cases h1 : (!(m39 (m38 a0) (m36 a0))) = true
  ·try simp only [if_pos h1]
   exact cp (by kernel_rfl) (.g h0 (.z 8 (.r 12 [] [] f1 (.f f2 (.f f3 (.f f4 (.r 14 [] [(map b_y a0)] f5 (.e 0 (.f f7 (.r 22 [] [] f8 (.f f9 (.f f10 (.f f11 (.r 28 [] [(map b_y a0)] f12 (.e 0 (.f f14 (.f f15 (.f f16 (.f f17 (.f f18 (.f f19 (.f f20 (.r 38 [] [(map b_isii ((m38 a0).f2)), (map b_isii ((m36 a0).f2))] f21 (.f h1 (.y 41 .nil)))))))))))))))))))))))))
  ·try simp only [if_neg h1]
   have f23 : Ev F X (.call 37 [(.one (.bor (l0_0 + 1) (map b_y a0)))] [] [] [(.one (.own 1 (map d_y a0)))]) := (g37 (a0 := a0) (by omega))
   have f24 : 0 + (length (map d_y a0)) ≤ (length (map d_y a0)) := (by omega)
   have f25 : fullR (take (length (map d_y a0)) (drop 0 (map d_y a0))) = true := (ft_y _ _ _)
   have f26 : toBR (take (length (map d_y a0)) (drop 0 (map d_y a0))) = (map b_y a0) := (tb_y _)
   have f27 : 0 + (length (map d_y a0)) ≤ (length (map d_y a0)) := (by omega)
   have f28 : fullR (take (length (map d_y a0)) (drop 0 (map d_y a0))) = true := (ft_y _ _ _)
   have f29 : toBR (take (length (map d_y a0)) (drop 0 (map d_y a0))) = (map b_y a0) := (tb_y _)
   have f30 := e40 (l0_0 := 0) (l1_0 := 0) (a0 := a0) (a1 := a0) (by omega) (by omega)
   by_cases h2 : (!(m40 a0 a0)) = true
   ·try simp only [if_pos h2]
    exact cp (by kernel_rfl) (.g h0 (.z 8 (.r 12 [] [] f1 (.f f2 (.f f3 (.f f4 (.r 14 [] [(map b_y a0)] f5 (.e 0 (.f f7 (.r 22 [] [] f8 (.f f9 (.f f10 (.f f11 (.r 28 [] [(map b_y a0)] f12 (.e 0 (.f f14 (.f f15 (.f f16 (.f f17 (.f f18 (.f f19 (.f f20 (.r 38 [] [(map b_isii ((m38 a0).f2)), (map b_isii ((m36 a0).f2))] f21 (.g h1 (.z 41 (.r 47 [] [] f23 (.f f24 (.f f25 (.f f26 (.f f27 (.f f28 (.f f29 (.r 49 [] [(map b_y a0), (map b_y a0)] f30 (.f h2 (.y 52 .nil)))))))))))))))))))))))))))))))))))
   ·try simp only [if_neg h2]
    have f33 := e41 (a0 := a0) (a1 := 1) (by omega)
    by_cases h3 : (decide ((m41 a0 1) < 0)) = true
    ·try simp only [if_pos h3]
     exact cp (by kernel_rfl) (.g h0 (.z 8 (.r 12 [] [] f1 (.f f2 (.f f3 (.f f4 (.r 14 [] [(map b_y a0)] f5 (.e 0 (.f f7 (.r 22 [] [] f8 (.f f9 (.f f10 (.f f11 (.r 28 [] [(map b_y a0)] f12 (.e 0 (.f f14 (.f f15 (.f f16 (.f f17 (.f f18 (.f f19 (.f f20 (.r 38 [] [(map b_isii ((m38 a0).f2)), (map b_isii ((m36 a0).f2))] f21 (.g h1 (.z 41 (.r 47 [] [] f23 (.f f24 (.f f25 (.f f26 (.f f27 (.f f28 (.f f29 (.r 49 [] [(map b_y a0), (map b_y a0)] f30 (.g h2 (.f (pureR_y a0) (.z 52 (.r 60 [true] [] f33 (.m 5 h3 (.y 69 (.y 71 (.y 73 (.y 75 (.y 78 .nil)))))))))))))))))))))))))))))))))))))))))))
    ·try simp only [if_neg h3]
     have f37 : 0 + (length (map d_isii ((m38 a0).f2))) ≤ (length (map d_isii ((m38 a0).f2))) := (by omega)
     have f38 : fullR (take (length (map d_isii ((m38 a0).f2))) (drop 0 (map d_isii ((m38 a0).f2)))) = true := (ft_isii _ _ _)
     have f39 : toBR (take (length (map d_isii ((m38 a0).f2))) (drop 0 (map d_isii ((m38 a0).f2)))) = (map b_isii ((m38 a0).f2)) := (tb_isii _)
     have f40 : 0 + (length (map d_isii ((m36 a0).f2))) ≤ (length (map d_isii ((m36 a0).f2))) := (by omega)
     have f41 : fullR (take (length (map d_isii ((m36 a0).f2))) (drop 0 (map d_isii ((m36 a0).f2)))) = true := (ft_isii _ _ _)
     have f42 : toBR (take (length (map d_isii ((m36 a0).f2))) (drop 0 (map d_isii ((m36 a0).f2)))) = (map b_isii ((m36 a0).f2)) := (tb_isii _)
     have f43 := e39 (l0_2 := 0) (l1_2 := 0) (a0 := (m38 a0)) (a1 := (m36 a0)) (by have q := (sze a0 hy0 hy1).1; omega) (by have q := (szs a0 hy0).1; omega)
     have f48 := e42 (a0 := (m38 a0)) (a1 := 1) (by have q := (sze a0 hy0 hy1).1; omega)
     have f49 : 0 + (length (map d_isii (o42_0 (m38 a0) 1))) ≤ (length (map d_isii (o42_0 (m38 a0) 1))) := (by omega)
     have f50 : fullR (take (length (map d_isii (o42_0 (m38 a0) 1))) (drop 0 (map d_isii (o42_0 (m38 a0) 1)))) = true := (ft_isii _ _ _)
     have f51 : toBR (take (length (map d_isii (o42_0 (m38 a0) 1))) (drop 0 (map d_isii (o42_0 (m38 a0) 1)))) = (map b_isii (o42_0 (m38 a0) 1)) := (tb_isii _)
     have f52 := e43 (l0_2 := 0) (a0 := (K_iiLisiiE.mk ((m38 a0).f0) ((m38 a0).f1) (o42_0 (m38 a0) 1))) (a1 := 1) (by have q := (sze a0 hy0 hy1).1; simp only [ol42_0]; omega)
     by_cases h4 : (decide ((m43 (K_iiLisiiE.mk ((m38 a0).f0) ((m38 a0).f1) (o42_0 (m38 a0) 1)) 1) < 0)) = true
     ·try simp only [if_pos h4]
      exact cp (by kernel_rfl) (.g h0 (.z 8 (.r 12 [] [] f1 (.f f2 (.f f3 (.f f4 (.r 14 [] [(map b_y a0)] f5 (.e 0 (.f f7 (.r 22 [] [] f8 (.f f9 (.f f10 (.f f11 (.r 28 [] [(map b_y a0)] f12 (.e 0 (.f f14 (.f f15 (.f f16 (.f f17 (.f f18 (.f f19 (.f f20 (.r 38 [] [(map b_isii ((m38 a0).f2)), (map b_isii ((m36 a0).f2))] f21 (.g h1 (.z 41 (.r 47 [] [] f23 (.f f24 (.f f25 (.f f26 (.f f27 (.f f28 (.f f29 (.r 49 [] [(map b_y a0), (map b_y a0)] f30 (.g h2 (.f (pureR_y a0) (.z 52 (.r 60 [true] [] f33 (.n 3 h3 (.f f37 (.f f38 (.f f39 (.f f40 (.f f41 (.f f42 (.z 69 (.z 71 (.z 73 (.r 74 [] [(map b_isii ((m38 a0).f2)), (map b_isii ((m36 a0).f2))] f43 (.n 2 h3 (.g h1 (.f (pureR_isii ((m38 a0).f2)) (.z 75 (.z 78 (.z 79 (.r 87 [true] [] f48 (.f f49 (.f f50 (.f f51 (.r 97 [] [(map b_isii (o42_0 (m38 a0) 1))] f52 (.f h4 (.y 104 .nil)))))))))))))))))))))))))))))))))))))))))))))))))))))))))))))
     ·try simp only [if_neg h4]
      by_cases h5 : ((m43 (K_iiLisiiE.mk ((m38 a0).f0) ((m38 a0).f1) (o42_0 (m38 a0) 1)) 1) != (m42 (m38 a0) 1)) = true
      ·try simp only [if_pos h5]
       exact cp (by kernel_rfl) (.g h0 (.z 8 (.r 12 [] [] f1 (.f f2 (.f f3 (.f f4 (.r 14 [] [(map b_y a0)] f5 (.e 0 (.f f7 (.r 22 [] [] f8 (.f f9 (.f f10 (.f f11 (.r 28 [] [(map b_y a0)] f12 (.e 0 (.f f14 (.f f15 (.f f16 (.f f17 (.f f18 (.f f19 (.f f20 (.r 38 [] [(map b_isii ((m38 a0).f2)), (map b_isii ((m36 a0).f2))] f21 (.g h1 (.z 41 (.r 47 [] [] f23 (.f f24 (.f f25 (.f f26 (.f f27 (.f f28 (.f f29 (.r 49 [] [(map b_y a0), (map b_y a0)] f30 (.g h2 (.f (pureR_y a0) (.z 52 (.r 60 [true] [] f33 (.n 3 h3 (.f f37 (.f f38 (.f f39 (.f f40 (.f f41 (.f f42 (.z 69 (.z 71 (.z 73 (.r 74 [] [(map b_isii ((m38 a0).f2)), (map b_isii ((m36 a0).f2))] f43 (.n 2 h3 (.g h1 (.f (pureR_isii ((m38 a0).f2)) (.z 75 (.z 78 (.z 79 (.r 87 [true] [] f48 (.f f49 (.f f50 (.f f51 (.r 97 [] [(map b_isii (o42_0 (m38 a0) 1))] f52 (.g h4 (.f h5 (.z 104 (.y 111 .nil)))))))))))))))))))))))))))))))))))))))))))))))))))))))))))))))
      ·try simp only [if_neg h5]
       have f55 : Ev F X (.call 37 [(.one (.bor (l0_0 + 1) (map b_y a0)))] [] [] [(.one (.own 1 (map d_y a0)))]) := (g37 (a0 := a0) (by omega))
       have f56 : 0 + (length (map d_y a0)) ≤ (length (map d_y a0)) := (by omega)
       have f57 : fullR (take (length (map d_y a0)) (drop 0 (map d_y a0))) = true := (ft_y _ _ _)
       have f58 : toBR (take (length (map d_y a0)) (drop 0 (map d_y a0))) = (map b_y a0) := (tb_y _)
       have f59 := e38 (l0_0 := 0) (a0 := a0) (by with_reducible assumption) (by with_reducible assumption)
       have f62 : 0 + (length (map d_isii ((m38 a0).f2))) ≤ (length (map d_isii ((m38 a0).f2))) := (by omega)
       have f63 : fullR (take (length (map d_isii ((m38 a0).f2))) (drop 0 (map d_isii ((m38 a0).f2)))) = true := (ft_isii _ _ _)
       have f64 : toBR (take (length (map d_isii ((m38 a0).f2))) (drop 0 (map d_isii ((m38 a0).f2)))) = (map b_isii ((m38 a0).f2)) := (tb_isii _)
       have f65 : 0 + (length (map d_isii ((m36 a0).f2))) ≤ (length (map d_isii ((m36 a0).f2))) := (by omega)
       have f66 : fullR (take (length (map d_isii ((m36 a0).f2))) (drop 0 (map d_isii ((m36 a0).f2)))) = true := (ft_isii _ _ _)
       have f67 : toBR (take (length (map d_isii ((m36 a0).f2))) (drop 0 (map d_isii ((m36 a0).f2)))) = (map b_isii ((m36 a0).f2)) := (tb_isii _)
       have f68 := e39 (l0_2 := 0) (l1_2 := 0) (a0 := (m38 a0)) (a1 := (m36 a0)) (by have q := (sze a0 hy0 hy1).1; omega) (by have q := (szs a0 hy0).1; omega)
       have f70 : 0 + (length (map d_isii (o42_0 (m38 a0) 1))) ≤ (length (map d_isii (o42_0 (m38 a0) 1))) := (by omega)
       have f71 : fullR (take (length (map d_isii (o42_0 (m38 a0) 1))) (drop 0 (map d_isii (o42_0 (m38 a0) 1)))) = true := (ft_isii _ _ _)
       have f72 : toBR (take (length (map d_isii (o42_0 (m38 a0) 1))) (drop 0 (map d_isii (o42_0 (m38 a0) 1)))) = (map b_isii (o42_0 (m38 a0) 1)) := (tb_isii _)
       have f73 := e43 (l0_2 := 0) (a0 := (K_iiLisiiE.mk ((m38 a0).f0) ((m38 a0).f1) (o42_0 (m38 a0) 1))) (a1 := 1) (by have q := (sze a0 hy0 hy1).1; simp only [ol42_0]; omega)
       exact cp (by kernel_rfl) (.g h0 (.z 8 (.r 12 [] [] f1 (.f f2 (.f f3 (.f f4 (.r 14 [] [(map b_y a0)] f5 (.e 0 (.f f7 (.r 22 [] [] f8 (.f f9 (.f f10 (.f f11 (.r 28 [] [(map b_y a0)] f12 (.e 0 (.f f14 (.f f15 (.f f16 (.f f17 (.f f18 (.f f19 (.f f20 (.r 38 [] [(map b_isii ((m38 a0).f2)), (map b_isii ((m36 a0).f2))] f21 (.g h1 (.z 41 (.r 47 [] [] f23 (.f f24 (.f f25 (.f f26 (.f f27 (.f f28 (.f f29 (.r 49 [] [(map b_y a0), (map b_y a0)] f30 (.g h2 (.f (pureR_y a0) (.z 52 (.r 60 [true] [] f33 (.n 3 h3 (.f f37 (.f f38 (.f f39 (.f f40 (.f f41 (.f f42 (.z 69 (.z 71 (.z 73 (.r 74 [] [(map b_isii ((m38 a0).f2)), (map b_isii ((m36 a0).f2))] f43 (.n 2 h3 (.g h1 (.f (pureR_isii ((m38 a0).f2)) (.z 75 (.z 78 (.z 79 (.r 87 [true] [] f48 (.f f49 (.f f50 (.f f51 (.r 97 [] [(map b_isii (o42_0 (m38 a0) 1))] f52 (.g h4 (.g h5 (.z 104 (.z 111 (.r 115 [] [] f55 (.f f56 (.f f57 (.f f58 (.r 117 [] [(map b_y a0)] f59 (.e 0 (.e (length (map d_isii ((m38 a0).f2))) (.f f62 (.f f63 (.f f64 (.f f65 (.f f66 (.f f67 (.r 127 [] [(map b_isii ((m38 a0).f2)), (map b_isii ((m36 a0).f2))] f68 (.g h1 (.f f70 (.f f71 (.f f72 (.z 130 (.r 138 [] [(map b_isii (o42_0 (m38 a0) 1))] f73 (.g h4 (.g h5 (.z 145 (.z 152 .nil)))))))))))))))))))))))))))))))))))))))))))))))))))))))))))))))))))))))))))))))))))))))
def wt_y (x : Int) : Nat := 1
theorem wts_y : ∀ (l : List Int), (map wt_y l).sum = l.length * 1
 | [] => rfl
 | x :: l => by simp only [List.map_cons, List.sum_cons, wts_y l, length_cons, wt_y]; omega
def wt_LyE (x : (List Int)) : Nat := 0 + (map wt_y x).sum
def wt_b (x : Bool) : Nat := 1
theorem wts_b : ∀ (l : List Bool), (map wt_b l).sum = l.length * 1
 | [] => rfl
 | x :: l => by simp only [List.map_cons, List.sum_cons, wts_b l, length_cons, wt_b]; omega
def wt_isii (x : K_isii) : Nat := 4
theorem wts_isii : ∀ (l : List K_isii), (map wt_isii l).sum = l.length * 4
 | [] => rfl
 | x :: l => by simp only [List.map_cons, List.sum_cons, wts_isii l, length_cons, wt_isii]; omega
def wt_iiLisiiE (x : K_iiLisiiE) : Nat := 2 + (map wt_isii x.f2).sum
def wt_i (x : Int) : Nat := 1
theorem wts_i : ∀ (l : List Int), (map wt_i l).sum = l.length * 1
 | [] => rfl
 | x :: l => by simp only [List.map_cons, List.sum_cons, wts_i l, length_cons, wt_i]; omega
def wt_LLyEE (x : (List (List Int))) : Nat := 0 + (map wt_LyE x).sum
def wt_s (x : ByteArray) : Nat := 1
theorem wts_s : ∀ (l : List ByteArray), (map wt_s l).sum = l.length * 1
 | [] => rfl
 | x :: l => by simp only [List.map_cons, List.sum_cons, wts_s l, length_cons, wt_s]; omega
def wt_LisiiE (x : (List K_isii)) : Nat := 0 + (map wt_isii x).sum
theorem mr87_0 (a0 : List K_isii) : ∀ (l p : List K_isii) (v1 : Int), 0 ≤ v1 → v1 + ((map wt_isii l).sum : Nat) ≤ 4611686018427387904 → ∃ (q : List K_isii) (k' : Int) (w2 : _) (w3 : _), r87_0 a0 l (p.length : Int) (p ++ l) v1 = .k0 (p ++ q) k' w2 w3 ∧ q.length = l.length ∧ v1 ≤ k' ∧ k' ≤ v1 + ((map wt_isii l).sum : Nat) ∧ ∀ (c : List K_isii) (j : Int), ∃ u1 u2, r88_0 c q j v1 = .k0 k' u1 u2
 | [], p, v1, h0, h1 => ⟨[], v1, (p.length : Int), (decide ((p.length : Int) < ((length (map d_isii a0)) : Int))), rfl, rfl, by omega, by simp, fun c j => ⟨j, (decide (j < ((length (map b_isii c)) : Int))), rfl⟩⟩
 | x0 :: l, p, v1, h0, h1 => by
  simp only [List.map_cons, List.sum_cons, wt_isii] at h1 ⊢
  obtain ⟨q, k', w2, w3, e1, e2, e3, e4, e5⟩ := mr87_0 a0 l (p ++ [(K_isii.mk v1 (m82 (v1 + 1)) ((v1 + 1) + 1) (((v1 + 1) + 1) + 1))]) ((((v1 + 1) + 1) + 1) + 1) (by omega) (by omega)
  refine ⟨(K_isii.mk v1 (m82 (v1 + 1)) ((v1 + 1) + 1) (((v1 + 1) + 1) + 1)) :: q, k', w2, w3, ?_, by simp [e2], by omega, by omega, ?_⟩
  ·have e : set (p ++ x0 :: l) (Int.toNat (p.length : Int)) (K_isii.mk v1 (m82 (v1 + 1)) ((v1 + 1) + 1) (((v1 + 1) + 1) + 1)) = (p ++ [(K_isii.mk v1 (m82 (v1 + 1)) ((v1 + 1) + 1) (((v1 + 1) + 1) + 1))]) ++ l := by simp
   have e0 : ((p ++ [(K_isii.mk v1 (m82 (v1 + 1)) ((v1 + 1) + 1) (((v1 + 1) + 1) + 1))]).length : Int) = (p.length : Int) + 1 := by simp
   rw [e0] at e1
   simp (disch := omega) only [r87_0, wrap64d]
   first | (rw [e, e1]; simp; done) | (simp only [e, e1]; simp; done)
  ·intro c j
   obtain ⟨u1, u2, g⟩ := e5 c (j + 1)
   refine ⟨u1, u2, ?_⟩
   simp (disch := omega) only [r88_0, wrap64d]
   first | (simpa using g) | (simp_all; done)
theorem mh87 (a : List K_isii) (k : Int) (h0 : 0 ≤ k) (h1 : k + ((map wt_isii a).sum : Nat) ≤ 4611686018427387904) : m88 (o87_0 a k) k = m87 a k ∧ k ≤ m87 a k ∧ m87 a k ≤ k + ((map wt_isii a).sum : Nat) := by
 obtain ⟨q, k', w2, w3, e1, e2, e3, e4, e5⟩ := mr87_0 a a [] k h0 h1
 obtain ⟨u1, u2, g⟩ := e5 q 0
 simp only [List.nil_append, length_nil] at e1
 rw [show ((0 : Nat) : Int) = 0 from rfl] at e1
 unfold m87 o87_0 m88
 rw [e1]; simp only []; rw [g]; exact ⟨rfl, e3, e4⟩
theorem mh42 (a : K_iiLisiiE) (k : Int) (h0 : 0 ≤ k) (h1 : k + (wt_iiLisiiE a : Nat) ≤ 4611686018427387904) : m43 (K_iiLisiiE.mk a.f0 a.f1 (o42_0 a k)) k = m42 a k ∧ k ≤ m42 a k ∧ m42 a k ≤ k + (wt_iiLisiiE a : Nat) := by
 simp only [wt_iiLisiiE] at h1 ⊢
 have s0 := mh87 a.f2 k (by omega) (by omega)
 have t0 := s0.1
 try simp only [length_map, wt_y, wt_LyE, wt_b, wt_isii, wt_iiLisiiE, wt_i, wt_LLyEE, wt_s, wt_LisiiE] at *
 unfold m43 m42 o42_0
 simp (disch := omega) only [wrap64d, t0]
 refine ⟨?_, by omega, by omega⟩
 (repeat' rw [if_neg (by simp only [decide_eq_true_eq]; omega)]) <;> rfl
theorem X_ok (f : FuncId) (args : List SV) (objs : List (V.Id × VObj)) (rs : List Ret) (h : X f args objs rs) : CallOK Tryd.prog f args objs [] [] rs := by
 rcases h with ⟨rfl, rfl, h⟩
 ·obtain ⟨s, c, h1, h2, h3, rfl, rfl⟩ := h
  exact trim_ok s c h1 h2 h3
end Go.Proofs.YtdnopbpdiineiaaDoor.ReadEntries
