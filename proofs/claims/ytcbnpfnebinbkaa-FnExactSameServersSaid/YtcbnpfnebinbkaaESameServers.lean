/- What the functions compute. -/
import Derived.Test.YtcbnpfnebinbkaaTSameServers
import Derived.Test.YtcbnpfnebinbkaaVNum
import Derived.Test.YtcbnpfnebinbkaaVClone
import Derived.KernelRfl
namespace Go.Proofs.Ytcbnpfnebinbkaa.SameServers
open Go Go.Proofs.Ytcbnpfnebinbkaa.V
set_option linter.unusedVariables false
set_option linter.unusedSimpArgs false
def X : Ext := fun f args rs => False
structure K_sisi where
  f0 : ByteArray
  f1 : Int
  f2 : ByteArray
  f3 : Int
def b_sisi (x : K_sisi) : List B := [(.val (.string x.f0)), (.val (.int .i64 x.f1)), (.val (.string x.f2)), (.val (.int .i64 x.f3))]
def d_sisi (x : K_sisi) : List D := [(.val (.string x.f0)), (.val (.int .i64 x.f1)), (.val (.string x.f2)), (.val (.int .i64 x.f3))]
theorem toBR_sisi : ∀ (l : List K_sisi), toBR (l.map d_sisi) = l.map b_sisi
  | [] => rfl
  | x :: l => by simp [toBR, toBL, toB, d_sisi, b_sisi, toBR_sisi l]
theorem fullR_sisi : ∀ (l : List K_sisi), fullR (l.map d_sisi) = true
  | [] => rfl
  | x :: l => by simp [fullR, fullL, full, d_sisi, fullR_sisi l]
theorem pureR_sisi : ∀ (l : List K_sisi), pureR (l.map d_sisi) = true
  | [] => rfl
  | x :: l => by simp [pureR, pureL, V.pure, d_sisi, pureR_sisi l]
theorem ft_sisi (a b : Nat) (l : List K_sisi) : fullR (List.take a (List.drop b (l.map d_sisi))) = true := by rw [← List.map_drop, ← List.map_take]; exact fullR_sisi _
theorem tb_sisi (l : List K_sisi) : toBR (List.take (l.map d_sisi).length (List.drop 0 (l.map d_sisi))) = l.map b_sisi := by rw [List.drop_zero, List.take_length]; exact toBR_sisi l
theorem lenB_sisi (l : List K_sisi) : ∀ r ∈ l.map b_sisi, r.length = 4 := by intro r h; obtain ⟨x, _, rfl⟩ := List.mem_map.1 h; rfl
theorem lenD_sisi (l : List K_sisi) : ∀ r ∈ l.map d_sisi, r.length = 4 := by intro r h; obtain ⟨x, _, rfl⟩ := List.mem_map.1 h; rfl
theorem fromBR_sisi (n : Nat) (l : List K_sisi) : fromBR n (l.map b_sisi) = l.map d_sisi := by simp [fromBR, b_sisi, d_sisi, fromB, Function.comp_def]
theorem copy_sisi (l : List K_sisi) : (l.map d_sisi).all (fun x => x.all copyable) = true := by simp [d_sisi, copyable, Function.comp_def]
theorem ct_sisi (a b : Nat) (l : List K_sisi) : ((List.take a (List.drop b (l.map d_sisi))).all fun x => x.all copyable) = true := by rw [← List.map_drop, ← List.map_take]; exact copy_sisi _
structure K_LsisiEi where
  f0 : (List K_sisi)
  f1 : Int
def b_LsisiEi (x : K_LsisiEi) : List B := [(.sl (List.map b_sisi x.f0)), (.val (.int .i64 x.f1))]
def d_LsisiEi (x : K_LsisiEi) : List D := [(.own 4 (List.map d_sisi x.f0)), (.val (.int .i64 x.f1))]
theorem toBR_LsisiEi : ∀ (l : List K_LsisiEi), toBR (l.map d_LsisiEi) = l.map b_LsisiEi
  | [] => rfl
  | x :: l => by simp [toBR, toBL, toB, d_LsisiEi, b_LsisiEi, toBR_LsisiEi l, toBR_sisi]
theorem fullR_LsisiEi : ∀ (l : List K_LsisiEi), fullR (l.map d_LsisiEi) = true
  | [] => rfl
  | x :: l => by simp [fullR, fullL, full, d_LsisiEi, fullR_LsisiEi l, fullR_sisi]
theorem pureR_LsisiEi : ∀ (l : List K_LsisiEi), pureR (l.map d_LsisiEi) = true
  | [] => rfl
  | x :: l => by simp [pureR, pureL, V.pure, d_LsisiEi, pureR_LsisiEi l, pureR_sisi]
theorem ft_LsisiEi (a b : Nat) (l : List K_LsisiEi) : fullR (List.take a (List.drop b (l.map d_LsisiEi))) = true := by rw [← List.map_drop, ← List.map_take]; exact fullR_LsisiEi _
theorem tb_LsisiEi (l : List K_LsisiEi) : toBR (List.take (l.map d_LsisiEi).length (List.drop 0 (l.map d_LsisiEi))) = l.map b_LsisiEi := by rw [List.drop_zero, List.take_length]; exact toBR_LsisiEi l
theorem lenB_LsisiEi (l : List K_LsisiEi) : ∀ r ∈ l.map b_LsisiEi, r.length = 2 := by intro r h; obtain ⟨x, _, rfl⟩ := List.mem_map.1 h; rfl
theorem lenD_LsisiEi (l : List K_LsisiEi) : ∀ r ∈ l.map d_LsisiEi, r.length = 2 := by intro r h; obtain ⟨x, _, rfl⟩ := List.mem_map.1 h; rfl
def ok_LsisiEi (x : K_LsisiEi) : Prop := (List.length x.f0 * 48 ≤ 140737488351232)
def b_b (x : Bool) : List B := [(.val (.bool x))]
def d_b (x : Bool) : List D := [(.val (.bool x))]
theorem toBR_b : ∀ (l : List Bool), toBR (l.map d_b) = l.map b_b
  | [] => rfl
  | x :: l => by simp [toBR, toBL, toB, d_b, b_b, toBR_b l]
theorem fullR_b : ∀ (l : List Bool), fullR (l.map d_b) = true
  | [] => rfl
  | x :: l => by simp [fullR, fullL, full, d_b, fullR_b l]
theorem pureR_b : ∀ (l : List Bool), pureR (l.map d_b) = true
  | [] => rfl
  | x :: l => by simp [pureR, pureL, V.pure, d_b, pureR_b l]
theorem ft_b (a b : Nat) (l : List Bool) : fullR (List.take a (List.drop b (l.map d_b))) = true := by rw [← List.map_drop, ← List.map_take]; exact fullR_b _
theorem tb_b (l : List Bool) : toBR (List.take (l.map d_b).length (List.drop 0 (l.map d_b))) = l.map b_b := by rw [List.drop_zero, List.take_length]; exact toBR_b l
theorem lenB_b (l : List Bool) : ∀ r ∈ l.map b_b, r.length = 1 := by intro r h; obtain ⟨x, _, rfl⟩ := List.mem_map.1 h; rfl
theorem lenD_b (l : List Bool) : ∀ r ∈ l.map d_b, r.length = 1 := by intro r h; obtain ⟨x, _, rfl⟩ := List.mem_map.1 h; rfl
theorem fromBR_b (n : Nat) (l : List Bool) : fromBR n (l.map b_b) = l.map d_b := by simp [fromBR, b_b, d_b, fromB, Function.comp_def]
theorem copy_b (l : List Bool) : (l.map d_b).all (fun x => x.all copyable) = true := by simp [d_b, copyable, Function.comp_def]
theorem ct_b (a b : Nat) (l : List Bool) : ((List.take a (List.drop b (l.map d_b))).all fun x => x.all copyable) = true := by rw [← List.map_drop, ← List.map_take]; exact copy_b _
def b_i (x : Int) : List B := [(.val (.int .i64 x))]
def d_i (x : Int) : List D := [(.val (.int .i64 x))]
theorem toBR_i : ∀ (l : List Int), toBR (l.map d_i) = l.map b_i
  | [] => rfl
  | x :: l => by simp [toBR, toBL, toB, d_i, b_i, toBR_i l]
theorem fullR_i : ∀ (l : List Int), fullR (l.map d_i) = true
  | [] => rfl
  | x :: l => by simp [fullR, fullL, full, d_i, fullR_i l]
theorem pureR_i : ∀ (l : List Int), pureR (l.map d_i) = true
  | [] => rfl
  | x :: l => by simp [pureR, pureL, V.pure, d_i, pureR_i l]
theorem ft_i (a b : Nat) (l : List Int) : fullR (List.take a (List.drop b (l.map d_i))) = true := by rw [← List.map_drop, ← List.map_take]; exact fullR_i _
theorem tb_i (l : List Int) : toBR (List.take (l.map d_i).length (List.drop 0 (l.map d_i))) = l.map b_i := by rw [List.drop_zero, List.take_length]; exact toBR_i l
theorem lenB_i (l : List Int) : ∀ r ∈ l.map b_i, r.length = 1 := by intro r h; obtain ⟨x, _, rfl⟩ := List.mem_map.1 h; rfl
theorem lenD_i (l : List Int) : ∀ r ∈ l.map d_i, r.length = 1 := by intro r h; obtain ⟨x, _, rfl⟩ := List.mem_map.1 h; rfl
theorem fromBR_i (n : Nat) (l : List Int) : fromBR n (l.map b_i) = l.map d_i := by simp [fromBR, b_i, d_i, fromB, Function.comp_def]
theorem copy_i (l : List Int) : (l.map d_i).all (fun x => x.all copyable) = true := by simp [d_i, copyable, Function.comp_def]
theorem ct_i (a b : Nat) (l : List Int) : ((List.take a (List.drop b (l.map d_i))).all fun x => x.all copyable) = true := by rw [← List.map_drop, ← List.map_take]; exact copy_i _
def b_LsisiE (x : (List K_sisi)) : List B := [(.sl (List.map b_sisi x))]
def d_LsisiE (x : (List K_sisi)) : List D := [(.own 4 (List.map d_sisi x))]
theorem toBR_LsisiE : ∀ (l : List (List K_sisi)), toBR (l.map d_LsisiE) = l.map b_LsisiE
  | [] => rfl
  | x :: l => by simp [toBR, toBL, toB, d_LsisiE, b_LsisiE, toBR_LsisiE l, toBR_sisi]
theorem fullR_LsisiE : ∀ (l : List (List K_sisi)), fullR (l.map d_LsisiE) = true
  | [] => rfl
  | x :: l => by simp [fullR, fullL, full, d_LsisiE, fullR_LsisiE l, fullR_sisi]
theorem pureR_LsisiE : ∀ (l : List (List K_sisi)), pureR (l.map d_LsisiE) = true
  | [] => rfl
  | x :: l => by simp [pureR, pureL, V.pure, d_LsisiE, pureR_LsisiE l, pureR_sisi]
theorem ft_LsisiE (a b : Nat) (l : List (List K_sisi)) : fullR (List.take a (List.drop b (l.map d_LsisiE))) = true := by rw [← List.map_drop, ← List.map_take]; exact fullR_LsisiE _
theorem tb_LsisiE (l : List (List K_sisi)) : toBR (List.take (l.map d_LsisiE).length (List.drop 0 (l.map d_LsisiE))) = l.map b_LsisiE := by rw [List.drop_zero, List.take_length]; exact toBR_LsisiE l
theorem lenB_LsisiE (l : List (List K_sisi)) : ∀ r ∈ l.map b_LsisiE, r.length = 1 := by intro r h; obtain ⟨x, _, rfl⟩ := List.mem_map.1 h; rfl
theorem lenD_LsisiE (l : List (List K_sisi)) : ∀ r ∈ l.map d_LsisiE, r.length = 1 := by intro r h; obtain ⟨x, _, rfl⟩ := List.mem_map.1 h; rfl
def ok_LsisiE (x : (List K_sisi)) : Prop := (List.length x * 48 ≤ 140737488351232)
attribute [local simp] toBR_sisi fullR_sisi pureR_sisi lenB_sisi lenD_sisi fromBR_sisi copy_sisi toBR_LsisiEi fullR_LsisiEi pureR_LsisiEi lenB_LsisiEi lenD_LsisiEi toBR_b fullR_b pureR_b lenB_b lenD_b fromBR_b copy_b toBR_i fullR_i pureR_i lenB_i lenD_i fromBR_i copy_i toBR_LsisiE fullR_LsisiE pureR_LsisiE lenB_LsisiE lenD_LsisiE

/-! loop.example/g00539/laws.szSession -/
def m39 (a0 : K_sisi) (a1 : Int) : Int :=
  if (decide ((IntKind.wrap .i64 (a1 - (ByteArray.size a0.f0 : Int))) < 0)) = true then (-1) else
  if (decide ((IntKind.wrap .i64 ((IntKind.wrap .i64 (a1 - (ByteArray.size a0.f0 : Int))) - (ByteArray.size a0.f2 : Int))) < 0)) = true then (-1) else
    (IntKind.wrap .i64 ((IntKind.wrap .i64 (a1 - (ByteArray.size a0.f0 : Int))) - (ByteArray.size a0.f2 : Int)))
theorem e39 {a0 : K_sisi} {a1 : Int} : Ev F X (.call 39 [(.agg [(.val (.string a0.f0)), (.val (.int .i64 a0.f1)), (.val (.string a0.f2)), (.val (.int .i64 a0.f3))]), (.one (.val (.int .i64 a1)))] [] [] [(.one (.val (.int .i64 (m39 a0 a1))))]) := by
  unfold m39
  by_cases h0 : (decide ((IntKind.wrap .i64 (a1 - (ByteArray.size a0.f0 : Int))) < 0)) = true
  · try simp only [if_pos h0]
    exact callP_ok (ps := []) (os := []) (rs := [(.one (.val (.int .i64 (-1))))]) (by kernel_rfl) (.f h0 (.h 20 (.b true) .nil))
  · try simp only [if_neg h0]
    by_cases h1 : (decide ((IntKind.wrap .i64 ((IntKind.wrap .i64 (a1 - (ByteArray.size a0.f0 : Int))) - (ByteArray.size a0.f2 : Int))) < 0)) = true
    · try simp only [if_pos h1]
      exact callP_ok (ps := []) (os := []) (rs := [(.one (.val (.int .i64 (-1))))]) (by kernel_rfl) (.f (nt h0) (.f h1 (.h 20 (.b false) (.h 37 (.b true) .nil))))
    · try simp only [if_neg h1]
      exact callP_ok (ps := []) (os := []) (rs := [(.one (.val (.int .i64 (IntKind.wrap .i64 ((IntKind.wrap .i64 (a1 - (ByteArray.size a0.f0 : Int))) - (ByteArray.size a0.f2 : Int))))))]) (by kernel_rfl) (.f (nt h0) (.f (nt h1) (.h 20 (.b false) (.h 37 (.b false) .nil))))
/-! loop 21_0 -/
inductive O21_0 where
  | k0 (w0 : Int) (w1 : Int) (w2 : Bool)
  | k1
def r21_0 (a0 : (List K_sisi)) : List K_sisi → Int → Int → O21_0
  | x0_21_0 :: l0_21_0, i_21_0, v0_21_0 =>
    if (decide ((m39 x0_21_0 v0_21_0) < 0)) = true then (O21_0.k1) else
    (r21_0 a0 l0_21_0 (i_21_0 + 1) (m39 x0_21_0 v0_21_0))
  | [], i_21_0, v0_21_0 => (O21_0.k0 v0_21_0 i_21_0 (decide (i_21_0 < ((List.length (List.map b_sisi a0)) : Int))))
def h21_0 (l0_0 : Nat) (a0 : (List K_sisi)) (a1 : Int) (i_21_0 : Int) (v0_21_0 : Int) : St := ⟨[(0, (.one (.bor l0_0 (List.map b_sisi a0)))), (1, (.one (.val (.int .i64 v0_21_0)))), (5, (.one (.val (.int .i64 i_21_0))))], []⟩
def ex21_0 : O21_0 → VX.Exit
  | .k0 _ _ _ => (.exit 0)
  | .k1 => .ret
def fin21_0 (l0_0 : Nat) (a0 : (List K_sisi)) (a1 : Int) : O21_0 → St
  | .k0 w0 w1 w2 => ⟨[(0, (.one (.bor l0_0 (List.map b_sisi a0)))), (1, (.one (.val (.int .i64 w0)))), (5, (.one (.val (.int .i64 w1)))), (15, (.one (.val (.bool w2))))], []⟩
  | .k1 => ⟨[(4, (.one (.val (.int .i64 (-1)))))], []⟩
theorem t21_0 {l0_0 : Nat} {a0 : (List K_sisi)} {a1 : Int} (hy0 : List.length a0 * 48 ≤ 140737488351232) : ∀ (l0_21_0 : List K_sisi) (p_21_0 : List K_sisi) (v0_21_0 : Int), p_21_0 ++ l0_21_0 = a0 → Ev F X (.code l21_0 (h21_0 l0_0 a0 a1 (List.length p_21_0 : Int) v0_21_0) (ex21_0 (r21_0 a0 l0_21_0 (List.length p_21_0 : Int) v0_21_0)) (fin21_0 l0_0 a0 a1 (r21_0 a0 l0_21_0 (List.length p_21_0 : Int) v0_21_0)))
  | [], p_21_0, v0_21_0, hp0 => by
    have hc : ¬ (decide ((List.length p_21_0 : Int) < ((List.length (List.map b_sisi a0)) : Int))) = true := by
      rw [← hp0]; simp only [List.length_map, List.length_set, List.length_append, List.length_replicate, List.length_cons, List.length_nil, decide_eq_true_eq]; omega
    have st := codeH_ok (F := F) (X := X) (c := b21_0) (t := 0) (hs := [(8, .b false)]) (σ := h21_0 l0_0 a0 a1 (List.length p_21_0 : Int) v0_21_0) (σ' := ⟨[(0, (.one (.bor l0_0 (List.map b_sisi a0)))), (1, (.one (.val (.int .i64 v0_21_0)))), (5, (.one (.val (.int .i64 (List.length p_21_0 : Int))))), (15, (.one (.val (.bool (decide ((List.length p_21_0 : Int) < ((List.length (List.map b_sisi a0)) : Int)))))))], []⟩) (e := (.exit 0)) (t' := 9) (hs' := []) (q := [(decide ((List.length p_21_0 : Int) < ((List.length (List.map b_sisi a0)) : Int))) = false]) (by kernel_rfl) ⟨(nt hc), trivial⟩
    rw [show (⟨[(0, (.one (.bor l0_0 (List.map b_sisi a0)))), (1, (.one (.val (.int .i64 v0_21_0)))), (5, (.one (.val (.int .i64 (List.length p_21_0 : Int))))), (15, (.one (.val (.bool (decide ((List.length p_21_0 : Int) < ((List.length (List.map b_sisi a0)) : Int)))))))], []⟩ : St) = fin21_0 l0_0 a0 a1 (.k0 v0_21_0 (List.length p_21_0 : Int) (decide ((List.length p_21_0 : Int) < ((List.length (List.map b_sisi a0)) : Int)))) from by first | rfl | (unfold fin21_0; simp [List.take_of_length_le, d_sisi, d_LsisiEi, d_b, d_i, d_LsisiE, fromBR_sisi, fromBR_b, fromBR_i]; done)] at st
    exact .loopX st (show ((.exit 0) : VX.Exit) ≠ .normal from by simp)
  | x0_21_0 :: l0_21_0, p_21_0, v0_21_0, hp0 => by
    have hc : (decide ((List.length p_21_0 : Int) < ((List.length (List.map b_sisi a0)) : Int))) = true := by
      rw [← hp0]; simp only [List.length_map, List.length_set, List.length_append, List.length_replicate, List.length_cons, List.length_nil, decide_eq_true_eq]; omega
    have Hx0_21_0 : (a0)[Int.toNat (List.length p_21_0 : Int)]? = some x0_21_0 := by
      rw [← hp0, Int.toNat_natCast]; simp
    have hlen : List.length (a0) = List.length p_21_0 + List.length l0_21_0 + 1 := by rw [← hp0]; simp; omega
    have hw : IntKind.wrap .i64 ((List.length p_21_0 : Int) + 1) = (List.length p_21_0 : Int) + 1 := wrap64 (by omega)
    simp only [r21_0]
    by_cases h_21_0_1 : (decide ((m39 x0_21_0 v0_21_0) < 0)) = true
    · try simp only [if_pos h_21_0_1]
      have st := codeH_ok (F := F) (X := X) (c := b21_0) (t := 0) (hs := [(8, .b true), (14, .row [(.val (.string x0_21_0.f0)), (.val (.int .i64 x0_21_0.f1)), (.val (.string x0_21_0.f2)), (.val (.int .i64 x0_21_0.f3))]), (20, .ret [] [(.one (.val (.int .i64 (m39 x0_21_0 v0_21_0))))] [] []), (27, .b true)]) (σ := h21_0 l0_0 a0 a1 (List.length p_21_0 : Int) v0_21_0) (σ' := ⟨[(4, (.one (.val (.int .i64 (-1)))))], []⟩) (e := .ret) (t' := 30) (hs' := []) (q := [(decide ((List.length p_21_0 : Int) < ((List.length (List.map b_sisi a0)) : Int))) = true, 0 ≤ (List.length p_21_0 : Int), (List.map b_sisi a0)[(Int.toNat (List.length p_21_0 : Int))]? = some [(.val (.string x0_21_0.f0)), (.val (.int .i64 x0_21_0.f1)), (.val (.string x0_21_0.f2)), (.val (.int .i64 x0_21_0.f3))], Ev F X (.call 39 [(.agg [(.val (.string x0_21_0.f0)), (.val (.int .i64 x0_21_0.f1)), (.val (.string x0_21_0.f2)), (.val (.int .i64 x0_21_0.f3))]), (.one (.val (.int .i64 v0_21_0)))] [] [] [(.one (.val (.int .i64 (m39 x0_21_0 v0_21_0))))]), (decide ((m39 x0_21_0 v0_21_0) < 0)) = true]) (by kernel_rfl) ⟨hc, (by first | exact True.intro | with_reducible rfl | with_reducible assumption | omega | (simp only [List.length_map, List.length_set, List.length_append, List.length_replicate, List.length_cons, List.length_nil]; omega) | (simp; omega) | (simp [List.take_of_length_le]; done) | assumption | trivial | (simp [*]; done)), (by first | (rw [List.getElem?_map, Hx0_21_0]; rfl) | (rw [Nat.zero_add, List.getElem?_map, Hx0_21_0]; rfl) | exact True.intro | with_reducible rfl | with_reducible assumption | omega | (simp only [List.length_map, List.length_set, List.length_append, List.length_replicate, List.length_cons, List.length_nil]; omega) | (simp; done) | (simp; omega) | (simp [List.take_of_length_le]; done) | (simp [← List.map_take, ← List.map_drop]; done) | assumption | trivial | (simp [*, b_sisi, d_sisi]; done)), (e39 (a0 := x0_21_0) (a1 := v0_21_0)), h_21_0_1, trivial⟩
      rw [show (⟨[(4, (.one (.val (.int .i64 (-1)))))], []⟩ : St) = fin21_0 l0_0 a0 a1 (.k1) from by first | rfl | (unfold fin21_0; simp [List.take_of_length_le, d_sisi, d_LsisiEi, d_b, d_i, d_LsisiE, fromBR_sisi, fromBR_b, fromBR_i]; done)] at st
      exact .loopX st (show (.ret : VX.Exit) ≠ .normal from by simp)
    · try simp only [if_neg h_21_0_1]
      have st := codeH_ok (F := F) (X := X) (c := b21_0) (t := 0) (hs := [(8, .b true), (14, .row [(.val (.string x0_21_0.f0)), (.val (.int .i64 x0_21_0.f1)), (.val (.string x0_21_0.f2)), (.val (.int .i64 x0_21_0.f3))]), (20, .ret [] [(.one (.val (.int .i64 (m39 x0_21_0 v0_21_0))))] [] []), (27, .b false)]) (σ := h21_0 l0_0 a0 a1 (List.length p_21_0 : Int) v0_21_0) (σ' := ⟨[(0, (.one (.bor l0_0 (List.map b_sisi a0)))), (1, (.one (.val (.int .i64 (m39 x0_21_0 v0_21_0))))), (5, (.one (.val (.int .i64 (IntKind.wrap .i64 ((List.length p_21_0 : Int) + 1))))))], []⟩) (e := .normal) (t' := 34) (hs' := []) (q := [(decide ((List.length p_21_0 : Int) < ((List.length (List.map b_sisi a0)) : Int))) = true, 0 ≤ (List.length p_21_0 : Int), (List.map b_sisi a0)[(Int.toNat (List.length p_21_0 : Int))]? = some [(.val (.string x0_21_0.f0)), (.val (.int .i64 x0_21_0.f1)), (.val (.string x0_21_0.f2)), (.val (.int .i64 x0_21_0.f3))], Ev F X (.call 39 [(.agg [(.val (.string x0_21_0.f0)), (.val (.int .i64 x0_21_0.f1)), (.val (.string x0_21_0.f2)), (.val (.int .i64 x0_21_0.f3))]), (.one (.val (.int .i64 v0_21_0)))] [] [] [(.one (.val (.int .i64 (m39 x0_21_0 v0_21_0))))]), (decide ((m39 x0_21_0 v0_21_0) < 0)) = false, True]) (by kernel_rfl) ⟨hc, (by first | exact True.intro | with_reducible rfl | with_reducible assumption | omega | (simp only [List.length_map, List.length_set, List.length_append, List.length_replicate, List.length_cons, List.length_nil]; omega) | (simp; omega) | (simp [List.take_of_length_le]; done) | assumption | trivial | (simp [*]; done)), (by first | (rw [List.getElem?_map, Hx0_21_0]; rfl) | (rw [Nat.zero_add, List.getElem?_map, Hx0_21_0]; rfl) | exact True.intro | with_reducible rfl | with_reducible assumption | omega | (simp only [List.length_map, List.length_set, List.length_append, List.length_replicate, List.length_cons, List.length_nil]; omega) | (simp; done) | (simp; omega) | (simp [List.take_of_length_le]; done) | (simp [← List.map_take, ← List.map_drop]; done) | assumption | trivial | (simp [*, b_sisi, d_sisi]; done)), (e39 (a0 := x0_21_0) (a1 := v0_21_0)), (nt h_21_0_1), trivial, trivial⟩
      have ih := t21_0 (l0_0 := l0_0) (a0 := a0) (a1 := a1) hy0 l0_21_0 (p_21_0 ++ [x0_21_0]) (m39 x0_21_0 v0_21_0) (by rw [List.append_assoc]; exact hp0)
      rw [show ((p_21_0 ++ [x0_21_0]).length : Int) = (p_21_0.length : Int) + 1 from by simp] at ih
      rw [show (⟨[(0, (.one (.bor l0_0 (List.map b_sisi a0)))), (1, (.one (.val (.int .i64 (m39 x0_21_0 v0_21_0))))), (5, (.one (.val (.int .i64 (IntKind.wrap .i64 ((List.length p_21_0 : Int) + 1))))))], []⟩ : St) = h21_0 l0_0 a0 a1 ((List.length p_21_0 : Int) + 1) (m39 x0_21_0 v0_21_0) from by first | (unfold h21_0; simp only [hw]; done) | (unfold h21_0; simp only [hw, List.length_map, List.length_set, List.length_append, List.length_replicate, List.length_cons, List.length_nil]; done) | (unfold h21_0; simp [hw, List.take_of_length_le, d_sisi, d_LsisiEi, d_b, d_i, d_LsisiE, fromBR_sisi, fromBR_b, fromBR_i]; done)] at st
      exact .loopN st ih
/-! loop.example/g00539/laws.szSessionS -/
def m21 (a0 : (List K_sisi)) (a1 : Int) : Int :=
  if (decide ((IntKind.wrap .i64 (a1 - ((List.length (List.map b_sisi a0)) : Int))) < 0)) = true then (-1) else
  (match r21_0 a0 a0 0 (IntKind.wrap .i64 (a1 - ((List.length (List.map b_sisi a0)) : Int))) with | .k0 w0_21_0_1 w1_21_0_1 w2_21_0_1 => w0_21_0_1 | .k1 => (-1))
theorem e21 {l0_0 : Nat} {a0 : (List K_sisi)} {a1 : Int} (hy0 : List.length a0 * 48 ≤ 140737488351232) : Ev F X (.call 21 [(.one (.bor l0_0 (List.map b_sisi a0))), (.one (.val (.int .i64 a1)))] [] [] [(.one (.val (.int .i64 (m21 a0 a1))))]) := by
  unfold m21
  by_cases h0 : (decide ((IntKind.wrap .i64 (a1 - ((List.length (List.map b_sisi a0)) : Int))) < 0)) = true
  · try simp only [if_pos h0]
    exact callP_ok (ps := []) (os := []) (rs := [(.one (.val (.int .i64 (-1))))]) (by kernel_rfl) (.f h0 (.h 16 (.b true) .nil))
  · try simp only [if_neg h0]
    cases h1 : r21_0 a0 a0 0 (IntKind.wrap .i64 (a1 - ((List.length (List.map b_sisi a0)) : Int))) with
    | k0 w0_21_0_1 w1_21_0_1 w2_21_0_1 =>
      try dsimp only
      have f1 : (⟨[(0, (.one (.bor l0_0 (List.map b_sisi a0)))), (1, (.one (.val (.int .i64 (IntKind.wrap .i64 (a1 - ((List.length (List.map b_sisi a0)) : Int))))))), (5, (.one (.val (.int .i64 0))))], []⟩ : St) = h21_0 l0_0 a0 a1 0 (IntKind.wrap .i64 (a1 - ((List.length (List.map b_sisi a0)) : Int))) := (by first | rfl | (unfold h21_0; simp [List.take_of_length_le, d_sisi, d_LsisiEi, d_b, d_i, d_LsisiE, fromBR_sisi, fromBR_b, fromBR_i]; done))
      have f2 : Ev F X (.code l21_0 (h21_0 l0_0 a0 a1 0 (IntKind.wrap .i64 (a1 - ((List.length (List.map b_sisi a0)) : Int)))) (.exit 0) ⟨[(0, (.one (.bor l0_0 (List.map b_sisi a0)))), (1, (.one (.val (.int .i64 w0_21_0_1)))), (5, (.one (.val (.int .i64 w1_21_0_1)))), (15, (.one (.val (.bool w2_21_0_1))))], []⟩) := (by have t : Ev F X (.code l21_0 (h21_0 l0_0 a0 a1 0 (IntKind.wrap .i64 (a1 - ((List.length (List.map b_sisi a0)) : Int)))) (ex21_0 (r21_0 a0 a0 0 (IntKind.wrap .i64 (a1 - ((List.length (List.map b_sisi a0)) : Int))))) (fin21_0 l0_0 a0 a1 (r21_0 a0 a0 0 (IntKind.wrap .i64 (a1 - ((List.length (List.map b_sisi a0)) : Int)))))) := t21_0 (l0_0 := l0_0) (a0 := a0) (a1 := a1) (by first | assumption | omega) a0 [] (IntKind.wrap .i64 (a1 - ((List.length (List.map b_sisi a0)) : Int))) rfl; rw [h1] at t; exact t)
      exact callP_ok (ps := []) (os := []) (rs := [(.one (.val (.int .i64 w0_21_0_1)))]) (by kernel_rfl) (.f (nt h0) (.f f1 (.f f2 (.h 16 (.b false) (.h 19 (.loop (h21_0 l0_0 a0 a1 0 (IntKind.wrap .i64 (a1 - ((List.length (List.map b_sisi a0)) : Int)))) (.exit 0) ⟨[(0, (.one (.bor l0_0 (List.map b_sisi a0)))), (1, (.one (.val (.int .i64 w0_21_0_1)))), (5, (.one (.val (.int .i64 w1_21_0_1)))), (15, (.one (.val (.bool w2_21_0_1))))], []⟩) .nil)))))
    | k1 =>
      try dsimp only
      have f1 : (⟨[(0, (.one (.bor l0_0 (List.map b_sisi a0)))), (1, (.one (.val (.int .i64 (IntKind.wrap .i64 (a1 - ((List.length (List.map b_sisi a0)) : Int))))))), (5, (.one (.val (.int .i64 0))))], []⟩ : St) = h21_0 l0_0 a0 a1 0 (IntKind.wrap .i64 (a1 - ((List.length (List.map b_sisi a0)) : Int))) := (by first | rfl | (unfold h21_0; simp [List.take_of_length_le, d_sisi, d_LsisiEi, d_b, d_i, d_LsisiE, fromBR_sisi, fromBR_b, fromBR_i]; done))
      have f2 : Ev F X (.code l21_0 (h21_0 l0_0 a0 a1 0 (IntKind.wrap .i64 (a1 - ((List.length (List.map b_sisi a0)) : Int)))) .ret ⟨[(4, (.one (.val (.int .i64 (-1)))))], []⟩) := (by have t : Ev F X (.code l21_0 (h21_0 l0_0 a0 a1 0 (IntKind.wrap .i64 (a1 - ((List.length (List.map b_sisi a0)) : Int)))) (ex21_0 (r21_0 a0 a0 0 (IntKind.wrap .i64 (a1 - ((List.length (List.map b_sisi a0)) : Int))))) (fin21_0 l0_0 a0 a1 (r21_0 a0 a0 0 (IntKind.wrap .i64 (a1 - ((List.length (List.map b_sisi a0)) : Int)))))) := t21_0 (l0_0 := l0_0) (a0 := a0) (a1 := a1) (by first | assumption | omega) a0 [] (IntKind.wrap .i64 (a1 - ((List.length (List.map b_sisi a0)) : Int))) rfl; rw [h1] at t; exact t)
      exact callP_ok (ps := []) (os := []) (rs := [(.one (.val (.int .i64 (-1))))]) (by kernel_rfl) (.f (nt h0) (.f f1 (.f f2 (.h 16 (.b false) (.h 19 (.loop (h21_0 l0_0 a0 a1 0 (IntKind.wrap .i64 (a1 - ((List.length (List.map b_sisi a0)) : Int)))) .ret ⟨[(4, (.one (.val (.int .i64 (-1)))))], []⟩) .nil)))))
/-! loop.example/g00539/laws.szServer -/
def m6 (a0 : K_LsisiEi) (a1 : Int) : Int :=
  if (decide ((m21 a0.f0 a1) < 0)) = true then (-1) else
  (m21 a0.f0 a1)
theorem e6 {l0_0 : Nat} {a0 : K_LsisiEi} {a1 : Int} (hy0 : List.length a0.f0 * 48 ≤ 140737488351232) : Ev F X (.call 6 [(.agg [(.bor l0_0 (List.map b_sisi a0.f0)), (.val (.int .i64 a0.f1))]), (.one (.val (.int .i64 a1)))] [] [] [(.one (.val (.int .i64 (m6 a0 a1))))]) := by
  unfold m6
  have f0 : Ev F X (.call 21 [(.one (.bor (l0_0 + 1) (List.map b_sisi a0.f0))), (.one (.val (.int .i64 a1)))] [] [] [(.one (.val (.int .i64 (m21 a0.f0 a1))))]) := (e21 (a0 := a0.f0) (a1 := a1) (by first | with_reducible assumption | omega | assumption | (simp only [List.length_map]; omega) | (simp; omega)))
  by_cases h0 : (decide ((m21 a0.f0 a1) < 0)) = true
  · try simp only [if_pos h0]
    exact callP_ok (ps := []) (os := []) (rs := [(.one (.val (.int .i64 (-1))))]) (by kernel_rfl) (.r 11 [] [] f0 (.f h0 (.h 18 (.b true) .nil)))
  · try simp only [if_neg h0]
    exact callP_ok (ps := []) (os := []) (rs := [(.one (.val (.int .i64 (m21 a0.f0 a1))))]) (by kernel_rfl) (.r 11 [] [] f0 (.f (nt h0) (.h 18 (.b false) .nil)))
/-! loop 7_0 -/
inductive O7_0 where
  | k0 (w0 : Int) (w1 : Bool)
  | k1
def r7_0 (a0 : K_LsisiEi) : List K_sisi → List K_sisi → Int → O7_0
  | x0_7_0 :: l0_7_0, x1_7_0 :: l1_7_0, i_7_0 =>
    if (!((x0_7_0.f0.toList == x1_7_0.f0.toList) && ((x0_7_0.f1 == x1_7_0.f1) && ((x0_7_0.f2.toList == x1_7_0.f2.toList) && ((x0_7_0.f3 == x1_7_0.f3) && true))))) = true then (O7_0.k1) else
    (r7_0 a0 l0_7_0 l1_7_0 (i_7_0 + 1) )
  | _, _, i_7_0 => (O7_0.k0 i_7_0 (decide (i_7_0 < ((List.length (List.map b_sisi a0.f0)) : Int))))
def h7_0 (l0_0 : Nat) (l1_0 : Nat) (a0 : K_LsisiEi) (a1 : K_LsisiEi) (i_7_0 : Int)  : St := ⟨[(2, (.ptr ⟨(2, 0, 0), [], 0, 0, 2⟩)), (3, (.ptr ⟨(3, 0, 0), [], 0, 0, 2⟩)), (5, (.one (.val (.int .i64 i_7_0))))], [((2, 0, 0), .live ⟨2, [[(.bor l0_0 (List.map b_sisi a0.f0)), (.val (.int .i64 a0.f1))]], []⟩), ((3, 0, 0), .live ⟨2, [[(.bor l1_0 (List.map b_sisi a1.f0)), (.val (.int .i64 a1.f1))]], []⟩)]⟩
def ex7_0 : O7_0 → VX.Exit
  | .k0 _ _ => (.exit 0)
  | .k1 => .ret
def fin7_0 (l0_0 : Nat) (l1_0 : Nat) (a0 : K_LsisiEi) (a1 : K_LsisiEi) : O7_0 → St
  | .k0 w0 w1 => ⟨[(2, (.ptr ⟨(2, 0, 0), [], 0, 0, 2⟩)), (3, (.ptr ⟨(3, 0, 0), [], 0, 0, 2⟩)), (5, (.one (.val (.int .i64 w0)))), (24, (.one (.val (.bool w1))))], [((2, 0, 0), .live ⟨2, [[(.bor l0_0 (List.map b_sisi a0.f0)), (.val (.int .i64 a0.f1))]], []⟩), ((3, 0, 0), .live ⟨2, [[(.bor l1_0 (List.map b_sisi a1.f0)), (.val (.int .i64 a1.f1))]], []⟩)]⟩
  | .k1 => ⟨[(4, (.one (.val (.bool false))))], []⟩
theorem t7_0 {l0_0 : Nat} {l1_0 : Nat} {a0 : K_LsisiEi} {a1 : K_LsisiEi} (hy0 : List.length a0.f0 * 48 ≤ 140737488351232) (hy1 : List.length a1.f0 * 48 ≤ 140737488351232) : ∀ (l0_7_0 : List K_sisi) (l1_7_0 : List K_sisi) (p_7_0 : List K_sisi) (p_7_0_1 : List K_sisi) , p_7_0 ++ l0_7_0 = a0.f0 → p_7_0_1 ++ l1_7_0 = a1.f0 → List.length p_7_0 = List.length p_7_0_1 → List.length l0_7_0 = List.length l1_7_0 → Ev F X (.code l7_0 (h7_0 l0_0 l1_0 a0 a1 (List.length p_7_0 : Int) ) (ex7_0 (r7_0 a0 l0_7_0 l1_7_0 (List.length p_7_0 : Int) )) (fin7_0 l0_0 l1_0 a0 a1 (r7_0 a0 l0_7_0 l1_7_0 (List.length p_7_0 : Int) )))
  | [], [], p_7_0, p_7_0_1, hp0, hp1, hq1, hl1 => by
    have hc : ¬ (decide ((List.length p_7_0 : Int) < ((List.length (List.map b_sisi a0.f0)) : Int))) = true := by
      rw [← hp0]; simp only [List.length_map, List.length_set, List.length_append, List.length_replicate, List.length_cons, List.length_nil, decide_eq_true_eq]; omega
    have st := codeH_ok (F := F) (X := X) (c := b7_0) (t := 0) (hs := [(10, .b false)]) (σ := h7_0 l0_0 l1_0 a0 a1 (List.length p_7_0 : Int) ) (σ' := ⟨[(2, (.ptr ⟨(2, 0, 0), [], 0, 0, 2⟩)), (3, (.ptr ⟨(3, 0, 0), [], 0, 0, 2⟩)), (5, (.one (.val (.int .i64 (List.length p_7_0 : Int))))), (24, (.one (.val (.bool (decide ((List.length p_7_0 : Int) < ((List.length (List.map b_sisi a0.f0)) : Int)))))))], [((2, 0, 0), .live ⟨2, [[(.bor l0_0 (List.map b_sisi a0.f0)), (.val (.int .i64 a0.f1))]], []⟩), ((3, 0, 0), .live ⟨2, [[(.bor l1_0 (List.map b_sisi a1.f0)), (.val (.int .i64 a1.f1))]], []⟩)]⟩) (e := (.exit 0)) (t' := 11) (hs' := []) (q := [(decide ((List.length p_7_0 : Int) < ((List.length (List.map b_sisi a0.f0)) : Int))) = false]) (by kernel_rfl) ⟨(nt hc), trivial⟩
    rw [show (⟨[(2, (.ptr ⟨(2, 0, 0), [], 0, 0, 2⟩)), (3, (.ptr ⟨(3, 0, 0), [], 0, 0, 2⟩)), (5, (.one (.val (.int .i64 (List.length p_7_0 : Int))))), (24, (.one (.val (.bool (decide ((List.length p_7_0 : Int) < ((List.length (List.map b_sisi a0.f0)) : Int)))))))], [((2, 0, 0), .live ⟨2, [[(.bor l0_0 (List.map b_sisi a0.f0)), (.val (.int .i64 a0.f1))]], []⟩), ((3, 0, 0), .live ⟨2, [[(.bor l1_0 (List.map b_sisi a1.f0)), (.val (.int .i64 a1.f1))]], []⟩)]⟩ : St) = fin7_0 l0_0 l1_0 a0 a1 (.k0 (List.length p_7_0 : Int) (decide ((List.length p_7_0 : Int) < ((List.length (List.map b_sisi a0.f0)) : Int)))) from by first | rfl | (unfold fin7_0; simp [List.take_of_length_le, d_sisi, d_LsisiEi, d_b, d_i, d_LsisiE, fromBR_sisi, fromBR_b, fromBR_i]; done)] at st
    exact .loopX st (show ((.exit 0) : VX.Exit) ≠ .normal from by simp)
  | x0_7_0 :: l0_7_0, x1_7_0 :: l1_7_0, p_7_0, p_7_0_1, hp0, hp1, hq1, hl1 => by
    have hc : (decide ((List.length p_7_0 : Int) < ((List.length (List.map b_sisi a0.f0)) : Int))) = true := by
      rw [← hp0]; simp only [List.length_map, List.length_set, List.length_append, List.length_replicate, List.length_cons, List.length_nil, decide_eq_true_eq]; omega
    have Hx0_7_0 : (a0.f0)[Int.toNat (List.length p_7_0 : Int)]? = some x0_7_0 := by
      rw [← hp0, Int.toNat_natCast]; simp
    have Hx1_7_0 : (a1.f0)[Int.toNat (List.length p_7_0 : Int)]? = some x1_7_0 := by
      rw [← hp1, hq1, Int.toNat_natCast]; simp
    have hlen : List.length (a0.f0) = List.length p_7_0 + List.length l0_7_0 + 1 := by rw [← hp0]; simp; omega
    have hw : IntKind.wrap .i64 ((List.length p_7_0 : Int) + 1) = (List.length p_7_0 : Int) + 1 := wrap64 (by omega)
    simp only [r7_0]
    by_cases h_7_0_1 : (!((x0_7_0.f0.toList == x1_7_0.f0.toList) && ((x0_7_0.f1 == x1_7_0.f1) && ((x0_7_0.f2.toList == x1_7_0.f2.toList) && ((x0_7_0.f3 == x1_7_0.f3) && true))))) = true
    · try simp only [if_pos h_7_0_1]
      have st := codeH_ok (F := F) (X := X) (c := b7_0) (t := 0) (hs := [(10, .b true), (18, .row [(.val (.string x0_7_0.f0)), (.val (.int .i64 x0_7_0.f1)), (.val (.string x0_7_0.f2)), (.val (.int .i64 x0_7_0.f3))]), (28, .row [(.val (.string x1_7_0.f0)), (.val (.int .i64 x1_7_0.f1)), (.val (.string x1_7_0.f2)), (.val (.int .i64 x1_7_0.f3))]), (33, .b true)]) (σ := h7_0 l0_0 l1_0 a0 a1 (List.length p_7_0 : Int) ) (σ' := ⟨[(4, (.one (.val (.bool false))))], []⟩) (e := .ret) (t' := 36) (hs' := []) (q := [(decide ((List.length p_7_0 : Int) < ((List.length (List.map b_sisi a0.f0)) : Int))) = true, 0 ≤ (List.length p_7_0 : Int), (List.map b_sisi a0.f0)[(Int.toNat (List.length p_7_0 : Int))]? = some [(.val (.string x0_7_0.f0)), (.val (.int .i64 x0_7_0.f1)), (.val (.string x0_7_0.f2)), (.val (.int .i64 x0_7_0.f3))], 0 ≤ (List.length p_7_0 : Int), (List.map b_sisi a1.f0)[(Int.toNat (List.length p_7_0 : Int))]? = some [(.val (.string x1_7_0.f0)), (.val (.int .i64 x1_7_0.f1)), (.val (.string x1_7_0.f2)), (.val (.int .i64 x1_7_0.f3))], (!((x0_7_0.f0.toList == x1_7_0.f0.toList) && ((x0_7_0.f1 == x1_7_0.f1) && ((x0_7_0.f2.toList == x1_7_0.f2.toList) && ((x0_7_0.f3 == x1_7_0.f3) && true))))) = true]) (by kernel_rfl) ⟨hc, (by first | exact True.intro | with_reducible rfl | with_reducible assumption | omega | (simp only [List.length_map, List.length_set, List.length_append, List.length_replicate, List.length_cons, List.length_nil]; omega) | (simp; omega) | (simp [List.take_of_length_le]; done) | assumption | trivial | (simp [*]; done)), (by first | (rw [List.getElem?_map, Hx0_7_0]; rfl) | (rw [Nat.zero_add, List.getElem?_map, Hx0_7_0]; rfl) | exact True.intro | with_reducible rfl | with_reducible assumption | omega | (simp only [List.length_map, List.length_set, List.length_append, List.length_replicate, List.length_cons, List.length_nil]; omega) | (simp; done) | (simp; omega) | (simp [List.take_of_length_le]; done) | (simp [← List.map_take, ← List.map_drop]; done) | assumption | trivial | (simp [*, b_sisi, d_sisi]; done)), (by first | exact True.intro | with_reducible rfl | with_reducible assumption | omega | (simp only [List.length_map, List.length_set, List.length_append, List.length_replicate, List.length_cons, List.length_nil]; omega) | (simp; omega) | (simp [List.take_of_length_le]; done) | assumption | trivial | (simp [*]; done)), (by first | (rw [List.getElem?_map, Hx1_7_0]; rfl) | (rw [Nat.zero_add, List.getElem?_map, Hx1_7_0]; rfl) | exact True.intro | with_reducible rfl | with_reducible assumption | omega | (simp only [List.length_map, List.length_set, List.length_append, List.length_replicate, List.length_cons, List.length_nil]; omega) | (simp; done) | (simp; omega) | (simp [List.take_of_length_le]; done) | (simp [← List.map_take, ← List.map_drop]; done) | assumption | trivial | (simp [*, b_sisi, d_sisi]; done)), h_7_0_1, trivial⟩
      rw [show (⟨[(4, (.one (.val (.bool false))))], []⟩ : St) = fin7_0 l0_0 l1_0 a0 a1 (.k1) from by first | rfl | (unfold fin7_0; simp [List.take_of_length_le, d_sisi, d_LsisiEi, d_b, d_i, d_LsisiE, fromBR_sisi, fromBR_b, fromBR_i]; done)] at st
      exact .loopX st (show (.ret : VX.Exit) ≠ .normal from by simp)
    · try simp only [if_neg h_7_0_1]
      have st := codeH_ok (F := F) (X := X) (c := b7_0) (t := 0) (hs := [(10, .b true), (18, .row [(.val (.string x0_7_0.f0)), (.val (.int .i64 x0_7_0.f1)), (.val (.string x0_7_0.f2)), (.val (.int .i64 x0_7_0.f3))]), (28, .row [(.val (.string x1_7_0.f0)), (.val (.int .i64 x1_7_0.f1)), (.val (.string x1_7_0.f2)), (.val (.int .i64 x1_7_0.f3))]), (33, .b false)]) (σ := h7_0 l0_0 l1_0 a0 a1 (List.length p_7_0 : Int) ) (σ' := ⟨[(2, (.ptr ⟨(2, 0, 0), [], 0, 0, 2⟩)), (3, (.ptr ⟨(3, 0, 0), [], 0, 0, 2⟩)), (5, (.one (.val (.int .i64 (IntKind.wrap .i64 ((List.length p_7_0 : Int) + 1))))))], [((2, 0, 0), .live ⟨2, [[(.bor l0_0 (List.map b_sisi a0.f0)), (.val (.int .i64 a0.f1))]], []⟩), ((3, 0, 0), .live ⟨2, [[(.bor l1_0 (List.map b_sisi a1.f0)), (.val (.int .i64 a1.f1))]], []⟩)]⟩) (e := .normal) (t' := 40) (hs' := []) (q := [(decide ((List.length p_7_0 : Int) < ((List.length (List.map b_sisi a0.f0)) : Int))) = true, 0 ≤ (List.length p_7_0 : Int), (List.map b_sisi a0.f0)[(Int.toNat (List.length p_7_0 : Int))]? = some [(.val (.string x0_7_0.f0)), (.val (.int .i64 x0_7_0.f1)), (.val (.string x0_7_0.f2)), (.val (.int .i64 x0_7_0.f3))], 0 ≤ (List.length p_7_0 : Int), (List.map b_sisi a1.f0)[(Int.toNat (List.length p_7_0 : Int))]? = some [(.val (.string x1_7_0.f0)), (.val (.int .i64 x1_7_0.f1)), (.val (.string x1_7_0.f2)), (.val (.int .i64 x1_7_0.f3))], (!((x0_7_0.f0.toList == x1_7_0.f0.toList) && ((x0_7_0.f1 == x1_7_0.f1) && ((x0_7_0.f2.toList == x1_7_0.f2.toList) && ((x0_7_0.f3 == x1_7_0.f3) && true))))) = false, True]) (by kernel_rfl) ⟨hc, (by first | exact True.intro | with_reducible rfl | with_reducible assumption | omega | (simp only [List.length_map, List.length_set, List.length_append, List.length_replicate, List.length_cons, List.length_nil]; omega) | (simp; omega) | (simp [List.take_of_length_le]; done) | assumption | trivial | (simp [*]; done)), (by first | (rw [List.getElem?_map, Hx0_7_0]; rfl) | (rw [Nat.zero_add, List.getElem?_map, Hx0_7_0]; rfl) | exact True.intro | with_reducible rfl | with_reducible assumption | omega | (simp only [List.length_map, List.length_set, List.length_append, List.length_replicate, List.length_cons, List.length_nil]; omega) | (simp; done) | (simp; omega) | (simp [List.take_of_length_le]; done) | (simp [← List.map_take, ← List.map_drop]; done) | assumption | trivial | (simp [*, b_sisi, d_sisi]; done)), (by first | exact True.intro | with_reducible rfl | with_reducible assumption | omega | (simp only [List.length_map, List.length_set, List.length_append, List.length_replicate, List.length_cons, List.length_nil]; omega) | (simp; omega) | (simp [List.take_of_length_le]; done) | assumption | trivial | (simp [*]; done)), (by first | (rw [List.getElem?_map, Hx1_7_0]; rfl) | (rw [Nat.zero_add, List.getElem?_map, Hx1_7_0]; rfl) | exact True.intro | with_reducible rfl | with_reducible assumption | omega | (simp only [List.length_map, List.length_set, List.length_append, List.length_replicate, List.length_cons, List.length_nil]; omega) | (simp; done) | (simp; omega) | (simp [List.take_of_length_le]; done) | (simp [← List.map_take, ← List.map_drop]; done) | assumption | trivial | (simp [*, b_sisi, d_sisi]; done)), (nt h_7_0_1), trivial, trivial⟩
      have ih := t7_0 (l0_0 := l0_0) (l1_0 := l1_0) (a0 := a0) (a1 := a1) hy0 hy1 l0_7_0 l1_7_0 (p_7_0 ++ [x0_7_0]) (p_7_0_1 ++ [x1_7_0])  (by rw [List.append_assoc]; exact hp0) (by rw [List.append_assoc]; exact hp1) (by simp only [List.length_map, List.length_set, List.length_append, List.length_replicate, List.length_cons, List.length_nil]; omega) (by simp only [List.length_map, List.length_set, List.length_append, List.length_replicate, List.length_cons, List.length_nil] at hl1; omega)
      rw [show ((p_7_0 ++ [x0_7_0]).length : Int) = (p_7_0.length : Int) + 1 from by simp] at ih
      rw [show (⟨[(2, (.ptr ⟨(2, 0, 0), [], 0, 0, 2⟩)), (3, (.ptr ⟨(3, 0, 0), [], 0, 0, 2⟩)), (5, (.one (.val (.int .i64 (IntKind.wrap .i64 ((List.length p_7_0 : Int) + 1))))))], [((2, 0, 0), .live ⟨2, [[(.bor l0_0 (List.map b_sisi a0.f0)), (.val (.int .i64 a0.f1))]], []⟩), ((3, 0, 0), .live ⟨2, [[(.bor l1_0 (List.map b_sisi a1.f0)), (.val (.int .i64 a1.f1))]], []⟩)]⟩ : St) = h7_0 l0_0 l1_0 a0 a1 ((List.length p_7_0 : Int) + 1)  from by first | (unfold h7_0; simp only [hw]; done) | (unfold h7_0; simp only [hw, List.length_map, List.length_set, List.length_append, List.length_replicate, List.length_cons, List.length_nil]; done) | (unfold h7_0; simp [hw, List.take_of_length_le, d_sisi, d_LsisiEi, d_b, d_i, d_LsisiE, fromBR_sisi, fromBR_b, fromBR_i]; done)] at st
      exact .loopN st ih
/-! loop.example/g00539/spec.SameServers -/
def m7 (a0 : K_LsisiEi) (a1 : K_LsisiEi) : Bool :=
  if (a0.f1 != a1.f1) = true then false else
  if (((List.length (List.map b_sisi a0.f0)) : Int) != ((List.length (List.map b_sisi a1.f0)) : Int)) = true then false else
    (match r7_0 a0 a0.f0 a1.f0 0 with | .k0 w0_7_0_9 w1_7_0_9 => true | .k1 => false)
theorem e7 {l0_0 : Nat} {a0 : K_LsisiEi} {l1_0 : Nat} {a1 : K_LsisiEi} (hy0 : List.length a0.f0 * 48 ≤ 140737488351232) (hy1 : List.length a1.f0 * 48 ≤ 140737488351232) : Ev F X (.call 7 [(.agg [(.bor l0_0 (List.map b_sisi a0.f0)), (.val (.int .i64 a0.f1))]), (.agg [(.bor l1_0 (List.map b_sisi a1.f0)), (.val (.int .i64 a1.f1))])] [] [] [(.one (.val (.bool (m7 a0 a1))))]) := by
  unfold m7
  by_cases h0 : (a0.f1 != a1.f1) = true
  · try simp only [if_pos h0]
    exact callP_ok (ps := []) (os := []) (rs := [(.one (.val (.bool false)))]) (by kernel_rfl) (.f h0 (.f h0 (.f h0 (.f h0 (.f h0 (.f h0 (.f h0 (.f h0 (.h 18 (.b true) (.h 20 (.b true) (.h 22 (.b true) (.h 24 (.b true) (.h 26 (.b true) (.h 28 (.b true) (.h 30 (.b true) (.h 33 (.b true) .nil))))))))))))))))
  · try simp only [if_neg h0]
    by_cases h1 : (((List.length (List.map b_sisi a0.f0)) : Int) != ((List.length (List.map b_sisi a1.f0)) : Int)) = true
    · try simp only [if_pos h1]
      exact callP_ok (ps := []) (os := []) (rs := [(.one (.val (.bool false)))]) (by kernel_rfl) (.f (nt h0) (.f (nt h0) (.f (nt h0) (.f (nt h0) (.f (nt h0) (.f (nt h0) (.f (nt h0) (.f (nt h0) (.f h1 (.h 18 (.b false) (.h 20 (.b false) (.h 22 (.b false) (.h 24 (.b false) (.h 26 (.b false) (.h 28 (.b false) (.h 30 (.b false) (.h 33 (.b false) (.h 34 (.b true) .nil))))))))))))))))))
    · try simp only [if_neg h1]
      cases h2 : r7_0 a0 a0.f0 a1.f0 0 with
      | k0 w0_7_0_9 w1_7_0_9 =>
        try dsimp only
        have f9 : (⟨[(2, (.ptr ⟨(2, 0, 0), [], 0, 0, 2⟩)), (3, (.ptr ⟨(3, 0, 0), [], 0, 0, 2⟩)), (5, (.one (.val (.int .i64 0))))], [((2, 0, 0), .live ⟨2, [[(.bor l0_0 (List.map b_sisi a0.f0)), (.val (.int .i64 a0.f1))]], []⟩), ((3, 0, 0), .live ⟨2, [[(.bor l1_0 (List.map b_sisi a1.f0)), (.val (.int .i64 a1.f1))]], []⟩)]⟩ : St) = h7_0 l0_0 l1_0 a0 a1 0  := (by first | rfl | (unfold h7_0; simp [List.take_of_length_le, d_sisi, d_LsisiEi, d_b, d_i, d_LsisiE, fromBR_sisi, fromBR_b, fromBR_i]; done))
        have f10 : Ev F X (.code l7_0 (h7_0 l0_0 l1_0 a0 a1 0 ) (.exit 0) ⟨[(2, (.ptr ⟨(2, 0, 0), [], 0, 0, 2⟩)), (3, (.ptr ⟨(3, 0, 0), [], 0, 0, 2⟩)), (5, (.one (.val (.int .i64 w0_7_0_9)))), (24, (.one (.val (.bool w1_7_0_9))))], [((2, 0, 0), .live ⟨2, [[(.bor l0_0 (List.map b_sisi a0.f0)), (.val (.int .i64 a0.f1))]], []⟩), ((3, 0, 0), .live ⟨2, [[(.bor l1_0 (List.map b_sisi a1.f0)), (.val (.int .i64 a1.f1))]], []⟩)]⟩) := (by have t : Ev F X (.code l7_0 (h7_0 l0_0 l1_0 a0 a1 0 ) (ex7_0 (r7_0 a0 a0.f0 a1.f0 0)) (fin7_0 l0_0 l1_0 a0 a1 (r7_0 a0 a0.f0 a1.f0 0))) := t7_0 (l0_0 := l0_0) (l1_0 := l1_0) (a0 := a0) (a1 := a1) (by first | assumption | omega) (by first | assumption | omega) a0.f0 a1.f0 [] []  rfl rfl rfl (by first | omega | (simp at *; omega)); rw [h2] at t; exact t)
        exact callP_ok (ps := []) (os := []) (rs := [(.one (.val (.bool true)))]) (by kernel_rfl) (.f (nt h0) (.f (nt h0) (.f (nt h0) (.f (nt h0) (.f (nt h0) (.f (nt h0) (.f (nt h0) (.f (nt h0) (.f (nt h1) (.f f9 (.f f10 (.h 18 (.b false) (.h 20 (.b false) (.h 22 (.b false) (.h 24 (.b false) (.h 26 (.b false) (.h 28 (.b false) (.h 30 (.b false) (.h 33 (.b false) (.h 34 (.b false) (.h 37 (.loop (h7_0 l0_0 l1_0 a0 a1 0 ) (.exit 0) ⟨[(2, (.ptr ⟨(2, 0, 0), [], 0, 0, 2⟩)), (3, (.ptr ⟨(3, 0, 0), [], 0, 0, 2⟩)), (5, (.one (.val (.int .i64 w0_7_0_9)))), (24, (.one (.val (.bool w1_7_0_9))))], [((2, 0, 0), .live ⟨2, [[(.bor l0_0 (List.map b_sisi a0.f0)), (.val (.int .i64 a0.f1))]], []⟩), ((3, 0, 0), .live ⟨2, [[(.bor l1_0 (List.map b_sisi a1.f0)), (.val (.int .i64 a1.f1))]], []⟩)]⟩) .nil)))))))))))))))))))))
      | k1 =>
        try dsimp only
        have f9 : (⟨[(2, (.ptr ⟨(2, 0, 0), [], 0, 0, 2⟩)), (3, (.ptr ⟨(3, 0, 0), [], 0, 0, 2⟩)), (5, (.one (.val (.int .i64 0))))], [((2, 0, 0), .live ⟨2, [[(.bor l0_0 (List.map b_sisi a0.f0)), (.val (.int .i64 a0.f1))]], []⟩), ((3, 0, 0), .live ⟨2, [[(.bor l1_0 (List.map b_sisi a1.f0)), (.val (.int .i64 a1.f1))]], []⟩)]⟩ : St) = h7_0 l0_0 l1_0 a0 a1 0  := (by first | rfl | (unfold h7_0; simp [List.take_of_length_le, d_sisi, d_LsisiEi, d_b, d_i, d_LsisiE, fromBR_sisi, fromBR_b, fromBR_i]; done))
        have f10 : Ev F X (.code l7_0 (h7_0 l0_0 l1_0 a0 a1 0 ) .ret ⟨[(4, (.one (.val (.bool false))))], []⟩) := (by have t : Ev F X (.code l7_0 (h7_0 l0_0 l1_0 a0 a1 0 ) (ex7_0 (r7_0 a0 a0.f0 a1.f0 0)) (fin7_0 l0_0 l1_0 a0 a1 (r7_0 a0 a0.f0 a1.f0 0))) := t7_0 (l0_0 := l0_0) (l1_0 := l1_0) (a0 := a0) (a1 := a1) (by first | assumption | omega) (by first | assumption | omega) a0.f0 a1.f0 [] []  rfl rfl rfl (by first | omega | (simp at *; omega)); rw [h2] at t; exact t)
        exact callP_ok (ps := []) (os := []) (rs := [(.one (.val (.bool false)))]) (by kernel_rfl) (.f (nt h0) (.f (nt h0) (.f (nt h0) (.f (nt h0) (.f (nt h0) (.f (nt h0) (.f (nt h0) (.f (nt h0) (.f (nt h1) (.f f9 (.f f10 (.h 18 (.b false) (.h 20 (.b false) (.h 22 (.b false) (.h 24 (.b false) (.h 26 (.b false) (.h 28 (.b false) (.h 30 (.b false) (.h 33 (.b false) (.h 34 (.b false) (.h 37 (.loop (h7_0 l0_0 l1_0 a0 a1 0 ) .ret ⟨[(4, (.one (.val (.bool false))))], []⟩) .nil)))))))))))))))))))))
theorem eqr7_0 (a0 : K_LsisiEi) : ∀ (l m : List K_sisi) (i : Int), l.length = m.length → (r7_0 a0 l m i = .k1 ∧ l ≠ m) ∨ (∃ w0 w1, r7_0 a0 l m i = .k0 w0 w1 ∧ l = m)
  | [], [], i, _ => .inr ⟨_, _, rfl, rfl⟩
  | [], _ :: _, i, h => by simp at h
  | _ :: _, [], i, h => by simp at h
  | x :: l, y :: m, i, h => by
    have ih := eqr7_0 a0 l m (i + 1) (by simpa using h)
    by_cases hxy : x = y
    · subst hxy
      have e : r7_0 a0 (x :: l) (x :: m) i = r7_0 a0 l m (i + 1) := by simp [r7_0, ba_eq]
      rw [e]
      rcases ih with ⟨h1, h2⟩ | ⟨w0, w1, h1, h2⟩
      · exact .inl ⟨h1, by simp [h2]⟩
      · exact .inr ⟨_, _, h1, by rw [h2]⟩
    · have e : r7_0 a0 (x :: l) (y :: m) i = .k1 := by
        simp only [r7_0]
        first
          | ((repeat' split) <;> simp_all [ba_eq]; done)
          | (cases x; cases y; (repeat' split) <;> simp_all [ba_eq])
      exact .inl ⟨e, by simp [hxy]⟩
open Classical in
theorem eqd7 (a b : K_LsisiEi) : m7 a b = decide (a = b) := by
  rw [Bool.eq_iff_iff, decide_eq_true_eq]
  unfold m7
  by_cases hl : List.length a.f0 = List.length b.f0
  · rcases eqr7_0 a a.f0 b.f0 0 hl with ⟨h1, h2⟩ | ⟨w0, w1, h1, h2⟩
    · simp only [h1, List.length_map, hl]
      first
        | (simp [h2, ba_eq]; done)
        | (cases a; cases b; simp_all [ba_eq]; done)
        | (cases a; cases b; (repeat' split) <;> simp_all [ba_eq])
    · simp only [h1, List.length_map, hl]
      first
        | (simp [h2, ba_eq]; done)
        | (cases a; cases b; simp_all [ba_eq]; done)
        | (cases a; cases b; (repeat' split) <;> simp_all [ba_eq])
  · have hn : a ≠ b := by rintro rfl; exact hl rfl
    simp only [List.length_map]
    first
      | (simp [hn, hl, ba_eq]; done)
      | ((repeat' split) <;> simp_all [ba_eq]; done)
      | (simp [hn]; omega)
/-! loop.example/g00539/laws.toSession -/
def m40 (a0 : K_sisi) : K_sisi :=
  a0
theorem e40 {a0 : K_sisi} : Ev F X (.call 40 [(.agg [(.val (.string a0.f0)), (.val (.int .i64 a0.f1)), (.val (.string a0.f2)), (.val (.int .i64 a0.f3))])] [] [] [(.agg [(.val (.string a0.f0)), (.val (.int .i64 a0.f1)), (.val (.string a0.f2)), (.val (.int .i64 a0.f3))])]) := by
  exact callP_ok (ps := []) (os := []) (rs := [(.agg [(.val (.string a0.f0)), (.val (.int .i64 a0.f1)), (.val (.string a0.f2)), (.val (.int .i64 a0.f3))])]) (by kernel_rfl) .nil
/-! loop 22_0 -/
inductive O22_0 where
  | k0 (w0 : List K_sisi) (w1 : Int) (w2 : Bool)
def r22_0 (a0 : (List K_sisi)) : List K_sisi → Int → List K_sisi → O22_0
  | x0_22_0 :: l0_22_0, i_22_0, v0_22_0 =>
    (r22_0 a0 l0_22_0 (i_22_0 + 1) (List.set v0_22_0 (Int.toNat i_22_0) x0_22_0))
  | [], i_22_0, v0_22_0 => (O22_0.k0 v0_22_0 i_22_0 (decide (i_22_0 < ((List.length (List.map b_sisi a0)) : Int))))
def h22_0 (l0_0 : Nat) (a0 : (List K_sisi)) (i_22_0 : Int) (v0_22_0 : List K_sisi) : St := ⟨[(0, (.one (.bor l0_0 (List.map b_sisi a0)))), (3, (.one (.ref ⟨(3, 0, 0), [], 0, (Int.toNat ((List.length (List.map b_sisi a0)) : Int))⟩))), (4, (.one (.val (.int .i64 i_22_0))))], [((3, 0, 0), .live ⟨4, (List.map d_sisi v0_22_0), []⟩)]⟩
def ex22_0 : O22_0 → VX.Exit
  | .k0 _ _ _ => (.exit 0)
def fin22_0 (l0_0 : Nat) (a0 : (List K_sisi)) : O22_0 → St
  | .k0 w0 w1 w2 => ⟨[(0, (.one (.bor l0_0 (List.map b_sisi a0)))), (3, (.one (.ref ⟨(3, 0, 0), [], 0, (Int.toNat ((List.length (List.map b_sisi a0)) : Int))⟩))), (4, (.one (.val (.int .i64 w1)))), (11, (.one (.val (.bool w2))))], [((3, 0, 0), .live ⟨4, (List.map d_sisi w0), []⟩)]⟩
theorem t22_0 {l0_0 : Nat} {a0 : (List K_sisi)} (hy0 : List.length a0 * 48 ≤ 140737488351232) : ∀ (l0_22_0 : List K_sisi) (p_22_0 : List K_sisi) (v0_22_0 : List K_sisi), p_22_0 ++ l0_22_0 = a0 → List.length v0_22_0 = (Int.toNat ((List.length (List.map b_sisi a0)) : Int)) → Ev F X (.code l22_0 (h22_0 l0_0 a0 (List.length p_22_0 : Int) v0_22_0) (ex22_0 (r22_0 a0 l0_22_0 (List.length p_22_0 : Int) v0_22_0)) (fin22_0 l0_0 a0 (r22_0 a0 l0_22_0 (List.length p_22_0 : Int) v0_22_0)))
  | [], p_22_0, v0_22_0, hp0, hi0 => by
    have hc : ¬ (decide ((List.length p_22_0 : Int) < ((List.length (List.map b_sisi a0)) : Int))) = true := by
      rw [← hp0]; simp only [List.length_map, List.length_set, List.length_append, List.length_replicate, List.length_cons, List.length_nil, decide_eq_true_eq]; omega
    have hj0 := hi0; try simp only [List.length_map, List.length_set, List.length_append, List.length_replicate, List.length_cons, List.length_nil, Int.toNat_natCast] at hj0
    have st := codeH_ok (F := F) (X := X) (c := b22_0) (t := 0) (hs := [(8, .b false)]) (σ := h22_0 l0_0 a0 (List.length p_22_0 : Int) v0_22_0) (σ' := ⟨[(0, (.one (.bor l0_0 (List.map b_sisi a0)))), (3, (.one (.ref ⟨(3, 0, 0), [], 0, (Int.toNat ((List.length (List.map b_sisi a0)) : Int))⟩))), (4, (.one (.val (.int .i64 (List.length p_22_0 : Int))))), (11, (.one (.val (.bool (decide ((List.length p_22_0 : Int) < ((List.length (List.map b_sisi a0)) : Int)))))))], [((3, 0, 0), .live ⟨4, (List.map d_sisi v0_22_0), []⟩)]⟩) (e := (.exit 0)) (t' := 9) (hs' := []) (q := [(decide ((List.length p_22_0 : Int) < ((List.length (List.map b_sisi a0)) : Int))) = false]) (by kernel_rfl) ⟨(nt hc), trivial⟩
    rw [show (⟨[(0, (.one (.bor l0_0 (List.map b_sisi a0)))), (3, (.one (.ref ⟨(3, 0, 0), [], 0, (Int.toNat ((List.length (List.map b_sisi a0)) : Int))⟩))), (4, (.one (.val (.int .i64 (List.length p_22_0 : Int))))), (11, (.one (.val (.bool (decide ((List.length p_22_0 : Int) < ((List.length (List.map b_sisi a0)) : Int)))))))], [((3, 0, 0), .live ⟨4, (List.map d_sisi v0_22_0), []⟩)]⟩ : St) = fin22_0 l0_0 a0 (.k0 v0_22_0 (List.length p_22_0 : Int) (decide ((List.length p_22_0 : Int) < ((List.length (List.map b_sisi a0)) : Int)))) from by first | rfl | (unfold fin22_0; simp [List.take_of_length_le, d_sisi, d_LsisiEi, d_b, d_i, d_LsisiE, fromBR_sisi, fromBR_b, fromBR_i]; done)] at st
    exact .loopX st (show ((.exit 0) : VX.Exit) ≠ .normal from by simp)
  | x0_22_0 :: l0_22_0, p_22_0, v0_22_0, hp0, hi0 => by
    have hc : (decide ((List.length p_22_0 : Int) < ((List.length (List.map b_sisi a0)) : Int))) = true := by
      rw [← hp0]; simp only [List.length_map, List.length_set, List.length_append, List.length_replicate, List.length_cons, List.length_nil, decide_eq_true_eq]; omega
    have Hx0_22_0 : (a0)[Int.toNat (List.length p_22_0 : Int)]? = some x0_22_0 := by
      rw [← hp0, Int.toNat_natCast]; simp
    have hlen : List.length (a0) = List.length p_22_0 + List.length l0_22_0 + 1 := by rw [← hp0]; simp; omega
    have hw : IntKind.wrap .i64 ((List.length p_22_0 : Int) + 1) = (List.length p_22_0 : Int) + 1 := wrap64 (by omega)
    have hj0 := hi0; try simp only [List.length_map, List.length_set, List.length_append, List.length_replicate, List.length_cons, List.length_nil, Int.toNat_natCast] at hj0
    obtain ⟨x1_22_0, Hx1_22_0⟩ : ∃ y, v0_22_0[Int.toNat (List.length p_22_0 : Int)]? = some y := ⟨_, List.getElem?_eq_getElem (by omega)⟩
    simp only [r22_0]
    have st := codeH_ok (F := F) (X := X) (c := b22_0) (t := 0) (hs := [(8, .b true), (18, .row [(.val (.string x0_22_0.f0)), (.val (.int .i64 x0_22_0.f1)), (.val (.string x0_22_0.f2)), (.val (.int .i64 x0_22_0.f3))]), (22, .ret [] [(.agg [(.val (.string x0_22_0.f0)), (.val (.int .i64 x0_22_0.f1)), (.val (.string x0_22_0.f2)), (.val (.int .i64 x0_22_0.f3))])] [] []), (26, .rowD [(.val (.string x1_22_0.f0)), (.val (.int .i64 x1_22_0.f1)), (.val (.string x1_22_0.f2)), (.val (.int .i64 x1_22_0.f3))]), (27, .norm (3, 0, 0) (List.map d_sisi (List.set v0_22_0 (Int.toNat (List.length p_22_0 : Int)) x0_22_0)))]) (σ := h22_0 l0_0 a0 (List.length p_22_0 : Int) v0_22_0) (σ' := ⟨[(0, (.one (.bor l0_0 (List.map b_sisi a0)))), (3, (.one (.ref ⟨(3, 0, 0), [], 0, (Int.toNat ((List.length (List.map b_sisi a0)) : Int))⟩))), (4, (.one (.val (.int .i64 (IntKind.wrap .i64 ((List.length p_22_0 : Int) + 1))))))], [((3, 0, 0), .live ⟨4, (List.map d_sisi (List.set v0_22_0 (Int.toNat (List.length p_22_0 : Int)) x0_22_0)), []⟩)]⟩) (e := .normal) (t' := 34) (hs' := []) (q := [(decide ((List.length p_22_0 : Int) < ((List.length (List.map b_sisi a0)) : Int))) = true, 0 ≤ (List.length p_22_0 : Int), (List.map b_sisi a0)[(Int.toNat (List.length p_22_0 : Int))]? = some [(.val (.string x0_22_0.f0)), (.val (.int .i64 x0_22_0.f1)), (.val (.string x0_22_0.f2)), (.val (.int .i64 x0_22_0.f3))], Ev F X (.call 40 [(.agg [(.val (.string x0_22_0.f0)), (.val (.int .i64 x0_22_0.f1)), (.val (.string x0_22_0.f2)), (.val (.int .i64 x0_22_0.f3))])] [] [] [(.agg [(.val (.string x0_22_0.f0)), (.val (.int .i64 x0_22_0.f1)), (.val (.string x0_22_0.f2)), (.val (.int .i64 x0_22_0.f3))])]), 0 + (Int.toNat ((List.length (List.map b_sisi a0)) : Int)) ≤ (List.length (List.map d_sisi v0_22_0)), 0 ≤ (List.length p_22_0 : Int) ∧ (List.length p_22_0 : Int) < ((Int.toNat ((List.length (List.map b_sisi a0)) : Int)) : Int), (List.map d_sisi v0_22_0)[(0 + (Int.toNat (List.length p_22_0 : Int)))]? = some [(.val (.string x1_22_0.f0)), (.val (.int .i64 x1_22_0.f1)), (.val (.string x1_22_0.f2)), (.val (.int .i64 x1_22_0.f3))], (List.set (List.map d_sisi v0_22_0) (0 + (Int.toNat (List.length p_22_0 : Int))) [(.val (.string x0_22_0.f0)), (.val (.int .i64 x0_22_0.f1)), (.val (.string x0_22_0.f2)), (.val (.int .i64 x0_22_0.f3))]) = (List.map d_sisi (List.set v0_22_0 (Int.toNat (List.length p_22_0 : Int)) x0_22_0)), True]) (by kernel_rfl) ⟨hc, (by first | exact True.intro | with_reducible rfl | with_reducible assumption | omega | (simp only [List.length_map, List.length_set, List.length_append, List.length_replicate, List.length_cons, List.length_nil]; omega) | (simp; omega) | (simp [List.take_of_length_le]; done) | assumption | trivial | (simp [*]; done)), (by first | (rw [List.getElem?_map, Hx0_22_0]; rfl) | (rw [Nat.zero_add, List.getElem?_map, Hx0_22_0]; rfl) | exact True.intro | with_reducible rfl | with_reducible assumption | omega | (simp only [List.length_map, List.length_set, List.length_append, List.length_replicate, List.length_cons, List.length_nil]; omega) | (simp; done) | (simp; omega) | (simp [List.take_of_length_le]; done) | (simp [← List.map_take, ← List.map_drop]; done) | assumption | trivial | (simp [*, b_sisi, d_sisi]; done)), (e40 (a0 := x0_22_0)), (by first | exact True.intro | with_reducible rfl | with_reducible assumption | omega | (simp only [List.length_map]; omega) | (simp; omega) | (simp [List.take_of_length_le]; done) | assumption | trivial | (simp [*, b_sisi, d_sisi]; done)), (by first | exact True.intro | with_reducible rfl | with_reducible assumption | omega | (simp only [List.length_map]; omega) | (simp; omega) | (simp [List.take_of_length_le]; done) | assumption | trivial | (simp [*, b_sisi, d_sisi]; done)), (by first | (rw [List.getElem?_map, Hx1_22_0]; rfl) | (rw [Nat.zero_add, List.getElem?_map, Hx1_22_0]; rfl) | exact True.intro | with_reducible rfl | with_reducible assumption | omega | (simp only [List.length_map, List.length_set, List.length_append, List.length_replicate, List.length_cons, List.length_nil]; omega) | (simp; done) | (simp; omega) | (simp [List.take_of_length_le]; done) | (simp [← List.map_take, ← List.map_drop]; done) | assumption | trivial | (simp [*, b_sisi, d_sisi]; done)), (by first | rfl | (simp [List.take_of_length_le, d_sisi, d_LsisiEi, d_b, d_i, d_LsisiE, fromBR_sisi, fromBR_b, fromBR_i]; done) | (simp [List.map_set, List.map_take, List.map_drop, List.take_of_length_le, d_sisi, d_LsisiEi, d_b, d_i, d_LsisiE, fromBR_sisi, fromBR_b, fromBR_i]; done)), trivial, trivial⟩
    have ih := t22_0 (l0_0 := l0_0) (a0 := a0) hy0 l0_22_0 (p_22_0 ++ [x0_22_0]) (List.set v0_22_0 (Int.toNat (List.length p_22_0 : Int)) x0_22_0) (by rw [List.append_assoc]; exact hp0) (by first | omega | (simp only [List.length_map, List.length_set, List.length_append, List.length_replicate, List.length_cons, List.length_nil]; omega) | (simp only [List.length_map, List.length_set, List.length_append, List.length_replicate, List.length_cons, List.length_nil]; assumption) | assumption | (simp only [List.length_map, List.length_set, List.length_append, List.length_replicate, List.length_cons, List.length_nil] at *; omega))
    rw [show ((p_22_0 ++ [x0_22_0]).length : Int) = (p_22_0.length : Int) + 1 from by simp] at ih
    rw [show (⟨[(0, (.one (.bor l0_0 (List.map b_sisi a0)))), (3, (.one (.ref ⟨(3, 0, 0), [], 0, (Int.toNat ((List.length (List.map b_sisi a0)) : Int))⟩))), (4, (.one (.val (.int .i64 (IntKind.wrap .i64 ((List.length p_22_0 : Int) + 1))))))], [((3, 0, 0), .live ⟨4, (List.map d_sisi (List.set v0_22_0 (Int.toNat (List.length p_22_0 : Int)) x0_22_0)), []⟩)]⟩ : St) = h22_0 l0_0 a0 ((List.length p_22_0 : Int) + 1) (List.set v0_22_0 (Int.toNat (List.length p_22_0 : Int)) x0_22_0) from by first | (unfold h22_0; simp only [hw]; done) | (unfold h22_0; simp only [hw, List.length_map, List.length_set, List.length_append, List.length_replicate, List.length_cons, List.length_nil]; done) | (unfold h22_0; simp [hw, List.take_of_length_le, d_sisi, d_LsisiEi, d_b, d_i, d_LsisiE, fromBR_sisi, fromBR_b, fromBR_i]; done)] at st
    exact .loopN st ih
def post22_0 (n : Nat) : O22_0 → Prop
  | .k0 w0 _ _ => List.length w0 = n
theorem z22_0 {a0 : (List K_sisi)} : ∀ (l0_22_0 : List K_sisi) (i_22_0 : Int) (v0_22_0 : List K_sisi), post22_0 (List.length v0_22_0) (r22_0 a0 l0_22_0 i_22_0 v0_22_0)
  | [], i_22_0, v0_22_0 => by
    first | rfl | trivial | (simp only [post22_0]; done) | (simp [post22_0]; done)
  | x0_22_0 :: l0_22_0, i_22_0, v0_22_0 => by
    simp only [r22_0]
    have z := z22_0 (a0 := a0) l0_22_0 (i_22_0 + 1) (List.set v0_22_0 (Int.toNat i_22_0) x0_22_0)
    try simp only [List.length_set] at z
    exact z
/-! loop.example/g00539/laws.toSessionS -/
def m22 (a0 : (List K_sisi)) : (List K_sisi) :=
  (match r22_0 a0 a0 0 (List.replicate (Int.toNat ((List.length (List.map b_sisi a0)) : Int)) (K_sisi.mk (⟨#[]⟩ : ByteArray) 0 (⟨#[]⟩ : ByteArray) 0)) with | .k0 w0_22_0_1 w1_22_0_1 w2_22_0_1 => w0_22_0_1)
theorem e22 {l0_0 : Nat} {a0 : (List K_sisi)} (hy0 : List.length a0 * 48 ≤ 140737488351232) : Ev F X (.call 22 [(.one (.bor l0_0 (List.map b_sisi a0)))] [] [] [(.one (.own 4 (List.map d_sisi (m22 a0))))]) := by
  unfold m22
  have f0 : 0 ≤ ((List.length (List.map b_sisi a0)) : Int) ∧ ((List.length (List.map b_sisi a0)) : Int) ≤ ((List.length (List.map b_sisi a0)) : Int) ∧ ((List.length (List.map b_sisi a0)) : Int) ≤ 140737488355328 ∧ ((List.length (List.map b_sisi a0)) : Int) * 48 ≤ 140737488355328 := (by first | exact True.intro | with_reducible rfl | with_reducible assumption | omega | (simp only [List.length_map]; omega) | (simp; omega) | (simp [List.take_of_length_le]; done) | assumption | trivial | (simp [*, b_sisi, d_sisi]; done))
  have f1 : (List.replicate (Int.toNat ((List.length (List.map b_sisi a0)) : Int)) [(.val (.string (⟨#[]⟩ : ByteArray))), (.val (.int .i64 0)), (.val (.string (⟨#[]⟩ : ByteArray))), (.val (.int .i64 0))]) = (List.map d_sisi (List.replicate (Int.toNat ((List.length (List.map b_sisi a0)) : Int)) (K_sisi.mk (⟨#[]⟩ : ByteArray) 0 (⟨#[]⟩ : ByteArray) 0))) := (by first | rfl | (simp [List.take_of_length_le, d_sisi, d_LsisiEi, d_b, d_i, d_LsisiE, fromBR_sisi, fromBR_b, fromBR_i]; done) | (simp [List.map_set, List.map_take, List.map_drop, List.take_of_length_le, d_sisi, d_LsisiEi, d_b, d_i, d_LsisiE, fromBR_sisi, fromBR_b, fromBR_i]; done))
  cases h0 : r22_0 a0 a0 0 (List.replicate (Int.toNat ((List.length (List.map b_sisi a0)) : Int)) (K_sisi.mk (⟨#[]⟩ : ByteArray) 0 (⟨#[]⟩ : ByteArray) 0)) with
  | k0 w0_22_0_1 w1_22_0_1 w2_22_0_1 =>
    try dsimp only
    have zh0 := z22_0 (a0 := a0) a0 0 (List.replicate (Int.toNat ((List.length (List.map b_sisi a0)) : Int)) (K_sisi.mk (⟨#[]⟩ : ByteArray) 0 (⟨#[]⟩ : ByteArray) 0)); rw [h0] at zh0; simp only [post22_0, List.length_map, List.length_set, List.length_append, List.length_replicate, List.length_cons, List.length_nil, Int.toNat_natCast] at zh0
    have f2 : (⟨[(0, (.one (.bor l0_0 (List.map b_sisi a0)))), (3, (.one (.ref ⟨(3, 0, 0), [], 0, (Int.toNat ((List.length (List.map b_sisi a0)) : Int))⟩))), (4, (.one (.val (.int .i64 0))))], [((3, 0, 0), .live ⟨4, (List.map d_sisi (List.replicate (Int.toNat ((List.length (List.map b_sisi a0)) : Int)) (K_sisi.mk (⟨#[]⟩ : ByteArray) 0 (⟨#[]⟩ : ByteArray) 0))), []⟩)]⟩ : St) = h22_0 l0_0 a0 0 (List.replicate (Int.toNat ((List.length (List.map b_sisi a0)) : Int)) (K_sisi.mk (⟨#[]⟩ : ByteArray) 0 (⟨#[]⟩ : ByteArray) 0)) := (by first | rfl | (unfold h22_0; simp [List.take_of_length_le, d_sisi, d_LsisiEi, d_b, d_i, d_LsisiE, fromBR_sisi, fromBR_b, fromBR_i]; done))
    have f3 : Ev F X (.code l22_0 (h22_0 l0_0 a0 0 (List.replicate (Int.toNat ((List.length (List.map b_sisi a0)) : Int)) (K_sisi.mk (⟨#[]⟩ : ByteArray) 0 (⟨#[]⟩ : ByteArray) 0))) (.exit 0) ⟨[(0, (.one (.bor l0_0 (List.map b_sisi a0)))), (3, (.one (.ref ⟨(3, 0, 0), [], 0, (Int.toNat ((List.length (List.map b_sisi a0)) : Int))⟩))), (4, (.one (.val (.int .i64 w1_22_0_1)))), (11, (.one (.val (.bool w2_22_0_1))))], [((3, 0, 0), .live ⟨4, (List.map d_sisi w0_22_0_1), []⟩)]⟩) := (by have t : Ev F X (.code l22_0 (h22_0 l0_0 a0 0 (List.replicate (Int.toNat ((List.length (List.map b_sisi a0)) : Int)) (K_sisi.mk (⟨#[]⟩ : ByteArray) 0 (⟨#[]⟩ : ByteArray) 0))) (ex22_0 (r22_0 a0 a0 0 (List.replicate (Int.toNat ((List.length (List.map b_sisi a0)) : Int)) (K_sisi.mk (⟨#[]⟩ : ByteArray) 0 (⟨#[]⟩ : ByteArray) 0)))) (fin22_0 l0_0 a0 (r22_0 a0 a0 0 (List.replicate (Int.toNat ((List.length (List.map b_sisi a0)) : Int)) (K_sisi.mk (⟨#[]⟩ : ByteArray) 0 (⟨#[]⟩ : ByteArray) 0))))) := t22_0 (l0_0 := l0_0) (a0 := a0) (by first | assumption | omega) a0 [] (List.replicate (Int.toNat ((List.length (List.map b_sisi a0)) : Int)) (K_sisi.mk (⟨#[]⟩ : ByteArray) 0 (⟨#[]⟩ : ByteArray) 0)) rfl (by first | rfl | omega | (simp only [List.length_map, List.length_set, List.length_append, List.length_replicate, List.length_cons, List.length_nil]; done) | (simp only [List.length_map, List.length_set, List.length_append, List.length_replicate, List.length_cons, List.length_nil]; omega) | (simp; done)); rw [h0] at t; exact t)
    have f4 : 0 = 0 := rfl
    have f5 : (Int.toNat ((List.length (List.map b_sisi a0)) : Int)) = (List.length (List.map d_sisi w0_22_0_1)) := (by first | exact True.intro | with_reducible rfl | with_reducible assumption | omega | (simp only [List.length_map]; omega) | (simp; done) | (simp; omega) | (simp [List.take_of_length_le]; done) | (simp [← List.map_take, ← List.map_drop]; done) | assumption | trivial | (simp [*, b_sisi, d_sisi]; done))
    have f6 : pureR (List.map d_sisi w0_22_0_1) = true := (pureR_sisi _)
    exact callP_ok (ps := []) (os := []) (rs := [(.one (.own 4 (List.map d_sisi w0_22_0_1)))]) (by kernel_rfl) (.f f0 (.f f1 (.f f2 (.f f3 (.f f4 (.f f5 (.f f6 (.h 10 (.norm (3, 0, 0) (List.map d_sisi (List.replicate (Int.toNat ((List.length (List.map b_sisi a0)) : Int)) (K_sisi.mk (⟨#[]⟩ : ByteArray) 0 (⟨#[]⟩ : ByteArray) 0)))) (.h 13 (.loop (h22_0 l0_0 a0 0 (List.replicate (Int.toNat ((List.length (List.map b_sisi a0)) : Int)) (K_sisi.mk (⟨#[]⟩ : ByteArray) 0 (⟨#[]⟩ : ByteArray) 0))) (.exit 0) ⟨[(0, (.one (.bor l0_0 (List.map b_sisi a0)))), (3, (.one (.ref ⟨(3, 0, 0), [], 0, (Int.toNat ((List.length (List.map b_sisi a0)) : Int))⟩))), (4, (.one (.val (.int .i64 w1_22_0_1)))), (11, (.one (.val (.bool w2_22_0_1))))], [((3, 0, 0), .live ⟨4, (List.map d_sisi w0_22_0_1), []⟩)]⟩) .nil)))))))))
theorem c22_0 (a0 : List K_sisi) : ∀ (l p q : List K_sisi), q.length = l.length → ∃ w1 w2, r22_0 a0 l (p.length : Int) (p ++ q) = .k0 (p ++ l) w1 w2
  | [], p, [], _ => ⟨_, _, rfl⟩
  | [], _, _ :: _, h => by simp at h
  | _ :: _, _, [], h => by simp at h
  | x :: l, p, y :: q, h => by
    have ih := c22_0 a0 l (p ++ [x]) q (by simpa using h)
    have e : List.set (p ++ y :: q) (Int.toNat (p.length : Int)) x = (p ++ [x]) ++ q := by simp
    have e2 : ((p ++ [x]).length : Int) = (p.length : Int) + 1 := by simp
    rw [e2] at ih
    simp only [r22_0]
    rw [show p ++ x :: l = (p ++ [x]) ++ l by simp]
    first | (rw [e]; exact ih) | (simp only [e]; exact ih)
theorem q22 (a0 : (List K_sisi)) (hy0 : List.length a0 * 48 ≤ 140737488351232) : (m22 a0) = a0 := by
  have h := c22_0 a0 a0 [] (List.replicate (Int.toNat ((List.length (List.map b_sisi a0)) : Int)) (K_sisi.mk (⟨#[]⟩ : ByteArray) 0 (⟨#[]⟩ : ByteArray) 0)) (by simp)
  unfold m22
  simp only [List.nil_append, List.length_nil] at h
  obtain ⟨_, _, h⟩ := h
  rw [show ((0 : Nat) : Int) = 0 from rfl] at h
  rw [h]
theorem g22 {l0_0 : Nat} {a0 : (List K_sisi)} (hy0 : List.length a0 * 48 ≤ 140737488351232) : Ev F X (.call 22 [(.one (.bor l0_0 (List.map b_sisi a0)))] [] [] [(.one (.own 4 (List.map d_sisi a0)))]) := by
  have t := e22 (l0_0 := l0_0) (a0 := a0) hy0
  rw [q22 a0 hy0] at t
  exact t
/-! loop.example/g00539/laws.toServer -/
def m8 (a0 : K_LsisiEi) : K_LsisiEi :=
  a0
theorem e8 {l0_0 : Nat} {a0 : K_LsisiEi} (hy0 : List.length a0.f0 * 48 ≤ 140737488351232) : Ev F X (.call 8 [(.agg [(.bor l0_0 (List.map b_sisi a0.f0)), (.val (.int .i64 a0.f1))])] [] [] [(.agg [(.own 4 (List.map d_sisi a0.f0)), (.val (.int .i64 a0.f1))])]) := by
  have f0 : Ev F X (.call 22 [(.one (.bor (l0_0 + 1) (List.map b_sisi a0.f0)))] [] [] [(.one (.own 4 (List.map d_sisi a0.f0)))]) := (g22 (a0 := a0.f0) (by first | with_reducible assumption | omega | assumption | (simp only [List.length_map]; omega) | (simp; omega)))
  have f1 : 0 = 0 := rfl
  have f2 : (List.length (List.map d_sisi a0.f0)) = (List.length (List.map d_sisi a0.f0)) := rfl
  have f3 : 0 = 0 := rfl
  have f4 : (List.length (List.map d_sisi a0.f0)) = (List.length (List.map d_sisi a0.f0)) := rfl
  have f5 : pureR (List.map d_sisi a0.f0) = true := (pureR_sisi _)
  exact callP_ok (ps := []) (os := []) (rs := [(.agg [(.own 4 (List.map d_sisi a0.f0)), (.val (.int .i64 a0.f1))])]) (by kernel_rfl) (.r 11 [] [] f0 (.f f1 (.f f2 (.f f3 (.f f4 (.f f5 .nil))))))
/-! loop 23_0 -/
inductive O23_0 where
  | k0 (w0 : Int) (w1 : Bool)
  | k1
def r23_0 (a0 : (List K_sisi)) : List K_sisi → List K_sisi → Int → O23_0
  | x0_23_0 :: l0_23_0, x1_23_0 :: l1_23_0, i_23_0 =>
    if (!((x0_23_0.f0.toList == x1_23_0.f0.toList) && ((x0_23_0.f1 == x1_23_0.f1) && ((x0_23_0.f2.toList == x1_23_0.f2.toList) && ((x0_23_0.f3 == x1_23_0.f3) && true))))) = true then (O23_0.k1) else
    (r23_0 a0 l0_23_0 l1_23_0 (i_23_0 + 1) )
  | _, _, i_23_0 => (O23_0.k0 i_23_0 (decide (i_23_0 < ((List.length (List.map b_sisi a0)) : Int))))
def h23_0 (l0_0 : Nat) (l1_0 : Nat) (a0 : (List K_sisi)) (a1 : (List K_sisi)) (i_23_0 : Int)  : St := ⟨[(0, (.one (.bor l0_0 (List.map b_sisi a0)))), (1, (.one (.bor l1_0 (List.map b_sisi a1)))), (12, (.one (.val (.int .i64 ((List.length (List.map b_sisi a0)) : Int))))), (13, (.one (.val (.int .i64 i_23_0))))], []⟩
def ex23_0 : O23_0 → VX.Exit
  | .k0 _ _ => (.exit 0)
  | .k1 => .ret
def fin23_0 (l0_0 : Nat) (l1_0 : Nat) (a0 : (List K_sisi)) (a1 : (List K_sisi)) : O23_0 → St
  | .k0 w0 w1 => ⟨[(0, (.one (.bor l0_0 (List.map b_sisi a0)))), (1, (.one (.bor l1_0 (List.map b_sisi a1)))), (12, (.one (.val (.int .i64 ((List.length (List.map b_sisi a0)) : Int))))), (13, (.one (.val (.int .i64 w0)))), (14, (.one (.val (.bool w1))))], []⟩
  | .k1 => ⟨[(4, (.one (.val (.bool false))))], []⟩
theorem t23_0 {l0_0 : Nat} {l1_0 : Nat} {a0 : (List K_sisi)} {a1 : (List K_sisi)} (hy0 : List.length a0 * 48 ≤ 140737488351232) (hy1 : List.length a1 * 48 ≤ 140737488351232) : ∀ (l0_23_0 : List K_sisi) (l1_23_0 : List K_sisi) (p_23_0 : List K_sisi) (p_23_0_1 : List K_sisi) , p_23_0 ++ l0_23_0 = a0 → p_23_0_1 ++ l1_23_0 = a1 → List.length p_23_0 = List.length p_23_0_1 → List.length l0_23_0 = List.length l1_23_0 → Ev F X (.code l23_0 (h23_0 l0_0 l1_0 a0 a1 (List.length p_23_0 : Int) ) (ex23_0 (r23_0 a0 l0_23_0 l1_23_0 (List.length p_23_0 : Int) )) (fin23_0 l0_0 l1_0 a0 a1 (r23_0 a0 l0_23_0 l1_23_0 (List.length p_23_0 : Int) )))
  | [], [], p_23_0, p_23_0_1, hp0, hp1, hq1, hl1 => by
    have hc : ¬ (decide ((List.length p_23_0 : Int) < ((List.length (List.map b_sisi a0)) : Int))) = true := by
      rw [← hp0]; simp only [List.length_map, List.length_set, List.length_append, List.length_replicate, List.length_cons, List.length_nil, decide_eq_true_eq]; omega
    have st := codeH_ok (F := F) (X := X) (c := b23_0) (t := 0) (hs := [(2, .b false)]) (σ := h23_0 l0_0 l1_0 a0 a1 (List.length p_23_0 : Int) ) (σ' := ⟨[(0, (.one (.bor l0_0 (List.map b_sisi a0)))), (1, (.one (.bor l1_0 (List.map b_sisi a1)))), (12, (.one (.val (.int .i64 ((List.length (List.map b_sisi a0)) : Int))))), (13, (.one (.val (.int .i64 (List.length p_23_0 : Int))))), (14, (.one (.val (.bool (decide ((List.length p_23_0 : Int) < ((List.length (List.map b_sisi a0)) : Int)))))))], []⟩) (e := (.exit 0)) (t' := 3) (hs' := []) (q := [(decide ((List.length p_23_0 : Int) < ((List.length (List.map b_sisi a0)) : Int))) = false]) (by kernel_rfl) ⟨(nt hc), trivial⟩
    rw [show (⟨[(0, (.one (.bor l0_0 (List.map b_sisi a0)))), (1, (.one (.bor l1_0 (List.map b_sisi a1)))), (12, (.one (.val (.int .i64 ((List.length (List.map b_sisi a0)) : Int))))), (13, (.one (.val (.int .i64 (List.length p_23_0 : Int))))), (14, (.one (.val (.bool (decide ((List.length p_23_0 : Int) < ((List.length (List.map b_sisi a0)) : Int)))))))], []⟩ : St) = fin23_0 l0_0 l1_0 a0 a1 (.k0 (List.length p_23_0 : Int) (decide ((List.length p_23_0 : Int) < ((List.length (List.map b_sisi a0)) : Int)))) from by first | rfl | (unfold fin23_0; simp [List.take_of_length_le, d_sisi, d_LsisiEi, d_b, d_i, d_LsisiE, fromBR_sisi, fromBR_b, fromBR_i]; done)] at st
    exact .loopX st (show ((.exit 0) : VX.Exit) ≠ .normal from by simp)
  | x0_23_0 :: l0_23_0, x1_23_0 :: l1_23_0, p_23_0, p_23_0_1, hp0, hp1, hq1, hl1 => by
    have hc : (decide ((List.length p_23_0 : Int) < ((List.length (List.map b_sisi a0)) : Int))) = true := by
      rw [← hp0]; simp only [List.length_map, List.length_set, List.length_append, List.length_replicate, List.length_cons, List.length_nil, decide_eq_true_eq]; omega
    have Hx0_23_0 : (a0)[Int.toNat (List.length p_23_0 : Int)]? = some x0_23_0 := by
      rw [← hp0, Int.toNat_natCast]; simp
    have Hx1_23_0 : (a1)[Int.toNat (List.length p_23_0 : Int)]? = some x1_23_0 := by
      rw [← hp1, hq1, Int.toNat_natCast]; simp
    have hlen : List.length (a0) = List.length p_23_0 + List.length l0_23_0 + 1 := by rw [← hp0]; simp; omega
    have hw : IntKind.wrap .i64 ((List.length p_23_0 : Int) + 1) = (List.length p_23_0 : Int) + 1 := wrap64 (by omega)
    simp only [r23_0]
    by_cases h_23_0_1 : (!((x0_23_0.f0.toList == x1_23_0.f0.toList) && ((x0_23_0.f1 == x1_23_0.f1) && ((x0_23_0.f2.toList == x1_23_0.f2.toList) && ((x0_23_0.f3 == x1_23_0.f3) && true))))) = true
    · try simp only [if_pos h_23_0_1]
      have st := codeH_ok (F := F) (X := X) (c := b23_0) (t := 0) (hs := [(2, .b true), (12, .row [(.val (.string x0_23_0.f0)), (.val (.int .i64 x0_23_0.f1)), (.val (.string x0_23_0.f2)), (.val (.int .i64 x0_23_0.f3))]), (20, .row [(.val (.string x1_23_0.f0)), (.val (.int .i64 x1_23_0.f1)), (.val (.string x1_23_0.f2)), (.val (.int .i64 x1_23_0.f3))]), (25, .b true)]) (σ := h23_0 l0_0 l1_0 a0 a1 (List.length p_23_0 : Int) ) (σ' := ⟨[(4, (.one (.val (.bool false))))], []⟩) (e := .ret) (t' := 28) (hs' := []) (q := [(decide ((List.length p_23_0 : Int) < ((List.length (List.map b_sisi a0)) : Int))) = true, 0 ≤ (List.length p_23_0 : Int), (List.map b_sisi a0)[(Int.toNat (List.length p_23_0 : Int))]? = some [(.val (.string x0_23_0.f0)), (.val (.int .i64 x0_23_0.f1)), (.val (.string x0_23_0.f2)), (.val (.int .i64 x0_23_0.f3))], 0 ≤ (List.length p_23_0 : Int), (List.map b_sisi a1)[(Int.toNat (List.length p_23_0 : Int))]? = some [(.val (.string x1_23_0.f0)), (.val (.int .i64 x1_23_0.f1)), (.val (.string x1_23_0.f2)), (.val (.int .i64 x1_23_0.f3))], (!((x0_23_0.f0.toList == x1_23_0.f0.toList) && ((x0_23_0.f1 == x1_23_0.f1) && ((x0_23_0.f2.toList == x1_23_0.f2.toList) && ((x0_23_0.f3 == x1_23_0.f3) && true))))) = true]) (by kernel_rfl) ⟨hc, (by first | exact True.intro | with_reducible rfl | with_reducible assumption | omega | (simp only [List.length_map, List.length_set, List.length_append, List.length_replicate, List.length_cons, List.length_nil]; omega) | (simp; omega) | (simp [List.take_of_length_le]; done) | assumption | trivial | (simp [*]; done)), (by first | (rw [List.getElem?_map, Hx0_23_0]; rfl) | (rw [Nat.zero_add, List.getElem?_map, Hx0_23_0]; rfl) | exact True.intro | with_reducible rfl | with_reducible assumption | omega | (simp only [List.length_map, List.length_set, List.length_append, List.length_replicate, List.length_cons, List.length_nil]; omega) | (simp; done) | (simp; omega) | (simp [List.take_of_length_le]; done) | (simp [← List.map_take, ← List.map_drop]; done) | assumption | trivial | (simp [*, b_sisi, d_sisi]; done)), (by first | exact True.intro | with_reducible rfl | with_reducible assumption | omega | (simp only [List.length_map, List.length_set, List.length_append, List.length_replicate, List.length_cons, List.length_nil]; omega) | (simp; omega) | (simp [List.take_of_length_le]; done) | assumption | trivial | (simp [*]; done)), (by first | (rw [List.getElem?_map, Hx1_23_0]; rfl) | (rw [Nat.zero_add, List.getElem?_map, Hx1_23_0]; rfl) | exact True.intro | with_reducible rfl | with_reducible assumption | omega | (simp only [List.length_map, List.length_set, List.length_append, List.length_replicate, List.length_cons, List.length_nil]; omega) | (simp; done) | (simp; omega) | (simp [List.take_of_length_le]; done) | (simp [← List.map_take, ← List.map_drop]; done) | assumption | trivial | (simp [*, b_sisi, d_sisi]; done)), h_23_0_1, trivial⟩
      rw [show (⟨[(4, (.one (.val (.bool false))))], []⟩ : St) = fin23_0 l0_0 l1_0 a0 a1 (.k1) from by first | rfl | (unfold fin23_0; simp [List.take_of_length_le, d_sisi, d_LsisiEi, d_b, d_i, d_LsisiE, fromBR_sisi, fromBR_b, fromBR_i]; done)] at st
      exact .loopX st (show (.ret : VX.Exit) ≠ .normal from by simp)
    · try simp only [if_neg h_23_0_1]
      have st := codeH_ok (F := F) (X := X) (c := b23_0) (t := 0) (hs := [(2, .b true), (12, .row [(.val (.string x0_23_0.f0)), (.val (.int .i64 x0_23_0.f1)), (.val (.string x0_23_0.f2)), (.val (.int .i64 x0_23_0.f3))]), (20, .row [(.val (.string x1_23_0.f0)), (.val (.int .i64 x1_23_0.f1)), (.val (.string x1_23_0.f2)), (.val (.int .i64 x1_23_0.f3))]), (25, .b false)]) (σ := h23_0 l0_0 l1_0 a0 a1 (List.length p_23_0 : Int) ) (σ' := ⟨[(0, (.one (.bor l0_0 (List.map b_sisi a0)))), (1, (.one (.bor l1_0 (List.map b_sisi a1)))), (12, (.one (.val (.int .i64 ((List.length (List.map b_sisi a0)) : Int))))), (13, (.one (.val (.int .i64 (IntKind.wrap .i64 ((List.length p_23_0 : Int) + 1))))))], []⟩) (e := .normal) (t' := 30) (hs' := []) (q := [(decide ((List.length p_23_0 : Int) < ((List.length (List.map b_sisi a0)) : Int))) = true, 0 ≤ (List.length p_23_0 : Int), (List.map b_sisi a0)[(Int.toNat (List.length p_23_0 : Int))]? = some [(.val (.string x0_23_0.f0)), (.val (.int .i64 x0_23_0.f1)), (.val (.string x0_23_0.f2)), (.val (.int .i64 x0_23_0.f3))], 0 ≤ (List.length p_23_0 : Int), (List.map b_sisi a1)[(Int.toNat (List.length p_23_0 : Int))]? = some [(.val (.string x1_23_0.f0)), (.val (.int .i64 x1_23_0.f1)), (.val (.string x1_23_0.f2)), (.val (.int .i64 x1_23_0.f3))], (!((x0_23_0.f0.toList == x1_23_0.f0.toList) && ((x0_23_0.f1 == x1_23_0.f1) && ((x0_23_0.f2.toList == x1_23_0.f2.toList) && ((x0_23_0.f3 == x1_23_0.f3) && true))))) = false, True]) (by kernel_rfl) ⟨hc, (by first | exact True.intro | with_reducible rfl | with_reducible assumption | omega | (simp only [List.length_map, List.length_set, List.length_append, List.length_replicate, List.length_cons, List.length_nil]; omega) | (simp; omega) | (simp [List.take_of_length_le]; done) | assumption | trivial | (simp [*]; done)), (by first | (rw [List.getElem?_map, Hx0_23_0]; rfl) | (rw [Nat.zero_add, List.getElem?_map, Hx0_23_0]; rfl) | exact True.intro | with_reducible rfl | with_reducible assumption | omega | (simp only [List.length_map, List.length_set, List.length_append, List.length_replicate, List.length_cons, List.length_nil]; omega) | (simp; done) | (simp; omega) | (simp [List.take_of_length_le]; done) | (simp [← List.map_take, ← List.map_drop]; done) | assumption | trivial | (simp [*, b_sisi, d_sisi]; done)), (by first | exact True.intro | with_reducible rfl | with_reducible assumption | omega | (simp only [List.length_map, List.length_set, List.length_append, List.length_replicate, List.length_cons, List.length_nil]; omega) | (simp; omega) | (simp [List.take_of_length_le]; done) | assumption | trivial | (simp [*]; done)), (by first | (rw [List.getElem?_map, Hx1_23_0]; rfl) | (rw [Nat.zero_add, List.getElem?_map, Hx1_23_0]; rfl) | exact True.intro | with_reducible rfl | with_reducible assumption | omega | (simp only [List.length_map, List.length_set, List.length_append, List.length_replicate, List.length_cons, List.length_nil]; omega) | (simp; done) | (simp; omega) | (simp [List.take_of_length_le]; done) | (simp [← List.map_take, ← List.map_drop]; done) | assumption | trivial | (simp [*, b_sisi, d_sisi]; done)), (nt h_23_0_1), trivial, trivial⟩
      have ih := t23_0 (l0_0 := l0_0) (l1_0 := l1_0) (a0 := a0) (a1 := a1) hy0 hy1 l0_23_0 l1_23_0 (p_23_0 ++ [x0_23_0]) (p_23_0_1 ++ [x1_23_0])  (by rw [List.append_assoc]; exact hp0) (by rw [List.append_assoc]; exact hp1) (by simp only [List.length_map, List.length_set, List.length_append, List.length_replicate, List.length_cons, List.length_nil]; omega) (by simp only [List.length_map, List.length_set, List.length_append, List.length_replicate, List.length_cons, List.length_nil] at hl1; omega)
      rw [show ((p_23_0 ++ [x0_23_0]).length : Int) = (p_23_0.length : Int) + 1 from by simp] at ih
      rw [show (⟨[(0, (.one (.bor l0_0 (List.map b_sisi a0)))), (1, (.one (.bor l1_0 (List.map b_sisi a1)))), (12, (.one (.val (.int .i64 ((List.length (List.map b_sisi a0)) : Int))))), (13, (.one (.val (.int .i64 (IntKind.wrap .i64 ((List.length p_23_0 : Int) + 1))))))], []⟩ : St) = h23_0 l0_0 l1_0 a0 a1 ((List.length p_23_0 : Int) + 1)  from by first | (unfold h23_0; simp only [hw]; done) | (unfold h23_0; simp only [hw, List.length_map, List.length_set, List.length_append, List.length_replicate, List.length_cons, List.length_nil]; done) | (unfold h23_0; simp [hw, List.take_of_length_le, d_sisi, d_LsisiEi, d_b, d_i, d_LsisiE, fromBR_sisi, fromBR_b, fromBR_i]; done)] at st
      exact .loopN st ih
/-! slices.Equal[[]loop.example/g00539/impl.Session,loop.example/g00539/impl.Session] -/
def m23 (a0 : (List K_sisi)) (a1 : (List K_sisi)) : Bool :=
  if (((List.length (List.map b_sisi a0)) : Int) != ((List.length (List.map b_sisi a1)) : Int)) = true then false else
  (match r23_0 a0 a0 a1 0 with | .k0 w0_23_0_1 w1_23_0_1 => true | .k1 => false)
theorem e23 {l0_0 : Nat} {a0 : (List K_sisi)} {l1_0 : Nat} {a1 : (List K_sisi)} (hy0 : List.length a0 * 48 ≤ 140737488351232) (hy1 : List.length a1 * 48 ≤ 140737488351232) : Ev F X (.call 23 [(.one (.bor l0_0 (List.map b_sisi a0))), (.one (.bor l1_0 (List.map b_sisi a1)))] [] [] [(.one (.val (.bool (m23 a0 a1))))]) := by
  unfold m23
  by_cases h0 : (((List.length (List.map b_sisi a0)) : Int) != ((List.length (List.map b_sisi a1)) : Int)) = true
  · try simp only [if_pos h0]
    exact callP_ok (ps := []) (os := []) (rs := [(.one (.val (.bool false)))]) (by kernel_rfl) (.f h0 (.h 12 (.b true) .nil))
  · try simp only [if_neg h0]
    cases h1 : r23_0 a0 a0 a1 0 with
    | k0 w0_23_0_1 w1_23_0_1 =>
      try dsimp only
      have f1 : (⟨[(0, (.one (.bor l0_0 (List.map b_sisi a0)))), (1, (.one (.bor l1_0 (List.map b_sisi a1)))), (12, (.one (.val (.int .i64 ((List.length (List.map b_sisi a0)) : Int))))), (13, (.one (.val (.int .i64 0))))], []⟩ : St) = h23_0 l0_0 l1_0 a0 a1 0  := (by first | rfl | (unfold h23_0; simp [List.take_of_length_le, d_sisi, d_LsisiEi, d_b, d_i, d_LsisiE, fromBR_sisi, fromBR_b, fromBR_i]; done))
      have f2 : Ev F X (.code l23_0 (h23_0 l0_0 l1_0 a0 a1 0 ) (.exit 0) ⟨[(0, (.one (.bor l0_0 (List.map b_sisi a0)))), (1, (.one (.bor l1_0 (List.map b_sisi a1)))), (12, (.one (.val (.int .i64 ((List.length (List.map b_sisi a0)) : Int))))), (13, (.one (.val (.int .i64 w0_23_0_1)))), (14, (.one (.val (.bool w1_23_0_1))))], []⟩) := (by have t : Ev F X (.code l23_0 (h23_0 l0_0 l1_0 a0 a1 0 ) (ex23_0 (r23_0 a0 a0 a1 0)) (fin23_0 l0_0 l1_0 a0 a1 (r23_0 a0 a0 a1 0))) := t23_0 (l0_0 := l0_0) (l1_0 := l1_0) (a0 := a0) (a1 := a1) (by first | assumption | omega) (by first | assumption | omega) a0 a1 [] []  rfl rfl rfl (by first | omega | (simp at *; omega)); rw [h1] at t; exact t)
      exact callP_ok (ps := []) (os := []) (rs := [(.one (.val (.bool true)))]) (by kernel_rfl) (.f (nt h0) (.f f1 (.f f2 (.h 12 (.b false) (.h 19 (.loop (h23_0 l0_0 l1_0 a0 a1 0 ) (.exit 0) ⟨[(0, (.one (.bor l0_0 (List.map b_sisi a0)))), (1, (.one (.bor l1_0 (List.map b_sisi a1)))), (12, (.one (.val (.int .i64 ((List.length (List.map b_sisi a0)) : Int))))), (13, (.one (.val (.int .i64 w0_23_0_1)))), (14, (.one (.val (.bool w1_23_0_1))))], []⟩) .nil)))))
    | k1 =>
      try dsimp only
      have f1 : (⟨[(0, (.one (.bor l0_0 (List.map b_sisi a0)))), (1, (.one (.bor l1_0 (List.map b_sisi a1)))), (12, (.one (.val (.int .i64 ((List.length (List.map b_sisi a0)) : Int))))), (13, (.one (.val (.int .i64 0))))], []⟩ : St) = h23_0 l0_0 l1_0 a0 a1 0  := (by first | rfl | (unfold h23_0; simp [List.take_of_length_le, d_sisi, d_LsisiEi, d_b, d_i, d_LsisiE, fromBR_sisi, fromBR_b, fromBR_i]; done))
      have f2 : Ev F X (.code l23_0 (h23_0 l0_0 l1_0 a0 a1 0 ) .ret ⟨[(4, (.one (.val (.bool false))))], []⟩) := (by have t : Ev F X (.code l23_0 (h23_0 l0_0 l1_0 a0 a1 0 ) (ex23_0 (r23_0 a0 a0 a1 0)) (fin23_0 l0_0 l1_0 a0 a1 (r23_0 a0 a0 a1 0))) := t23_0 (l0_0 := l0_0) (l1_0 := l1_0) (a0 := a0) (a1 := a1) (by first | assumption | omega) (by first | assumption | omega) a0 a1 [] []  rfl rfl rfl (by first | omega | (simp at *; omega)); rw [h1] at t; exact t)
      exact callP_ok (ps := []) (os := []) (rs := [(.one (.val (.bool false)))]) (by kernel_rfl) (.f (nt h0) (.f f1 (.f f2 (.h 12 (.b false) (.h 19 (.loop (h23_0 l0_0 l1_0 a0 a1 0 ) .ret ⟨[(4, (.one (.val (.bool false))))], []⟩) .nil)))))
theorem eqr23_0 (a0 : (List K_sisi)) : ∀ (l m : List K_sisi) (i : Int), l.length = m.length → (r23_0 a0 l m i = .k1 ∧ l ≠ m) ∨ (∃ w0 w1, r23_0 a0 l m i = .k0 w0 w1 ∧ l = m)
  | [], [], i, _ => .inr ⟨_, _, rfl, rfl⟩
  | [], _ :: _, i, h => by simp at h
  | _ :: _, [], i, h => by simp at h
  | x :: l, y :: m, i, h => by
    have ih := eqr23_0 a0 l m (i + 1) (by simpa using h)
    by_cases hxy : x = y
    · subst hxy
      have e : r23_0 a0 (x :: l) (x :: m) i = r23_0 a0 l m (i + 1) := by simp [r23_0, ba_eq]
      rw [e]
      rcases ih with ⟨h1, h2⟩ | ⟨w0, w1, h1, h2⟩
      · exact .inl ⟨h1, by simp [h2]⟩
      · exact .inr ⟨_, _, h1, by rw [h2]⟩
    · have e : r23_0 a0 (x :: l) (y :: m) i = .k1 := by
        simp only [r23_0]
        first
          | ((repeat' split) <;> simp_all [ba_eq]; done)
          | (cases x; cases y; (repeat' split) <;> simp_all [ba_eq])
      exact .inl ⟨e, by simp [hxy]⟩
open Classical in
theorem eqd23 (a b : (List K_sisi)) : m23 a b = decide (a = b) := by
  rw [Bool.eq_iff_iff, decide_eq_true_eq]
  unfold m23
  by_cases hl : List.length a = List.length b
  · rcases eqr23_0 a a b 0 hl with ⟨h1, h2⟩ | ⟨w0, w1, h1, h2⟩
    · simp only [h1, List.length_map, hl]
      first
        | (simp [h2, ba_eq]; done)
        | (cases a; cases b; simp_all [ba_eq]; done)
        | (cases a; cases b; (repeat' split) <;> simp_all [ba_eq])
    · simp only [h1, List.length_map, hl]
      first
        | (simp [h2, ba_eq]; done)
        | (cases a; cases b; simp_all [ba_eq]; done)
        | (cases a; cases b; (repeat' split) <;> simp_all [ba_eq])
  · have hn : a ≠ b := by rintro rfl; exact hl rfl
    simp only [List.length_map]
    first
      | (simp [hn, hl, ba_eq]; done)
      | ((repeat' split) <;> simp_all [ba_eq]; done)
      | (simp [hn]; omega)
/-! loop.example/g00539/impl.SameServers -/
def m9 (a0 : K_LsisiEi) (a1 : K_LsisiEi) : Bool :=
  if (a0.f1 == a1.f1) = true then (m23 a0.f0 a1.f0) else
  false
theorem e9 {l0_0 : Nat} {a0 : K_LsisiEi} {l1_0 : Nat} {a1 : K_LsisiEi} (hy0 : List.length a0.f0 * 48 ≤ 140737488351232) (hy1 : List.length a1.f0 * 48 ≤ 140737488351232) : Ev F X (.call 9 [(.agg [(.bor l0_0 (List.map b_sisi a0.f0)), (.val (.int .i64 a0.f1))]), (.agg [(.bor l1_0 (List.map b_sisi a1.f0)), (.val (.int .i64 a1.f1))])] [] [] [(.one (.val (.bool (m9 a0 a1))))]) := by
  unfold m9
  by_cases h0 : (a0.f1 == a1.f1) = true
  · try simp only [if_pos h0]
    have f5 : Ev F X (.call 23 [(.one (.bor (l0_0 + 1) (List.map b_sisi a0.f0))), (.one (.bor (l1_0 + 1) (List.map b_sisi a1.f0)))] [] [] [(.one (.val (.bool (m23 a0.f0 a1.f0))))]) := (e23 (a0 := a0.f0) (a1 := a1.f0) (by first | with_reducible assumption | omega | assumption | (simp only [List.length_map]; omega) | (simp; omega)) (by first | with_reducible assumption | omega | assumption | (simp only [List.length_map]; omega) | (simp; omega)))
    exact callP_ok (ps := []) (os := []) (rs := [(.one (.val (.bool (m23 a0.f0 a1.f0))))]) (by kernel_rfl) (.f h0 (.f h0 (.f h0 (.f h0 (.f h0 (.h 18 (.b true) (.h 20 (.b true) (.h 22 (.b true) (.h 24 (.b true) (.h 26 (.b true) (.r 27 [] [] f5 (.f h0 (.h 29 (.b true) .nil)))))))))))))
  · try simp only [if_neg h0]
    exact callP_ok (ps := []) (os := []) (rs := [(.one (.val (.bool false)))]) (by kernel_rfl) (.f (nt h0) (.f (nt h0) (.f (nt h0) (.f (nt h0) (.f (nt h0) (.f (nt h0) (.h 18 (.b false) (.h 20 (.b false) (.h 22 (.b false) (.h 24 (.b false) (.h 26 (.b false) (.h 29 (.b false) .nil))))))))))))
open Classical in
theorem eqd9 (a b : K_LsisiEi) : m9 a b = decide (a = b) := by
  rw [Bool.eq_iff_iff, decide_eq_true_eq]
  constructor
  · intro h
    unfold m9 at h
    cases a; cases b
    (repeat' split at h) <;> simp_all [ba_eq, eqd23]
  · rintro rfl
    simp [m9, ba_eq, eqd23]
/-! loop.example/g00539/laws.eqSession -/
def m41 (a0 : K_sisi) (a1 : K_sisi) : Bool :=
  if (!(a0.f0.toList == a1.f0.toList)) = true then false else
  if (a0.f1 != a1.f1) = true then false else
    if (!(a0.f2.toList == a1.f2.toList)) = true then false else
      if (a0.f3 != a1.f3) = true then false else
        true
theorem e41 {a0 : K_sisi} {a1 : K_sisi} : Ev F X (.call 41 [(.agg [(.val (.string a0.f0)), (.val (.int .i64 a0.f1)), (.val (.string a0.f2)), (.val (.int .i64 a0.f3))]), (.agg [(.val (.string a1.f0)), (.val (.int .i64 a1.f1)), (.val (.string a1.f2)), (.val (.int .i64 a1.f3))])] [] [] [(.one (.val (.bool (m41 a0 a1))))]) := by
  unfold m41
  by_cases h0 : (!(a0.f0.toList == a1.f0.toList)) = true
  · try simp only [if_pos h0]
    exact callP_ok (ps := []) (os := []) (rs := [(.one (.val (.bool false)))]) (by kernel_rfl) (.f h0 (.h 16 (.b true) .nil))
  · try simp only [if_neg h0]
    by_cases h1 : (a0.f1 != a1.f1) = true
    · try simp only [if_pos h1]
      exact callP_ok (ps := []) (os := []) (rs := [(.one (.val (.bool false)))]) (by kernel_rfl) (.f (nt h0) (.f h1 (.h 16 (.b false) (.h 27 (.b true) .nil))))
    · try simp only [if_neg h1]
      by_cases h2 : (!(a0.f2.toList == a1.f2.toList)) = true
      · try simp only [if_pos h2]
        exact callP_ok (ps := []) (os := []) (rs := [(.one (.val (.bool false)))]) (by kernel_rfl) (.f (nt h0) (.f (nt h1) (.f h2 (.h 16 (.b false) (.h 27 (.b false) (.h 38 (.b true) .nil))))))
      · try simp only [if_neg h2]
        by_cases h3 : (a0.f3 != a1.f3) = true
        · try simp only [if_pos h3]
          exact callP_ok (ps := []) (os := []) (rs := [(.one (.val (.bool false)))]) (by kernel_rfl) (.f (nt h0) (.f (nt h1) (.f (nt h2) (.f h3 (.h 16 (.b false) (.h 27 (.b false) (.h 38 (.b false) (.h 49 (.b true) .nil))))))))
        · try simp only [if_neg h3]
          exact callP_ok (ps := []) (os := []) (rs := [(.one (.val (.bool true)))]) (by kernel_rfl) (.f (nt h0) (.f (nt h1) (.f (nt h2) (.f (nt h3) (.h 16 (.b false) (.h 27 (.b false) (.h 38 (.b false) (.h 49 (.b false) .nil))))))))
open Classical in
theorem eqd41 (a b : K_sisi) : m41 a b = decide (a = b) := by
  rw [Bool.eq_iff_iff, decide_eq_true_eq]
  constructor
  · intro h
    unfold m41 at h
    cases a; cases b
    (repeat' split at h) <;> simp_all [ba_eq]
  · rintro rfl
    simp [m41, ba_eq]
/-! loop 24_0 -/
inductive O24_0 where
  | k0 (w0 : Int) (w1 : Bool)
  | k1
def r24_0 (a0 : (List K_sisi)) : List K_sisi → List K_sisi → Int → O24_0
  | x0_24_0 :: l0_24_0, x1_24_0 :: l1_24_0, i_24_0 =>
    if (!(m41 x0_24_0 x1_24_0)) = true then (O24_0.k1) else
    (r24_0 a0 l0_24_0 l1_24_0 (i_24_0 + 1) )
  | _, _, i_24_0 => (O24_0.k0 i_24_0 (decide (i_24_0 < ((List.length (List.map b_sisi a0)) : Int))))
def h24_0 (l0_0 : Nat) (l1_0 : Nat) (a0 : (List K_sisi)) (a1 : (List K_sisi)) (i_24_0 : Int)  : St := ⟨[(0, (.one (.bor l0_0 (List.map b_sisi a0)))), (1, (.one (.bor l1_0 (List.map b_sisi a1)))), (5, (.one (.val (.int .i64 i_24_0))))], []⟩
def ex24_0 : O24_0 → VX.Exit
  | .k0 _ _ => (.exit 0)
  | .k1 => .ret
def fin24_0 (l0_0 : Nat) (l1_0 : Nat) (a0 : (List K_sisi)) (a1 : (List K_sisi)) : O24_0 → St
  | .k0 w0 w1 => ⟨[(0, (.one (.bor l0_0 (List.map b_sisi a0)))), (1, (.one (.bor l1_0 (List.map b_sisi a1)))), (5, (.one (.val (.int .i64 w0)))), (14, (.one (.val (.bool w1))))], []⟩
  | .k1 => ⟨[(4, (.one (.val (.bool false))))], []⟩
theorem t24_0 {l0_0 : Nat} {l1_0 : Nat} {a0 : (List K_sisi)} {a1 : (List K_sisi)} (hy0 : List.length a0 * 48 ≤ 140737488351232) (hy1 : List.length a1 * 48 ≤ 140737488351232) : ∀ (l0_24_0 : List K_sisi) (l1_24_0 : List K_sisi) (p_24_0 : List K_sisi) (p_24_0_1 : List K_sisi) , p_24_0 ++ l0_24_0 = a0 → p_24_0_1 ++ l1_24_0 = a1 → List.length p_24_0 = List.length p_24_0_1 → List.length l0_24_0 = List.length l1_24_0 → Ev F X (.code l24_0 (h24_0 l0_0 l1_0 a0 a1 (List.length p_24_0 : Int) ) (ex24_0 (r24_0 a0 l0_24_0 l1_24_0 (List.length p_24_0 : Int) )) (fin24_0 l0_0 l1_0 a0 a1 (r24_0 a0 l0_24_0 l1_24_0 (List.length p_24_0 : Int) )))
  | [], [], p_24_0, p_24_0_1, hp0, hp1, hq1, hl1 => by
    have hc : ¬ (decide ((List.length p_24_0 : Int) < ((List.length (List.map b_sisi a0)) : Int))) = true := by
      rw [← hp0]; simp only [List.length_map, List.length_set, List.length_append, List.length_replicate, List.length_cons, List.length_nil, decide_eq_true_eq]; omega
    have st := codeH_ok (F := F) (X := X) (c := b24_0) (t := 0) (hs := [(8, .b false)]) (σ := h24_0 l0_0 l1_0 a0 a1 (List.length p_24_0 : Int) ) (σ' := ⟨[(0, (.one (.bor l0_0 (List.map b_sisi a0)))), (1, (.one (.bor l1_0 (List.map b_sisi a1)))), (5, (.one (.val (.int .i64 (List.length p_24_0 : Int))))), (14, (.one (.val (.bool (decide ((List.length p_24_0 : Int) < ((List.length (List.map b_sisi a0)) : Int)))))))], []⟩) (e := (.exit 0)) (t' := 9) (hs' := []) (q := [(decide ((List.length p_24_0 : Int) < ((List.length (List.map b_sisi a0)) : Int))) = false]) (by kernel_rfl) ⟨(nt hc), trivial⟩
    rw [show (⟨[(0, (.one (.bor l0_0 (List.map b_sisi a0)))), (1, (.one (.bor l1_0 (List.map b_sisi a1)))), (5, (.one (.val (.int .i64 (List.length p_24_0 : Int))))), (14, (.one (.val (.bool (decide ((List.length p_24_0 : Int) < ((List.length (List.map b_sisi a0)) : Int)))))))], []⟩ : St) = fin24_0 l0_0 l1_0 a0 a1 (.k0 (List.length p_24_0 : Int) (decide ((List.length p_24_0 : Int) < ((List.length (List.map b_sisi a0)) : Int)))) from by first | rfl | (unfold fin24_0; simp [List.take_of_length_le, d_sisi, d_LsisiEi, d_b, d_i, d_LsisiE, fromBR_sisi, fromBR_b, fromBR_i]; done)] at st
    exact .loopX st (show ((.exit 0) : VX.Exit) ≠ .normal from by simp)
  | x0_24_0 :: l0_24_0, x1_24_0 :: l1_24_0, p_24_0, p_24_0_1, hp0, hp1, hq1, hl1 => by
    have hc : (decide ((List.length p_24_0 : Int) < ((List.length (List.map b_sisi a0)) : Int))) = true := by
      rw [← hp0]; simp only [List.length_map, List.length_set, List.length_append, List.length_replicate, List.length_cons, List.length_nil, decide_eq_true_eq]; omega
    have Hx0_24_0 : (a0)[Int.toNat (List.length p_24_0 : Int)]? = some x0_24_0 := by
      rw [← hp0, Int.toNat_natCast]; simp
    have Hx1_24_0 : (a1)[Int.toNat (List.length p_24_0 : Int)]? = some x1_24_0 := by
      rw [← hp1, hq1, Int.toNat_natCast]; simp
    have hlen : List.length (a0) = List.length p_24_0 + List.length l0_24_0 + 1 := by rw [← hp0]; simp; omega
    have hw : IntKind.wrap .i64 ((List.length p_24_0 : Int) + 1) = (List.length p_24_0 : Int) + 1 := wrap64 (by omega)
    simp only [r24_0]
    by_cases h_24_0_1 : (!(m41 x0_24_0 x1_24_0)) = true
    · try simp only [if_pos h_24_0_1]
      have st := codeH_ok (F := F) (X := X) (c := b24_0) (t := 0) (hs := [(8, .b true), (14, .row [(.val (.string x0_24_0.f0)), (.val (.int .i64 x0_24_0.f1)), (.val (.string x0_24_0.f2)), (.val (.int .i64 x0_24_0.f3))]), (22, .row [(.val (.string x1_24_0.f0)), (.val (.int .i64 x1_24_0.f1)), (.val (.string x1_24_0.f2)), (.val (.int .i64 x1_24_0.f3))]), (26, .ret [] [(.one (.val (.bool (m41 x0_24_0 x1_24_0))))] [] []), (29, .b true)]) (σ := h24_0 l0_0 l1_0 a0 a1 (List.length p_24_0 : Int) ) (σ' := ⟨[(4, (.one (.val (.bool false))))], []⟩) (e := .ret) (t' := 32) (hs' := []) (q := [(decide ((List.length p_24_0 : Int) < ((List.length (List.map b_sisi a0)) : Int))) = true, 0 ≤ (List.length p_24_0 : Int), (List.map b_sisi a0)[(Int.toNat (List.length p_24_0 : Int))]? = some [(.val (.string x0_24_0.f0)), (.val (.int .i64 x0_24_0.f1)), (.val (.string x0_24_0.f2)), (.val (.int .i64 x0_24_0.f3))], 0 ≤ (List.length p_24_0 : Int), (List.map b_sisi a1)[(Int.toNat (List.length p_24_0 : Int))]? = some [(.val (.string x1_24_0.f0)), (.val (.int .i64 x1_24_0.f1)), (.val (.string x1_24_0.f2)), (.val (.int .i64 x1_24_0.f3))], Ev F X (.call 41 [(.agg [(.val (.string x0_24_0.f0)), (.val (.int .i64 x0_24_0.f1)), (.val (.string x0_24_0.f2)), (.val (.int .i64 x0_24_0.f3))]), (.agg [(.val (.string x1_24_0.f0)), (.val (.int .i64 x1_24_0.f1)), (.val (.string x1_24_0.f2)), (.val (.int .i64 x1_24_0.f3))])] [] [] [(.one (.val (.bool (m41 x0_24_0 x1_24_0))))]), (!(m41 x0_24_0 x1_24_0)) = true]) (by kernel_rfl) ⟨hc, (by first | exact True.intro | with_reducible rfl | with_reducible assumption | omega | (simp only [List.length_map, List.length_set, List.length_append, List.length_replicate, List.length_cons, List.length_nil]; omega) | (simp; omega) | (simp [List.take_of_length_le]; done) | assumption | trivial | (simp [*]; done)), (by first | (rw [List.getElem?_map, Hx0_24_0]; rfl) | (rw [Nat.zero_add, List.getElem?_map, Hx0_24_0]; rfl) | exact True.intro | with_reducible rfl | with_reducible assumption | omega | (simp only [List.length_map, List.length_set, List.length_append, List.length_replicate, List.length_cons, List.length_nil]; omega) | (simp; done) | (simp; omega) | (simp [List.take_of_length_le]; done) | (simp [← List.map_take, ← List.map_drop]; done) | assumption | trivial | (simp [*, b_sisi, d_sisi]; done)), (by first | exact True.intro | with_reducible rfl | with_reducible assumption | omega | (simp only [List.length_map, List.length_set, List.length_append, List.length_replicate, List.length_cons, List.length_nil]; omega) | (simp; omega) | (simp [List.take_of_length_le]; done) | assumption | trivial | (simp [*]; done)), (by first | (rw [List.getElem?_map, Hx1_24_0]; rfl) | (rw [Nat.zero_add, List.getElem?_map, Hx1_24_0]; rfl) | exact True.intro | with_reducible rfl | with_reducible assumption | omega | (simp only [List.length_map, List.length_set, List.length_append, List.length_replicate, List.length_cons, List.length_nil]; omega) | (simp; done) | (simp; omega) | (simp [List.take_of_length_le]; done) | (simp [← List.map_take, ← List.map_drop]; done) | assumption | trivial | (simp [*, b_sisi, d_sisi]; done)), (e41 (a0 := x0_24_0) (a1 := x1_24_0)), h_24_0_1, trivial⟩
      rw [show (⟨[(4, (.one (.val (.bool false))))], []⟩ : St) = fin24_0 l0_0 l1_0 a0 a1 (.k1) from by first | rfl | (unfold fin24_0; simp [List.take_of_length_le, d_sisi, d_LsisiEi, d_b, d_i, d_LsisiE, fromBR_sisi, fromBR_b, fromBR_i]; done)] at st
      exact .loopX st (show (.ret : VX.Exit) ≠ .normal from by simp)
    · try simp only [if_neg h_24_0_1]
      have st := codeH_ok (F := F) (X := X) (c := b24_0) (t := 0) (hs := [(8, .b true), (14, .row [(.val (.string x0_24_0.f0)), (.val (.int .i64 x0_24_0.f1)), (.val (.string x0_24_0.f2)), (.val (.int .i64 x0_24_0.f3))]), (22, .row [(.val (.string x1_24_0.f0)), (.val (.int .i64 x1_24_0.f1)), (.val (.string x1_24_0.f2)), (.val (.int .i64 x1_24_0.f3))]), (26, .ret [] [(.one (.val (.bool (m41 x0_24_0 x1_24_0))))] [] []), (29, .b false)]) (σ := h24_0 l0_0 l1_0 a0 a1 (List.length p_24_0 : Int) ) (σ' := ⟨[(0, (.one (.bor l0_0 (List.map b_sisi a0)))), (1, (.one (.bor l1_0 (List.map b_sisi a1)))), (5, (.one (.val (.int .i64 (IntKind.wrap .i64 ((List.length p_24_0 : Int) + 1))))))], []⟩) (e := .normal) (t' := 36) (hs' := []) (q := [(decide ((List.length p_24_0 : Int) < ((List.length (List.map b_sisi a0)) : Int))) = true, 0 ≤ (List.length p_24_0 : Int), (List.map b_sisi a0)[(Int.toNat (List.length p_24_0 : Int))]? = some [(.val (.string x0_24_0.f0)), (.val (.int .i64 x0_24_0.f1)), (.val (.string x0_24_0.f2)), (.val (.int .i64 x0_24_0.f3))], 0 ≤ (List.length p_24_0 : Int), (List.map b_sisi a1)[(Int.toNat (List.length p_24_0 : Int))]? = some [(.val (.string x1_24_0.f0)), (.val (.int .i64 x1_24_0.f1)), (.val (.string x1_24_0.f2)), (.val (.int .i64 x1_24_0.f3))], Ev F X (.call 41 [(.agg [(.val (.string x0_24_0.f0)), (.val (.int .i64 x0_24_0.f1)), (.val (.string x0_24_0.f2)), (.val (.int .i64 x0_24_0.f3))]), (.agg [(.val (.string x1_24_0.f0)), (.val (.int .i64 x1_24_0.f1)), (.val (.string x1_24_0.f2)), (.val (.int .i64 x1_24_0.f3))])] [] [] [(.one (.val (.bool (m41 x0_24_0 x1_24_0))))]), (!(m41 x0_24_0 x1_24_0)) = false, True]) (by kernel_rfl) ⟨hc, (by first | exact True.intro | with_reducible rfl | with_reducible assumption | omega | (simp only [List.length_map, List.length_set, List.length_append, List.length_replicate, List.length_cons, List.length_nil]; omega) | (simp; omega) | (simp [List.take_of_length_le]; done) | assumption | trivial | (simp [*]; done)), (by first | (rw [List.getElem?_map, Hx0_24_0]; rfl) | (rw [Nat.zero_add, List.getElem?_map, Hx0_24_0]; rfl) | exact True.intro | with_reducible rfl | with_reducible assumption | omega | (simp only [List.length_map, List.length_set, List.length_append, List.length_replicate, List.length_cons, List.length_nil]; omega) | (simp; done) | (simp; omega) | (simp [List.take_of_length_le]; done) | (simp [← List.map_take, ← List.map_drop]; done) | assumption | trivial | (simp [*, b_sisi, d_sisi]; done)), (by first | exact True.intro | with_reducible rfl | with_reducible assumption | omega | (simp only [List.length_map, List.length_set, List.length_append, List.length_replicate, List.length_cons, List.length_nil]; omega) | (simp; omega) | (simp [List.take_of_length_le]; done) | assumption | trivial | (simp [*]; done)), (by first | (rw [List.getElem?_map, Hx1_24_0]; rfl) | (rw [Nat.zero_add, List.getElem?_map, Hx1_24_0]; rfl) | exact True.intro | with_reducible rfl | with_reducible assumption | omega | (simp only [List.length_map, List.length_set, List.length_append, List.length_replicate, List.length_cons, List.length_nil]; omega) | (simp; done) | (simp; omega) | (simp [List.take_of_length_le]; done) | (simp [← List.map_take, ← List.map_drop]; done) | assumption | trivial | (simp [*, b_sisi, d_sisi]; done)), (e41 (a0 := x0_24_0) (a1 := x1_24_0)), (nt h_24_0_1), trivial, trivial⟩
      have ih := t24_0 (l0_0 := l0_0) (l1_0 := l1_0) (a0 := a0) (a1 := a1) hy0 hy1 l0_24_0 l1_24_0 (p_24_0 ++ [x0_24_0]) (p_24_0_1 ++ [x1_24_0])  (by rw [List.append_assoc]; exact hp0) (by rw [List.append_assoc]; exact hp1) (by simp only [List.length_map, List.length_set, List.length_append, List.length_replicate, List.length_cons, List.length_nil]; omega) (by simp only [List.length_map, List.length_set, List.length_append, List.length_replicate, List.length_cons, List.length_nil] at hl1; omega)
      rw [show ((p_24_0 ++ [x0_24_0]).length : Int) = (p_24_0.length : Int) + 1 from by simp] at ih
      rw [show (⟨[(0, (.one (.bor l0_0 (List.map b_sisi a0)))), (1, (.one (.bor l1_0 (List.map b_sisi a1)))), (5, (.one (.val (.int .i64 (IntKind.wrap .i64 ((List.length p_24_0 : Int) + 1))))))], []⟩ : St) = h24_0 l0_0 l1_0 a0 a1 ((List.length p_24_0 : Int) + 1)  from by first | (unfold h24_0; simp only [hw]; done) | (unfold h24_0; simp only [hw, List.length_map, List.length_set, List.length_append, List.length_replicate, List.length_cons, List.length_nil]; done) | (unfold h24_0; simp [hw, List.take_of_length_le, d_sisi, d_LsisiEi, d_b, d_i, d_LsisiE, fromBR_sisi, fromBR_b, fromBR_i]; done)] at st
      exact .loopN st ih
/-! loop.example/g00539/laws.eqSessionS -/
def m24 (a0 : (List K_sisi)) (a1 : (List K_sisi)) : Bool :=
  if (((List.length (List.map b_sisi a0)) : Int) != ((List.length (List.map b_sisi a1)) : Int)) = true then false else
  (match r24_0 a0 a0 a1 0 with | .k0 w0_24_0_1 w1_24_0_1 => true | .k1 => false)
theorem e24 {l0_0 : Nat} {a0 : (List K_sisi)} {l1_0 : Nat} {a1 : (List K_sisi)} (hy0 : List.length a0 * 48 ≤ 140737488351232) (hy1 : List.length a1 * 48 ≤ 140737488351232) : Ev F X (.call 24 [(.one (.bor l0_0 (List.map b_sisi a0))), (.one (.bor l1_0 (List.map b_sisi a1)))] [] [] [(.one (.val (.bool (m24 a0 a1))))]) := by
  unfold m24
  by_cases h0 : (((List.length (List.map b_sisi a0)) : Int) != ((List.length (List.map b_sisi a1)) : Int)) = true
  · try simp only [if_pos h0]
    exact callP_ok (ps := []) (os := []) (rs := [(.one (.val (.bool false)))]) (by kernel_rfl) (.f h0 (.h 12 (.b true) .nil))
  · try simp only [if_neg h0]
    cases h1 : r24_0 a0 a0 a1 0 with
    | k0 w0_24_0_1 w1_24_0_1 =>
      try dsimp only
      have f1 : (⟨[(0, (.one (.bor l0_0 (List.map b_sisi a0)))), (1, (.one (.bor l1_0 (List.map b_sisi a1)))), (5, (.one (.val (.int .i64 0))))], []⟩ : St) = h24_0 l0_0 l1_0 a0 a1 0  := (by first | rfl | (unfold h24_0; simp [List.take_of_length_le, d_sisi, d_LsisiEi, d_b, d_i, d_LsisiE, fromBR_sisi, fromBR_b, fromBR_i]; done))
      have f2 : Ev F X (.code l24_0 (h24_0 l0_0 l1_0 a0 a1 0 ) (.exit 0) ⟨[(0, (.one (.bor l0_0 (List.map b_sisi a0)))), (1, (.one (.bor l1_0 (List.map b_sisi a1)))), (5, (.one (.val (.int .i64 w0_24_0_1)))), (14, (.one (.val (.bool w1_24_0_1))))], []⟩) := (by have t : Ev F X (.code l24_0 (h24_0 l0_0 l1_0 a0 a1 0 ) (ex24_0 (r24_0 a0 a0 a1 0)) (fin24_0 l0_0 l1_0 a0 a1 (r24_0 a0 a0 a1 0))) := t24_0 (l0_0 := l0_0) (l1_0 := l1_0) (a0 := a0) (a1 := a1) (by first | assumption | omega) (by first | assumption | omega) a0 a1 [] []  rfl rfl rfl (by first | omega | (simp at *; omega)); rw [h1] at t; exact t)
      exact callP_ok (ps := []) (os := []) (rs := [(.one (.val (.bool true)))]) (by kernel_rfl) (.f (nt h0) (.f f1 (.f f2 (.h 12 (.b false) (.h 15 (.loop (h24_0 l0_0 l1_0 a0 a1 0 ) (.exit 0) ⟨[(0, (.one (.bor l0_0 (List.map b_sisi a0)))), (1, (.one (.bor l1_0 (List.map b_sisi a1)))), (5, (.one (.val (.int .i64 w0_24_0_1)))), (14, (.one (.val (.bool w1_24_0_1))))], []⟩) .nil)))))
    | k1 =>
      try dsimp only
      have f1 : (⟨[(0, (.one (.bor l0_0 (List.map b_sisi a0)))), (1, (.one (.bor l1_0 (List.map b_sisi a1)))), (5, (.one (.val (.int .i64 0))))], []⟩ : St) = h24_0 l0_0 l1_0 a0 a1 0  := (by first | rfl | (unfold h24_0; simp [List.take_of_length_le, d_sisi, d_LsisiEi, d_b, d_i, d_LsisiE, fromBR_sisi, fromBR_b, fromBR_i]; done))
      have f2 : Ev F X (.code l24_0 (h24_0 l0_0 l1_0 a0 a1 0 ) .ret ⟨[(4, (.one (.val (.bool false))))], []⟩) := (by have t : Ev F X (.code l24_0 (h24_0 l0_0 l1_0 a0 a1 0 ) (ex24_0 (r24_0 a0 a0 a1 0)) (fin24_0 l0_0 l1_0 a0 a1 (r24_0 a0 a0 a1 0))) := t24_0 (l0_0 := l0_0) (l1_0 := l1_0) (a0 := a0) (a1 := a1) (by first | assumption | omega) (by first | assumption | omega) a0 a1 [] []  rfl rfl rfl (by first | omega | (simp at *; omega)); rw [h1] at t; exact t)
      exact callP_ok (ps := []) (os := []) (rs := [(.one (.val (.bool false)))]) (by kernel_rfl) (.f (nt h0) (.f f1 (.f f2 (.h 12 (.b false) (.h 15 (.loop (h24_0 l0_0 l1_0 a0 a1 0 ) .ret ⟨[(4, (.one (.val (.bool false))))], []⟩) .nil)))))
theorem eqr24_0 (a0 : (List K_sisi)) : ∀ (l m : List K_sisi) (i : Int), l.length = m.length → (r24_0 a0 l m i = .k1 ∧ l ≠ m) ∨ (∃ w0 w1, r24_0 a0 l m i = .k0 w0 w1 ∧ l = m)
  | [], [], i, _ => .inr ⟨_, _, rfl, rfl⟩
  | [], _ :: _, i, h => by simp at h
  | _ :: _, [], i, h => by simp at h
  | x :: l, y :: m, i, h => by
    have ih := eqr24_0 a0 l m (i + 1) (by simpa using h)
    by_cases hxy : x = y
    · subst hxy
      have e : r24_0 a0 (x :: l) (x :: m) i = r24_0 a0 l m (i + 1) := by simp [r24_0, ba_eq, eqd41]
      rw [e]
      rcases ih with ⟨h1, h2⟩ | ⟨w0, w1, h1, h2⟩
      · exact .inl ⟨h1, by simp [h2]⟩
      · exact .inr ⟨_, _, h1, by rw [h2]⟩
    · have e : r24_0 a0 (x :: l) (y :: m) i = .k1 := by
        simp only [r24_0]
        first
          | ((repeat' split) <;> simp_all [ba_eq, eqd41]; done)
          | (cases x; cases y; (repeat' split) <;> simp_all [ba_eq, eqd41])
      exact .inl ⟨e, by simp [hxy]⟩
open Classical in
theorem eqd24 (a b : (List K_sisi)) : m24 a b = decide (a = b) := by
  rw [Bool.eq_iff_iff, decide_eq_true_eq]
  unfold m24
  by_cases hl : List.length a = List.length b
  · rcases eqr24_0 a a b 0 hl with ⟨h1, h2⟩ | ⟨w0, w1, h1, h2⟩
    · simp only [h1, List.length_map, hl]
      first
        | (simp [h2, ba_eq, eqd41]; done)
        | (cases a; cases b; simp_all [ba_eq, eqd41]; done)
        | (cases a; cases b; (repeat' split) <;> simp_all [ba_eq, eqd41])
    · simp only [h1, List.length_map, hl]
      first
        | (simp [h2, ba_eq, eqd41]; done)
        | (cases a; cases b; simp_all [ba_eq, eqd41]; done)
        | (cases a; cases b; (repeat' split) <;> simp_all [ba_eq, eqd41])
  · have hn : a ≠ b := by rintro rfl; exact hl rfl
    simp only [List.length_map]
    first
      | (simp [hn, hl, ba_eq, eqd41]; done)
      | ((repeat' split) <;> simp_all [ba_eq, eqd41]; done)
      | (simp [hn]; omega)
/-! loop.example/g00539/laws.eqServer -/
def m10 (a0 : K_LsisiEi) (a1 : K_LsisiEi) : Bool :=
  if (!(m24 a0.f0 a1.f0)) = true then false else
  if (a0.f1 != a1.f1) = true then false else
    true
theorem e10 {l0_0 : Nat} {a0 : K_LsisiEi} {l1_0 : Nat} {a1 : K_LsisiEi} (hy0 : List.length a0.f0 * 48 ≤ 140737488351232) (hy1 : List.length a1.f0 * 48 ≤ 140737488351232) : Ev F X (.call 10 [(.agg [(.bor l0_0 (List.map b_sisi a0.f0)), (.val (.int .i64 a0.f1))]), (.agg [(.bor l1_0 (List.map b_sisi a1.f0)), (.val (.int .i64 a1.f1))])] [] [] [(.one (.val (.bool (m10 a0 a1))))]) := by
  unfold m10
  have f0 : Ev F X (.call 24 [(.one (.bor (l0_0 + 1) (List.map b_sisi a0.f0))), (.one (.bor (l1_0 + 1) (List.map b_sisi a1.f0)))] [] [] [(.one (.val (.bool (m24 a0.f0 a1.f0))))]) := (e24 (a0 := a0.f0) (a1 := a1.f0) (by first | with_reducible assumption | omega | assumption | (simp only [List.length_map]; omega) | (simp; omega)) (by first | with_reducible assumption | omega | assumption | (simp only [List.length_map]; omega) | (simp; omega)))
  by_cases h0 : (!(m24 a0.f0 a1.f0)) = true
  · try simp only [if_pos h0]
    exact callP_ok (ps := []) (os := []) (rs := [(.one (.val (.bool false)))]) (by kernel_rfl) (.r 15 [] [] f0 (.f h0 (.h 18 (.b true) .nil)))
  · try simp only [if_neg h0]
    by_cases h1 : (a0.f1 != a1.f1) = true
    · try simp only [if_pos h1]
      exact callP_ok (ps := []) (os := []) (rs := [(.one (.val (.bool false)))]) (by kernel_rfl) (.r 15 [] [] f0 (.f (nt h0) (.f h1 (.h 18 (.b false) (.h 29 (.b true) .nil)))))
    · try simp only [if_neg h1]
      exact callP_ok (ps := []) (os := []) (rs := [(.one (.val (.bool true)))]) (by kernel_rfl) (.r 15 [] [] f0 (.f (nt h0) (.f (nt h1) (.h 18 (.b false) (.h 29 (.b false) .nil)))))
open Classical in
theorem eqd10 (a b : K_LsisiEi) : m10 a b = decide (a = b) := by
  rw [Bool.eq_iff_iff, decide_eq_true_eq]
  constructor
  · intro h
    unfold m10 at h
    cases a; cases b
    (repeat' split at h) <;> simp_all [ba_eq, eqd24]
  · rintro rfl
    simp [m10, ba_eq, eqd24]
/-! loop.example/g00539/laws.FnExactSameServers -/
def m3 (a0 : K_LsisiEi) (a1 : K_LsisiEi) : Bool :=
  if (decide ((m6 a0 1048576) < 0)) = true then true else
  if (decide ((m6 a1 (m6 a0 1048576)) < 0)) = true then true else
    if (!((m9 a0 a1) == (m7 a0 a1))) = true then false else
      if (!(m10 a0 a0)) = true then false else
        if (!(m10 a1 a1)) = true then false else
          true
set_option maxHeartbeats 8000000 in
theorem e3 {l0_0 : Nat} {a0 : K_LsisiEi} {l1_0 : Nat} {a1 : K_LsisiEi} (hy0 : List.length a0.f0 * 48 ≤ 140737488351232) (hy1 : List.length a1.f0 * 48 ≤ 140737488351232) : Ev F X (.call 3 [(.agg [(.bor l0_0 (List.map b_sisi a0.f0)), (.val (.int .i64 a0.f1))]), (.agg [(.bor l1_0 (List.map b_sisi a1.f0)), (.val (.int .i64 a1.f1))])] [] [] [(.one (.val (.bool (m3 a0 a1))))]) := by
  unfold m3
  have f0 : Ev F X (.call 6 [(.agg [(.bor (l0_0 + 1) (List.map b_sisi a0.f0)), (.val (.int .i64 a0.f1))]), (.one (.val (.int .i64 1048576)))] [] [] [(.one (.val (.int .i64 (m6 a0 1048576))))]) := (e6 (a0 := a0) (a1 := 1048576) (by first | with_reducible assumption | omega | assumption | (simp only [List.length_map]; omega) | (simp; omega)))
  by_cases h0 : (decide ((m6 a0 1048576) < 0)) = true
  · try simp only [if_pos h0]
    exact callP_ok (ps := []) (os := []) (rs := [(.one (.val (.bool true)))]) (by kernel_rfl) (.r 13 [] [] f0 (.f h0 (.h 20 (.b true) .nil)))
  · try simp only [if_neg h0]
    have f2 : Ev F X (.call 6 [(.agg [(.bor (l1_0 + 1) (List.map b_sisi a1.f0)), (.val (.int .i64 a1.f1))]), (.one (.val (.int .i64 (m6 a0 1048576))))] [] [] [(.one (.val (.int .i64 (m6 a1 (m6 a0 1048576)))))]) := (e6 (a0 := a1) (a1 := (m6 a0 1048576)) (by first | with_reducible assumption | omega | assumption | (simp only [List.length_map]; omega) | (simp; omega)))
    by_cases h1 : (decide ((m6 a1 (m6 a0 1048576)) < 0)) = true
    · try simp only [if_pos h1]
      exact callP_ok (ps := []) (os := []) (rs := [(.one (.val (.bool true)))]) (by kernel_rfl) (.r 13 [] [] f0 (.f (nt h0) (.h 20 (.b false) (.r 26 [] [] f2 (.f h1 (.h 33 (.b true) .nil))))))
    · try simp only [if_neg h1]
      have f4 : Ev F X (.call 8 [(.agg [(.bor (l0_0 + 1) (List.map b_sisi a0.f0)), (.val (.int .i64 a0.f1))])] [] [] [(.agg [(.own 4 (List.map d_sisi a0.f0)), (.val (.int .i64 a0.f1))])]) := (e8 (a0 := a0) (by first | with_reducible assumption | omega | assumption | (simp only [List.length_map]; omega) | (simp; omega)))
      have f5 : Ev F X (.call 8 [(.agg [(.bor (l1_0 + 1) (List.map b_sisi a1.f0)), (.val (.int .i64 a1.f1))])] [] [] [(.agg [(.own 4 (List.map d_sisi a1.f0)), (.val (.int .i64 a1.f1))])]) := (e8 (a0 := a1) (by first | with_reducible assumption | omega | assumption | (simp only [List.length_map]; omega) | (simp; omega)))
      have f6 : 0 + (List.length (List.map d_sisi a0.f0)) ≤ (List.length (List.map d_sisi a0.f0)) := (by omega)
      have f7 : fullR (List.take (List.length (List.map d_sisi a0.f0)) (List.drop 0 (List.map d_sisi a0.f0))) = true := (ft_sisi _ _ _)
      have f8 : toBR (List.take (List.length (List.map d_sisi a0.f0)) (List.drop 0 (List.map d_sisi a0.f0))) = (List.map b_sisi a0.f0) := (tb_sisi _)
      have f9 : 0 + (List.length (List.map d_sisi a1.f0)) ≤ (List.length (List.map d_sisi a1.f0)) := (by omega)
      have f10 : fullR (List.take (List.length (List.map d_sisi a1.f0)) (List.drop 0 (List.map d_sisi a1.f0))) = true := (ft_sisi _ _ _)
      have f11 : toBR (List.take (List.length (List.map d_sisi a1.f0)) (List.drop 0 (List.map d_sisi a1.f0))) = (List.map b_sisi a1.f0) := (tb_sisi _)
      have f12 : Ev F X (.call 7 [(.agg [(.bor 0 (List.map b_sisi a0.f0)), (.val (.int .i64 a0.f1))]), (.agg [(.bor 0 (List.map b_sisi a1.f0)), (.val (.int .i64 a1.f1))])] [] [] [(.one (.val (.bool (m7 a0 a1))))]) := (e7 (a0 := a0) (a1 := a1) (by first | with_reducible assumption | omega | assumption | (simp only [List.length_map]; omega) | (simp; omega)) (by first | with_reducible assumption | omega | assumption | (simp only [List.length_map]; omega) | (simp; omega)))
      have f13 : Ev F X (.call 8 [(.agg [(.bor (l0_0 + 1) (List.map b_sisi a0.f0)), (.val (.int .i64 a0.f1))])] [] [] [(.agg [(.own 4 (List.map d_sisi a0.f0)), (.val (.int .i64 a0.f1))])]) := (e8 (a0 := a0) (by first | with_reducible assumption | omega | assumption | (simp only [List.length_map]; omega) | (simp; omega)))
      have f14 : 0 = 0 := rfl
      have f15 : (List.length (List.map d_sisi a0.f0)) = (List.length (List.map d_sisi a0.f0)) := rfl
      have f16 : Ev F X (.call 8 [(.agg [(.bor (l1_0 + 1) (List.map b_sisi a1.f0)), (.val (.int .i64 a1.f1))])] [] [] [(.agg [(.own 4 (List.map d_sisi a1.f0)), (.val (.int .i64 a1.f1))])]) := (e8 (a0 := a1) (by first | with_reducible assumption | omega | assumption | (simp only [List.length_map]; omega) | (simp; omega)))
      have f17 : 0 = 0 := rfl
      have f18 : (List.length (List.map d_sisi a1.f0)) = (List.length (List.map d_sisi a1.f0)) := rfl
      have f19 : 0 + (List.length (List.map d_sisi a0.f0)) ≤ (List.length (List.map d_sisi a0.f0)) := (by omega)
      have f20 : fullR (List.take (List.length (List.map d_sisi a0.f0)) (List.drop 0 (List.map d_sisi a0.f0))) = true := (ft_sisi _ _ _)
      have f21 : toBR (List.take (List.length (List.map d_sisi a0.f0)) (List.drop 0 (List.map d_sisi a0.f0))) = (List.map b_sisi a0.f0) := (tb_sisi _)
      have f22 : 0 + (List.length (List.map d_sisi a1.f0)) ≤ (List.length (List.map d_sisi a1.f0)) := (by omega)
      have f23 : fullR (List.take (List.length (List.map d_sisi a1.f0)) (List.drop 0 (List.map d_sisi a1.f0))) = true := (ft_sisi _ _ _)
      have f24 : toBR (List.take (List.length (List.map d_sisi a1.f0)) (List.drop 0 (List.map d_sisi a1.f0))) = (List.map b_sisi a1.f0) := (tb_sisi _)
      have f25 : Ev F X (.call 9 [(.agg [(.bor 0 (List.map b_sisi a0.f0)), (.val (.int .i64 a0.f1))]), (.agg [(.bor 0 (List.map b_sisi a1.f0)), (.val (.int .i64 a1.f1))])] [] [] [(.one (.val (.bool (m9 a0 a1))))]) := (e9 (a0 := a0) (a1 := a1) (by first | with_reducible assumption | omega | assumption | (simp only [List.length_map]; omega) | (simp; omega)) (by first | with_reducible assumption | omega | assumption | (simp only [List.length_map]; omega) | (simp; omega)))
      by_cases h2 : (!((m9 a0 a1) == (m7 a0 a1))) = true
      · try simp only [if_pos h2]
        exact callP_ok (ps := []) (os := []) (rs := [(.one (.val (.bool false)))]) (by kernel_rfl) (.r 13 [] [] f0 (.f (nt h0) (.h 20 (.b false) (.r 26 [] [] f2 (.f (nt h1) (.h 33 (.b false) (.r 37 [] [] f4 (.r 41 [] [] f5 (.f f6 (.f f7 (.f f8 (.f f9 (.f f10 (.f f11 (.r 43 [] [(List.map b_sisi a0.f0), (List.map b_sisi a1.f0)] f12 (.r 49 [] [] f13 (.f f14 (.f f15 (.r 57 [] [] f16 (.f f17 (.f f18 (.f f19 (.f f20 (.f f21 (.f f22 (.f f23 (.f f24 (.r 67 [] [(List.map b_sisi a0.f0), (List.map b_sisi a1.f0)] f25 (.f h2 (.h 76 (.b true) .nil))))))))))))))))))))))))))))))
      · try simp only [if_neg h2]
        have f27 : Ev F X (.call 8 [(.agg [(.bor (l0_0 + 1) (List.map b_sisi a0.f0)), (.val (.int .i64 a0.f1))])] [] [] [(.agg [(.own 4 (List.map d_sisi a0.f0)), (.val (.int .i64 a0.f1))])]) := (e8 (a0 := a0) (by first | with_reducible assumption | omega | assumption | (simp only [List.length_map]; omega) | (simp; omega)))
        have f28 : 0 + (List.length (List.map d_sisi a0.f0)) ≤ (List.length (List.map d_sisi a0.f0)) := (by omega)
        have f29 : fullR (List.take (List.length (List.map d_sisi a0.f0)) (List.drop 0 (List.map d_sisi a0.f0))) = true := (ft_sisi _ _ _)
        have f30 : toBR (List.take (List.length (List.map d_sisi a0.f0)) (List.drop 0 (List.map d_sisi a0.f0))) = (List.map b_sisi a0.f0) := (tb_sisi _)
        have f31 : 0 + (List.length (List.map d_sisi a0.f0)) ≤ (List.length (List.map d_sisi a0.f0)) := (by omega)
        have f32 : fullR (List.take (List.length (List.map d_sisi a0.f0)) (List.drop 0 (List.map d_sisi a0.f0))) = true := (ft_sisi _ _ _)
        have f33 : toBR (List.take (List.length (List.map d_sisi a0.f0)) (List.drop 0 (List.map d_sisi a0.f0))) = (List.map b_sisi a0.f0) := (tb_sisi _)
        have f34 : Ev F X (.call 10 [(.agg [(.bor 0 (List.map b_sisi a0.f0)), (.val (.int .i64 a0.f1))]), (.agg [(.bor 0 (List.map b_sisi a0.f0)), (.val (.int .i64 a0.f1))])] [] [] [(.one (.val (.bool (m10 a0 a0))))]) := (e10 (a0 := a0) (a1 := a0) (by first | with_reducible assumption | omega | assumption | (simp only [List.length_map]; omega) | (simp; omega)) (by first | with_reducible assumption | omega | assumption | (simp only [List.length_map]; omega) | (simp; omega)))
        by_cases h3 : (!(m10 a0 a0)) = true
        · try simp only [if_pos h3]
          exact callP_ok (ps := []) (os := []) (rs := [(.one (.val (.bool false)))]) (by kernel_rfl) (.r 13 [] [] f0 (.f (nt h0) (.h 20 (.b false) (.r 26 [] [] f2 (.f (nt h1) (.h 33 (.b false) (.r 37 [] [] f4 (.r 41 [] [] f5 (.f f6 (.f f7 (.f f8 (.f f9 (.f f10 (.f f11 (.r 43 [] [(List.map b_sisi a0.f0), (List.map b_sisi a1.f0)] f12 (.r 49 [] [] f13 (.f f14 (.f f15 (.r 57 [] [] f16 (.f f17 (.f f18 (.f f19 (.f f20 (.f f21 (.f f22 (.f f23 (.f f24 (.r 67 [] [(List.map b_sisi a0.f0), (List.map b_sisi a1.f0)] f25 (.f (nt h2) (.h 76 (.b false) (.r 82 [] [] f27 (.f f28 (.f f29 (.f f30 (.f f31 (.f f32 (.f f33 (.r 84 [] [(List.map b_sisi a0.f0), (List.map b_sisi a0.f0)] f34 (.f h3 (.h 87 (.b true) .nil))))))))))))))))))))))))))))))))))))))))
        · try simp only [if_neg h3]
          have f36 : Ev F X (.call 8 [(.agg [(.bor (l1_0 + 1) (List.map b_sisi a1.f0)), (.val (.int .i64 a1.f1))])] [] [] [(.agg [(.own 4 (List.map d_sisi a1.f0)), (.val (.int .i64 a1.f1))])]) := (e8 (a0 := a1) (by first | with_reducible assumption | omega | assumption | (simp only [List.length_map]; omega) | (simp; omega)))
          have f37 : 0 + (List.length (List.map d_sisi a1.f0)) ≤ (List.length (List.map d_sisi a1.f0)) := (by omega)
          have f38 : fullR (List.take (List.length (List.map d_sisi a1.f0)) (List.drop 0 (List.map d_sisi a1.f0))) = true := (ft_sisi _ _ _)
          have f39 : toBR (List.take (List.length (List.map d_sisi a1.f0)) (List.drop 0 (List.map d_sisi a1.f0))) = (List.map b_sisi a1.f0) := (tb_sisi _)
          have f40 : 0 + (List.length (List.map d_sisi a1.f0)) ≤ (List.length (List.map d_sisi a1.f0)) := (by omega)
          have f41 : fullR (List.take (List.length (List.map d_sisi a1.f0)) (List.drop 0 (List.map d_sisi a1.f0))) = true := (ft_sisi _ _ _)
          have f42 : toBR (List.take (List.length (List.map d_sisi a1.f0)) (List.drop 0 (List.map d_sisi a1.f0))) = (List.map b_sisi a1.f0) := (tb_sisi _)
          have f43 : Ev F X (.call 10 [(.agg [(.bor 0 (List.map b_sisi a1.f0)), (.val (.int .i64 a1.f1))]), (.agg [(.bor 0 (List.map b_sisi a1.f0)), (.val (.int .i64 a1.f1))])] [] [] [(.one (.val (.bool (m10 a1 a1))))]) := (e10 (a0 := a1) (a1 := a1) (by first | with_reducible assumption | omega | assumption | (simp only [List.length_map]; omega) | (simp; omega)) (by first | with_reducible assumption | omega | assumption | (simp only [List.length_map]; omega) | (simp; omega)))
          by_cases h4 : (!(m10 a1 a1)) = true
          · try simp only [if_pos h4]
            exact callP_ok (ps := []) (os := []) (rs := [(.one (.val (.bool false)))]) (by kernel_rfl) (.r 13 [] [] f0 (.f (nt h0) (.h 20 (.b false) (.r 26 [] [] f2 (.f (nt h1) (.h 33 (.b false) (.r 37 [] [] f4 (.r 41 [] [] f5 (.f f6 (.f f7 (.f f8 (.f f9 (.f f10 (.f f11 (.r 43 [] [(List.map b_sisi a0.f0), (List.map b_sisi a1.f0)] f12 (.r 49 [] [] f13 (.f f14 (.f f15 (.r 57 [] [] f16 (.f f17 (.f f18 (.f f19 (.f f20 (.f f21 (.f f22 (.f f23 (.f f24 (.r 67 [] [(List.map b_sisi a0.f0), (List.map b_sisi a1.f0)] f25 (.f (nt h2) (.h 76 (.b false) (.r 82 [] [] f27 (.f f28 (.f f29 (.f f30 (.f f31 (.f f32 (.f f33 (.r 84 [] [(List.map b_sisi a0.f0), (List.map b_sisi a0.f0)] f34 (.f (nt h3) (.h 87 (.b false) (.r 93 [] [] f36 (.f f37 (.f f38 (.f f39 (.f f40 (.f f41 (.f f42 (.r 95 [] [(List.map b_sisi a1.f0), (List.map b_sisi a1.f0)] f43 (.f h4 (.h 98 (.b true) .nil))))))))))))))))))))))))))))))))))))))))))))))))))
          · try simp only [if_neg h4]
            exact callP_ok (ps := []) (os := []) (rs := [(.one (.val (.bool true)))]) (by kernel_rfl) (.r 13 [] [] f0 (.f (nt h0) (.h 20 (.b false) (.r 26 [] [] f2 (.f (nt h1) (.h 33 (.b false) (.r 37 [] [] f4 (.r 41 [] [] f5 (.f f6 (.f f7 (.f f8 (.f f9 (.f f10 (.f f11 (.r 43 [] [(List.map b_sisi a0.f0), (List.map b_sisi a1.f0)] f12 (.r 49 [] [] f13 (.f f14 (.f f15 (.r 57 [] [] f16 (.f f17 (.f f18 (.f f19 (.f f20 (.f f21 (.f f22 (.f f23 (.f f24 (.r 67 [] [(List.map b_sisi a0.f0), (List.map b_sisi a1.f0)] f25 (.f (nt h2) (.h 76 (.b false) (.r 82 [] [] f27 (.f f28 (.f f29 (.f f30 (.f f31 (.f f32 (.f f33 (.r 84 [] [(List.map b_sisi a0.f0), (List.map b_sisi a0.f0)] f34 (.f (nt h3) (.h 87 (.b false) (.r 93 [] [] f36 (.f f37 (.f f38 (.f f39 (.f f40 (.f f41 (.f f42 (.r 95 [] [(List.map b_sisi a1.f0), (List.map b_sisi a1.f0)] f43 (.f (nt h4) (.h 98 (.b false) .nil))))))))))))))))))))))))))))))))))))))))))))))))))
theorem X_ok (f : FuncId) (args : List SV) (rs : List Ret) (h : X f args rs) : CallOK Try.prog f args [] [] rs := h.elim
end Go.Proofs.Ytcbnpfnebinbkaa.SameServers
