/- What the functions compute. -/
import Derived.Test.YtfmkbpiobddhdaaDoorELoseRewardD
import Derived.KernelRfl
namespace Go.Proofs.YtfmkbpiobddhdaaDoor.LoseReward
open Go Go.Proofs.YtfmkbpiobddhdaaDoor.V
set_option linter.unusedVariables false
set_option linter.unusedSimpArgs false
set_option maxRecDepth 20000
open List (length_replicate length_map length_set length_append length_cons length_nil length_take length_drop take_of_length_le map_take map_drop map_set append_assoc getElem?_map map length take drop getD set)
attribute [local simp] toBR_si fullR_si pureR_si lenB_si lenD_si fromBR_si copy_si toBR_R fullR_R pureR_R lenB_R lenD_R toBR_B fullR_B pureR_B lenB_B lenD_B toBR_i fullR_i pureR_i lenB_i lenD_i fromBR_i copy_i toBR_b fullR_b pureR_b lenB_b lenD_b fromBR_b copy_b toBR_C fullR_C pureR_C lenB_C lenD_C toBR_LsiE fullR_LsiE pureR_LsiE lenB_LsiE lenD_LsiE toBR_Q fullR_Q pureR_Q lenB_Q lenD_Q toBR_s fullR_s pureR_s lenB_s lenD_s fromBR_s copy_s toBR_y fullR_y pureR_y lenB_y lenD_y fromBR_y copy_y
/-! marks of loop.example/g00539/laws.markLedgerResult -/
theorem mh28 (a : K_C) (k : Int) (h0 : 0 ≤ k) (h1 : k + (wt_C a : Nat) ≤ 4611686018427387904) : m29 (K_C.mk a.f0 a.f1 a.f2 a.f3 (o28_2 a k) (o28_1 a k) (o28_0 a k) a.f7 a.f8 a.f9) k = m28 a k ∧ k ≤ m28 a k ∧ m28 a k ≤ k + (wt_C a : Nat) := by
  simp only [wt_C] at h1 ⊢
  have s0 := mh27 (K_B.mk a.f2 a.f3 a.f4 a.f5 a.f6 a.f7 a.f8 a.f9) k (by omega) (by first | omega | (simp only [wt_si, wt_R, wt_B, wt_i, wt_b, wt_C, wt_LsiE, wt_Q, wt_s, wt_y] at *; omega) | (simp only [length_map, length_nil, List.map_nil, List.sum_nil] at *; omega))
  have t0 := s0.1
  try simp only [length_map, wt_si, wt_R, wt_B, wt_i, wt_b, wt_C, wt_LsiE, wt_Q, wt_s, wt_y] at *
  unfold m29 m28 o28_0 o28_1 o28_2
  simp (disch := omega) only [wrap64d, t0]
  refine ⟨?_, by omega, by omega⟩
  (repeat' rw [if_neg (by first | (simp; done) | (simp only [decide_eq_true_eq]; omega))]) <;> rfl
theorem ck106 (F : FuncId → Option VFun) (X : Ext) : CkD F X 28 46 2 24 [(.val (.string (⟨#[]⟩ : ByteArray))), (.val (.int .i64 0))] := by
  intro l rows h1 h2
  exact codeH_ok (t := 0) (hs := []) (q := [0 + 0 ≤ 0, (([] : List (List D)) ++ fromBR l rows).length * 24 ≤ 70368744177664, ∀ r ∈ fromBR l rows, r.length = 2]) (by rfl) ⟨by simp, by simpa using h1, h2, trivial⟩
theorem X_ok (f : FuncId) (args : List SV) (rs : List Ret) (h : X f args rs) : CallOK Tryd.prog f args [] [] rs := by
  rcases h with ⟨rfl, h⟩ | ⟨rfl, h⟩
  · exact clone_ok (X := fun _ _ _ => False) (T := 28) (E := 46) (k := 2) (kb := 24) (zero := [(.val (.string (⟨#[]⟩ : ByteArray))), (.val (.int .i64 0))]) (by kernel_rfl) F_ok (fun _ _ _ h => h.elim) (by kernel_rfl) (ck106 _ _) h
  · obtain ⟨s, c, h1, h2, h3, rfl, rfl⟩ := h
    exact trim_ok s c h1 h2 h3
end Go.Proofs.YtfmkbpiobddhdaaDoor.LoseReward
