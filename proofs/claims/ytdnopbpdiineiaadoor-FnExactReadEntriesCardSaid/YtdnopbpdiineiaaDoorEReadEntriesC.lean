/- What the functions compute. -/
import Derived.Test.YtdnopbpdiineiaaDoorEReadEntriesB
import Derived.KernelRfl
namespace Go.Proofs.YtdnopbpdiineiaaDoor.ReadEntries
open Go Go.Proofs.YtdnopbpdiineiaaDoor.V
set_option linter.unusedVariables false
set_option linter.unusedSimpArgs false
set_option maxRecDepth 20000
open List (length_replicate length_map length_set length_append length_cons length_nil length_take length_drop take_of_length_le map_take map_drop map_set append_assoc getElem?_map map length take drop getD set)
attribute [local simp] strInts_len byteRows_len toBR_y fullR_y pureR_y lenB_y lenD_y fromBR_y copy_y toBR_LyE fullR_LyE pureR_LyE lenB_LyE lenD_LyE toBR_b fullR_b pureR_b lenB_b lenD_b fromBR_b copy_b toBR_isii fullR_isii pureR_isii lenB_isii lenD_isii fromBR_isii copy_isii toBR_iiLisiiE fullR_iiLisiiE pureR_iiLisiiE lenB_iiLisiiE lenD_iiLisiiE toBR_i fullR_i pureR_i lenB_i lenD_i fromBR_i copy_i toBR_LLyEE fullR_LLyEE pureR_LLyEE lenB_LLyEE lenD_LLyEE toBR_s fullR_s pureR_s lenB_s lenD_s fromBR_s copy_s toBR_LisiiE fullR_LisiiE pureR_LisiiE lenB_LisiiE lenD_LisiiE
def m131_0 (a0 : (List Int)) : K_isii :=
 if (decide (((length (map b_y a0)) : Int) < 1)) = true then (K_isii.mk 0 (⟨#[]⟩ : ByteArray) 0 0) else
 if (decide (((length (map b_y a0)) : Int) < (w64 ((w64 ((getD a0 0 0))) + 3)))) = true then (K_isii.mk 0 (⟨#[]⟩ : ByteArray) 0 0) else
  if (decide ((getD a0 0 0) < 10)) = true then (K_isii.mk 0 (⟨#[]⟩ : ByteArray) 0 0) else
   if (((length (take (Int.toNat (w64 (1 + (w64 ((getD a0 0 0))))) - Int.toNat 1) (drop 1 (map b_y a0)))) : Int) != (w64 (10 + (w64 ((getD (take (Int.toNat (w64 (1 + (w64 ((getD a0 0 0))))) - Int.toNat 1) (drop 1 a0)) 1 0)))))) = true then (K_isii.mk 0 (⟨#[]⟩ : ByteArray) 0 0) else
    (K_isii.mk (w64 ((getD (take (Int.toNat (w64 (1 + (w64 ((getD a0 0 0))))) - Int.toNat 1) (drop 1 a0)) 0 0))) (bytesOf (take (Int.toNat (w64 (2 + (w64 ((getD (take (Int.toNat (w64 (1 + (w64 ((getD a0 0 0))))) - Int.toNat 1) (drop 1 a0)) 1 0))))) - Int.toNat 2) (drop 2 (take (Int.toNat (w64 (1 + (w64 ((getD a0 0 0))))) - Int.toNat 1) (drop 1 a0))))) (m152 (drop (Int.toNat (w64 (2 + (w64 ((getD (take (Int.toNat (w64 (1 + (w64 ((getD a0 0 0))))) - Int.toNat 1) (drop 1 a0)) 1 0)))))) (take (Int.toNat (w64 (1 + (w64 ((getD a0 0 0))))) - Int.toNat 1) (drop 1 a0)))) (m152 (drop (Int.toNat (w64 (6 + (w64 ((getD (take (Int.toNat (w64 (1 + (w64 ((getD a0 0 0))))) - Int.toNat 1) (drop 1 a0)) 1 0)))))) (take (Int.toNat (w64 (1 + (w64 ((getD a0 0 0))))) - Int.toNat 1) (drop 1 a0)))))
def m131_1 (a0 : (List Int)) : Bool :=
 if (decide (((length (map b_y a0)) : Int) < 1)) = true then false else
 if (decide (((length (map b_y a0)) : Int) < (w64 ((w64 ((getD a0 0 0))) + 3)))) = true then false else
  if (decide ((getD a0 0 0) < 10)) = true then false else
   if (((length (take (Int.toNat (w64 (1 + (w64 ((getD a0 0 0))))) - Int.toNat 1) (drop 1 (map b_y a0)))) : Int) != (w64 (10 + (w64 ((getD (take (Int.toNat (w64 (1 + (w64 ((getD a0 0 0))))) - Int.toNat 1) (drop 1 a0)) 1 0)))))) = true then false else
    if ((m62 (K_isii.mk (w64 ((getD (take (Int.toNat (w64 (1 + (w64 ((getD a0 0 0))))) - Int.toNat 1) (drop 1 a0)) 0 0))) (bytesOf (take (Int.toNat (w64 (2 + (w64 ((getD (take (Int.toNat (w64 (1 + (w64 ((getD a0 0 0))))) - Int.toNat 1) (drop 1 a0)) 1 0))))) - Int.toNat 2) (drop 2 (take (Int.toNat (w64 (1 + (w64 ((getD a0 0 0))))) - Int.toNat 1) (drop 1 a0))))) (m152 (drop (Int.toNat (w64 (2 + (w64 ((getD (take (Int.toNat (w64 (1 + (w64 ((getD a0 0 0))))) - Int.toNat 1) (drop 1 a0)) 1 0)))))) (take (Int.toNat (w64 (1 + (w64 ((getD a0 0 0))))) - Int.toNat 1) (drop 1 a0)))) (m152 (drop (Int.toNat (w64 (6 + (w64 ((getD (take (Int.toNat (w64 (1 + (w64 ((getD a0 0 0))))) - Int.toNat 1) (drop 1 a0)) 1 0)))))) (take (Int.toNat (w64 (1 + (w64 ((getD a0 0 0))))) - Int.toNat 1) (drop 1 a0)))))) != 0) = true then false else
     ((bytesOf (take (Int.toNat ((length (map d_y (m63 (K_isii.mk (w64 ((getD (take (Int.toNat (w64 (1 + (w64 ((getD a0 0 0))))) - Int.toNat 1) (drop 1 a0)) 0 0))) (bytesOf (take (Int.toNat (w64 (2 + (w64 ((getD (take (Int.toNat (w64 (1 + (w64 ((getD a0 0 0))))) - Int.toNat 1) (drop 1 a0)) 1 0))))) - Int.toNat 2) (drop 2 (take (Int.toNat (w64 (1 + (w64 ((getD a0 0 0))))) - Int.toNat 1) (drop 1 a0))))) (m152 (drop (Int.toNat (w64 (2 + (w64 ((getD (take (Int.toNat (w64 (1 + (w64 ((getD a0 0 0))))) - Int.toNat 1) (drop 1 a0)) 1 0)))))) (take (Int.toNat (w64 (1 + (w64 ((getD a0 0 0))))) - Int.toNat 1) (drop 1 a0)))) (m152 (drop (Int.toNat (w64 (6 + (w64 ((getD (take (Int.toNat (w64 (1 + (w64 ((getD a0 0 0))))) - Int.toNat 1) (drop 1 a0)) 1 0)))))) (take (Int.toNat (w64 (1 + (w64 ((getD a0 0 0))))) - Int.toNat 1) (drop 1 a0)))))))) : Int)) a0)).toList == (bytesOf (m63 (K_isii.mk (w64 ((getD (take (Int.toNat (w64 (1 + (w64 ((getD a0 0 0))))) - Int.toNat 1) (drop 1 a0)) 0 0))) (bytesOf (take (Int.toNat (w64 (2 + (w64 ((getD (take (Int.toNat (w64 (1 + (w64 ((getD a0 0 0))))) - Int.toNat 1) (drop 1 a0)) 1 0))))) - Int.toNat 2) (drop 2 (take (Int.toNat (w64 (1 + (w64 ((getD a0 0 0))))) - Int.toNat 1) (drop 1 a0))))) (m152 (drop (Int.toNat (w64 (2 + (w64 ((getD (take (Int.toNat (w64 (1 + (w64 ((getD a0 0 0))))) - Int.toNat 1) (drop 1 a0)) 1 0)))))) (take (Int.toNat (w64 (1 + (w64 ((getD a0 0 0))))) - Int.toNat 1) (drop 1 a0)))) (m152 (drop (Int.toNat (w64 (6 + (w64 ((getD (take (Int.toNat (w64 (1 + (w64 ((getD a0 0 0))))) - Int.toNat 1) (drop 1 a0)) 1 0)))))) (take (Int.toNat (w64 (1 + (w64 ((getD a0 0 0))))) - Int.toNat 1) (drop 1 a0))))))).toList)
theorem e131 {l0_0 : Nat} {a0 : (List Int)} (hy0 : ∀ z ∈ a0, (0 : Int) ≤ z ∧ z ≤ 255) (hy1 : length a0 ≤ 140737488351232) : Ev F X (.call 131 [(.one (.bor l0_0 (map b_y a0)))] [] [] [(.agg [(.val (.int .i64 ((m131_0 a0).f0))), (.val (.string ((m131_0 a0).f1))), (.val (.int .i64 ((m131_0 a0).f2))), (.val (.int .i64 ((m131_0 a0).f3)))]), (.one (.val (.bool (m131_1 a0))))]) := by
 unfold m131_0 m131_1
 by_cases h0 : (decide (((length (map b_y a0)) : Int) < 1)) = true
 ·try simp only [if_pos h0]
  exact cp (by kernel_rfl) (.m 9 h0 (.y 18 (.y 20 (.y 22 (.y 24 (.y 26 (.y 28 (.y 30 (.y 32 (.y 35 .nil))))))))))
 ·try simp only [if_neg h0]
  have f4 : 0 ≤ (0 : Int) := (by omega)
  have f5 : (map b_y a0)[0]? = some [(.val (.int .u8 (getD a0 0 0)))] := (by rw [getElem?_map, getD_at a0 0 0 (by first | exact True.intro | with_reducible rfl | with_reducible assumption | omega | (exact ⟨(by (obtain ⟨g0, g1, e0, e1, e2, e3, e4, e5, e6, e7, e8, e9⟩ := nums a0 hy0; simp only [decide_eq_true_eq, bne_iff_ne, ne_eq, beq_iff_eq, Decidable.not_not, length_map, length_take, length_drop, bo_size, pack_exact] at *; omega)), (by first | exact lenB_y _ | (intro r hr; exact lenB_y _ r (List.mem_of_mem_drop (List.mem_of_mem_take hr))))⟩) | (obtain ⟨g0, g1, e0, e1, e2, e3, e4, e5, e6, e7, e8, e9⟩ := nums a0 hy0; simp only [decide_eq_true_eq, bne_iff_ne, ne_eq, beq_iff_eq, Decidable.not_not, length_map, length_take, length_drop, bo_size, pack_exact] at *; omega) | (simp only [← map_drop, ← map_take, fromBR_y]; exact ints_y _) | (simp only [List.drop_zero, ← map_take, fromBR_y]; exact ints_y _) | (simp only [List.drop_zero, List.take_length]; exact ints_y _) | (simp only [decide_eq_true_eq] at *; omega) | (simp only [length_map]; omega) | (simp [four_len]; omega) | (simp [take_of_length_le, four_len]; done) | assumption | trivial | (simp [*, four_len, byteRows_eq, ints_y]; done))]; rfl)
  by_cases h1 : (decide (((length (map b_y a0)) : Int) < (w64 ((w64 ((getD a0 0 0))) + 3)))) = true
  ·try simp only [if_pos h1]
   exact cp (by kernel_rfl) (.n 4 h0 (.f f4 (.f f5 (.n 3 h0 (.f trivial (.n 2 h0 (.m 5 h1 (.z 18 (.z 20 (.z 22 (.z 24 (.h 25 (.row [(.val (.int .u8 (getD a0 0 0)))]) (.z 26 (.z 28 (.z 30 (.z 32 (.z 35 (.y 38 (.y 40 (.y 42 (.y 44 (.y 47 .nil))))))))))))))))))))))
  ·try simp only [if_neg h1]
   have f14 : 0 ≤ (0 : Int) := (by with_reducible assumption)
   have f15 : (map b_y a0)[0]? = some [(.val (.int .u8 (getD a0 0 0)))] := (by rw [getElem?_map, getD_at a0 0 0 (by first | exact True.intro | with_reducible rfl | with_reducible assumption | omega | (exact ⟨(by (obtain ⟨g0, g1, e0, e1, e2, e3, e4, e5, e6, e7, e8, e9⟩ := nums a0 hy0; simp only [decide_eq_true_eq, bne_iff_ne, ne_eq, beq_iff_eq, Decidable.not_not, length_map, length_take, length_drop, bo_size, pack_exact] at *; omega)), (by first | exact lenB_y _ | (intro r hr; exact lenB_y _ r (List.mem_of_mem_drop (List.mem_of_mem_take hr))))⟩) | (obtain ⟨g0, g1, e0, e1, e2, e3, e4, e5, e6, e7, e8, e9⟩ := nums a0 hy0; simp only [decide_eq_true_eq, bne_iff_ne, ne_eq, beq_iff_eq, Decidable.not_not, length_map, length_take, length_drop, bo_size, pack_exact] at *; omega) | (simp only [← map_drop, ← map_take, fromBR_y]; exact ints_y _) | (simp only [List.drop_zero, ← map_take, fromBR_y]; exact ints_y _) | (simp only [List.drop_zero, List.take_length]; exact ints_y _) | (simp only [decide_eq_true_eq] at *; omega) | (simp only [length_map]; omega) | (simp [four_len]; omega) | (simp [take_of_length_le, four_len]; done) | assumption | trivial | (simp [*, four_len, byteRows_eq, ints_y]; done))]; rfl)
   by_cases h2 : (decide ((getD a0 0 0) < 10)) = true
   ·try simp only [if_pos h2]
    exact cp (by kernel_rfl) (.n 4 h0 (.f f4 (.f f5 (.n 3 h0 (.f trivial (.n 2 h0 (.n 2 h1 (.f f14 (.f f15 (.n 3 h1 (.f h2 (.z 18 (.z 20 (.z 22 (.z 24 (.h 25 (.row [(.val (.int .u8 (getD a0 0 0)))]) (.z 26 (.z 28 (.z 30 (.z 32 (.z 35 (.z 38 (.z 40 (.h 41 (.row [(.val (.int .u8 (getD a0 0 0)))]) (.z 42 (.z 44 (.z 47 (.y 48 .nil))))))))))))))))))))))))))))
   ·try simp only [if_neg h2]
    have f20 : 0 ≤ (0 : Int) := (by with_reducible assumption)
    have f21 : (map b_y a0)[0]? = some [(.val (.int .u8 (getD a0 0 0)))] := (by rw [getElem?_map, getD_at a0 0 0 (by first | exact True.intro | with_reducible rfl | with_reducible assumption | omega | (exact ⟨(by (obtain ⟨g0, g1, e0, e1, e2, e3, e4, e5, e6, e7, e8, e9⟩ := nums a0 hy0; simp only [decide_eq_true_eq, bne_iff_ne, ne_eq, beq_iff_eq, Decidable.not_not, length_map, length_take, length_drop, bo_size, pack_exact] at *; omega)), (by first | exact lenB_y _ | (intro r hr; exact lenB_y _ r (List.mem_of_mem_drop (List.mem_of_mem_take hr))))⟩) | (obtain ⟨g0, g1, e0, e1, e2, e3, e4, e5, e6, e7, e8, e9⟩ := nums a0 hy0; simp only [decide_eq_true_eq, bne_iff_ne, ne_eq, beq_iff_eq, Decidable.not_not, length_map, length_take, length_drop, bo_size, pack_exact] at *; omega) | (simp only [← map_drop, ← map_take, fromBR_y]; exact ints_y _) | (simp only [List.drop_zero, ← map_take, fromBR_y]; exact ints_y _) | (simp only [List.drop_zero, List.take_length]; exact ints_y _) | (simp only [decide_eq_true_eq] at *; omega) | (simp only [length_map]; omega) | (simp [four_len]; omega) | (simp [take_of_length_le, four_len]; done) | assumption | trivial | (simp [*, four_len, byteRows_eq, ints_y]; done))]; rfl)
    have f23 : (0 ≤ (1 : Int) ∧ (1 : Int) ≤ (w64 (1 + (w64 ((getD a0 0 0))))) ∧ (w64 (1 + (w64 ((getD a0 0 0))))) ≤ ((length (map b_y a0)) : Int)) ∧ ∀ r ∈ ((map b_y a0) : List (List B)), r.length = 1 := (by exact ⟨(by (obtain ⟨g0, g1, e0, e1, e2, e3, e4, e5, e6, e7, e8, e9⟩ := nums a0 hy0; simp only [decide_eq_true_eq, bne_iff_ne, ne_eq, beq_iff_eq, Decidable.not_not, length_map, length_take, length_drop, bo_size, pack_exact] at *; omega)), (by first | exact lenB_y _ | (intro r hr; exact lenB_y _ r (List.mem_of_mem_drop (List.mem_of_mem_take hr))))⟩)
    have f24 : 0 ≤ (1 : Int) := (by omega)
    have f25 : (take (Int.toNat (w64 (1 + (w64 ((getD a0 0 0))))) - Int.toNat 1) (drop 1 (map b_y a0)))[1]? = some [(.val (.int .u8 (getD (take (Int.toNat (w64 (1 + (w64 ((getD a0 0 0))))) - Int.toNat 1) (drop 1 a0)) 1 0)))] := (by simp only [← map_drop, ← map_take]; rw [getElem?_map, getD_at (take (Int.toNat (w64 (1 + (w64 ((getD a0 0 0))))) - Int.toNat 1) (drop 1 a0)) 1 0 (by obtain ⟨g0, g1, e0, e1, e2, e3, e4, e5, e6, e7, e8, e9⟩ := nums a0 hy0; simp only [decide_eq_true_eq, bne_iff_ne, ne_eq, beq_iff_eq, Decidable.not_not, length_map, length_take, length_drop, bo_size, pack_exact] at *; omega)]; rfl)
    by_cases h3 : (((length (take (Int.toNat (w64 (1 + (w64 ((getD a0 0 0))))) - Int.toNat 1) (drop 1 (map b_y a0)))) : Int) != (w64 (10 + (w64 ((getD (take (Int.toNat (w64 (1 + (w64 ((getD a0 0 0))))) - Int.toNat 1) (drop 1 a0)) 1 0)))))) = true
    ·try simp only [if_pos h3]
     exact cp (by kernel_rfl) (.n 4 h0 (.f f4 (.f f5 (.n 3 h0 (.f trivial (.n 2 h0 (.n 2 h1 (.f f14 (.f f15 (.n 3 h1 (.g h2 (.f f20 (.f f21 (.f trivial (.f f23 (.f f24 (.f f25 (.f trivial (.f h3 (.z 18 (.z 20 (.z 22 (.z 24 (.h 25 (.row [(.val (.int .u8 (getD a0 0 0)))]) (.z 26 (.z 28 (.z 30 (.z 32 (.z 35 (.z 38 (.z 40 (.h 41 (.row [(.val (.int .u8 (getD a0 0 0)))]) (.z 42 (.z 44 (.z 47 (.z 48 (.h 54 (.row [(.val (.int .u8 (getD a0 0 0)))]) (.h 68 (.row [(.val (.int .u8 (getD (take (Int.toNat (w64 (1 + (w64 ((getD a0 0 0))))) - Int.toNat 1) (drop 1 a0)) 1 0)))]) (.y 85 .nil)))))))))))))))))))))))))))))))))))))))
    ·try simp only [if_neg h3]
     have f28 : 0 ≤ (0 : Int) := (by with_reducible assumption)
     have f29 : (take (Int.toNat (w64 (1 + (w64 ((getD a0 0 0))))) - Int.toNat 1) (drop 1 (map b_y a0)))[0]? = some [(.val (.int .u8 (getD (take (Int.toNat (w64 (1 + (w64 ((getD a0 0 0))))) - Int.toNat 1) (drop 1 a0)) 0 0)))] := (by simp only [← map_drop, ← map_take]; rw [getElem?_map, getD_at (take (Int.toNat (w64 (1 + (w64 ((getD a0 0 0))))) - Int.toNat 1) (drop 1 a0)) 0 0 (by obtain ⟨g0, g1, e0, e1, e2, e3, e4, e5, e6, e7, e8, e9⟩ := nums a0 hy0; simp only [decide_eq_true_eq, bne_iff_ne, ne_eq, beq_iff_eq, Decidable.not_not, length_map, length_take, length_drop, bo_size, pack_exact] at *; omega)]; rfl)
     have f31 : (0 ≤ (2 : Int) ∧ (2 : Int) ≤ (w64 (2 + (w64 ((getD (take (Int.toNat (w64 (1 + (w64 ((getD a0 0 0))))) - Int.toNat 1) (drop 1 a0)) 1 0))))) ∧ (w64 (2 + (w64 ((getD (take (Int.toNat (w64 (1 + (w64 ((getD a0 0 0))))) - Int.toNat 1) (drop 1 a0)) 1 0))))) ≤ ((length (take (Int.toNat (w64 (1 + (w64 ((getD a0 0 0))))) - Int.toNat 1) (drop 1 (map b_y a0)))) : Int)) ∧ ∀ r ∈ ((take (Int.toNat (w64 (1 + (w64 ((getD a0 0 0))))) - Int.toNat 1) (drop 1 (map b_y a0))) : List (List B)), r.length = 1 := (by exact ⟨(by (obtain ⟨g0, g1, e0, e1, e2, e3, e4, e5, e6, e7, e8, e9⟩ := nums a0 hy0; simp only [decide_eq_true_eq, bne_iff_ne, ne_eq, beq_iff_eq, Decidable.not_not, length_map, length_take, length_drop, bo_size, pack_exact] at *; omega)), (by first | exact lenB_y _ | (intro r hr; exact lenB_y _ r (List.mem_of_mem_drop (List.mem_of_mem_take hr))))⟩)
     have f32 : rowsInts .u8 (fromBR l0_0 (take (Int.toNat (w64 (2 + (w64 ((getD (take (Int.toNat (w64 (1 + (w64 ((getD a0 0 0))))) - Int.toNat 1) (drop 1 a0)) 1 0))))) - Int.toNat 2) (drop 2 (take (Int.toNat (w64 (1 + (w64 ((getD a0 0 0))))) - Int.toNat 1) (drop 1 (map b_y a0)))))) = some (take (Int.toNat (w64 (2 + (w64 ((getD (take (Int.toNat (w64 (1 + (w64 ((getD a0 0 0))))) - Int.toNat 1) (drop 1 a0)) 1 0))))) - Int.toNat 2) (drop 2 (take (Int.toNat (w64 (1 + (w64 ((getD a0 0 0))))) - Int.toNat 1) (drop 1 a0)))) := (by simp only [← map_drop, ← map_take, fromBR_y]; exact ints_y _)
     have f34 : (0 ≤ (w64 (2 + (w64 ((getD (take (Int.toNat (w64 (1 + (w64 ((getD a0 0 0))))) - Int.toNat 1) (drop 1 a0)) 1 0))))) ∧ (w64 (2 + (w64 ((getD (take (Int.toNat (w64 (1 + (w64 ((getD a0 0 0))))) - Int.toNat 1) (drop 1 a0)) 1 0))))) ≤ ((length (take (Int.toNat (w64 (1 + (w64 ((getD a0 0 0))))) - Int.toNat 1) (drop 1 (map b_y a0)))) : Int) ∧ ((length (take (Int.toNat (w64 (1 + (w64 ((getD a0 0 0))))) - Int.toNat 1) (drop 1 (map b_y a0)))) : Int) ≤ ((length (take (Int.toNat (w64 (1 + (w64 ((getD a0 0 0))))) - Int.toNat 1) (drop 1 (map b_y a0)))) : Int)) ∧ ∀ r ∈ ((take (Int.toNat (w64 (1 + (w64 ((getD a0 0 0))))) - Int.toNat 1) (drop 1 (map b_y a0))) : List (List B)), r.length = 1 := (by exact ⟨(by (obtain ⟨g0, g1, e0, e1, e2, e3, e4, e5, e6, e7, e8, e9⟩ := nums a0 hy0; simp only [decide_eq_true_eq, bne_iff_ne, ne_eq, beq_iff_eq, Decidable.not_not, length_map, length_take, length_drop, bo_size, pack_exact] at *; omega)), (by first | exact lenB_y _ | (intro r hr; exact lenB_y _ r (List.mem_of_mem_drop (List.mem_of_mem_take hr))))⟩)
     have f35 : Ev F X (.call 152 [(.one (.bor (l0_0 + 1) (take (Int.toNat ((length (take (Int.toNat (w64 (1 + (w64 ((getD a0 0 0))))) - Int.toNat 1) (drop 1 (map b_y a0)))) : Int) - Int.toNat (w64 (2 + (w64 ((getD (take (Int.toNat (w64 (1 + (w64 ((getD a0 0 0))))) - Int.toNat 1) (drop 1 a0)) 1 0)))))) (drop (Int.toNat (w64 (2 + (w64 ((getD (take (Int.toNat (w64 (1 + (w64 ((getD a0 0 0))))) - Int.toNat 1) (drop 1 a0)) 1 0)))))) (take (Int.toNat (w64 (1 + (w64 ((getD a0 0 0))))) - Int.toNat 1) (drop 1 (map b_y a0)))))))] [] [] [(.oi (m152 (drop (Int.toNat (w64 (2 + (w64 ((getD (take (Int.toNat (w64 (1 + (w64 ((getD a0 0 0))))) - Int.toNat 1) (drop 1 a0)) 1 0)))))) (take (Int.toNat (w64 (1 + (w64 ((getD a0 0 0))))) - Int.toNat 1) (drop 1 a0)))))]) := (by rw [show (take (Int.toNat ((length (take (Int.toNat (w64 (1 + (w64 ((getD a0 0 0))))) - Int.toNat 1) (drop 1 (map b_y a0)))) : Int) - Int.toNat (w64 (2 + (w64 ((getD (take (Int.toNat (w64 (1 + (w64 ((getD a0 0 0))))) - Int.toNat 1) (drop 1 a0)) 1 0)))))) (drop (Int.toNat (w64 (2 + (w64 ((getD (take (Int.toNat (w64 (1 + (w64 ((getD a0 0 0))))) - Int.toNat 1) (drop 1 a0)) 1 0)))))) (take (Int.toNat (w64 (1 + (w64 ((getD a0 0 0))))) - Int.toNat 1) (drop 1 (map b_y a0))))) = (map b_y (drop (Int.toNat (w64 (2 + (w64 ((getD (take (Int.toNat (w64 (1 + (w64 ((getD a0 0 0))))) - Int.toNat 1) (drop 1 a0)) 1 0)))))) (take (Int.toNat (w64 (1 + (w64 ((getD a0 0 0))))) - Int.toNat 1) (drop 1 a0)))) from by first | rfl | (simp [map_take, map_drop, four_len]; done) | (simp [byteRows_eq, map_take, map_drop, four_len]; done) | (simp [*, map_take, map_drop, four_len]; done) | (rw [take_of_length_le (by simp only [length_drop, length_take, length_map, Int.toNat_natCast]; omega)]; simp only [← map_drop, ← map_take])]; exact (e152 (a0 := (drop (Int.toNat (w64 (2 + (w64 ((getD (take (Int.toNat (w64 (1 + (w64 ((getD a0 0 0))))) - Int.toNat 1) (drop 1 a0)) 1 0)))))) (take (Int.toNat (w64 (1 + (w64 ((getD a0 0 0))))) - Int.toNat 1) (drop 1 a0)))) (by obtain ⟨g0, g1, e0, e1, e2, e3, e4, e5, e6, e7, e8, e9⟩ := nums a0 hy0; simp only [decide_eq_true_eq, bne_iff_ne, ne_eq, beq_iff_eq, Decidable.not_not, length_map, length_take, length_drop, bo_size, pack_exact] at *; omega)))
     have f37 : (0 ≤ (w64 (6 + (w64 ((getD (take (Int.toNat (w64 (1 + (w64 ((getD a0 0 0))))) - Int.toNat 1) (drop 1 a0)) 1 0))))) ∧ (w64 (6 + (w64 ((getD (take (Int.toNat (w64 (1 + (w64 ((getD a0 0 0))))) - Int.toNat 1) (drop 1 a0)) 1 0))))) ≤ ((length (take (Int.toNat (w64 (1 + (w64 ((getD a0 0 0))))) - Int.toNat 1) (drop 1 (map b_y a0)))) : Int) ∧ ((length (take (Int.toNat (w64 (1 + (w64 ((getD a0 0 0))))) - Int.toNat 1) (drop 1 (map b_y a0)))) : Int) ≤ ((length (take (Int.toNat (w64 (1 + (w64 ((getD a0 0 0))))) - Int.toNat 1) (drop 1 (map b_y a0)))) : Int)) ∧ ∀ r ∈ ((take (Int.toNat (w64 (1 + (w64 ((getD a0 0 0))))) - Int.toNat 1) (drop 1 (map b_y a0))) : List (List B)), r.length = 1 := (by exact ⟨(by (obtain ⟨g0, g1, e0, e1, e2, e3, e4, e5, e6, e7, e8, e9⟩ := nums a0 hy0; simp only [decide_eq_true_eq, bne_iff_ne, ne_eq, beq_iff_eq, Decidable.not_not, length_map, length_take, length_drop, bo_size, pack_exact] at *; omega)), (by first | exact lenB_y _ | (intro r hr; exact lenB_y _ r (List.mem_of_mem_drop (List.mem_of_mem_take hr))))⟩)
     have f38 : Ev F X (.call 152 [(.one (.bor (l0_0 + 1) (take (Int.toNat ((length (take (Int.toNat (w64 (1 + (w64 ((getD a0 0 0))))) - Int.toNat 1) (drop 1 (map b_y a0)))) : Int) - Int.toNat (w64 (6 + (w64 ((getD (take (Int.toNat (w64 (1 + (w64 ((getD a0 0 0))))) - Int.toNat 1) (drop 1 a0)) 1 0)))))) (drop (Int.toNat (w64 (6 + (w64 ((getD (take (Int.toNat (w64 (1 + (w64 ((getD a0 0 0))))) - Int.toNat 1) (drop 1 a0)) 1 0)))))) (take (Int.toNat (w64 (1 + (w64 ((getD a0 0 0))))) - Int.toNat 1) (drop 1 (map b_y a0)))))))] [] [] [(.oi (m152 (drop (Int.toNat (w64 (6 + (w64 ((getD (take (Int.toNat (w64 (1 + (w64 ((getD a0 0 0))))) - Int.toNat 1) (drop 1 a0)) 1 0)))))) (take (Int.toNat (w64 (1 + (w64 ((getD a0 0 0))))) - Int.toNat 1) (drop 1 a0)))))]) := (by rw [show (take (Int.toNat ((length (take (Int.toNat (w64 (1 + (w64 ((getD a0 0 0))))) - Int.toNat 1) (drop 1 (map b_y a0)))) : Int) - Int.toNat (w64 (6 + (w64 ((getD (take (Int.toNat (w64 (1 + (w64 ((getD a0 0 0))))) - Int.toNat 1) (drop 1 a0)) 1 0)))))) (drop (Int.toNat (w64 (6 + (w64 ((getD (take (Int.toNat (w64 (1 + (w64 ((getD a0 0 0))))) - Int.toNat 1) (drop 1 a0)) 1 0)))))) (take (Int.toNat (w64 (1 + (w64 ((getD a0 0 0))))) - Int.toNat 1) (drop 1 (map b_y a0))))) = (map b_y (drop (Int.toNat (w64 (6 + (w64 ((getD (take (Int.toNat (w64 (1 + (w64 ((getD a0 0 0))))) - Int.toNat 1) (drop 1 a0)) 1 0)))))) (take (Int.toNat (w64 (1 + (w64 ((getD a0 0 0))))) - Int.toNat 1) (drop 1 a0)))) from by first | rfl | (simp [map_take, map_drop, four_len]; done) | (simp [byteRows_eq, map_take, map_drop, four_len]; done) | (simp [*, map_take, map_drop, four_len]; done) | (rw [take_of_length_le (by simp only [length_drop, length_take, length_map, Int.toNat_natCast]; omega)]; simp only [← map_drop, ← map_take])]; exact (e152 (a0 := (drop (Int.toNat (w64 (6 + (w64 ((getD (take (Int.toNat (w64 (1 + (w64 ((getD a0 0 0))))) - Int.toNat 1) (drop 1 a0)) 1 0)))))) (take (Int.toNat (w64 (1 + (w64 ((getD a0 0 0))))) - Int.toNat 1) (drop 1 a0)))) (by obtain ⟨g0, g1, e0, e1, e2, e3, e4, e5, e6, e7, e8, e9⟩ := nums a0 hy0; simp only [decide_eq_true_eq, bne_iff_ne, ne_eq, beq_iff_eq, Decidable.not_not, length_map, length_take, length_drop, bo_size, pack_exact] at *; omega)))
     have f39 : fullL [(.val (.int .i64 (w64 ((getD (take (Int.toNat (w64 (1 + (w64 ((getD a0 0 0))))) - Int.toNat 1) (drop 1 a0)) 0 0))))), (.val (.string (bytesOf (take (Int.toNat (w64 (2 + (w64 ((getD (take (Int.toNat (w64 (1 + (w64 ((getD a0 0 0))))) - Int.toNat 1) (drop 1 a0)) 1 0))))) - Int.toNat 2) (drop 2 (take (Int.toNat (w64 (1 + (w64 ((getD a0 0 0))))) - Int.toNat 1) (drop 1 a0))))))), (.val (.int .i64 (m152 (drop (Int.toNat (w64 (2 + (w64 ((getD (take (Int.toNat (w64 (1 + (w64 ((getD a0 0 0))))) - Int.toNat 1) (drop 1 a0)) 1 0)))))) (take (Int.toNat (w64 (1 + (w64 ((getD a0 0 0))))) - Int.toNat 1) (drop 1 a0)))))), (.val (.int .i64 (m152 (drop (Int.toNat (w64 (6 + (w64 ((getD (take (Int.toNat (w64 (1 + (w64 ((getD a0 0 0))))) - Int.toNat 1) (drop 1 a0)) 1 0)))))) (take (Int.toNat (w64 (1 + (w64 ((getD a0 0 0))))) - Int.toNat 1) (drop 1 a0))))))] = true := (by trivial)
     have f40 := e62 (l0 := 0) (a0 := (K_isii.mk (w64 ((getD (take (Int.toNat (w64 (1 + (w64 ((getD a0 0 0))))) - Int.toNat 1) (drop 1 a0)) 0 0))) (bytesOf (take (Int.toNat (w64 (2 + (w64 ((getD (take (Int.toNat (w64 (1 + (w64 ((getD a0 0 0))))) - Int.toNat 1) (drop 1 a0)) 1 0))))) - Int.toNat 2) (drop 2 (take (Int.toNat (w64 (1 + (w64 ((getD a0 0 0))))) - Int.toNat 1) (drop 1 a0))))) (m152 (drop (Int.toNat (w64 (2 + (w64 ((getD (take (Int.toNat (w64 (1 + (w64 ((getD a0 0 0))))) - Int.toNat 1) (drop 1 a0)) 1 0)))))) (take (Int.toNat (w64 (1 + (w64 ((getD a0 0 0))))) - Int.toNat 1) (drop 1 a0)))) (m152 (drop (Int.toNat (w64 (6 + (w64 ((getD (take (Int.toNat (w64 (1 + (w64 ((getD a0 0 0))))) - Int.toNat 1) (drop 1 a0)) 1 0)))))) (take (Int.toNat (w64 (1 + (w64 ((getD a0 0 0))))) - Int.toNat 1) (drop 1 a0)))))) (by obtain ⟨g0, g1, e0, e1, e2, e3, e4, e5, e6, e7, e8, e9⟩ := nums a0 hy0; simp only [decide_eq_true_eq, bne_iff_ne, ne_eq, beq_iff_eq, Decidable.not_not, length_map, length_take, length_drop, bo_size, pack_exact] at *; omega)
     by_cases h4 : ((m62 (K_isii.mk (w64 ((getD (take (Int.toNat (w64 (1 + (w64 ((getD a0 0 0))))) - Int.toNat 1) (drop 1 a0)) 0 0))) (bytesOf (take (Int.toNat (w64 (2 + (w64 ((getD (take (Int.toNat (w64 (1 + (w64 ((getD a0 0 0))))) - Int.toNat 1) (drop 1 a0)) 1 0))))) - Int.toNat 2) (drop 2 (take (Int.toNat (w64 (1 + (w64 ((getD a0 0 0))))) - Int.toNat 1) (drop 1 a0))))) (m152 (drop (Int.toNat (w64 (2 + (w64 ((getD (take (Int.toNat (w64 (1 + (w64 ((getD a0 0 0))))) - Int.toNat 1) (drop 1 a0)) 1 0)))))) (take (Int.toNat (w64 (1 + (w64 ((getD a0 0 0))))) - Int.toNat 1) (drop 1 a0)))) (m152 (drop (Int.toNat (w64 (6 + (w64 ((getD (take (Int.toNat (w64 (1 + (w64 ((getD a0 0 0))))) - Int.toNat 1) (drop 1 a0)) 1 0)))))) (take (Int.toNat (w64 (1 + (w64 ((getD a0 0 0))))) - Int.toNat 1) (drop 1 a0)))))) != 0) = true
     ·try simp only [if_pos h4]
      exact cp (by kernel_rfl) (.n 4 h0 (.f f4 (.f f5 (.n 3 h0 (.f trivial (.n 2 h0 (.n 2 h1 (.f f14 (.f f15 (.n 3 h1 (.g h2 (.f f20 (.f f21 (.f trivial (.f f23 (.f f24 (.f f25 (.f trivial (.g h3 (.f f28 (.f f29 (.f trivial (.f f31 (.f f32 (.f trivial (.f f34 (.z 18 (.z 20 (.z 22 (.z 24 (.h 25 (.row [(.val (.int .u8 (getD a0 0 0)))]) (.z 26 (.z 28 (.z 30 (.z 32 (.z 35 (.z 38 (.z 40 (.h 41 (.row [(.val (.int .u8 (getD a0 0 0)))]) (.z 42 (.z 44 (.z 47 (.z 48 (.h 54 (.row [(.val (.int .u8 (getD a0 0 0)))]) (.h 68 (.row [(.val (.int .u8 (getD (take (Int.toNat (w64 (1 + (w64 ((getD a0 0 0))))) - Int.toNat 1) (drop 1 a0)) 1 0)))]) (.z 85 (.h 89 (.row [(.val (.int .u8 (getD (take (Int.toNat (w64 (1 + (w64 ((getD a0 0 0))))) - Int.toNat 1) (drop 1 a0)) 0 0)))]) (.h 103 (.ints (take (Int.toNat (w64 (2 + (w64 ((getD (take (Int.toNat (w64 (1 + (w64 ((getD a0 0 0))))) - Int.toNat 1) (drop 1 a0)) 1 0))))) - Int.toNat 2) (drop 2 (take (Int.toNat (w64 (1 + (w64 ((getD a0 0 0))))) - Int.toNat 1) (drop 1 a0))))) (.r 113 [] [] f35 (.f trivial (.f f37 (.r 123 [] [] f38 (.f f39 (.r 129 [] [] f40 (.f h4 (.y 132 .nil))))))))))))))))))))))))))))))))))))))))))))))))))))))))
     ·try simp only [if_neg h4]
      have f42 : fullL [(.val (.int .i64 (w64 ((getD (take (Int.toNat (w64 (1 + (w64 ((getD a0 0 0))))) - Int.toNat 1) (drop 1 a0)) 0 0))))), (.val (.string (bytesOf (take (Int.toNat (w64 (2 + (w64 ((getD (take (Int.toNat (w64 (1 + (w64 ((getD a0 0 0))))) - Int.toNat 1) (drop 1 a0)) 1 0))))) - Int.toNat 2) (drop 2 (take (Int.toNat (w64 (1 + (w64 ((getD a0 0 0))))) - Int.toNat 1) (drop 1 a0))))))), (.val (.int .i64 (m152 (drop (Int.toNat (w64 (2 + (w64 ((getD (take (Int.toNat (w64 (1 + (w64 ((getD a0 0 0))))) - Int.toNat 1) (drop 1 a0)) 1 0)))))) (take (Int.toNat (w64 (1 + (w64 ((getD a0 0 0))))) - Int.toNat 1) (drop 1 a0)))))), (.val (.int .i64 (m152 (drop (Int.toNat (w64 (6 + (w64 ((getD (take (Int.toNat (w64 (1 + (w64 ((getD a0 0 0))))) - Int.toNat 1) (drop 1 a0)) 1 0)))))) (take (Int.toNat (w64 (1 + (w64 ((getD a0 0 0))))) - Int.toNat 1) (drop 1 a0))))))] = true := (by with_reducible assumption)
      have f43 := e63 (l0 := 0) (a0 := (K_isii.mk (w64 ((getD (take (Int.toNat (w64 (1 + (w64 ((getD a0 0 0))))) - Int.toNat 1) (drop 1 a0)) 0 0))) (bytesOf (take (Int.toNat (w64 (2 + (w64 ((getD (take (Int.toNat (w64 (1 + (w64 ((getD a0 0 0))))) - Int.toNat 1) (drop 1 a0)) 1 0))))) - Int.toNat 2) (drop 2 (take (Int.toNat (w64 (1 + (w64 ((getD a0 0 0))))) - Int.toNat 1) (drop 1 a0))))) (m152 (drop (Int.toNat (w64 (2 + (w64 ((getD (take (Int.toNat (w64 (1 + (w64 ((getD a0 0 0))))) - Int.toNat 1) (drop 1 a0)) 1 0)))))) (take (Int.toNat (w64 (1 + (w64 ((getD a0 0 0))))) - Int.toNat 1) (drop 1 a0)))) (m152 (drop (Int.toNat (w64 (6 + (w64 ((getD (take (Int.toNat (w64 (1 + (w64 ((getD a0 0 0))))) - Int.toNat 1) (drop 1 a0)) 1 0)))))) (take (Int.toNat (w64 (1 + (w64 ((getD a0 0 0))))) - Int.toNat 1) (drop 1 a0)))))) (by obtain ⟨g0, g1, e0, e1, e2, e3, e4, e5, e6, e7, e8, e9⟩ := nums a0 hy0; simp only [decide_eq_true_eq, bne_iff_ne, ne_eq, beq_iff_eq, Decidable.not_not, length_map, length_take, length_drop, bo_size, pack_exact] at *; omega)
      have f44 : (0 ≤ (0 : Int) ∧ (0 : Int) ≤ ((length (map d_y (m63 (K_isii.mk (w64 ((getD (take (Int.toNat (w64 (1 + (w64 ((getD a0 0 0))))) - Int.toNat 1) (drop 1 a0)) 0 0))) (bytesOf (take (Int.toNat (w64 (2 + (w64 ((getD (take (Int.toNat (w64 (1 + (w64 ((getD a0 0 0))))) - Int.toNat 1) (drop 1 a0)) 1 0))))) - Int.toNat 2) (drop 2 (take (Int.toNat (w64 (1 + (w64 ((getD a0 0 0))))) - Int.toNat 1) (drop 1 a0))))) (m152 (drop (Int.toNat (w64 (2 + (w64 ((getD (take (Int.toNat (w64 (1 + (w64 ((getD a0 0 0))))) - Int.toNat 1) (drop 1 a0)) 1 0)))))) (take (Int.toNat (w64 (1 + (w64 ((getD a0 0 0))))) - Int.toNat 1) (drop 1 a0)))) (m152 (drop (Int.toNat (w64 (6 + (w64 ((getD (take (Int.toNat (w64 (1 + (w64 ((getD a0 0 0))))) - Int.toNat 1) (drop 1 a0)) 1 0)))))) (take (Int.toNat (w64 (1 + (w64 ((getD a0 0 0))))) - Int.toNat 1) (drop 1 a0)))))))) : Int) ∧ ((length (map d_y (m63 (K_isii.mk (w64 ((getD (take (Int.toNat (w64 (1 + (w64 ((getD a0 0 0))))) - Int.toNat 1) (drop 1 a0)) 0 0))) (bytesOf (take (Int.toNat (w64 (2 + (w64 ((getD (take (Int.toNat (w64 (1 + (w64 ((getD a0 0 0))))) - Int.toNat 1) (drop 1 a0)) 1 0))))) - Int.toNat 2) (drop 2 (take (Int.toNat (w64 (1 + (w64 ((getD a0 0 0))))) - Int.toNat 1) (drop 1 a0))))) (m152 (drop (Int.toNat (w64 (2 + (w64 ((getD (take (Int.toNat (w64 (1 + (w64 ((getD a0 0 0))))) - Int.toNat 1) (drop 1 a0)) 1 0)))))) (take (Int.toNat (w64 (1 + (w64 ((getD a0 0 0))))) - Int.toNat 1) (drop 1 a0)))) (m152 (drop (Int.toNat (w64 (6 + (w64 ((getD (take (Int.toNat (w64 (1 + (w64 ((getD a0 0 0))))) - Int.toNat 1) (drop 1 a0)) 1 0)))))) (take (Int.toNat (w64 (1 + (w64 ((getD a0 0 0))))) - Int.toNat 1) (drop 1 a0)))))))) : Int) ≤ ((length (map b_y a0)) : Int)) ∧ ∀ r ∈ ((map b_y a0) : List (List B)), r.length = 1 := (by exact ⟨(by (obtain ⟨g0, g1, e0, e1, e2, e3, e4, e5, e6, e7, e8, e9⟩ := nums a0 hy0; simp only [decide_eq_true_eq, bne_iff_ne, ne_eq, beq_iff_eq, Decidable.not_not, length_map, length_take, length_drop, bo_size, pack_exact] at *; omega)), (by first | exact lenB_y _ | (intro r hr; exact lenB_y _ r (List.mem_of_mem_drop (List.mem_of_mem_take hr))))⟩)
      have f45 : rowsInts .u8 (fromBR l0_0 (take (Int.toNat ((length (map d_y (m63 (K_isii.mk (w64 ((getD (take (Int.toNat (w64 (1 + (w64 ((getD a0 0 0))))) - Int.toNat 1) (drop 1 a0)) 0 0))) (bytesOf (take (Int.toNat (w64 (2 + (w64 ((getD (take (Int.toNat (w64 (1 + (w64 ((getD a0 0 0))))) - Int.toNat 1) (drop 1 a0)) 1 0))))) - Int.toNat 2) (drop 2 (take (Int.toNat (w64 (1 + (w64 ((getD a0 0 0))))) - Int.toNat 1) (drop 1 a0))))) (m152 (drop (Int.toNat (w64 (2 + (w64 ((getD (take (Int.toNat (w64 (1 + (w64 ((getD a0 0 0))))) - Int.toNat 1) (drop 1 a0)) 1 0)))))) (take (Int.toNat (w64 (1 + (w64 ((getD a0 0 0))))) - Int.toNat 1) (drop 1 a0)))) (m152 (drop (Int.toNat (w64 (6 + (w64 ((getD (take (Int.toNat (w64 (1 + (w64 ((getD a0 0 0))))) - Int.toNat 1) (drop 1 a0)) 1 0)))))) (take (Int.toNat (w64 (1 + (w64 ((getD a0 0 0))))) - Int.toNat 1) (drop 1 a0)))))))) : Int) - Int.toNat 0) (drop 0 (map b_y a0)))) = some (take (Int.toNat ((length (map d_y (m63 (K_isii.mk (w64 ((getD (take (Int.toNat (w64 (1 + (w64 ((getD a0 0 0))))) - Int.toNat 1) (drop 1 a0)) 0 0))) (bytesOf (take (Int.toNat (w64 (2 + (w64 ((getD (take (Int.toNat (w64 (1 + (w64 ((getD a0 0 0))))) - Int.toNat 1) (drop 1 a0)) 1 0))))) - Int.toNat 2) (drop 2 (take (Int.toNat (w64 (1 + (w64 ((getD a0 0 0))))) - Int.toNat 1) (drop 1 a0))))) (m152 (drop (Int.toNat (w64 (2 + (w64 ((getD (take (Int.toNat (w64 (1 + (w64 ((getD a0 0 0))))) - Int.toNat 1) (drop 1 a0)) 1 0)))))) (take (Int.toNat (w64 (1 + (w64 ((getD a0 0 0))))) - Int.toNat 1) (drop 1 a0)))) (m152 (drop (Int.toNat (w64 (6 + (w64 ((getD (take (Int.toNat (w64 (1 + (w64 ((getD a0 0 0))))) - Int.toNat 1) (drop 1 a0)) 1 0)))))) (take (Int.toNat (w64 (1 + (w64 ((getD a0 0 0))))) - Int.toNat 1) (drop 1 a0)))))))) : Int)) a0) := (by simp only [← map_drop, ← map_take, fromBR_y]; exact ints_y _)
      have f46 : 0 + (length (map d_y (m63 (K_isii.mk (w64 ((getD (take (Int.toNat (w64 (1 + (w64 ((getD a0 0 0))))) - Int.toNat 1) (drop 1 a0)) 0 0))) (bytesOf (take (Int.toNat (w64 (2 + (w64 ((getD (take (Int.toNat (w64 (1 + (w64 ((getD a0 0 0))))) - Int.toNat 1) (drop 1 a0)) 1 0))))) - Int.toNat 2) (drop 2 (take (Int.toNat (w64 (1 + (w64 ((getD a0 0 0))))) - Int.toNat 1) (drop 1 a0))))) (m152 (drop (Int.toNat (w64 (2 + (w64 ((getD (take (Int.toNat (w64 (1 + (w64 ((getD a0 0 0))))) - Int.toNat 1) (drop 1 a0)) 1 0)))))) (take (Int.toNat (w64 (1 + (w64 ((getD a0 0 0))))) - Int.toNat 1) (drop 1 a0)))) (m152 (drop (Int.toNat (w64 (6 + (w64 ((getD (take (Int.toNat (w64 (1 + (w64 ((getD a0 0 0))))) - Int.toNat 1) (drop 1 a0)) 1 0)))))) (take (Int.toNat (w64 (1 + (w64 ((getD a0 0 0))))) - Int.toNat 1) (drop 1 a0)))))))) ≤ (length (map d_y (m63 (K_isii.mk (w64 ((getD (take (Int.toNat (w64 (1 + (w64 ((getD a0 0 0))))) - Int.toNat 1) (drop 1 a0)) 0 0))) (bytesOf (take (Int.toNat (w64 (2 + (w64 ((getD (take (Int.toNat (w64 (1 + (w64 ((getD a0 0 0))))) - Int.toNat 1) (drop 1 a0)) 1 0))))) - Int.toNat 2) (drop 2 (take (Int.toNat (w64 (1 + (w64 ((getD a0 0 0))))) - Int.toNat 1) (drop 1 a0))))) (m152 (drop (Int.toNat (w64 (2 + (w64 ((getD (take (Int.toNat (w64 (1 + (w64 ((getD a0 0 0))))) - Int.toNat 1) (drop 1 a0)) 1 0)))))) (take (Int.toNat (w64 (1 + (w64 ((getD a0 0 0))))) - Int.toNat 1) (drop 1 a0)))) (m152 (drop (Int.toNat (w64 (6 + (w64 ((getD (take (Int.toNat (w64 (1 + (w64 ((getD a0 0 0))))) - Int.toNat 1) (drop 1 a0)) 1 0)))))) (take (Int.toNat (w64 (1 + (w64 ((getD a0 0 0))))) - Int.toNat 1) (drop 1 a0)))))))) := (by omega)
      have f47 : rowsInts .u8 (take (length (map d_y (m63 (K_isii.mk (w64 ((getD (take (Int.toNat (w64 (1 + (w64 ((getD a0 0 0))))) - Int.toNat 1) (drop 1 a0)) 0 0))) (bytesOf (take (Int.toNat (w64 (2 + (w64 ((getD (take (Int.toNat (w64 (1 + (w64 ((getD a0 0 0))))) - Int.toNat 1) (drop 1 a0)) 1 0))))) - Int.toNat 2) (drop 2 (take (Int.toNat (w64 (1 + (w64 ((getD a0 0 0))))) - Int.toNat 1) (drop 1 a0))))) (m152 (drop (Int.toNat (w64 (2 + (w64 ((getD (take (Int.toNat (w64 (1 + (w64 ((getD a0 0 0))))) - Int.toNat 1) (drop 1 a0)) 1 0)))))) (take (Int.toNat (w64 (1 + (w64 ((getD a0 0 0))))) - Int.toNat 1) (drop 1 a0)))) (m152 (drop (Int.toNat (w64 (6 + (w64 ((getD (take (Int.toNat (w64 (1 + (w64 ((getD a0 0 0))))) - Int.toNat 1) (drop 1 a0)) 1 0)))))) (take (Int.toNat (w64 (1 + (w64 ((getD a0 0 0))))) - Int.toNat 1) (drop 1 a0)))))))) (drop 0 (map d_y (m63 (K_isii.mk (w64 ((getD (take (Int.toNat (w64 (1 + (w64 ((getD a0 0 0))))) - Int.toNat 1) (drop 1 a0)) 0 0))) (bytesOf (take (Int.toNat (w64 (2 + (w64 ((getD (take (Int.toNat (w64 (1 + (w64 ((getD a0 0 0))))) - Int.toNat 1) (drop 1 a0)) 1 0))))) - Int.toNat 2) (drop 2 (take (Int.toNat (w64 (1 + (w64 ((getD a0 0 0))))) - Int.toNat 1) (drop 1 a0))))) (m152 (drop (Int.toNat (w64 (2 + (w64 ((getD (take (Int.toNat (w64 (1 + (w64 ((getD a0 0 0))))) - Int.toNat 1) (drop 1 a0)) 1 0)))))) (take (Int.toNat (w64 (1 + (w64 ((getD a0 0 0))))) - Int.toNat 1) (drop 1 a0)))) (m152 (drop (Int.toNat (w64 (6 + (w64 ((getD (take (Int.toNat (w64 (1 + (w64 ((getD a0 0 0))))) - Int.toNat 1) (drop 1 a0)) 1 0)))))) (take (Int.toNat (w64 (1 + (w64 ((getD a0 0 0))))) - Int.toNat 1) (drop 1 a0))))))))) = some (m63 (K_isii.mk (w64 ((getD (take (Int.toNat (w64 (1 + (w64 ((getD a0 0 0))))) - Int.toNat 1) (drop 1 a0)) 0 0))) (bytesOf (take (Int.toNat (w64 (2 + (w64 ((getD (take (Int.toNat (w64 (1 + (w64 ((getD a0 0 0))))) - Int.toNat 1) (drop 1 a0)) 1 0))))) - Int.toNat 2) (drop 2 (take (Int.toNat (w64 (1 + (w64 ((getD a0 0 0))))) - Int.toNat 1) (drop 1 a0))))) (m152 (drop (Int.toNat (w64 (2 + (w64 ((getD (take (Int.toNat (w64 (1 + (w64 ((getD a0 0 0))))) - Int.toNat 1) (drop 1 a0)) 1 0)))))) (take (Int.toNat (w64 (1 + (w64 ((getD a0 0 0))))) - Int.toNat 1) (drop 1 a0)))) (m152 (drop (Int.toNat (w64 (6 + (w64 ((getD (take (Int.toNat (w64 (1 + (w64 ((getD a0 0 0))))) - Int.toNat 1) (drop 1 a0)) 1 0)))))) (take (Int.toNat (w64 (1 + (w64 ((getD a0 0 0))))) - Int.toNat 1) (drop 1 a0)))))) := (by simp only [List.drop_zero, tbr, tsi, ly_y, ly0_y, ← List.map_append, List.take_length, List.cons_append, List.nil_append, append_assoc, toBR_y, fullR_y, pureR_y, copy_y, ints_y]; done)
      exact cp (by kernel_rfl) (.n 4 h0 (.f f4 (.f f5 (.n 3 h0 (.f trivial (.n 2 h0 (.n 2 h1 (.f f14 (.f f15 (.n 3 h1 (.g h2 (.f f20 (.f f21 (.f trivial (.f f23 (.f f24 (.f f25 (.f trivial (.g h3 (.f f28 (.f f29 (.f trivial (.f f31 (.f f32 (.f trivial (.f f34 (.z 18 (.z 20 (.z 22 (.z 24 (.h 25 (.row [(.val (.int .u8 (getD a0 0 0)))]) (.z 26 (.z 28 (.z 30 (.z 32 (.z 35 (.z 38 (.z 40 (.h 41 (.row [(.val (.int .u8 (getD a0 0 0)))]) (.z 42 (.z 44 (.z 47 (.z 48 (.h 54 (.row [(.val (.int .u8 (getD a0 0 0)))]) (.h 68 (.row [(.val (.int .u8 (getD (take (Int.toNat (w64 (1 + (w64 ((getD a0 0 0))))) - Int.toNat 1) (drop 1 a0)) 1 0)))]) (.z 85 (.h 89 (.row [(.val (.int .u8 (getD (take (Int.toNat (w64 (1 + (w64 ((getD a0 0 0))))) - Int.toNat 1) (drop 1 a0)) 0 0)))]) (.h 103 (.ints (take (Int.toNat (w64 (2 + (w64 ((getD (take (Int.toNat (w64 (1 + (w64 ((getD a0 0 0))))) - Int.toNat 1) (drop 1 a0)) 1 0))))) - Int.toNat 2) (drop 2 (take (Int.toNat (w64 (1 + (w64 ((getD a0 0 0))))) - Int.toNat 1) (drop 1 a0))))) (.r 113 [] [] f35 (.f trivial (.f f37 (.r 123 [] [] f38 (.f f39 (.r 129 [] [] f40 (.g h4 (.f f42 (.z 132 (.r 134 [] [] f43 (.f f44 (.f f45 (.f f46 (.f f47 (.h 148 (.ints (take (Int.toNat ((length (map d_y (m63 (K_isii.mk (w64 ((getD (take (Int.toNat (w64 (1 + (w64 ((getD a0 0 0))))) - Int.toNat 1) (drop 1 a0)) 0 0))) (bytesOf (take (Int.toNat (w64 (2 + (w64 ((getD (take (Int.toNat (w64 (1 + (w64 ((getD a0 0 0))))) - Int.toNat 1) (drop 1 a0)) 1 0))))) - Int.toNat 2) (drop 2 (take (Int.toNat (w64 (1 + (w64 ((getD a0 0 0))))) - Int.toNat 1) (drop 1 a0))))) (m152 (drop (Int.toNat (w64 (2 + (w64 ((getD (take (Int.toNat (w64 (1 + (w64 ((getD a0 0 0))))) - Int.toNat 1) (drop 1 a0)) 1 0)))))) (take (Int.toNat (w64 (1 + (w64 ((getD a0 0 0))))) - Int.toNat 1) (drop 1 a0)))) (m152 (drop (Int.toNat (w64 (6 + (w64 ((getD (take (Int.toNat (w64 (1 + (w64 ((getD a0 0 0))))) - Int.toNat 1) (drop 1 a0)) 1 0)))))) (take (Int.toNat (w64 (1 + (w64 ((getD a0 0 0))))) - Int.toNat 1) (drop 1 a0)))))))) : Int)) a0)) (.h 152 (.ints (m63 (K_isii.mk (w64 ((getD (take (Int.toNat (w64 (1 + (w64 ((getD a0 0 0))))) - Int.toNat 1) (drop 1 a0)) 0 0))) (bytesOf (take (Int.toNat (w64 (2 + (w64 ((getD (take (Int.toNat (w64 (1 + (w64 ((getD a0 0 0))))) - Int.toNat 1) (drop 1 a0)) 1 0))))) - Int.toNat 2) (drop 2 (take (Int.toNat (w64 (1 + (w64 ((getD a0 0 0))))) - Int.toNat 1) (drop 1 a0))))) (m152 (drop (Int.toNat (w64 (2 + (w64 ((getD (take (Int.toNat (w64 (1 + (w64 ((getD a0 0 0))))) - Int.toNat 1) (drop 1 a0)) 1 0)))))) (take (Int.toNat (w64 (1 + (w64 ((getD a0 0 0))))) - Int.toNat 1) (drop 1 a0)))) (m152 (drop (Int.toNat (w64 (6 + (w64 ((getD (take (Int.toNat (w64 (1 + (w64 ((getD a0 0 0))))) - Int.toNat 1) (drop 1 a0)) 1 0)))))) (take (Int.toNat (w64 (1 + (w64 ((getD a0 0 0))))) - Int.toNat 1) (drop 1 a0))))))) .nil))))))))))))))))))))))))))))))))))))))))))))))))))))))))))))))))
theorem rd_ok {d : List Int} (hy0 : ∀ z ∈ d, (0 : Int) ≤ z ∧ z ≤ 255) (h : m131_1 d = true) : 13 ≤ length (m63 (m131_0 d)) ∧ length (m63 (m131_0 d)) ≤ length d ∧ ByteArray.size (m131_0 d).f1 ≤ 255 := by
 rw [pack_exact]
 unfold m131_1 at h
 unfold m131_0
 split at h
 ·cases h
 rename_i h0; rw [if_neg h0]
 split at h
 ·cases h
 rename_i h1; rw [if_neg h1]
 split at h
 ·cases h
 rename_i h2; rw [if_neg h2]
 split at h
 ·cases h
 rename_i h3; rw [if_neg h3]
 clear h
 obtain ⟨g0, g1, e0, e1, e2, e3, e4, e5, e6, e7, e8, e9⟩ := nums d hy0
 simp only [decide_eq_true_eq, bne_iff_ne, ne_eq, beq_iff_eq, Decidable.not_not, length_map, length_take, length_drop, bo_size, pack_exact] at *
 omega
theorem rd_ok' {d : List Int} (hy0 : ∀ z ∈ d, (0 : Int) ≤ z ∧ z ≤ 255) (h : ¬ (!(m131_1 d)) = true) : 13 ≤ length (m63 (m131_0 d)) ∧ length (m63 (m131_0 d)) ≤ length d ∧ ByteArray.size (m131_0 d).f1 ≤ 255 := rd_ok hy0 (by simpa using h)
inductive O84_0 where
 | k0 (w0 : List K_isii) (w1 : Int)
def r84_0 (a0 : (List Int)) : Nat → List K_isii → Int → O84_0
 | n + 1, v0, v2 =>
  if (!(m131_1 (drop (Int.toNat v2) a0))) = true then (O84_0.k0 v0 v2) else
  (r84_0 a0 n (v0 ++ ([(m131_0 (drop (Int.toNat v2) a0))])) (w64 (v2 + ((length (map d_y (m63 (m131_0 (drop (Int.toNat v2) a0))))) : Int))))
 | 0, v0, v2 => (O84_0.k0 v0 v2)
def h84_0 (l0_0 : Nat) (a0 : (List Int)) (v0 : List K_isii) (v2 : Int) : St := ⟨[(0, (.one (.bor l0_0 (map b_y a0)))), (4, (.one (.ref ⟨(4, 0, 0), [], 0, (length (map d_isii v0))⟩))), (5, (.one (.val (.int .i64 v2))))], [((4, 0, 0), .live ⟨4, (map d_isii v0), []⟩)]⟩
def ex84_0 : O84_0 → VX.Exit
 | .k0 _ _ => .ret
def fin84_0 (l0_0 : Nat) (a0 : (List Int)) : O84_0 → St
 | .k0 w0 w1 => ⟨[(4, (.one (.ref ⟨(4, 0, 0), [], 0, (length (map d_isii w0))⟩))), (2, (.one (.ref ⟨(4, 0, 0), [], 0, (length (map d_isii w0))⟩))), (3, (.one (.val (.int .i64 w1))))], [((4, 0, 0), .live ⟨4, (map d_isii w0), []⟩)]⟩
theorem t84_0 {l0_0 : Nat} {a0 : (List Int)} (hy0 : ∀ z ∈ a0, (0 : Int) ≤ z ∧ z ≤ 255) (hy1 : length a0 ≤ 1200) : ∀ (n : Nat) (v0 : List K_isii) (v2 : Int), 0 ≤ v2 → v2 ≤ (length a0 : Int) → (length v0 : Int) ≤ v2 → (∀ z ∈ v0, ByteArray.size z.f1 ≤ 255) → length a0 - Int.toNat v2 ≤ n → Ev F X (.code l84_0 (h84_0 l0_0 a0 v0 v2) (ex84_0 (r84_0 a0 n v0 v2)) (fin84_0 l0_0 a0 (r84_0 a0 n v0 v2)))
 | 0, v0, v2, hi0, hi1, hi2, hi3, hn => by
  have f0 : (0 ≤ v2 ∧ v2 ≤ ((length (map b_y a0)) : Int) ∧ ((length (map b_y a0)) : Int) ≤ ((length (map b_y a0)) : Int)) ∧ ∀ r ∈ ((map b_y a0) : List (List B)), r.length = 1 := (by refine ⟨?_, lenB_y _⟩; simp only [length_map, length_set, length_append, length_replicate, length_cons, length_nil]; omega)
  have f1 : Ev F X (.call 131 [(.one (.bor (l0_0 + 1) (take (Int.toNat ((length (map b_y a0)) : Int) - Int.toNat v2) (drop (Int.toNat v2) (map b_y a0)))))] [] [] [(.agg [(.i ((m131_0 (drop (Int.toNat v2) a0)).f0)), (.val (.string ((m131_0 (drop (Int.toNat v2) a0)).f1))), (.i ((m131_0 (drop (Int.toNat v2) a0)).f2)), (.i ((m131_0 (drop (Int.toNat v2) a0)).f3))]), (.one (.val (.bool (m131_1 (drop (Int.toNat v2) a0)))))]) := (by rw [show (take (Int.toNat ((length (map b_y a0)) : Int) - Int.toNat v2) (drop (Int.toNat v2) (map b_y a0))) = (map b_y (drop (Int.toNat v2) a0)) from by first | rfl | (simp [map_take, map_drop, four_len]; done) | (simp [byteRows_eq, map_take, map_drop, four_len]; done) | (simp [*, map_take, map_drop, four_len]; done) | (rw [take_of_length_le (by simp only [length_drop, length_take, length_map, Int.toNat_natCast]; omega)]; simp only [← map_drop, ← map_take])]; exact (e131 (a0 := (drop (Int.toNat v2) a0)) (by exact gdr hy0 _) (by simp only [length_drop]; omega)))
  have hc : (!(m131_1 (drop (Int.toNat v2) a0))) = true := by first | (rw [List.drop_of_length_le (by omega)]; rfl) | (exact fuel64_zero hn) | (simp only [decide_eq_true_eq] at *; omega) | (simp at *; omega)
  have st := codeP_ok (F := F) (X := X) (c := b84_0) (t := 0) (σ := h84_0 l0_0 a0 v0 v2) (σ' := ⟨[(4, (.one (.ref ⟨(4, 0, 0), [], 0, (length (map d_isii v0))⟩))), (2, (.one (.ref ⟨(4, 0, 0), [], 0, (length (map d_isii v0))⟩))), (3, (.oi v2))], [((4, 0, 0), .live ⟨4, (map d_isii v0), []⟩)]⟩) (e := .ret) (t' := 33) (by kernel_rfl) (.f f0 (.r 7 [] [] f1 (.f hc (.y 24 .nil))))
  replace st := to_ (s' := fin84_0 l0_0 a0 (.k0 v0 v2)) st (by rfl)
  exact .loopX st (show (.ret : VX.Exit) ≠ .normal from by simp)
 | n + 1, v0, v2, hi0, hi1, hi2, hi3, hn => by
  simp only [r84_0]
  have f0 : (0 ≤ v2 ∧ v2 ≤ ((length (map b_y a0)) : Int) ∧ ((length (map b_y a0)) : Int) ≤ ((length (map b_y a0)) : Int)) ∧ ∀ r ∈ ((map b_y a0) : List (List B)), r.length = 1 := (by refine ⟨?_, lenB_y _⟩; simp only [length_map, length_set, length_append, length_replicate, length_cons, length_nil]; omega)
  have f1 : Ev F X (.call 131 [(.one (.bor (l0_0 + 1) (take (Int.toNat ((length (map b_y a0)) : Int) - Int.toNat v2) (drop (Int.toNat v2) (map b_y a0)))))] [] [] [(.agg [(.i ((m131_0 (drop (Int.toNat v2) a0)).f0)), (.val (.string ((m131_0 (drop (Int.toNat v2) a0)).f1))), (.i ((m131_0 (drop (Int.toNat v2) a0)).f2)), (.i ((m131_0 (drop (Int.toNat v2) a0)).f3))]), (.one (.val (.bool (m131_1 (drop (Int.toNat v2) a0)))))]) := (by rw [show (take (Int.toNat ((length (map b_y a0)) : Int) - Int.toNat v2) (drop (Int.toNat v2) (map b_y a0))) = (map b_y (drop (Int.toNat v2) a0)) from by first | rfl | (simp [map_take, map_drop, four_len]; done) | (simp [byteRows_eq, map_take, map_drop, four_len]; done) | (simp [*, map_take, map_drop, four_len]; done) | (rw [take_of_length_le (by simp only [length_drop, length_take, length_map, Int.toNat_natCast]; omega)]; simp only [← map_drop, ← map_take])]; exact (e131 (a0 := (drop (Int.toNat v2) a0)) (by exact gdr hy0 _) (by simp only [length_drop]; omega)))
  by_cases h_0 : (!(m131_1 (drop (Int.toNat v2) a0))) = true
  ·try simp only [if_pos h_0]
   have st := codeP_ok (F := F) (X := X) (c := b84_0) (t := 0) (σ := h84_0 l0_0 a0 v0 v2) (σ' := ⟨[(4, (.one (.ref ⟨(4, 0, 0), [], 0, (length (map d_isii v0))⟩))), (2, (.one (.ref ⟨(4, 0, 0), [], 0, (length (map d_isii v0))⟩))), (3, (.oi v2))], [((4, 0, 0), .live ⟨4, (map d_isii v0), []⟩)]⟩) (e := .ret) (t' := 33) (by kernel_rfl) (.f f0 (.r 7 [] [] f1 (.f h_0 (.y 24 .nil))))
   replace st := to_ (s' := fin84_0 l0_0 a0 (.k0 v0 v2)) st (by rfl)
   exact .loopX st (show (.ret : VX.Exit) ≠ .normal from by simp)
  ·try simp only [if_neg h_0]
   have f3 : 0 + (length (map d_isii v0)) ≤ (length (map d_isii v0)) := (by omega)
   have f4 : 1 ≤ 1 := (by omega)
   have f5 : ((take 1 (drop 0 [[(.val (.int .i64 ((m131_0 (drop (Int.toNat v2) a0)).f0))), (.val (.string ((m131_0 (drop (Int.toNat v2) a0)).f1))), (.val (.int .i64 ((m131_0 (drop (Int.toNat v2) a0)).f2))), (.val (.int .i64 ((m131_0 (drop (Int.toNat v2) a0)).f3)))]])).all fun x => x.all copyable) = true := (by trivial)
   have f6 : (length ((take (length (map d_isii v0)) (drop 0 (map d_isii v0))) ++ ([[(.val (.int .i64 ((m131_0 (drop (Int.toNat v2) a0)).f0))), (.val (.string ((m131_0 (drop (Int.toNat v2) a0)).f1))), (.val (.int .i64 ((m131_0 (drop (Int.toNat v2) a0)).f2))), (.val (.int .i64 ((m131_0 (drop (Int.toNat v2) a0)).f3)))]] : List (List D)))) * 40 ≤ 70368744177664 := (by have q := rd_ok' (gdr hy0 _) (by assumption); simp only [length_drop] at q; simp only [length_map, length_append, length_cons, length_nil, length_take, length_drop]; omega)
   have f7 : ∀ r ∈ ([[(.val (.int .i64 ((m131_0 (drop (Int.toNat v2) a0)).f0))), (.val (.string ((m131_0 (drop (Int.toNat v2) a0)).f1))), (.val (.int .i64 ((m131_0 (drop (Int.toNat v2) a0)).f2))), (.val (.int .i64 ((m131_0 (drop (Int.toNat v2) a0)).f3)))]] : List (List D)), r.length = 4 := (by unfold m131_0; (repeat' split) <;> simp_all <;> omega)
   have f8 : ((take (length (map d_isii v0)) (drop 0 (map d_isii v0))) ++ ([[(.val (.int .i64 ((m131_0 (drop (Int.toNat v2) a0)).f0))), (.val (.string ((m131_0 (drop (Int.toNat v2) a0)).f1))), (.val (.int .i64 ((m131_0 (drop (Int.toNat v2) a0)).f2))), (.val (.int .i64 ((m131_0 (drop (Int.toNat v2) a0)).f3)))]] : List (List D))) = (map d_isii (v0 ++ ([(m131_0 (drop (Int.toNat v2) a0))]))) := (by simp [byteRows_eq, ints_y, take_of_length_le, d_y, d_LyE, d_b, d_isii, d_iiLisiiE, d_i, d_LLyEE, d_s, d_LisiiE, fromBR_y, fromBR_b, fromBR_isii, fromBR_i, fromBR_s, four_len]; done)
   have f9 : fullL [(.val (.int .i64 ((m131_0 (drop (Int.toNat v2) a0)).f0))), (.val (.string ((m131_0 (drop (Int.toNat v2) a0)).f1))), (.val (.int .i64 ((m131_0 (drop (Int.toNat v2) a0)).f2))), (.val (.int .i64 ((m131_0 (drop (Int.toNat v2) a0)).f3)))] = true := (by assumption)
   have f10 := e63 (l0 := 0) (a0 := (m131_0 (drop (Int.toNat v2) a0))) (by have q := rd_ok' (gdr hy0 _) (by assumption); simp only [length_drop] at q; omega)
   have st := codeP_ok (F := F) (X := X) (c := b84_0) (t := 0) (σ := h84_0 l0_0 a0 v0 v2) (σ' := ⟨[(0, (.one (.bor l0_0 (map b_y a0)))), (4, (.one (.ref ⟨(4, 0, 0), [], 0, (length ((take (length (map d_isii v0)) (drop 0 (map d_isii v0))) ++ ([[(.i ((m131_0 (drop (Int.toNat v2) a0)).f0)), (.val (.string ((m131_0 (drop (Int.toNat v2) a0)).f1))), (.i ((m131_0 (drop (Int.toNat v2) a0)).f2)), (.i ((m131_0 (drop (Int.toNat v2) a0)).f3))]] : List (List D))))⟩))), (5, (.oi (w64 (v2 + ((length (map d_y (m63 (m131_0 (drop (Int.toNat v2) a0))))) : Int)))))], [((4, 0, 0), .live ⟨4, (map d_isii (v0 ++ ([(m131_0 (drop (Int.toNat v2) a0))]))), []⟩)]⟩) (e := .normal) (t' := 46) (by kernel_rfl) (.f f0 (.r 7 [] [] f1 (.g h_0 (.f f3 (.f f4 (.f f5 (.f f6 (.f f7 (.f f8 (.f f9 (.z 24 (.y 32 (.h 35 (.norm (4, 0, 0) (map d_isii (v0 ++ ([(m131_0 (drop (Int.toNat v2) a0))])))) (.r 39 [] [] f10 (.f trivial .nil)))))))))))))))
   have ih := t84_0 (l0_0 := l0_0) (a0 := a0) hy0 hy1 n (v0 ++ ([(m131_0 (drop (Int.toNat v2) a0))])) (w64 (v2 + ((length (map d_y (m63 (m131_0 (drop (Int.toNat v2) a0))))) : Int))) (by have q := rd_ok' (gdr hy0 _) (by assumption); simp only [length_drop] at q; simp only [length_map, length_append, length_cons, length_nil]; rw [wrap64 (by omega)]; omega) (by have q := rd_ok' (gdr hy0 _) (by assumption); simp only [length_drop] at q; simp only [length_map, length_append, length_cons, length_nil]; rw [wrap64 (by omega)]; omega) (by have q := rd_ok' (gdr hy0 _) (by assumption); simp only [length_drop] at q; simp only [length_map, length_append, length_cons, length_nil]; rw [wrap64 (by omega)]; omega) (by have q := rd_ok' (gdr hy0 _) (by assumption); simp only [length_drop] at q; intro z hz; rcases List.mem_append.1 hz with hz | hz; exact hi3 z hz; rw [List.mem_singleton.1 hz]; exact q.2.2) (by have q := rd_ok' (gdr hy0 _) (by assumption); simp only [length_drop] at q; simp only [length_map]; rw [wrap64 (by omega)]; omega)
   replace st := to_ (s' := h84_0 l0_0 a0 (v0 ++ ([(m131_0 (drop (Int.toNat v2) a0))])) (w64 (v2 + ((length (map d_y (m63 (m131_0 (drop (Int.toNat v2) a0))))) : Int)))) st (by unfold h84_0; simp [byteRows_eq, ints_y, take_of_length_le, d_y, d_LyE, d_b, d_isii, d_iiLisiiE, d_i, d_LLyEE, d_s, d_LisiiE, fromBR_y, fromBR_b, fromBR_isii, fromBR_i, fromBR_s, four_len]; done)
   exact .loopN st ih
def post84_0 (a0 : (List Int)) : O84_0 → Prop
 | .k0 w0 _ => length w0 ≤ 1200 ∧ (∀ z ∈ w0, ByteArray.size z.f1 ≤ 255)
theorem z84_0 {a0 : (List Int)} (hy0 : ∀ z ∈ a0, (0 : Int) ≤ z ∧ z ≤ 255) (hy1 : length a0 ≤ 1200) : ∀ (n : Nat) (v0 : List K_isii) (v2 : Int), 0 ≤ v2 → v2 ≤ (length a0 : Int) → (length v0 : Int) ≤ v2 → (∀ z ∈ v0, ByteArray.size z.f1 ≤ 255) → post84_0 a0 (r84_0 a0 n v0 v2)
 | 0, v0, v2, hi0, hi1, hi2, hi3 => by
  simp only [r84_0]
  first | trivial | (show _ ; simp only [post84_0]; omega) | (simp only [post84_0] at *; omega) | (have q := rd_ok' (gdr hy0 _) (by assumption); simp only [length_drop] at q; simp only [length_map, length_append, length_cons, length_nil]; rw [wrap64 (by omega)]; omega) | (have q := rd_ok' (gdr hy0 _) (by assumption); simp only [length_drop] at q; intro z hz; rcases List.mem_append.1 hz with hz | hz; exact hi3 z hz; rw [List.mem_singleton.1 hz]; exact q.2.2) | (show _ ∧ _; exact ⟨by omega, by assumption⟩) | (simp only [decide_eq_true_eq] at *; omega)
 | n + 1, v0, v2, hi0, hi1, hi2, hi3 => by
  simp only [r84_0]
  by_cases h_0 : (!(m131_1 (drop (Int.toNat v2) a0))) = true
  ·try simp only [if_pos h_0]
   first | trivial | (show _ ; simp only [post84_0]; omega) | (simp only [post84_0] at *; omega) | (have q := rd_ok' (gdr hy0 _) (by assumption); simp only [length_drop] at q; simp only [length_map, length_append, length_cons, length_nil]; rw [wrap64 (by omega)]; omega) | (have q := rd_ok' (gdr hy0 _) (by assumption); simp only [length_drop] at q; intro z hz; rcases List.mem_append.1 hz with hz | hz; exact hi3 z hz; rw [List.mem_singleton.1 hz]; exact q.2.2) | (show _ ∧ _; exact ⟨by omega, by assumption⟩) | (simp only [decide_eq_true_eq] at *; omega)
  ·try simp only [if_neg h_0]
   exact z84_0 (a0 := a0) hy0 hy1 n (v0 ++ ([(m131_0 (drop (Int.toNat v2) a0))])) (w64 (v2 + ((length (map d_y (m63 (m131_0 (drop (Int.toNat v2) a0))))) : Int))) (by have q := rd_ok' (gdr hy0 _) (by assumption); simp only [length_drop] at q; simp only [length_map, length_append, length_cons, length_nil]; rw [wrap64 (by omega)]; omega) (by have q := rd_ok' (gdr hy0 _) (by assumption); simp only [length_drop] at q; simp only [length_map, length_append, length_cons, length_nil]; rw [wrap64 (by omega)]; omega) (by have q := rd_ok' (gdr hy0 _) (by assumption); simp only [length_drop] at q; simp only [length_map, length_append, length_cons, length_nil]; rw [wrap64 (by omega)]; omega) (by have q := rd_ok' (gdr hy0 _) (by assumption); simp only [length_drop] at q; intro z hz; rcases List.mem_append.1 hz with hz | hz; exact hi3 z hz; rw [List.mem_singleton.1 hz]; exact q.2.2)
def m84_0 (a0 : (List Int)) : (List K_isii) :=
 (match r84_0 a0 (length a0 - Int.toNat 0) ([]) 0 with | .k0 w0_0 w1_0 => w0_0)
def m84_1 (a0 : (List Int)) : Int :=
 (match r84_0 a0 (length a0 - Int.toNat 0) ([]) 0 with | .k0 w0_0 w1_0 => w1_0)
theorem e84 {l0_0 : Nat} {a0 : (List Int)} (hy0 : ∀ z ∈ a0, (0 : Int) ≤ z ∧ z ≤ 255) (hy1 : length a0 ≤ 1200) : Ev F X (.call 84 [(.one (.bor l0_0 (map b_y a0)))] [] [] [(.one (.own 4 (map d_isii (m84_0 a0)))), (.one (.val (.int .i64 (m84_1 a0))))]) := by
 unfold m84_0 m84_1
 cases h0 : r84_0 a0 (length a0 - Int.toNat 0) ([]) 0 with
 | k0 w0_0 w1_0 =>
  try dsimp only
  have zh0 := z84_0 (a0 := a0) (by assumption) (by assumption) (length a0 - Int.toNat 0) ([]) 0 (by omega) (by omega) (by simp only [length_map, length_set, length_append, length_replicate, length_cons, length_nil]; omega) (by simp; done); rw [h0] at zh0; simp only [post84_0] at zh0
  have f0 : (⟨[(0, (.one (.bor l0_0 (map b_y a0)))), (4, (.one (.ref ⟨(4, 0, 0), [], 0, 0⟩))), (5, (.oi 0))], [((4, 0, 0), .live ⟨4, [], []⟩)]⟩ : St) = h84_0 l0_0 a0 ([]) 0 := (by rfl)
  have f1 : Ev F X (.code l84_0 (h84_0 l0_0 a0 ([]) 0) .ret ⟨[(4, (.one (.ref ⟨(4, 0, 0), [], 0, (length (map d_isii w0_0))⟩))), (2, (.one (.ref ⟨(4, 0, 0), [], 0, (length (map d_isii w0_0))⟩))), (3, (.oi w1_0))], [((4, 0, 0), .live ⟨4, (map d_isii w0_0), []⟩)]⟩) := (by have t : Ev F X (.code l84_0 (h84_0 l0_0 a0 ([]) 0) (ex84_0 (r84_0 a0 (length a0 - Int.toNat 0) ([]) 0)) (fin84_0 l0_0 a0 (r84_0 a0 (length a0 - Int.toNat 0) ([]) 0))) := t84_0 (l0_0 := l0_0) (a0 := a0) (by assumption) (by assumption) (length a0 - Int.toNat 0) ([]) 0  (by omega) (by omega) (by simp only [length_map, length_set, length_append, length_replicate, length_cons, length_nil]; omega) (by simp; done) (Nat.le_refl _); rw [h0] at t; exact t)
  exact cp (by kernel_rfl) (.f f0 (.f f1 (.e 0 (.e (length (map d_isii w0_0)) (.f (pureR_isii w0_0) (.h 10 (.loop (h84_0 l0_0 a0 ([]) 0) .ret ⟨[(4, (.one (.ref ⟨(4, 0, 0), [], 0, (length (map d_isii w0_0))⟩))), (2, (.one (.ref ⟨(4, 0, 0), [], 0, (length (map d_isii w0_0))⟩))), (3, (.oi w1_0))], [((4, 0, 0), .live ⟨4, (map d_isii w0_0), []⟩)]⟩) .nil))))))
def m36 (a0 : (List Int)) : K_iiLisiiE :=
 if (decide (((length (map b_y a0)) : Int) > 1200)) = true then (K_iiLisiiE.mk 2 0 []) else
 (K_iiLisiiE.mk 0 (m84_1 a0) (m84_0 a0))
theorem e36 {l0_0 : Nat} {a0 : (List Int)} (hy0 : ∀ z ∈ a0, (0 : Int) ≤ z ∧ z ≤ 255) (hy1 : length a0 ≤ 140737488351232) : Ev F X (.call 36 [(.one (.bor l0_0 (map b_y a0)))] [] [] [(.agg [(.val (.int .i64 ((m36 a0).f0))), (.val (.int .i64 ((m36 a0).f1))), (.own 4 (map d_isii ((m36 a0).f2)))])]) := by
 unfold m36
 by_cases h0 : (decide (((length (map b_y a0)) : Int) > 1200)) = true
 ·try simp only [if_pos h0]
  have f1 : pureR [] = true := (by trivial)
  exact cp (by kernel_rfl) (.f h0 (.f f1 (.y 8 .nil)))
 ·try simp only [if_neg h0]
  have f1 := e84 (l0_0 := l0_0 + 1) (a0 := a0) (by with_reducible assumption) (by simp only [decide_eq_true_eq, length_map] at *; omega)
  exact cp (by kernel_rfl) (.g h0 (.z 8 (.r 12 [] [] f1 (.e 0 (.e (length (map d_isii (m84_0 a0))) (.f (pureR_isii (m84_0 a0)) .nil))))))
theorem szs (a0 : List Int) (hb : ∀ z ∈ a0, (0 : Int) ≤ z ∧ z ≤ 255) : length (m36 a0).f2 ≤ 1200 ∧ ∀ z ∈ (m36 a0).f2, ByteArray.size z.f1 ≤ 255 := by
 unfold m36
 split
 ·simp
 ·rename_i h
  have z := z84_0 (a0 := a0) hb (by simp only [decide_eq_true_eq, length_map] at h; omega) (length a0 - Int.toNat 0) [] 0 (by omega) (by omega) (by simp) (by simp)
  unfold m84_0
  cases hr : r84_0 a0 (length a0 - Int.toNat 0) [] 0 with
  | k0 w0 w1 => rw [hr] at z; exact z
inductive O37_0 where
 | k0 (w0 : List Int) (w1 : Int) (w2 : Bool)
def r37_0 (a0 : (List Int)) : List Int → Int → List Int → O37_0
 | x0 :: y0, i, v0 =>
  (r37_0 a0 y0 (i + 1) (set v0 (Int.toNat i) x0))
 | [], i, v0 => (O37_0.k0 v0 i (decide (i < ((length (map b_y a0)) : Int))))
def h37_0 (l0_0 : Nat) (a0 : (List Int)) (i : Int) (v0 : List Int) : St := ⟨[(0, (.one (.bor l0_0 (map b_y a0)))), (3, (.one (.ref ⟨(3, 0, 0), [], 0, (Int.toNat ((length (map b_y a0)) : Int))⟩))), (4, (.one (.val (.int .i64 i))))], [((3, 0, 0), .live ⟨1, (map d_y v0), []⟩)]⟩
def ex37_0 : O37_0 → VX.Exit
 | .k0 _ _ _ => (.exit 0)
def fin37_0 (l0_0 : Nat) (a0 : (List Int)) : O37_0 → St
 | .k0 w0 w1 w2 => ⟨[(0, (.one (.bor l0_0 (map b_y a0)))), (3, (.one (.ref ⟨(3, 0, 0), [], 0, (Int.toNat ((length (map b_y a0)) : Int))⟩))), (4, (.one (.val (.int .i64 w1)))), (11, (.one (.val (.bool w2))))], [((3, 0, 0), .live ⟨1, (map d_y w0), []⟩)]⟩
theorem t37_0 {l0_0 : Nat} {a0 : (List Int)} (hy0 : length a0 * 1 ≤ 140737488351232) : ∀ (y0 : List Int) (p : List Int) (v0 : List Int), p ++ y0 = a0 → length v0 = (Int.toNat ((length (map b_y a0)) : Int)) → Ev F X (.code l37_0 (h37_0 l0_0 a0 (length p : Int) v0) (ex37_0 (r37_0 a0 y0 (length p : Int) v0)) (fin37_0 l0_0 a0 (r37_0 a0 y0 (length p : Int) v0)))
 | [], p, v0, hp0, hi0 => by
  have hc : ¬ (decide ((length p : Int) < ((length (map b_y a0)) : Int))) = true := by
   rw [← hp0]; simp only [length_map, length_set, length_append, length_replicate, length_cons, length_nil, decide_eq_true_eq]; omega
  have hj0 := hi0; try simp only [length_map, length_set, length_append, length_replicate, length_cons, length_nil, Int.toNat_natCast] at hj0
  have st := ch b37_0 [(8, .b false)] (h37_0 l0_0 a0 (length p : Int) v0) (fin37_0 l0_0 a0 (.k0 v0 (length p : Int) (decide ((length p : Int) < ((length (map b_y a0)) : Int))))) (.exit 0) 9 [(decide ((length p : Int) < ((length (map b_y a0)) : Int))) = false] (by kernel_rfl) ⟨(nt hc), trivial⟩
  exact .loopX st (show ((.exit 0) : VX.Exit) ≠ .normal from by simp)
 | x0 :: y0, p, v0, hp0, hi0 => by
  have hc : (decide ((length p : Int) < ((length (map b_y a0)) : Int))) = true := lt1 hp0
  have Hx0 : (a0)[Int.toNat (length p : Int)]? = some x0 := by
   rw [← hp0, Int.toNat_natCast]; simp
  have hlen : length (a0) = length p + length y0 + 1 := by rw [← hp0]; simp; omega
  have hw : w64 ((length p : Int) + 1) = (length p : Int) + 1 := wrap64 (by omega)
  have hj0 := hi0; try simp only [length_map, length_set, length_append, length_replicate, length_cons, length_nil, Int.toNat_natCast] at hj0
  obtain ⟨x1, Hx1⟩ : ∃ y, v0[Int.toNat (length p : Int)]? = some y := ⟨_, List.getElem?_eq_getElem (by omega)⟩
  simp only [r37_0]
  have st := ch b37_0 [(8, .b true), (18, .row [(.val (.int .u8 x0))]), (24, .rowD [(.val (.int .u8 x1))]), (25, .norm (3, 0, 0) (map d_y (set v0 (Int.toNat (length p : Int)) x0)))] (h37_0 l0_0 a0 (length p : Int) v0) ⟨[(0, (.one (.bor l0_0 (map b_y a0)))), (3, (.one (.ref ⟨(3, 0, 0), [], 0, (Int.toNat ((length (map b_y a0)) : Int))⟩))), (4, (.oi (w64 ((length p : Int) + 1))))], [((3, 0, 0), .live ⟨1, (map d_y (set v0 (Int.toNat (length p : Int)) x0)), []⟩)]⟩ .normal 32 [(decide ((length p : Int) < ((length (map b_y a0)) : Int))) = true, 0 ≤ (length p : Int), (map b_y a0)[(Int.toNat (length p : Int))]? = some [(.val (.int .u8 x0))], 0 + (Int.toNat ((length (map b_y a0)) : Int)) ≤ (length (map d_y v0)), 0 ≤ (length p : Int) ∧ (length p : Int) < ((Int.toNat ((length (map b_y a0)) : Int)) : Int), (map d_y v0)[(0 + (Int.toNat (length p : Int)))]? = some [(.val (.int .u8 x1))], (set (map d_y v0) (0 + (Int.toNat (length p : Int))) [(.val (.int .u8 x0))]) = (map d_y (set v0 (Int.toNat (length p : Int)) x0)), True] (by kernel_rfl) ⟨hc, (by omega), (by rw [getElem?_map, Hx0]; rfl), (by simp only [length_map]; omega), (by omega), (by rw [Nat.zero_add, getElem?_map, Hx1]; rfl), (by simp [byteRows_eq, ints_y, take_of_length_le, d_y, d_LyE, d_b, d_isii, d_iiLisiiE, d_i, d_LLyEE, d_s, d_LisiiE, fromBR_y, fromBR_b, fromBR_isii, fromBR_i, fromBR_s, four_len]; done), trivial, trivial⟩
  have ih := t37_0 (l0_0 := l0_0) (a0 := a0) hy0 y0 (p ++ [x0]) (set v0 (Int.toNat (length p : Int)) x0) (by rw [append_assoc]; exact hp0) (by simp only [length_map, length_set, length_append, length_replicate, length_cons, length_nil]; omega)
  rw [show ((p ++ [x0]).length : Int) = (p.length : Int) + 1 from by simp] at ih
  replace st := to_ (s' := h37_0 l0_0 a0 ((length p : Int) + 1) (set v0 (Int.toNat (length p : Int)) x0)) st (by unfold h37_0; simp only [hw]; done)
  exact .loopN st ih
def post37_0 (n0 : Nat) : O37_0 → Prop
 | .k0 w0 _ _ => length w0 = n0
theorem z37_0 {a0 : (List Int)} : ∀ (y0 : List Int) (i : Int) (v0 : List Int), post37_0 (length v0) (r37_0 a0 y0 i v0)
 | [], i, v0 => by
  first | trivial | (simp only [post37_0, length_nil, Nat.add_zero]; done) | (simp [post37_0]; done)
 | x0 :: y0, i, v0 => by
  simp only [r37_0]
  have z := z37_0 (a0 := a0) y0 (i + 1) (set v0 (Int.toNat i) x0)
  rw [show (length v0) = (length (set v0 (Int.toNat i) x0)) from by first | omega | (simp only [length_map, length_set, length_append, length_replicate, length_cons, length_nil]; done) | (simp only [length_map, length_set, length_append, length_replicate, length_cons, length_nil]; omega)]
  exact z
def m37 (a0 : (List Int)) : (List Int) :=
 (match r37_0 a0 a0 0 (List.replicate (Int.toNat ((length (map b_y a0)) : Int)) 0) with | .k0 w0_1 w1_1 w2_1 => w0_1)
theorem e37 {l0_0 : Nat} {a0 : (List Int)} (hy0 : length a0 * 1 ≤ 140737488351232) : Ev F X (.call 37 [(.one (.bor l0_0 (map b_y a0)))] [] [] [(.one (.own 1 (map d_y (m37 a0))))]) := by
 unfold m37
 have f0 : 0 ≤ ((length (map b_y a0)) : Int) ∧ ((length (map b_y a0)) : Int) ≤ ((length (map b_y a0)) : Int) ∧ ((length (map b_y a0)) : Int) ≤ 140737488355328 ∧ ((length (map b_y a0)) : Int) * 1 ≤ 140737488355328 := (by simp only [length_map]; omega)
 have f1 : (List.replicate (Int.toNat ((length (map b_y a0)) : Int)) [(.val (.int .u8 0))]) = (map d_y (List.replicate (Int.toNat ((length (map b_y a0)) : Int)) 0)) := (by simp [byteRows_eq, ints_y, take_of_length_le, d_y, d_LyE, d_b, d_isii, d_iiLisiiE, d_i, d_LLyEE, d_s, d_LisiiE, fromBR_y, fromBR_b, fromBR_isii, fromBR_i, fromBR_s, four_len]; done)
 cases h0 : r37_0 a0 a0 0 (List.replicate (Int.toNat ((length (map b_y a0)) : Int)) 0) with
 | k0 w0_1 w1_1 w2_1 =>
  try dsimp only
  have zh0 := z37_0 (a0 := a0) a0 0 (List.replicate (Int.toNat ((length (map b_y a0)) : Int)) 0); rw [h0] at zh0; simp only [post37_0, length_map, length_set, length_append, length_replicate, length_cons, length_nil, Int.toNat_natCast] at zh0
  have f2 : (⟨[(0, (.one (.bor l0_0 (map b_y a0)))), (3, (.one (.ref ⟨(3, 0, 0), [], 0, (Int.toNat ((length (map b_y a0)) : Int))⟩))), (4, (.oi 0))], [((3, 0, 0), .live ⟨1, (map d_y (List.replicate (Int.toNat ((length (map b_y a0)) : Int)) 0)), []⟩)]⟩ : St) = h37_0 l0_0 a0 0 (List.replicate (Int.toNat ((length (map b_y a0)) : Int)) 0) := (by rfl)
  have f3 : Ev F X (.code l37_0 (h37_0 l0_0 a0 0 (List.replicate (Int.toNat ((length (map b_y a0)) : Int)) 0)) (.exit 0) ⟨[(0, (.one (.bor l0_0 (map b_y a0)))), (3, (.one (.ref ⟨(3, 0, 0), [], 0, (Int.toNat ((length (map b_y a0)) : Int))⟩))), (4, (.oi w1_1)), (11, (.one (.val (.bool w2_1))))], [((3, 0, 0), .live ⟨1, (map d_y w0_1), []⟩)]⟩) := (by have t : Ev F X (.code l37_0 (h37_0 l0_0 a0 0 (List.replicate (Int.toNat ((length (map b_y a0)) : Int)) 0)) (ex37_0 (r37_0 a0 a0 0 (List.replicate (Int.toNat ((length (map b_y a0)) : Int)) 0))) (fin37_0 l0_0 a0 (r37_0 a0 a0 0 (List.replicate (Int.toNat ((length (map b_y a0)) : Int)) 0)))) := t37_0 (l0_0 := l0_0) (a0 := a0) (by assumption) a0 [] (List.replicate (Int.toNat ((length (map b_y a0)) : Int)) 0) rfl (by simp only [length_map, length_set, length_append, length_replicate, length_cons, length_nil]; done); rw [h0] at t; exact t)
  have f5 : (Int.toNat ((length (map b_y a0)) : Int)) = (length (map d_y w0_1)) := (by simp only [length_map]; omega)
  exact cp (by kernel_rfl) (.f f0 (.f f1 (.f f2 (.f f3 (.e 0 (.f f5 (.f (pureR_y w0_1) (.h 10 (.norm (3, 0, 0) (map d_y (List.replicate (Int.toNat ((length (map b_y a0)) : Int)) 0))) (.h 13 (.loop (h37_0 l0_0 a0 0 (List.replicate (Int.toNat ((length (map b_y a0)) : Int)) 0)) (.exit 0) ⟨[(0, (.one (.bor l0_0 (map b_y a0)))), (3, (.one (.ref ⟨(3, 0, 0), [], 0, (Int.toNat ((length (map b_y a0)) : Int))⟩))), (4, (.oi w1_1)), (11, (.one (.val (.bool w2_1))))], [((3, 0, 0), .live ⟨1, (map d_y w0_1), []⟩)]⟩) .nil)))))))))
theorem c37_0 (a0 : List Int) : ∀ (l p q : List Int), q.length = l.length → ∃ w1 w2, r37_0 a0 l (p.length : Int) (p ++ q) = .k0 (p ++ l) w1 w2
 | [], p, [], _ => ⟨_, _, rfl⟩
 | [], _, _ :: _, h => by simp at h
 | _ :: _, _, [], h => by simp at h
 | x :: l, p, y :: q, h => by
  have ih := c37_0 a0 l (p ++ [x]) q (by simpa using h)
  have e : set (p ++ y :: q) (Int.toNat (p.length : Int)) x = (p ++ [x]) ++ q := by simp
  have e2 : ((p ++ [x]).length : Int) = (p.length : Int) + 1 := by simp
  rw [e2] at ih
  simp only [r37_0]
  rw [show p ++ x :: l = (p ++ [x]) ++ l by simp]
  first | (rw [e]; exact ih) | (simp only [e]; exact ih)
theorem q37 (a0 : (List Int)) (hy0 : length a0 * 1 ≤ 140737488351232) : (m37 a0) = a0 := by
 have h := c37_0 a0 a0 [] (List.replicate (Int.toNat ((length (map b_y a0)) : Int)) 0) (by simp)
 unfold m37
 simp only [List.nil_append, length_nil] at h
 obtain ⟨_, _, h⟩ := h
 rw [show ((0 : Nat) : Int) = 0 from rfl] at h
 rw [h]
theorem g37 {l0_0 : Nat} {a0 : (List Int)} (hy0 : length a0 * 1 ≤ 140737488351232) : Ev F X (.call 37 [(.one (.bor l0_0 (map b_y a0)))] [] [] [(.one (.own 1 (map d_y a0)))]) := by
 have t := e37 (l0_0 := l0_0) (a0 := a0) hy0
 rw [q37 a0 hy0] at t
 exact t
def m93 (a0 : Int) (a1 : Int) (a2 : Int) : Bool :=
 if (decide (a0 ≥ a1)) = true then (decide (a0 ≤ a2)) else
 false
theorem e93 {a0 : Int} {a1 : Int} {a2 : Int} : Ev F X (.call 93 [(.one (.val (.int .i64 a0))), (.one (.val (.int .i64 a1))), (.one (.val (.int .i64 a2)))] [] [] [(.one (.val (.bool (m93 a0 a1 a2))))]) := by
 unfold m93
 by_cases h0 : (decide (a0 ≥ a1)) = true
 ·try simp only [if_pos h0]
  exact cp (by kernel_rfl) (.m 4 h0 (.y 10 (.y 12 (.y 14 (.y 17 .nil)))))
 ·try simp only [if_neg h0]
  exact cp (by kernel_rfl) (.n 4 h0 (.z 10 (.z 12 (.z 14 (.z 17 .nil)))))
def m79 (a0 : Int) : Bool :=
 (m93 a0 0 1000000)
theorem e79 {a0 : Int} : Ev F X (.call 79 [(.one (.val (.int .i64 a0)))] [] [] [(.one (.val (.bool (m93 a0 0 1000000))))]) := by
 have f0 := e93 (a0 := a0) (a1 := 0) (a2 := 1000000)
 exact cp (by kernel_rfl) (.r 5 [] [] f0 .nil)
theorem e156 {a0 a1 : ByteArray} (hy0 : ByteArray.size a0 ≤ 9223372036854775807) (hy1 : ByteArray.size a1 < 4294967281) (hy2 : asciiB a1 = true) : Ev F X (.call 156 [(.one (.val (.string a0))), (.one (.val (.string a1)))] [] [] [(.one (.val (.string (trimB a0 a1))))]) :=
 .ext (⟨rfl, rfl, (⟨a0, a1, hy0, hy1, hy2, rfl, rfl⟩)⟩) rfl
def m149 (a0 : ByteArray) : Bool :=
 if (decide ((ByteArray.size a0 : Int) ≤ 12)) = true then ((trimB a0 (⟨#[97, 98, 99, 100, 101, 102, 103, 104, 105, 106, 107, 108, 109, 110, 111, 112, 113, 114, 115, 116, 117, 118, 119, 120, 121, 122, 65, 66, 67, 68, 69, 70, 71, 72, 73, 74, 75, 76, 77, 78, 79, 80, 81, 82, 83, 84, 85, 86, 87, 88, 89, 90, 48, 49, 50, 51, 52, 53, 54, 55, 56, 57]⟩ : ByteArray)).toList == (⟨#[]⟩ : ByteArray).toList) else
 false
theorem e149 {a0 : ByteArray} : Ev F X (.call 149 [(.one (.val (.string a0)))] [] [] [(.one (.val (.bool (m149 a0))))]) := by
 unfold m149
 by_cases h0 : (decide ((ByteArray.size a0 : Int) ≤ 12)) = true
 ·try simp only [if_pos h0]
  have f2 : Ev F X (.call 156 [(.one (.val (.string a0))), (.one (.val (.string (⟨#[97, 98, 99, 100, 101, 102, 103, 104, 105, 106, 107, 108, 109, 110, 111, 112, 113, 114, 115, 116, 117, 118, 119, 120, 121, 122, 65, 66, 67, 68, 69, 70, 71, 72, 73, 74, 75, 76, 77, 78, 79, 80, 81, 82, 83, 84, 85, 86, 87, 88, 89, 90, 48, 49, 50, 51, 52, 53, 54, 55, 56, 57]⟩ : ByteArray))))] [] [] [(.one (.val (.string (trimB a0 (⟨#[97, 98, 99, 100, 101, 102, 103, 104, 105, 106, 107, 108, 109, 110, 111, 112, 113, 114, 115, 116, 117, 118, 119, 120, 121, 122, 65, 66, 67, 68, 69, 70, 71, 72, 73, 74, 75, 76, 77, 78, 79, 80, 81, 82, 83, 84, 85, 86, 87, 88, 89, 90, 48, 49, 50, 51, 52, 53, 54, 55, 56, 57]⟩ : ByteArray)))))]) := (e156 (a0 := a0) (a1 := (⟨#[97, 98, 99, 100, 101, 102, 103, 104, 105, 106, 107, 108, 109, 110, 111, 112, 113, 114, 115, 116, 117, 118, 119, 120, 121, 122, 65, 66, 67, 68, 69, 70, 71, 72, 73, 74, 75, 76, 77, 78, 79, 80, 81, 82, 83, 84, 85, 86, 87, 88, 89, 90, 48, 49, 50, 51, 52, 53, 54, 55, 56, 57]⟩ : ByteArray)) (by simp only [decide_eq_true_eq] at *; omega) (by decide) (by decide))
  exact cp (by kernel_rfl) (.m 2 h0 (.y 10 (.y 12 (.r 13 [] [] f2 (.m 2 h0 (.y 14 (.y 17 .nil)))))))
 ·try simp only [if_neg h0]
  exact cp (by kernel_rfl) (.n 4 h0 (.z 10 (.z 12 (.z 14 (.z 17 .nil)))))
def m118 (a0 : ByteArray) : Bool :=
 if (!(a0.toList == (⟨#[]⟩ : ByteArray).toList)) = true then (m149 a0) else
 false
theorem e118 {a0 : ByteArray} : Ev F X (.call 118 [(.one (.val (.string a0)))] [] [] [(.one (.val (.bool (m118 a0))))]) := by
 unfold m118
 by_cases h0 : (!(a0.toList == (⟨#[]⟩ : ByteArray).toList)) = true
 ·try simp only [if_pos h0]
  have f2 := e149 (a0 := a0)
  exact cp (by kernel_rfl) (.m 2 h0 (.y 8 (.y 10 (.r 11 [] [] f2 (.f h0 (.y 13 .nil))))))
 ·try simp only [if_neg h0]
  exact cp (by kernel_rfl) (.n 3 h0 (.z 8 (.z 10 (.z 13 .nil))))
theorem arg_len118 {a : ByteArray} (h : m118 a = true) : ByteArray.size a ≤ 12 := by
 unfold m118 at h
 split at h
 ·unfold m149 at h
  split at h
  ·rename_i h2; simp only [decide_eq_true_eq] at h2; omega
  ·cases h
 ·cases h
def m119 (a0 : Int) : Bool :=
 (m93 a0 0 2147483646)
theorem e119 {a0 : Int} : Ev F X (.call 119 [(.one (.val (.int .i64 a0)))] [] [] [(.one (.val (.bool (m93 a0 0 2147483646))))]) := by
 have f0 := e93 (a0 := a0) (a1 := 0) (a2 := 2147483646)
 exact cp (by kernel_rfl) (.r 5 [] [] f0 .nil)
def m64 (a0 : K_isii) : Int :=
 if (a0.f0 == 1) = true then (if (!(m93 a0.f0 1 5)) = true then 1 else
  if (a0.f2 != 0) = true then 1 else
   if (!(m118 a0.f1)) = true then 5 else
    if (!(m93 a0.f2 0 2147483646)) = true then 3 else
     if (!(m93 a0.f3 0 1000000)) = true then 3 else
      if (a0.f3 == 0) = true then 3 else
       if (decide (a0.f3 > 9999)) = true then 3 else
        0) else
 if (a0.f0 == 5) = true then (if (!(m93 a0.f0 1 5)) = true then 1 else
   if (!(a0.f0 == 5)) = true then (if (!(a0.f1.toList == (⟨#[]⟩ : ByteArray).toList)) = true then 1 else
     if (a0.f2 != 0) = true then 1 else
      if (!(m118 a0.f1)) = true then 5 else
       if (!(m93 a0.f2 0 2147483646)) = true then 3 else
        if (!(m93 a0.f3 0 1000000)) = true then 3 else
         if (a0.f3 == 0) = true then 3 else
          0) else
    if (a0.f2 != 0) = true then 1 else
     if (!(m118 a0.f1)) = true then 5 else
      if (!(m93 a0.f2 0 2147483646)) = true then 3 else
       if (!(m93 a0.f3 0 1000000)) = true then 3 else
        if (a0.f3 == 0) = true then 3 else
         0) else
  if (!(m93 a0.f0 1 5)) = true then 1 else
   if (!(a0.f0 == 5)) = true then (if (!(a0.f1.toList == (⟨#[]⟩ : ByteArray).toList)) = true then 1 else
     if (!(a0.f0 == 2)) = true then (if (a0.f3 != 0) = true then 1 else
       if (!(m93 a0.f2 0 2147483646)) = true then 3 else
        if (!(m93 a0.f3 0 1000000)) = true then 3 else
         0) else
      if (!(m93 a0.f2 0 2147483646)) = true then 3 else
       if (!(m93 a0.f3 0 1000000)) = true then 3 else
        0) else
    if (!(a0.f0 == 2)) = true then (if (a0.f3 != 0) = true then 1 else
      if (!(m93 a0.f2 0 2147483646)) = true then 3 else
       if (!(m93 a0.f3 0 1000000)) = true then 3 else
        0) else
     if (!(m93 a0.f2 0 2147483646)) = true then 3 else
      if (!(m93 a0.f3 0 1000000)) = true then 3 else
       0
theorem e64 {a0 : K_isii} : Ev F X (.call 64 [(.agg [(.val (.int .i64 a0.f0)), (.val (.string a0.f1)), (.val (.int .i64 a0.f2)), (.val (.int .i64 a0.f3))])] [] [] [(.one (.val (.int .i64 (m64 a0))))]) := by
 unfold m64
 by_cases h0 : (a0.f0 == 1) = true
 ·try simp only [if_pos h0]
  have f4 := e93 (a0 := a0.f0) (a1 := 1) (a2 := 5)
  by_cases h1 : (!(m93 a0.f0 1 5)) = true
  ·try simp only [if_pos h1]
   exact cp (by kernel_rfl) (.m 4 h0 (.y 12 (.y 14 (.y 16 (.y 19 (.r 41 [] [] f4 (.m 5 h1 (.y 46 (.y 48 (.y 50 (.y 58 (.y 61 .nil))))))))))))
  ·try simp only [if_neg h1]
   by_cases h2 : (a0.f2 != 0) = true
   ·try simp only [if_pos h2]
    exact cp (by kernel_rfl) (.m 4 h0 (.y 12 (.y 14 (.y 16 (.y 19 (.r 41 [] [] f4 (.n 5 h1 (.m 5 h2 (.z 46 (.z 48 (.z 50 (.z 58 (.z 61 (.y 80 (.y 82 (.y 84 (.y 92 (.y 95 .nil))))))))))))))))))
   ·try simp only [if_neg h2]
    have f15 := e118 (a0 := a0.f1)
    by_cases h3 : (!(m118 a0.f1)) = true
    ·try simp only [if_pos h3]
     exact cp (by kernel_rfl) (.m 4 h0 (.y 12 (.y 14 (.y 16 (.y 19 (.r 41 [] [] f4 (.n 5 h1 (.n 5 h2 (.z 46 (.z 48 (.z 50 (.z 58 (.z 61 (.z 80 (.z 82 (.z 84 (.z 92 (.z 95 (.r 108 [] [] f15 (.f h3 (.y 115 .nil)))))))))))))))))))))
    ·try simp only [if_neg h3]
     have f17 := e119 (a0 := a0.f2)
     by_cases h4 : (!(m93 a0.f2 0 2147483646)) = true
     ·try simp only [if_pos h4]
      exact cp (by kernel_rfl) (.m 4 h0 (.y 12 (.y 14 (.y 16 (.y 19 (.r 41 [] [] f4 (.n 5 h1 (.n 5 h2 (.z 46 (.z 48 (.z 50 (.z 58 (.z 61 (.z 80 (.z 82 (.z 84 (.z 92 (.z 95 (.r 108 [] [] f15 (.g h3 (.z 115 (.r 121 [] [] f17 (.m 5 h4 (.y 126 (.y 128 (.y 130 (.y 132 (.y 135 .nil))))))))))))))))))))))))))))
     ·try simp only [if_neg h4]
      have f21 := e79 (a0 := a0.f3)
      by_cases h5 : (!(m93 a0.f3 0 1000000)) = true
      ·try simp only [if_pos h5]
       exact cp (by kernel_rfl) (.m 4 h0 (.y 12 (.y 14 (.y 16 (.y 19 (.r 41 [] [] f4 (.n 5 h1 (.n 5 h2 (.z 46 (.z 48 (.z 50 (.z 58 (.z 61 (.z 80 (.z 82 (.z 84 (.z 92 (.z 95 (.r 108 [] [] f15 (.g h3 (.z 115 (.r 121 [] [] f17 (.n 3 h4 (.z 126 (.z 128 (.z 130 (.r 131 [] [] f21 (.n 2 h4 (.m 4 h5 (.z 132 (.z 135 (.y 138 (.y 140 (.y 148 (.y 151 .nil)))))))))))))))))))))))))))))))))))
      ·try simp only [if_neg h5]
       by_cases h6 : (a0.f3 == 0) = true
       ·try simp only [if_pos h6]
        exact cp (by kernel_rfl) (.m 4 h0 (.y 12 (.y 14 (.y 16 (.y 19 (.r 41 [] [] f4 (.n 5 h1 (.n 5 h2 (.z 46 (.z 48 (.z 50 (.z 58 (.z 61 (.z 80 (.z 82 (.z 84 (.z 92 (.z 95 (.r 108 [] [] f15 (.g h3 (.z 115 (.r 121 [] [] f17 (.n 3 h4 (.z 126 (.z 128 (.z 130 (.r 131 [] [] f21 (.n 2 h4 (.n 4 h5 (.m 6 h6 (.z 132 (.z 135 (.z 138 (.z 140 (.z 148 (.z 151 (.y 154 (.y 156 (.y 158 (.y 160 (.y 168 (.y 171 .nil))))))))))))))))))))))))))))))))))))))))))
       ·try simp only [if_neg h6]
        by_cases h7 : (decide (a0.f3 > 9999)) = true
        ·try simp only [if_pos h7]
         exact cp (by kernel_rfl) (.m 4 h0 (.y 12 (.y 14 (.y 16 (.y 19 (.r 41 [] [] f4 (.n 5 h1 (.n 5 h2 (.z 46 (.z 48 (.z 50 (.z 58 (.z 61 (.z 80 (.z 82 (.z 84 (.z 92 (.z 95 (.r 108 [] [] f15 (.g h3 (.z 115 (.r 121 [] [] f17 (.n 3 h4 (.z 126 (.z 128 (.z 130 (.r 131 [] [] f21 (.n 2 h4 (.n 4 h5 (.n 4 h6 (.m 3 h0 (.g h6 (.f h0 (.g h6 (.f h7 (.z 132 (.z 135 (.z 138 (.z 140 (.z 148 (.z 151 (.z 154 (.z 156 (.z 158 (.z 160 (.y 162 (.y 164 (.y 166 (.z 168 (.y 169 (.z 171 (.y 174 .nil))))))))))))))))))))))))))))))))))))))))))))))))))))
        ·try simp only [if_neg h7]
         exact cp (by kernel_rfl) (.m 4 h0 (.y 12 (.y 14 (.y 16 (.y 19 (.r 41 [] [] f4 (.n 5 h1 (.n 5 h2 (.z 46 (.z 48 (.z 50 (.z 58 (.z 61 (.z 80 (.z 82 (.z 84 (.z 92 (.z 95 (.r 108 [] [] f15 (.g h3 (.z 115 (.r 121 [] [] f17 (.n 3 h4 (.z 126 (.z 128 (.z 130 (.r 131 [] [] f21 (.n 2 h4 (.n 4 h5 (.n 4 h6 (.m 3 h0 (.g h6 (.f h0 (.g h6 (.g h7 (.z 132 (.z 135 (.z 138 (.z 140 (.z 148 (.z 151 (.z 154 (.z 156 (.z 158 (.z 160 (.y 162 (.y 164 (.y 166 (.z 168 (.y 169 (.z 171 (.z 174 .nil))))))))))))))))))))))))))))))))))))))))))))))))))))
 ·try simp only [if_neg h0]
  by_cases h1 : (a0.f0 == 5) = true
  ·try simp only [if_pos h1]
   have f8 := e93 (a0 := a0.f0) (a1 := 1) (a2 := 5)
   by_cases h2 : (!(m93 a0.f0 1 5)) = true
   ·try simp only [if_pos h2]
    exact cp (by kernel_rfl) (.n 4 h0 (.m 4 h1 (.z 12 (.z 14 (.z 16 (.z 19 (.y 26 (.y 28 (.y 30 (.y 33 (.r 41 [] [] f8 (.m 5 h2 (.y 46 (.y 48 (.y 50 (.y 58 (.y 61 .nil)))))))))))))))))
   ·try simp only [if_neg h2]
    by_cases h3 : (!(a0.f0 == 5)) = true
    ·try simp only [if_pos h3]
     by_cases h4 : (!(a0.f1.toList == (⟨#[]⟩ : ByteArray).toList)) = true
     ·try simp only [if_pos h4]
      exact cp (by kernel_rfl) (.n 4 h0 (.m 4 h1 (.z 12 (.z 14 (.z 16 (.z 19 (.y 26 (.y 28 (.y 30 (.y 33 (.r 41 [] [] f8 (.n 3 h2 (.m 3 h3 (.g h2 (.f h3 (.g h2 (.m 4 h4 (.z 46 (.z 48 (.z 50 (.y 52 (.y 54 (.y 56 (.z 58 (.y 59 (.z 61 (.y 64 (.y 66 (.y 74 (.y 77 .nil))))))))))))))))))))))))))))))
     ·try simp only [if_neg h4]
      by_cases h5 : (a0.f2 != 0) = true
      ·try simp only [if_pos h5]
       exact cp (by kernel_rfl) (.n 4 h0 (.m 4 h1 (.z 12 (.z 14 (.z 16 (.z 19 (.y 26 (.y 28 (.y 30 (.y 33 (.r 41 [] [] f8 (.n 3 h2 (.m 3 h3 (.g h2 (.f h3 (.g h2 (.n 2 h4 (.m 3 h1 (.g h4 (.f h1 (.g h4 (.m 5 h5 (.z 46 (.z 48 (.z 50 (.y 52 (.y 54 (.y 56 (.z 58 (.y 59 (.z 61 (.z 64 (.z 66 (.y 68 (.y 70 (.y 72 (.z 74 (.y 75 (.z 77 (.y 80 (.y 82 (.y 84 (.y 92 (.y 95 .nil))))))))))))))))))))))))))))))))))))))))))))
      ·try simp only [if_neg h5]
       have f34 := e118 (a0 := a0.f1)
       by_cases h6 : (!(m118 a0.f1)) = true
       ·try simp only [if_pos h6]
        exact cp (by kernel_rfl) (.n 4 h0 (.m 4 h1 (.z 12 (.z 14 (.z 16 (.z 19 (.y 26 (.y 28 (.y 30 (.y 33 (.r 41 [] [] f8 (.n 3 h2 (.m 3 h3 (.g h2 (.f h3 (.g h2 (.n 2 h4 (.m 3 h1 (.g h4 (.f h1 (.g h4 (.n 5 h5 (.m 3 h1 (.z 46 (.z 48 (.z 50 (.y 52 (.y 54 (.y 56 (.z 58 (.y 59 (.z 61 (.z 64 (.z 66 (.y 68 (.y 70 (.y 72 (.z 74 (.y 75 (.z 77 (.z 80 (.z 82 (.z 84 (.z 92 (.z 95 (.y 103 (.y 105 (.y 107 (.r 108 [] [] f34 (.m 2 h1 (.f h6 (.y 109 (.y 112 (.y 115 .nil))))))))))))))))))))))))))))))))))))))))))))))))))))))
       ·try simp only [if_neg h6]
        have f38 := e119 (a0 := a0.f2)
        by_cases h7 : (!(m93 a0.f2 0 2147483646)) = true
        ·try simp only [if_pos h7]
         exact cp (by kernel_rfl) (.n 4 h0 (.m 4 h1 (.z 12 (.z 14 (.z 16 (.z 19 (.y 26 (.y 28 (.y 30 (.y 33 (.r 41 [] [] f8 (.n 3 h2 (.m 3 h3 (.g h2 (.f h3 (.g h2 (.n 2 h4 (.m 3 h1 (.g h4 (.f h1 (.g h4 (.n 5 h5 (.m 3 h1 (.z 46 (.z 48 (.z 50 (.y 52 (.y 54 (.y 56 (.z 58 (.y 59 (.z 61 (.z 64 (.z 66 (.y 68 (.y 70 (.y 72 (.z 74 (.y 75 (.z 77 (.z 80 (.z 82 (.z 84 (.z 92 (.z 95 (.y 103 (.y 105 (.y 107 (.r 108 [] [] f34 (.m 2 h1 (.g h6 (.y 109 (.y 112 (.z 115 (.r 121 [] [] f38 (.m 5 h7 (.y 126 (.y 128 (.y 130 (.y 132 (.y 135 .nil)))))))))))))))))))))))))))))))))))))))))))))))))))))))))))))
        ·try simp only [if_neg h7]
         have f42 := e79 (a0 := a0.f3)
         by_cases h8 : (!(m93 a0.f3 0 1000000)) = true
         ·try simp only [if_pos h8]
          exact cp (by kernel_rfl) (.n 4 h0 (.m 4 h1 (.z 12 (.z 14 (.z 16 (.z 19 (.y 26 (.y 28 (.y 30 (.y 33 (.r 41 [] [] f8 (.n 3 h2 (.m 3 h3 (.g h2 (.f h3 (.g h2 (.n 2 h4 (.m 3 h1 (.g h4 (.f h1 (.g h4 (.n 5 h5 (.m 3 h1 (.z 46 (.z 48 (.z 50 (.y 52 (.y 54 (.y 56 (.z 58 (.y 59 (.z 61 (.z 64 (.z 66 (.y 68 (.y 70 (.y 72 (.z 74 (.y 75 (.z 77 (.z 80 (.z 82 (.z 84 (.z 92 (.z 95 (.y 103 (.y 105 (.y 107 (.r 108 [] [] f34 (.m 2 h1 (.g h6 (.y 109 (.y 112 (.z 115 (.r 121 [] [] f38 (.n 3 h7 (.z 126 (.z 128 (.z 130 (.r 131 [] [] f42 (.n 2 h7 (.m 4 h8 (.z 132 (.z 135 (.y 138 (.y 140 (.y 148 (.y 151 .nil))))))))))))))))))))))))))))))))))))))))))))))))))))))))))))))))))))
         ·try simp only [if_neg h8]
          by_cases h9 : (a0.f3 == 0) = true
          ·try simp only [if_pos h9]
           exact cp (by kernel_rfl) (.n 4 h0 (.m 4 h1 (.z 12 (.z 14 (.z 16 (.z 19 (.y 26 (.y 28 (.y 30 (.y 33 (.r 41 [] [] f8 (.n 3 h2 (.m 3 h3 (.g h2 (.f h3 (.g h2 (.n 2 h4 (.m 3 h1 (.g h4 (.f h1 (.g h4 (.n 5 h5 (.m 3 h1 (.z 46 (.z 48 (.z 50 (.y 52 (.y 54 (.y 56 (.z 58 (.y 59 (.z 61 (.z 64 (.z 66 (.y 68 (.y 70 (.y 72 (.z 74 (.y 75 (.z 77 (.z 80 (.z 82 (.z 84 (.z 92 (.z 95 (.y 103 (.y 105 (.y 107 (.r 108 [] [] f34 (.m 2 h1 (.g h6 (.y 109 (.y 112 (.z 115 (.r 121 [] [] f38 (.n 3 h7 (.z 126 (.z 128 (.z 130 (.r 131 [] [] f42 (.n 2 h7 (.n 2 h8 (.m 3 h1 (.g h8 (.f h1 (.g h8 (.m 6 h9 (.z 132 (.z 135 (.z 138 (.z 140 (.y 142 (.y 144 (.y 146 (.z 148 (.y 149 (.z 151 (.y 154 (.y 156 (.y 158 (.y 160 (.y 168 (.y 171 .nil)))))))))))))))))))))))))))))))))))))))))))))))))))))))))))))))))))))))))))))))))))
          ·try simp only [if_neg h9]
           exact cp (by kernel_rfl) (.n 4 h0 (.m 4 h1 (.z 12 (.z 14 (.z 16 (.z 19 (.y 26 (.y 28 (.y 30 (.y 33 (.r 41 [] [] f8 (.n 3 h2 (.m 3 h3 (.g h2 (.f h3 (.g h2 (.n 2 h4 (.m 3 h1 (.g h4 (.f h1 (.g h4 (.n 5 h5 (.m 3 h1 (.z 46 (.z 48 (.z 50 (.y 52 (.y 54 (.y 56 (.z 58 (.y 59 (.z 61 (.z 64 (.z 66 (.y 68 (.y 70 (.y 72 (.z 74 (.y 75 (.z 77 (.z 80 (.z 82 (.z 84 (.z 92 (.z 95 (.y 103 (.y 105 (.y 107 (.r 108 [] [] f34 (.m 2 h1 (.g h6 (.y 109 (.y 112 (.z 115 (.r 121 [] [] f38 (.n 3 h7 (.z 126 (.z 128 (.z 130 (.r 131 [] [] f42 (.n 2 h7 (.n 2 h8 (.m 3 h1 (.g h8 (.f h1 (.g h8 (.n 4 h9 (.n 3 h0 (.g h9 (.g h0 (.g h9 (.z 132 (.z 135 (.z 138 (.z 140 (.y 142 (.y 144 (.y 146 (.z 148 (.y 149 (.z 151 (.z 154 (.z 156 (.z 158 (.z 160 (.z 162 (.z 164 (.z 166 (.z 168 (.z 169 (.z 171 .nil)))))))))))))))))))))))))))))))))))))))))))))))))))))))))))))))))))))))))))))))))))))))))))
    ·try simp only [if_neg h3]
     by_cases h4 : (a0.f2 != 0) = true
     ·try simp only [if_pos h4]
      exact cp (by kernel_rfl) (.n 4 h0 (.m 4 h1 (.z 12 (.z 14 (.z 16 (.z 19 (.y 26 (.y 28 (.y 30 (.y 33 (.r 41 [] [] f8 (.n 3 h2 (.n 3 h3 (.g h2 (.g h3 (.g h2 (.m 4 h1 (.m 5 h4 (.z 46 (.z 48 (.z 50 (.z 52 (.z 54 (.z 56 (.z 58 (.z 59 (.z 61 (.y 68 (.y 70 (.y 72 (.y 75 (.y 80 (.y 82 (.y 84 (.y 92 (.y 95 .nil))))))))))))))))))))))))))))))))))))
     ·try simp only [if_neg h4]
      have f30 := e118 (a0 := a0.f1)
      by_cases h5 : (!(m118 a0.f1)) = true
      ·try simp only [if_pos h5]
       exact cp (by kernel_rfl) (.n 4 h0 (.m 4 h1 (.z 12 (.z 14 (.z 16 (.z 19 (.y 26 (.y 28 (.y 30 (.y 33 (.r 41 [] [] f8 (.n 3 h2 (.n 3 h3 (.g h2 (.g h3 (.g h2 (.m 4 h1 (.n 5 h4 (.m 3 h1 (.z 46 (.z 48 (.z 50 (.z 52 (.z 54 (.z 56 (.z 58 (.z 59 (.z 61 (.y 68 (.y 70 (.y 72 (.y 75 (.z 80 (.z 82 (.z 84 (.z 92 (.z 95 (.y 103 (.y 105 (.y 107 (.r 108 [] [] f30 (.m 2 h1 (.f h5 (.y 109 (.y 112 (.y 115 .nil))))))))))))))))))))))))))))))))))))))))))))))
      ·try simp only [if_neg h5]
       have f34 := e119 (a0 := a0.f2)
       by_cases h6 : (!(m93 a0.f2 0 2147483646)) = true
       ·try simp only [if_pos h6]
        exact cp (by kernel_rfl) (.n 4 h0 (.m 4 h1 (.z 12 (.z 14 (.z 16 (.z 19 (.y 26 (.y 28 (.y 30 (.y 33 (.r 41 [] [] f8 (.n 3 h2 (.n 3 h3 (.g h2 (.g h3 (.g h2 (.m 4 h1 (.n 5 h4 (.m 3 h1 (.z 46 (.z 48 (.z 50 (.z 52 (.z 54 (.z 56 (.z 58 (.z 59 (.z 61 (.y 68 (.y 70 (.y 72 (.y 75 (.z 80 (.z 82 (.z 84 (.z 92 (.z 95 (.y 103 (.y 105 (.y 107 (.r 108 [] [] f30 (.m 2 h1 (.g h5 (.y 109 (.y 112 (.z 115 (.r 121 [] [] f34 (.m 5 h6 (.y 126 (.y 128 (.y 130 (.y 132 (.y 135 .nil)))))))))))))))))))))))))))))))))))))))))))))))))))))
       ·try simp only [if_neg h6]
        have f38 := e79 (a0 := a0.f3)
        by_cases h7 : (!(m93 a0.f3 0 1000000)) = true
        ·try simp only [if_pos h7]
         exact cp (by kernel_rfl) (.n 4 h0 (.m 4 h1 (.z 12 (.z 14 (.z 16 (.z 19 (.y 26 (.y 28 (.y 30 (.y 33 (.r 41 [] [] f8 (.n 3 h2 (.n 3 h3 (.g h2 (.g h3 (.g h2 (.m 4 h1 (.n 5 h4 (.m 3 h1 (.z 46 (.z 48 (.z 50 (.z 52 (.z 54 (.z 56 (.z 58 (.z 59 (.z 61 (.y 68 (.y 70 (.y 72 (.y 75 (.z 80 (.z 82 (.z 84 (.z 92 (.z 95 (.y 103 (.y 105 (.y 107 (.r 108 [] [] f30 (.m 2 h1 (.g h5 (.y 109 (.y 112 (.z 115 (.r 121 [] [] f34 (.n 3 h6 (.z 126 (.z 128 (.z 130 (.r 131 [] [] f38 (.n 2 h6 (.m 4 h7 (.z 132 (.z 135 (.y 138 (.y 140 (.y 148 (.y 151 .nil))))))))))))))))))))))))))))))))))))))))))))))))))))))))))))
        ·try simp only [if_neg h7]
         by_cases h8 : (a0.f3 == 0) = true
         ·try simp only [if_pos h8]
          exact cp (by kernel_rfl) (.n 4 h0 (.m 4 h1 (.z 12 (.z 14 (.z 16 (.z 19 (.y 26 (.y 28 (.y 30 (.y 33 (.r 41 [] [] f8 (.n 3 h2 (.n 3 h3 (.g h2 (.g h3 (.g h2 (.m 4 h1 (.n 5 h4 (.m 3 h1 (.z 46 (.z 48 (.z 50 (.z 52 (.z 54 (.z 56 (.z 58 (.z 59 (.z 61 (.y 68 (.y 70 (.y 72 (.y 75 (.z 80 (.z 82 (.z 84 (.z 92 (.z 95 (.y 103 (.y 105 (.y 107 (.r 108 [] [] f30 (.m 2 h1 (.g h5 (.y 109 (.y 112 (.z 115 (.r 121 [] [] f34 (.n 3 h6 (.z 126 (.z 128 (.z 130 (.r 131 [] [] f38 (.n 2 h6 (.n 2 h7 (.m 3 h1 (.g h7 (.f h1 (.g h7 (.m 6 h8 (.z 132 (.z 135 (.z 138 (.z 140 (.y 142 (.y 144 (.y 146 (.z 148 (.y 149 (.z 151 (.y 154 (.y 156 (.y 158 (.y 160 (.y 168 (.y 171 .nil)))))))))))))))))))))))))))))))))))))))))))))))))))))))))))))))))))))))))))
         ·try simp only [if_neg h8]
          exact cp (by kernel_rfl) (.n 4 h0 (.m 4 h1 (.z 12 (.z 14 (.z 16 (.z 19 (.y 26 (.y 28 (.y 30 (.y 33 (.r 41 [] [] f8 (.n 3 h2 (.n 3 h3 (.g h2 (.g h3 (.g h2 (.m 4 h1 (.n 5 h4 (.m 3 h1 (.z 46 (.z 48 (.z 50 (.z 52 (.z 54 (.z 56 (.z 58 (.z 59 (.z 61 (.y 68 (.y 70 (.y 72 (.y 75 (.z 80 (.z 82 (.z 84 (.z 92 (.z 95 (.y 103 (.y 105 (.y 107 (.r 108 [] [] f30 (.m 2 h1 (.g h5 (.y 109 (.y 112 (.z 115 (.r 121 [] [] f34 (.n 3 h6 (.z 126 (.z 128 (.z 130 (.r 131 [] [] f38 (.n 2 h6 (.n 2 h7 (.m 3 h1 (.g h7 (.f h1 (.g h7 (.n 4 h8 (.n 3 h0 (.g h8 (.g h0 (.g h8 (.z 132 (.z 135 (.z 138 (.z 140 (.y 142 (.y 144 (.y 146 (.z 148 (.y 149 (.z 151 (.z 154 (.z 156 (.z 158 (.z 160 (.z 162 (.z 164 (.z 166 (.z 168 (.z 169 (.z 171 .nil)))))))))))))))))))))))))))))))))))))))))))))))))))))))))))))))))))))))))))))))))))
  ·try simp only [if_neg h1]
   have f8 := e93 (a0 := a0.f0) (a1 := 1) (a2 := 5)
   by_cases h2 : (!(m93 a0.f0 1 5)) = true
   ·try simp only [if_pos h2]
    exact cp (by kernel_rfl) (.n 4 h0 (.n 4 h1 (.z 12 (.z 14 (.z 16 (.z 19 (.z 26 (.z 28 (.z 30 (.z 33 (.r 41 [] [] f8 (.m 5 h2 (.y 46 (.y 48 (.y 50 (.y 58 (.y 61 .nil)))))))))))))))))
   ·try simp only [if_neg h2]
    by_cases h3 : (!(a0.f0 == 5)) = true
    ·try simp only [if_pos h3]
     by_cases h4 : (!(a0.f1.toList == (⟨#[]⟩ : ByteArray).toList)) = true
     ·try simp only [if_pos h4]
      exact cp (by kernel_rfl) (.n 4 h0 (.n 4 h1 (.z 12 (.z 14 (.z 16 (.z 19 (.z 26 (.z 28 (.z 30 (.z 33 (.r 41 [] [] f8 (.n 3 h2 (.m 3 h3 (.g h2 (.f h3 (.g h2 (.m 4 h4 (.z 46 (.z 48 (.z 50 (.y 52 (.y 54 (.y 56 (.z 58 (.y 59 (.z 61 (.y 64 (.y 66 (.y 74 (.y 77 .nil))))))))))))))))))))))))))))))
     ·try simp only [if_neg h4]
      by_cases h5 : (!(a0.f0 == 2)) = true
      ·try simp only [if_pos h5]
       by_cases h6 : (a0.f3 != 0) = true
       ·try simp only [if_pos h6]
        exact cp (by kernel_rfl) (.n 4 h0 (.n 4 h1 (.z 12 (.z 14 (.z 16 (.z 19 (.z 26 (.z 28 (.z 30 (.z 33 (.r 41 [] [] f8 (.n 3 h2 (.m 3 h3 (.g h2 (.f h3 (.g h2 (.n 2 h4 (.n 3 h1 (.g h4 (.g h1 (.g h4 (.m 4 h5 (.f h6 (.z 46 (.z 48 (.z 50 (.y 52 (.y 54 (.y 56 (.z 58 (.y 59 (.z 61 (.z 64 (.z 66 (.z 68 (.z 70 (.z 72 (.z 74 (.z 75 (.z 77 (.y 86 (.y 88 (.y 90 (.y 93 (.y 98 .nil)))))))))))))))))))))))))))))))))))))))))))))
       ·try simp only [if_neg h6]
        have f36 := e119 (a0 := a0.f2)
        by_cases h7 : (!(m93 a0.f2 0 2147483646)) = true
        ·try simp only [if_pos h7]
         exact cp (by kernel_rfl) (.n 4 h0 (.n 4 h1 (.z 12 (.z 14 (.z 16 (.z 19 (.z 26 (.z 28 (.z 30 (.z 33 (.r 41 [] [] f8 (.n 3 h2 (.m 3 h3 (.g h2 (.f h3 (.g h2 (.n 2 h4 (.n 3 h1 (.g h4 (.g h1 (.g h4 (.m 4 h5 (.g h6 (.n 5 h1 (.z 46 (.z 48 (.z 50 (.y 52 (.y 54 (.y 56 (.z 58 (.y 59 (.z 61 (.z 64 (.z 66 (.z 68 (.z 70 (.z 72 (.z 74 (.z 75 (.z 77 (.y 86 (.y 88 (.y 90 (.y 93 (.z 98 (.z 103 (.z 105 (.z 107 (.z 109 (.z 112 (.r 121 [] [] f36 (.m 5 h7 (.y 126 (.y 128 (.y 130 (.y 132 (.y 135 .nil))))))))))))))))))))))))))))))))))))))))))))))))))))))))))
        ·try simp only [if_neg h7]
         have f40 := e79 (a0 := a0.f3)
         by_cases h8 : (!(m93 a0.f3 0 1000000)) = true
         ·try simp only [if_pos h8]
          exact cp (by kernel_rfl) (.n 4 h0 (.n 4 h1 (.z 12 (.z 14 (.z 16 (.z 19 (.z 26 (.z 28 (.z 30 (.z 33 (.r 41 [] [] f8 (.n 3 h2 (.m 3 h3 (.g h2 (.f h3 (.g h2 (.n 2 h4 (.n 3 h1 (.g h4 (.g h1 (.g h4 (.m 4 h5 (.g h6 (.n 5 h1 (.z 46 (.z 48 (.z 50 (.y 52 (.y 54 (.y 56 (.z 58 (.y 59 (.z 61 (.z 64 (.z 66 (.z 68 (.z 70 (.z 72 (.z 74 (.z 75 (.z 77 (.y 86 (.y 88 (.y 90 (.y 93 (.z 98 (.z 103 (.z 105 (.z 107 (.z 109 (.z 112 (.r 121 [] [] f36 (.n 3 h7 (.z 126 (.z 128 (.z 130 (.r 131 [] [] f40 (.n 2 h7 (.m 4 h8 (.z 132 (.z 135 (.y 138 (.y 140 (.y 148 (.y 151 .nil)))))))))))))))))))))))))))))))))))))))))))))))))))))))))))))))))
         ·try simp only [if_neg h8]
          exact cp (by kernel_rfl) (.n 4 h0 (.n 4 h1 (.z 12 (.z 14 (.z 16 (.z 19 (.z 26 (.z 28 (.z 30 (.z 33 (.r 41 [] [] f8 (.n 3 h2 (.m 3 h3 (.g h2 (.f h3 (.g h2 (.n 2 h4 (.n 3 h1 (.g h4 (.g h1 (.g h4 (.m 4 h5 (.g h6 (.n 5 h1 (.z 46 (.z 48 (.z 50 (.y 52 (.y 54 (.y 56 (.z 58 (.y 59 (.z 61 (.z 64 (.z 66 (.z 68 (.z 70 (.z 72 (.z 74 (.z 75 (.z 77 (.y 86 (.y 88 (.y 90 (.y 93 (.z 98 (.z 103 (.z 105 (.z 107 (.z 109 (.z 112 (.r 121 [] [] f36 (.n 3 h7 (.z 126 (.z 128 (.z 130 (.r 131 [] [] f40 (.n 2 h7 (.n 2 h8 (.n 3 h1 (.g h8 (.g h1 (.g h8 (.n 4 h0 (.z 132 (.z 135 (.z 138 (.z 140 (.z 142 (.z 144 (.z 146 (.z 148 (.z 149 (.z 151 (.z 162 (.z 164 (.z 166 (.z 169 .nil))))))))))))))))))))))))))))))))))))))))))))))))))))))))))))))))))))))))))))))
      ·try simp only [if_neg h5]
       have f35 := e119 (a0 := a0.f2)
       by_cases h6 : (!(m93 a0.f2 0 2147483646)) = true
       ·try simp only [if_pos h6]
        exact cp (by kernel_rfl) (.n 4 h0 (.n 4 h1 (.z 12 (.z 14 (.z 16 (.z 19 (.z 26 (.z 28 (.z 30 (.z 33 (.r 41 [] [] f8 (.n 3 h2 (.m 3 h3 (.g h2 (.f h3 (.g h2 (.n 2 h4 (.n 3 h1 (.g h4 (.g h1 (.g h4 (.n 4 h5 (.n 5 h1 (.z 46 (.z 48 (.z 50 (.y 52 (.y 54 (.y 56 (.z 58 (.y 59 (.z 61 (.z 64 (.z 66 (.z 68 (.z 70 (.z 72 (.z 74 (.z 75 (.z 77 (.z 86 (.z 88 (.z 90 (.z 93 (.z 103 (.z 105 (.z 107 (.z 109 (.z 112 (.r 121 [] [] f35 (.m 5 h6 (.y 126 (.y 128 (.y 130 (.y 132 (.y 135 .nil))))))))))))))))))))))))))))))))))))))))))))))))))))))))
       ·try simp only [if_neg h6]
        have f39 := e79 (a0 := a0.f3)
        by_cases h7 : (!(m93 a0.f3 0 1000000)) = true
        ·try simp only [if_pos h7]
         exact cp (by kernel_rfl) (.n 4 h0 (.n 4 h1 (.z 12 (.z 14 (.z 16 (.z 19 (.z 26 (.z 28 (.z 30 (.z 33 (.r 41 [] [] f8 (.n 3 h2 (.m 3 h3 (.g h2 (.f h3 (.g h2 (.n 2 h4 (.n 3 h1 (.g h4 (.g h1 (.g h4 (.n 4 h5 (.n 5 h1 (.z 46 (.z 48 (.z 50 (.y 52 (.y 54 (.y 56 (.z 58 (.y 59 (.z 61 (.z 64 (.z 66 (.z 68 (.z 70 (.z 72 (.z 74 (.z 75 (.z 77 (.z 86 (.z 88 (.z 90 (.z 93 (.z 103 (.z 105 (.z 107 (.z 109 (.z 112 (.r 121 [] [] f35 (.n 3 h6 (.z 126 (.z 128 (.z 130 (.r 131 [] [] f39 (.n 2 h6 (.m 4 h7 (.z 132 (.z 135 (.y 138 (.y 140 (.y 148 (.y 151 .nil)))))))))))))))))))))))))))))))))))))))))))))))))))))))))))))))
        ·try simp only [if_neg h7]
         exact cp (by kernel_rfl) (.n 4 h0 (.n 4 h1 (.z 12 (.z 14 (.z 16 (.z 19 (.z 26 (.z 28 (.z 30 (.z 33 (.r 41 [] [] f8 (.n 3 h2 (.m 3 h3 (.g h2 (.f h3 (.g h2 (.n 2 h4 (.n 3 h1 (.g h4 (.g h1 (.g h4 (.n 4 h5 (.n 5 h1 (.z 46 (.z 48 (.z 50 (.y 52 (.y 54 (.y 56 (.z 58 (.y 59 (.z 61 (.z 64 (.z 66 (.z 68 (.z 70 (.z 72 (.z 74 (.z 75 (.z 77 (.z 86 (.z 88 (.z 90 (.z 93 (.z 103 (.z 105 (.z 107 (.z 109 (.z 112 (.r 121 [] [] f35 (.n 3 h6 (.z 126 (.z 128 (.z 130 (.r 131 [] [] f39 (.n 2 h6 (.n 2 h7 (.n 3 h1 (.g h7 (.g h1 (.g h7 (.n 4 h0 (.z 132 (.z 135 (.z 138 (.z 140 (.z 142 (.z 144 (.z 146 (.z 148 (.z 149 (.z 151 (.z 162 (.z 164 (.z 166 (.z 169 .nil))))))))))))))))))))))))))))))))))))))))))))))))))))))))))))))))))))))))))))
    ·try simp only [if_neg h3]
     by_cases h4 : (!(a0.f0 == 2)) = true
     ·try simp only [if_pos h4]
      by_cases h5 : (a0.f3 != 0) = true
      ·try simp only [if_pos h5]
       exact cp (by kernel_rfl) (.n 4 h0 (.n 4 h1 (.z 12 (.z 14 (.z 16 (.z 19 (.z 26 (.z 28 (.z 30 (.z 33 (.r 41 [] [] f8 (.n 3 h2 (.n 3 h3 (.g h2 (.g h3 (.g h2 (.n 4 h1 (.m 4 h4 (.f h5 (.z 46 (.z 48 (.z 50 (.z 52 (.z 54 (.z 56 (.z 58 (.z 59 (.z 61 (.z 68 (.z 70 (.z 72 (.z 75 (.y 86 (.y 88 (.y 90 (.y 93 (.y 98 .nil)))))))))))))))))))))))))))))))))))))
      ·try simp only [if_neg h5]
       have f32 := e119 (a0 := a0.f2)
       by_cases h6 : (!(m93 a0.f2 0 2147483646)) = true
       ·try simp only [if_pos h6]
        exact cp (by kernel_rfl) (.n 4 h0 (.n 4 h1 (.z 12 (.z 14 (.z 16 (.z 19 (.z 26 (.z 28 (.z 30 (.z 33 (.r 41 [] [] f8 (.n 3 h2 (.n 3 h3 (.g h2 (.g h3 (.g h2 (.n 4 h1 (.m 4 h4 (.g h5 (.n 5 h1 (.z 46 (.z 48 (.z 50 (.z 52 (.z 54 (.z 56 (.z 58 (.z 59 (.z 61 (.z 68 (.z 70 (.z 72 (.z 75 (.y 86 (.y 88 (.y 90 (.y 93 (.z 98 (.z 103 (.z 105 (.z 107 (.z 109 (.z 112 (.r 121 [] [] f32 (.m 5 h6 (.y 126 (.y 128 (.y 130 (.y 132 (.y 135 .nil))))))))))))))))))))))))))))))))))))))))))))))))))
       ·try simp only [if_neg h6]
        have f36 := e79 (a0 := a0.f3)
        by_cases h7 : (!(m93 a0.f3 0 1000000)) = true
        ·try simp only [if_pos h7]
         exact cp (by kernel_rfl) (.n 4 h0 (.n 4 h1 (.z 12 (.z 14 (.z 16 (.z 19 (.z 26 (.z 28 (.z 30 (.z 33 (.r 41 [] [] f8 (.n 3 h2 (.n 3 h3 (.g h2 (.g h3 (.g h2 (.n 4 h1 (.m 4 h4 (.g h5 (.n 5 h1 (.z 46 (.z 48 (.z 50 (.z 52 (.z 54 (.z 56 (.z 58 (.z 59 (.z 61 (.z 68 (.z 70 (.z 72 (.z 75 (.y 86 (.y 88 (.y 90 (.y 93 (.z 98 (.z 103 (.z 105 (.z 107 (.z 109 (.z 112 (.r 121 [] [] f32 (.n 3 h6 (.z 126 (.z 128 (.z 130 (.r 131 [] [] f36 (.n 2 h6 (.m 4 h7 (.z 132 (.z 135 (.y 138 (.y 140 (.y 148 (.y 151 .nil)))))))))))))))))))))))))))))))))))))))))))))))))))))))))
        ·try simp only [if_neg h7]
         exact cp (by kernel_rfl) (.n 4 h0 (.n 4 h1 (.z 12 (.z 14 (.z 16 (.z 19 (.z 26 (.z 28 (.z 30 (.z 33 (.r 41 [] [] f8 (.n 3 h2 (.n 3 h3 (.g h2 (.g h3 (.g h2 (.n 4 h1 (.m 4 h4 (.g h5 (.n 5 h1 (.z 46 (.z 48 (.z 50 (.z 52 (.z 54 (.z 56 (.z 58 (.z 59 (.z 61 (.z 68 (.z 70 (.z 72 (.z 75 (.y 86 (.y 88 (.y 90 (.y 93 (.z 98 (.z 103 (.z 105 (.z 107 (.z 109 (.z 112 (.r 121 [] [] f32 (.n 3 h6 (.z 126 (.z 128 (.z 130 (.r 131 [] [] f36 (.n 2 h6 (.n 2 h7 (.n 3 h1 (.g h7 (.g h1 (.g h7 (.n 4 h0 (.z 132 (.z 135 (.z 138 (.z 140 (.z 142 (.z 144 (.z 146 (.z 148 (.z 149 (.z 151 (.z 162 (.z 164 (.z 166 (.z 169 .nil))))))))))))))))))))))))))))))))))))))))))))))))))))))))))))))))))))))
     ·try simp only [if_neg h4]
      have f31 := e119 (a0 := a0.f2)
      by_cases h5 : (!(m93 a0.f2 0 2147483646)) = true
      ·try simp only [if_pos h5]
       exact cp (by kernel_rfl) (.n 4 h0 (.n 4 h1 (.z 12 (.z 14 (.z 16 (.z 19 (.z 26 (.z 28 (.z 30 (.z 33 (.r 41 [] [] f8 (.n 3 h2 (.n 3 h3 (.g h2 (.g h3 (.g h2 (.n 4 h1 (.n 4 h4 (.n 5 h1 (.z 46 (.z 48 (.z 50 (.z 52 (.z 54 (.z 56 (.z 58 (.z 59 (.z 61 (.z 68 (.z 70 (.z 72 (.z 75 (.z 86 (.z 88 (.z 90 (.z 93 (.z 103 (.z 105 (.z 107 (.z 109 (.z 112 (.r 121 [] [] f31 (.m 5 h5 (.y 126 (.y 128 (.y 130 (.y 132 (.y 135 .nil))))))))))))))))))))))))))))))))))))))))))))))))
      ·try simp only [if_neg h5]
       have f35 := e79 (a0 := a0.f3)
       by_cases h6 : (!(m93 a0.f3 0 1000000)) = true
       ·try simp only [if_pos h6]
        exact cp (by kernel_rfl) (.n 4 h0 (.n 4 h1 (.z 12 (.z 14 (.z 16 (.z 19 (.z 26 (.z 28 (.z 30 (.z 33 (.r 41 [] [] f8 (.n 3 h2 (.n 3 h3 (.g h2 (.g h3 (.g h2 (.n 4 h1 (.n 4 h4 (.n 5 h1 (.z 46 (.z 48 (.z 50 (.z 52 (.z 54 (.z 56 (.z 58 (.z 59 (.z 61 (.z 68 (.z 70 (.z 72 (.z 75 (.z 86 (.z 88 (.z 90 (.z 93 (.z 103 (.z 105 (.z 107 (.z 109 (.z 112 (.r 121 [] [] f31 (.n 3 h5 (.z 126 (.z 128 (.z 130 (.r 131 [] [] f35 (.n 2 h5 (.m 4 h6 (.z 132 (.z 135 (.y 138 (.y 140 (.y 148 (.y 151 .nil)))))))))))))))))))))))))))))))))))))))))))))))))))))))
       ·try simp only [if_neg h6]
        exact cp (by kernel_rfl) (.n 4 h0 (.n 4 h1 (.z 12 (.z 14 (.z 16 (.z 19 (.z 26 (.z 28 (.z 30 (.z 33 (.r 41 [] [] f8 (.n 3 h2 (.n 3 h3 (.g h2 (.g h3 (.g h2 (.n 4 h1 (.n 4 h4 (.n 5 h1 (.z 46 (.z 48 (.z 50 (.z 52 (.z 54 (.z 56 (.z 58 (.z 59 (.z 61 (.z 68 (.z 70 (.z 72 (.z 75 (.z 86 (.z 88 (.z 90 (.z 93 (.z 103 (.z 105 (.z 107 (.z 109 (.z 112 (.r 121 [] [] f31 (.n 3 h5 (.z 126 (.z 128 (.z 130 (.r 131 [] [] f35 (.n 2 h5 (.n 2 h6 (.n 3 h1 (.g h6 (.g h1 (.g h6 (.n 4 h0 (.z 132 (.z 135 (.z 138 (.z 140 (.z 142 (.z 144 (.z 146 (.z 148 (.z 149 (.z 151 (.z 162 (.z 164 (.z 166 (.z 169 .nil))))))))))))))))))))))))))))))))))))))))))))))))))))))))))))))))))))
theorem fault_len64 {a : K_isii} (h : ¬ ((m64 a) != 0) = true) : ByteArray.size a.f1 ≤ 12 := by
 by_cases h1 : (a.f1.toList == (⟨#[]⟩ : ByteArray).toList) = true
 ·rw [ba_eq] at h1
  simp only [decide_eq_true_eq] at h1
  rw [h1]; decide
 ·by_cases h2 : m118 a.f1 = true
  ·exact arg_len118 h2
  ·exfalso
   apply h
   have e1 : (!(a.f1.toList == (⟨#[]⟩ : ByteArray).toList)) = true := by simpa using h1
   have e2 : (!(m118 a.f1)) = true := by simpa using h2
   unfold m64
   simp only [if_pos e1, if_pos e2, if_neg h1]
   (repeat' split) <;> first | rfl | simp_all
def m123 (a1 : Int) : (List Int) :=
 []
theorem e123 {a1 : Int} (hy0 : 0 ≤ a1) (hy1 : a1 ≤ 70368744177664) : Ev F X (.call 123 [(.one (.nl 1)), (.one (.val (.int .i64 a1)))] [] [] [(.one (.own 1 (map d_y (m123 a1))))]) := by
 unfold m123
 by_cases h0 : (decide (a1 < 0)) = true
 ·try simp only [if_pos h0]
  exfalso
  first | (simp_all; done) | omega | (simp only [decide_eq_true_eq, length_map] at *; omega)
 ·try simp only [if_neg h0]
  by_cases h1 : (decide ((w64 (a1 - 0)) > 0)) = true
  ·try simp only [if_pos h1]
   have f2 : 0 ≤ (0 : Int) ∧ (0 : Int) ≤ (0 : Int) ∧ (0 : Int) ≤ 0 := (by omega)
   have f3 : 1 ≤ (w64 (a1 - 0)) ∧ (w64 (a1 - 0)) ≤ 70368744177664 ∧ (w64 (a1 - 0)) * 1 ≤ 70368744177664 := (by have e : w64 (a1 - 0) = a1 := (by rw [Int.sub_zero]; exact wrap64 (by omega)); rw [e] at h1 ⊢; simp only [decide_eq_true_eq, length_replicate] at *; omega)
   have f4 : 0 + (Int.toNat (w64 (a1 - 0))) ≤ (length ((List.replicate (Int.toNat (w64 (a1 - 0))) [(.val (.int .u8 0))]) : List (List D))) := (by have e : w64 (a1 - 0) = a1 := (by rw [Int.sub_zero]; exact wrap64 (by omega)); rw [e] at h1 ⊢; simp only [decide_eq_true_eq, length_replicate] at *; omega)
   have f5 : (0 : Int) ≤ 0 ∧ (0 : Int) ≤ ((Int.toNat (w64 (a1 - 0))) : Int) := (by omega)
   have f8 : pureR [] = true := (by trivial)
   exact cp (by kernel_rfl) (.g h0 (.f h1 (.f f2 (.f f3 (.f f4 (.f f5 (.e 0 (.e 0 (.f f8 (.z 6 (.y 27 .nil)))))))))))
  ·try simp only [if_neg h1]
   have f2 : pureR [] = true := (by trivial)
   exact cp (by kernel_rfl) (.g h0 (.g h1 (.f f2 (.z 6 (.z 27 .nil)))))
theorem grow_nil (a : Int) : m123 a = [] := rfl
inductive O71_0 where
 | k0 (w0 : Int) (w1 : Int) (w2 : Bool)
def r71_0 (a0 : (List (List Int))) : List (List Int) → Int → Int → O71_0
 | x0 :: y0, i, v1 =>
  if (decide ((w64 (v1 + ((length (map b_y x0)) : Int))) < 0)) = true then (O71_0.k0 v1 i (decide (i < ((length (map b_LyE a0)) : Int)))) else
  (r71_0 a0 y0 (i + 1) (w64 (v1 + ((length (map b_y x0)) : Int))))
 | [], i, v1 => (O71_0.k0 v1 i (decide (i < ((length (map b_LyE a0)) : Int))))
def h71_0 (l0_0 : Nat) (a0 : (List (List Int))) (i : Int) (v1 : Int) : St := ⟨[(0, (.one (.bor l0_0 (map b_LyE a0)))), (3, (.one (.val (.int .i64 v1)))), (9, (.one (.bor l0_0 (map b_LyE a0)))), (10, (.one (.val (.int .i64 ((length (map b_LyE a0)) : Int))))), (11, (.one (.val (.int .i64 i))))], []⟩
def ex71_0 : O71_0 → VX.Exit
 | .k0 _ _ _ => (.exit 0)
def fin71_0 (l0_0 : Nat) (a0 : (List (List Int))) : O71_0 → St
 | .k0 w0 w1 w2 => ⟨[(0, (.one (.bor l0_0 (map b_LyE a0)))), (3, (.one (.val (.int .i64 w0)))), (9, (.one (.bor l0_0 (map b_LyE a0)))), (10, (.one (.val (.int .i64 ((length (map b_LyE a0)) : Int))))), (11, (.one (.val (.int .i64 w1)))), (12, (.one (.val (.bool w2))))], []⟩
theorem t71_0 {l0_0 : Nat} {a0 : (List (List Int))} (hy0 : length (List.flatten a0) ≤ 70368744177664) (hy1 : length a0 ≤ 1000000) : ∀ (y0 : List (List Int)) (p : List (List Int)) (v1 : Int), p ++ y0 = a0 → 0 ≤ v1 → v1 + ((length (List.flatten y0) : Nat) : Int) ≤ 70368744177664 → Ev F X (.code l71_0 (h71_0 l0_0 a0 (length p : Int) v1) (ex71_0 (r71_0 a0 y0 (length p : Int) v1)) (fin71_0 l0_0 a0 (r71_0 a0 y0 (length p : Int) v1)))
 | [], p, v1, hp0, hi0, hi1 => by
  have hc : ¬ (decide ((length p : Int) < ((length (map b_LyE a0)) : Int))) = true := by
   rw [← hp0]; simp only [length_map, length_set, length_append, length_replicate, length_cons, length_nil, decide_eq_true_eq]; omega
  have hj0 := hi0; try simp only [length_map, length_set, length_append, length_replicate, length_cons, length_nil, Int.toNat_natCast] at hj0
  have hj1 := hi1; try simp only [length_map, length_set, length_append, length_replicate, length_cons, length_nil, Int.toNat_natCast] at hj1
  have st := ch b71_0 [(2, .b false)] (h71_0 l0_0 a0 (length p : Int) v1) (fin71_0 l0_0 a0 (.k0 v1 (length p : Int) (decide ((length p : Int) < ((length (map b_LyE a0)) : Int))))) (.exit 0) 3 [(decide ((length p : Int) < ((length (map b_LyE a0)) : Int))) = false] (by kernel_rfl) ⟨(nt hc), trivial⟩
  exact .loopX st (show ((.exit 0) : VX.Exit) ≠ .normal from by simp)
 | x0 :: y0, p, v1, hp0, hi0, hi1 => by
  have hc : (decide ((length p : Int) < ((length (map b_LyE a0)) : Int))) = true := lt1 hp0
  have Hx0 : (a0)[Int.toNat (length p : Int)]? = some x0 := by
   rw [← hp0, Int.toNat_natCast]; simp
  have hlen : length (a0) = length p + length y0 + 1 := by rw [← hp0]; simp; omega
  have hw : w64 ((length p : Int) + 1) = (length p : Int) + 1 := wrap64 (by omega)
  have hj0 := hi0; try simp only [length_map, length_set, length_append, length_replicate, length_cons, length_nil, Int.toNat_natCast] at hj0
  have hj1 := hi1; try simp only [length_map, length_set, length_append, length_replicate, length_cons, length_nil, Int.toNat_natCast] at hj1
  simp only [r71_0]
  by_cases h_1 : (decide ((w64 (v1 + ((length (map b_y x0)) : Int))) < 0)) = true
  ·try simp only [if_pos h_1]
   exfalso
   first | (simp only [List.flatten_cons, length_append, List.flatten_nil, length_nil, length_map, length_map, decide_eq_true_eq] at *; rw [wrap64 (by omega)] at *; omega) | (simp_all; done) | omega | (simp only [decide_eq_true_eq, length_map] at *; omega)
  ·try simp only [if_neg h_1]
   have st := ch b71_0 [(2, .b true), (4, .row [(.sl (map b_y x0))]), (23, .b false)] (h71_0 l0_0 a0 (length p : Int) v1) ⟨[(0, (.one (.bor l0_0 (map b_LyE a0)))), (3, (.oi (w64 (v1 + ((length (map b_y x0)) : Int))))), (9, (.one (.bor l0_0 (map b_LyE a0)))), (10, (.oi ((length (map b_LyE a0)) : Int))), (11, (.oi (w64 ((length p : Int) + 1))))], []⟩ .normal 28 [(decide ((length p : Int) < ((length (map b_LyE a0)) : Int))) = true, 0 ≤ (length p : Int), (map b_LyE a0)[(Int.toNat (length p : Int))]? = some [(.sl (map b_y x0))], True, (decide ((w64 (v1 + ((length (map b_y x0)) : Int))) < 0)) = false, True] (by kernel_rfl) ⟨hc, (by omega), (by rw [getElem?_map, Hx0]; rfl), trivial, (nt h_1), trivial, trivial⟩
   have ih := t71_0 (l0_0 := l0_0) (a0 := a0) hy0 hy1 y0 (p ++ [x0]) (w64 (v1 + ((length (map b_y x0)) : Int))) (by rw [append_assoc]; exact hp0) (by simp only [List.flatten_cons, length_append, List.flatten_nil, length_nil, length_map] at *; rw [wrap64 (by omega)]; omega) (by simp only [List.flatten_cons, length_append, List.flatten_nil, length_nil, length_map] at *; rw [wrap64 (by omega)]; omega)
   rw [show ((p ++ [x0]).length : Int) = (p.length : Int) + 1 from by simp] at ih
   replace st := to_ (s' := h71_0 l0_0 a0 ((length p : Int) + 1) (w64 (v1 + ((length (map b_y x0)) : Int)))) st (by unfold h71_0; simp only [hw]; done)
   exact .loopN st ih
theorem csum : ∀ (a : List (List Int)) (l : List (List Int)) (i v : Int), 0 ≤ v → v + ((length (List.flatten l) : Nat) : Int) ≤ 70368744177664 → ∃ j b, r71_0 a l i v = .k0 (v + ((length (List.flatten l) : Nat) : Int)) j b
 | a, [], i, v, _, _ => ⟨_, _, by simp [r71_0]; exact ⟨rfl, rfl⟩⟩
 | a, x :: l, i, v, h0, h => by
  simp only [List.flatten_cons, length_append] at h
  obtain ⟨j, b, e⟩ := csum a l (i + 1) (v + ((length x : Nat) : Int)) (by omega) (by omega)
  refine ⟨j, b, ?_⟩
  simp only [r71_0, length_map]
  rw [wrap64 (by omega), if_neg (by simp only [decide_eq_true_eq]; omega), e]
  simp only [List.flatten_cons, length_append]
  congr 1; omega
inductive O71_1 where
 | k0 (w0 : List Int) (w1 : Int) (w2 : Bool)
def r71_1 (a0 : (List (List Int))) : List (List Int) → Int → List Int → O71_1
 | x0 :: y0, i, v0 =>
  (r71_1 a0 y0 (i + 1) (v0 ++ x0))
 | [], i, v0 => (O71_1.k0 v0 i (decide (i < ((length (map b_LyE a0)) : Int))))
def h71_1 (l0_0 : Nat) (a0 : (List (List Int))) (c0_71_1 : Int) (i : Int) (v0 : List Int) : St := ⟨[(6, (.one (.ref ⟨(6, 0, 0), [], 0, (length (map d_y v0))⟩))), (25, (.one (.bor l0_0 (map b_LyE a0)))), (26, (.one (.val (.int .i64 ((length (map b_LyE a0)) : Int))))), (27, (.one (.val (.int .i64 i))))], [((6, 0, 0), .live ⟨1, (map d_y v0), []⟩)]⟩
def ex71_1 : O71_1 → VX.Exit
 | .k0 _ _ _ => (.exit 2)
def fin71_1 (l0_0 : Nat) (a0 : (List (List Int))) (c0_71_1 : Int) : O71_1 → St
 | .k0 w0 w1 w2 => ⟨[(6, (.one (.ref ⟨(6, 0, 0), [], 0, (length (map d_y w0))⟩))), (25, (.one (.bor l0_0 (map b_LyE a0)))), (26, (.one (.val (.int .i64 ((length (map b_LyE a0)) : Int))))), (27, (.one (.val (.int .i64 w1)))), (28, (.one (.val (.bool w2))))], [((6, 0, 0), .live ⟨1, (map d_y w0), []⟩)]⟩
theorem t71_1 {l0_0 : Nat} {a0 : (List (List Int))} {c0_71_1 : Int} (hy0 : length (List.flatten a0) ≤ 70368744177664) (hy1 : length a0 ≤ 1000000) : ∀ (y0 : List (List Int)) (p : List (List Int)) (v0 : List Int), p ++ y0 = a0 → length v0 + length (List.flatten y0) ≤ 70368744177664 → Ev F X (.code l71_1 (h71_1 l0_0 a0 c0_71_1 (length p : Int) v0) (ex71_1 (r71_1 a0 y0 (length p : Int) v0)) (fin71_1 l0_0 a0 c0_71_1 (r71_1 a0 y0 (length p : Int) v0)))
 | [], p, v0, hp0, hi0 => by
  have hc : ¬ (decide ((length p : Int) < ((length (map b_LyE a0)) : Int))) = true := by
   rw [← hp0]; simp only [length_map, length_set, length_append, length_replicate, length_cons, length_nil, decide_eq_true_eq]; omega
  have hj0 := hi0; try simp only [length_map, length_set, length_append, length_replicate, length_cons, length_nil, Int.toNat_natCast] at hj0
  have st := ch b71_1 [(2, .b false)] (h71_1 l0_0 a0 c0_71_1 (length p : Int) v0) (fin71_1 l0_0 a0 c0_71_1 (.k0 v0 (length p : Int) (decide ((length p : Int) < ((length (map b_LyE a0)) : Int))))) (.exit 2) 3 [(decide ((length p : Int) < ((length (map b_LyE a0)) : Int))) = false] (by kernel_rfl) ⟨(nt hc), trivial⟩
  exact .loopX st (show ((.exit 2) : VX.Exit) ≠ .normal from by simp)
 | x0 :: y0, p, v0, hp0, hi0 => by
  have hc : (decide ((length p : Int) < ((length (map b_LyE a0)) : Int))) = true := lt1 hp0
  have Hx0 : (a0)[Int.toNat (length p : Int)]? = some x0 := by
   rw [← hp0, Int.toNat_natCast]; simp
  have hlen : length (a0) = length p + length y0 + 1 := by rw [← hp0]; simp; omega
  have hw : w64 ((length p : Int) + 1) = (length p : Int) + 1 := wrap64 (by omega)
  have hj0 := hi0; try simp only [length_map, length_set, length_append, length_replicate, length_cons, length_nil, Int.toNat_natCast] at hj0
  simp only [r71_1]
  have st := ch b71_1 [(2, .b true), (4, .row [(.sl (map b_y x0))]), (17, .norm (6, 0, 0) (map d_y (v0 ++ x0)))] (h71_1 l0_0 a0 c0_71_1 (length p : Int) v0) ⟨[(6, (.one (.ref ⟨(6, 0, 0), [], 0, (length ((take (length (map d_y v0)) (drop 0 (map d_y v0))) ++ (fromBR l0_0 (map b_y x0))))⟩))), (25, (.one (.bor l0_0 (map b_LyE a0)))), (26, (.oi ((length (map b_LyE a0)) : Int))), (27, (.oi (w64 ((length p : Int) + 1))))], [((6, 0, 0), .live ⟨1, (map d_y (v0 ++ x0)), []⟩)]⟩ .normal 22 [(decide ((length p : Int) < ((length (map b_LyE a0)) : Int))) = true, 0 ≤ (length p : Int), (map b_LyE a0)[(Int.toNat (length p : Int))]? = some [(.sl (map b_y x0))], 0 + (length (map d_y v0)) ≤ (length (map d_y v0)), (length ((take (length (map d_y v0)) (drop 0 (map d_y v0))) ++ (fromBR l0_0 (map b_y x0)))) * 1 ≤ 70368744177664, ∀ r ∈ ((fromBR l0_0 (map b_y x0)) : List (List D)), r.length = 1, ((take (length (map d_y v0)) (drop 0 (map d_y v0))) ++ (fromBR l0_0 (map b_y x0))) = (map d_y (v0 ++ x0)), True] (by kernel_rfl) ⟨hc, (by omega), (by rw [getElem?_map, Hx0]; rfl), (by omega), (by simp only [List.flatten_cons, length_append, List.flatten_nil, length_nil, length_map, length_take, length_drop, fromBR_y, grow_nil] at *; omega), (by simp [*, four_len, b_y, d_y, byteRows_eq, ints_y]; done), (by simp [byteRows_eq, ints_y, take_of_length_le, d_y, d_LyE, d_b, d_isii, d_iiLisiiE, d_i, d_LLyEE, d_s, d_LisiiE, fromBR_y, fromBR_b, fromBR_isii, fromBR_i, fromBR_s, four_len]; done), trivial, trivial⟩
  have ih := t71_1 (l0_0 := l0_0) (a0 := a0) (c0_71_1 := c0_71_1) hy0 hy1 y0 (p ++ [x0]) (v0 ++ x0) (by rw [append_assoc]; exact hp0) (by simp only [List.flatten_cons, length_append, List.flatten_nil, length_nil, length_map] at *; omega)
  rw [show ((p ++ [x0]).length : Int) = (p.length : Int) + 1 from by simp] at ih
  replace st := to_ (s' := h71_1 l0_0 a0 c0_71_1 ((length p : Int) + 1) (v0 ++ x0)) st (by unfold h71_1; simp [hw, byteRows_eq, ints_y, take_of_length_le, d_y, d_LyE, d_b, d_isii, d_iiLisiiE, d_i, d_LLyEE, d_s, d_LisiiE, fromBR_y, fromBR_b, fromBR_isii, fromBR_i, fromBR_s, four_len]; done)
  exact .loopN st ih
theorem ccat : ∀ (a : List (List Int)) (l : List (List Int)) (i : Int) (v : List Int), ∃ j b, r71_1 a l i v = .k0 (v ++ List.flatten l) j b
 | a, [], i, v => ⟨_, _, by simp [r71_1]; exact ⟨rfl, rfl⟩⟩
 | a, x :: l, i, v => by
  obtain ⟨j, b, e⟩ := ccat a l (i + 1) (v ++ x)
  refine ⟨j, b, ?_⟩
  simp only [r71_1]
  rw [e, List.flatten_cons, append_assoc]
def m71 (a0 : (List (List Int))) : (List Int) :=
 (match r71_0 a0 a0 0 0 with | .k0 w0_0 w1_0 w2_0 => (match r71_1 a0 a0 0 (m123 w0_0) with | .k0 w0_2 w1_2 w2_2 => w0_2))
theorem e71 {l0_0 : Nat} {a0 : (List (List Int))} (hy0 : length (List.flatten a0) ≤ 70368744177664) (hy1 : length a0 ≤ 1000000) : Ev F X (.call 71 [(.one (.bor l0_0 (map b_LyE a0)))] [] [] [(.one (.own 1 (map d_y (m71 a0))))]) := by
 unfold m71
 cases h0 : r71_0 a0 a0 0 0 with
 | k0 w0_0 w1_0 w2_0 =>
  try dsimp only
  obtain ⟨jh0, bh0, eh0⟩ := csum a0 a0 0 0 (by omega) (by omega); rw [h0] at eh0; injection eh0 with e0h0 e1h0 e2h0
  have f0 : (⟨[(0, (.one (.bor l0_0 (map b_LyE a0)))), (3, (.oi 0)), (9, (.one (.bor l0_0 (map b_LyE a0)))), (10, (.oi ((length (map b_LyE a0)) : Int))), (11, (.oi 0))], []⟩ : St) = h71_0 l0_0 a0 0 0 := (by rfl)
  have f1 : Ev F X (.code l71_0 (h71_0 l0_0 a0 0 0) (.exit 0) ⟨[(0, (.one (.bor l0_0 (map b_LyE a0)))), (3, (.oi w0_0)), (9, (.one (.bor l0_0 (map b_LyE a0)))), (10, (.oi ((length (map b_LyE a0)) : Int))), (11, (.oi w1_0)), (12, (.one (.val (.bool w2_0))))], []⟩) := (by have t : Ev F X (.code l71_0 (h71_0 l0_0 a0 0 0) (ex71_0 (r71_0 a0 a0 0 0)) (fin71_0 l0_0 a0 (r71_0 a0 a0 0 0))) := t71_0 (l0_0 := l0_0) (a0 := a0) (by assumption) (by assumption) a0 [] 0 rfl (by omega) (by omega); rw [h0] at t; exact t)
  have f2 := e123 (a1 := w0_0) (by omega) (by omega)
  cases h1 : r71_1 a0 a0 0 (m123 w0_0) with
  | k0 w0_2 w1_2 w2_2 =>
   try dsimp only
   have f3 : (⟨[(6, (.one (.ref ⟨(6, 0, 0), [], 0, (length (map d_y (m123 w0_0)))⟩))), (25, (.one (.bor l0_0 (map b_LyE a0)))), (26, (.oi ((length (map b_LyE a0)) : Int))), (27, (.oi 0))], [((6, 0, 0), .live ⟨1, (map d_y (m123 w0_0)), []⟩)]⟩ : St) = h71_1 l0_0 a0 w0_0 0 (m123 w0_0) := (by rfl)
   have f4 : Ev F X (.code l71_1 (h71_1 l0_0 a0 w0_0 0 (m123 w0_0)) (.exit 2) ⟨[(6, (.one (.ref ⟨(6, 0, 0), [], 0, (length (map d_y w0_2))⟩))), (25, (.one (.bor l0_0 (map b_LyE a0)))), (26, (.oi ((length (map b_LyE a0)) : Int))), (27, (.oi w1_2)), (28, (.one (.val (.bool w2_2))))], [((6, 0, 0), .live ⟨1, (map d_y w0_2), []⟩)]⟩) := (by have t : Ev F X (.code l71_1 (h71_1 l0_0 a0 w0_0 0 (m123 w0_0)) (ex71_1 (r71_1 a0 a0 0 (m123 w0_0))) (fin71_1 l0_0 a0 w0_0 (r71_1 a0 a0 0 (m123 w0_0)))) := t71_1 (l0_0 := l0_0) (a0 := a0) (c0_71_1 := w0_0) (by assumption) (by assumption) a0 [] (m123 w0_0) rfl (by simp only [grow_nil, length_nil, Nat.zero_add]; omega); rw [h1] at t; exact t)
   exact cp (by kernel_rfl) (.f f0 (.f f1 (.h 10 (.loop (h71_0 l0_0 a0 0 0) (.exit 0) ⟨[(0, (.one (.bor l0_0 (map b_LyE a0)))), (3, (.oi w0_0)), (9, (.one (.bor l0_0 (map b_LyE a0)))), (10, (.oi ((length (map b_LyE a0)) : Int))), (11, (.oi w1_0)), (12, (.one (.val (.bool w2_0))))], []⟩) (.r 14 [] [] f2 (.f f3 (.f f4 (.e 0 (.e (length (map d_y w0_2)) (.f (pureR_y w0_2) (.h 23 (.loop (h71_1 l0_0 a0 w0_0 0 (m123 w0_0)) (.exit 2) ⟨[(6, (.one (.ref ⟨(6, 0, 0), [], 0, (length (map d_y w0_2))⟩))), (25, (.one (.bor l0_0 (map b_LyE a0)))), (26, (.oi ((length (map b_LyE a0)) : Int))), (27, (.oi w1_2)), (28, (.one (.val (.bool w2_2))))], [((6, 0, 0), .live ⟨1, (map d_y w0_2), []⟩)]⟩) .nil))))))))))
theorem concat_is (a : List (List Int)) (h : length (List.flatten a) ≤ 70368744177664) : m71 a = List.flatten a := by
 obtain ⟨j, b, e⟩ := csum a a 0 0 (by omega) (by omega)
 obtain ⟨j2, b2, e2⟩ := ccat a a 0 (m123 (0 + ((length (List.flatten a) : Nat) : Int)))
 unfold m71
 simp only [e, e2]
 rfl
inductive O120_0 where
 | k0 (w0 : List Int) (w1 : Int) (w2 : Int) (w3 : Bool)
def r120_0  : Nat → List Int → Int → Int → O120_0
 | n + 1, v0, v1, v2 =>
  if (decide (v2 ≥ 0)) = true then (r120_0 n (set v0 (Int.toNat v2) (IntKind.wrap .u8 (v1))) (Int.fdiv v1 (2 ^ (min (Int.toNat 8) (IntKind.bits .i64)))) (w64 (v2 - 1))) else
  (O120_0.k0 v0 v1 v2 (decide (v2 ≥ 0)))
 | 0, v0, v1, v2 => (O120_0.k0 v0 v1 v2 (decide (v2 ≥ 0)))
def h120_0 (a0 : Int) (a1 : Int) (v0 : List Int) (v1 : Int) (v2 : Int) : St := ⟨[(0, (.one (.val (.int .i64 v1)))), (5, (.one (.ref ⟨(5, 0, 0), [], 0, (Int.toNat a1)⟩))), (6, (.one (.val (.int .i64 v2))))], [((5, 0, 0), .live ⟨1, (map d_y v0), []⟩)]⟩
def ex120_0 : O120_0 → VX.Exit
 | .k0 _ _ _ _ => (.exit 0)
def fin120_0 (a0 : Int) (a1 : Int) : O120_0 → St
 | .k0 w0 w1 w2 w3 => ⟨[(0, (.one (.val (.int .i64 w1)))), (5, (.one (.ref ⟨(5, 0, 0), [], 0, (Int.toNat a1)⟩))), (6, (.one (.val (.int .i64 w2)))), (12, (.one (.val (.bool w3))))], [((5, 0, 0), .live ⟨1, (map d_y w0), []⟩)]⟩
theorem t120_0 {a0 : Int} {a1 : Int} (hy0 : 0 ≤ a1) (hy1 : a1 ≤ 1000) : ∀ (n : Nat) (v0 : List Int) (v1 : Int) (v2 : Int), length v0 = (Int.toNat a1) → -1 ≤ v2 → v2 < a1 → Int.toNat (v2 + 1) ≤ n → Ev F X (.code l120_0 (h120_0 a0 a1 v0 v1 v2) (ex120_0 (r120_0 n v0 v1 v2)) (fin120_0 a0 a1 (r120_0 n v0 v1 v2)))
 | 0, v0, v1, v2, hi0, hi1, hi2, hn => by
  have hc : ¬ (decide (v2 ≥ 0)) = true := by first | (exact fuel64_zero hn) | (simp only [decide_eq_true_eq] at *; omega) | (simp at *; omega)
  have st := codeP_ok (F := F) (X := X) (c := b120_0) (t := 0) (σ := h120_0 a0 a1 v0 v1 v2) (σ' := ⟨[(0, (.oi v1)), (5, (.one (.ref ⟨(5, 0, 0), [], 0, (Int.toNat a1)⟩))), (6, (.oi v2)), (12, (.one (.val (.bool (decide (v2 ≥ 0))))))], [((5, 0, 0), .live ⟨1, (map d_y v0), []⟩)]⟩) (e := (.exit 0)) (t' := 5) (by kernel_rfl) (.g hc (.z 4 .nil))
  replace st := to_ (s' := fin120_0 a0 a1 (.k0 v0 v1 v2 (decide (v2 ≥ 0)))) st (by rfl)
  exact .loopX st (show ((.exit 0) : VX.Exit) ≠ .normal from by simp)
 | n + 1, v0, v1, v2, hi0, hi1, hi2, hn => by
  simp only [r120_0]
  by_cases h_0 : (decide (v2 ≥ 0)) = true
  ·try simp only [if_pos h_0]
   have f1 : 0 + (Int.toNat a1) ≤ (length (map d_y v0)) := (by simp only [length_map]; omega)
   have f2 : 0 ≤ v2 ∧ v2 < ((Int.toNat a1) : Int) := (by simp only [decide_eq_true_eq] at *; omega)
   have f3 : (map d_y v0)[(0 + (Int.toNat v2))]? = some [(.val (.int .u8 (getD v0 (Int.toNat v2) 0)))] := (by rw [Nat.zero_add, getElem?_map, getD_at v0 (Int.toNat v2) 0 (by first | exact True.intro | with_reducible rfl | with_reducible assumption | omega | (simp only [decide_eq_true_eq] at *; omega) | (rw [wrap64 (by omega)]; omega) | (simp only [decide_eq_true_eq] at *; omega) | (simp only [length_map]; omega) | (simp [four_len]; omega) | (simp [take_of_length_le, four_len]; done) | assumption | trivial | (simp [*, four_len, byteRows_eq, ints_y]; done))]; rfl)
   have f4 : (set (map d_y v0) (0 + (Int.toNat v2)) [(.val (.int .u8 (IntKind.wrap .u8 (v1))))]) = (map d_y (set v0 (Int.toNat v2) (IntKind.wrap .u8 (v1)))) := (by simp [byteRows_eq, ints_y, take_of_length_le, d_y, d_LyE, d_b, d_isii, d_iiLisiiE, d_i, d_LLyEE, d_s, d_LisiiE, fromBR_y, fromBR_b, fromBR_isii, fromBR_i, fromBR_s, four_len]; done)
   have f5 : 0 ≤ (8 : Int) := (by omega)
   have st := codeP_ok (F := F) (X := X) (c := b120_0) (t := 0) (σ := h120_0 a0 a1 v0 v1 v2) (σ' := ⟨[(0, (.oi (Int.fdiv v1 (2 ^ (min (Int.toNat 8) (IntKind.bits .i64)))))), (5, (.one (.ref ⟨(5, 0, 0), [], 0, (Int.toNat a1)⟩))), (6, (.oi (w64 (v2 - 1))))], [((5, 0, 0), .live ⟨1, (map d_y (set v0 (Int.toNat v2) (IntKind.wrap .u8 (v1)))), []⟩)]⟩) (e := .normal) (t' := 30) (by kernel_rfl) (.f h_0 (.f f1 (.f f2 (.f f3 (.f f4 (.f f5 (.y 4 (.h 16 (.rowD [(.val (.int .u8 (getD v0 (Int.toNat v2) 0)))]) (.h 17 (.norm (5, 0, 0) (map d_y (set v0 (Int.toNat v2) (IntKind.wrap .u8 (v1))))) .nil)))))))))
   have ih := t120_0 (a0 := a0) (a1 := a1) hy0 hy1 n (set v0 (Int.toNat v2) (IntKind.wrap .u8 (v1))) (Int.fdiv v1 (2 ^ (min (Int.toNat 8) (IntKind.bits .i64)))) (w64 (v2 - 1)) (by simp only [length_map, length_set, length_append, length_replicate, length_cons, length_nil]; omega) (by rw [wrap64 (by simp only [decide_eq_true_eq] at *; omega)]; simp only [decide_eq_true_eq] at *; omega) (by rw [wrap64 (by simp only [decide_eq_true_eq] at *; omega)]; simp only [decide_eq_true_eq] at *; omega) (by rw [wrap64 (by simp only [decide_eq_true_eq] at *; omega)]; simp only [decide_eq_true_eq] at *; omega)
   replace st := to_ (s' := h120_0 a0 a1 (set v0 (Int.toNat v2) (IntKind.wrap .u8 (v1))) (Int.fdiv v1 (2 ^ (min (Int.toNat 8) (IntKind.bits .i64)))) (w64 (v2 - 1))) st (by rfl)
   exact .loopN st ih
  ·try simp only [if_neg h_0]
   have st := codeP_ok (F := F) (X := X) (c := b120_0) (t := 0) (σ := h120_0 a0 a1 v0 v1 v2) (σ' := ⟨[(0, (.oi v1)), (5, (.one (.ref ⟨(5, 0, 0), [], 0, (Int.toNat a1)⟩))), (6, (.oi v2)), (12, (.one (.val (.bool (decide (v2 ≥ 0))))))], [((5, 0, 0), .live ⟨1, (map d_y v0), []⟩)]⟩) (e := (.exit 0)) (t' := 5) (by kernel_rfl) (.g h_0 (.z 4 .nil))
   replace st := to_ (s' := fin120_0 a0 a1 (.k0 v0 v1 v2 (decide (v2 ≥ 0)))) st (by rfl)
   exact .loopX st (show ((.exit 0) : VX.Exit) ≠ .normal from by simp)
end Go.Proofs.YtdnopbpdiineiaaDoor.ReadEntries
