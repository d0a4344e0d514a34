/- What the functions compute. -/
import Derived.Test.YtdnopbpdiineiaaDoorEAppendEntryC
import Derived.KernelRfl
namespace Go.Proofs.YtdnopbpdiineiaaDoor.AppendEntry
open Go Go.Proofs.YtdnopbpdiineiaaDoor.V
set_option linter.unusedVariables false
set_option linter.unusedSimpArgs false
set_option maxRecDepth 20000
open List (length_replicate length_map length_set length_append length_cons length_nil length_take length_drop take_of_length_le map_take map_drop map_set append_assoc getElem?_map map length take drop getD set)
attribute [local simp] strInts_len byteRows_len toBR_y fullR_y pureR_y lenB_y lenD_y fromBR_y copy_y toBR_LyEi fullR_LyEi pureR_LyEi lenB_LyEi lenD_LyEi toBR_isii fullR_isii pureR_isii lenB_isii lenD_isii fromBR_isii copy_isii toBR_b fullR_b pureR_b lenB_b lenD_b fromBR_b copy_b toBR_i fullR_i pureR_i lenB_i lenD_i fromBR_i copy_i toBR_iLyE fullR_iLyE pureR_iLyE lenB_iLyE lenD_iLyE toBR_iLyEi fullR_iLyEi pureR_iLyEi lenB_iLyEi lenD_iLyEi toBR_LyE fullR_LyE pureR_LyE lenB_LyE lenD_LyE toBR_LLyEE fullR_LLyEE pureR_LLyEE lenB_LLyEE lenD_LLyEE toBR_s fullR_s pureR_s lenB_s lenD_s fromBR_s copy_s
def m65 (a0 : K_isii) : (List Int) :=
 (m71 [[(IntKind.wrap .u8 (((length (map d_y (m71 [[(IntKind.wrap .u8 (a0.f0)), (IntKind.wrap .u8 ((ByteArray.size a0.f1 : Int)))], (strInts a0.f1), (m120 a0.f2 4), (m120 a0.f3 4)]))) : Int)))], (m71 [[(IntKind.wrap .u8 (a0.f0)), (IntKind.wrap .u8 ((ByteArray.size a0.f1 : Int)))], (strInts a0.f1), (m120 a0.f2 4), (m120 a0.f3 4)]), (m120 (Int.tmod (m121 (m71 [[(IntKind.wrap .u8 (a0.f0)), (IntKind.wrap .u8 ((ByteArray.size a0.f1 : Int)))], (strInts a0.f1), (m120 a0.f2 4), (m120 a0.f3 4)])) 65536) 2)])
theorem e65 {a0 : K_isii} (hy0 : ByteArray.size a0.f1 ≤ 1000) : Ev F X (.call 65 [(.agg [(.val (.int .i64 a0.f0)), (.val (.string a0.f1)), (.val (.int .i64 a0.f2)), (.val (.int .i64 a0.f3))])] [] [] [(.one (.own 1 (map d_y (m65 a0))))]) := by
 have f0 : ByteArray.size a0.f1 ≤ 140737488355328 := (by omega)
 have f1 := e120 (a0 := a0.f2) (a1 := 4) (by omega) (by omega)
 have f2 := e120 (a0 := a0.f3) (a1 := 4) (by omega) (by omega)
 have f6 : (ByteArray.size a0.f1) = (length (byteRows a0.f1)) := (by simp [four_len, high4, high2]; done)
 have f11 : 4 ≤ 4 := (by omega)
 have f12 : fullR (take 4 (drop 0 [[(.own 1 [[(.val (.int .u8 (IntKind.wrap .u8 (a0.f0))))], [(.val (.int .u8 (IntKind.wrap .u8 ((ByteArray.size a0.f1 : Int)))))]])], [(.own 1 (byteRows a0.f1))], [(.own 1 (map d_y (m120 a0.f2 4)))], [(.own 1 (map d_y (m120 a0.f3 4)))]])) = true := (by simp [fullR, fullL, full, pureR, pureL, V.pure, byteRows_eq, four_len, high4, high2]; done)
 have f13 : toBR (take 4 (drop 0 [[(.own 1 [[(.val (.int .u8 (IntKind.wrap .u8 (a0.f0))))], [(.val (.int .u8 (IntKind.wrap .u8 ((ByteArray.size a0.f1 : Int)))))]])], [(.own 1 (byteRows a0.f1))], [(.own 1 (map d_y (m120 a0.f2 4)))], [(.own 1 (map d_y (m120 a0.f3 4)))]])) = [[(.sl [[(.val (.int .u8 (IntKind.wrap .u8 (a0.f0))))], [(.val (.int .u8 (IntKind.wrap .u8 ((ByteArray.size a0.f1 : Int)))))]])], [(.sl (toBR (byteRows a0.f1)))], [(.sl (toBR (map d_y (m120 a0.f2 4))))], [(.sl (toBR (map d_y (m120 a0.f3 4))))]] := (by simp [toBR, toBL, toB, tsi, byteRows_eq, b_y, b_LyEi, b_isii, b_b, b_i, b_iLyE, b_iLyEi, b_LyE, b_LLyEE, b_s, four_len, high4, high2]; done)
 have f14 : Ev F X (.call 71 [(.one (.bor 0 [[(.sl [[(.val (.int .u8 (IntKind.wrap .u8 (a0.f0))))], [(.val (.int .u8 (IntKind.wrap .u8 ((ByteArray.size a0.f1 : Int)))))]])], [(.sl (toBR (byteRows a0.f1)))], [(.sl (toBR (map d_y (m120 a0.f2 4))))], [(.sl (toBR (map d_y (m120 a0.f3 4))))]]))] [] [] [(.one (.own 1 (map d_y (m71 [[(IntKind.wrap .u8 (a0.f0)), (IntKind.wrap .u8 ((ByteArray.size a0.f1 : Int)))], (strInts a0.f1), (m120 a0.f2 4), (m120 a0.f3 4)]))))]) := (by rw [show (toBR (byteRows a0.f1)) = (map b_y (strInts a0.f1)) from by first | rfl | (simp [map_take, map_drop, four_len, high4, high2]; done) | (simp [byteRows_eq, map_take, map_drop, four_len, high4, high2]; done) | (simp [*, map_take, map_drop, four_len, high4, high2]; done), show (toBR (map d_y (m120 a0.f2 4))) = (map b_y (m120 a0.f2 4)) from by first | rfl | (simp [map_take, map_drop, four_len, high4, high2]; done) | (simp [byteRows_eq, map_take, map_drop, four_len, high4, high2]; done) | (simp [*, map_take, map_drop, four_len, high4, high2]; done), show (toBR (map d_y (m120 a0.f3 4))) = (map b_y (m120 a0.f3 4)) from by first | rfl | (simp [map_take, map_drop, four_len, high4, high2]; done) | (simp [byteRows_eq, map_take, map_drop, four_len, high4, high2]; done) | (simp [*, map_take, map_drop, four_len, high4, high2]; done)]; exact (e71 (a0 := [[(IntKind.wrap .u8 (a0.f0)), (IntKind.wrap .u8 ((ByteArray.size a0.f1 : Int)))], (strInts a0.f1), (m120 a0.f2 4), (m120 a0.f3 4)]) (by simp only [List.flatten_cons, List.flatten_nil, List.append_nil, length_append, length_cons, length_nil, strInts_len, high4, high2]; omega) (by simp only [List.flatten_cons, List.flatten_nil, List.append_nil, length_append, length_cons, length_nil, strInts_len, high4, high2]; omega)))
 have f15 : 0 + (length (map d_y (m71 [[(IntKind.wrap .u8 (a0.f0)), (IntKind.wrap .u8 ((ByteArray.size a0.f1 : Int)))], (strInts a0.f1), (m120 a0.f2 4), (m120 a0.f3 4)]))) ≤ (length (map d_y (m71 [[(IntKind.wrap .u8 (a0.f0)), (IntKind.wrap .u8 ((ByteArray.size a0.f1 : Int)))], (strInts a0.f1), (m120 a0.f2 4), (m120 a0.f3 4)]))) := (by omega)
 have f16 : fullR (take (length (map d_y (m71 [[(IntKind.wrap .u8 (a0.f0)), (IntKind.wrap .u8 ((ByteArray.size a0.f1 : Int)))], (strInts a0.f1), (m120 a0.f2 4), (m120 a0.f3 4)]))) (drop 0 (map d_y (m71 [[(IntKind.wrap .u8 (a0.f0)), (IntKind.wrap .u8 ((ByteArray.size a0.f1 : Int)))], (strInts a0.f1), (m120 a0.f2 4), (m120 a0.f3 4)])))) = true := (ft_y _ _ _)
 have f17 : toBR (take (length (map d_y (m71 [[(IntKind.wrap .u8 (a0.f0)), (IntKind.wrap .u8 ((ByteArray.size a0.f1 : Int)))], (strInts a0.f1), (m120 a0.f2 4), (m120 a0.f3 4)]))) (drop 0 (map d_y (m71 [[(IntKind.wrap .u8 (a0.f0)), (IntKind.wrap .u8 ((ByteArray.size a0.f1 : Int)))], (strInts a0.f1), (m120 a0.f2 4), (m120 a0.f3 4)])))) = (map b_y (m71 [[(IntKind.wrap .u8 (a0.f0)), (IntKind.wrap .u8 ((ByteArray.size a0.f1 : Int)))], (strInts a0.f1), (m120 a0.f2 4), (m120 a0.f3 4)])) := (tb_y _)
 have f18 := e121 (l0_0 := 0) (a0 := (m71 [[(IntKind.wrap .u8 (a0.f0)), (IntKind.wrap .u8 ((ByteArray.size a0.f1 : Int)))], (strInts a0.f1), (m120 a0.f2 4), (m120 a0.f3 4)])) (by rw [concat_is _ (by simp only [List.flatten_cons, List.flatten_nil, List.append_nil, length_append, length_cons, length_nil, strInts_len, high4, high2]; omega)]; simp only [List.flatten_cons, List.flatten_nil, List.append_nil, length_append, length_cons, length_nil, strInts_len, high4, high2]; omega)
 have f19 : (65536 : Int) ≠ 0 := (by omega)
 have f20 := e120 (a0 := (Int.tmod (m121 (m71 [[(IntKind.wrap .u8 (a0.f0)), (IntKind.wrap .u8 ((ByteArray.size a0.f1 : Int)))], (strInts a0.f1), (m120 a0.f2 4), (m120 a0.f3 4)])) 65536)) (a1 := 2) (by omega) (by omega)
 have f27 : 3 ≤ 3 := (by omega)
 have f28 : fullR (take 3 (drop 0 [[(.own 1 [[(.val (.int .u8 (IntKind.wrap .u8 (((length (map d_y (m71 [[(IntKind.wrap .u8 (a0.f0)), (IntKind.wrap .u8 ((ByteArray.size a0.f1 : Int)))], (strInts a0.f1), (m120 a0.f2 4), (m120 a0.f3 4)]))) : Int)))))]])], [(.own 1 (map d_y (m71 [[(IntKind.wrap .u8 (a0.f0)), (IntKind.wrap .u8 ((ByteArray.size a0.f1 : Int)))], (strInts a0.f1), (m120 a0.f2 4), (m120 a0.f3 4)])))], [(.own 1 (map d_y (m120 (Int.tmod (m121 (m71 [[(IntKind.wrap .u8 (a0.f0)), (IntKind.wrap .u8 ((ByteArray.size a0.f1 : Int)))], (strInts a0.f1), (m120 a0.f2 4), (m120 a0.f3 4)])) 65536) 2)))]])) = true := (by simp [fullR, fullL, full, pureR, pureL, V.pure, byteRows_eq, four_len, high4, high2]; done)
 have f29 : toBR (take 3 (drop 0 [[(.own 1 [[(.val (.int .u8 (IntKind.wrap .u8 (((length (map d_y (m71 [[(IntKind.wrap .u8 (a0.f0)), (IntKind.wrap .u8 ((ByteArray.size a0.f1 : Int)))], (strInts a0.f1), (m120 a0.f2 4), (m120 a0.f3 4)]))) : Int)))))]])], [(.own 1 (map d_y (m71 [[(IntKind.wrap .u8 (a0.f0)), (IntKind.wrap .u8 ((ByteArray.size a0.f1 : Int)))], (strInts a0.f1), (m120 a0.f2 4), (m120 a0.f3 4)])))], [(.own 1 (map d_y (m120 (Int.tmod (m121 (m71 [[(IntKind.wrap .u8 (a0.f0)), (IntKind.wrap .u8 ((ByteArray.size a0.f1 : Int)))], (strInts a0.f1), (m120 a0.f2 4), (m120 a0.f3 4)])) 65536) 2)))]])) = [[(.sl [[(.val (.int .u8 (IntKind.wrap .u8 (((length (map d_y (m71 [[(IntKind.wrap .u8 (a0.f0)), (IntKind.wrap .u8 ((ByteArray.size a0.f1 : Int)))], (strInts a0.f1), (m120 a0.f2 4), (m120 a0.f3 4)]))) : Int)))))]])], [(.sl (toBR (map d_y (m71 [[(IntKind.wrap .u8 (a0.f0)), (IntKind.wrap .u8 ((ByteArray.size a0.f1 : Int)))], (strInts a0.f1), (m120 a0.f2 4), (m120 a0.f3 4)]))))], [(.sl (toBR (map d_y (m120 (Int.tmod (m121 (m71 [[(IntKind.wrap .u8 (a0.f0)), (IntKind.wrap .u8 ((ByteArray.size a0.f1 : Int)))], (strInts a0.f1), (m120 a0.f2 4), (m120 a0.f3 4)])) 65536) 2))))]] := (by simp [toBR, toBL, toB, tsi, byteRows_eq, b_y, b_LyEi, b_isii, b_b, b_i, b_iLyE, b_iLyEi, b_LyE, b_LLyEE, b_s, four_len, high4, high2]; done)
 have f30 : Ev F X (.call 71 [(.one (.bor 0 [[(.sl [[(.val (.int .u8 (IntKind.wrap .u8 (((length (map d_y (m71 [[(IntKind.wrap .u8 (a0.f0)), (IntKind.wrap .u8 ((ByteArray.size a0.f1 : Int)))], (strInts a0.f1), (m120 a0.f2 4), (m120 a0.f3 4)]))) : Int)))))]])], [(.sl (toBR (map d_y (m71 [[(IntKind.wrap .u8 (a0.f0)), (IntKind.wrap .u8 ((ByteArray.size a0.f1 : Int)))], (strInts a0.f1), (m120 a0.f2 4), (m120 a0.f3 4)]))))], [(.sl (toBR (map d_y (m120 (Int.tmod (m121 (m71 [[(IntKind.wrap .u8 (a0.f0)), (IntKind.wrap .u8 ((ByteArray.size a0.f1 : Int)))], (strInts a0.f1), (m120 a0.f2 4), (m120 a0.f3 4)])) 65536) 2))))]]))] [] [] [(.one (.own 1 (map d_y (m71 [[(IntKind.wrap .u8 (((length (map d_y (m71 [[(IntKind.wrap .u8 (a0.f0)), (IntKind.wrap .u8 ((ByteArray.size a0.f1 : Int)))], (strInts a0.f1), (m120 a0.f2 4), (m120 a0.f3 4)]))) : Int)))], (m71 [[(IntKind.wrap .u8 (a0.f0)), (IntKind.wrap .u8 ((ByteArray.size a0.f1 : Int)))], (strInts a0.f1), (m120 a0.f2 4), (m120 a0.f3 4)]), (m120 (Int.tmod (m121 (m71 [[(IntKind.wrap .u8 (a0.f0)), (IntKind.wrap .u8 ((ByteArray.size a0.f1 : Int)))], (strInts a0.f1), (m120 a0.f2 4), (m120 a0.f3 4)])) 65536) 2)]))))]) := (by rw [show (toBR (map d_y (m71 [[(IntKind.wrap .u8 (a0.f0)), (IntKind.wrap .u8 ((ByteArray.size a0.f1 : Int)))], (strInts a0.f1), (m120 a0.f2 4), (m120 a0.f3 4)]))) = (map b_y (m71 [[(IntKind.wrap .u8 (a0.f0)), (IntKind.wrap .u8 ((ByteArray.size a0.f1 : Int)))], (strInts a0.f1), (m120 a0.f2 4), (m120 a0.f3 4)])) from by first | rfl | (simp [map_take, map_drop, four_len, high4, high2]; done) | (simp [byteRows_eq, map_take, map_drop, four_len, high4, high2]; done) | (simp [*, map_take, map_drop, four_len, high4, high2]; done), show (toBR (map d_y (m120 (Int.tmod (m121 (m71 [[(IntKind.wrap .u8 (a0.f0)), (IntKind.wrap .u8 ((ByteArray.size a0.f1 : Int)))], (strInts a0.f1), (m120 a0.f2 4), (m120 a0.f3 4)])) 65536) 2))) = (map b_y (m120 (Int.tmod (m121 (m71 [[(IntKind.wrap .u8 (a0.f0)), (IntKind.wrap .u8 ((ByteArray.size a0.f1 : Int)))], (strInts a0.f1), (m120 a0.f2 4), (m120 a0.f3 4)])) 65536) 2)) from by first | rfl | (simp [map_take, map_drop, four_len, high4, high2]; done) | (simp [byteRows_eq, map_take, map_drop, four_len, high4, high2]; done) | (simp [*, map_take, map_drop, four_len, high4, high2]; done)]; exact (e71 (a0 := [[(IntKind.wrap .u8 (((length (map d_y (m71 [[(IntKind.wrap .u8 (a0.f0)), (IntKind.wrap .u8 ((ByteArray.size a0.f1 : Int)))], (strInts a0.f1), (m120 a0.f2 4), (m120 a0.f3 4)]))) : Int)))], (m71 [[(IntKind.wrap .u8 (a0.f0)), (IntKind.wrap .u8 ((ByteArray.size a0.f1 : Int)))], (strInts a0.f1), (m120 a0.f2 4), (m120 a0.f3 4)]), (m120 (Int.tmod (m121 (m71 [[(IntKind.wrap .u8 (a0.f0)), (IntKind.wrap .u8 ((ByteArray.size a0.f1 : Int)))], (strInts a0.f1), (m120 a0.f2 4), (m120 a0.f3 4)])) 65536) 2)]) (by rw [List.flatten_cons, List.flatten_cons, concat_is _ (by simp only [List.flatten_cons, List.flatten_nil, List.append_nil, length_append, length_cons, length_nil, strInts_len, high4, high2]; omega)]; simp only [List.flatten_cons, List.flatten_nil, List.append_nil, length_append, length_cons, length_nil, strInts_len, high4, high2]; omega) (by simp only [List.flatten_cons, List.flatten_nil, List.append_nil, length_append, length_cons, length_nil, strInts_len, high4, high2]; omega)))
 exact cp (by kernel_rfl) (.f f0 (.r 31 [] [] f1 (.r 37 [] [] f2 (.e 0 (.e 2 (.e 0 (.f f6 (.e 0 (.e (length (map d_y (m120 a0.f2 4))) (.e 0 (.e (length (map d_y (m120 a0.f3 4))) (.f f11 (.f f12 (.f f13 (.r 41 [] [[[(.sl [[(.val (.int .u8 (IntKind.wrap .u8 (a0.f0))))], [(.val (.int .u8 (IntKind.wrap .u8 ((ByteArray.size a0.f1 : Int)))))]])], [(.sl (toBR (byteRows a0.f1)))], [(.sl (toBR (map d_y (m120 a0.f2 4))))], [(.sl (toBR (map d_y (m120 a0.f3 4))))]]] f14 (.f f15 (.f f16 (.f f17 (.r 57 [] [(map b_y (m71 [[(IntKind.wrap .u8 (a0.f0)), (IntKind.wrap .u8 ((ByteArray.size a0.f1 : Int)))], (strInts a0.f1), (m120 a0.f2 4), (m120 a0.f3 4)]))] f18 (.f f19 (.r 61 [] [] f20 (.e 0 (.e 1 (.e 0 (.e (length (map d_y (m71 [[(IntKind.wrap .u8 (a0.f0)), (IntKind.wrap .u8 ((ByteArray.size a0.f1 : Int)))], (strInts a0.f1), (m120 a0.f2 4), (m120 a0.f3 4)]))) (.e 0 (.e (length (map d_y (m120 (Int.tmod (m121 (m71 [[(IntKind.wrap .u8 (a0.f0)), (IntKind.wrap .u8 ((ByteArray.size a0.f1 : Int)))], (strInts a0.f1), (m120 a0.f2 4), (m120 a0.f3 4)])) 65536) 2))) (.f f27 (.f f28 (.f f29 (.r 65 [] [[[(.sl [[(.val (.int .u8 (IntKind.wrap .u8 (((length (map d_y (m71 [[(IntKind.wrap .u8 (a0.f0)), (IntKind.wrap .u8 ((ByteArray.size a0.f1 : Int)))], (strInts a0.f1), (m120 a0.f2 4), (m120 a0.f3 4)]))) : Int)))))]])], [(.sl (toBR (map d_y (m71 [[(IntKind.wrap .u8 (a0.f0)), (IntKind.wrap .u8 ((ByteArray.size a0.f1 : Int)))], (strInts a0.f1), (m120 a0.f2 4), (m120 a0.f3 4)]))))], [(.sl (toBR (map d_y (m120 (Int.tmod (m121 (m71 [[(IntKind.wrap .u8 (a0.f0)), (IntKind.wrap .u8 ((ByteArray.size a0.f1 : Int)))], (strInts a0.f1), (m120 a0.f2 4), (m120 a0.f3 4)])) 65536) 2))))]]] f30 (.e 0 (.e (length (map d_y (m71 [[(IntKind.wrap .u8 (((length (map d_y (m71 [[(IntKind.wrap .u8 (a0.f0)), (IntKind.wrap .u8 ((ByteArray.size a0.f1 : Int)))], (strInts a0.f1), (m120 a0.f2 4), (m120 a0.f3 4)]))) : Int)))], (m71 [[(IntKind.wrap .u8 (a0.f0)), (IntKind.wrap .u8 ((ByteArray.size a0.f1 : Int)))], (strInts a0.f1), (m120 a0.f2 4), (m120 a0.f3 4)]), (m120 (Int.tmod (m121 (m71 [[(IntKind.wrap .u8 (a0.f0)), (IntKind.wrap .u8 ((ByteArray.size a0.f1 : Int)))], (strInts a0.f1), (m120 a0.f2 4), (m120 a0.f3 4)])) 65536) 2)]))) (.f (pureR_y (m71 [[(IntKind.wrap .u8 (((length (map d_y (m71 [[(IntKind.wrap .u8 (a0.f0)), (IntKind.wrap .u8 ((ByteArray.size a0.f1 : Int)))], (strInts a0.f1), (m120 a0.f2 4), (m120 a0.f3 4)]))) : Int)))], (m71 [[(IntKind.wrap .u8 (a0.f0)), (IntKind.wrap .u8 ((ByteArray.size a0.f1 : Int)))], (strInts a0.f1), (m120 a0.f2 4), (m120 a0.f3 4)]), (m120 (Int.tmod (m121 (m71 [[(IntKind.wrap .u8 (a0.f0)), (IntKind.wrap .u8 ((ByteArray.size a0.f1 : Int)))], (strInts a0.f1), (m120 a0.f2 4), (m120 a0.f3 4)])) 65536) 2)])) .nil))))))))))))))))))))))))))))))))))
theorem pack_len65 (a : K_isii) (h : ByteArray.size a.f1 ≤ 1000) : length (m65 a) ≤ 2000 := by
 unfold m65
 have h1 : length (List.flatten [[(IntKind.wrap .u8 (a.f0)), (IntKind.wrap .u8 ((ByteArray.size a.f1 : Int)))], (strInts a.f1), (m120 a.f2 4), (m120 a.f3 4)]) ≤ 1900 := by simp only [List.flatten_cons, List.flatten_nil, List.append_nil, length_append, length_cons, length_nil, strInts_len, high4, high2]; omega
 rw [concat_is _ (Nat.le_trans h1 (by omega))]
 rw [concat_is _ (by simp only [List.flatten_cons, List.flatten_nil, List.append_nil, length_append, length_cons, length_nil, strInts_len, high4, high2]; omega)]
 simp only [List.flatten_cons, List.flatten_nil, List.append_nil, length_append, length_cons, length_nil, strInts_len, high4, high2]; omega
def m14 (a0 : K_isii) : K_iLyE :=
 if ((m64 a0) != 0) = true then (K_iLyE.mk (m64 a0) []) else
 (K_iLyE.mk 0 (m65 a0))
theorem e14 {a0 : K_isii} : Ev F X (.call 14 [(.agg [(.val (.int .i64 a0.f0)), (.val (.string a0.f1)), (.val (.int .i64 a0.f2)), (.val (.int .i64 a0.f3))])] [] [] [(.agg [(.val (.int .i64 ((m14 a0).f0))), (.own 1 (map d_y ((m14 a0).f1)))])]) := by
 unfold m14
 have f0 := e64 (a0 := a0)
 by_cases h0 : ((m64 a0) != 0) = true
 ·try simp only [if_pos h0]
  have f2 : pureR [] = true := (by trivial)
  exact cp (by kernel_rfl) (.r 7 [] [] f0 (.f h0 (.f f2 (.y 14 .nil))))
 ·try simp only [if_neg h0]
  have f2 := e65 (a0 := a0) (by have q := fault_len64 (by with_reducible assumption); omega)
  exact cp (by kernel_rfl) (.r 7 [] [] f0 (.g h0 (.z 14 (.r 18 [] [] f2 (.e 0 (.e (length (map d_y (m65 a0))) (.f (pureR_y (m65 a0)) .nil)))))))
theorem okm14 (a0 : K_isii) : ok_iLyE (m14 a0) := by
 unfold m14
 split
 ·simp [ok_LyEi, ok_iLyE, ok_iLyEi, ok_LyE, ok_LLyEE]
 ·have q := pack_len65 a0 (by have := fault_len64 (a := a0) (by assumption); omega)
  simp only [ok_LyEi, ok_iLyE, ok_iLyEi, ok_LyE, ok_LLyEE]; omega
theorem pk_len (a : K_isii) : length (m14 a).f1 ≤ 2000 := by
 unfold m14
 split
 ·simp
 ·exact pack_len65 a (by have := fault_len64 (a := a) (by assumption); omega)
def m70 (a0 : K_LyEi) : Int :=
 if (decide (((length (map b_y a0.f0)) : Int) > 1200)) = true then 2 else
 if (!(m93 a0.f1 0 ((length (map b_y a0.f0)) : Int))) = true then 3 else
  0
theorem e70 {l0_0 : Nat} {a0 : K_LyEi} : Ev F X (.call 70 [(.agg [(.bor l0_0 (map b_y a0.f0)), (.val (.int .i64 a0.f1))])] [] [] [(.one (.val (.int .i64 (m70 a0))))]) := by
 unfold m70
 by_cases h0 : (decide (((length (map b_y a0.f0)) : Int) > 1200)) = true
 ·try simp only [if_pos h0]
  exact cp (by kernel_rfl) (.f h0 (.y 14 .nil))
 ·try simp only [if_neg h0]
  have f1 := e93 (a0 := a0.f1) (a1 := 0) (a2 := ((length (map b_y a0.f0)) : Int))
  by_cases h1 : (!(m93 a0.f1 0 ((length (map b_y a0.f0)) : Int))) = true
  ·try simp only [if_pos h1]
   exact cp (by kernel_rfl) (.g h0 (.z 14 (.r 26 [] [] f1 (.f h1 (.y 31 .nil)))))
  ·try simp only [if_neg h1]
   exact cp (by kernel_rfl) (.g h0 (.z 14 (.r 26 [] [] f1 (.g h1 (.z 31 .nil)))))
theorem disk_len70 {a : K_LyEi} (h : ¬ ((m70 a) != 0) = true) : length a.f0 ≤ 1200 := by
 have h2 : m70 a = 0 := by simpa using h
 unfold m70 at h2
 split at h2
 ·cases h2
 ·rename_i h3
  simp only [decide_eq_true_eq, length_map] at h3
  omega
def m21 (a0 : K_LyEi) (a1 : K_isii) : K_iLyEi :=
 if ((m70 a0) != 0) = true then (K_iLyEi.mk (m70 a0) [] 0) else
 if (((m14 a1).f0) != 0) = true then (K_iLyEi.mk ((m14 a1).f0) [] 0) else
  if (decide ((w64 (((length (map b_y a0.f0)) : Int) + ((length (map d_y ((m14 a1).f1))) : Int))) > 1200)) = true then (K_iLyEi.mk 10 [] 0) else
   (K_iLyEi.mk 0 (m71 [a0.f0, ((m14 a1).f1)]) a0.f1)
theorem e21 {l0_0 : Nat} {a0 : K_LyEi} {a1 : K_isii} (hy0 : length a0.f0 * 1 ≤ 70368744177664) : Ev F X (.call 21 [(.agg [(.bor l0_0 (map b_y a0.f0)), (.val (.int .i64 a0.f1))]), (.agg [(.val (.int .i64 a1.f0)), (.val (.string a1.f1)), (.val (.int .i64 a1.f2)), (.val (.int .i64 a1.f3))])] [] [] [(.agg [(.val (.int .i64 ((m21 a0 a1).f0))), (.own 1 (map d_y ((m21 a0 a1).f1))), (.val (.int .i64 ((m21 a0 a1).f2)))])]) := by
 unfold m21
 have f0 := e70 (l0_0 := l0_0 + 1) (a0 := a0)
 by_cases h0 : ((m70 a0) != 0) = true
 ·try simp only [if_pos h0]
  have f2 : pureR [] = true := (by trivial)
  exact cp (by kernel_rfl) (.r 9 [] [] f0 (.f h0 (.f f2 (.y 16 .nil))))
 ·try simp only [if_neg h0]
  have f2 := e14 (a0 := a1)
  have f4 : (length (map d_y ((m14 a1).f1))) = (length (map d_y ((m14 a1).f1))) := rfl
  by_cases h1 : (((m14 a1).f0) != 0) = true
  ·try simp only [if_pos h1]
   have f6 : pureR [] = true := (by trivial)
   exact cp (by kernel_rfl) (.r 9 [] [] f0 (.g h0 (.z 16 (.r 20 [] [] f2 (.e 0 (.f f4 (.f h1 (.f f6 (.y 33 .nil)))))))))
  ·try simp only [if_neg h1]
   by_cases h2 : (decide ((w64 (((length (map b_y a0.f0)) : Int) + ((length (map d_y ((m14 a1).f1))) : Int))) > 1200)) = true
   ·try simp only [if_pos h2]
    have f8 : pureR [] = true := (by trivial)
    exact cp (by kernel_rfl) (.r 9 [] [] f0 (.g h0 (.z 16 (.r 20 [] [] f2 (.e 0 (.f f4 (.g h1 (.f trivial (.f h2 (.f f8 (.z 33 (.y 52 .nil))))))))))))
   ·try simp only [if_neg h2]
    have f10 : 2 ≤ 2 := (by omega)
    have f11 : fullR (take 2 (drop 0 [[(.bor l0_0 (map b_y a0.f0))], [(.own 1 (map d_y ((m14 a1).f1)))]])) = true := (by simp [fullR, fullL, full, fullR_y]; done)
    have f12 : toBR (take 2 (drop 0 [[(.bor l0_0 (map b_y a0.f0))], [(.own 1 (map d_y ((m14 a1).f1)))]])) = [[(.sl (map b_y a0.f0))], [(.sl (toBR (map d_y ((m14 a1).f1))))]] := (by trivial)
    have f13 : Ev F X (.call 71 [(.one (.bor 0 [[(.sl (map b_y a0.f0))], [(.sl (toBR (map d_y ((m14 a1).f1))))]]))] [] [] [(.one (.own 1 (map d_y (m71 [a0.f0, ((m14 a1).f1)]))))]) := (by rw [show (toBR (map d_y ((m14 a1).f1))) = (map b_y ((m14 a1).f1)) from by first | rfl | (simp [map_take, map_drop, four_len, high4, high2]; done) | (simp [byteRows_eq, map_take, map_drop, four_len, high4, high2]; done) | (simp [*, map_take, map_drop, four_len, high4, high2]; done)]; exact (e71 (a0 := [a0.f0, ((m14 a1).f1)]) (by have q1 := disk_len70 (by with_reducible assumption); have q2 := pk_len a1; simp only [List.flatten_cons, List.flatten_nil, List.append_nil, length_append, length_map]; omega) (by simp [fullR, fullL, full, fullR_y]; done)))
    exact cp (by kernel_rfl) (.r 9 [] [] f0 (.g h0 (.z 16 (.r 20 [] [] f2 (.e 0 (.f f4 (.g h1 (.f trivial (.g h2 (.e 0 (.e (length (map d_y ((m14 a1).f1))) (.f f10 (.f f11 (.f f12 (.z 33 (.z 52 (.r 64 [] [[[(.sl (map b_y a0.f0))], [(.sl (toBR (map d_y ((m14 a1).f1))))]]] f13 (.e 0 (.e (length (map d_y (m71 [a0.f0, ((m14 a1).f1)]))) (.f (pureR_y (m71 [a0.f0, ((m14 a1).f1)])) .nil))))))))))))))))))))
theorem okm21 (a0 : K_LyEi) (a1 : K_isii) : ok_iLyEi (m21 a0 a1) := by
 unfold m21
 split
 ·simp [ok_LyEi, ok_iLyE, ok_iLyEi, ok_LyE, ok_LLyEE]
 ·split
  ·simp [ok_LyEi, ok_iLyE, ok_iLyEi, ok_LyE, ok_LLyEE]
  ·split
   ·simp [ok_LyEi, ok_iLyE, ok_iLyEi, ok_LyE, ok_LLyEE]
   ·have q := pk_len a1
    have q2 := disk_len70 (a := a0) (by assumption)
    rw [concat_is _ (by simp only [List.flatten_cons, List.flatten_nil, List.append_nil, length_append]; omega)]
    simp only [ok_LyEi, ok_iLyE, ok_iLyEi, ok_LyE, ok_LLyEE, List.flatten_cons, List.flatten_nil, List.append_nil, length_append]; omega
inductive O40_0 where
 | k0 (w0 : Int) (w1 : Bool)
 | k1
def r40_0 (a0 : (List Int)) : List Int → List Int → Int → O40_0
 | x0 :: y0, x1 :: y1, i =>
  if (x0 != x1) = true then (O40_0.k1) else
  (r40_0 a0 y0 y1 (i + 1) )
 | _, _, i => (O40_0.k0 i (decide (i < ((length (map b_y a0)) : Int))))
def h40_0 (l0_0 : Nat) (l1_0 : Nat) (a0 : (List Int)) (a1 : (List Int)) (i : Int)  : St := ⟨[(0, (.one (.bor l0_0 (map b_y a0)))), (1, (.one (.bor l1_0 (map b_y a1)))), (5, (.one (.val (.int .i64 i))))], []⟩
def ex40_0 : O40_0 → VX.Exit
 | .k0 _ _ => (.exit 0)
 | .k1 => .ret
def fin40_0 (l0_0 : Nat) (l1_0 : Nat) (a0 : (List Int)) (a1 : (List Int)) : O40_0 → St
 | .k0 w0 w1 => ⟨[(0, (.one (.bor l0_0 (map b_y a0)))), (1, (.one (.bor l1_0 (map b_y a1)))), (5, (.one (.val (.int .i64 w0)))), (14, (.one (.val (.bool w1))))], []⟩
 | .k1 => ⟨[(4, (.one (.val (.bool false))))], []⟩
theorem t40_0 {l0_0 : Nat} {l1_0 : Nat} {a0 : (List Int)} {a1 : (List Int)} (hy0 : length a0 * 1 ≤ 140737488351232) (hy1 : length a1 * 1 ≤ 140737488351232) : ∀ (y0 : List Int) (y1 : List Int) (p : List Int) (p_1 : List Int) , p ++ y0 = a0 → p_1 ++ y1 = a1 → length p = length p_1 → length y0 = length y1 → Ev F X (.code l40_0 (h40_0 l0_0 l1_0 a0 a1 (length p : Int) ) (ex40_0 (r40_0 a0 y0 y1 (length p : Int) )) (fin40_0 l0_0 l1_0 a0 a1 (r40_0 a0 y0 y1 (length p : Int) )))
 | [], [], p, p_1, hp0, hp1, hq1, hl1 => by
  have hc : ¬ (decide ((length p : Int) < ((length (map b_y a0)) : Int))) = true := by
   rw [← hp0]; simp only [length_map, length_set, length_append, length_replicate, length_cons, length_nil, decide_eq_true_eq]; omega
  have st := ch b40_0 [(8, .b false)] (h40_0 l0_0 l1_0 a0 a1 (length p : Int)) (fin40_0 l0_0 l1_0 a0 a1 (.k0 (length p : Int) (decide ((length p : Int) < ((length (map b_y a0)) : Int))))) (.exit 0) 9 [(decide ((length p : Int) < ((length (map b_y a0)) : Int))) = false] (by kernel_rfl) ⟨(nt hc), trivial⟩
  exact .loopX st (show ((.exit 0) : VX.Exit) ≠ .normal from by simp)
 | x0 :: y0, x1 :: y1, p, p_1, hp0, hp1, hq1, hl1 => by
  have hc : (decide ((length p : Int) < ((length (map b_y a0)) : Int))) = true := lt1 hp0
  have Hx0 : (a0)[Int.toNat (length p : Int)]? = some x0 := by
   rw [← hp0, Int.toNat_natCast]; simp
  have Hx1 : (a1)[Int.toNat (length p : Int)]? = some x1 := by
   rw [← hp1, hq1, Int.toNat_natCast]; simp
  have hlen : length (a0) = length p + length y0 + 1 := by rw [← hp0]; simp; omega
  have hw : w64 ((length p : Int) + 1) = (length p : Int) + 1 := wrap64 (by omega)
  simp only [r40_0]
  by_cases h_1 : (x0 != x1) = true
  ·try simp only [if_pos h_1]
   have st := ch b40_0 [(8, .b true), (14, .row [(.val (.int .u8 x0))]), (22, .row [(.val (.int .u8 x1))]), (27, .b true)] (h40_0 l0_0 l1_0 a0 a1 (length p : Int)) (fin40_0 l0_0 l1_0 a0 a1 (.k1)) .ret 30 [(decide ((length p : Int) < ((length (map b_y a0)) : Int))) = true, 0 ≤ (length p : Int), (map b_y a0)[(Int.toNat (length p : Int))]? = some [(.val (.int .u8 x0))], 0 ≤ (length p : Int), (map b_y a1)[(Int.toNat (length p : Int))]? = some [(.val (.int .u8 x1))], (x0 != x1) = true] (by kernel_rfl) ⟨hc, (by omega), (by rw [getElem?_map, Hx0]; rfl), (by omega), (by rw [getElem?_map, Hx1]; rfl), h_1, trivial⟩
   exact .loopX st (show (.ret : VX.Exit) ≠ .normal from by simp)
  ·try simp only [if_neg h_1]
   have st := ch b40_0 [(8, .b true), (14, .row [(.val (.int .u8 x0))]), (22, .row [(.val (.int .u8 x1))]), (27, .b false)] (h40_0 l0_0 l1_0 a0 a1 (length p : Int)) ⟨[(0, (.one (.bor l0_0 (map b_y a0)))), (1, (.one (.bor l1_0 (map b_y a1)))), (5, (.oi (w64 ((length p : Int) + 1))))], []⟩ .normal 34 [(decide ((length p : Int) < ((length (map b_y a0)) : Int))) = true, 0 ≤ (length p : Int), (map b_y a0)[(Int.toNat (length p : Int))]? = some [(.val (.int .u8 x0))], 0 ≤ (length p : Int), (map b_y a1)[(Int.toNat (length p : Int))]? = some [(.val (.int .u8 x1))], (x0 != x1) = false, True] (by kernel_rfl) ⟨hc, (by omega), (by rw [getElem?_map, Hx0]; rfl), (by omega), (by rw [getElem?_map, Hx1]; rfl), (nt h_1), trivial, trivial⟩
   have ih := t40_0 (l0_0 := l0_0) (l1_0 := l1_0) (a0 := a0) (a1 := a1) hy0 hy1 y0 y1 (p ++ [x0]) (p_1 ++ [x1])  (by rw [append_assoc]; exact hp0) (by rw [append_assoc]; exact hp1) (by simp only [length_map, length_set, length_append, length_replicate, length_cons, length_nil]; omega) (by simp only [length_map, length_set, length_append, length_replicate, length_cons, length_nil] at hl1; omega)
   rw [show ((p ++ [x0]).length : Int) = (p.length : Int) + 1 from by simp] at ih
   replace st := to_ (s' := h40_0 l0_0 l1_0 a0 a1 ((length p : Int) + 1) ) st (by unfold h40_0; simp only [hw]; done)
   exact .loopN st ih
def m40 (a0 : (List Int)) (a1 : (List Int)) : Bool :=
 if (((length (map b_y a0)) : Int) != ((length (map b_y a1)) : Int)) = true then false else
 (match r40_0 a0 a0 a1 0 with | .k0 w0_1 w1_1 => true | .k1 => false)
theorem e40 {l0_0 : Nat} {a0 : (List Int)} {l1_0 : Nat} {a1 : (List Int)} (hy0 : length a0 * 1 ≤ 140737488351232) (hy1 : length a1 * 1 ≤ 140737488351232) : Ev F X (.call 40 [(.one (.bor l0_0 (map b_y a0))), (.one (.bor l1_0 (map b_y a1)))] [] [] [(.one (.val (.bool (m40 a0 a1))))]) := by
 unfold m40
 by_cases h0 : (((length (map b_y a0)) : Int) != ((length (map b_y a1)) : Int)) = true
 ·try simp only [if_pos h0]
  exact cp (by kernel_rfl) (.f h0 (.y 12 .nil))
 ·try simp only [if_neg h0]
  cases h1 : r40_0 a0 a0 a1 0 with
  | k0 w0_1 w1_1 =>
   try dsimp only
   have f1 : (⟨[(0, (.one (.bor l0_0 (map b_y a0)))), (1, (.one (.bor l1_0 (map b_y a1)))), (5, (.oi 0))], []⟩ : St) = h40_0 l0_0 l1_0 a0 a1 0  := (by rfl)
   have f2 : Ev F X (.code l40_0 (h40_0 l0_0 l1_0 a0 a1 0 ) (.exit 0) ⟨[(0, (.one (.bor l0_0 (map b_y a0)))), (1, (.one (.bor l1_0 (map b_y a1)))), (5, (.oi w0_1)), (14, (.one (.val (.bool w1_1))))], []⟩) := (by have t : Ev F X (.code l40_0 (h40_0 l0_0 l1_0 a0 a1 0 ) (ex40_0 (r40_0 a0 a0 a1 0)) (fin40_0 l0_0 l1_0 a0 a1 (r40_0 a0 a0 a1 0))) := t40_0 (l0_0 := l0_0) (l1_0 := l1_0) (a0 := a0) (a1 := a1) (by assumption) (by assumption) a0 a1 [] []  rfl rfl rfl (by simp at *; omega); rw [h1] at t; exact t)
   exact cp (by kernel_rfl) (.g h0 (.f f1 (.f f2 (.z 12 (.h 15 (.loop (h40_0 l0_0 l1_0 a0 a1 0 ) (.exit 0) ⟨[(0, (.one (.bor l0_0 (map b_y a0)))), (1, (.one (.bor l1_0 (map b_y a1)))), (5, (.oi w0_1)), (14, (.one (.val (.bool w1_1))))], []⟩) .nil)))))
  | k1 =>
   try dsimp only
   have f1 : (⟨[(0, (.one (.bor l0_0 (map b_y a0)))), (1, (.one (.bor l1_0 (map b_y a1)))), (5, (.oi 0))], []⟩ : St) = h40_0 l0_0 l1_0 a0 a1 0  := (by rfl)
   have f2 : Ev F X (.code l40_0 (h40_0 l0_0 l1_0 a0 a1 0 ) .ret ⟨[(4, (.one (.val (.bool false))))], []⟩) := (by have t : Ev F X (.code l40_0 (h40_0 l0_0 l1_0 a0 a1 0 ) (ex40_0 (r40_0 a0 a0 a1 0)) (fin40_0 l0_0 l1_0 a0 a1 (r40_0 a0 a0 a1 0))) := t40_0 (l0_0 := l0_0) (l1_0 := l1_0) (a0 := a0) (a1 := a1) (by assumption) (by assumption) a0 a1 [] []  rfl rfl rfl (by simp at *; omega); rw [h1] at t; exact t)
   exact cp (by kernel_rfl) (.g h0 (.f f1 (.f f2 (.z 12 (.h 15 (.loop (h40_0 l0_0 l1_0 a0 a1 0 ) .ret ⟨[(4, (.one (.val (.bool false))))], []⟩) .nil)))))
theorem eqr40_0 (a0 : (List Int)) : ∀ (l m : List Int) (i : Int), l.length = m.length → (r40_0 a0 l m i = .k1 ∧ l ≠ m) ∨ (∃ w0 w1, r40_0 a0 l m i = .k0 w0 w1 ∧ l = m)
 | [], [], i, _ => .inr ⟨_, _, rfl, rfl⟩
 | [], _ :: _, i, h => by simp at h
 | _ :: _, [], i, h => by simp at h
 | x :: l, y :: m, i, h => by
  have ih := eqr40_0 a0 l m (i + 1) (by simpa using h)
  by_cases hxy : x = y
  ·subst hxy
   have e : r40_0 a0 (x :: l) (x :: m) i = r40_0 a0 l m (i + 1) := by simp [r40_0, ba_eq]
   rw [e]
   rcases ih with ⟨h1, h2⟩ | ⟨w0, w1, h1, h2⟩
   ·exact .inl ⟨h1, by simp [h2]⟩
   ·exact .inr ⟨_, _, h1, by rw [h2]⟩
  ·have e : r40_0 a0 (x :: l) (y :: m) i = .k1 := by
    simp only [r40_0]
    first
     | ((repeat' split) <;> simp_all [ba_eq]; done)
     | (cases x; cases y; (repeat' split) <;> simp_all [ba_eq])
   exact .inl ⟨e, by simp [hxy]⟩
open Classical in
theorem eqd40 (a b : (List Int)) : m40 a b = decide (a = b) := by
 rw [Bool.eq_iff_iff, decide_eq_true_eq]
 unfold m40
 by_cases hl : length a = length b
 ·rcases eqr40_0 a a b 0 hl with ⟨h1, h2⟩ | ⟨w0, w1, h1, h2⟩
  ·simp only [h1, length_map, hl]
   first
    | (simp [h2, ba_eq]; done)
    | (cases a; cases b; simp_all [ba_eq]; done)
    | (cases a; cases b; (repeat' split) <;> simp_all [ba_eq])
  ·simp only [h1, length_map, hl]
   first
    | (simp [h2, ba_eq]; done)
    | (cases a; cases b; simp_all [ba_eq]; done)
    | (cases a; cases b; (repeat' split) <;> simp_all [ba_eq])
 ·have hn : a ≠ b := by rintro rfl; exact hl rfl
  simp only [length_map]
  first
   | (simp [hn, hl, ba_eq]; done)
   | ((repeat' split) <;> simp_all [ba_eq]; done)
   | (simp [hn]; omega)
def m23 (a0 : K_LyEi) (a1 : K_LyEi) : Bool :=
 if (!(m40 a0.f0 a1.f0)) = true then false else
 if (a0.f1 != a1.f1) = true then false else
  true
theorem e23 {l0_0 : Nat} {a0 : K_LyEi} {l1_0 : Nat} {a1 : K_LyEi} (hy0 : length a0.f0 * 1 ≤ 140737488351232) (hy1 : length a1.f0 * 1 ≤ 140737488351232) : Ev F X (.call 23 [(.agg [(.bor l0_0 (map b_y a0.f0)), (.val (.int .i64 a0.f1))]), (.agg [(.bor l1_0 (map b_y a1.f0)), (.val (.int .i64 a1.f1))])] [] [] [(.one (.val (.bool (m23 a0 a1))))]) := by
 unfold m23
 have f0 := e40 (l0_0 := l0_0 + 1) (l1_0 := l1_0 + 1) (a0 := a0.f0) (a1 := a1.f0) (by with_reducible assumption) (by with_reducible assumption)
 by_cases h0 : (!(m40 a0.f0 a1.f0)) = true
 ·try simp only [if_pos h0]
  exact cp (by kernel_rfl) (.r 15 [] [] f0 (.f h0 (.y 18 .nil)))
 ·try simp only [if_neg h0]
  by_cases h1 : (a0.f1 != a1.f1) = true
  ·try simp only [if_pos h1]
   exact cp (by kernel_rfl) (.r 15 [] [] f0 (.g h0 (.f h1 (.z 18 (.y 29 .nil)))))
  ·try simp only [if_neg h1]
   exact cp (by kernel_rfl) (.r 15 [] [] f0 (.g h0 (.g h1 (.z 18 (.z 29 .nil)))))
open Classical in
theorem eqd23 (a b : K_LyEi) : m23 a b = decide (a = b) := by
 rw [Bool.eq_iff_iff, decide_eq_true_eq]
 constructor
 ·intro h
  unfold m23 at h
  cases a; cases b
  (repeat' split at h) <;> simp_all [ba_eq, eqd40]
 ·rintro rfl
  simp [m23, ba_eq, eqd40]
def m22 (a0 : K_iLyEi) (a1 : K_iLyEi) : Bool :=
 if (a0.f0 != a1.f0) = true then false else
 if (!(m23 (K_LyEi.mk a0.f1 a0.f2) (K_LyEi.mk a1.f1 a1.f2))) = true then false else
  true
theorem e22 {l0_1 : Nat} {a0 : K_iLyEi} {l1_1 : Nat} {a1 : K_iLyEi} (hy0 : length a0.f1 * 1 ≤ 140737488351232) (hy1 : length a1.f1 * 1 ≤ 140737488351232) : Ev F X (.call 22 [(.agg [(.val (.int .i64 a0.f0)), (.bor l0_1 (map b_y a0.f1)), (.val (.int .i64 a0.f2))]), (.agg [(.val (.int .i64 a1.f0)), (.bor l1_1 (map b_y a1.f1)), (.val (.int .i64 a1.f2))])] [] [] [(.one (.val (.bool (m22 a0 a1))))]) := by
 unfold m22
 by_cases h0 : (a0.f0 != a1.f0) = true
 ·try simp only [if_pos h0]
  exact cp (by kernel_rfl) (.f h0 (.y 16 .nil))
 ·try simp only [if_neg h0]
  have f1 := e23 (l0_0 := l0_1 + 1) (l1_0 := l1_1 + 1) (a0 := (K_LyEi.mk a0.f1 a0.f2)) (a1 := (K_LyEi.mk a1.f1 a1.f2)) (by with_reducible assumption) (by with_reducible assumption)
  by_cases h1 : (!(m23 (K_LyEi.mk a0.f1 a0.f2) (K_LyEi.mk a1.f1 a1.f2))) = true
  ·try simp only [if_pos h1]
   exact cp (by kernel_rfl) (.g h0 (.z 16 (.r 26 [] [] f1 (.f h1 (.y 29 .nil)))))
  ·try simp only [if_neg h1]
   exact cp (by kernel_rfl) (.g h0 (.z 16 (.r 26 [] [] f1 (.g h1 (.z 29 .nil)))))
open Classical in
theorem eqd22 (a b : K_iLyEi) : m22 a b = decide (a = b) := by
 rw [Bool.eq_iff_iff, decide_eq_true_eq]
 constructor
 ·intro h
  unfold m22 at h
  cases a; cases b
  (repeat' split at h) <;> simp_all [ba_eq, eqd23]
 ·rintro rfl
  simp [m22, ba_eq, eqd23]
inductive O41_0 where
 | k0 (w0 : List Int) (w1 : Int) (w2 : Int) (w3 : Bool)
def r41_0 (a0 : (List Int)) : List Int → Int → List Int → Int → O41_0
 | x0 :: y0, i, v0, v1 =>
  (r41_0 a0 y0 (i + 1) (set v0 (Int.toNat i) (IntKind.wrap .u8 (v1))) (w64 (v1 + 1)))
 | [], i, v0, v1 => (O41_0.k0 v0 v1 i (decide (i < ((length (map d_y a0)) : Int))))
def h41_0 (a0 : (List Int)) (a1 : Int) (i : Int) (v0 : List Int) (v1 : Int) : St := ⟨[(0, (.one (.ref ⟨(0, 0, 0), [], 0, (length (map d_y a0))⟩))), (1, (.one (.val (.int .i64 v1)))), (5, (.one (.val (.int .i64 i))))], [((0, 0, 0), .live ⟨1, (map d_y v0), []⟩)]⟩
def ex41_0 : O41_0 → VX.Exit
 | .k0 _ _ _ _ => (.exit 0)
def fin41_0 (a0 : (List Int)) (a1 : Int) : O41_0 → St
 | .k0 w0 w1 w2 w3 => ⟨[(0, (.one (.ref ⟨(0, 0, 0), [], 0, (length (map d_y a0))⟩))), (1, (.one (.val (.int .i64 w1)))), (5, (.one (.val (.int .i64 w2)))), (9, (.one (.val (.bool w3))))], [((0, 0, 0), .live ⟨1, (map d_y w0), []⟩)]⟩
theorem t41_0 {a0 : (List Int)} {a1 : Int} (hy0 : length a0 * 1 ≤ 140737488351232) : ∀ (y0 : List Int) (p : List Int) (v0 : List Int) (v1 : Int), p ++ y0 = a0 → length v0 = (length (map d_y a0)) → drop (length p) v0 = y0 → Ev F X (.code l41_0 (h41_0 a0 a1 (length p : Int) v0 v1) (ex41_0 (r41_0 a0 y0 (length p : Int) v0 v1)) (fin41_0 a0 a1 (r41_0 a0 y0 (length p : Int) v0 v1)))
 | [], p, v0, v1, hp0, hi0, hi1 => by
  have hc : ¬ (decide ((length p : Int) < ((length (map d_y a0)) : Int))) = true := by
   rw [← hp0]; simp only [length_map, length_set, length_append, length_replicate, length_cons, length_nil, decide_eq_true_eq]; omega
  have hj0 := hi0; try simp only [length_map, length_set, length_append, length_replicate, length_cons, length_nil, Int.toNat_natCast] at hj0
  have hj1 := hi1; try simp only [length_map, length_set, length_append, length_replicate, length_cons, length_nil, Int.toNat_natCast] at hj1
  have st := ch b41_0 [(8, .b false)] (h41_0 a0 a1 (length p : Int) v0 v1) (fin41_0 a0 a1 (.k0 v0 v1 (length p : Int) (decide ((length p : Int) < ((length (map d_y a0)) : Int))))) (.exit 0) 9 [(decide ((length p : Int) < ((length (map d_y a0)) : Int))) = false] (by kernel_rfl) ⟨(nt hc), trivial⟩
  exact .loopX st (show ((.exit 0) : VX.Exit) ≠ .normal from by simp)
 | x0 :: y0, p, v0, v1, hp0, hi0, hi1 => by
  have hc : (decide ((length p : Int) < ((length (map d_y a0)) : Int))) = true := lt1 hp0
  have Hx0 : (a0)[Int.toNat (length p : Int)]? = some x0 := by
   rw [← hp0, Int.toNat_natCast]; simp
  have hlen : length (a0) = length p + length y0 + 1 := by rw [← hp0]; simp; omega
  have hw : w64 ((length p : Int) + 1) = (length p : Int) + 1 := wrap64 (by omega)
  have hj0 := hi0; try simp only [length_map, length_set, length_append, length_replicate, length_cons, length_nil, Int.toNat_natCast] at hj0
  have hj1 := hi1; try simp only [length_map, length_set, length_append, length_replicate, length_cons, length_nil, Int.toNat_natCast] at hj1
  have Hv0 : v0[Int.toNat (length p : Int)]? = some x0 := by rw [Int.toNat_natCast]; exact drop_at hi1
  simp only [r41_0]
  have st := ch b41_0 [(8, .b true), (20, .rowD [(.val (.int .u8 x0))]), (21, .norm (0, 0, 0) (map d_y (set v0 (Int.toNat (length p : Int)) (IntKind.wrap .u8 (v1)))))] (h41_0 a0 a1 (length p : Int) v0 v1) ⟨[(0, (.one (.ref ⟨(0, 0, 0), [], 0, (length (map d_y a0))⟩))), (1, (.oi (w64 (v1 + 1)))), (5, (.oi (w64 ((length p : Int) + 1))))], [((0, 0, 0), .live ⟨1, (map d_y (set v0 (Int.toNat (length p : Int)) (IntKind.wrap .u8 (v1)))), []⟩)]⟩ .normal 34 [(decide ((length p : Int) < ((length (map d_y a0)) : Int))) = true, 0 + (length (map d_y a0)) ≤ (length (map d_y v0)), 0 ≤ (length p : Int) ∧ (length p : Int) < ((length (map d_y a0)) : Int), (map d_y v0)[(0 + (Int.toNat (length p : Int)))]? = some [(.val (.int .u8 x0))], (set (map d_y v0) (0 + (Int.toNat (length p : Int))) [(.val (.int .u8 (IntKind.wrap .u8 (v1))))]) = (map d_y (set v0 (Int.toNat (length p : Int)) (IntKind.wrap .u8 (v1)))), True, True] (by kernel_rfl) ⟨hc, (by simp only [length_map]; omega), (by omega), (by rw [Nat.zero_add, getElem?_map, Hv0]; rfl), (by simp [byteRows_eq, ints_y, take_of_length_le, d_y, d_LyEi, d_isii, d_b, d_i, d_iLyE, d_iLyEi, d_LyE, d_LLyEE, d_s, fromBR_y, fromBR_isii, fromBR_b, fromBR_i, fromBR_s, four_len, high4, high2]; done), trivial, trivial, trivial⟩
  have ih := t41_0 (a0 := a0) (a1 := a1) hy0 y0 (p ++ [x0]) (set v0 (Int.toNat (length p : Int)) (IntKind.wrap .u8 (v1))) (w64 (v1 + 1)) (by rw [append_assoc]; exact hp0) (by simp only [length_map, length_set, length_append, length_replicate, length_cons, length_nil]; omega) (by simp only [length_map, length_set, length_append, length_replicate, length_cons, length_nil, Int.toNat_natCast]; first | exact drop_set_next hi1 _ | exact drop_next hi1)
  rw [show ((p ++ [x0]).length : Int) = (p.length : Int) + 1 from by simp] at ih
  replace st := to_ (s' := h41_0 a0 a1 ((length p : Int) + 1) (set v0 (Int.toNat (length p : Int)) (IntKind.wrap .u8 (v1))) (w64 (v1 + 1))) st (by unfold h41_0; simp only [hw]; done)
  exact .loopN st ih
def post41_0 (n0 : Nat) : O41_0 → Prop
 | .k0 w0 _ _ _ => length w0 = n0
theorem z41_0 {a0 : (List Int)} : ∀ (y0 : List Int) (i : Int) (v0 : List Int) (v1 : Int), post41_0 (length v0) (r41_0 a0 y0 i v0 v1)
 | [], i, v0, v1 => by
  first | trivial | (simp only [post41_0, length_nil, Nat.add_zero]; done) | (simp [post41_0]; done)
 | x0 :: y0, i, v0, v1 => by
  simp only [r41_0]
  have z := z41_0 (a0 := a0) y0 (i + 1) (set v0 (Int.toNat i) (IntKind.wrap .u8 (v1))) (w64 (v1 + 1))
  rw [show (length v0) = (length (set v0 (Int.toNat i) (IntKind.wrap .u8 (v1)))) from by first | omega | (simp only [length_map, length_set, length_append, length_replicate, length_cons, length_nil]; done) | (simp only [length_map, length_set, length_append, length_replicate, length_cons, length_nil]; omega)]
  exact z
def o41_0 (a0 : (List Int)) (a1 : Int) : List Int :=
 (match r41_0 a0 a0 0 a0 a1 with | .k0 w0_0 w1_0 w2_0 w3_0 => w0_0)
def m41 (a0 : (List Int)) (a1 : Int) : Int :=
 (match r41_0 a0 a0 0 a0 a1 with | .k0 w0_0 w1_0 w2_0 w3_0 => w1_0)
theorem e41 {a0 : (List Int)} {a1 : Int} (hy0 : length a0 * 1 ≤ 140737488351232) : Ev F X (.call 41 [(.one (.ref ⟨(0, 0, 0), [], 0, (length (map d_y a0))⟩)), (.one (.val (.int .i64 a1)))] [((0, 0, 0), ⟨1, (map d_y a0), []⟩)] [(map d_y (o41_0 a0 a1))] [(.one (.val (.int .i64 (m41 a0 a1))))]) := by
 unfold m41 o41_0
 cases h0 : r41_0 a0 a0 0 a0 a1 with
 | k0 w0_0 w1_0 w2_0 w3_0 =>
  try dsimp only
  have zh0 := z41_0 (a0 := a0) a0 0 a0 a1; rw [h0] at zh0; simp only [post41_0, length_map, length_set, length_append, length_replicate, length_cons, length_nil, Int.toNat_natCast] at zh0
  have f0 : (⟨[(0, (.one (.ref ⟨(0, 0, 0), [], 0, (length (map d_y a0))⟩))), (1, (.oi a1)), (5, (.oi 0))], [((0, 0, 0), .live ⟨1, (map d_y a0), []⟩)]⟩ : St) = h41_0 a0 a1 0 a0 a1 := (by rfl)
  have f1 : Ev F X (.code l41_0 (h41_0 a0 a1 0 a0 a1) (.exit 0) ⟨[(0, (.one (.ref ⟨(0, 0, 0), [], 0, (length (map d_y a0))⟩))), (1, (.oi w1_0)), (5, (.oi w2_0)), (9, (.one (.val (.bool w3_0))))], [((0, 0, 0), .live ⟨1, (map d_y w0_0), []⟩)]⟩) := (by have t : Ev F X (.code l41_0 (h41_0 a0 a1 0 a0 a1) (ex41_0 (r41_0 a0 a0 0 a0 a1)) (fin41_0 a0 a1 (r41_0 a0 a0 0 a0 a1))) := t41_0 (a0 := a0) (a1 := a1) (by assumption) a0 [] a0 a1 rfl (by simp only [length_map, length_set, length_append, length_replicate, length_cons, length_nil]; done) (by rfl); rw [h0] at t; exact t)
  exact callP_ok (ps := [true]) (os := [(map d_y w0_0)]) (rs := [(.oi w1_0)]) (by kernel_rfl) (.f f0 (.f f1 (.f (pureR_y w0_0) (.h 4 (.loop (h41_0 a0 a1 0 a0 a1) (.exit 0) ⟨[(0, (.one (.ref ⟨(0, 0, 0), [], 0, (length (map d_y a0))⟩))), (1, (.oi w1_0)), (5, (.oi w2_0)), (9, (.one (.val (.bool w3_0))))], [((0, 0, 0), .live ⟨1, (map d_y w0_0), []⟩)]⟩) .nil))))
theorem ow41_0 (a0 : List Int) : ∀ (l p : List Int) (v1 : Int), ∃ (q : List Int) (w1 : _) (w2 : _) (w3 : _), r41_0 a0 l (p.length : Int) (p ++ l) v1 = .k0 (p ++ q) w1 w2 w3 ∧ q.length = l.length
 | [], p, v1 => ⟨[], v1, (p.length : Int), (decide ((p.length : Int) < ((length (map d_y a0)) : Int))), rfl, rfl⟩
 | x0 :: l, p, v1 => by
  obtain ⟨q, w1, w2, w3, e1, e2⟩ := ow41_0 a0 l (p ++ [(IntKind.wrap .u8 (v1))]) (w64 (v1 + 1))
  refine ⟨(IntKind.wrap .u8 (v1)) :: q, w1, w2, w3, ?_, by simp [e2]⟩
  ·have e : set (p ++ x0 :: l) (Int.toNat (p.length : Int)) (IntKind.wrap .u8 (v1)) = (p ++ [(IntKind.wrap .u8 (v1))]) ++ l := by simp
   have e0 : ((p ++ [(IntKind.wrap .u8 (v1))]).length : Int) = (p.length : Int) + 1 := by simp
   rw [e0] at e1
   simp only [r41_0]
   first | (rw [e, e1]; simp; done) | (simp only [e, e1]; simp; done)
theorem ol41 (a : List Int) (k : Int) : (o41_0 a k).length = a.length := by
 obtain ⟨q, w1, w2, w3, e1, e2⟩ := ow41_0 a a [] k
 simp only [List.nil_append, length_nil] at e1
 rw [show ((0 : Nat) : Int) = 0 from rfl] at e1
 unfold o41_0
 rw [e1]; exact e2
def o24_0 (a0 : K_LyEi) (a1 : Int) : List Int :=
 (o41_0 a0.f0 a1)
def m24 (a0 : K_LyEi) (a1 : Int) : Int :=
 (m41 a0.f0 a1)
theorem e24 {a0 : K_LyEi} {a1 : Int} (hy0 : length a0.f0 * 1 ≤ 140737488351232) : Ev F X (.call 24 [(.agg [(.ref ⟨(0, 0, 0), [], 0, (length (map d_y a0.f0))⟩), (.val (.int .i64 a0.f1))]), (.one (.val (.int .i64 a1)))] [((0, 0, 0), ⟨1, (map d_y a0.f0), []⟩)] [(map d_y (o24_0 a0 a1))] [(.one (.val (.int .i64 (m24 a0 a1))))]) := by
 have f3 := e41 (a0 := a0.f0) (a1 := a1) (by with_reducible assumption)
 exact callP_ok (ps := [true]) (os := [(map d_y (o41_0 a0.f0 a1))]) (rs := [(.oi (m41 a0.f0 a1))]) (by kernel_rfl) (.e 0 (.e (length (map d_y a0.f0)) (.f (pureR_y (a0.f0)) (.r 11 [true] [] f3 (.f (pureR_y (o41_0 a0.f0 a1)) .nil)))))
theorem ol24_0 (a : K_LyEi) (k : Int) : (o24_0 a k).length = length a.f0 := by
 unfold o24_0
 simp [ol41]
def o25_0 (a0 : K_iLyEi) (a1 : Int) : List Int :=
 (o24_0 (K_LyEi.mk a0.f1 a0.f2) a1)
def m25 (a0 : K_iLyEi) (a1 : Int) : Int :=
 (m24 (K_LyEi.mk a0.f1 a0.f2) a1)
theorem e25 {a0 : K_iLyEi} {a1 : Int} (hy0 : length a0.f1 * 1 ≤ 140737488351232) : Ev F X (.call 25 [(.agg [(.val (.int .i64 a0.f0)), (.ref ⟨(0, 0, 0), [], 0, (length (map d_y a0.f1))⟩), (.val (.int .i64 a0.f2))]), (.one (.val (.int .i64 a1)))] [((0, 0, 0), ⟨1, (map d_y a0.f1), []⟩)] [(map d_y (o25_0 a0 a1))] [(.one (.val (.int .i64 (m25 a0 a1))))]) := by
 have f3 := e24 (a0 := (K_LyEi.mk a0.f1 a0.f2)) (a1 := a1) (by with_reducible assumption)
 exact callP_ok (ps := [true]) (os := [(map d_y (o24_0 (K_LyEi.mk a0.f1 a0.f2) a1))]) (rs := [(.oi (m24 (K_LyEi.mk a0.f1 a0.f2) a1))]) (by kernel_rfl) (.e 0 (.e (length (map d_y a0.f1)) (.f (pureR_y (a0.f1)) (.r 11 [true] [] f3 (.f (pureR_y (o24_0 (K_LyEi.mk a0.f1 a0.f2) a1)) .nil)))))
theorem ol25_0 (a : K_iLyEi) (k : Int) : (o25_0 a k).length = length a.f1 := by
 unfold o25_0
 simp [ol24_0]
inductive O66_0 where
 | k0 (w0 : Int) (w1 : Int) (w2 : Bool)
 | k1
def r66_0 (a0 : (List Int)) : List Int → Int → Int → O66_0
 | x0 :: y0, i, v0 =>
  if (x0 != (IntKind.wrap .u8 (v0))) = true then (O66_0.k1) else
  (r66_0 a0 y0 (i + 1) (w64 (v0 + 1)))
 | [], i, v0 => (O66_0.k0 v0 i (decide (i < ((length (map b_y a0)) : Int))))
def h66_0 (l0_0 : Nat) (a0 : (List Int)) (a1 : Int) (i : Int) (v0 : Int) : St := ⟨[(0, (.one (.bor l0_0 (map b_y a0)))), (1, (.one (.val (.int .i64 v0)))), (5, (.one (.val (.int .i64 i))))], []⟩
def ex66_0 : O66_0 → VX.Exit
 | .k0 _ _ _ => (.exit 0)
 | .k1 => .ret
def fin66_0 (l0_0 : Nat) (a0 : (List Int)) (a1 : Int) : O66_0 → St
 | .k0 w0 w1 w2 => ⟨[(0, (.one (.bor l0_0 (map b_y a0)))), (1, (.one (.val (.int .i64 w0)))), (5, (.one (.val (.int .i64 w1)))), (9, (.one (.val (.bool w2))))], []⟩
 | .k1 => ⟨[(4, (.one (.val (.int .i64 (-1)))))], []⟩
theorem t66_0 {l0_0 : Nat} {a0 : (List Int)} {a1 : Int} (hy0 : length a0 * 1 ≤ 140737488351232) : ∀ (y0 : List Int) (p : List Int) (v0 : Int), p ++ y0 = a0 → Ev F X (.code l66_0 (h66_0 l0_0 a0 a1 (length p : Int) v0) (ex66_0 (r66_0 a0 y0 (length p : Int) v0)) (fin66_0 l0_0 a0 a1 (r66_0 a0 y0 (length p : Int) v0)))
 | [], p, v0, hp0 => by
  have hc : ¬ (decide ((length p : Int) < ((length (map b_y a0)) : Int))) = true := by
   rw [← hp0]; simp only [length_map, length_set, length_append, length_replicate, length_cons, length_nil, decide_eq_true_eq]; omega
  have st := ch b66_0 [(8, .b false)] (h66_0 l0_0 a0 a1 (length p : Int) v0) (fin66_0 l0_0 a0 a1 (.k0 v0 (length p : Int) (decide ((length p : Int) < ((length (map b_y a0)) : Int))))) (.exit 0) 9 [(decide ((length p : Int) < ((length (map b_y a0)) : Int))) = false] (by kernel_rfl) ⟨(nt hc), trivial⟩
  exact .loopX st (show ((.exit 0) : VX.Exit) ≠ .normal from by simp)
 | x0 :: y0, p, v0, hp0 => by
  have hc : (decide ((length p : Int) < ((length (map b_y a0)) : Int))) = true := lt1 hp0
  have Hx0 : (a0)[Int.toNat (length p : Int)]? = some x0 := by
   rw [← hp0, Int.toNat_natCast]; simp
  have hlen : length (a0) = length p + length y0 + 1 := by rw [← hp0]; simp; omega
  have hw : w64 ((length p : Int) + 1) = (length p : Int) + 1 := wrap64 (by omega)
  simp only [r66_0]
  by_cases h_1 : (x0 != (IntKind.wrap .u8 (v0))) = true
  ·try simp only [if_pos h_1]
   have st := ch b66_0 [(8, .b true), (14, .row [(.val (.int .u8 x0))]), (23, .b true)] (h66_0 l0_0 a0 a1 (length p : Int) v0) (fin66_0 l0_0 a0 a1 (.k1)) .ret 26 [(decide ((length p : Int) < ((length (map b_y a0)) : Int))) = true, 0 ≤ (length p : Int), (map b_y a0)[(Int.toNat (length p : Int))]? = some [(.val (.int .u8 x0))], (x0 != (IntKind.wrap .u8 (v0))) = true] (by kernel_rfl) ⟨hc, (by omega), (by rw [getElem?_map, Hx0]; rfl), h_1, trivial⟩
   exact .loopX st (show (.ret : VX.Exit) ≠ .normal from by simp)
  ·try simp only [if_neg h_1]
   have st := ch b66_0 [(8, .b true), (14, .row [(.val (.int .u8 x0))]), (23, .b false)] (h66_0 l0_0 a0 a1 (length p : Int) v0) ⟨[(0, (.one (.bor l0_0 (map b_y a0)))), (1, (.oi (w64 (v0 + 1)))), (5, (.oi (w64 ((length p : Int) + 1))))], []⟩ .normal 36 [(decide ((length p : Int) < ((length (map b_y a0)) : Int))) = true, 0 ≤ (length p : Int), (map b_y a0)[(Int.toNat (length p : Int))]? = some [(.val (.int .u8 x0))], (x0 != (IntKind.wrap .u8 (v0))) = false, True, True] (by kernel_rfl) ⟨hc, (by omega), (by rw [getElem?_map, Hx0]; rfl), (nt h_1), trivial, trivial, trivial⟩
   have ih := t66_0 (l0_0 := l0_0) (a0 := a0) (a1 := a1) hy0 y0 (p ++ [x0]) (w64 (v0 + 1)) (by rw [append_assoc]; exact hp0)
   rw [show ((p ++ [x0]).length : Int) = (p.length : Int) + 1 from by simp] at ih
   replace st := to_ (s' := h66_0 l0_0 a0 a1 ((length p : Int) + 1) (w64 (v0 + 1))) st (by unfold h66_0; simp only [hw]; done)
   exact .loopN st ih
def m66 (a0 : (List Int)) (a1 : Int) : Int :=
 (match r66_0 a0 a0 0 a1 with | .k0 w0_0 w1_0 w2_0 => w0_0 | .k1 => (-1))
theorem e66 {l0_0 : Nat} {a0 : (List Int)} {a1 : Int} (hy0 : length a0 * 1 ≤ 140737488351232) : Ev F X (.call 66 [(.one (.bor l0_0 (map b_y a0))), (.one (.val (.int .i64 a1)))] [] [] [(.one (.val (.int .i64 (m66 a0 a1))))]) := by
 unfold m66
 cases h0 : r66_0 a0 a0 0 a1 with
 | k0 w0_0 w1_0 w2_0 =>
  try dsimp only
  have f0 : (⟨[(0, (.one (.bor l0_0 (map b_y a0)))), (1, (.oi a1)), (5, (.oi 0))], []⟩ : St) = h66_0 l0_0 a0 a1 0 a1 := (by rfl)
  have f1 : Ev F X (.code l66_0 (h66_0 l0_0 a0 a1 0 a1) (.exit 0) ⟨[(0, (.one (.bor l0_0 (map b_y a0)))), (1, (.oi w0_0)), (5, (.oi w1_0)), (9, (.one (.val (.bool w2_0))))], []⟩) := (by have t : Ev F X (.code l66_0 (h66_0 l0_0 a0 a1 0 a1) (ex66_0 (r66_0 a0 a0 0 a1)) (fin66_0 l0_0 a0 a1 (r66_0 a0 a0 0 a1))) := t66_0 (l0_0 := l0_0) (a0 := a0) (a1 := a1) (by assumption) a0 [] a1 rfl; rw [h0] at t; exact t)
  exact cp (by kernel_rfl) (.f f0 (.f f1 (.h 4 (.loop (h66_0 l0_0 a0 a1 0 a1) (.exit 0) ⟨[(0, (.one (.bor l0_0 (map b_y a0)))), (1, (.oi w0_0)), (5, (.oi w1_0)), (9, (.one (.val (.bool w2_0))))], []⟩) .nil)))
 | k1 =>
  try dsimp only
  have f0 : (⟨[(0, (.one (.bor l0_0 (map b_y a0)))), (1, (.oi a1)), (5, (.oi 0))], []⟩ : St) = h66_0 l0_0 a0 a1 0 a1 := (by rfl)
  have f1 : Ev F X (.code l66_0 (h66_0 l0_0 a0 a1 0 a1) .ret ⟨[(4, (.oi (-1)))], []⟩) := (by have t : Ev F X (.code l66_0 (h66_0 l0_0 a0 a1 0 a1) (ex66_0 (r66_0 a0 a0 0 a1)) (fin66_0 l0_0 a0 a1 (r66_0 a0 a0 0 a1))) := t66_0 (l0_0 := l0_0) (a0 := a0) (a1 := a1) (by assumption) a0 [] a1 rfl; rw [h0] at t; exact t)
  exact cp (by kernel_rfl) (.f f0 (.f f1 (.h 4 (.loop (h66_0 l0_0 a0 a1 0 a1) .ret ⟨[(4, (.oi (-1)))], []⟩) .nil)))
def m72 (a0 : K_LyEi) (a1 : Int) : Int :=
 if (decide ((m66 a0.f0 a1) < 0)) = true then (-1) else
 (m66 a0.f0 a1)
theorem e72 {l0_0 : Nat} {a0 : K_LyEi} {a1 : Int} (hy0 : length a0.f0 * 1 ≤ 140737488351232) : Ev F X (.call 72 [(.agg [(.bor l0_0 (map b_y a0.f0)), (.val (.int .i64 a0.f1))]), (.one (.val (.int .i64 a1)))] [] [] [(.one (.val (.int .i64 (m72 a0 a1))))]) := by
 unfold m72
 have f0 := e66 (l0_0 := l0_0 + 1) (a0 := a0.f0) (a1 := a1) (by with_reducible assumption)
 by_cases h0 : (decide ((m66 a0.f0 a1) < 0)) = true
 ·try simp only [if_pos h0]
  exact cp (by kernel_rfl) (.r 11 [] [] f0 (.f h0 (.y 18 .nil)))
 ·try simp only [if_neg h0]
  exact cp (by kernel_rfl) (.r 11 [] [] f0 (.g h0 (.z 18 .nil)))
def m26 (a0 : K_iLyEi) (a1 : Int) : Int :=
 if (decide ((m72 (K_LyEi.mk a0.f1 a0.f2) a1) < 0)) = true then (-1) else
 (m72 (K_LyEi.mk a0.f1 a0.f2) a1)
theorem e26 {l0_1 : Nat} {a0 : K_iLyEi} {a1 : Int} (hy0 : length a0.f1 * 1 ≤ 140737488351232) : Ev F X (.call 26 [(.agg [(.val (.int .i64 a0.f0)), (.bor l0_1 (map b_y a0.f1)), (.val (.int .i64 a0.f2))]), (.one (.val (.int .i64 a1)))] [] [] [(.one (.val (.int .i64 (m26 a0 a1))))]) := by
 unfold m26
 have f0 := e72 (l0_0 := l0_1 + 1) (a0 := (K_LyEi.mk a0.f1 a0.f2)) (a1 := a1) (by with_reducible assumption)
 by_cases h0 : (decide ((m72 (K_LyEi.mk a0.f1 a0.f2) a1) < 0)) = true
 ·try simp only [if_pos h0]
  exact cp (by kernel_rfl) (.r 11 [] [] f0 (.f h0 (.y 18 .nil)))
 ·try simp only [if_neg h0]
  exact cp (by kernel_rfl) (.r 11 [] [] f0 (.g h0 (.z 18 .nil)))
def m4 (a0 : K_LyEi) (a1 : K_isii) : Bool :=
 if (decide ((m18 a0 1048576) < 0)) = true then true else
 if (decide ((m11 a1 (m18 a0 1048576)) < 0)) = true then true else
  if (!(m22 (m21 a0 a1) (m19 a0 a1))) = true then false else
   if (!(m23 a0 a0)) = true then false else
    if (decide ((m24 a0 1) < 0)) = true then false else
     if (decide ((m26 (K_iLyEi.mk ((m21 a0 a1).f0) (o25_0 (m21 a0 a1) 1) ((m21 a0 a1).f2)) 1) < 0)) = true then false else
      if ((m26 (K_iLyEi.mk ((m21 a0 a1).f0) (o25_0 (m21 a0 a1) 1) ((m21 a0 a1).f2)) 1) != (m25 (m21 a0 a1) 1)) = true then false else
       true
set_option maxHeartbeats 8000000 in
theorem e4 {l0_0 : Nat} {a0 : K_LyEi} {a1 : K_isii} (hy0 : length a0.f0 * 1 ≤ 140737488351232) (hy1 : ByteArray.size a1.f1 ≤ 140737488351232) : Ev F X (.call 4 [(.agg [(.bor l0_0 (map b_y a0.f0)), (.val (.int .i64 a0.f1))]), (.agg [(.val (.int .i64 a1.f0)), (.val (.string a1.f1)), (.val (.int .i64 a1.f2)), (.val (.int .i64 a1.f3))])] [] [] [(.one (.val (.bool (m4 a0 a1))))]) := by
 unfold m4
 have f0 := e18 (l0_0 := l0_0 + 1) (a0 := a0) (a1 := 1048576)
 by_cases h0 : (decide ((m18 a0 1048576) < 0)) = true
 ·try simp only [if_pos h0]
  exact cp (by kernel_rfl) (.r 13 [] [] f0 (.f h0 (.y 20 .nil)))
 ·try simp only [if_neg h0]
  have f2 := e11 (a0 := a1) (a1 := (m18 a0 1048576))
  by_cases h1 : (decide ((m11 a1 (m18 a0 1048576)) < 0)) = true
  ·try simp only [if_pos h1]
   exact cp (by kernel_rfl) (.r 13 [] [] f0 (.g h0 (.z 20 (.r 26 [] [] f2 (.f h1 (.y 33 .nil))))))
  ·try simp only [if_neg h1]
   have f4 := e20 (l0_0 := l0_0 + 1) (a0 := a0) (by with_reducible assumption)
   have f5 := e13 (a0 := a1)
   have f6 : 0 + (length (map d_y a0.f0)) ≤ (length (map d_y a0.f0)) := (by omega)
   have f7 : fullR (take (length (map d_y a0.f0)) (drop 0 (map d_y a0.f0))) = true := (ft_y _ _ _)
   have f8 : toBR (take (length (map d_y a0.f0)) (drop 0 (map d_y a0.f0))) = (map b_y a0.f0) := (tb_y _)
   have f9 := e19 (l0_0 := 0) (a0 := a0) (a1 := a1) (by with_reducible assumption) (by with_reducible assumption)
   have f11 : (length (map d_y ((m19 a0 a1).f1))) = (length (map d_y ((m19 a0 a1).f1))) := rfl
   have f12 := e20 (l0_0 := l0_0 + 1) (a0 := a0) (by with_reducible assumption)
   have f14 : (length (map d_y a0.f0)) = (length (map d_y a0.f0)) := rfl
   have f15 := e13 (a0 := a1)
   have f16 : 0 + (length (map d_y a0.f0)) ≤ (length (map d_y a0.f0)) := (by omega)
   have f17 : fullR (take (length (map d_y a0.f0)) (drop 0 (map d_y a0.f0))) = true := (ft_y _ _ _)
   have f18 : toBR (take (length (map d_y a0.f0)) (drop 0 (map d_y a0.f0))) = (map b_y a0.f0) := (tb_y _)
   have f19 := e21 (l0_0 := 0) (a0 := a0) (a1 := a1) (by have z0 := sz18 a0 1048576 (by simpa using ‹¬(decide ((m18 a0 1048576) < 0)) = true›) (by omega) (by omega) (by omega); (try simp only [length_map, length_set, length_append, length_replicate, length_cons, length_nil]); omega)
   have f21 : (length (map d_y ((m21 a0 a1).f1))) = (length (map d_y ((m21 a0 a1).f1))) := rfl
   have f22 : 0 + (length (map d_y ((m21 a0 a1).f1))) ≤ (length (map d_y ((m21 a0 a1).f1))) := (by omega)
   have f23 : fullR (take (length (map d_y ((m21 a0 a1).f1))) (drop 0 (map d_y ((m21 a0 a1).f1)))) = true := (ft_y _ _ _)
   have f24 : toBR (take (length (map d_y ((m21 a0 a1).f1))) (drop 0 (map d_y ((m21 a0 a1).f1)))) = (map b_y ((m21 a0 a1).f1)) := (tb_y _)
   have f25 : 0 + (length (map d_y ((m19 a0 a1).f1))) ≤ (length (map d_y ((m19 a0 a1).f1))) := (by omega)
   have f26 : fullR (take (length (map d_y ((m19 a0 a1).f1))) (drop 0 (map d_y ((m19 a0 a1).f1)))) = true := (ft_y _ _ _)
   have f27 : toBR (take (length (map d_y ((m19 a0 a1).f1))) (drop 0 (map d_y ((m19 a0 a1).f1)))) = (map b_y ((m19 a0 a1).f1)) := (tb_y _)
   have f28 := e22 (l0_1 := 0) (l1_1 := 0) (a0 := (m21 a0 a1)) (a1 := (m19 a0 a1)) (by have q := okm21 a0 a1; exact q) (by have q := okm19 a0 a1; exact q)
   by_cases h2 : (!(m22 (m21 a0 a1) (m19 a0 a1))) = true
   ·try simp only [if_pos h2]
    exact cp (by kernel_rfl) (.r 13 [] [] f0 (.g h0 (.z 20 (.r 26 [] [] f2 (.g h1 (.z 33 (.r 37 [] [] f4 (.r 41 [] [] f5 (.f f6 (.f f7 (.f f8 (.r 43 [] [(map b_y a0.f0)] f9 (.e 0 (.f f11 (.r 51 [] [] f12 (.e 0 (.f f14 (.r 61 [] [] f15 (.f f16 (.f f17 (.f f18 (.r 63 [] [(map b_y a0.f0)] f19 (.e 0 (.f f21 (.f f22 (.f f23 (.f f24 (.f f25 (.f f26 (.f f27 (.r 73 [] [(map b_y ((m21 a0 a1).f1)), (map b_y ((m19 a0 a1).f1))] f28 (.f h2 (.y 76 .nil)))))))))))))))))))))))))))))))))
   ·try simp only [if_neg h2]
    have f30 := e20 (l0_0 := l0_0 + 1) (a0 := a0) (by with_reducible assumption)
    have f31 : 0 + (length (map d_y a0.f0)) ≤ (length (map d_y a0.f0)) := (by omega)
    have f32 : fullR (take (length (map d_y a0.f0)) (drop 0 (map d_y a0.f0))) = true := (ft_y _ _ _)
    have f33 : toBR (take (length (map d_y a0.f0)) (drop 0 (map d_y a0.f0))) = (map b_y a0.f0) := (tb_y _)
    have f34 : 0 + (length (map d_y a0.f0)) ≤ (length (map d_y a0.f0)) := (by omega)
    have f35 : fullR (take (length (map d_y a0.f0)) (drop 0 (map d_y a0.f0))) = true := (ft_y _ _ _)
    have f36 : toBR (take (length (map d_y a0.f0)) (drop 0 (map d_y a0.f0))) = (map b_y a0.f0) := (tb_y _)
    have f37 := e23 (l0_0 := 0) (l1_0 := 0) (a0 := a0) (a1 := a0) (by with_reducible assumption) (by with_reducible assumption)
    by_cases h3 : (!(m23 a0 a0)) = true
    ·try simp only [if_pos h3]
     exact cp (by kernel_rfl) (.r 13 [] [] f0 (.g h0 (.z 20 (.r 26 [] [] f2 (.g h1 (.z 33 (.r 37 [] [] f4 (.r 41 [] [] f5 (.f f6 (.f f7 (.f f8 (.r 43 [] [(map b_y a0.f0)] f9 (.e 0 (.f f11 (.r 51 [] [] f12 (.e 0 (.f f14 (.r 61 [] [] f15 (.f f16 (.f f17 (.f f18 (.r 63 [] [(map b_y a0.f0)] f19 (.e 0 (.f f21 (.f f22 (.f f23 (.f f24 (.f f25 (.f f26 (.f f27 (.r 73 [] [(map b_y ((m21 a0 a1).f1)), (map b_y ((m19 a0 a1).f1))] f28 (.g h2 (.z 76 (.r 82 [] [] f30 (.f f31 (.f f32 (.f f33 (.f f34 (.f f35 (.f f36 (.r 84 [] [(map b_y a0.f0), (map b_y a0.f0)] f37 (.f h3 (.y 87 .nil)))))))))))))))))))))))))))))))))))))))))))
    ·try simp only [if_neg h3]
     have f39 : pureR (map d_y a0.f0) = true := (pureR_y _)
     have f40 := e24 (a0 := a0) (a1 := 1) (by with_reducible assumption)
     by_cases h4 : (decide ((m24 a0 1) < 0)) = true
     ·try simp only [if_pos h4]
      exact cp (by kernel_rfl) (.r 13 [] [] f0 (.g h0 (.z 20 (.r 26 [] [] f2 (.g h1 (.z 33 (.r 37 [] [] f4 (.r 41 [] [] f5 (.f f6 (.f f7 (.f f8 (.r 43 [] [(map b_y a0.f0)] f9 (.e 0 (.f f11 (.r 51 [] [] f12 (.e 0 (.f f14 (.r 61 [] [] f15 (.f f16 (.f f17 (.f f18 (.r 63 [] [(map b_y a0.f0)] f19 (.e 0 (.f f21 (.f f22 (.f f23 (.f f24 (.f f25 (.f f26 (.f f27 (.r 73 [] [(map b_y ((m21 a0 a1).f1)), (map b_y ((m19 a0 a1).f1))] f28 (.g h2 (.z 76 (.r 82 [] [] f30 (.f f31 (.f f32 (.f f33 (.f f34 (.f f35 (.f f36 (.r 84 [] [(map b_y a0.f0), (map b_y a0.f0)] f37 (.g h3 (.f f39 (.z 87 (.r 95 [true] [] f40 (.m 5 h4 (.y 104 (.y 106 (.y 108 (.y 110 (.y 113 .nil)))))))))))))))))))))))))))))))))))))))))))))))))))
     ·try simp only [if_neg h4]
      have f44 : 0 + (length (map d_y ((m21 a0 a1).f1))) ≤ (length (map d_y ((m21 a0 a1).f1))) := (by omega)
      have f45 : fullR (take (length (map d_y ((m21 a0 a1).f1))) (drop 0 (map d_y ((m21 a0 a1).f1)))) = true := (ft_y _ _ _)
      have f46 : toBR (take (length (map d_y ((m21 a0 a1).f1))) (drop 0 (map d_y ((m21 a0 a1).f1)))) = (map b_y ((m21 a0 a1).f1)) := (tb_y _)
      have f47 : 0 + (length (map d_y ((m19 a0 a1).f1))) ≤ (length (map d_y ((m19 a0 a1).f1))) := (by omega)
      have f48 : fullR (take (length (map d_y ((m19 a0 a1).f1))) (drop 0 (map d_y ((m19 a0 a1).f1)))) = true := (ft_y _ _ _)
      have f49 : toBR (take (length (map d_y ((m19 a0 a1).f1))) (drop 0 (map d_y ((m19 a0 a1).f1)))) = (map b_y ((m19 a0 a1).f1)) := (tb_y _)
      have f50 := e22 (l0_1 := 0) (l1_1 := 0) (a0 := (m21 a0 a1)) (a1 := (m19 a0 a1)) (by have q := okm21 a0 a1; exact q) (by have q := okm19 a0 a1; exact q)
      have f55 := e25 (a0 := (m21 a0 a1)) (a1 := 1) (by have q := okm21 a0 a1; exact q)
      have f56 : 0 + (length (map d_y (o25_0 (m21 a0 a1) 1))) ≤ (length (map d_y (o25_0 (m21 a0 a1) 1))) := (by omega)
      have f57 : fullR (take (length (map d_y (o25_0 (m21 a0 a1) 1))) (drop 0 (map d_y (o25_0 (m21 a0 a1) 1)))) = true := (ft_y _ _ _)
      have f58 : toBR (take (length (map d_y (o25_0 (m21 a0 a1) 1))) (drop 0 (map d_y (o25_0 (m21 a0 a1) 1)))) = (map b_y (o25_0 (m21 a0 a1) 1)) := (tb_y _)
      have f59 := e26 (l0_1 := 0) (a0 := (K_iLyEi.mk ((m21 a0 a1).f0) (o25_0 (m21 a0 a1) 1) ((m21 a0 a1).f2))) (a1 := 1) (by have q := okm21 a0 a1; rw [ol25_0]; exact q)
      by_cases h5 : (decide ((m26 (K_iLyEi.mk ((m21 a0 a1).f0) (o25_0 (m21 a0 a1) 1) ((m21 a0 a1).f2)) 1) < 0)) = true
      ·try simp only [if_pos h5]
       exact cp (by kernel_rfl) (.r 13 [] [] f0 (.g h0 (.z 20 (.r 26 [] [] f2 (.g h1 (.z 33 (.r 37 [] [] f4 (.r 41 [] [] f5 (.f f6 (.f f7 (.f f8 (.r 43 [] [(map b_y a0.f0)] f9 (.e 0 (.f f11 (.r 51 [] [] f12 (.e 0 (.f f14 (.r 61 [] [] f15 (.f f16 (.f f17 (.f f18 (.r 63 [] [(map b_y a0.f0)] f19 (.e 0 (.f f21 (.f f22 (.f f23 (.f f24 (.f f25 (.f f26 (.f f27 (.r 73 [] [(map b_y ((m21 a0 a1).f1)), (map b_y ((m19 a0 a1).f1))] f28 (.g h2 (.z 76 (.r 82 [] [] f30 (.f f31 (.f f32 (.f f33 (.f f34 (.f f35 (.f f36 (.r 84 [] [(map b_y a0.f0), (map b_y a0.f0)] f37 (.g h3 (.f f39 (.z 87 (.r 95 [true] [] f40 (.n 3 h4 (.f f44 (.f f45 (.f f46 (.f f47 (.f f48 (.f f49 (.z 104 (.z 106 (.z 108 (.r 109 [] [(map b_y ((m21 a0 a1).f1)), (map b_y ((m19 a0 a1).f1))] f50 (.n 2 h4 (.g h2 (.f (pureR_y ((m21 a0 a1).f1)) (.z 110 (.z 113 (.z 114 (.r 122 [true] [] f55 (.f f56 (.f f57 (.f f58 (.r 132 [] [(map b_y (o25_0 (m21 a0 a1) 1))] f59 (.f h5 (.y 139 .nil)))))))))))))))))))))))))))))))))))))))))))))))))))))))))))))))))))))
      ·try simp only [if_neg h5]
       by_cases h6 : ((m26 (K_iLyEi.mk ((m21 a0 a1).f0) (o25_0 (m21 a0 a1) 1) ((m21 a0 a1).f2)) 1) != (m25 (m21 a0 a1) 1)) = true
       ·try simp only [if_pos h6]
        exact cp (by kernel_rfl) (.r 13 [] [] f0 (.g h0 (.z 20 (.r 26 [] [] f2 (.g h1 (.z 33 (.r 37 [] [] f4 (.r 41 [] [] f5 (.f f6 (.f f7 (.f f8 (.r 43 [] [(map b_y a0.f0)] f9 (.e 0 (.f f11 (.r 51 [] [] f12 (.e 0 (.f f14 (.r 61 [] [] f15 (.f f16 (.f f17 (.f f18 (.r 63 [] [(map b_y a0.f0)] f19 (.e 0 (.f f21 (.f f22 (.f f23 (.f f24 (.f f25 (.f f26 (.f f27 (.r 73 [] [(map b_y ((m21 a0 a1).f1)), (map b_y ((m19 a0 a1).f1))] f28 (.g h2 (.z 76 (.r 82 [] [] f30 (.f f31 (.f f32 (.f f33 (.f f34 (.f f35 (.f f36 (.r 84 [] [(map b_y a0.f0), (map b_y a0.f0)] f37 (.g h3 (.f f39 (.z 87 (.r 95 [true] [] f40 (.n 3 h4 (.f f44 (.f f45 (.f f46 (.f f47 (.f f48 (.f f49 (.z 104 (.z 106 (.z 108 (.r 109 [] [(map b_y ((m21 a0 a1).f1)), (map b_y ((m19 a0 a1).f1))] f50 (.n 2 h4 (.g h2 (.f (pureR_y ((m21 a0 a1).f1)) (.z 110 (.z 113 (.z 114 (.r 122 [true] [] f55 (.f f56 (.f f57 (.f f58 (.r 132 [] [(map b_y (o25_0 (m21 a0 a1) 1))] f59 (.g h5 (.f h6 (.z 139 (.y 146 .nil)))))))))))))))))))))))))))))))))))))))))))))))))))))))))))))))))))))))
       ·try simp only [if_neg h6]
        have f62 := e20 (l0_0 := l0_0 + 1) (a0 := a0) (by with_reducible assumption)
        have f63 := e13 (a0 := a1)
        have f64 : 0 + (length (map d_y a0.f0)) ≤ (length (map d_y a0.f0)) := (by omega)
        have f65 : fullR (take (length (map d_y a0.f0)) (drop 0 (map d_y a0.f0))) = true := (ft_y _ _ _)
        have f66 : toBR (take (length (map d_y a0.f0)) (drop 0 (map d_y a0.f0))) = (map b_y a0.f0) := (tb_y _)
        have f67 := e21 (l0_0 := 0) (a0 := a0) (a1 := a1) (by have z0 := sz18 a0 1048576 (by simpa using ‹¬(decide ((m18 a0 1048576) < 0)) = true›) (by omega) (by omega) (by omega); (try simp only [length_map, length_set, length_append, length_replicate, length_cons, length_nil]); omega)
        have f70 : 0 + (length (map d_y ((m21 a0 a1).f1))) ≤ (length (map d_y ((m21 a0 a1).f1))) := (by omega)
        have f71 : fullR (take (length (map d_y ((m21 a0 a1).f1))) (drop 0 (map d_y ((m21 a0 a1).f1)))) = true := (ft_y _ _ _)
        have f72 : toBR (take (length (map d_y ((m21 a0 a1).f1))) (drop 0 (map d_y ((m21 a0 a1).f1)))) = (map b_y ((m21 a0 a1).f1)) := (tb_y _)
        have f73 : 0 + (length (map d_y ((m19 a0 a1).f1))) ≤ (length (map d_y ((m19 a0 a1).f1))) := (by omega)
        have f74 : fullR (take (length (map d_y ((m19 a0 a1).f1))) (drop 0 (map d_y ((m19 a0 a1).f1)))) = true := (ft_y _ _ _)
        have f75 : toBR (take (length (map d_y ((m19 a0 a1).f1))) (drop 0 (map d_y ((m19 a0 a1).f1)))) = (map b_y ((m19 a0 a1).f1)) := (tb_y _)
        have f76 := e22 (l0_1 := 0) (l1_1 := 0) (a0 := (m21 a0 a1)) (a1 := (m19 a0 a1)) (by have q := okm21 a0 a1; exact q) (by have q := okm19 a0 a1; exact q)
        have f78 : 0 + (length (map d_y (o25_0 (m21 a0 a1) 1))) ≤ (length (map d_y (o25_0 (m21 a0 a1) 1))) := (by omega)
        have f79 : fullR (take (length (map d_y (o25_0 (m21 a0 a1) 1))) (drop 0 (map d_y (o25_0 (m21 a0 a1) 1)))) = true := (ft_y _ _ _)
        have f80 : toBR (take (length (map d_y (o25_0 (m21 a0 a1) 1))) (drop 0 (map d_y (o25_0 (m21 a0 a1) 1)))) = (map b_y (o25_0 (m21 a0 a1) 1)) := (tb_y _)
        have f81 := e26 (l0_1 := 0) (a0 := (K_iLyEi.mk ((m21 a0 a1).f0) (o25_0 (m21 a0 a1) 1) ((m21 a0 a1).f2))) (a1 := 1) (by have q := okm21 a0 a1; rw [ol25_0]; exact q)
        exact cp (by kernel_rfl) (.r 13 [] [] f0 (.g h0 (.z 20 (.r 26 [] [] f2 (.g h1 (.z 33 (.r 37 [] [] f4 (.r 41 [] [] f5 (.f f6 (.f f7 (.f f8 (.r 43 [] [(map b_y a0.f0)] f9 (.e 0 (.f f11 (.r 51 [] [] f12 (.e 0 (.f f14 (.r 61 [] [] f15 (.f f16 (.f f17 (.f f18 (.r 63 [] [(map b_y a0.f0)] f19 (.e 0 (.f f21 (.f f22 (.f f23 (.f f24 (.f f25 (.f f26 (.f f27 (.r 73 [] [(map b_y ((m21 a0 a1).f1)), (map b_y ((m19 a0 a1).f1))] f28 (.g h2 (.z 76 (.r 82 [] [] f30 (.f f31 (.f f32 (.f f33 (.f f34 (.f f35 (.f f36 (.r 84 [] [(map b_y a0.f0), (map b_y a0.f0)] f37 (.g h3 (.f f39 (.z 87 (.r 95 [true] [] f40 (.n 3 h4 (.f f44 (.f f45 (.f f46 (.f f47 (.f f48 (.f f49 (.z 104 (.z 106 (.z 108 (.r 109 [] [(map b_y ((m21 a0 a1).f1)), (map b_y ((m19 a0 a1).f1))] f50 (.n 2 h4 (.g h2 (.f (pureR_y ((m21 a0 a1).f1)) (.z 110 (.z 113 (.z 114 (.r 122 [true] [] f55 (.f f56 (.f f57 (.f f58 (.r 132 [] [(map b_y (o25_0 (m21 a0 a1) 1))] f59 (.g h5 (.g h6 (.z 139 (.z 146 (.r 150 [] [] f62 (.r 154 [] [] f63 (.f f64 (.f f65 (.f f66 (.r 156 [] [(map b_y a0.f0)] f67 (.e 0 (.e (length (map d_y ((m21 a0 a1).f1))) (.f f70 (.f f71 (.f f72 (.f f73 (.f f74 (.f f75 (.r 166 [] [(map b_y ((m21 a0 a1).f1)), (map b_y ((m19 a0 a1).f1))] f76 (.g h2 (.f f78 (.f f79 (.f f80 (.z 169 (.r 177 [] [(map b_y (o25_0 (m21 a0 a1) 1))] f81 (.g h5 (.g h6 (.z 184 (.z 191 .nil))))))))))))))))))))))))))))))))))))))))))))))))))))))))))))))))))))))))))))))))))))))))))))))))
def wt_y (x : Int) : Nat := 1
theorem wts_y : ∀ (l : List Int), (map wt_y l).sum = l.length * 1
 | [] => rfl
 | x :: l => by simp only [List.map_cons, List.sum_cons, wts_y l, length_cons, wt_y]; omega
def wt_LyEi (x : K_LyEi) : Nat := 1 + (map wt_y x.f0).sum
def wt_isii (x : K_isii) : Nat := 4
theorem wts_isii : ∀ (l : List K_isii), (map wt_isii l).sum = l.length * 4
 | [] => rfl
 | x :: l => by simp only [List.map_cons, List.sum_cons, wts_isii l, length_cons, wt_isii]; omega
def wt_b (x : Bool) : Nat := 1
theorem wts_b : ∀ (l : List Bool), (map wt_b l).sum = l.length * 1
 | [] => rfl
 | x :: l => by simp only [List.map_cons, List.sum_cons, wts_b l, length_cons, wt_b]; omega
def wt_i (x : Int) : Nat := 1
theorem wts_i : ∀ (l : List Int), (map wt_i l).sum = l.length * 1
 | [] => rfl
 | x :: l => by simp only [List.map_cons, List.sum_cons, wts_i l, length_cons, wt_i]; omega
def wt_iLyE (x : K_iLyE) : Nat := 1 + (map wt_y x.f1).sum
def wt_iLyEi (x : K_iLyEi) : Nat := 2 + (map wt_y x.f1).sum
def wt_LyE (x : (List Int)) : Nat := 0 + (map wt_y x).sum
def wt_LLyEE (x : (List (List Int))) : Nat := 0 + (map wt_LyE x).sum
def wt_s (x : ByteArray) : Nat := 1
theorem wts_s : ∀ (l : List ByteArray), (map wt_s l).sum = l.length * 1
 | [] => rfl
 | x :: l => by simp only [List.map_cons, List.sum_cons, wts_s l, length_cons, wt_s]; omega
theorem mr41_0 (a0 : List Int) : ∀ (l p : List Int) (v1 : Int), 0 ≤ v1 → v1 + ((map wt_y l).sum : Nat) ≤ 4611686018427387904 → ∃ (q : List Int) (k' : Int) (w2 : _) (w3 : _), r41_0 a0 l (p.length : Int) (p ++ l) v1 = .k0 (p ++ q) k' w2 w3 ∧ q.length = l.length ∧ v1 ≤ k' ∧ k' ≤ v1 + ((map wt_y l).sum : Nat) ∧ ∀ (c : List Int) (j : Int), ∃ u1 u2, r66_0 c q j v1 = .k0 k' u1 u2
 | [], p, v1, h0, h1 => ⟨[], v1, (p.length : Int), (decide ((p.length : Int) < ((length (map d_y a0)) : Int))), rfl, rfl, by omega, by simp, fun c j => ⟨j, (decide (j < ((length (map b_y c)) : Int))), rfl⟩⟩
 | x0 :: l, p, v1, h0, h1 => by
  simp only [List.map_cons, List.sum_cons, wt_y] at h1 ⊢
  obtain ⟨q, k', w2, w3, e1, e2, e3, e4, e5⟩ := mr41_0 a0 l (p ++ [(IntKind.wrap .u8 (v1))]) (v1 + 1) (by omega) (by omega)
  refine ⟨(IntKind.wrap .u8 (v1)) :: q, k', w2, w3, ?_, by simp [e2], by omega, by omega, ?_⟩
  ·have e : set (p ++ x0 :: l) (Int.toNat (p.length : Int)) (IntKind.wrap .u8 (v1)) = (p ++ [(IntKind.wrap .u8 (v1))]) ++ l := by simp
   have e0 : ((p ++ [(IntKind.wrap .u8 (v1))]).length : Int) = (p.length : Int) + 1 := by simp
   rw [e0] at e1
   simp (disch := omega) only [r41_0, wrap64d]
   first | (rw [e, e1]; simp; done) | (simp only [e, e1]; simp; done)
  ·intro c j
   obtain ⟨u1, u2, g⟩ := e5 c (j + 1)
   refine ⟨u1, u2, ?_⟩
   simp (disch := omega) only [r66_0, wrap64d]
   first | (simpa using g) | (simp_all; done)
theorem mh41 (a : List Int) (k : Int) (h0 : 0 ≤ k) (h1 : k + ((map wt_y a).sum : Nat) ≤ 4611686018427387904) : m66 (o41_0 a k) k = m41 a k ∧ k ≤ m41 a k ∧ m41 a k ≤ k + ((map wt_y a).sum : Nat) := by
 obtain ⟨q, k', w2, w3, e1, e2, e3, e4, e5⟩ := mr41_0 a a [] k h0 h1
 obtain ⟨u1, u2, g⟩ := e5 q 0
 simp only [List.nil_append, length_nil] at e1
 rw [show ((0 : Nat) : Int) = 0 from rfl] at e1
 unfold m41 o41_0 m66
 rw [e1]; simp only []; rw [g]; exact ⟨rfl, e3, e4⟩
theorem mh24 (a : K_LyEi) (k : Int) (h0 : 0 ≤ k) (h1 : k + (wt_LyEi a : Nat) ≤ 4611686018427387904) : m72 (K_LyEi.mk (o24_0 a k) a.f1) k = m24 a k ∧ k ≤ m24 a k ∧ m24 a k ≤ k + (wt_LyEi a : Nat) := by
 simp only [wt_LyEi] at h1 ⊢
 have s0 := mh41 a.f0 k (by omega) (by omega)
 have t0 := s0.1
 try simp only [length_map, wt_y, wt_LyEi, wt_isii, wt_b, wt_i, wt_iLyE, wt_iLyEi, wt_LyE, wt_LLyEE, wt_s] at *
 unfold m72 m24 o24_0
 simp (disch := omega) only [wrap64d, t0]
 refine ⟨?_, by omega, by omega⟩
 (repeat' rw [if_neg (by simp only [decide_eq_true_eq]; omega)]) <;> rfl
theorem mh25 (a : K_iLyEi) (k : Int) (h0 : 0 ≤ k) (h1 : k + (wt_iLyEi a : Nat) ≤ 4611686018427387904) : m26 (K_iLyEi.mk a.f0 (o25_0 a k) a.f2) k = m25 a k ∧ k ≤ m25 a k ∧ m25 a k ≤ k + (wt_iLyEi a : Nat) := by
 simp only [wt_iLyEi] at h1 ⊢
 have s0 := mh24 (K_LyEi.mk a.f1 a.f2) k (by omega) (by simp only [wt_y, wt_LyEi, wt_isii, wt_b, wt_i, wt_iLyE, wt_iLyEi, wt_LyE, wt_LLyEE, wt_s] at *; omega)
 have t0 := s0.1
 try simp only [length_map, wt_y, wt_LyEi, wt_isii, wt_b, wt_i, wt_iLyE, wt_iLyEi, wt_LyE, wt_LLyEE, wt_s] at *
 unfold m26 m25 o25_0
 simp (disch := omega) only [wrap64d, t0]
 refine ⟨?_, by omega, by omega⟩
 (repeat' rw [if_neg (by simp only [decide_eq_true_eq]; omega)]) <;> rfl
theorem X_ok (f : FuncId) (args : List SV) (rs : List Ret) (h : X f args rs) : CallOK Tryd.prog f args [] [] rs := by
 rcases h with ⟨rfl, h⟩
 ·obtain ⟨s, c, h1, h2, h3, rfl, rfl⟩ := h
  exact trim_ok s c h1 h2 h3
end Go.Proofs.YtdnopbpdiineiaaDoor.AppendEntry
