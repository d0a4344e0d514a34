/- What the functions compute. -/
import Derived.Test.YtihjlmgakpgkeaaDoorEJournalsC
import Derived.KernelRfl
namespace Go.Proofs.YtihjlmgakpgkeaaDoor.Journals
open Go Go.Proofs.YtihjlmgakpgkeaaDoor.V
set_option linter.unusedVariables false
set_option linter.unusedSimpArgs false
set_option maxRecDepth 20000
open Go.IntKind (wrap)
open Int (toNat)
open List (length_replicate length_map length_set length_append length_cons length_nil length_take length_drop take_of_length_le map_take map_drop map_set append_assoc getElem?_map map length take drop getD set)
attribute [local simp] strInts_len byteRows_len toBR_y fullR_y pureR_y lenB_y lenD_y fromBR_y copy_y toBR_LyE fullR_LyE pureR_LyE lenB_LyE lenD_LyE toBR_b fullR_b pureR_b lenB_b lenD_b fromBR_b copy_b toBR_isii fullR_isii pureR_isii lenB_isii lenD_isii fromBR_isii copy_isii toBR_iiLisiiE fullR_iiLisiiE pureR_iiLisiiE lenB_iiLisiiE lenD_iiLisiiE toBR_LyEi fullR_LyEi pureR_LyEi lenB_LyEi lenD_LyEi toBR_iLyEi fullR_iLyEi pureR_iLyEi lenB_iLyEi lenD_iLyEi toBR_iLyE fullR_iLyE pureR_iLyE lenB_iLyE lenD_iLyE toBR_i fullR_i pureR_i lenB_i lenD_i fromBR_i copy_i toBR_s fullR_s pureR_s lenB_s lenD_s fromBR_s copy_s toBR_LiE fullR_LiE pureR_LiE lenB_LiE lenD_LiE toBR_si fullR_si pureR_si lenB_si lenD_si fromBR_si copy_si toBR_R fullR_R pureR_R lenB_R lenD_R toBR_C fullR_C pureR_C lenB_C lenD_C toBR_B fullR_B pureR_B lenB_B lenD_B toBR_LsiE fullR_LsiE pureR_LsiE lenB_LsiE lenD_LsiE toBR_LLyEE fullR_LLyEE pureR_LLyEE lenB_LLyEE lenD_LLyEE toBR_LisiiE fullR_LisiiE pureR_LisiiE lenB_LisiiE lenD_LisiiE toBR_Q fullR_Q pureR_Q lenB_Q lenD_Q
def o62_0 (a0:K_LyEi):K_LyEi:=
  if((m48 (K_LyEi.mk a0.f0 ((o106_0 a0 16).f1)) 10)==0)=true then(K_LyEi.mk a0.f0 ((o41_0 (K_LyEi.mk a0.f0 ((o48_0 (K_LyEi.mk a0.f0 ((o106_0 a0 16).f1)) 10).f1)) [(-1),1,1201]).f1)) else
  if((m48 (K_LyEi.mk a0.f0 ((o106_0 a0 16).f1)) 10)==1)=true then(K_LyEi.mk a0.f0 ((o107_0 (K_LyEi.mk a0.f0 ((o48_0 (K_LyEi.mk a0.f0 ((o48_0 (K_LyEi.mk a0.f0 ((o106_0 a0 16).f1)) 10).f1)) 5).f1)) (m48 (K_LyEi.mk a0.f0 ((o48_0 (K_LyEi.mk a0.f0 ((o106_0 a0 16).f1)) 10).f1)) 5)).f1)) else
    if((m48 (K_LyEi.mk a0.f0 ((o106_0 a0 16).f1)) 10)==2)=true then(K_LyEi.mk a0.f0 ((o48_0 (K_LyEi.mk a0.f0 ((o106_0 a0 16).f1)) 10).f1)) else
      if ((m48 (K_LyEi.mk a0.f0 ((o106_0 a0 16).f1)) 10) == 3) = true then (if (decide (((length (map d_y ((m106_1 a0 16).f0))) : Int) > 0)) = true then (K_LyEi.mk a0.f0 ((o48_0 (K_LyEi.mk a0.f0 ((o48_0 (K_LyEi.mk a0.f0 ((o106_0 a0 16).f1)) 10).f1)) ((length (map d_y ((m106_1 a0 16).f0))) : Int)).f1)) else
          (K_LyEi.mk a0.f0 ((o48_0 (K_LyEi.mk a0.f0 ((o106_0 a0 16).f1)) 10).f1))) else
        (K_LyEi.mk a0.f0 ((o48_0 (K_LyEi.mk a0.f0 ((o106_0 a0 16).f1)) 10).f1))
def m62 (a0:K_LyEi):K_LyEi:=
  if((m48 (K_LyEi.mk a0.f0 ((o106_0 a0 16).f1)) 10)==0)=true then(K_LyEi.mk ((m106_1 a0 16).f0) (m41 (K_LyEi.mk a0.f0 ((o48_0 (K_LyEi.mk a0.f0 ((o106_0 a0 16).f1)) 10).f1)) [(-1),1,1201])) else
  if((m48 (K_LyEi.mk a0.f0 ((o106_0 a0 16).f1)) 10)==1)=true then(K_LyEi.mk (((m106_1 a0 16).f0)++(m107 (K_LyEi.mk a0.f0 ((o48_0 (K_LyEi.mk a0.f0 ((o48_0 (K_LyEi.mk a0.f0 ((o106_0 a0 16).f1)) 10).f1)) 5).f1)) (m48 (K_LyEi.mk a0.f0 ((o48_0 (K_LyEi.mk a0.f0 ((o106_0 a0 16).f1)) 10).f1)) 5))) ((m106_1 a0 16).f1)) else
    if((m48 (K_LyEi.mk a0.f0 ((o106_0 a0 16).f1)) 10)==2)=true then(K_LyEi.mk (List.replicate 1201 0) ((m106_1 a0 16).f1)) else
      if ((m48 (K_LyEi.mk a0.f0 ((o106_0 a0 16).f1)) 10) == 3) = true then (if (decide (((length (map d_y ((m106_1 a0 16).f0))) : Int) > 0)) = true then (K_LyEi.mk (set ((m106_1 a0 16).f0) (toNat (m48 (K_LyEi.mk a0.f0 ((o48_0 (K_LyEi.mk a0.f0 ((o106_0 a0 16).f1)) 10).f1)) ((length (map d_y ((m106_1 a0 16).f0))) : Int))) (bitsV .xor .u8 (getD ((m106_1 a0 16).f0) (toNat (m48 (K_LyEi.mk a0.f0 ((o48_0 (K_LyEi.mk a0.f0 ((o106_0 a0 16).f1)) 10).f1)) ((length (map d_y ((m106_1 a0 16).f0))) : Int))) 0) 1)) ((m106_1 a0 16).f1)) else
          (m106_1 a0 16)) else
        (m106_1 a0 16)
theorem e62 {l0_0:Nat} {a0:K_LyEi} (hy0:S a0 130):Ev F X (.call 62 [(.ptr ⟨(0,0,0),[],0,0,2⟩)] [((0,0,0),⟨2,[[(.bor (l0_0+1) (map b_y a0.f0)),(.val (.int .i64 a0.f1))]],[]⟩)] [[[(.bor l0_0 (map b_y a0.f0)),(.val (.int .i64 ((o62_0 a0).f1)))]]] [(.agg (d_LyEi (m62 a0)))]):=by
  unfold m62 o62_0
  have P0 {hs q} (r:PS F X hs q):=(PS.r 5 [false] [] (e106 (l0_0:=(l0_0+1)) (a0:=a0) (a1:=16) (by (repeat (first | with_reducible refine sm106 (by decide) (by decide) ?_ rfl | with_reducible refine sm41 _ ?_ rfl | with_reducible refine sm48 _ ?_ rfl | with_reducible refine sm40 ?_ rfl)); exact S_le (by assumption) (by omega)) (by omega) (by omega)) (pe 0 (pe (length (map d_si ((m106_0 a0 16).f2))) (pe 0 (pe (length (map d_R ((m106_0 a0 16).f3))) (pe 0 (pe (length (map d_si ((m106_0 a0 16).f4))) (pe 0 (pe (length (map d_y ((m106_1 a0 16).f0))) (.r 23 [false] [] (e48 (l0_0:=(l0_0+1)) (a0:=(K_LyEi.mk a0.f0 ((o106_0 a0 16).f1))) (a1:=10) (by (repeat (first | with_reducible refine sm106 (by decide) (by decide) ?_ rfl | with_reducible refine sm41 _ ?_ rfl | with_reducible refine sm48 _ ?_ rfl | with_reducible refine sm40 ?_ rfl)); exact S_le (by assumption) (by omega))) r))))))))))
  by_cases h0:((m48 (K_LyEi.mk a0.f0 ((o106_0 a0 16).f1)) 10)==0)=true
  · try simp only[if_pos h0]
    have f11:3≤3:=(by omega)
    have f12:fullR (take 3 (drop 0 [[(.val (.int .i64 (-1)))],[(.val (.int .i64 1))],[(.val (.int .i64 1201))]]))=true:=(by decide)
    have f13:toBR (take 3 (drop 0 [[(.val (.int .i64 (-1)))],[(.val (.int .i64 1))],[(.val (.int .i64 1201))]]))=[[(.val (.int .i64 (-1)))],[(.val (.int .i64 1))],[(.val (.int .i64 1201))]]:=(by trivial)
    exact cq [false] (by kernel_rfl) (P0 (.f h0 (.f f11 (.f f12 (.f f13 (T 28 (.r 34 [false] [[[(.val (.int .i64 (-1)))],[(.val (.int .i64 1))],[(.val (.int .i64 1201))]]] (e41 (l0_0:=(l0_0+1)) (l1_0:=0) (a0:=(K_LyEi.mk a0.f0 ((o48_0 (K_LyEi.mk a0.f0 ((o106_0 a0 16).f1)) 10).f1))) (a1:=[(-1),1,1201]) (by (repeat (first | with_reducible refine sm106 (by decide) (by decide) ?_ rfl | with_reducible refine sm41 _ ?_ rfl | with_reducible refine sm48 _ ?_ rfl | with_reducible refine sm40 ?_ rfl)); exact S_le (by assumption) (by omega)) (by simp; done) (by simp; done)) (pe 0 (pe (length (map d_y ((m106_1 a0 16).f0))) (.f (pureR_y ((m106_1 a0 16).f0)) .nil))))))))))
  try simp only[if_neg h0]
  have P1 {hs q} (r:PS F X hs q):=(P0 (N h0 (U 28 r)))
  by_cases h1:((m48 (K_LyEi.mk a0.f0 ((o106_0 a0 16).f1)) 10)==1)=true
  · try simp only[if_pos h1]
    have f14:0+(length (map d_y ((m106_1 a0 16).f0)))≤(length (map d_y ((m106_1 a0 16).f0))):=(by omega)
    have f15:0+(length (map d_y (m107 (K_LyEi.mk a0.f0 ((o48_0 (K_LyEi.mk a0.f0 ((o48_0 (K_LyEi.mk a0.f0 ((o106_0 a0 16).f1)) 10).f1)) 5).f1)) (m48 (K_LyEi.mk a0.f0 ((o48_0 (K_LyEi.mk a0.f0 ((o106_0 a0 16).f1)) 10).f1)) 5))))≤(length (map d_y (m107 (K_LyEi.mk a0.f0 ((o48_0 (K_LyEi.mk a0.f0 ((o48_0 (K_LyEi.mk a0.f0 ((o106_0 a0 16).f1)) 10).f1)) 5).f1)) (m48 (K_LyEi.mk a0.f0 ((o48_0 (K_LyEi.mk a0.f0 ((o106_0 a0 16).f1)) 10).f1)) 5)))):=(by omega)
    have f16:((take (length (map d_y (m107 (K_LyEi.mk a0.f0 ((o48_0 (K_LyEi.mk a0.f0 ((o48_0 (K_LyEi.mk a0.f0 ((o106_0 a0 16).f1)) 10).f1)) 5).f1)) (m48 (K_LyEi.mk a0.f0 ((o48_0 (K_LyEi.mk a0.f0 ((o106_0 a0 16).f1)) 10).f1)) 5)))) (drop 0 (map d_y (m107 (K_LyEi.mk a0.f0 ((o48_0 (K_LyEi.mk a0.f0 ((o48_0 (K_LyEi.mk a0.f0 ((o106_0 a0 16).f1)) 10).f1)) 5).f1)) (m48 (K_LyEi.mk a0.f0 ((o48_0 (K_LyEi.mk a0.f0 ((o106_0 a0 16).f1)) 10).f1)) 5))))).all fun x=>x.all copyable)=true:=(ct_y _ _ _)
    have f17:(length ((take (length (map d_y ((m106_1 a0 16).f0))) (drop 0 (map d_y ((m106_1 a0 16).f0))))++(take (length (map d_y (m107 (K_LyEi.mk a0.f0 ((o48_0 (K_LyEi.mk a0.f0 ((o48_0 (K_LyEi.mk a0.f0 ((o106_0 a0 16).f1)) 10).f1)) 5).f1)) (m48 (K_LyEi.mk a0.f0 ((o48_0 (K_LyEi.mk a0.f0 ((o106_0 a0 16).f1)) 10).f1)) 5)))) (drop 0 (map d_y (m107 (K_LyEi.mk a0.f0 ((o48_0 (K_LyEi.mk a0.f0 ((o48_0 (K_LyEi.mk a0.f0 ((o106_0 a0 16).f1)) 10).f1)) 5).f1)) (m48 (K_LyEi.mk a0.f0 ((o48_0 (K_LyEi.mk a0.f0 ((o106_0 a0 16).f1)) 10).f1)) 5)))))))*1≤70368744177664:=(by have q:=dk a0 hy0; simp only[length_map,length_append,length_take,length_drop,List.nil_append]; omega)
    have f18:∀r∈((take (length (map d_y (m107 (K_LyEi.mk a0.f0 ((o48_0 (K_LyEi.mk a0.f0 ((o48_0 (K_LyEi.mk a0.f0 ((o106_0 a0 16).f1)) 10).f1)) 5).f1)) (m48 (K_LyEi.mk a0.f0 ((o48_0 (K_LyEi.mk a0.f0 ((o106_0 a0 16).f1)) 10).f1)) 5)))) (drop 0 (map d_y (m107 (K_LyEi.mk a0.f0 ((o48_0 (K_LyEi.mk a0.f0 ((o48_0 (K_LyEi.mk a0.f0 ((o106_0 a0 16).f1)) 10).f1)) 5).f1)) (m48 (K_LyEi.mk a0.f0 ((o48_0 (K_LyEi.mk a0.f0 ((o106_0 a0 16).f1)) 10).f1)) 5))))):List (List D)),r.length=1:=(by simp only[List.drop_zero,tbr,tsi,ly_y,ly0_y,← List.map_append,List.take_length,List.cons_append,List.nil_append,append_assoc]; exact lenD_y _)
    have f21:([[(.own 1 ((take (length (map d_y ((m106_1 a0 16).f0))) (drop 0 (map d_y ((m106_1 a0 16).f0))))++(take (length (map d_y (m107 (K_LyEi.mk a0.f0 ((o48_0 (K_LyEi.mk a0.f0 ((o48_0 (K_LyEi.mk a0.f0 ((o106_0 a0 16).f1)) 10).f1)) 5).f1)) (m48 (K_LyEi.mk a0.f0 ((o48_0 (K_LyEi.mk a0.f0 ((o106_0 a0 16).f1)) 10).f1)) 5)))) (drop 0 (map d_y (m107 (K_LyEi.mk a0.f0 ((o48_0 (K_LyEi.mk a0.f0 ((o48_0 (K_LyEi.mk a0.f0 ((o106_0 a0 16).f1)) 10).f1)) 5).f1)) (m48 (K_LyEi.mk a0.f0 ((o48_0 (K_LyEi.mk a0.f0 ((o106_0 a0 16).f1)) 10).f1)) 5))))))),(.val (.int .i64 ((m106_1 a0 16).f1)))]]:List (List D))=[[(.own 1 (map d_y (((m106_1 a0 16).f0)++(m107 (K_LyEi.mk a0.f0 ((o48_0 (K_LyEi.mk a0.f0 ((o48_0 (K_LyEi.mk a0.f0 ((o106_0 a0 16).f1)) 10).f1)) 5).f1)) (m48 (K_LyEi.mk a0.f0 ((o48_0 (K_LyEi.mk a0.f0 ((o106_0 a0 16).f1)) 10).f1)) 5))))),(.val (.int .i64 ((m106_1 a0 16).f1)))]]:=(by simp[byteRows_eq,ints_y,take_of_length_le,d_y,d_LyE,d_b,d_isii,d_iiLisiiE,d_LyEi,d_iLyEi,d_iLyE,d_i,d_s,d_LiE,d_si,d_R,d_C,d_B,d_LsiE,d_LLyEE,d_LisiiE,d_Q,fromBR_y,fromBR_b,fromBR_isii,fromBR_i,fromBR_s,fromBR_si,four_len]; done)
    exact cq [false] (by kernel_rfl) (P1 (.f h1 (T 33 (.r 43 [false] [] (e48 (l0_0:=(l0_0+1)) (a0:=(K_LyEi.mk a0.f0 ((o48_0 (K_LyEi.mk a0.f0 ((o106_0 a0 16).f1)) 10).f1))) (a1:=5) (by (repeat (first | with_reducible refine sm106 (by decide) (by decide) ?_ rfl | with_reducible refine sm41 _ ?_ rfl | with_reducible refine sm48 _ ?_ rfl | with_reducible refine sm40 ?_ rfl)); exact S_le (by assumption) (by omega))) (.r 45 [false] [] (e107 (l0_0:=(l0_0+1)) (a0:=(K_LyEi.mk a0.f0 ((o48_0 (K_LyEi.mk a0.f0 ((o48_0 (K_LyEi.mk a0.f0 ((o106_0 a0 16).f1)) 10).f1)) 5).f1))) (a1:=(m48 (K_LyEi.mk a0.f0 ((o48_0 (K_LyEi.mk a0.f0 ((o106_0 a0 16).f1)) 10).f1)) 5)) (by (repeat (first | with_reducible refine sm106 (by decide) (by decide) ?_ rfl | with_reducible refine sm41 _ ?_ rfl | with_reducible refine sm48 _ ?_ rfl | with_reducible refine sm40 ?_ rfl)); exact S_le (by assumption) (by omega)) (by have q:=dk a0 hy0; exact q.2.2.1.1) (by have q:=dk a0 hy0; omega)) (.f f14 (.f f15 (.f f16 (.f f17 (.f f18 (pe 0 (pe (length ((take (length (map d_y ((m106_1 a0 16).f0))) (drop 0 (map d_y ((m106_1 a0 16).f0))))++(take (length (map d_y (m107 (K_LyEi.mk a0.f0 ((o48_0 (K_LyEi.mk a0.f0 ((o48_0 (K_LyEi.mk a0.f0 ((o106_0 a0 16).f1)) 10).f1)) 5).f1)) (m48 (K_LyEi.mk a0.f0 ((o48_0 (K_LyEi.mk a0.f0 ((o106_0 a0 16).f1)) 10).f1)) 5)))) (drop 0 (map d_y (m107 (K_LyEi.mk a0.f0 ((o48_0 (K_LyEi.mk a0.f0 ((o48_0 (K_LyEi.mk a0.f0 ((o106_0 a0 16).f1)) 10).f1)) 5).f1)) (m48 (K_LyEi.mk a0.f0 ((o48_0 (K_LyEi.mk a0.f0 ((o106_0 a0 16).f1)) 10).f1)) 5))))))) (.f f21 (pe 0 (pe (length (map d_y (((m106_1 a0 16).f0)++(m107 (K_LyEi.mk a0.f0 ((o48_0 (K_LyEi.mk a0.f0 ((o48_0 (K_LyEi.mk a0.f0 ((o106_0 a0 16).f1)) 10).f1)) 5).f1)) (m48 (K_LyEi.mk a0.f0 ((o48_0 (K_LyEi.mk a0.f0 ((o106_0 a0 16).f1)) 10).f1)) 5))))) (.f (pureR_y (((m106_1 a0 16).f0)++(m107 (K_LyEi.mk a0.f0 ((o48_0 (K_LyEi.mk a0.f0 ((o48_0 (K_LyEi.mk a0.f0 ((o106_0 a0 16).f1)) 10).f1)) 5).f1)) (m48 (K_LyEi.mk a0.f0 ((o48_0 (K_LyEi.mk a0.f0 ((o106_0 a0 16).f1)) 10).f1)) 5)))) (T 47 (.h 52 (.norm (4,0,0) [[(.own 1 (map d_y (((m106_1 a0 16).f0)++(m107 (K_LyEi.mk a0.f0 ((o48_0 (K_LyEi.mk a0.f0 ((o48_0 (K_LyEi.mk a0.f0 ((o106_0 a0 16).f1)) 10).f1)) 5).f1)) (m48 (K_LyEi.mk a0.f0 ((o48_0 (K_LyEi.mk a0.f0 ((o106_0 a0 16).f1)) 10).f1)) 5))))),(.val (.int .i64 ((m106_1 a0 16).f1)))]]) .nil))))))))))))))))))
  try simp only[if_neg h1]
  have P2 {hs q} (r:PS F X hs q):=(P1 (N h1 (U 33 r)))
  by_cases h2:((m48 (K_LyEi.mk a0.f0 ((o106_0 a0 16).f1)) 10)==2)=true
  · try simp only[if_pos h2]
    have f13:0≤(1201:Int)∧(1201:Int)≤(1201:Int)∧(1201:Int)≤140737488355328∧(1201:Int)*1≤140737488355328:=(by omega)
    have f15:1201=(length (List.replicate 1201 ([(.val (.int .u8 0))]:List D))):=(by simp; done)
    have f16:([[(.own 1 (List.replicate 1201 ([(.val (.int .u8 0))]:List D))),(.val (.int .i64 ((m106_1 a0 16).f1)))]]:List (List D))=[[(.own 1 (map d_y (List.replicate 1201 0))),(.val (.int .i64 ((m106_1 a0 16).f1)))]]:=(by rfl)
    exact cq [false] (by kernel_rfl) (P2 (.f h2 (.f f13 (pe 0 (.f f15 (.f f16 (pe 0 (pe (length (map d_y (List.replicate 1201 0))) (.f (pureR_y (List.replicate 1201 0)) (T 38 (.h 45 (.norm (4,0,0) [[(.own 1 (map d_y (List.replicate 1201 0))),(.val (.int .i64 ((m106_1 a0 16).f1)))]]) .nil)))))))))))
  try simp only[if_neg h2]
  by_cases h3:((m48 (K_LyEi.mk a0.f0 ((o106_0 a0 16).f1)) 10)==3)=true
  · try simp only[if_pos h3]
    by_cases h4:(decide (((length (map d_y ((m106_1 a0 16).f0))):Int) > 0))=true
    · try simp only[if_pos h4]
      have f16:0+(length (map d_y ((m106_1 a0 16).f0)))≤(length (map d_y ((m106_1 a0 16).f0))):=(by omega)
      have f17:0≤(m48 (K_LyEi.mk a0.f0 ((o48_0 (K_LyEi.mk a0.f0 ((o106_0 a0 16).f1)) 10).f1)) ((length (map d_y ((m106_1 a0 16).f0))):Int))∧(m48 (K_LyEi.mk a0.f0 ((o48_0 (K_LyEi.mk a0.f0 ((o106_0 a0 16).f1)) 10).f1)) ((length (map d_y ((m106_1 a0 16).f0))):Int)) <((length (map d_y ((m106_1 a0 16).f0))):Int):=(by have q:=dk a0 hy0; simp only[decide_eq_true_eq,length_map] at*; have q5:=q.2.2.2.2.1 (by omega); omega)
      have f22:([[(.own 1 (set (map d_y ((m106_1 a0 16).f0)) (0+(toNat (m48 (K_LyEi.mk a0.f0 ((o48_0 (K_LyEi.mk a0.f0 ((o106_0 a0 16).f1)) 10).f1)) ((length (map d_y ((m106_1 a0 16).f0))):Int)))) [(.val (.int .u8 (bitsV .xor .u8 (getD ((m106_1 a0 16).f0) (toNat (m48 (K_LyEi.mk a0.f0 ((o48_0 (K_LyEi.mk a0.f0 ((o106_0 a0 16).f1)) 10).f1)) ((length (map d_y ((m106_1 a0 16).f0))):Int))) 0) 1)))])),(.val (.int .i64 ((m106_1 a0 16).f1)))]]:List (List D))=[[(.own 1 (map d_y (set ((m106_1 a0 16).f0) (toNat (m48 (K_LyEi.mk a0.f0 ((o48_0 (K_LyEi.mk a0.f0 ((o106_0 a0 16).f1)) 10).f1)) ((length (map d_y ((m106_1 a0 16).f0))):Int))) (bitsV .xor .u8 (getD ((m106_1 a0 16).f0) (toNat (m48 (K_LyEi.mk a0.f0 ((o48_0 (K_LyEi.mk a0.f0 ((o106_0 a0 16).f1)) 10).f1)) ((length (map d_y ((m106_1 a0 16).f0))):Int))) 0) 1)))),(.val (.int .i64 ((m106_1 a0 16).f1)))]]:=(by simp[byteRows_eq,ints_y,take_of_length_le,d_y,d_LyE,d_b,d_isii,d_iiLisiiE,d_LyEi,d_iLyEi,d_iLyE,d_i,d_s,d_LiE,d_si,d_R,d_C,d_B,d_LsiE,d_LLyEE,d_LisiiE,d_Q,fromBR_y,fromBR_b,fromBR_isii,fromBR_i,fromBR_s,fromBR_si,four_len]; done)
      exact cq [false] (by kernel_rfl) (P2 (N h2 (.f h3 (.f h4 (U 38 (T 43 (T 52 (.r 66 [false] [] (e48 (l0_0:=(l0_0+1)) (a0:=(K_LyEi.mk a0.f0 ((o48_0 (K_LyEi.mk a0.f0 ((o106_0 a0 16).f1)) 10).f1))) (a1:=((length (map d_y ((m106_1 a0 16).f0))):Int)) (by (repeat (first | with_reducible refine sm106 (by decide) (by decide) ?_ rfl | with_reducible refine sm41 _ ?_ rfl | with_reducible refine sm48 _ ?_ rfl | with_reducible refine sm40 ?_ rfl)); exact S_le (by assumption) (by omega))) (.f f16 (.f f17 (.f (mz_ d_y (getD_at ((m106_1 a0 16).f0) (toNat (m48 (K_LyEi.mk a0.f0 ((o48_0 (K_LyEi.mk a0.f0 ((o106_0 a0 16).f1)) 10).f1)) ((length (map d_y ((m106_1 a0 16).f0))):Int))) 0 (by have q:=dk a0 hy0; simp only[decide_eq_true_eq,length_map] at*; have q5:=q.2.2.2.2.1 (by omega); omega))) (.f f16 (.f f17 (.f (mz_ d_y (getD_at ((m106_1 a0 16).f0) (toNat (m48 (K_LyEi.mk a0.f0 ((o48_0 (K_LyEi.mk a0.f0 ((o106_0 a0 16).f1)) 10).f1)) ((length (map d_y ((m106_1 a0 16).f0))):Int))) 0 (by have q:=dk a0 hy0; simp only[decide_eq_true_eq,length_map] at*; have q5:=q.2.2.2.2.1 (by omega); omega))) (.f f22 (pe 0 (pe (length (map d_y (set ((m106_1 a0 16).f0) (toNat (m48 (K_LyEi.mk a0.f0 ((o48_0 (K_LyEi.mk a0.f0 ((o106_0 a0 16).f1)) 10).f1)) ((length (map d_y ((m106_1 a0 16).f0))):Int))) (bitsV .xor .u8 (getD ((m106_1 a0 16).f0) (toNat (m48 (K_LyEi.mk a0.f0 ((o48_0 (K_LyEi.mk a0.f0 ((o106_0 a0 16).f1)) 10).f1)) ((length (map d_y ((m106_1 a0 16).f0))):Int))) 0) 1)))) (.f (pureR_y (set ((m106_1 a0 16).f0) (toNat (m48 (K_LyEi.mk a0.f0 ((o48_0 (K_LyEi.mk a0.f0 ((o106_0 a0 16).f1)) 10).f1)) ((length (map d_y ((m106_1 a0 16).f0))):Int))) (bitsV .xor .u8 (getD ((m106_1 a0 16).f0) (toNat (m48 (K_LyEi.mk a0.f0 ((o48_0 (K_LyEi.mk a0.f0 ((o106_0 a0 16).f1)) 10).f1)) ((length (map d_y ((m106_1 a0 16).f0))):Int))) 0) 1))) (.h 70 (.rowD [(.val (.int .u8 (getD ((m106_1 a0 16).f0) (toNat (m48 (K_LyEi.mk a0.f0 ((o48_0 (K_LyEi.mk a0.f0 ((o106_0 a0 16).f1)) 10).f1)) ((length (map d_y ((m106_1 a0 16).f0))):Int))) 0)))]) (.h 76 (.rowD [(.val (.int .u8 (getD ((m106_1 a0 16).f0) (toNat (m48 (K_LyEi.mk a0.f0 ((o48_0 (K_LyEi.mk a0.f0 ((o106_0 a0 16).f1)) 10).f1)) ((length (map d_y ((m106_1 a0 16).f0))):Int))) 0)))]) (.h 77 (.norm (4,0,0) [[(.own 1 (map d_y (set ((m106_1 a0 16).f0) (toNat (m48 (K_LyEi.mk a0.f0 ((o48_0 (K_LyEi.mk a0.f0 ((o106_0 a0 16).f1)) 10).f1)) ((length (map d_y ((m106_1 a0 16).f0))):Int))) (bitsV .xor .u8 (getD ((m106_1 a0 16).f0) (toNat (m48 (K_LyEi.mk a0.f0 ((o48_0 (K_LyEi.mk a0.f0 ((o106_0 a0 16).f1)) 10).f1)) ((length (map d_y ((m106_1 a0 16).f0))):Int))) 0) 1)))),(.val (.int .i64 ((m106_1 a0 16).f1)))]]) .nil)))))))))))))))))))))
    try simp only[if_neg h4]
    exact cq [false] (by kernel_rfl) (P2 (N h2 (.f h3 (N h4 (pe 0 (pe (length (map d_y ((m106_1 a0 16).f0))) (.f (pureR_y ((m106_1 a0 16).f0)) (U 38 (T 43 (U 52 .nil))))))))))
  try simp only[if_neg h3]
  exact cq [false] (by kernel_rfl) (P2 (N h2 (N h3 (pe 0 (pe (length (map d_y ((m106_1 a0 16).f0))) (.f (pureR_y ((m106_1 a0 16).f0)) (U 38 (U 43 .nil))))))))
theorem sm62 {a:K_LyEi} {n:Nat} {f:List Int} (h:S a (n+130)) (e:a.f0=f):S (K_LyEi.mk f ((o62_0 a).f1)) n:=by
  have e2:(o62_0 a).f0=a.f0:=by unfold o62_0;(repeat' split)<;>rfl
  have h3:S (o62_0 a) n:=by
    have q:=dk a (S_le h yb)
    unfold o62_0
    (repeat' split)<;>first
      |((repeat (first | with_reducible refine sm106 yam yam ?_ rfl | with_reducible refine sm41 _ ?_ rfl | with_reducible refine sm48 _ ?_ rfl | with_reducible refine sm40 ?_ rfl)); exact S_le h yb)
      |(refine sm107 yb ?_ rfl;(repeat (first | with_reducible refine sm106 yam yam ?_ rfl | with_reducible refine sm41 _ ?_ rfl | with_reducible refine sm48 _ ?_ rfl | with_reducible refine sm40 ?_ rfl)); exact S_le h yb)
  rw[← e,← e2]; exact h3
theorem bdG {a:K_LyEi} (h:S a 130):(m62 a).f0.length≤1201∧∀z∈(m62 a).f0,(0:Int)≤z∧z≤255:=by
  obtain⟨q1,q2,q3,q4,q5,q6⟩:=dk a h
  unfold m62
  split
  · exact⟨by first | omega |(simp only[]; omega),q2⟩
  split
  · have z:=so_ok (a:=(K_LyEi.mk a.f0 ((o48_0 (K_LyEi.mk a.f0 ((o48_0 (K_LyEi.mk a.f0 ((o106_0 a 16).f1)) 10).f1)) 5).f1))) (k:=m48 (K_LyEi.mk a.f0 ((o48_0 (K_LyEi.mk a.f0 ((o106_0 a 16).f1)) 10).f1)) 5) (m:=0) (S_le q4 (by omega))
    refine⟨by simp only[length_append,z.2.2]; omega,fun y hy=>?_⟩
    rcases List.mem_append.1 hy with hy | hy
    · exact q2 y hy
    exact z.2.1 y hy
  split
  · refine⟨by simp,fun y hy=>?_⟩
    rw[List.eq_of_mem_replicate hy]; decide
  split
  · split
    · refine⟨by simp only[length_set]; omega,fun y hy=>?_⟩
      rcases List.mem_or_eq_of_mem_set hy with hy | rfl
      · exact q2 y hy
      exact u8_range _
    exact⟨by first | omega |(simp only[]; omega),q2⟩
  exact⟨by first | omega |(simp only[]; omega),q2⟩
theorem e18 {l0_0:Nat} {a0:(List Int)} (hy0:∀z∈a0,(0:Int)≤z∧z≤255) (hy1:length a0≤140737488351232):Ev F X (.call 18 [(.one (.bor l0_0 (map b_y a0)))] [] [] [(.one (.own 1 (map d_y ((m62 (m38 a0)).f0))))]):=by
  exact cp ya (.r 5 [] [] (e38 (l0_0:=l0_0) (a0:=a0)) (.r 7 [false] [] (e62 (l0_0:=l0_0) (a0:=(m38 a0)) yg) (pe 0 (pe (length (map d_y ((m62 (m38 a0)).f0))) (.f (pureR_y ((m62 (m38 a0)).f0)) .nil)))))
def m45 (a0:Int) (a1:Int) (a2:Int):Bool:=
  if(decide (a0≥a1))=true then(decide (a0≤a2)) else
  false
theorem e45 {a0:Int} {a1:Int} {a2:Int}:Ev F X (.call 45 [(.one (.val (.int .i64 a0))),(.one (.val (.int .i64 a1))),(.one (.val (.int .i64 a2)))] [] [] [(.one (.val (.bool (m45 a0 a1 a2))))]):=by
  unfold m45
  by_cases h0:(decide (a0≥a1))=true
  · try simp only[if_pos h0]
    exact cp ya (.f h0 (.f h0 (.f h0 (.f h0 (T 10 (T 12 (T 14 (T 17 .nil))))))))
  try simp only[if_neg h0]
  exact cp ya (N h0 (N h0 (N h0 (N h0 (U 10 (U 12 (U 14 (U 17 .nil))))))))
theorem e46 {a0:Int}:Ev F X (.call 46 [(.one (.val (.int .i64 a0)))] [] [] [(.one (.val (.bool (m45 a0 0 1000000))))]):=by
  exact cp ya (.r 5 [] [] (e45 (a0:=a0) (a1:=0) (a2:=1000000)) .nil)
theorem e141 {a0 a1:ByteArray} (hy0:ByteArray.size a0≤9223372036854775807) (hy1:ByteArray.size a1 < 4294967281) (hy2:asciiB a1=true):Ev F X (.call 141 [(.one (.val (.string a0))),(.one (.val (.string a1)))] [] [] [(.one (.val (.string (trimB a0 a1))))]):=
  .ext (⟨rfl,rfl,(⟨a0,a1,hy0,hy1,hy2,rfl,rfl⟩)⟩) rfl
def m119 (a0:ByteArray):Bool:=
  if(decide ((ByteArray.size a0:Int)≤12))=true then((trimB a0 (⟨#[97,98,99,100,101,102,103,104,105,106,107,108,109,110,111,112,113,114,115,116,117,118,119,120,121,122,65,66,67,68,69,70,71,72,73,74,75,76,77,78,79,80,81,82,83,84,85,86,87,88,89,90,48,49,50,51,52,53,54,55,56,57]⟩:ByteArray)).toList==(⟨#[]⟩:ByteArray).toList) else
  false
theorem e119 {a0:ByteArray}:Ev F X (.call 119 [(.one (.val (.string a0)))] [] [] [(.one (.val (.bool (m119 a0))))]):=by
  unfold m119
  by_cases h0:(decide ((ByteArray.size a0:Int)≤12))=true
  · try simp only[if_pos h0]
    have f2:Ev F X (.call 141 [(.one (.val (.string a0))),(.one (.val (.string (⟨#[97,98,99,100,101,102,103,104,105,106,107,108,109,110,111,112,113,114,115,116,117,118,119,120,121,122,65,66,67,68,69,70,71,72,73,74,75,76,77,78,79,80,81,82,83,84,85,86,87,88,89,90,48,49,50,51,52,53,54,55,56,57]⟩:ByteArray))))] [] [] [(.one (.val (.string (trimB a0 (⟨#[97,98,99,100,101,102,103,104,105,106,107,108,109,110,111,112,113,114,115,116,117,118,119,120,121,122,65,66,67,68,69,70,71,72,73,74,75,76,77,78,79,80,81,82,83,84,85,86,87,88,89,90,48,49,50,51,52,53,54,55,56,57]⟩:ByteArray)))))]):=(e141 (a0:=a0) (a1:=(⟨#[97,98,99,100,101,102,103,104,105,106,107,108,109,110,111,112,113,114,115,116,117,118,119,120,121,122,65,66,67,68,69,70,71,72,73,74,75,76,77,78,79,80,81,82,83,84,85,86,87,88,89,90,48,49,50,51,52,53,54,55,56,57]⟩:ByteArray)) yr yam yam)
    exact cp ya (.f h0 (.f h0 (T 10 (T 12 (.r 13 [] [] f2 (.f h0 (.f h0 (T 14 (T 17 .nil)))))))))
  try simp only[if_neg h0]
  exact cp ya (N h0 (N h0 (N h0 (N h0 (U 10 (U 12 (U 14 (U 17 .nil))))))))
def m71 (a0:ByteArray):Bool:=
  if(!(a0.toList==(⟨#[]⟩:ByteArray).toList))=true then(m119 a0) else
  false
theorem e71 {a0:ByteArray}:Ev F X (.call 71 [(.one (.val (.string a0)))] [] [] [(.one (.val (.bool (m71 a0))))]):=by
  unfold m71
  by_cases h0:(!(a0.toList==(⟨#[]⟩:ByteArray).toList))=true
  · try simp only[if_pos h0]
    exact cp ya (.f h0 (.f h0 (T 8 (T 10 (.r 11 [] [] (e119 (a0:=a0)) (.f h0 (T 13 .nil)))))))
  try simp only[if_neg h0]
  exact cp ya (N h0 (N h0 (N h0 (U 8 (U 10 (U 13 .nil))))))
theorem arg_len71 {a:ByteArray} (h:m71 a=true):ByteArray.size a≤12:=by
  unfold m71 at h
  split at h
  · unfold m119 at h
    split at h
    · rename_i h2; simp only[decide_eq_true_eq] at h2; omega
    cases h
  cases h
theorem e72 {a0:Int}:Ev F X (.call 72 [(.one (.val (.int .i64 a0)))] [] [] [(.one (.val (.bool (m45 a0 0 2147483646))))]):=by
  exact cp ya (.r 5 [] [] (e45 (a0:=a0) (a1:=0) (a2:=2147483646)) .nil)
def m24 (a0:K_isii):Int:=
  if (a0.f0 == 1) = true then (if (!(m45 a0.f0 1 5)) = true then 1 else
    if(a0.f2 !=0)=true then 1 else
      if(!(m71 a0.f1))=true then 5 else
        if(!(m45 a0.f2 0 2147483646))=true then 3 else
          if(!(m45 a0.f3 0 1000000))=true then 3 else
            if(a0.f3==0)=true then 3 else
              if(decide (a0.f3 > 9999))=true then 3 else
                0) else
  if (a0.f0 == 5) = true then (if (!(m45 a0.f0 1 5)) = true then 1 else
      if (!(a0.f0 == 5)) = true then (if (!(a0.f1.toList == (⟨#[]⟩ : ByteArray).toList)) = true then 1 else
          if(a0.f2 !=0)=true then 1 else
            if(!(m71 a0.f1))=true then 5 else
              if(!(m45 a0.f2 0 2147483646))=true then 3 else
                if(!(m45 a0.f3 0 1000000))=true then 3 else
                  if(a0.f3==0)=true then 3 else
                    0) else
        if(a0.f2 !=0)=true then 1 else
          if(!(m71 a0.f1))=true then 5 else
            if(!(m45 a0.f2 0 2147483646))=true then 3 else
              if(!(m45 a0.f3 0 1000000))=true then 3 else
                if(a0.f3==0)=true then 3 else
                  0) else
    if(!(m45 a0.f0 1 5))=true then 1 else
      if (!(a0.f0 == 5)) = true then (if (!(a0.f1.toList == (⟨#[]⟩ : ByteArray).toList)) = true then 1 else
          if (!(a0.f0 == 2)) = true then (if (a0.f3 != 0) = true then 1 else
              if(!(m45 a0.f2 0 2147483646))=true then 3 else
                if(!(m45 a0.f3 0 1000000))=true then 3 else
                  0) else
            if(!(m45 a0.f2 0 2147483646))=true then 3 else
              if(!(m45 a0.f3 0 1000000))=true then 3 else
                0) else
        if (!(a0.f0 == 2)) = true then (if (a0.f3 != 0) = true then 1 else
            if(!(m45 a0.f2 0 2147483646))=true then 3 else
              if(!(m45 a0.f3 0 1000000))=true then 3 else
                0) else
          if(!(m45 a0.f2 0 2147483646))=true then 3 else
            if(!(m45 a0.f3 0 1000000))=true then 3 else
              0
theorem e24 {a0:K_isii}:Ev F X (.call 24 [(.agg [(.val (.int .i64 a0.f0)),(.val (.string a0.f1)),(.val (.int .i64 a0.f2)),(.val (.int .i64 a0.f3))])] [] [] [(.one (.val (.int .i64 (m24 a0))))]):=by
  unfold m24
  by_cases h0:(a0.f0==1)=true
  · try simp only[if_pos h0]
    have P1 {hs q} (r:PS F X hs q):=(PS.f h0 (.f h0 (.f h0 (.f h0 (T 12 (T 14 (T 16 (T 19 (.r 41 [] [] (e45 (a0:=a0.f0) (a1:=1) (a2:=5)) r)))))))))
    by_cases h1:(!(m45 a0.f0 1 5))=true
    · try simp only[if_pos h1]
      exact cp ya (P1 (.f h1 (.f h1 (.f h1 (.f h1 (.f h1 (T 46 (T 48 (T 50 (T 58 (T 61 .nil)))))))))))
    try simp only[if_neg h1]
    have P2 {hs q} (r:PS F X hs q):=(P1 (N h1 (N h1 (N h1 (N h1 (N h1 (U 46 (U 48 (U 50 (U 58 (U 61 r)))))))))))
    by_cases h2:(a0.f2 !=0)=true
    · try simp only[if_pos h2]
      exact cp ya (P2 (.f h2 (.f h2 (.f h2 (.f h2 (.f h2 (T 80 (T 82 (T 84 (T 92 (T 95 .nil)))))))))))
    try simp only[if_neg h2]
    have P3 {hs q} (r:PS F X hs q):=(P2 (N h2 (N h2 (N h2 (N h2 (N h2 (U 80 (U 82 (U 84 (U 92 (U 95 (.r 108 [] [] (e71 (a0:=a0.f1)) r))))))))))))
    by_cases h3:(!(m71 a0.f1))=true
    · try simp only[if_pos h3]
      exact cp ya (P3 (.f h3 (T 115 .nil)))
    try simp only[if_neg h3]
    have P4 {hs q} (r:PS F X hs q):=(P3 (N h3 (U 115 (.r 121 [] [] (e72 (a0:=a0.f2)) r))))
    by_cases h4:(!(m45 a0.f2 0 2147483646))=true
    · try simp only[if_pos h4]
      exact cp ya (P4 (.f h4 (.f h4 (.f h4 (.f h4 (.f h4 (T 126 (T 128 (T 130 (T 132 (T 135 .nil)))))))))))
    try simp only[if_neg h4]
    have P5 {hs q} (r:PS F X hs q):=(P4 (N h4 (N h4 (N h4 (U 126 (U 128 (U 130 (.r 131 [] [] (e46 (a0:=a0.f3)) (N h4 (N h4 (U 132 (U 135 r))))))))))))
    by_cases h5:(!(m45 a0.f3 0 1000000))=true
    · try simp only[if_pos h5]
      exact cp ya (P5 (.f h5 (.f h5 (.f h5 (.f h5 (T 138 (T 140 (T 148 (T 151 .nil)))))))))
    try simp only[if_neg h5]
    have P6 {hs q} (r:PS F X hs q):=(P5 (N h5 (N h5 (N h5 (N h5 (U 138 (U 140 (U 148 (U 151 r)))))))))
    by_cases h6:(a0.f3==0)=true
    · try simp only[if_pos h6]
      exact cp ya (P6 (.f h6 (.f h6 (.f h6 (.f h6 (.f h6 (.f h6 (T 154 (T 156 (T 158 (T 160 (T 168 (T 171 .nil)))))))))))))
    try simp only[if_neg h6]
    have P7 {hs q} (r:PS F X hs q):=(P6 (N h6 (N h6 (N h6 (N h6 (.f h0 (.f h0 (.f h0 (N h6 (.f h0 (N h6 (U 154 (U 156 (U 158 (U 160 (T 162 (T 164 (T 166 (U 168 (T 169 (U 171 r)))))))))))))))))))))
    by_cases h7:(decide (a0.f3 > 9999))=true
    · try simp only[if_pos h7]
      exact cp ya (P7 (.f h7 (T 174 .nil)))
    try simp only[if_neg h7]
    exact cp ya (P7 (N h7 (U 174 .nil)))
  try simp only[if_neg h0]
  have P1 {hs q} (r:PS F X hs q):=(PS.f (nt h0) (N h0 (N h0 (N h0 (U 12 (U 14 (U 16 (U 19 r))))))))
  by_cases h1:(a0.f0==5)=true
  · try simp only[if_pos h1]
    have P2 {hs q} (r:PS F X hs q):=(P1 (.f h1 (.f h1 (.f h1 (.f h1 (T 26 (T 28 (T 30 (T 33 (.r 41 [] [] (e45 (a0:=a0.f0) (a1:=1) (a2:=5)) r))))))))))
    by_cases h2:(!(m45 a0.f0 1 5))=true
    · try simp only[if_pos h2]
      exact cp ya (P2 (.f h2 (.f h2 (.f h2 (.f h2 (.f h2 (T 46 (T 48 (T 50 (T 58 (T 61 .nil)))))))))))
    try simp only[if_neg h2]
    have P3 {hs q} (r:PS F X hs q):=(P2 (N h2 (N h2 (N h2 (U 46 (U 48 (U 50 r)))))))
    by_cases h3:(!(a0.f0==5))=true
    · try simp only[if_pos h3]
      have P4 {hs q} (r:PS F X hs q):=(P3 (.f h3 (.f h3 (.f h3 (N h2 (.f h3 (N h2 (T 52 (T 54 (T 56 (U 58 (T 59 (U 61 r)))))))))))))
      by_cases h4:(!(a0.f1.toList==(⟨#[]⟩:ByteArray).toList))=true
      · try simp only[if_pos h4]
        exact cp ya (P4 (.f h4 (.f h4 (.f h4 (.f h4 (T 64 (T 66 (T 74 (T 77 .nil)))))))))
      try simp only[if_neg h4]
      have P5 {hs q} (r:PS F X hs q):=(P4 (N h4 (N h4 (.f h1 (.f h1 (.f h1 (N h4 (.f h1 (N h4 (U 64 (U 66 (T 68 (T 70 (T 72 (U 74 (T 75 (U 77 r)))))))))))))))))
      by_cases h5:(a0.f2 !=0)=true
      · try simp only[if_pos h5]
        exact cp ya (P5 (.f h5 (.f h5 (.f h5 (.f h5 (.f h5 (T 80 (T 82 (T 84 (T 92 (T 95 .nil)))))))))))
      try simp only[if_neg h5]
      have P6 {hs q} (r:PS F X hs q):=(P5 (N h5 (N h5 (N h5 (N h5 (N h5 (.f h1 (.f h1 (.f h1 (U 80 (U 82 (U 84 (U 92 (U 95 (T 103 (T 105 (T 107 (.r 108 [] [] (e71 (a0:=a0.f1)) (.f h1 (.f h1 (T 109 (T 112 r))))))))))))))))))))))
      by_cases h6:(!(m71 a0.f1))=true
      · try simp only[if_pos h6]
        exact cp ya (P6 (.f h6 (T 115 .nil)))
      try simp only[if_neg h6]
      have P7 {hs q} (r:PS F X hs q):=(P6 (N h6 (U 115 (.r 121 [] [] (e72 (a0:=a0.f2)) r))))
      by_cases h7:(!(m45 a0.f2 0 2147483646))=true
      · try simp only[if_pos h7]
        exact cp ya (P7 (.f h7 (.f h7 (.f h7 (.f h7 (.f h7 (T 126 (T 128 (T 130 (T 132 (T 135 .nil)))))))))))
      try simp only[if_neg h7]
      have P8 {hs q} (r:PS F X hs q):=(P7 (N h7 (N h7 (N h7 (U 126 (U 128 (U 130 (.r 131 [] [] (e46 (a0:=a0.f3)) (N h7 (N h7 (U 132 (U 135 r))))))))))))
      by_cases h8:(!(m45 a0.f3 0 1000000))=true
      · try simp only[if_pos h8]
        exact cp ya (P8 (.f h8 (.f h8 (.f h8 (.f h8 (T 138 (T 140 (T 148 (T 151 .nil)))))))))
      try simp only[if_neg h8]
      have P9 {hs q} (r:PS F X hs q):=(P8 (N h8 (N h8 (.f h1 (.f h1 (.f h1 (N h8 (.f h1 (N h8 (U 138 (U 140 (T 142 (T 144 (T 146 (U 148 (T 149 (U 151 r)))))))))))))))))
      by_cases h9:(a0.f3==0)=true
      · try simp only[if_pos h9]
        exact cp ya (P9 (.f h9 (.f h9 (.f h9 (.f h9 (.f h9 (.f h9 (T 154 (T 156 (T 158 (T 160 (T 168 (T 171 .nil)))))))))))))
      try simp only[if_neg h9]
      exact cp ya (P9 (N h9 (N h9 (N h9 (N h9 (N h0 (N h0 (N h0 (N h9 (N h0 (N h9 (U 154 (U 156 (U 158 (U 160 (U 162 (U 164 (U 166 (U 168 (U 169 (U 171 .nil)))))))))))))))))))))
    try simp only[if_neg h3]
    have P4 {hs q} (r:PS F X hs q):=(P3 (N h3 (N h3 (N h3 (N h2 (N h3 (N h2 (.f h1 (.f h1 (.f h1 (.f h1 (U 52 (U 54 (U 56 (U 58 (U 59 (U 61 (T 68 (T 70 (T 72 (T 75 r)))))))))))))))))))))
    by_cases h4:(a0.f2 !=0)=true
    · try simp only[if_pos h4]
      exact cp ya (P4 (.f h4 (.f h4 (.f h4 (.f h4 (.f h4 (T 80 (T 82 (T 84 (T 92 (T 95 .nil)))))))))))
    try simp only[if_neg h4]
    have P5 {hs q} (r:PS F X hs q):=(P4 (N h4 (N h4 (N h4 (N h4 (N h4 (.f h1 (.f h1 (.f h1 (U 80 (U 82 (U 84 (U 92 (U 95 (T 103 (T 105 (T 107 (.r 108 [] [] (e71 (a0:=a0.f1)) (.f h1 (.f h1 (T 109 (T 112 r))))))))))))))))))))))
    by_cases h5:(!(m71 a0.f1))=true
    · try simp only[if_pos h5]
      exact cp ya (P5 (.f h5 (T 115 .nil)))
    try simp only[if_neg h5]
    have P6 {hs q} (r:PS F X hs q):=(P5 (N h5 (U 115 (.r 121 [] [] (e72 (a0:=a0.f2)) r))))
    by_cases h6:(!(m45 a0.f2 0 2147483646))=true
    · try simp only[if_pos h6]
      exact cp ya (P6 (.f h6 (.f h6 (.f h6 (.f h6 (.f h6 (T 126 (T 128 (T 130 (T 132 (T 135 .nil)))))))))))
    try simp only[if_neg h6]
    have P7 {hs q} (r:PS F X hs q):=(P6 (N h6 (N h6 (N h6 (U 126 (U 128 (U 130 (.r 131 [] [] (e46 (a0:=a0.f3)) (N h6 (N h6 (U 132 (U 135 r))))))))))))
    by_cases h7:(!(m45 a0.f3 0 1000000))=true
    · try simp only[if_pos h7]
      exact cp ya (P7 (.f h7 (.f h7 (.f h7 (.f h7 (T 138 (T 140 (T 148 (T 151 .nil)))))))))
    try simp only[if_neg h7]
    have P8 {hs q} (r:PS F X hs q):=(P7 (N h7 (N h7 (.f h1 (.f h1 (.f h1 (N h7 (.f h1 (N h7 (U 138 (U 140 (T 142 (T 144 (T 146 (U 148 (T 149 (U 151 r)))))))))))))))))
    by_cases h8:(a0.f3==0)=true
    · try simp only[if_pos h8]
      exact cp ya (P8 (.f h8 (.f h8 (.f h8 (.f h8 (.f h8 (.f h8 (T 154 (T 156 (T 158 (T 160 (T 168 (T 171 .nil)))))))))))))
    try simp only[if_neg h8]
    exact cp ya (P8 (N h8 (N h8 (N h8 (N h8 (N h0 (N h0 (N h0 (N h8 (N h0 (N h8 (U 154 (U 156 (U 158 (U 160 (U 162 (U 164 (U 166 (U 168 (U 169 (U 171 .nil)))))))))))))))))))))
  try simp only[if_neg h1]
  have P2 {hs q} (r:PS F X hs q):=(P1 (N h1 (N h1 (N h1 (N h1 (U 26 (U 28 (U 30 (U 33 (.r 41 [] [] (e45 (a0:=a0.f0) (a1:=1) (a2:=5)) r))))))))))
  by_cases h2:(!(m45 a0.f0 1 5))=true
  · try simp only[if_pos h2]
    exact cp ya (P2 (.f h2 (.f h2 (.f h2 (.f h2 (.f h2 (T 46 (T 48 (T 50 (T 58 (T 61 .nil)))))))))))
  try simp only[if_neg h2]
  have P3 {hs q} (r:PS F X hs q):=(P2 (N h2 (N h2 (N h2 (U 46 (U 48 (U 50 r)))))))
  by_cases h3:(!(a0.f0==5))=true
  · try simp only[if_pos h3]
    have P4 {hs q} (r:PS F X hs q):=(P3 (.f h3 (.f h3 (.f h3 (N h2 (.f h3 (N h2 (T 52 (T 54 (T 56 (U 58 (T 59 (U 61 r)))))))))))))
    by_cases h4:(!(a0.f1.toList==(⟨#[]⟩:ByteArray).toList))=true
    · try simp only[if_pos h4]
      exact cp ya (P4 (.f h4 (.f h4 (.f h4 (.f h4 (T 64 (T 66 (T 74 (T 77 .nil)))))))))
    try simp only[if_neg h4]
    have P5 {hs q} (r:PS F X hs q):=(P4 (N h4 (N h4 (N h1 (N h1 (N h1 (N h4 (N h1 (N h4 (U 64 (U 66 (U 68 (U 70 (U 72 (U 74 (U 75 (U 77 r)))))))))))))))))
    by_cases h5:(!(a0.f0==2))=true
    · try simp only[if_pos h5]
      have P6 {hs q} (r:PS F X hs q):=(P5 (.f h5 (.f h5 (.f h5 (.f h5 (T 86 (T 88 (T 90 (T 93 r)))))))))
      by_cases h6:(a0.f3 !=0)=true
      · try simp only[if_pos h6]
        exact cp ya (P6 (.f h6 (T 98 .nil)))
      try simp only[if_neg h6]
      have P7 {hs q} (r:PS F X hs q):=(P6 (N h6 (N h1 (N h1 (N h1 (N h1 (N h1 (U 98 (U 103 (U 105 (U 107 (U 109 (U 112 (.r 121 [] [] (e72 (a0:=a0.f2)) r))))))))))))))
      by_cases h7:(!(m45 a0.f2 0 2147483646))=true
      · try simp only[if_pos h7]
        exact cp ya (P7 (.f h7 (.f h7 (.f h7 (.f h7 (.f h7 (T 126 (T 128 (T 130 (T 132 (T 135 .nil)))))))))))
      try simp only[if_neg h7]
      have P8 {hs q} (r:PS F X hs q):=(P7 (N h7 (N h7 (N h7 (U 126 (U 128 (U 130 (.r 131 [] [] (e46 (a0:=a0.f3)) (N h7 (N h7 (U 132 (U 135 r))))))))))))
      by_cases h8:(!(m45 a0.f3 0 1000000))=true
      · try simp only[if_pos h8]
        exact cp ya (P8 (.f h8 (.f h8 (.f h8 (.f h8 (T 138 (T 140 (T 148 (T 151 .nil)))))))))
      try simp only[if_neg h8]
      exact cp ya (P8 (N h8 (N h8 (N h1 (N h1 (N h1 (N h8 (N h1 (N h8 (N h0 (N h0 (N h0 (N h0 (U 138 (U 140 (U 142 (U 144 (U 146 (U 148 (U 149 (U 151 (U 162 (U 164 (U 166 (U 169 .nil)))))))))))))))))))))))))
    try simp only[if_neg h5]
    have P6 {hs q} (r:PS F X hs q):=(P5 (N h5 (N h5 (N h5 (N h5 (N h1 (N h1 (N h1 (N h1 (N h1 (U 86 (U 88 (U 90 (U 93 (U 103 (U 105 (U 107 (U 109 (U 112 (.r 121 [] [] (e72 (a0:=a0.f2)) r))))))))))))))))))))
    by_cases h6:(!(m45 a0.f2 0 2147483646))=true
    · try simp only[if_pos h6]
      exact cp ya (P6 (.f h6 (.f h6 (.f h6 (.f h6 (.f h6 (T 126 (T 128 (T 130 (T 132 (T 135 .nil)))))))))))
    try simp only[if_neg h6]
    have P7 {hs q} (r:PS F X hs q):=(P6 (N h6 (N h6 (N h6 (U 126 (U 128 (U 130 (.r 131 [] [] (e46 (a0:=a0.f3)) (N h6 (N h6 (U 132 (U 135 r))))))))))))
    by_cases h7:(!(m45 a0.f3 0 1000000))=true
    · try simp only[if_pos h7]
      exact cp ya (P7 (.f h7 (.f h7 (.f h7 (.f h7 (T 138 (T 140 (T 148 (T 151 .nil)))))))))
    try simp only[if_neg h7]
    exact cp ya (P7 (N h7 (N h7 (N h1 (N h1 (N h1 (N h7 (N h1 (N h7 (N h0 (N h0 (N h0 (N h0 (U 138 (U 140 (U 142 (U 144 (U 146 (U 148 (U 149 (U 151 (U 162 (U 164 (U 166 (U 169 .nil)))))))))))))))))))))))))
  try simp only[if_neg h3]
  have P4 {hs q} (r:PS F X hs q):=(P3 (N h3 (N h3 (N h3 (N h2 (N h3 (N h2 (N h1 (N h1 (N h1 (N h1 (U 52 (U 54 (U 56 (U 58 (U 59 (U 61 (U 68 (U 70 (U 72 (U 75 r)))))))))))))))))))))
  by_cases h4:(!(a0.f0==2))=true
  · try simp only[if_pos h4]
    have P5 {hs q} (r:PS F X hs q):=(P4 (.f h4 (.f h4 (.f h4 (.f h4 (T 86 (T 88 (T 90 (T 93 r)))))))))
    by_cases h5:(a0.f3 !=0)=true
    · try simp only[if_pos h5]
      exact cp ya (P5 (.f h5 (T 98 .nil)))
    try simp only[if_neg h5]
    have P6 {hs q} (r:PS F X hs q):=(P5 (N h5 (N h1 (N h1 (N h1 (N h1 (N h1 (U 98 (U 103 (U 105 (U 107 (U 109 (U 112 (.r 121 [] [] (e72 (a0:=a0.f2)) r))))))))))))))
    by_cases h6:(!(m45 a0.f2 0 2147483646))=true
    · try simp only[if_pos h6]
      exact cp ya (P6 (.f h6 (.f h6 (.f h6 (.f h6 (.f h6 (T 126 (T 128 (T 130 (T 132 (T 135 .nil)))))))))))
    try simp only[if_neg h6]
    have P7 {hs q} (r:PS F X hs q):=(P6 (N h6 (N h6 (N h6 (U 126 (U 128 (U 130 (.r 131 [] [] (e46 (a0:=a0.f3)) (N h6 (N h6 (U 132 (U 135 r))))))))))))
    by_cases h7:(!(m45 a0.f3 0 1000000))=true
    · try simp only[if_pos h7]
      exact cp ya (P7 (.f h7 (.f h7 (.f h7 (.f h7 (T 138 (T 140 (T 148 (T 151 .nil)))))))))
    try simp only[if_neg h7]
    exact cp ya (P7 (N h7 (N h7 (N h1 (N h1 (N h1 (N h7 (N h1 (N h7 (N h0 (N h0 (N h0 (N h0 (U 138 (U 140 (U 142 (U 144 (U 146 (U 148 (U 149 (U 151 (U 162 (U 164 (U 166 (U 169 .nil)))))))))))))))))))))))))
  try simp only[if_neg h4]
  have P5 {hs q} (r:PS F X hs q):=(P4 (N h4 (N h4 (N h4 (N h4 (N h1 (N h1 (N h1 (N h1 (N h1 (U 86 (U 88 (U 90 (U 93 (U 103 (U 105 (U 107 (U 109 (U 112 (.r 121 [] [] (e72 (a0:=a0.f2)) r))))))))))))))))))))
  by_cases h5:(!(m45 a0.f2 0 2147483646))=true
  · try simp only[if_pos h5]
    exact cp ya (P5 (.f h5 (.f h5 (.f h5 (.f h5 (.f h5 (T 126 (T 128 (T 130 (T 132 (T 135 .nil)))))))))))
  try simp only[if_neg h5]
  have P6 {hs q} (r:PS F X hs q):=(P5 (N h5 (N h5 (N h5 (U 126 (U 128 (U 130 (.r 131 [] [] (e46 (a0:=a0.f3)) (N h5 (N h5 (U 132 (U 135 r))))))))))))
  by_cases h6:(!(m45 a0.f3 0 1000000))=true
  · try simp only[if_pos h6]
    exact cp ya (P6 (.f h6 (.f h6 (.f h6 (.f h6 (T 138 (T 140 (T 148 (T 151 .nil)))))))))
  try simp only[if_neg h6]
  exact cp ya (P6 (N h6 (N h6 (N h1 (N h1 (N h1 (N h6 (N h1 (N h6 (N h0 (N h0 (N h0 (N h0 (U 138 (U 140 (U 142 (U 144 (U 146 (U 148 (U 149 (U 151 (U 162 (U 164 (U 166 (U 169 .nil)))))))))))))))))))))))))
theorem fault_len24 {a:K_isii} (h:¬((m24 a) !=0)=true):ByteArray.size a.f1≤12:=by
  by_cases h1:(a.f1.toList==(⟨#[]⟩:ByteArray).toList)=true
  · rw[ba_eq] at h1
    simp only[decide_eq_true_eq] at h1
    rw[h1]; decide
  by_cases h2:m71 a.f1=true
  · exact arg_len71 h2
  exfalso
  apply h
  have e1:(!(a.f1.toList==(⟨#[]⟩:ByteArray).toList))=true:=by simpa using h1
  have e2:(!(m71 a.f1))=true:=by simpa using h2
  unfold m24
  simp only[if_pos e1,if_pos e2,if_neg h1]
  (repeat' split)<;>first | rfl | simp_all
def m111 (a1:Int):(List Int):=
  []
theorem e111 {a1:Int} (hy0:0≤a1) (hy1:a1≤70368744177664):Ev F X (.call 111 [(.one (.nl 1)),(.one (.val (.int .i64 a1)))] [] [] [(.one (.own 1 (map d_y (m111 a1))))]):=by
  unfold m111
  by_cases h0:(decide (a1 < 0))=true
  · try simp only[if_pos h0]
    exfalso
    first |(simp_all; done) | omega |(simp only[decide_eq_true_eq,length_map] at*; omega)
  try simp only[if_neg h0]
  by_cases h1:(decide ((wrap .i64 (a1 - 0)) > 0))=true
  · try simp only[if_pos h1]
    have f2:0≤(0:Int)∧(0:Int)≤(0:Int)∧(0:Int)≤0:=yb
    have f3:1≤(wrap .i64 (a1 - 0))∧(wrap .i64 (a1 - 0))≤70368744177664∧(wrap .i64 (a1 - 0))*1≤70368744177664:=yU
    have f4:0+(toNat (wrap .i64 (a1 - 0)))≤(length ((List.replicate (toNat (wrap .i64 (a1 - 0))) [(.val (.int .u8 0))]):List (List D))):=yU
    have f5:(0:Int)≤0∧(0:Int)≤((toNat (wrap .i64 (a1 - 0))):Int):=yb
    have f8:pureR []=true:=yA
    exact cp ya (N h0 (.f h1 (.f f2 (.f f3 (.f f4 (.f f5 (pe 0 (pe 0 (.f f8 (U 6 (T 27 .nil)))))))))))
  try simp only[if_neg h1]
  have f2:pureR []=true:=yA
  exact cp ya (N h0 (N h1 (.f f2 (U 6 (U 27 .nil)))))
theorem grow_nil (a:Int):m111 a=[]:=rfl
inductive O67_0 where
  |k0 (w0:Int) (w1:Int) (w2:Bool)
def r67_0 (a0:(List (List Int))):List (List Int)→Int→Int→O67_0
  |x0::y0,i,v1=>
    if(decide ((wrap .i64 (v1+((length (map b_y x0)):Int))) < 0))=true then(O67_0.k0 v1 i (decide (i <((length (map b_LyE a0)):Int)))) else
    (r67_0 a0 y0 (i+1) (wrap .i64 (v1+((length (map b_y x0)):Int))))
  |[],i,v1=>(O67_0.k0 v1 i (decide (i <((length (map b_LyE a0)):Int))))
def h67_0 (l0_0:Nat) (a0:(List (List Int))) (i:Int) (v1:Int):St:=⟨[(0,(.one (.bor l0_0 (map b_LyE a0)))),(3,(.one (.val (.int .i64 v1)))),(9,(.one (.bor l0_0 (map b_LyE a0)))),(10,(.one (.val (.int .i64 ((length (map b_LyE a0)):Int))))),(11,(.one (.val (.int .i64 i))))],[]⟩
def ex67_0:O67_0→VX.Exit
  |.k0 _ _ _=>(.exit 0)
def fin67_0 (l0_0:Nat) (a0:(List (List Int))):O67_0→St
  |.k0 w0 w1 w2=>⟨[(0,(.one (.bor l0_0 (map b_LyE a0)))),(3,(.one (.val (.int .i64 w0)))),(9,(.one (.bor l0_0 (map b_LyE a0)))),(10,(.one (.val (.int .i64 ((length (map b_LyE a0)):Int))))),(11,(.one (.val (.int .i64 w1)))),(12,(.one (.val (.bool w2))))],[]⟩
theorem t67_0 {l0_0:Nat} {a0:(List (List Int))} (hy0:length (List.flatten a0)≤70368744177664) (hy1:length a0≤1000000):∀(y0:List (List Int)) (p:List (List Int)) (v1:Int),p++y0=a0→0≤v1→v1+((length (List.flatten y0):Nat):Int)≤70368744177664→Ev F X (.code l67_0 (h67_0 l0_0 a0 (length p:Int) v1) (ex67_0 (r67_0 a0 y0 (length p:Int) v1)) (fin67_0 l0_0 a0 (r67_0 a0 y0 (length p:Int) v1)))
  |[],p,v1,hp0,hi0,hi1=>by
    have hc:¬(decide ((length p:Int) <((length (map b_LyE a0)):Int)))=true:=by
      rw[← hp0]; simp only[LN,decide_eq_true_eq]; omega
    have hj0:=hi0; try simp only[LN,Int.toNat_natCast] at hj0
    have hj1:=hi1; try simp only[LN,Int.toNat_natCast] at hj1
    have st:=ch b67_0 (h67_0 l0_0 a0 (length p:Int) v1) ⟨[(0,(.one (.bor l0_0 (map b_LyE a0)))),(3,(.oi v1)),(9,(.one (.bor l0_0 (map b_LyE a0)))),(10,(.oi ((length (map b_LyE a0)):Int))),(11,(.oi (length p:Int))),(12,(.one (.val (.bool (decide ((length p:Int) <((length (map b_LyE a0)):Int)))))))],[]⟩ (.exit 0) 3 (by kernel_rfl) (.f (nt hc) (U 2 .nil))
    rw[show (⟨[(0,(.one (.bor l0_0 (map b_LyE a0)))),(3,(.oi v1)),(9,(.one (.bor l0_0 (map b_LyE a0)))),(10,(.oi ((length (map b_LyE a0)):Int))),(11,(.oi (length p:Int))),(12,(.one (.val (.bool (decide ((length p:Int) <((length (map b_LyE a0)):Int)))))))],[]⟩:St)=fin67_0 l0_0 a0 (.k0 v1 (length p:Int) (decide ((length p:Int) <((length (map b_LyE a0)):Int)))) from(by rfl)] at st
    exact .loopX st (show ((.exit 0):VX.Exit)≠.normal from by simp)
  |x0::y0,p,v1,hp0,hi0,hi1=>by
    have hc:(decide ((length p:Int) <((length (map b_LyE a0)):Int)))=true:=by
      rw[← hp0]; simp only[LN,decide_eq_true_eq]; omega
    have Hx0:(a0)[toNat (length p:Int)]?=some x0:=by
      rw[← hp0,Int.toNat_natCast]; simp
    have hlen:length (a0)=length p+length y0+1:=by rw[← hp0]; simp; omega
    have hw:wrap .i64 ((length p:Int)+1)=(length p:Int)+1:=wrap64 (by omega)
    have hj0:=hi0; try simp only[LN,Int.toNat_natCast] at hj0
    have hj1:=hi1; try simp only[LN,Int.toNat_natCast] at hj1
    simp only[r67_0]
    have f1:0≤(length p:Int):=(by omega)
    by_cases h_1:(decide ((wrap .i64 (v1+((length (map b_y x0)):Int))) < 0))=true
    · try simp only[if_pos h_1]
      exfalso
      first |(simp only[List.flatten_cons,length_append,List.flatten_nil,length_nil,length_map,length_map,decide_eq_true_eq] at*; rw[wrap64 (by omega)] at*; omega) |(simp_all; done) | omega |(simp only[decide_eq_true_eq,length_map] at*; omega)
    try simp only[if_neg h_1]
    have st:=ch b67_0 (h67_0 l0_0 a0 (length p:Int) v1) ⟨[(0,(.one (.bor l0_0 (map b_LyE a0)))),(3,(.oi (wrap .i64 (v1+((length (map b_y x0)):Int))))),(9,(.one (.bor l0_0 (map b_LyE a0)))),(10,(.oi ((length (map b_LyE a0)):Int))),(11,(.oi (wrap .i64 ((length p:Int)+1))))],[]⟩ .normal 28 (by kernel_rfl) (.f hc (.f f1 (.f (mp_ b_LyE Hx0) (.f trivial (.f (nt h_1) (.f trivial (T 2 (.h 4 (.row [(.sl (map b_y x0))]) (U 23 .nil)))))))))
    have ih:=t67_0 (l0_0:=l0_0) (a0:=a0) hy0 hy1 y0 (p++ [x0]) (wrap .i64 (v1+((length (map b_y x0)):Int))) (by rw[append_assoc]; exact hp0) (by simp only[List.flatten_cons,length_append,List.flatten_nil,length_nil,length_map] at*; rw[wrap64 (by omega)]; omega) (by simp only[List.flatten_cons,length_append,List.flatten_nil,length_nil,length_map] at*; rw[wrap64 (by omega)]; omega)
    rw[show ((p++ [x0]).length:Int)=(p.length:Int)+1 from by simp] at ih
    rw[show (⟨[(0,(.one (.bor l0_0 (map b_LyE a0)))),(3,(.oi (wrap .i64 (v1+((length (map b_y x0)):Int))))),(9,(.one (.bor l0_0 (map b_LyE a0)))),(10,(.oi ((length (map b_LyE a0)):Int))),(11,(.oi (wrap .i64 ((length p:Int)+1))))],[]⟩:St)=h67_0 l0_0 a0 ((length p:Int)+1) (wrap .i64 (v1+((length (map b_y x0)):Int))) from(by unfold h67_0; simp only[hw]; done)] at st
    exact .loopN st ih
theorem csum:∀(a:List (List Int)) (l:List (List Int)) (i v:Int),0≤v→v+((length (List.flatten l):Nat):Int)≤70368744177664→∃j b,r67_0 a l i v=.k0 (v+((length (List.flatten l):Nat):Int)) j b
  |a,[],i,v,_,_=>⟨_,_,by simp[r67_0]; exact⟨rfl,rfl⟩⟩
  |a,x::l,i,v,h0,h=>by
    simp only[List.flatten_cons,length_append] at h
    obtain⟨j,b,e⟩:=csum a l (i+1) (v+((length x:Nat):Int)) yb yb
    refine⟨j,b,?_⟩
    simp only[r67_0,length_map]
    rw[wrap64 yb,if_neg (by simp only[decide_eq_true_eq]; omega),e]
    simp only[List.flatten_cons,length_append]
    congr 1; omega
inductive O67_1 where
  |k0 (w0:List Int) (w1:Int) (w2:Bool)
def r67_1 (a0:(List (List Int))):List (List Int)→Int→List Int→O67_1
  |x0::y0,i,v0=>
    (r67_1 a0 y0 (i+1) (v0++x0))
  |[],i,v0=>(O67_1.k0 v0 i (decide (i <((length (map b_LyE a0)):Int))))
def h67_1 (l0_0:Nat) (a0:(List (List Int))) (c0_67_1:Int) (i:Int) (v0:List Int):St:=⟨[(6,(.one (.ref ⟨(6,0,0),[],0,(length (map d_y v0))⟩))),(25,(.one (.bor l0_0 (map b_LyE a0)))),(26,(.one (.val (.int .i64 ((length (map b_LyE a0)):Int))))),(27,(.one (.val (.int .i64 i))))],[((6,0,0),.live ⟨1,(map d_y v0),[]⟩)]⟩
def ex67_1:O67_1→VX.Exit
  |.k0 _ _ _=>(.exit 2)
def fin67_1 (l0_0:Nat) (a0:(List (List Int))) (c0_67_1:Int):O67_1→St
  |.k0 w0 w1 w2=>⟨[(6,(.one (.ref ⟨(6,0,0),[],0,(length (map d_y w0))⟩))),(25,(.one (.bor l0_0 (map b_LyE a0)))),(26,(.one (.val (.int .i64 ((length (map b_LyE a0)):Int))))),(27,(.one (.val (.int .i64 w1)))),(28,(.one (.val (.bool w2))))],[((6,0,0),.live ⟨1,(map d_y w0),[]⟩)]⟩
theorem t67_1 {l0_0:Nat} {a0:(List (List Int))} {c0_67_1:Int} (hy0:length (List.flatten a0)≤70368744177664) (hy1:length a0≤1000000):∀(y0:List (List Int)) (p:List (List Int)) (v0:List Int),p++y0=a0→length v0+length (List.flatten y0)≤70368744177664→Ev F X (.code l67_1 (h67_1 l0_0 a0 c0_67_1 (length p:Int) v0) (ex67_1 (r67_1 a0 y0 (length p:Int) v0)) (fin67_1 l0_0 a0 c0_67_1 (r67_1 a0 y0 (length p:Int) v0)))
  |[],p,v0,hp0,hi0=>by
    have hc:¬(decide ((length p:Int) <((length (map b_LyE a0)):Int)))=true:=by
      rw[← hp0]; simp only[length_map,length_set,length_append,length_replicate,length_cons,length_nil,decide_eq_true_eq]; omega
    have hj0:=hi0; try simp only[length_map,length_set,length_append,length_replicate,length_cons,length_nil,Int.toNat_natCast] at hj0
    have st:=ch b67_1 (h67_1 l0_0 a0 c0_67_1 (length p:Int) v0) ⟨[(6,(.one (.ref ⟨(6,0,0),[],0,(length (map d_y v0))⟩))),(25,(.one (.bor l0_0 (map b_LyE a0)))),(26,(.oi ((length (map b_LyE a0)):Int))),(27,(.oi (length p:Int))),(28,(.one (.val (.bool (decide ((length p:Int) <((length (map b_LyE a0)):Int)))))))],[((6,0,0),.live ⟨1,(map d_y v0),[]⟩)]⟩ (.exit 2) 3 (by kernel_rfl) (.f (nt hc) (U 2 .nil))
    rw[show (⟨[(6,(.one (.ref ⟨(6,0,0),[],0,(length (map d_y v0))⟩))),(25,(.one (.bor l0_0 (map b_LyE a0)))),(26,(.oi ((length (map b_LyE a0)):Int))),(27,(.oi (length p:Int))),(28,(.one (.val (.bool (decide ((length p:Int) <((length (map b_LyE a0)):Int)))))))],[((6,0,0),.live ⟨1,(map d_y v0),[]⟩)]⟩:St)=fin67_1 l0_0 a0 c0_67_1 (.k0 v0 (length p:Int) (decide ((length p:Int) <((length (map b_LyE a0)):Int)))) from(by rfl)] at st
    exact .loopX st (show ((.exit 2):VX.Exit)≠.normal from by simp)
  |x0::y0,p,v0,hp0,hi0=>by
    have hc:(decide ((length p:Int) <((length (map b_LyE a0)):Int)))=true:=by
      rw[← hp0]; simp only[length_map,length_set,length_append,length_replicate,length_cons,length_nil,decide_eq_true_eq]; omega
    have Hx0:(a0)[toNat (length p:Int)]?=some x0:=by
      rw[← hp0,Int.toNat_natCast]; simp
    have hlen:length (a0)=length p+length y0+1:=by rw[← hp0]; simp; omega
    have hw:wrap .i64 ((length p:Int)+1)=(length p:Int)+1:=wrap64 (by omega)
    have hj0:=hi0; try simp only[length_map,length_set,length_append,length_replicate,length_cons,length_nil,Int.toNat_natCast] at hj0
    simp only[r67_1]
    have f1:0≤(length p:Int):=(by omega)
    have f3:0+(length (map d_y v0))≤(length (map d_y v0)):=(by omega)
    have f4:(length ((take (length (map d_y v0)) (drop 0 (map d_y v0)))++(fromBR l0_0 (map b_y x0))))*1≤70368744177664:=(by simp only[List.flatten_cons,length_append,List.flatten_nil,length_nil,length_map,length_take,length_drop,fromBR_y,grow_nil] at*; omega)
    have f5:∀r∈((fromBR l0_0 (map b_y x0)):List (List D)),r.length=1:=(by simp[*,four_len,b_y,d_y,byteRows_eq,ints_y]; done)
    have f6:((take (length (map d_y v0)) (drop 0 (map d_y v0)))++(fromBR l0_0 (map b_y x0)))=(map d_y (v0++x0)):=(by simp[byteRows_eq,ints_y,take_of_length_le,d_y,d_LyE,d_b,d_isii,d_iiLisiiE,d_LyEi,d_iLyEi,d_iLyE,d_i,d_s,d_LiE,d_si,d_R,d_C,d_B,d_LsiE,d_LLyEE,d_LisiiE,d_Q,fromBR_y,fromBR_b,fromBR_isii,fromBR_i,fromBR_s,fromBR_si,four_len]; done)
    have st:=ch b67_1 (h67_1 l0_0 a0 c0_67_1 (length p:Int) v0) ⟨[(6,(.one (.ref ⟨(6,0,0),[],0,(length ((take (length (map d_y v0)) (drop 0 (map d_y v0)))++(fromBR l0_0 (map b_y x0))))⟩))),(25,(.one (.bor l0_0 (map b_LyE a0)))),(26,(.oi ((length (map b_LyE a0)):Int))),(27,(.oi (wrap .i64 ((length p:Int)+1))))],[((6,0,0),.live ⟨1,(map d_y (v0++x0)),[]⟩)]⟩ .normal 22 (by kernel_rfl) (.f hc (.f f1 (.f (mp_ b_LyE Hx0) (.f f3 (.f f4 (.f f5 (.f f6 (.f trivial (T 2 (.h 4 (.row [(.sl (map b_y x0))]) (.h 17 (.norm (6,0,0) (map d_y (v0++x0))) .nil)))))))))))
    have ih:=t67_1 (l0_0:=l0_0) (a0:=a0) (c0_67_1:=c0_67_1) hy0 hy1 y0 (p++ [x0]) (v0++x0) (by rw[append_assoc]; exact hp0) (by simp only[List.flatten_cons,length_append,List.flatten_nil,length_nil,length_map] at*; omega)
    rw[show ((p++ [x0]).length:Int)=(p.length:Int)+1 from by simp] at ih
    rw[show (⟨[(6,(.one (.ref ⟨(6,0,0),[],0,(length ((take (length (map d_y v0)) (drop 0 (map d_y v0)))++(fromBR l0_0 (map b_y x0))))⟩))),(25,(.one (.bor l0_0 (map b_LyE a0)))),(26,(.oi ((length (map b_LyE a0)):Int))),(27,(.oi (wrap .i64 ((length p:Int)+1))))],[((6,0,0),.live ⟨1,(map d_y (v0++x0)),[]⟩)]⟩:St)=h67_1 l0_0 a0 c0_67_1 ((length p:Int)+1) (v0++x0) from(by unfold h67_1; simp[hw,byteRows_eq,ints_y,take_of_length_le,d_y,d_LyE,d_b,d_isii,d_iiLisiiE,d_LyEi,d_iLyEi,d_iLyE,d_i,d_s,d_LiE,d_si,d_R,d_C,d_B,d_LsiE,d_LLyEE,d_LisiiE,d_Q,fromBR_y,fromBR_b,fromBR_isii,fromBR_i,fromBR_s,fromBR_si,four_len]; done)] at st
    exact .loopN st ih
theorem ccat:∀(a:List (List Int)) (l:List (List Int)) (i:Int) (v:List Int),∃j b,r67_1 a l i v=.k0 (v++List.flatten l) j b
  |a,[],i,v=>⟨_,_,by simp[r67_1]; exact⟨rfl,rfl⟩⟩
  |a,x::l,i,v=>by
    obtain⟨j,b,e⟩:=ccat a l (i+1) (v++x)
    refine⟨j,b,?_⟩
    simp only[r67_1]
    rw[e,List.flatten_cons,append_assoc]
def m67 (a0:(List (List Int))):(List Int):=
  (match r67_0 a0 a0 0 0 with | .k0 w0_0 w1_0 w2_0=>(match r67_1 a0 a0 0 (m111 w0_0) with | .k0 w0_2 w1_2 w2_2=>w0_2))
theorem e67 {l0_0:Nat} {a0:(List (List Int))} (hy0:length (List.flatten a0)≤70368744177664) (hy1:length a0≤1000000):Ev F X (.call 67 [(.one (.bor l0_0 (map b_LyE a0)))] [] [] [(.one (.own 1 (map d_y (m67 a0))))]):=by
  unfold m67
  cases h0:r67_0 a0 a0 0 0 with
  |k0 w0_0 w1_0 w2_0=>
    try dsimp only
    obtain⟨jh0,bh0,eh0⟩:=csum a0 a0 0 0 yb yb; rw[h0] at eh0; injection eh0 with e0h0 e1h0 e2h0
    have f0:(⟨[(0,(.one (.bor l0_0 (map b_LyE a0)))),(3,(.oi 0)),(9,(.one (.bor l0_0 (map b_LyE a0)))),(10,(.oi ((length (map b_LyE a0)):Int))),(11,(.oi 0))],[]⟩:St)=h67_0 l0_0 a0 0 0:=yv
    have f2:Ev F X (.call 111 [(.one (.nl 1)),(.oi w0_0)] [] [] [(.one (.own 1 (map d_y (m111 w0_0))))]):=(e111 (a1:=w0_0) yb yb)
    cases h1:r67_1 a0 a0 0 (m111 w0_0) with
    |k0 w0_2 w1_2 w2_2=>
      try dsimp only
      have f3:(⟨[(6,(.one (.ref ⟨(6,0,0),[],0,(length (map d_y (m111 w0_0)))⟩))),(25,(.one (.bor l0_0 (map b_LyE a0)))),(26,(.oi ((length (map b_LyE a0)):Int))),(27,(.oi 0))],[((6,0,0),.live ⟨1,(map d_y (m111 w0_0)),[]⟩)]⟩:St)=h67_1 l0_0 a0 w0_0 0 (m111 w0_0):=yv
      exact cp ya (.f f0 (.f (ev_ (e:=ex67_0) (g:=(fin67_0 l0_0 a0)) h0 (t67_0 (l0_0:=l0_0) (a0:=a0) (by assumption) (by assumption) a0 [] 0 rfl yb yb)) (.h 10 (.loop (h67_0 l0_0 a0 0 0) (.exit 0) ⟨[(0,(.one (.bor l0_0 (map b_LyE a0)))),(3,(.oi w0_0)),(9,(.one (.bor l0_0 (map b_LyE a0)))),(10,(.oi ((length (map b_LyE a0)):Int))),(11,(.oi w1_0)),(12,(.one (.val (.bool w2_0))))],[]⟩) (.r 14 [] [] f2 (.f f3 (.f (ev_ (e:=ex67_1) (g:=(fin67_1 l0_0 a0 w0_0)) h1 (t67_1 (l0_0:=l0_0) (a0:=a0) (c0_67_1:=w0_0) (by assumption) (by assumption) a0 [] (m111 w0_0) rfl (by simp only[grow_nil,length_nil,Nat.zero_add]; omega))) (pe 0 (pe (length (map d_y w0_2)) (.f (pureR_y w0_2) (.h 23 (.loop (h67_1 l0_0 a0 w0_0 0 (m111 w0_0)) (.exit 2) ⟨[(6,(.one (.ref ⟨(6,0,0),[],0,(length (map d_y w0_2))⟩))),(25,(.one (.bor l0_0 (map b_LyE a0)))),(26,(.oi ((length (map b_LyE a0)):Int))),(27,(.oi w1_2)),(28,(.one (.val (.bool w2_2))))],[((6,0,0),.live ⟨1,(map d_y w0_2),[]⟩)]⟩) .nil))))))))))
theorem concat_is (a:List (List Int)) (h:length (List.flatten a)≤70368744177664):m67 a=List.flatten a:=by
  obtain⟨j,b,e⟩:=csum a a 0 0 yb yb
  obtain⟨j2,b2,e2⟩:=ccat a a 0 (m111 (0+((length (List.flatten a):Nat):Int)))
  unfold m67
  simp only[e,e2]
  rfl
inductive O112_0 where
  |k0 (w0:List Int) (w1:Int) (w2:Int) (w3:Bool)
def r112_0 :Nat→List Int→Int→Int→O112_0
  |n+1,v0,v1,v2=>
    if(decide (v2≥0))=true then(r112_0 n (set v0 (toNat v2) (wrap .u8 (v1))) (Int.fdiv v1 (2 ^(min (toNat 8) (IntKind.bits .i64)))) (wrap .i64 (v2 - 1))) else
    (O112_0.k0 v0 v1 v2 (decide (v2≥0)))
  |0,v0,v1,v2=>(O112_0.k0 v0 v1 v2 (decide (v2≥0)))
def h112_0 (a0:Int) (a1:Int) (v0:List Int) (v1:Int) (v2:Int):St:=⟨[(0,(.one (.val (.int .i64 v1)))),(5,(.one (.ref ⟨(5,0,0),[],0,(toNat a1)⟩))),(6,(.one (.val (.int .i64 v2))))],[((5,0,0),.live ⟨1,(map d_y v0),[]⟩)]⟩
def ex112_0:O112_0→VX.Exit
  |.k0 _ _ _ _=>(.exit 0)
def fin112_0 (a0:Int) (a1:Int):O112_0→St
  |.k0 w0 w1 w2 w3=>⟨[(0,(.one (.val (.int .i64 w1)))),(5,(.one (.ref ⟨(5,0,0),[],0,(toNat a1)⟩))),(6,(.one (.val (.int .i64 w2)))),(12,(.one (.val (.bool w3))))],[((5,0,0),.live ⟨1,(map d_y w0),[]⟩)]⟩
theorem t112_0 {a0:Int} {a1:Int} (hy0:0≤a1) (hy1:a1≤1000):∀(n:Nat) (v0:List Int) (v1:Int) (v2:Int),length v0=(toNat a1)→ -1≤v2→v2 < a1→toNat (v2+1)≤n→Ev F X (.code l112_0 (h112_0 a0 a1 v0 v1 v2) (ex112_0 (r112_0 n v0 v1 v2)) (fin112_0 a0 a1 (r112_0 n v0 v1 v2)))
  |0,v0,v1,v2,hi0,hi1,hi2,hn=>by
    have hc:¬(decide (v2≥0))=true:=by first |(exact fuel64_zero hn) |(simp only[decide_eq_true_eq] at*; omega) |(simp at*; omega)
    have st:=ch b112_0 (h112_0 a0 a1 v0 v1 v2) ⟨[(0,(.oi v1)),(5,(.one (.ref ⟨(5,0,0),[],0,(toNat a1)⟩))),(6,(.oi v2)),(12,(.one (.val (.bool (decide (v2≥0))))))],[((5,0,0),.live ⟨1,(map d_y v0),[]⟩)]⟩ (.exit 0) 5 (by kernel_rfl) (.f (nt hc) (U 4 .nil))
    rw[show (⟨[(0,(.oi v1)),(5,(.one (.ref ⟨(5,0,0),[],0,(toNat a1)⟩))),(6,(.oi v2)),(12,(.one (.val (.bool (decide (v2≥0))))))],[((5,0,0),.live ⟨1,(map d_y v0),[]⟩)]⟩:St)=fin112_0 a0 a1 (.k0 v0 v1 v2 (decide (v2≥0))) from(by rfl)] at st
    exact .loopX st (show ((.exit 0):VX.Exit)≠.normal from by simp)
  |n+1,v0,v1,v2,hi0,hi1,hi2,hn=>by
    simp only[r112_0]
    by_cases h_0:(decide (v2≥0))=true
    · try simp only[if_pos h_0]
      have f1:0+(toNat a1)≤(length (map d_y v0)):=(by simp only[length_map]; omega)
      have f2:0≤v2∧v2 <((toNat a1):Int):=(by simp only[decide_eq_true_eq] at*; omega)
      have f4:(set (map d_y v0) (0+(toNat v2)) [(.val (.int .u8 (wrap .u8 (v1))))])=(map d_y (set v0 (toNat v2) (wrap .u8 (v1)))):=(by simp[take_of_length_le,d_y,four_len]; done)
      have f5:0≤(8:Int):=(by omega)
      have st:=ch b112_0 (h112_0 a0 a1 v0 v1 v2) ⟨[(0,(.oi (Int.fdiv v1 (2 ^(min (toNat 8) (IntKind.bits .i64)))))),(5,(.one (.ref ⟨(5,0,0),[],0,(toNat a1)⟩))),(6,(.oi (wrap .i64 (v2 - 1))))],[((5,0,0),.live ⟨1,(map d_y (set v0 (toNat v2) (wrap .u8 (v1)))),[]⟩)]⟩ .normal 30 (by kernel_rfl) (.f h_0 (.f f1 (.f f2 (.f (mz_ d_y (getD_at v0 (toNat v2) 0 (by omega))) (.f f4 (.f f5 (T 4 (.h 16 (.rowD [(.val (.int .u8 (getD v0 (toNat v2) 0)))]) (.h 17 (.norm (5,0,0) (map d_y (set v0 (toNat v2) (wrap .u8 (v1))))) .nil)))))))))
      have ih:=t112_0 (a0:=a0) (a1:=a1) hy0 hy1 n (set v0 (toNat v2) (wrap .u8 (v1))) (Int.fdiv v1 (2 ^(min (toNat 8) (IntKind.bits .i64)))) (wrap .i64 (v2 - 1)) (by simp only[LN]; omega) (by rw[wrap64 (by simp only[decide_eq_true_eq] at*; omega)]; simp only[decide_eq_true_eq] at*; omega) (by rw[wrap64 (by simp only[decide_eq_true_eq] at*; omega)]; simp only[decide_eq_true_eq] at*; omega) (by rw[wrap64 (by simp only[decide_eq_true_eq] at*; omega)]; simp only[decide_eq_true_eq] at*; omega)
      rw[show (⟨[(0,(.oi (Int.fdiv v1 (2 ^(min (toNat 8) (IntKind.bits .i64)))))),(5,(.one (.ref ⟨(5,0,0),[],0,(toNat a1)⟩))),(6,(.oi (wrap .i64 (v2 - 1))))],[((5,0,0),.live ⟨1,(map d_y (set v0 (toNat v2) (wrap .u8 (v1)))),[]⟩)]⟩:St)=h112_0 a0 a1 (set v0 (toNat v2) (wrap .u8 (v1))) (Int.fdiv v1 (2 ^(min (toNat 8) (IntKind.bits .i64)))) (wrap .i64 (v2 - 1)) from(by rfl)] at st
      exact .loopN st ih
    try simp only[if_neg h_0]
    have st:=ch b112_0 (h112_0 a0 a1 v0 v1 v2) ⟨[(0,(.oi v1)),(5,(.one (.ref ⟨(5,0,0),[],0,(toNat a1)⟩))),(6,(.oi v2)),(12,(.one (.val (.bool (decide (v2≥0))))))],[((5,0,0),.live ⟨1,(map d_y v0),[]⟩)]⟩ (.exit 0) 5 (by kernel_rfl) (.f (nt h_0) (U 4 .nil))
    rw[show (⟨[(0,(.oi v1)),(5,(.one (.ref ⟨(5,0,0),[],0,(toNat a1)⟩))),(6,(.oi v2)),(12,(.one (.val (.bool (decide (v2≥0))))))],[((5,0,0),.live ⟨1,(map d_y v0),[]⟩)]⟩:St)=fin112_0 a0 a1 (.k0 v0 v1 v2 (decide (v2≥0))) from(by rfl)] at st
    exact .loopX st (show ((.exit 0):VX.Exit)≠.normal from by simp)
def post112_0 (a0:Int) (a1:Int):O112_0→Prop
  |.k0 w0 _ _ _=>length w0=toNat a1
theorem z112_0 {a0:Int} {a1:Int} (hy0:0≤a1) (hy1:a1≤1000):∀(n:Nat) (v0:List Int) (v1:Int) (v2:Int),length v0=(toNat a1)→ -1≤v2→v2 < a1→post112_0 a0 a1 (r112_0 n v0 v1 v2)
  |0,v0,v1,v2,hi0,hi1,hi2=>by
    simp only[r112_0]
    first | trivial |(show _ ; simp only[post112_0]; omega) |(simp only[post112_0] at*; omega) |(rw[wrap64 yr]; simp only[decide_eq_true_eq] at*; omega) |(simp only[decide_eq_true_eq] at*; omega)
  |n+1,v0,v1,v2,hi0,hi1,hi2=>by
    simp only[r112_0]
    by_cases h_0:(decide (v2≥0))=true
    · try simp only[if_pos h_0]
      exact z112_0 (a0:=a0) (a1:=a1) hy0 hy1 n (set v0 (toNat v2) (wrap .u8 (v1))) (Int.fdiv v1 (2 ^(min (toNat 8) (IntKind.bits .i64)))) (wrap .i64 (v2 - 1)) yw yq yq
    try simp only[if_neg h_0]
    first | trivial |(show _ ; simp only[post112_0]; omega) |(simp only[post112_0] at*; omega) |(rw[wrap64 yr]; simp only[decide_eq_true_eq] at*; omega) |(simp only[decide_eq_true_eq] at*; omega)
def m112 (a0:Int) (a1:Int):(List Int):=
  (match r112_0 (toNat ((wrap .i64 (a1 - 1))+1)) (List.replicate (toNat a1) 0) a0 (wrap .i64 (a1 - 1)) with | .k0 w0_1 w1_1 w2_1 w3_1=>w0_1)
theorem e112 {a0:Int} {a1:Int} (hy0:0≤a1) (hy1:a1≤1000):Ev F X (.call 112 [(.one (.val (.int .i64 a0))),(.one (.val (.int .i64 a1)))] [] [] [(.one (.own 1 (map d_y (m112 a0 a1))))]):=by
  unfold m112
  have f0:0≤a1∧a1≤a1∧a1≤140737488355328∧a1*1≤140737488355328:=yb
  have f1:(List.replicate (toNat a1) [(.val (.int .u8 0))])=(map d_y (List.replicate (toNat a1) 0)):=yJ
  cases h0:r112_0 (toNat ((wrap .i64 (a1 - 1))+1)) (List.replicate (toNat a1) 0) a0 (wrap .i64 (a1 - 1)) with
  |k0 w0_1 w1_1 w2_1 w3_1=>
    try dsimp only
    have zh0:=z112_0 (a0:=a0) (a1:=a1) (by assumption) (by assumption) (toNat ((wrap .i64 (a1 - 1))+1)) (List.replicate (toNat a1) 0) a0 (wrap .i64 (a1 - 1)) yaE yau yau; rw[h0] at zh0; simp only[post112_0] at zh0
    have f2:(⟨[(0,(.oi a0)),(5,(.one (.ref ⟨(5,0,0),[],0,(toNat a1)⟩))),(6,(.oi (wrap .i64 (a1 - 1))))],[((5,0,0),.live ⟨1,(map d_y (List.replicate (toNat a1) 0)),[]⟩)]⟩:St)=h112_0 a0 a1 (List.replicate (toNat a1) 0) a0 (wrap .i64 (a1 - 1)):=yv
    have f5:(toNat a1)=(length (map d_y w0_1)):=yaD
    exact cp ya (.f f0 (.f f1 (.f f2 (.f (ev_ (e:=ex112_0) (g:=(fin112_0 a0 a1)) h0 (t112_0 (a0:=a0) (a1:=a1) (by assumption) (by assumption) (toNat ((wrap .i64 (a1 - 1))+1)) (List.replicate (toNat a1) 0) a0 (wrap .i64 (a1 - 1)) yaE yau yau (Nat.le_refl _))) (pe 0 (.f f5 (.f (pureR_y w0_1) (.h 8 (.norm (5,0,0) (map d_y (List.replicate (toNat a1) 0))) (.h 15 (.loop (h112_0 a0 a1 (List.replicate (toNat a1) 0) a0 (wrap .i64 (a1 - 1))) (.exit 0) ⟨[(0,(.oi w1_1)),(5,(.one (.ref ⟨(5,0,0),[],0,(toNat a1)⟩))),(6,(.oi w2_1)),(12,(.one (.val (.bool w3_1))))],[((5,0,0),.live ⟨1,(map d_y w0_1),[]⟩)]⟩) .nil)))))))))
theorem high4 (a:Int):length (m112 a 4)=4:=by kernel_rfl
theorem high2 (a:Int):length (m112 a 2)=2:=by kernel_rfl
inductive O113_0 where
  |k0 (w0:Int) (w1:Int) (w2:Bool)
def r113_0 (a0:(List Int)):List Int→Int→Int→O113_0
  |x0::y0,i,v0=>
    (r113_0 a0 y0 (i+1) (Int.tmod (wrap .i64 ((wrap .i64 ((wrap .i64 (33*v0))+(wrap .i64 (x0))))+1)) 2147483647))
  |[],i,v0=>(O113_0.k0 v0 i (decide (i <((length (map b_y a0)):Int))))
def h113_0 (l0_0:Nat) (a0:(List Int)) (i:Int) (v0:Int):St:=⟨[(3,(.one (.val (.int .i64 v0)))),(6,(.one (.bor l0_0 (map b_y a0)))),(7,(.one (.val (.int .i64 ((length (map b_y a0)):Int))))),(8,(.one (.val (.int .i64 i))))],[]⟩
def ex113_0:O113_0→VX.Exit
  |.k0 _ _ _=>(.exit 0)
def fin113_0 (l0_0:Nat) (a0:(List Int)):O113_0→St
  |.k0 w0 w1 w2=>⟨[(3,(.one (.val (.int .i64 w0)))),(6,(.one (.bor l0_0 (map b_y a0)))),(7,(.one (.val (.int .i64 ((length (map b_y a0)):Int))))),(8,(.one (.val (.int .i64 w1)))),(9,(.one (.val (.bool w2))))],[]⟩
theorem t113_0 {l0_0:Nat} {a0:(List Int)} (hy0:length a0*1≤140737488351232):∀(y0:List Int) (p:List Int) (v0:Int),p++y0=a0→Ev F X (.code l113_0 (h113_0 l0_0 a0 (length p:Int) v0) (ex113_0 (r113_0 a0 y0 (length p:Int) v0)) (fin113_0 l0_0 a0 (r113_0 a0 y0 (length p:Int) v0)))
  |[],p,v0,hp0=>by
    have hc:¬(decide ((length p:Int) <((length (map b_y a0)):Int)))=true:=by
      rw[← hp0]; simp only[LN,decide_eq_true_eq]; omega
    have st:=ch b113_0 (h113_0 l0_0 a0 (length p:Int) v0) ⟨[(3,(.oi v0)),(6,(.one (.bor l0_0 (map b_y a0)))),(7,(.oi ((length (map b_y a0)):Int))),(8,(.oi (length p:Int))),(9,(.one (.val (.bool (decide ((length p:Int) <((length (map b_y a0)):Int)))))))],[]⟩ (.exit 0) 3 (by kernel_rfl) (.f (nt hc) (U 2 .nil))
    rw[show (⟨[(3,(.oi v0)),(6,(.one (.bor l0_0 (map b_y a0)))),(7,(.oi ((length (map b_y a0)):Int))),(8,(.oi (length p:Int))),(9,(.one (.val (.bool (decide ((length p:Int) <((length (map b_y a0)):Int)))))))],[]⟩:St)=fin113_0 l0_0 a0 (.k0 v0 (length p:Int) (decide ((length p:Int) <((length (map b_y a0)):Int)))) from(by rfl)] at st
    exact .loopX st (show ((.exit 0):VX.Exit)≠.normal from by simp)
  |x0::y0,p,v0,hp0=>by
    have hc:(decide ((length p:Int) <((length (map b_y a0)):Int)))=true:=by
      rw[← hp0]; simp only[LN,decide_eq_true_eq]; omega
    have Hx0:(a0)[toNat (length p:Int)]?=some x0:=by
      rw[← hp0,Int.toNat_natCast]; simp
    have hlen:length (a0)=length p+length y0+1:=by rw[← hp0]; simp; omega
    have hw:wrap .i64 ((length p:Int)+1)=(length p:Int)+1:=wrap64 (by omega)
    simp only[r113_0]
    have f1:0≤(length p:Int):=(by omega)
    have f5:(2147483647:Int)≠0:=(by omega)
    have st:=ch b113_0 (h113_0 l0_0 a0 (length p:Int) v0) ⟨[(3,(.oi (Int.tmod (wrap .i64 ((wrap .i64 ((wrap .i64 (33*v0))+(wrap .i64 (x0))))+1)) 2147483647))),(6,(.one (.bor l0_0 (map b_y a0)))),(7,(.oi ((length (map b_y a0)):Int))),(8,(.oi (wrap .i64 ((length p:Int)+1))))],[]⟩ .normal 29 (by kernel_rfl) (.f hc (.f f1 (.f (mp_ b_y Hx0) (.f trivial (.f trivial (.f f5 (.f trivial (T 2 (.h 4 (.row [(.val (.int .u8 x0))]) .nil)))))))))
    have ih:=t113_0 (l0_0:=l0_0) (a0:=a0) hy0 y0 (p++ [x0]) (Int.tmod (wrap .i64 ((wrap .i64 ((wrap .i64 (33*v0))+(wrap .i64 (x0))))+1)) 2147483647) (by rw[append_assoc]; exact hp0)
    rw[show ((p++ [x0]).length:Int)=(p.length:Int)+1 from by simp] at ih
    rw[show (⟨[(3,(.oi (Int.tmod (wrap .i64 ((wrap .i64 ((wrap .i64 (33*v0))+(wrap .i64 (x0))))+1)) 2147483647))),(6,(.one (.bor l0_0 (map b_y a0)))),(7,(.oi ((length (map b_y a0)):Int))),(8,(.oi (wrap .i64 ((length p:Int)+1))))],[]⟩:St)=h113_0 l0_0 a0 ((length p:Int)+1) (Int.tmod (wrap .i64 ((wrap .i64 ((wrap .i64 (33*v0))+(wrap .i64 (x0))))+1)) 2147483647) from(by unfold h113_0; simp only[hw]; done)] at st
    exact .loopN st ih
def m113 (a0:(List Int)):Int:=
  (match r113_0 a0 a0 0 5381 with | .k0 w0_0 w1_0 w2_0=>w0_0)
theorem e113 {l0_0:Nat} {a0:(List Int)} (hy0:length a0*1≤140737488351232):Ev F X (.call 113 [(.one (.bor l0_0 (map b_y a0)))] [] [] [(.one (.val (.int .i64 (m113 a0))))]):=by
  unfold m113
  cases h0:r113_0 a0 a0 0 5381 with
  |k0 w0_0 w1_0 w2_0=>
    try dsimp only
    have f0:(⟨[(3,(.oi 5381)),(6,(.one (.bor l0_0 (map b_y a0)))),(7,(.oi ((length (map b_y a0)):Int))),(8,(.oi 0))],[]⟩:St)=h113_0 l0_0 a0 0 5381:=yv
    exact cp ya (.f f0 (.f (ev_ (e:=ex113_0) (g:=(fin113_0 l0_0 a0)) h0 (t113_0 (l0_0:=l0_0) (a0:=a0) (by assumption) a0 [] 5381 rfl)) (.h 10 (.loop (h113_0 l0_0 a0 0 5381) (.exit 0) ⟨[(3,(.oi w0_0)),(6,(.one (.bor l0_0 (map b_y a0)))),(7,(.oi ((length (map b_y a0)):Int))),(8,(.oi w1_0)),(9,(.one (.val (.bool w2_0))))],[]⟩) .nil)))
def m68 (a0:K_isii):(List Int):=
  (m67 [[(wrap .u8 (((length (map d_y (m67 [[(wrap .u8 (a0.f0)),(wrap .u8 ((ByteArray.size a0.f1:Int)))],(strInts a0.f1),(m112 a0.f2 4),(m112 a0.f3 4)]))):Int)))],(m67 [[(wrap .u8 (a0.f0)),(wrap .u8 ((ByteArray.size a0.f1:Int)))],(strInts a0.f1),(m112 a0.f2 4),(m112 a0.f3 4)]),(m112 (Int.tmod (m113 (m67 [[(wrap .u8 (a0.f0)),(wrap .u8 ((ByteArray.size a0.f1:Int)))],(strInts a0.f1),(m112 a0.f2 4),(m112 a0.f3 4)])) 65536) 2)])
theorem e68 {a0:K_isii} (hy0:ByteArray.size a0.f1≤1000):Ev F X (.call 68 [(.agg [(.val (.int .i64 a0.f0)),(.val (.string a0.f1)),(.val (.int .i64 a0.f2)),(.val (.int .i64 a0.f3))])] [] [] [(.one (.own 1 (map d_y (m68 a0))))]):=by
  have f0:ByteArray.size a0.f1≤140737488355328:=yb
  have f6:(ByteArray.size a0.f1)=(length (byteRows a0.f1)):=(by simp[four_len,high4,high2]; done)
  have f11:4≤4:=yb
  have f12:fullR (take 4 (drop 0 [[(.own 1 [[(.val (.int .u8 (wrap .u8 (a0.f0))))],[(.val (.int .u8 (wrap .u8 ((ByteArray.size a0.f1:Int)))))]])],[(.own 1 (byteRows a0.f1))],[(.own 1 (map d_y (m112 a0.f2 4)))],[(.own 1 (map d_y (m112 a0.f3 4)))]]))=true:=yaq
  have f13:toBR (take 4 (drop 0 [[(.own 1 [[(.val (.int .u8 (wrap .u8 (a0.f0))))],[(.val (.int .u8 (wrap .u8 ((ByteArray.size a0.f1:Int)))))]])],[(.own 1 (byteRows a0.f1))],[(.own 1 (map d_y (m112 a0.f2 4)))],[(.own 1 (map d_y (m112 a0.f3 4)))]]))=[[(.sl [[(.val (.int .u8 (wrap .u8 (a0.f0))))],[(.val (.int .u8 (wrap .u8 ((ByteArray.size a0.f1:Int)))))]])],[(.sl (toBR (byteRows a0.f1)))],[(.sl (toBR (map d_y (m112 a0.f2 4))))],[(.sl (toBR (map d_y (m112 a0.f3 4))))]]:=yO
  have f14:Ev F X (.call 67 [(.one (.bor 0 [[(.sl [[(.val (.int .u8 (wrap .u8 (a0.f0))))],[(.val (.int .u8 (wrap .u8 ((ByteArray.size a0.f1:Int)))))]])],[(.sl (toBR (byteRows a0.f1)))],[(.sl (toBR (map d_y (m112 a0.f2 4))))],[(.sl (toBR (map d_y (m112 a0.f3 4))))]]))] [] [] [(.one (.own 1 (map d_y (m67 [[(wrap .u8 (a0.f0)),(wrap .u8 ((ByteArray.size a0.f1:Int)))],(strInts a0.f1),(m112 a0.f2 4),(m112 a0.f3 4)]))))]):=(by rw[show (toBR (byteRows a0.f1))=(map b_y (strInts a0.f1)) from by first | rfl |(simp[map_take,map_drop,four_len,high4,high2]; done) |(simp[byteRows_eq,map_take,map_drop,four_len,high4,high2]; done) |(simp[*,map_take,map_drop,four_len,high4,high2]; done) |(rw[take_of_length_le (by simp only[length_drop,length_take,length_map,Int.toNat_natCast]; omega)]; simp only[← map_drop,← map_take]),show (toBR (map d_y (m112 a0.f2 4)))=(map b_y (m112 a0.f2 4)) from by first | rfl |(simp[map_take,map_drop,four_len,high4,high2]; done) |(simp[byteRows_eq,map_take,map_drop,four_len,high4,high2]; done) |(simp[*,map_take,map_drop,four_len,high4,high2]; done) |(rw[take_of_length_le (by simp only[length_drop,length_take,length_map,Int.toNat_natCast]; omega)]; simp only[← map_drop,← map_take]),show (toBR (map d_y (m112 a0.f3 4)))=(map b_y (m112 a0.f3 4)) from by first | rfl |(simp[map_take,map_drop,four_len,high4,high2]; done) |(simp[byteRows_eq,map_take,map_drop,four_len,high4,high2]; done) |(simp[*,map_take,map_drop,four_len,high4,high2]; done) |(rw[take_of_length_le (by simp only[length_drop,length_take,length_map,Int.toNat_natCast]; omega)]; simp only[← map_drop,← map_take])]; exact(e67 (l0_0:=0) (a0:=[[(wrap .u8 (a0.f0)),(wrap .u8 ((ByteArray.size a0.f1:Int)))],(strInts a0.f1),(m112 a0.f2 4),(m112 a0.f3 4)]) yZ yZ))
  have f19:(65536:Int)≠0:=yb
  have f27:3≤3:=yb
  have f28:fullR (take 3 (drop 0 [[(.own 1 [[(.val (.int .u8 (wrap .u8 (((length (map d_y (m67 [[(wrap .u8 (a0.f0)),(wrap .u8 ((ByteArray.size a0.f1:Int)))],(strInts a0.f1),(m112 a0.f2 4),(m112 a0.f3 4)]))):Int)))))]])],[(.own 1 (map d_y (m67 [[(wrap .u8 (a0.f0)),(wrap .u8 ((ByteArray.size a0.f1:Int)))],(strInts a0.f1),(m112 a0.f2 4),(m112 a0.f3 4)])))],[(.own 1 (map d_y (m112 (Int.tmod (m113 (m67 [[(wrap .u8 (a0.f0)),(wrap .u8 ((ByteArray.size a0.f1:Int)))],(strInts a0.f1),(m112 a0.f2 4),(m112 a0.f3 4)])) 65536) 2)))]]))=true:=yaq
  have f29:toBR (take 3 (drop 0 [[(.own 1 [[(.val (.int .u8 (wrap .u8 (((length (map d_y (m67 [[(wrap .u8 (a0.f0)),(wrap .u8 ((ByteArray.size a0.f1:Int)))],(strInts a0.f1),(m112 a0.f2 4),(m112 a0.f3 4)]))):Int)))))]])],[(.own 1 (map d_y (m67 [[(wrap .u8 (a0.f0)),(wrap .u8 ((ByteArray.size a0.f1:Int)))],(strInts a0.f1),(m112 a0.f2 4),(m112 a0.f3 4)])))],[(.own 1 (map d_y (m112 (Int.tmod (m113 (m67 [[(wrap .u8 (a0.f0)),(wrap .u8 ((ByteArray.size a0.f1:Int)))],(strInts a0.f1),(m112 a0.f2 4),(m112 a0.f3 4)])) 65536) 2)))]]))=[[(.sl [[(.val (.int .u8 (wrap .u8 (((length (map d_y (m67 [[(wrap .u8 (a0.f0)),(wrap .u8 ((ByteArray.size a0.f1:Int)))],(strInts a0.f1),(m112 a0.f2 4),(m112 a0.f3 4)]))):Int)))))]])],[(.sl (toBR (map d_y (m67 [[(wrap .u8 (a0.f0)),(wrap .u8 ((ByteArray.size a0.f1:Int)))],(strInts a0.f1),(m112 a0.f2 4),(m112 a0.f3 4)]))))],[(.sl (toBR (map d_y (m112 (Int.tmod (m113 (m67 [[(wrap .u8 (a0.f0)),(wrap .u8 ((ByteArray.size a0.f1:Int)))],(strInts a0.f1),(m112 a0.f2 4),(m112 a0.f3 4)])) 65536) 2))))]]:=yO
  have f30:Ev F X (.call 67 [(.one (.bor 0 [[(.sl [[(.val (.int .u8 (wrap .u8 (((length (map d_y (m67 [[(wrap .u8 (a0.f0)),(wrap .u8 ((ByteArray.size a0.f1:Int)))],(strInts a0.f1),(m112 a0.f2 4),(m112 a0.f3 4)]))):Int)))))]])],[(.sl (toBR (map d_y (m67 [[(wrap .u8 (a0.f0)),(wrap .u8 ((ByteArray.size a0.f1:Int)))],(strInts a0.f1),(m112 a0.f2 4),(m112 a0.f3 4)]))))],[(.sl (toBR (map d_y (m112 (Int.tmod (m113 (m67 [[(wrap .u8 (a0.f0)),(wrap .u8 ((ByteArray.size a0.f1:Int)))],(strInts a0.f1),(m112 a0.f2 4),(m112 a0.f3 4)])) 65536) 2))))]]))] [] [] [(.one (.own 1 (map d_y (m67 [[(wrap .u8 (((length (map d_y (m67 [[(wrap .u8 (a0.f0)),(wrap .u8 ((ByteArray.size a0.f1:Int)))],(strInts a0.f1),(m112 a0.f2 4),(m112 a0.f3 4)]))):Int)))],(m67 [[(wrap .u8 (a0.f0)),(wrap .u8 ((ByteArray.size a0.f1:Int)))],(strInts a0.f1),(m112 a0.f2 4),(m112 a0.f3 4)]),(m112 (Int.tmod (m113 (m67 [[(wrap .u8 (a0.f0)),(wrap .u8 ((ByteArray.size a0.f1:Int)))],(strInts a0.f1),(m112 a0.f2 4),(m112 a0.f3 4)])) 65536) 2)]))))]):=(by rw[show (toBR (map d_y (m67 [[(wrap .u8 (a0.f0)),(wrap .u8 ((ByteArray.size a0.f1:Int)))],(strInts a0.f1),(m112 a0.f2 4),(m112 a0.f3 4)])))=(map b_y (m67 [[(wrap .u8 (a0.f0)),(wrap .u8 ((ByteArray.size a0.f1:Int)))],(strInts a0.f1),(m112 a0.f2 4),(m112 a0.f3 4)])) from by first | rfl |(simp[map_take,map_drop,four_len,high4,high2]; done) |(simp[byteRows_eq,map_take,map_drop,four_len,high4,high2]; done) |(simp[*,map_take,map_drop,four_len,high4,high2]; done) |(rw[take_of_length_le (by simp only[length_drop,length_take,length_map,Int.toNat_natCast]; omega)]; simp only[← map_drop,← map_take]),show (toBR (map d_y (m112 (Int.tmod (m113 (m67 [[(wrap .u8 (a0.f0)),(wrap .u8 ((ByteArray.size a0.f1:Int)))],(strInts a0.f1),(m112 a0.f2 4),(m112 a0.f3 4)])) 65536) 2)))=(map b_y (m112 (Int.tmod (m113 (m67 [[(wrap .u8 (a0.f0)),(wrap .u8 ((ByteArray.size a0.f1:Int)))],(strInts a0.f1),(m112 a0.f2 4),(m112 a0.f3 4)])) 65536) 2)) from by first | rfl |(simp[map_take,map_drop,four_len,high4,high2]; done) |(simp[byteRows_eq,map_take,map_drop,four_len,high4,high2]; done) |(simp[*,map_take,map_drop,four_len,high4,high2]; done) |(rw[take_of_length_le (by simp only[length_drop,length_take,length_map,Int.toNat_natCast]; omega)]; simp only[← map_drop,← map_take])]; exact(e67 (l0_0:=0) (a0:=[[(wrap .u8 (((length (map d_y (m67 [[(wrap .u8 (a0.f0)),(wrap .u8 ((ByteArray.size a0.f1:Int)))],(strInts a0.f1),(m112 a0.f2 4),(m112 a0.f3 4)]))):Int)))],(m67 [[(wrap .u8 (a0.f0)),(wrap .u8 ((ByteArray.size a0.f1:Int)))],(strInts a0.f1),(m112 a0.f2 4),(m112 a0.f3 4)]),(m112 (Int.tmod (m113 (m67 [[(wrap .u8 (a0.f0)),(wrap .u8 ((ByteArray.size a0.f1:Int)))],(strInts a0.f1),(m112 a0.f2 4),(m112 a0.f3 4)])) 65536) 2)]) (by rw[List.flatten_cons,List.flatten_cons,concat_is _ yZ]; simp only[List.flatten_cons,List.flatten_nil,List.append_nil,length_append,length_cons,length_nil,strInts_len,high4,high2]; omega) yZ))
  exact cp ya (.f f0 (.r 31 [] [] (e112 (a0:=a0.f2) (a1:=4) yb yb) (.r 37 [] [] (e112 (a0:=a0.f3) (a1:=4) yb yb) (pe 0 (pe 2 (pe 0 (.f f6 (pe 0 (pe (length (map d_y (m112 a0.f2 4))) (pe 0 (pe (length (map d_y (m112 a0.f3 4))) (.f f11 (.f f12 (.f f13 (.r 41 [] [[[(.sl [[(.val (.int .u8 (wrap .u8 (a0.f0))))],[(.val (.int .u8 (wrap .u8 ((ByteArray.size a0.f1:Int)))))]])],[(.sl (toBR (byteRows a0.f1)))],[(.sl (toBR (map d_y (m112 a0.f2 4))))],[(.sl (toBR (map d_y (m112 a0.f3 4))))]]] f14 (ln_y (m67 [[(wrap .u8 (a0.f0)),(wrap .u8 ((ByteArray.size a0.f1:Int)))],(strInts a0.f1),(m112 a0.f2 4),(m112 a0.f3 4)]) (.r 57 [] [(map b_y (m67 [[(wrap .u8 (a0.f0)),(wrap .u8 ((ByteArray.size a0.f1:Int)))],(strInts a0.f1),(m112 a0.f2 4),(m112 a0.f3 4)]))] (e113 (l0_0:=0) (a0:=(m67 [[(wrap .u8 (a0.f0)),(wrap .u8 ((ByteArray.size a0.f1:Int)))],(strInts a0.f1),(m112 a0.f2 4),(m112 a0.f3 4)])) (by rw[concat_is _ yZ]; simp only[List.flatten_cons,List.flatten_nil,List.append_nil,length_append,length_cons,length_nil,strInts_len,high4,high2]; omega)) (.f f19 (.r 61 [] [] (e112 (a0:=(Int.tmod (m113 (m67 [[(wrap .u8 (a0.f0)),(wrap .u8 ((ByteArray.size a0.f1:Int)))],(strInts a0.f1),(m112 a0.f2 4),(m112 a0.f3 4)])) 65536)) (a1:=2) yb yb) (pe 0 (pe 1 (pe 0 (pe (length (map d_y (m67 [[(wrap .u8 (a0.f0)),(wrap .u8 ((ByteArray.size a0.f1:Int)))],(strInts a0.f1),(m112 a0.f2 4),(m112 a0.f3 4)]))) (pe 0 (pe (length (map d_y (m112 (Int.tmod (m113 (m67 [[(wrap .u8 (a0.f0)),(wrap .u8 ((ByteArray.size a0.f1:Int)))],(strInts a0.f1),(m112 a0.f2 4),(m112 a0.f3 4)])) 65536) 2))) (.f f27 (.f f28 (.f f29 (.r 65 [] [[[(.sl [[(.val (.int .u8 (wrap .u8 (((length (map d_y (m67 [[(wrap .u8 (a0.f0)),(wrap .u8 ((ByteArray.size a0.f1:Int)))],(strInts a0.f1),(m112 a0.f2 4),(m112 a0.f3 4)]))):Int)))))]])],[(.sl (toBR (map d_y (m67 [[(wrap .u8 (a0.f0)),(wrap .u8 ((ByteArray.size a0.f1:Int)))],(strInts a0.f1),(m112 a0.f2 4),(m112 a0.f3 4)]))))],[(.sl (toBR (map d_y (m112 (Int.tmod (m113 (m67 [[(wrap .u8 (a0.f0)),(wrap .u8 ((ByteArray.size a0.f1:Int)))],(strInts a0.f1),(m112 a0.f2 4),(m112 a0.f3 4)])) 65536) 2))))]]] f30 (pe 0 (pe (length (map d_y (m67 [[(wrap .u8 (((length (map d_y (m67 [[(wrap .u8 (a0.f0)),(wrap .u8 ((ByteArray.size a0.f1:Int)))],(strInts a0.f1),(m112 a0.f2 4),(m112 a0.f3 4)]))):Int)))],(m67 [[(wrap .u8 (a0.f0)),(wrap .u8 ((ByteArray.size a0.f1:Int)))],(strInts a0.f1),(m112 a0.f2 4),(m112 a0.f3 4)]),(m112 (Int.tmod (m113 (m67 [[(wrap .u8 (a0.f0)),(wrap .u8 ((ByteArray.size a0.f1:Int)))],(strInts a0.f1),(m112 a0.f2 4),(m112 a0.f3 4)])) 65536) 2)]))) (.f (pureR_y (m67 [[(wrap .u8 (((length (map d_y (m67 [[(wrap .u8 (a0.f0)),(wrap .u8 ((ByteArray.size a0.f1:Int)))],(strInts a0.f1),(m112 a0.f2 4),(m112 a0.f3 4)]))):Int)))],(m67 [[(wrap .u8 (a0.f0)),(wrap .u8 ((ByteArray.size a0.f1:Int)))],(strInts a0.f1),(m112 a0.f2 4),(m112 a0.f3 4)]),(m112 (Int.tmod (m113 (m67 [[(wrap .u8 (a0.f0)),(wrap .u8 ((ByteArray.size a0.f1:Int)))],(strInts a0.f1),(m112 a0.f2 4),(m112 a0.f3 4)])) 65536) 2)])) .nil))))))))))))))))))))))))))))))))
theorem pack_len68 (a:K_isii) (h:ByteArray.size a.f1≤1000):length (m68 a)≤2000:=by
  unfold m68
  have h1:length (List.flatten [[(wrap .u8 (a.f0)),(wrap .u8 ((ByteArray.size a.f1:Int)))],(strInts a.f1),(m112 a.f2 4),(m112 a.f3 4)])≤1900:=by simp only[List.flatten_cons,List.flatten_nil,List.append_nil,length_append,length_cons,length_nil,strInts_len,high4,high2]; omega
  rw[concat_is _ (Nat.le_trans h1 yb)]
  rw[concat_is _ yZ]
  simp only[List.flatten_cons,List.flatten_nil,List.append_nil,length_append,length_cons,length_nil,strInts_len,high4,high2]; omega
theorem hi4b (a:Int):∀z∈m112 a 4,(0:Int)≤z∧z≤255:=by
  have h:m112 a 4=[wrap .u8 (Int.fdiv (Int.fdiv (Int.fdiv a (2 ^(min (toNat 8) (IntKind.bits .i64)))) (2 ^(min (toNat 8) (IntKind.bits .i64)))) (2 ^(min (toNat 8) (IntKind.bits .i64)))),wrap .u8 (Int.fdiv (Int.fdiv a (2 ^(min (toNat 8) (IntKind.bits .i64)))) (2 ^(min (toNat 8) (IntKind.bits .i64)))),wrap .u8 (Int.fdiv a (2 ^(min (toNat 8) (IntKind.bits .i64)))),wrap .u8 a]:=by kernel_rfl
  rw[h]
  intro z hz
  simp only[List.mem_cons,List.not_mem_nil,or_false] at hz
  rcases hz with rfl | rfl | rfl | rfl<;>exact u8_range _
theorem hi2b (a:Int):∀z∈m112 a 2,(0:Int)≤z∧z≤255:=by
  have h:m112 a 2=[wrap .u8 (Int.fdiv a (2 ^(min (toNat 8) (IntKind.bits .i64)))),wrap .u8 a]:=by kernel_rfl
  rw[h]
  intro z hz
  simp only[List.mem_cons,List.not_mem_nil,or_false] at hz
  rcases hz with rfl | rfl<;>exact u8_range _
theorem sib (s:ByteArray):∀z∈strInts s,(0:Int)≤z∧z≤255:=by
  intro z hz
  unfold strInts at hz
  obtain⟨b,_,rfl⟩:=List.mem_map.1 hz
  have:=b.toNat_lt; omega
theorem pib (a:K_isii) (h:ByteArray.size a.f1≤1000):∀z∈m68 a,(0:Int)≤z∧z≤255:=by
  unfold m68
  have h1:length (List.flatten [[(wrap .u8 (a.f0)),(wrap .u8 ((ByteArray.size a.f1:Int)))],(strInts a.f1),(m112 a.f2 4),(m112 a.f3 4)])≤1900:=by simp only[List.flatten_cons,List.flatten_nil,List.append_nil,length_append,length_cons,length_nil,strInts_len,high4,high2]; omega
  rw[concat_is _ (Nat.le_trans h1 yb)]
  rw[concat_is _ yZ]
  intro z hz
  simp only[List.flatten_cons,List.flatten_nil,List.append_nil,List.mem_append,List.mem_cons,List.not_mem_nil,or_false] at hz
  rcases hz with rfl |((rfl | rfl) | hz | hz | hz) | hz
  · exact u8_range _
  · exact u8_range _
  · exact u8_range _
  · exact sib _ z hz
  · exact hi4b _ z hz
  · exact hi4b _ z hz
  exact hi2b _ z hz
inductive O108_0 where
  |k0 (w0:Int) (w1:Int) (w2:Bool)
def r108_0 (a0:(List Int)):List Int→Int→Int→O108_0
  |x0::y0,i,v0=>
    (r108_0 a0 y0 (i+1) (bitsV .or .i64 (wrap .i64 (v0*2 ^(min (toNat 8) (IntKind.bits .i64)))) (wrap .i64 (x0))))
  |[],i,v0=>(O108_0.k0 v0 i (decide (i <((length (map b_y a0)):Int))))
def h108_0 (l0_0:Nat) (a0:(List Int)) (i:Int) (v0:Int):St:=⟨[(3,(.one (.val (.int .i64 v0)))),(6,(.one (.bor l0_0 (map b_y a0)))),(7,(.one (.val (.int .i64 ((length (map b_y a0)):Int))))),(8,(.one (.val (.int .i64 i))))],[]⟩
def ex108_0:O108_0→VX.Exit
  |.k0 _ _ _=>(.exit 0)
def fin108_0 (l0_0:Nat) (a0:(List Int)):O108_0→St
  |.k0 w0 w1 w2=>⟨[(3,(.one (.val (.int .i64 w0)))),(6,(.one (.bor l0_0 (map b_y a0)))),(7,(.one (.val (.int .i64 ((length (map b_y a0)):Int))))),(8,(.one (.val (.int .i64 w1)))),(9,(.one (.val (.bool w2))))],[]⟩
theorem t108_0 {l0_0:Nat} {a0:(List Int)} (hy0:length a0*1≤140737488351232):∀(y0:List Int) (p:List Int) (v0:Int),p++y0=a0→Ev F X (.code l108_0 (h108_0 l0_0 a0 (length p:Int) v0) (ex108_0 (r108_0 a0 y0 (length p:Int) v0)) (fin108_0 l0_0 a0 (r108_0 a0 y0 (length p:Int) v0)))
  |[],p,v0,hp0=>by
    have hc:¬(decide ((length p:Int) <((length (map b_y a0)):Int)))=true:=by
      rw[← hp0]; simp only[LN,decide_eq_true_eq]; omega
    have st:=ch b108_0 (h108_0 l0_0 a0 (length p:Int) v0) ⟨[(3,(.oi v0)),(6,(.one (.bor l0_0 (map b_y a0)))),(7,(.oi ((length (map b_y a0)):Int))),(8,(.oi (length p:Int))),(9,(.one (.val (.bool (decide ((length p:Int) <((length (map b_y a0)):Int)))))))],[]⟩ (.exit 0) 3 (by kernel_rfl) (.f (nt hc) (U 2 .nil))
    rw[show (⟨[(3,(.oi v0)),(6,(.one (.bor l0_0 (map b_y a0)))),(7,(.oi ((length (map b_y a0)):Int))),(8,(.oi (length p:Int))),(9,(.one (.val (.bool (decide ((length p:Int) <((length (map b_y a0)):Int)))))))],[]⟩:St)=fin108_0 l0_0 a0 (.k0 v0 (length p:Int) (decide ((length p:Int) <((length (map b_y a0)):Int)))) from(by rfl)] at st
    exact .loopX st (show ((.exit 0):VX.Exit)≠.normal from by simp)
  |x0::y0,p,v0,hp0=>by
    have hc:(decide ((length p:Int) <((length (map b_y a0)):Int)))=true:=by
      rw[← hp0]; simp only[LN,decide_eq_true_eq]; omega
    have Hx0:(a0)[toNat (length p:Int)]?=some x0:=by
      rw[← hp0,Int.toNat_natCast]; simp
    have hlen:length (a0)=length p+length y0+1:=by rw[← hp0]; simp; omega
    have hw:wrap .i64 ((length p:Int)+1)=(length p:Int)+1:=wrap64 (by omega)
    simp only[r108_0]
    have f1:0≤(length p:Int):=(by omega)
    have f3:0≤(8:Int):=(by omega)
    have st:=ch b108_0 (h108_0 l0_0 a0 (length p:Int) v0) ⟨[(3,(.oi (bitsV .or .i64 (wrap .i64 (v0*2 ^(min (toNat 8) (IntKind.bits .i64)))) (wrap .i64 (x0))))),(6,(.one (.bor l0_0 (map b_y a0)))),(7,(.oi ((length (map b_y a0)):Int))),(8,(.oi (wrap .i64 ((length p:Int)+1))))],[]⟩ .normal 25 (by kernel_rfl) (.f hc (.f f1 (.f (mp_ b_y Hx0) (.f f3 (.f trivial (T 2 (.h 4 (.row [(.val (.int .u8 x0))]) .nil)))))))
    have ih:=t108_0 (l0_0:=l0_0) (a0:=a0) hy0 y0 (p++ [x0]) (bitsV .or .i64 (wrap .i64 (v0*2 ^(min (toNat 8) (IntKind.bits .i64)))) (wrap .i64 (x0))) (by rw[append_assoc]; exact hp0)
    rw[show ((p++ [x0]).length:Int)=(p.length:Int)+1 from by simp] at ih
    rw[show (⟨[(3,(.oi (bitsV .or .i64 (wrap .i64 (v0*2 ^(min (toNat 8) (IntKind.bits .i64)))) (wrap .i64 (x0))))),(6,(.one (.bor l0_0 (map b_y a0)))),(7,(.oi ((length (map b_y a0)):Int))),(8,(.oi (wrap .i64 ((length p:Int)+1))))],[]⟩:St)=h108_0 l0_0 a0 ((length p:Int)+1) (bitsV .or .i64 (wrap .i64 (v0*2 ^(min (toNat 8) (IntKind.bits .i64)))) (wrap .i64 (x0))) from(by unfold h108_0; simp only[hw]; done)] at st
    exact .loopN st ih
def m108 (a0:(List Int)):Int:=
  (match r108_0 a0 a0 0 0 with | .k0 w0_0 w1_0 w2_0=>w0_0)
theorem e108 {l0_0:Nat} {a0:(List Int)} (hy0:length a0*1≤140737488351232):Ev F X (.call 108 [(.one (.bor l0_0 (map b_y a0)))] [] [] [(.one (.val (.int .i64 (m108 a0))))]):=by
  unfold m108
  cases h0:r108_0 a0 a0 0 0 with
  |k0 w0_0 w1_0 w2_0=>
    try dsimp only
    have f0:(⟨[(3,(.oi 0)),(6,(.one (.bor l0_0 (map b_y a0)))),(7,(.oi ((length (map b_y a0)):Int))),(8,(.oi 0))],[]⟩:St)=h108_0 l0_0 a0 0 0:=yv
    exact cp ya (.f f0 (.f (ev_ (e:=ex108_0) (g:=(fin108_0 l0_0 a0)) h0 (t108_0 (l0_0:=l0_0) (a0:=a0) (by assumption) a0 [] 0 rfl)) (.h 10 (.loop (h108_0 l0_0 a0 0 0) (.exit 0) ⟨[(3,(.oi w0_0)),(6,(.one (.bor l0_0 (map b_y a0)))),(7,(.oi ((length (map b_y a0)):Int))),(8,(.oi w1_0)),(9,(.one (.val (.bool w2_0))))],[]⟩) .nil)))
theorem e139 {l0_0:Nat} {a0:(List Int)} {l1_0:Nat} {a1:(List Int)}:Ev F X (.call 139 [(.one (.bor l0_0 (map b_y a0))),(.one (.bor l1_0 (map b_y a1)))] [] [] [(.one (.val (.bool ((bytesOf a0).toList==(bytesOf a1).toList))))]):=by
  have f0:rowsInts .u8 (fromBR l0_0 (map b_y a0))=some a0:=yav
  have f1:rowsInts .u8 (fromBR l1_0 (map b_y a1))=some a1:=yav
  exact cp ya (.f f0 (.f f1 (.h 5 (.ints a0) (.h 9 (.ints a1) .nil))))
theorem e109 {l0_0:Nat} {a0:(List Int)} {l1_0:Nat} {a1:(List Int)}:Ev F X (.call 109 [(.one (.bor l0_0 (map b_y a0))),(.one (.bor l1_0 (map b_y a1)))] [] [] [(.one (.val (.bool ((bytesOf a0).toList==(bytesOf a1).toList))))]):=by
  exact cp ya (.r 7 [] [] (e139 (l0_0:=(l0_0+1)) (l1_0:=(l1_0+1)) (a0:=a0) (a1:=a1)) .nil)
def m63_0 (a0:(List Int)):K_isii:=
  if(((length (map b_y a0)):Int)==0)=true then(K_isii.mk 0 (⟨#[]⟩:ByteArray) 0 0) else
  if(decide (((length (map b_y a0)):Int) <(wrap .i64 ((wrap .i64 (1+(wrap .i64 ((getD a0 0 0)))))+2))))=true then(K_isii.mk 0 (⟨#[]⟩:ByteArray) 0 0) else
    if(decide ((wrap .i64 ((getD a0 0 0))) < 10))=true then(K_isii.mk 0 (⟨#[]⟩:ByteArray) 0 0) else
      if((wrap .i64 ((getD a0 0 0))) !=(wrap .i64 ((wrap .i64 (2+(wrap .i64 ((getD (take (toNat (wrap .i64 (1+(wrap .i64 ((getD a0 0 0))))) - toNat 1) (drop 1 a0)) 1 0)))))+8)))=true then(K_isii.mk 0 (⟨#[]⟩:ByteArray) 0 0) else
        if((m24 (K_isii.mk (wrap .i64 ((getD (take (toNat (wrap .i64 (1+(wrap .i64 ((getD a0 0 0))))) - toNat 1) (drop 1 a0)) 0 0))) (bytesOf (take (toNat (wrap .i64 (2+(wrap .i64 ((getD (take (toNat (wrap .i64 (1+(wrap .i64 ((getD a0 0 0))))) - toNat 1) (drop 1 a0)) 1 0))))) - toNat 2) (drop 2 (take (toNat (wrap .i64 (1+(wrap .i64 ((getD a0 0 0))))) - toNat 1) (drop 1 a0))))) (m108 (take (toNat (wrap .i64 ((wrap .i64 (2+(wrap .i64 ((getD (take (toNat (wrap .i64 (1+(wrap .i64 ((getD a0 0 0))))) - toNat 1) (drop 1 a0)) 1 0)))))+4)) - toNat (wrap .i64 (2+(wrap .i64 ((getD (take (toNat (wrap .i64 (1+(wrap .i64 ((getD a0 0 0))))) - toNat 1) (drop 1 a0)) 1 0)))))) (drop (toNat (wrap .i64 (2+(wrap .i64 ((getD (take (toNat (wrap .i64 (1+(wrap .i64 ((getD a0 0 0))))) - toNat 1) (drop 1 a0)) 1 0)))))) (take (toNat (wrap .i64 (1+(wrap .i64 ((getD a0 0 0))))) - toNat 1) (drop 1 a0))))) (m108 (drop (toNat (wrap .i64 ((wrap .i64 (2+(wrap .i64 ((getD (take (toNat (wrap .i64 (1+(wrap .i64 ((getD a0 0 0))))) - toNat 1) (drop 1 a0)) 1 0)))))+4))) (take (toNat (wrap .i64 (1+(wrap .i64 ((getD a0 0 0))))) - toNat 1) (drop 1 a0)))))) !=0)=true then(K_isii.mk 0 (⟨#[]⟩:ByteArray) 0 0) else
          if(!((bytesOf (m68 (K_isii.mk (wrap .i64 ((getD (take (toNat (wrap .i64 (1+(wrap .i64 ((getD a0 0 0))))) - toNat 1) (drop 1 a0)) 0 0))) (bytesOf (take (toNat (wrap .i64 (2+(wrap .i64 ((getD (take (toNat (wrap .i64 (1+(wrap .i64 ((getD a0 0 0))))) - toNat 1) (drop 1 a0)) 1 0))))) - toNat 2) (drop 2 (take (toNat (wrap .i64 (1+(wrap .i64 ((getD a0 0 0))))) - toNat 1) (drop 1 a0))))) (m108 (take (toNat (wrap .i64 ((wrap .i64 (2+(wrap .i64 ((getD (take (toNat (wrap .i64 (1+(wrap .i64 ((getD a0 0 0))))) - toNat 1) (drop 1 a0)) 1 0)))))+4)) - toNat (wrap .i64 (2+(wrap .i64 ((getD (take (toNat (wrap .i64 (1+(wrap .i64 ((getD a0 0 0))))) - toNat 1) (drop 1 a0)) 1 0)))))) (drop (toNat (wrap .i64 (2+(wrap .i64 ((getD (take (toNat (wrap .i64 (1+(wrap .i64 ((getD a0 0 0))))) - toNat 1) (drop 1 a0)) 1 0)))))) (take (toNat (wrap .i64 (1+(wrap .i64 ((getD a0 0 0))))) - toNat 1) (drop 1 a0))))) (m108 (drop (toNat (wrap .i64 ((wrap .i64 (2+(wrap .i64 ((getD (take (toNat (wrap .i64 (1+(wrap .i64 ((getD a0 0 0))))) - toNat 1) (drop 1 a0)) 1 0)))))+4))) (take (toNat (wrap .i64 (1+(wrap .i64 ((getD a0 0 0))))) - toNat 1) (drop 1 a0))))))).toList==(bytesOf (take (toNat (wrap .i64 ((wrap .i64 (1+(wrap .i64 ((getD a0 0 0)))))+2))) a0)).toList))=true then(K_isii.mk 0 (⟨#[]⟩:ByteArray) 0 0) else
            (K_isii.mk (wrap .i64 ((getD (take (toNat (wrap .i64 (1+(wrap .i64 ((getD a0 0 0))))) - toNat 1) (drop 1 a0)) 0 0))) (bytesOf (take (toNat (wrap .i64 (2+(wrap .i64 ((getD (take (toNat (wrap .i64 (1+(wrap .i64 ((getD a0 0 0))))) - toNat 1) (drop 1 a0)) 1 0))))) - toNat 2) (drop 2 (take (toNat (wrap .i64 (1+(wrap .i64 ((getD a0 0 0))))) - toNat 1) (drop 1 a0))))) (m108 (take (toNat (wrap .i64 ((wrap .i64 (2+(wrap .i64 ((getD (take (toNat (wrap .i64 (1+(wrap .i64 ((getD a0 0 0))))) - toNat 1) (drop 1 a0)) 1 0)))))+4)) - toNat (wrap .i64 (2+(wrap .i64 ((getD (take (toNat (wrap .i64 (1+(wrap .i64 ((getD a0 0 0))))) - toNat 1) (drop 1 a0)) 1 0)))))) (drop (toNat (wrap .i64 (2+(wrap .i64 ((getD (take (toNat (wrap .i64 (1+(wrap .i64 ((getD a0 0 0))))) - toNat 1) (drop 1 a0)) 1 0)))))) (take (toNat (wrap .i64 (1+(wrap .i64 ((getD a0 0 0))))) - toNat 1) (drop 1 a0))))) (m108 (drop (toNat (wrap .i64 ((wrap .i64 (2+(wrap .i64 ((getD (take (toNat (wrap .i64 (1+(wrap .i64 ((getD a0 0 0))))) - toNat 1) (drop 1 a0)) 1 0)))))+4))) (take (toNat (wrap .i64 (1+(wrap .i64 ((getD a0 0 0))))) - toNat 1) (drop 1 a0)))))
def m63_1 (a0:(List Int)):Int:=
  if(((length (map b_y a0)):Int)==0)=true then 0 else
  if(decide (((length (map b_y a0)):Int) <(wrap .i64 ((wrap .i64 (1+(wrap .i64 ((getD a0 0 0)))))+2))))=true then 0 else
    if(decide ((wrap .i64 ((getD a0 0 0))) < 10))=true then 0 else
      if((wrap .i64 ((getD a0 0 0))) !=(wrap .i64 ((wrap .i64 (2+(wrap .i64 ((getD (take (toNat (wrap .i64 (1+(wrap .i64 ((getD a0 0 0))))) - toNat 1) (drop 1 a0)) 1 0)))))+8)))=true then 0 else
        if((m24 (K_isii.mk (wrap .i64 ((getD (take (toNat (wrap .i64 (1+(wrap .i64 ((getD a0 0 0))))) - toNat 1) (drop 1 a0)) 0 0))) (bytesOf (take (toNat (wrap .i64 (2+(wrap .i64 ((getD (take (toNat (wrap .i64 (1+(wrap .i64 ((getD a0 0 0))))) - toNat 1) (drop 1 a0)) 1 0))))) - toNat 2) (drop 2 (take (toNat (wrap .i64 (1+(wrap .i64 ((getD a0 0 0))))) - toNat 1) (drop 1 a0))))) (m108 (take (toNat (wrap .i64 ((wrap .i64 (2+(wrap .i64 ((getD (take (toNat (wrap .i64 (1+(wrap .i64 ((getD a0 0 0))))) - toNat 1) (drop 1 a0)) 1 0)))))+4)) - toNat (wrap .i64 (2+(wrap .i64 ((getD (take (toNat (wrap .i64 (1+(wrap .i64 ((getD a0 0 0))))) - toNat 1) (drop 1 a0)) 1 0)))))) (drop (toNat (wrap .i64 (2+(wrap .i64 ((getD (take (toNat (wrap .i64 (1+(wrap .i64 ((getD a0 0 0))))) - toNat 1) (drop 1 a0)) 1 0)))))) (take (toNat (wrap .i64 (1+(wrap .i64 ((getD a0 0 0))))) - toNat 1) (drop 1 a0))))) (m108 (drop (toNat (wrap .i64 ((wrap .i64 (2+(wrap .i64 ((getD (take (toNat (wrap .i64 (1+(wrap .i64 ((getD a0 0 0))))) - toNat 1) (drop 1 a0)) 1 0)))))+4))) (take (toNat (wrap .i64 (1+(wrap .i64 ((getD a0 0 0))))) - toNat 1) (drop 1 a0)))))) !=0)=true then 0 else
          if(!((bytesOf (m68 (K_isii.mk (wrap .i64 ((getD (take (toNat (wrap .i64 (1+(wrap .i64 ((getD a0 0 0))))) - toNat 1) (drop 1 a0)) 0 0))) (bytesOf (take (toNat (wrap .i64 (2+(wrap .i64 ((getD (take (toNat (wrap .i64 (1+(wrap .i64 ((getD a0 0 0))))) - toNat 1) (drop 1 a0)) 1 0))))) - toNat 2) (drop 2 (take (toNat (wrap .i64 (1+(wrap .i64 ((getD a0 0 0))))) - toNat 1) (drop 1 a0))))) (m108 (take (toNat (wrap .i64 ((wrap .i64 (2+(wrap .i64 ((getD (take (toNat (wrap .i64 (1+(wrap .i64 ((getD a0 0 0))))) - toNat 1) (drop 1 a0)) 1 0)))))+4)) - toNat (wrap .i64 (2+(wrap .i64 ((getD (take (toNat (wrap .i64 (1+(wrap .i64 ((getD a0 0 0))))) - toNat 1) (drop 1 a0)) 1 0)))))) (drop (toNat (wrap .i64 (2+(wrap .i64 ((getD (take (toNat (wrap .i64 (1+(wrap .i64 ((getD a0 0 0))))) - toNat 1) (drop 1 a0)) 1 0)))))) (take (toNat (wrap .i64 (1+(wrap .i64 ((getD a0 0 0))))) - toNat 1) (drop 1 a0))))) (m108 (drop (toNat (wrap .i64 ((wrap .i64 (2+(wrap .i64 ((getD (take (toNat (wrap .i64 (1+(wrap .i64 ((getD a0 0 0))))) - toNat 1) (drop 1 a0)) 1 0)))))+4))) (take (toNat (wrap .i64 (1+(wrap .i64 ((getD a0 0 0))))) - toNat 1) (drop 1 a0))))))).toList==(bytesOf (take (toNat (wrap .i64 ((wrap .i64 (1+(wrap .i64 ((getD a0 0 0)))))+2))) a0)).toList))=true then 0 else
            ((length (take (toNat (wrap .i64 ((wrap .i64 (1+(wrap .i64 ((getD a0 0 0)))))+2)) - toNat 0) (drop 0 (map b_y a0)))):Int)
def m63_2 (a0:(List Int)):Bool:=
  if(((length (map b_y a0)):Int)==0)=true then false else
  if(decide (((length (map b_y a0)):Int) <(wrap .i64 ((wrap .i64 (1+(wrap .i64 ((getD a0 0 0)))))+2))))=true then false else
    if(decide ((wrap .i64 ((getD a0 0 0))) < 10))=true then false else
      if((wrap .i64 ((getD a0 0 0))) !=(wrap .i64 ((wrap .i64 (2+(wrap .i64 ((getD (take (toNat (wrap .i64 (1+(wrap .i64 ((getD a0 0 0))))) - toNat 1) (drop 1 a0)) 1 0)))))+8)))=true then false else
        if((m24 (K_isii.mk (wrap .i64 ((getD (take (toNat (wrap .i64 (1+(wrap .i64 ((getD a0 0 0))))) - toNat 1) (drop 1 a0)) 0 0))) (bytesOf (take (toNat (wrap .i64 (2+(wrap .i64 ((getD (take (toNat (wrap .i64 (1+(wrap .i64 ((getD a0 0 0))))) - toNat 1) (drop 1 a0)) 1 0))))) - toNat 2) (drop 2 (take (toNat (wrap .i64 (1+(wrap .i64 ((getD a0 0 0))))) - toNat 1) (drop 1 a0))))) (m108 (take (toNat (wrap .i64 ((wrap .i64 (2+(wrap .i64 ((getD (take (toNat (wrap .i64 (1+(wrap .i64 ((getD a0 0 0))))) - toNat 1) (drop 1 a0)) 1 0)))))+4)) - toNat (wrap .i64 (2+(wrap .i64 ((getD (take (toNat (wrap .i64 (1+(wrap .i64 ((getD a0 0 0))))) - toNat 1) (drop 1 a0)) 1 0)))))) (drop (toNat (wrap .i64 (2+(wrap .i64 ((getD (take (toNat (wrap .i64 (1+(wrap .i64 ((getD a0 0 0))))) - toNat 1) (drop 1 a0)) 1 0)))))) (take (toNat (wrap .i64 (1+(wrap .i64 ((getD a0 0 0))))) - toNat 1) (drop 1 a0))))) (m108 (drop (toNat (wrap .i64 ((wrap .i64 (2+(wrap .i64 ((getD (take (toNat (wrap .i64 (1+(wrap .i64 ((getD a0 0 0))))) - toNat 1) (drop 1 a0)) 1 0)))))+4))) (take (toNat (wrap .i64 (1+(wrap .i64 ((getD a0 0 0))))) - toNat 1) (drop 1 a0)))))) !=0)=true then false else
          if(!((bytesOf (m68 (K_isii.mk (wrap .i64 ((getD (take (toNat (wrap .i64 (1+(wrap .i64 ((getD a0 0 0))))) - toNat 1) (drop 1 a0)) 0 0))) (bytesOf (take (toNat (wrap .i64 (2+(wrap .i64 ((getD (take (toNat (wrap .i64 (1+(wrap .i64 ((getD a0 0 0))))) - toNat 1) (drop 1 a0)) 1 0))))) - toNat 2) (drop 2 (take (toNat (wrap .i64 (1+(wrap .i64 ((getD a0 0 0))))) - toNat 1) (drop 1 a0))))) (m108 (take (toNat (wrap .i64 ((wrap .i64 (2+(wrap .i64 ((getD (take (toNat (wrap .i64 (1+(wrap .i64 ((getD a0 0 0))))) - toNat 1) (drop 1 a0)) 1 0)))))+4)) - toNat (wrap .i64 (2+(wrap .i64 ((getD (take (toNat (wrap .i64 (1+(wrap .i64 ((getD a0 0 0))))) - toNat 1) (drop 1 a0)) 1 0)))))) (drop (toNat (wrap .i64 (2+(wrap .i64 ((getD (take (toNat (wrap .i64 (1+(wrap .i64 ((getD a0 0 0))))) - toNat 1) (drop 1 a0)) 1 0)))))) (take (toNat (wrap .i64 (1+(wrap .i64 ((getD a0 0 0))))) - toNat 1) (drop 1 a0))))) (m108 (drop (toNat (wrap .i64 ((wrap .i64 (2+(wrap .i64 ((getD (take (toNat (wrap .i64 (1+(wrap .i64 ((getD a0 0 0))))) - toNat 1) (drop 1 a0)) 1 0)))))+4))) (take (toNat (wrap .i64 (1+(wrap .i64 ((getD a0 0 0))))) - toNat 1) (drop 1 a0))))))).toList==(bytesOf (take (toNat (wrap .i64 ((wrap .i64 (1+(wrap .i64 ((getD a0 0 0)))))+2))) a0)).toList))=true then false else
            true
theorem e63 {l0_0:Nat} {a0:(List Int)} (hy0:∀z∈a0,(0:Int)≤z∧z≤255) (hy1:length a0≤140737488351232):Ev F X (.call 63 [(.one (.bor l0_0 (map b_y a0)))] [] [] [(.agg [(.val (.int .i64 ((m63_0 a0).f0))),(.val (.string ((m63_0 a0).f1))),(.val (.int .i64 ((m63_0 a0).f2))),(.val (.int .i64 ((m63_0 a0).f3)))]),(.one (.val (.int .i64 (m63_1 a0)))),(.one (.val (.bool (m63_2 a0))))]):=by
  unfold m63_0 m63_1 m63_2
  by_cases h0:(((length (map b_y a0)):Int)==0)=true
  · try simp only[if_pos h0]
    exact cp ya (.f h0 (T 12 .nil))
  try simp only[if_neg h0]
  have f1:0≤(0:Int):=yb
  have P1 {hs q} (r:PS F X hs q):=(PS.f (nt h0) (.f f1 (.f (mp_ b_y (getD_at a0 0 0 yH)) (.f trivial (.f trivial (U 12 (.h 16 (.row [(.val (.int .u8 (getD a0 0 0)))]) r)))))))
  by_cases h1:(decide (((length (map b_y a0)):Int) <(wrap .i64 ((wrap .i64 (1+(wrap .i64 ((getD a0 0 0)))))+2))))=true
  · try simp only[if_pos h1]
    exact cp ya (P1 (.f h1 (.f h1 (.f h1 (T 37 (T 39 (T 42 .nil)))))))
  try simp only[if_neg h1]
  have P2 {hs q} (r:PS F X hs q):=(P1 (N h1 (N h1 (N h1 (U 37 (U 39 (U 42 r)))))))
  by_cases h2:(decide ((wrap .i64 ((getD a0 0 0))) < 10))=true
  · try simp only[if_pos h2]
    exact cp ya (P2 (.f h2 (T 43 .nil)))
  try simp only[if_neg h2]
  have f11:(0≤(0:Int)∧(0:Int)≤(wrap .i64 ((wrap .i64 (1+(wrap .i64 ((getD a0 0 0)))))+2))∧(wrap .i64 ((wrap .i64 (1+(wrap .i64 ((getD a0 0 0)))))+2))≤((length (map b_y a0)):Int))∧∀r∈((map b_y a0):List (List B)),r.length=1:=yi
  have f13:(0≤(1:Int)∧(1:Int)≤(wrap .i64 (1+(wrap .i64 ((getD a0 0 0)))))∧(wrap .i64 (1+(wrap .i64 ((getD a0 0 0)))))≤((length (map b_y a0)):Int))∧∀r∈((map b_y a0):List (List B)),r.length=1:=yi
  have f14:0≤(1:Int):=yb
  have f15:(take (toNat (wrap .i64 (1+(wrap .i64 ((getD a0 0 0))))) - toNat 1) (drop 1 (map b_y a0)))[1]?=some [(.val (.int .u8 (getD (take (toNat (wrap .i64 (1+(wrap .i64 ((getD a0 0 0))))) - toNat 1) (drop 1 a0)) 1 0)))]:=(by simp only[← map_drop,← map_take]; rw[getElem?_map,getD_at (take (toNat (wrap .i64 (1+(wrap .i64 ((getD a0 0 0))))) - toNat 1) (drop 1 a0)) 1 0 yH]; rfl)
  have P3 {hs q} (r:PS F X hs q):=(P2 (N h2 (.f trivial (.f trivial (.f f11 (.f trivial (.f f13 (.f f14 (.f f15 (.f trivial (.f trivial (U 43 (.h 69 (.row [(.val (.int .u8 (getD (take (toNat (wrap .i64 (1+(wrap .i64 ((getD a0 0 0))))) - toNat 1) (drop 1 a0)) 1 0)))]) r)))))))))))))
  by_cases h3:((wrap .i64 ((getD a0 0 0))) !=(wrap .i64 ((wrap .i64 (2+(wrap .i64 ((getD (take (toNat (wrap .i64 (1+(wrap .i64 ((getD a0 0 0))))) - toNat 1) (drop 1 a0)) 1 0)))))+8)))=true
  · try simp only[if_pos h3]
    exact cp ya (P3 (.f h3 (T 86 .nil)))
  try simp only[if_neg h3]
  have f20:(take (toNat (wrap .i64 (1+(wrap .i64 ((getD a0 0 0))))) - toNat 1) (drop 1 (map b_y a0)))[0]?=some [(.val (.int .u8 (getD (take (toNat (wrap .i64 (1+(wrap .i64 ((getD a0 0 0))))) - toNat 1) (drop 1 a0)) 0 0)))]:=(by simp only[← map_drop,← map_take]; rw[getElem?_map,getD_at (take (toNat (wrap .i64 (1+(wrap .i64 ((getD a0 0 0))))) - toNat 1) (drop 1 a0)) 0 0 yH]; rfl)
  have f21:(0≤(2:Int)∧(2:Int)≤(wrap .i64 (2+(wrap .i64 ((getD (take (toNat (wrap .i64 (1+(wrap .i64 ((getD a0 0 0))))) - toNat 1) (drop 1 a0)) 1 0)))))∧(wrap .i64 (2+(wrap .i64 ((getD (take (toNat (wrap .i64 (1+(wrap .i64 ((getD a0 0 0))))) - toNat 1) (drop 1 a0)) 1 0)))))≤((length (take (toNat (wrap .i64 (1+(wrap .i64 ((getD a0 0 0))))) - toNat 1) (drop 1 (map b_y a0)))):Int))∧∀r∈((take (toNat (wrap .i64 (1+(wrap .i64 ((getD a0 0 0))))) - toNat 1) (drop 1 (map b_y a0))):List (List B)),r.length=1:=yi
  have f22:rowsInts .u8 (fromBR l0_0 (take (toNat (wrap .i64 (2+(wrap .i64 ((getD (take (toNat (wrap .i64 (1+(wrap .i64 ((getD a0 0 0))))) - toNat 1) (drop 1 a0)) 1 0))))) - toNat 2) (drop 2 (take (toNat (wrap .i64 (1+(wrap .i64 ((getD a0 0 0))))) - toNat 1) (drop 1 (map b_y a0))))))=some (take (toNat (wrap .i64 (2+(wrap .i64 ((getD (take (toNat (wrap .i64 (1+(wrap .i64 ((getD a0 0 0))))) - toNat 1) (drop 1 a0)) 1 0))))) - toNat 2) (drop 2 (take (toNat (wrap .i64 (1+(wrap .i64 ((getD a0 0 0))))) - toNat 1) (drop 1 a0)))):=yaj
  have f24:(0≤(wrap .i64 (2+(wrap .i64 ((getD (take (toNat (wrap .i64 (1+(wrap .i64 ((getD a0 0 0))))) - toNat 1) (drop 1 a0)) 1 0)))))∧(wrap .i64 (2+(wrap .i64 ((getD (take (toNat (wrap .i64 (1+(wrap .i64 ((getD a0 0 0))))) - toNat 1) (drop 1 a0)) 1 0)))))≤(wrap .i64 ((wrap .i64 (2+(wrap .i64 ((getD (take (toNat (wrap .i64 (1+(wrap .i64 ((getD a0 0 0))))) - toNat 1) (drop 1 a0)) 1 0)))))+4))∧(wrap .i64 ((wrap .i64 (2+(wrap .i64 ((getD (take (toNat (wrap .i64 (1+(wrap .i64 ((getD a0 0 0))))) - toNat 1) (drop 1 a0)) 1 0)))))+4))≤((length (take (toNat (wrap .i64 (1+(wrap .i64 ((getD a0 0 0))))) - toNat 1) (drop 1 (map b_y a0)))):Int))∧∀r∈((take (toNat (wrap .i64 (1+(wrap .i64 ((getD a0 0 0))))) - toNat 1) (drop 1 (map b_y a0))):List (List B)),r.length=1:=yi
  have f25:Ev F X (.call 108 [(.one (.bor (l0_0+1) (take (toNat (wrap .i64 ((wrap .i64 (2+(wrap .i64 ((getD (take (toNat (wrap .i64 (1+(wrap .i64 ((getD a0 0 0))))) - toNat 1) (drop 1 a0)) 1 0)))))+4)) - toNat (wrap .i64 (2+(wrap .i64 ((getD (take (toNat (wrap .i64 (1+(wrap .i64 ((getD a0 0 0))))) - toNat 1) (drop 1 a0)) 1 0)))))) (drop (toNat (wrap .i64 (2+(wrap .i64 ((getD (take (toNat (wrap .i64 (1+(wrap .i64 ((getD a0 0 0))))) - toNat 1) (drop 1 a0)) 1 0)))))) (take (toNat (wrap .i64 (1+(wrap .i64 ((getD a0 0 0))))) - toNat 1) (drop 1 (map b_y a0)))))))] [] [] [(.oi (m108 (take (toNat (wrap .i64 ((wrap .i64 (2+(wrap .i64 ((getD (take (toNat (wrap .i64 (1+(wrap .i64 ((getD a0 0 0))))) - toNat 1) (drop 1 a0)) 1 0)))))+4)) - toNat (wrap .i64 (2+(wrap .i64 ((getD (take (toNat (wrap .i64 (1+(wrap .i64 ((getD a0 0 0))))) - toNat 1) (drop 1 a0)) 1 0)))))) (drop (toNat (wrap .i64 (2+(wrap .i64 ((getD (take (toNat (wrap .i64 (1+(wrap .i64 ((getD a0 0 0))))) - toNat 1) (drop 1 a0)) 1 0)))))) (take (toNat (wrap .i64 (1+(wrap .i64 ((getD a0 0 0))))) - toNat 1) (drop 1 a0))))))]):=(by rw[show (take (toNat (wrap .i64 ((wrap .i64 (2+(wrap .i64 ((getD (take (toNat (wrap .i64 (1+(wrap .i64 ((getD a0 0 0))))) - toNat 1) (drop 1 a0)) 1 0)))))+4)) - toNat (wrap .i64 (2+(wrap .i64 ((getD (take (toNat (wrap .i64 (1+(wrap .i64 ((getD a0 0 0))))) - toNat 1) (drop 1 a0)) 1 0)))))) (drop (toNat (wrap .i64 (2+(wrap .i64 ((getD (take (toNat (wrap .i64 (1+(wrap .i64 ((getD a0 0 0))))) - toNat 1) (drop 1 a0)) 1 0)))))) (take (toNat (wrap .i64 (1+(wrap .i64 ((getD a0 0 0))))) - toNat 1) (drop 1 (map b_y a0)))))=(map b_y (take (toNat (wrap .i64 ((wrap .i64 (2+(wrap .i64 ((getD (take (toNat (wrap .i64 (1+(wrap .i64 ((getD a0 0 0))))) - toNat 1) (drop 1 a0)) 1 0)))))+4)) - toNat (wrap .i64 (2+(wrap .i64 ((getD (take (toNat (wrap .i64 (1+(wrap .i64 ((getD a0 0 0))))) - toNat 1) (drop 1 a0)) 1 0)))))) (drop (toNat (wrap .i64 (2+(wrap .i64 ((getD (take (toNat (wrap .i64 (1+(wrap .i64 ((getD a0 0 0))))) - toNat 1) (drop 1 a0)) 1 0)))))) (take (toNat (wrap .i64 (1+(wrap .i64 ((getD a0 0 0))))) - toNat 1) (drop 1 a0))))) from by first | rfl |(simp[map_take,map_drop,four_len,high4,high2]; done) |(simp[byteRows_eq,map_take,map_drop,four_len,high4,high2]; done) |(simp[*,map_take,map_drop,four_len,high4,high2]; done) |(rw[take_of_length_le (by simp only[length_drop,length_take,length_map,Int.toNat_natCast]; omega)]; simp only[← map_drop,← map_take])]; exact(e108 (l0_0:=(l0_0+1)) (a0:=(take (toNat (wrap .i64 ((wrap .i64 (2+(wrap .i64 ((getD (take (toNat (wrap .i64 (1+(wrap .i64 ((getD a0 0 0))))) - toNat 1) (drop 1 a0)) 1 0)))))+4)) - toNat (wrap .i64 (2+(wrap .i64 ((getD (take (toNat (wrap .i64 (1+(wrap .i64 ((getD a0 0 0))))) - toNat 1) (drop 1 a0)) 1 0)))))) (drop (toNat (wrap .i64 (2+(wrap .i64 ((getD (take (toNat (wrap .i64 (1+(wrap .i64 ((getD a0 0 0))))) - toNat 1) (drop 1 a0)) 1 0)))))) (take (toNat (wrap .i64 (1+(wrap .i64 ((getD a0 0 0))))) - toNat 1) (drop 1 a0))))) yH))
  have f27:(0≤(wrap .i64 ((wrap .i64 (2+(wrap .i64 ((getD (take (toNat (wrap .i64 (1+(wrap .i64 ((getD a0 0 0))))) - toNat 1) (drop 1 a0)) 1 0)))))+4))∧(wrap .i64 ((wrap .i64 (2+(wrap .i64 ((getD (take (toNat (wrap .i64 (1+(wrap .i64 ((getD a0 0 0))))) - toNat 1) (drop 1 a0)) 1 0)))))+4))≤((length (take (toNat (wrap .i64 (1+(wrap .i64 ((getD a0 0 0))))) - toNat 1) (drop 1 (map b_y a0)))):Int)∧((length (take (toNat (wrap .i64 (1+(wrap .i64 ((getD a0 0 0))))) - toNat 1) (drop 1 (map b_y a0)))):Int)≤((length (take (toNat (wrap .i64 (1+(wrap .i64 ((getD a0 0 0))))) - toNat 1) (drop 1 (map b_y a0)))):Int))∧∀r∈((take (toNat (wrap .i64 (1+(wrap .i64 ((getD a0 0 0))))) - toNat 1) (drop 1 (map b_y a0))):List (List B)),r.length=1:=yi
  have f28:Ev F X (.call 108 [(.one (.bor (l0_0+1) (take (toNat ((length (take (toNat (wrap .i64 (1+(wrap .i64 ((getD a0 0 0))))) - toNat 1) (drop 1 (map b_y a0)))):Int) - toNat (wrap .i64 ((wrap .i64 (2+(wrap .i64 ((getD (take (toNat (wrap .i64 (1+(wrap .i64 ((getD a0 0 0))))) - toNat 1) (drop 1 a0)) 1 0)))))+4))) (drop (toNat (wrap .i64 ((wrap .i64 (2+(wrap .i64 ((getD (take (toNat (wrap .i64 (1+(wrap .i64 ((getD a0 0 0))))) - toNat 1) (drop 1 a0)) 1 0)))))+4))) (take (toNat (wrap .i64 (1+(wrap .i64 ((getD a0 0 0))))) - toNat 1) (drop 1 (map b_y a0)))))))] [] [] [(.oi (m108 (drop (toNat (wrap .i64 ((wrap .i64 (2+(wrap .i64 ((getD (take (toNat (wrap .i64 (1+(wrap .i64 ((getD a0 0 0))))) - toNat 1) (drop 1 a0)) 1 0)))))+4))) (take (toNat (wrap .i64 (1+(wrap .i64 ((getD a0 0 0))))) - toNat 1) (drop 1 a0)))))]):=(by rw[show (take (toNat ((length (take (toNat (wrap .i64 (1+(wrap .i64 ((getD a0 0 0))))) - toNat 1) (drop 1 (map b_y a0)))):Int) - toNat (wrap .i64 ((wrap .i64 (2+(wrap .i64 ((getD (take (toNat (wrap .i64 (1+(wrap .i64 ((getD a0 0 0))))) - toNat 1) (drop 1 a0)) 1 0)))))+4))) (drop (toNat (wrap .i64 ((wrap .i64 (2+(wrap .i64 ((getD (take (toNat (wrap .i64 (1+(wrap .i64 ((getD a0 0 0))))) - toNat 1) (drop 1 a0)) 1 0)))))+4))) (take (toNat (wrap .i64 (1+(wrap .i64 ((getD a0 0 0))))) - toNat 1) (drop 1 (map b_y a0)))))=(map b_y (drop (toNat (wrap .i64 ((wrap .i64 (2+(wrap .i64 ((getD (take (toNat (wrap .i64 (1+(wrap .i64 ((getD a0 0 0))))) - toNat 1) (drop 1 a0)) 1 0)))))+4))) (take (toNat (wrap .i64 (1+(wrap .i64 ((getD a0 0 0))))) - toNat 1) (drop 1 a0)))) from by first | rfl |(simp[map_take,map_drop,four_len,high4,high2]; done) |(simp[byteRows_eq,map_take,map_drop,four_len,high4,high2]; done) |(simp[*,map_take,map_drop,four_len,high4,high2]; done) |(rw[take_of_length_le (by simp only[length_drop,length_take,length_map,Int.toNat_natCast]; omega)]; simp only[← map_drop,← map_take])]; exact(e108 (l0_0:=(l0_0+1)) (a0:=(drop (toNat (wrap .i64 ((wrap .i64 (2+(wrap .i64 ((getD (take (toNat (wrap .i64 (1+(wrap .i64 ((getD a0 0 0))))) - toNat 1) (drop 1 a0)) 1 0)))))+4))) (take (toNat (wrap .i64 (1+(wrap .i64 ((getD a0 0 0))))) - toNat 1) (drop 1 a0)))) yH))
  have P4 {hs q} (r:PS F X hs q):=(P3 (N h3 (.f f1 (.f f20 (.f f21 (.f f22 (.f trivial (.f f24 (U 86 (.h 90 (.row [(.val (.int .u8 (getD (take (toNat (wrap .i64 (1+(wrap .i64 ((getD a0 0 0))))) - toNat 1) (drop 1 a0)) 0 0)))]) (.h 102 (.ints (take (toNat (wrap .i64 (2+(wrap .i64 ((getD (take (toNat (wrap .i64 (1+(wrap .i64 ((getD a0 0 0))))) - toNat 1) (drop 1 a0)) 1 0))))) - toNat 2) (drop 2 (take (toNat (wrap .i64 (1+(wrap .i64 ((getD a0 0 0))))) - toNat 1) (drop 1 a0))))) (.r 114 [] [] f25 (.f trivial (.f f27 (.r 124 [] [] f28 (.r 134 [] [] (e24 (a0:=(K_isii.mk (wrap .i64 ((getD (take (toNat (wrap .i64 (1+(wrap .i64 ((getD a0 0 0))))) - toNat 1) (drop 1 a0)) 0 0))) (bytesOf (take (toNat (wrap .i64 (2+(wrap .i64 ((getD (take (toNat (wrap .i64 (1+(wrap .i64 ((getD a0 0 0))))) - toNat 1) (drop 1 a0)) 1 0))))) - toNat 2) (drop 2 (take (toNat (wrap .i64 (1+(wrap .i64 ((getD a0 0 0))))) - toNat 1) (drop 1 a0))))) (m108 (take (toNat (wrap .i64 ((wrap .i64 (2+(wrap .i64 ((getD (take (toNat (wrap .i64 (1+(wrap .i64 ((getD a0 0 0))))) - toNat 1) (drop 1 a0)) 1 0)))))+4)) - toNat (wrap .i64 (2+(wrap .i64 ((getD (take (toNat (wrap .i64 (1+(wrap .i64 ((getD a0 0 0))))) - toNat 1) (drop 1 a0)) 1 0)))))) (drop (toNat (wrap .i64 (2+(wrap .i64 ((getD (take (toNat (wrap .i64 (1+(wrap .i64 ((getD a0 0 0))))) - toNat 1) (drop 1 a0)) 1 0)))))) (take (toNat (wrap .i64 (1+(wrap .i64 ((getD a0 0 0))))) - toNat 1) (drop 1 a0))))) (m108 (drop (toNat (wrap .i64 ((wrap .i64 (2+(wrap .i64 ((getD (take (toNat (wrap .i64 (1+(wrap .i64 ((getD a0 0 0))))) - toNat 1) (drop 1 a0)) 1 0)))))+4))) (take (toNat (wrap .i64 (1+(wrap .i64 ((getD a0 0 0))))) - toNat 1) (drop 1 a0))))))) r))))))))))))))))
  by_cases h4:((m24 (K_isii.mk (wrap .i64 ((getD (take (toNat (wrap .i64 (1+(wrap .i64 ((getD a0 0 0))))) - toNat 1) (drop 1 a0)) 0 0))) (bytesOf (take (toNat (wrap .i64 (2+(wrap .i64 ((getD (take (toNat (wrap .i64 (1+(wrap .i64 ((getD a0 0 0))))) - toNat 1) (drop 1 a0)) 1 0))))) - toNat 2) (drop 2 (take (toNat (wrap .i64 (1+(wrap .i64 ((getD a0 0 0))))) - toNat 1) (drop 1 a0))))) (m108 (take (toNat (wrap .i64 ((wrap .i64 (2+(wrap .i64 ((getD (take (toNat (wrap .i64 (1+(wrap .i64 ((getD a0 0 0))))) - toNat 1) (drop 1 a0)) 1 0)))))+4)) - toNat (wrap .i64 (2+(wrap .i64 ((getD (take (toNat (wrap .i64 (1+(wrap .i64 ((getD a0 0 0))))) - toNat 1) (drop 1 a0)) 1 0)))))) (drop (toNat (wrap .i64 (2+(wrap .i64 ((getD (take (toNat (wrap .i64 (1+(wrap .i64 ((getD a0 0 0))))) - toNat 1) (drop 1 a0)) 1 0)))))) (take (toNat (wrap .i64 (1+(wrap .i64 ((getD a0 0 0))))) - toNat 1) (drop 1 a0))))) (m108 (drop (toNat (wrap .i64 ((wrap .i64 (2+(wrap .i64 ((getD (take (toNat (wrap .i64 (1+(wrap .i64 ((getD a0 0 0))))) - toNat 1) (drop 1 a0)) 1 0)))))+4))) (take (toNat (wrap .i64 (1+(wrap .i64 ((getD a0 0 0))))) - toNat 1) (drop 1 a0)))))) !=0)=true
  · try simp only[if_pos h4]
    exact cp ya (P4 (.f h4 (.f h4 (.f h4 (.f h4 (.f h4 (.f h4 (T 139 (T 141 (T 143 (T 145 (T 147 (T 150 .nil)))))))))))))
  try simp only[if_neg h4]
  have f38:Ev F X (.call 109 [(.one (.bor 0 (map b_y (m68 (K_isii.mk (wrap .i64 ((getD (take (toNat (wrap .i64 (1+(wrap .i64 ((getD a0 0 0))))) - toNat 1) (drop 1 a0)) 0 0))) (bytesOf (take (toNat (wrap .i64 (2+(wrap .i64 ((getD (take (toNat (wrap .i64 (1+(wrap .i64 ((getD a0 0 0))))) - toNat 1) (drop 1 a0)) 1 0))))) - toNat 2) (drop 2 (take (toNat (wrap .i64 (1+(wrap .i64 ((getD a0 0 0))))) - toNat 1) (drop 1 a0))))) (m108 (take (toNat (wrap .i64 ((wrap .i64 (2+(wrap .i64 ((getD (take (toNat (wrap .i64 (1+(wrap .i64 ((getD a0 0 0))))) - toNat 1) (drop 1 a0)) 1 0)))))+4)) - toNat (wrap .i64 (2+(wrap .i64 ((getD (take (toNat (wrap .i64 (1+(wrap .i64 ((getD a0 0 0))))) - toNat 1) (drop 1 a0)) 1 0)))))) (drop (toNat (wrap .i64 (2+(wrap .i64 ((getD (take (toNat (wrap .i64 (1+(wrap .i64 ((getD a0 0 0))))) - toNat 1) (drop 1 a0)) 1 0)))))) (take (toNat (wrap .i64 (1+(wrap .i64 ((getD a0 0 0))))) - toNat 1) (drop 1 a0))))) (m108 (drop (toNat (wrap .i64 ((wrap .i64 (2+(wrap .i64 ((getD (take (toNat (wrap .i64 (1+(wrap .i64 ((getD a0 0 0))))) - toNat 1) (drop 1 a0)) 1 0)))))+4))) (take (toNat (wrap .i64 (1+(wrap .i64 ((getD a0 0 0))))) - toNat 1) (drop 1 a0))))))))),(.one (.bor (l0_0+1) (take (toNat (wrap .i64 ((wrap .i64 (1+(wrap .i64 ((getD a0 0 0)))))+2)) - toNat 0) (drop 0 (map b_y a0)))))] [] [] [(.one (.val (.bool ((bytesOf (m68 (K_isii.mk (wrap .i64 ((getD (take (toNat (wrap .i64 (1+(wrap .i64 ((getD a0 0 0))))) - toNat 1) (drop 1 a0)) 0 0))) (bytesOf (take (toNat (wrap .i64 (2+(wrap .i64 ((getD (take (toNat (wrap .i64 (1+(wrap .i64 ((getD a0 0 0))))) - toNat 1) (drop 1 a0)) 1 0))))) - toNat 2) (drop 2 (take (toNat (wrap .i64 (1+(wrap .i64 ((getD a0 0 0))))) - toNat 1) (drop 1 a0))))) (m108 (take (toNat (wrap .i64 ((wrap .i64 (2+(wrap .i64 ((getD (take (toNat (wrap .i64 (1+(wrap .i64 ((getD a0 0 0))))) - toNat 1) (drop 1 a0)) 1 0)))))+4)) - toNat (wrap .i64 (2+(wrap .i64 ((getD (take (toNat (wrap .i64 (1+(wrap .i64 ((getD a0 0 0))))) - toNat 1) (drop 1 a0)) 1 0)))))) (drop (toNat (wrap .i64 (2+(wrap .i64 ((getD (take (toNat (wrap .i64 (1+(wrap .i64 ((getD a0 0 0))))) - toNat 1) (drop 1 a0)) 1 0)))))) (take (toNat (wrap .i64 (1+(wrap .i64 ((getD a0 0 0))))) - toNat 1) (drop 1 a0))))) (m108 (drop (toNat (wrap .i64 ((wrap .i64 (2+(wrap .i64 ((getD (take (toNat (wrap .i64 (1+(wrap .i64 ((getD a0 0 0))))) - toNat 1) (drop 1 a0)) 1 0)))))+4))) (take (toNat (wrap .i64 (1+(wrap .i64 ((getD a0 0 0))))) - toNat 1) (drop 1 a0))))))).toList==(bytesOf (take (toNat (wrap .i64 ((wrap .i64 (1+(wrap .i64 ((getD a0 0 0)))))+2))) a0)).toList))))]):=(by rw[show (take (toNat (wrap .i64 ((wrap .i64 (1+(wrap .i64 ((getD a0 0 0)))))+2)) - toNat 0) (drop 0 (map b_y a0)))=(map b_y (take (toNat (wrap .i64 ((wrap .i64 (1+(wrap .i64 ((getD a0 0 0)))))+2))) a0)) from by first | rfl |(simp[map_take,map_drop,four_len,high4,high2]; done) |(simp[byteRows_eq,map_take,map_drop,four_len,high4,high2]; done) |(simp[*,map_take,map_drop,four_len,high4,high2]; done) |(rw[take_of_length_le (by simp only[length_drop,length_take,length_map,Int.toNat_natCast]; omega)]; simp only[← map_drop,← map_take])]; exact(e109 (l0_0:=0) (l1_0:=(l0_0+1)) (a0:=(m68 (K_isii.mk (wrap .i64 ((getD (take (toNat (wrap .i64 (1+(wrap .i64 ((getD a0 0 0))))) - toNat 1) (drop 1 a0)) 0 0))) (bytesOf (take (toNat (wrap .i64 (2+(wrap .i64 ((getD (take (toNat (wrap .i64 (1+(wrap .i64 ((getD a0 0 0))))) - toNat 1) (drop 1 a0)) 1 0))))) - toNat 2) (drop 2 (take (toNat (wrap .i64 (1+(wrap .i64 ((getD a0 0 0))))) - toNat 1) (drop 1 a0))))) (m108 (take (toNat (wrap .i64 ((wrap .i64 (2+(wrap .i64 ((getD (take (toNat (wrap .i64 (1+(wrap .i64 ((getD a0 0 0))))) - toNat 1) (drop 1 a0)) 1 0)))))+4)) - toNat (wrap .i64 (2+(wrap .i64 ((getD (take (toNat (wrap .i64 (1+(wrap .i64 ((getD a0 0 0))))) - toNat 1) (drop 1 a0)) 1 0)))))) (drop (toNat (wrap .i64 (2+(wrap .i64 ((getD (take (toNat (wrap .i64 (1+(wrap .i64 ((getD a0 0 0))))) - toNat 1) (drop 1 a0)) 1 0)))))) (take (toNat (wrap .i64 (1+(wrap .i64 ((getD a0 0 0))))) - toNat 1) (drop 1 a0))))) (m108 (drop (toNat (wrap .i64 ((wrap .i64 (2+(wrap .i64 ((getD (take (toNat (wrap .i64 (1+(wrap .i64 ((getD a0 0 0))))) - toNat 1) (drop 1 a0)) 1 0)))))+4))) (take (toNat (wrap .i64 (1+(wrap .i64 ((getD a0 0 0))))) - toNat 1) (drop 1 a0))))))) (a1:=(take (toNat (wrap .i64 ((wrap .i64 (1+(wrap .i64 ((getD a0 0 0)))))+2))) a0))))
  have P5 {hs q} (r:PS F X hs q):=(P4 (N h4 (N h4 (U 139 (U 141 (.r 142 [] [] (e68 (a0:=(K_isii.mk (wrap .i64 ((getD (take (toNat (wrap .i64 (1+(wrap .i64 ((getD a0 0 0))))) - toNat 1) (drop 1 a0)) 0 0))) (bytesOf (take (toNat (wrap .i64 (2+(wrap .i64 ((getD (take (toNat (wrap .i64 (1+(wrap .i64 ((getD a0 0 0))))) - toNat 1) (drop 1 a0)) 1 0))))) - toNat 2) (drop 2 (take (toNat (wrap .i64 (1+(wrap .i64 ((getD a0 0 0))))) - toNat 1) (drop 1 a0))))) (m108 (take (toNat (wrap .i64 ((wrap .i64 (2+(wrap .i64 ((getD (take (toNat (wrap .i64 (1+(wrap .i64 ((getD a0 0 0))))) - toNat 1) (drop 1 a0)) 1 0)))))+4)) - toNat (wrap .i64 (2+(wrap .i64 ((getD (take (toNat (wrap .i64 (1+(wrap .i64 ((getD a0 0 0))))) - toNat 1) (drop 1 a0)) 1 0)))))) (drop (toNat (wrap .i64 (2+(wrap .i64 ((getD (take (toNat (wrap .i64 (1+(wrap .i64 ((getD a0 0 0))))) - toNat 1) (drop 1 a0)) 1 0)))))) (take (toNat (wrap .i64 (1+(wrap .i64 ((getD a0 0 0))))) - toNat 1) (drop 1 a0))))) (m108 (drop (toNat (wrap .i64 ((wrap .i64 (2+(wrap .i64 ((getD (take (toNat (wrap .i64 (1+(wrap .i64 ((getD a0 0 0))))) - toNat 1) (drop 1 a0)) 1 0)))))+4))) (take (toNat (wrap .i64 (1+(wrap .i64 ((getD a0 0 0))))) - toNat 1) (drop 1 a0)))))) yH) (N h4 (N h4 (ln_y (m68 (K_isii.mk (wrap .i64 ((getD (take (toNat (wrap .i64 (1+(wrap .i64 ((getD a0 0 0))))) - toNat 1) (drop 1 a0)) 0 0))) (bytesOf (take (toNat (wrap .i64 (2+(wrap .i64 ((getD (take (toNat (wrap .i64 (1+(wrap .i64 ((getD a0 0 0))))) - toNat 1) (drop 1 a0)) 1 0))))) - toNat 2) (drop 2 (take (toNat (wrap .i64 (1+(wrap .i64 ((getD a0 0 0))))) - toNat 1) (drop 1 a0))))) (m108 (take (toNat (wrap .i64 ((wrap .i64 (2+(wrap .i64 ((getD (take (toNat (wrap .i64 (1+(wrap .i64 ((getD a0 0 0))))) - toNat 1) (drop 1 a0)) 1 0)))))+4)) - toNat (wrap .i64 (2+(wrap .i64 ((getD (take (toNat (wrap .i64 (1+(wrap .i64 ((getD a0 0 0))))) - toNat 1) (drop 1 a0)) 1 0)))))) (drop (toNat (wrap .i64 (2+(wrap .i64 ((getD (take (toNat (wrap .i64 (1+(wrap .i64 ((getD a0 0 0))))) - toNat 1) (drop 1 a0)) 1 0)))))) (take (toNat (wrap .i64 (1+(wrap .i64 ((getD a0 0 0))))) - toNat 1) (drop 1 a0))))) (m108 (drop (toNat (wrap .i64 ((wrap .i64 (2+(wrap .i64 ((getD (take (toNat (wrap .i64 (1+(wrap .i64 ((getD a0 0 0))))) - toNat 1) (drop 1 a0)) 1 0)))))+4))) (take (toNat (wrap .i64 (1+(wrap .i64 ((getD a0 0 0))))) - toNat 1) (drop 1 a0)))))) (U 143 (U 145 (.r 146 [] [(map b_y (m68 (K_isii.mk (wrap .i64 ((getD (take (toNat (wrap .i64 (1+(wrap .i64 ((getD a0 0 0))))) - toNat 1) (drop 1 a0)) 0 0))) (bytesOf (take (toNat (wrap .i64 (2+(wrap .i64 ((getD (take (toNat (wrap .i64 (1+(wrap .i64 ((getD a0 0 0))))) - toNat 1) (drop 1 a0)) 1 0))))) - toNat 2) (drop 2 (take (toNat (wrap .i64 (1+(wrap .i64 ((getD a0 0 0))))) - toNat 1) (drop 1 a0))))) (m108 (take (toNat (wrap .i64 ((wrap .i64 (2+(wrap .i64 ((getD (take (toNat (wrap .i64 (1+(wrap .i64 ((getD a0 0 0))))) - toNat 1) (drop 1 a0)) 1 0)))))+4)) - toNat (wrap .i64 (2+(wrap .i64 ((getD (take (toNat (wrap .i64 (1+(wrap .i64 ((getD a0 0 0))))) - toNat 1) (drop 1 a0)) 1 0)))))) (drop (toNat (wrap .i64 (2+(wrap .i64 ((getD (take (toNat (wrap .i64 (1+(wrap .i64 ((getD a0 0 0))))) - toNat 1) (drop 1 a0)) 1 0)))))) (take (toNat (wrap .i64 (1+(wrap .i64 ((getD a0 0 0))))) - toNat 1) (drop 1 a0))))) (m108 (drop (toNat (wrap .i64 ((wrap .i64 (2+(wrap .i64 ((getD (take (toNat (wrap .i64 (1+(wrap .i64 ((getD a0 0 0))))) - toNat 1) (drop 1 a0)) 1 0)))))+4))) (take (toNat (wrap .i64 (1+(wrap .i64 ((getD a0 0 0))))) - toNat 1) (drop 1 a0)))))))] f38 (N h4 (N h4 (U 147 (U 150 r))))))))))))))))
  by_cases h5:(!((bytesOf (m68 (K_isii.mk (wrap .i64 ((getD (take (toNat (wrap .i64 (1+(wrap .i64 ((getD a0 0 0))))) - toNat 1) (drop 1 a0)) 0 0))) (bytesOf (take (toNat (wrap .i64 (2+(wrap .i64 ((getD (take (toNat (wrap .i64 (1+(wrap .i64 ((getD a0 0 0))))) - toNat 1) (drop 1 a0)) 1 0))))) - toNat 2) (drop 2 (take (toNat (wrap .i64 (1+(wrap .i64 ((getD a0 0 0))))) - toNat 1) (drop 1 a0))))) (m108 (take (toNat (wrap .i64 ((wrap .i64 (2+(wrap .i64 ((getD (take (toNat (wrap .i64 (1+(wrap .i64 ((getD a0 0 0))))) - toNat 1) (drop 1 a0)) 1 0)))))+4)) - toNat (wrap .i64 (2+(wrap .i64 ((getD (take (toNat (wrap .i64 (1+(wrap .i64 ((getD a0 0 0))))) - toNat 1) (drop 1 a0)) 1 0)))))) (drop (toNat (wrap .i64 (2+(wrap .i64 ((getD (take (toNat (wrap .i64 (1+(wrap .i64 ((getD a0 0 0))))) - toNat 1) (drop 1 a0)) 1 0)))))) (take (toNat (wrap .i64 (1+(wrap .i64 ((getD a0 0 0))))) - toNat 1) (drop 1 a0))))) (m108 (drop (toNat (wrap .i64 ((wrap .i64 (2+(wrap .i64 ((getD (take (toNat (wrap .i64 (1+(wrap .i64 ((getD a0 0 0))))) - toNat 1) (drop 1 a0)) 1 0)))))+4))) (take (toNat (wrap .i64 (1+(wrap .i64 ((getD a0 0 0))))) - toNat 1) (drop 1 a0))))))).toList==(bytesOf (take (toNat (wrap .i64 ((wrap .i64 (1+(wrap .i64 ((getD a0 0 0)))))+2))) a0)).toList))=true
  · try simp only[if_pos h5]
    exact cp ya (P5 (.f h5 (T 151 .nil)))
  try simp only[if_neg h5]
  exact cp ya (P5 (N h5 (U 151 .nil)))

theorem re_ok {d:List Int} (hy0:∀z∈d,(0:Int)≤z∧z≤255) (h:¬(!(m63_2 d))=true):13≤m63_1 d∧m63_1 d≤(length d:Int)∧ByteArray.size (m63_0 d).f1≤255:=by
  have h:m63_2 d=true:=by simpa using h
  unfold m63_2 at h
  unfold m63_0 m63_1
  split at h
  · cases h
  rename_i h0; rw[if_neg h0,if_neg h0]
  split at h
  · cases h
  rename_i h1; rw[if_neg h1,if_neg h1]
  split at h
  · cases h
  rename_i h2; rw[if_neg h2,if_neg h2]
  split at h
  · cases h
  rename_i h3; rw[if_neg h3,if_neg h3]
  split at h
  · cases h
  rename_i h4; rw[if_neg h4,if_neg h4]
  split at h
  · cases h
  rename_i h5; rw[if_neg h5,if_neg h5]
  clear h h4 h5
  obtain⟨g0,g1,e0,e1,e2,e3,e4,e5,e6,e7,e8,e9⟩:=nums d hy0
  simp only[decide_eq_true_eq,bne_iff_ne,ne_eq,beq_iff_eq,Decidable.not_not,length_map,length_take,length_drop,bo_size] at*
  omega
end Go.Proofs.YtihjlmgakpgkeaaDoor.Journals
