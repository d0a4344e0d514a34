/- What the functions compute. -/
import Derived.Test.YtjgebnhpklkjcaaEJobsFaultD
import Derived.KernelRfl
namespace Go.Proofs.Ytjgebnhpklkjcaa.JobsFault
open Go Go.Proofs.Ytjgebnhpklkjcaa.V
set_option linter.unusedVariables false
set_option linter.unusedSimpArgs false
set_option maxRecDepth 20000
open Go.IntKind (wrap)
open Int (toNat)
open List (length_replicate length_map length_set length_append length_cons length_nil length_take length_drop take_of_length_le map_take map_drop map_set append_assoc getElem?_map map length take drop getD set)
attribute [local simp] toBR_i fullR_i pureR_i lenB_i lenD_i fromBR_i copy_i toBR_iiLiE fullR_iiLiE pureR_iiLiE lenB_iiLiE lenD_iiLiE toBR_iLiE fullR_iLiE pureR_iLiE lenB_iLiE lenD_iLiE toBR_iLiiLiEELiLiEE fullR_iLiiLiEELiLiEE pureR_iLiiLiEELiLiEE lenB_iLiiLiEELiLiEE lenD_iLiiLiEELiLiEE toBR_iiiiiLiLiiLiEELiLiEEE fullR_iiiiiLiLiiLiEELiLiEEE pureR_iiiiiLiLiiLiEELiLiEEE lenB_iiiiiLiLiiLiEELiLiEEE lenD_iiiiiLiLiiLiEELiLiEEE toBR_LiiiiiLiLiiLiEELiLiEEEE fullR_LiiiiiLiLiiLiEELiLiEEEE pureR_LiiiiiLiLiiLiEELiLiEEEE lenB_LiiiiiLiLiiLiEELiLiEEEE lenD_LiiiiiLiLiiLiEELiLiEEEE toBR_b fullR_b pureR_b lenB_b lenD_b fromBR_b copy_b toBR_iiiiLiLiiLiEELiLiEEE fullR_iiiiLiLiiLiEELiLiEEE pureR_iiiiLiLiiLiEELiLiEEE lenB_iiiiLiLiiLiEELiLiEEE lenD_iiiiLiLiiLiEELiLiEEE toBR_LiE fullR_LiE pureR_LiE lenB_LiE lenD_LiE toBR_LiLiiLiEELiLiEEE fullR_LiLiiLiEELiLiEEE pureR_LiLiiLiEELiLiEEE lenB_LiLiiLiEELiLiEEE lenD_LiLiiLiEELiLiEEE toBR_LiiLiEE fullR_LiiLiEE pureR_LiiLiEE lenB_LiiLiEE lenD_LiiLiEE toBR_LiLiEE fullR_LiLiEE pureR_LiLiEE lenB_LiLiEE lenD_LiLiEE strInts_len byteRows_len toBR_y fullR_y pureR_y lenB_y lenD_y fromBR_y copy_y toBR_LyE fullR_LyE pureR_LyE lenB_LyE lenD_LyE toBR_LLyEE fullR_LLyEE pureR_LLyEE lenB_LLyEE lenD_LLyEE
/-! loop.example/g00539/impl.packTx -/
def m55 (a0:K_iLiiLiEELiLiEE):(List Int):=
  (match r55_0 a0 a0.f1 0 ((m69 a0.f0)++(m69 ((length (map b_iiLiE a0.f1)):Int))) with | .k0 w0_4 w1_4 w2_4=>(match r55_1 a0 a0.f2 0 (w0_4++(m69 ((length (map b_iLiE a0.f2)):Int))) with | .k0 w0_8 w1_8 w2_8=>w0_8))
theorem e55 {l0_1:Nat} {l0_2:Nat} {a0:K_iLiiLiEELiLiEE} (hy0:length a0.f1*40≤140737488351232) (hy1:∀z∈a0.f1,ok_iiLiE z) (hy2:length a0.f2*32≤140737488351232) (hy3:∀z∈a0.f2,ok_iLiE z) (hy4:length a0.f1≤4) (hy5:∀z∈a0.f1,length z.f2≤8) (hy6:length a0.f2≤4) (hy7:∀z∈a0.f2,length z.f1≤12):Ev F X (.call 55 [(.agg (k_iLiiLiEELiLiEE l0_1 l0_2 a0))] [] [] [(.one (.own 1 (map d_y (m55 a0))))]):=by
  unfold m55
  have f2:0+(length (map d_y (m69 a0.f0)))≤(length (map d_y (m69 a0.f0))):=(by omega)
  have f3:0+(length (map d_y (m69 ((length (map b_iiLiE a0.f1)):Int))))≤(length (map d_y (m69 ((length (map b_iiLiE a0.f1)):Int)))):=(by omega)
  have f4:((take (length (map d_y (m69 ((length (map b_iiLiE a0.f1)):Int)))) (drop 0 (map d_y (m69 ((length (map b_iiLiE a0.f1)):Int))))).all fun x=>x.all copyable)=true:=(ct_y _ _ _)
  have f5:(length ((take (length (map d_y (m69 a0.f0))) (drop 0 (map d_y (m69 a0.f0))))++(take (length (map d_y (m69 ((length (map b_iiLiE a0.f1)):Int)))) (drop 0 (map d_y (m69 ((length (map b_iiLiE a0.f1)):Int)))))))*1≤70368744177664:=(by have q4:=pl69 a0.f0; have q5:=pl69 ((length (map b_iiLiE a0.f1)):Int); have q6:=pl69 ((length (map b_iLiE a0.f2)):Int); simp only[length_map,length_append,length_take,length_drop,length_cons,length_nil,List.length_flatten,List.map_cons,List.map_nil,List.sum_cons,List.sum_nil] at*; omega)
  have f6:∀r∈((take (length (map d_y (m69 ((length (map b_iiLiE a0.f1)):Int)))) (drop 0 (map d_y (m69 ((length (map b_iiLiE a0.f1)):Int))))):List (List D)),r.length=1:=(by simp only[List.drop_zero,tbr,tsi,ly_y,ly0_y,← List.map_append,List.take_length,List.cons_append,List.nil_append,append_assoc]; exact lenD_y _)
  have f7:((take (length (map d_y (m69 a0.f0))) (drop 0 (map d_y (m69 a0.f0))))++(take (length (map d_y (m69 ((length (map b_iiLiE a0.f1)):Int)))) (drop 0 (map d_y (m69 ((length (map b_iiLiE a0.f1)):Int))))))=(map d_y ((m69 a0.f0)++(m69 ((length (map b_iiLiE a0.f1)):Int)))):=(by simp[byteRows_eq,ints_y,take_of_length_le,d_i,d_iiLiE,d_iLiE,d_iLiiLiEELiLiEE,d_iiiiiLiLiiLiEELiLiEEE,d_LiiiiiLiLiiLiEELiLiEEEE,d_b,d_iiiiLiLiiLiEELiLiEEE,d_LiE,d_LiLiiLiEELiLiEEE,d_LiiLiEE,d_LiLiEE,d_y,d_LyE,d_LLyEE,fromBR_i,fromBR_b,fromBR_y,four_len,high4,high2]; done)
  cases h0:r55_0 a0 a0.f1 0 ((m69 a0.f0)++(m69 ((length (map b_iiLiE a0.f1)):Int))) with
  |k0 w0_4 w1_4 w2_4=>
    try dsimp only
    have f8:(⟨[(1,(.ptr ⟨(1,0,0),[],0,0,3⟩)),(3,(.one (.ref ⟨(3,0,0),[],0,(length ((take (length (map d_y (m69 a0.f0))) (drop 0 (map d_y (m69 a0.f0))))++(take (length (map d_y (m69 ((length (map b_iiLiE a0.f1)):Int)))) (drop 0 (map d_y (m69 ((length (map b_iiLiE a0.f1)):Int)))))))⟩))),(17,(.one (.bor l0_1 (map b_iiLiE a0.f1)))),(18,(.oi ((length (map b_iiLiE a0.f1)):Int))),(19,(.oi 0))],[((1,0,0),.live ⟨3,[[(.i a0.f0),(.bor l0_1 (map b_iiLiE a0.f1)),(.bor l0_2 (map b_iLiE a0.f2))]],[]⟩),((3,0,0),.live ⟨1,(map d_y ((m69 a0.f0)++(m69 ((length (map b_iiLiE a0.f1)):Int)))),[]⟩)]⟩:St)=h55_0 l0_1 l0_2 a0 0 ((m69 a0.f0)++(m69 ((length (map b_iiLiE a0.f1)):Int))):=(by unfold h55_0; simp[byteRows_eq,ints_y,take_of_length_le,d_i,d_iiLiE,d_iLiE,d_iLiiLiEELiLiEE,d_iiiiiLiLiiLiEELiLiEEE,d_LiiiiiLiLiiLiEELiLiEEEE,d_b,d_iiiiLiLiiLiEELiLiEEE,d_LiE,d_LiLiiLiEELiLiEEE,d_LiiLiEE,d_LiLiEE,d_y,d_LyE,d_LLyEE,fromBR_i,fromBR_b,fromBR_y,four_len,high4,high2]; done)
    have f11:0+(length (map d_y w0_4))≤(length (map d_y w0_4)):=(by omega)
    have f12:0+(length (map d_y (m69 ((length (map b_iLiE a0.f2)):Int))))≤(length (map d_y (m69 ((length (map b_iLiE a0.f2)):Int)))):=(by omega)
    have f13:((take (length (map d_y (m69 ((length (map b_iLiE a0.f2)):Int)))) (drop 0 (map d_y (m69 ((length (map b_iLiE a0.f2)):Int))))).all fun x=>x.all copyable)=true:=(ct_y _ _ _)
    have f14:(length ((take (length (map d_y w0_4)) (drop 0 (map d_y w0_4)))++(take (length (map d_y (m69 ((length (map b_iLiE a0.f2)):Int)))) (drop 0 (map d_y (m69 ((length (map b_iLiE a0.f2)):Int)))))))*1≤70368744177664:=(by have q4:=pl69 a0.f0; have q5:=pl69 ((length (map b_iiLiE a0.f1)):Int); have q6:=pl69 ((length (map b_iLiE a0.f2)):Int); have q7:=lk55_0 hy5 h0 (by simp only[length_append]; have q4:=pl69 a0.f0; have q5:=pl69 ((length (map b_iiLiE a0.f1)):Int); have q6:=pl69 ((length (map b_iLiE a0.f2)):Int); omega); simp only[length_append] at q7; simp only[length_map,length_append,length_take,length_drop,length_cons,length_nil,List.length_flatten,List.map_cons,List.map_nil,List.sum_cons,List.sum_nil] at q5 q6 q7⊢; omega)
    have f15:∀r∈((take (length (map d_y (m69 ((length (map b_iLiE a0.f2)):Int)))) (drop 0 (map d_y (m69 ((length (map b_iLiE a0.f2)):Int))))):List (List D)),r.length=1:=(by simp only[List.drop_zero,tbr,tsi,ly_y,ly0_y,← List.map_append,List.take_length,List.cons_append,List.nil_append,append_assoc]; exact lenD_y _)
    have f16:((take (length (map d_y w0_4)) (drop 0 (map d_y w0_4)))++(take (length (map d_y (m69 ((length (map b_iLiE a0.f2)):Int)))) (drop 0 (map d_y (m69 ((length (map b_iLiE a0.f2)):Int))))))=(map d_y (w0_4++(m69 ((length (map b_iLiE a0.f2)):Int)))):=(by simp[byteRows_eq,ints_y,take_of_length_le,d_i,d_iiLiE,d_iLiE,d_iLiiLiEELiLiEE,d_iiiiiLiLiiLiEELiLiEEE,d_LiiiiiLiLiiLiEELiLiEEEE,d_b,d_iiiiLiLiiLiEELiLiEEE,d_LiE,d_LiLiiLiEELiLiEEE,d_LiiLiEE,d_LiLiEE,d_y,d_LyE,d_LLyEE,fromBR_i,fromBR_b,fromBR_y,four_len,high4,high2]; done)
    cases h1:r55_1 a0 a0.f2 0 (w0_4++(m69 ((length (map b_iLiE a0.f2)):Int))) with
    |k0 w0_8 w1_8 w2_8=>
      try dsimp only
      have f17:(⟨[(1,(.ptr ⟨(1,0,0),[],0,0,3⟩)),(3,(.one (.ref ⟨(3,0,0),[],0,(length ((take (length (map d_y w0_4)) (drop 0 (map d_y w0_4)))++(take (length (map d_y (m69 ((length (map b_iLiE a0.f2)):Int)))) (drop 0 (map d_y (m69 ((length (map b_iLiE a0.f2)):Int)))))))⟩))),(43,(.one (.bor l0_2 (map b_iLiE a0.f2)))),(44,(.oi ((length (map b_iLiE a0.f2)):Int))),(45,(.oi 0))],[((1,0,0),.live ⟨3,[[(.i a0.f0),(.bor l0_1 (map b_iiLiE a0.f1)),(.bor l0_2 (map b_iLiE a0.f2))]],[]⟩),((3,0,0),.live ⟨1,(map d_y (w0_4++(m69 ((length (map b_iLiE a0.f2)):Int)))),[]⟩)]⟩:St)=h55_1 l0_1 l0_2 a0 w0_4 0 (w0_4++(m69 ((length (map b_iLiE a0.f2)):Int))):=(by unfold h55_1; simp[byteRows_eq,ints_y,take_of_length_le,d_i,d_iiLiE,d_iLiE,d_iLiiLiEELiLiEE,d_iiiiiLiLiiLiEELiLiEEE,d_LiiiiiLiLiiLiEELiLiEEEE,d_b,d_iiiiLiLiiLiEELiLiEEE,d_LiE,d_LiLiiLiEELiLiEEE,d_LiiLiEE,d_LiLiEE,d_y,d_LyE,d_LLyEE,fromBR_i,fromBR_b,fromBR_y,four_len,high4,high2]; done)
      exact cp (by kernel_rfl) (.r 9 [] [] (e69 (a0:=a0.f0)) (.r 17 [] [] (e69 (a0:=((length (map b_iiLiE a0.f1)):Int))) (.f f2 (.f f3 (.f f4 (.f f5 (.f f6 (.f f7 (.f f8 (.f (ev_ (e:=ex55_0) (g:=(fin55_0 l0_1 l0_2 a0)) h0 (t55_0 (l0_1:=l0_1) (l0_2:=l0_2) (a0:=a0) (by assumption) (by assumption) (by assumption) (by assumption) (by assumption) (by assumption) (by assumption) (by assumption) a0.f1 [] ((m69 a0.f0)++(m69 ((length (map b_iiLiE a0.f1)):Int))) rfl (by have q4:=pl69 a0.f0; have q5:=pl69 ((length (map b_iiLiE a0.f1)):Int); have q6:=pl69 ((length (map b_iLiE a0.f2)):Int); simp only[length_map,length_append,length_take,length_drop,length_cons,length_nil,List.length_flatten,List.map_cons,List.map_nil,List.sum_cons,List.sum_nil] at*; omega))) (.h 19 (.b true) (.h 22 (.norm (3,0,0) (map d_y ((m69 a0.f0)++(m69 ((length (map b_iiLiE a0.f1)):Int))))) (.h 31 (.loop (h55_0 l0_1 l0_2 a0 0 ((m69 a0.f0)++(m69 ((length (map b_iiLiE a0.f1)):Int)))) (.exit 0) ⟨[(1,(.ptr ⟨(1,0,0),[],0,0,3⟩)),(3,(.one (.ref ⟨(3,0,0),[],0,(length (map d_y w0_4))⟩))),(17,(.one (.bor l0_1 (map b_iiLiE a0.f1)))),(18,(.one (.val (.int .i64 ((length (map b_iiLiE a0.f1)):Int))))),(19,(.one (.val (.int .i64 w1_4)))),(20,(.one (.val (.bool w2_4))))],[((1,0,0),.live ⟨3,[[(.val (.int .i64 a0.f0)),(.bor l0_1 (map b_iiLiE a0.f1)),(.bor l0_2 (map b_iLiE a0.f2))]],[]⟩),((3,0,0),.live ⟨1,(map d_y w0_4),[]⟩)]⟩) (.r 41 [] [] (e69 (a0:=((length (map b_iLiE a0.f2)):Int))) (.f f11 (.f f12 (.f f13 (.f f14 (.f f15 (.f f16 (.f f17 (.f (ev_ (e:=ex55_1) (g:=(fin55_1 l0_1 l0_2 a0 w0_4)) h1 (t55_1 (l0_1:=l0_1) (l0_2:=l0_2) (a0:=a0) (c0_55_1:=w0_4) (by assumption) (by assumption) (by assumption) (by assumption) (by assumption) (by assumption) (by assumption) (by assumption) (by have q4:=pl69 a0.f0; have q5:=pl69 ((length (map b_iiLiE a0.f1)):Int); have q6:=pl69 ((length (map b_iLiE a0.f2)):Int); simp only[length_map,length_append,length_take,length_drop,length_cons,length_nil,List.length_flatten,List.map_cons,List.map_nil,List.sum_cons,List.sum_nil] at*; omega) a0.f2 [] (w0_4++(m69 ((length (map b_iLiE a0.f2)):Int))) rfl (by have q4:=pl69 a0.f0; have q5:=pl69 ((length (map b_iiLiE a0.f1)):Int); have q6:=pl69 ((length (map b_iLiE a0.f2)):Int); have q7:=lk55_0 hy5 h0 (by simp only[length_append]; have q4:=pl69 a0.f0; have q5:=pl69 ((length (map b_iiLiE a0.f1)):Int); have q6:=pl69 ((length (map b_iLiE a0.f2)):Int); omega); simp only[length_append] at q7; simp only[length_map,length_append,length_take,length_drop,length_cons,length_nil,List.length_flatten,List.map_cons,List.map_nil,List.sum_cons,List.sum_nil] at q5 q6 q7⊢; omega))) (pe 0 (pe (length (map d_y w0_8)) (.f (pureR_y w0_8) (.h 43 (.b true) (.h 46 (.norm (3,0,0) (map d_y (w0_4++(m69 ((length (map b_iLiE a0.f2)):Int))))) (.h 55 (.loop (h55_1 l0_1 l0_2 a0 w0_4 0 (w0_4++(m69 ((length (map b_iLiE a0.f2)):Int)))) (.exit 2) ⟨[(1,(.ptr ⟨(1,0,0),[],0,0,3⟩)),(3,(.one (.ref ⟨(3,0,0),[],0,(length (map d_y w0_8))⟩))),(43,(.one (.bor l0_2 (map b_iLiE a0.f2)))),(44,(.one (.val (.int .i64 ((length (map b_iLiE a0.f2)):Int))))),(45,(.one (.val (.int .i64 w1_8)))),(46,(.one (.val (.bool w2_8))))],[((1,0,0),.live ⟨3,[[(.val (.int .i64 a0.f0)),(.bor l0_1 (map b_iiLiE a0.f1)),(.bor l0_2 (map b_iLiE a0.f2))]],[]⟩),((3,0,0),.live ⟨1,(map d_y w0_8),[]⟩)]⟩) .nil))))))))))))))))))))))))))))
theorem pt55 (a:K_iLiiLiEELiLiEE) (h:SmT a):length (m55 a)≤1000:=by
  obtain⟨a1,a2,a3,a4⟩:=h
  have q0:=pl69 a.f0
  have q1:=pl69 ((length (map b_iiLiE a.f1)):Int)
  have q2:=pl69 ((length (map b_iLiE a.f2)):Int)
  unfold m55
  cases h:r55_0 a a.f1 0 ((m69 a.f0)++(m69 ((length (map b_iiLiE a.f1)):Int))) with
  |k0 w j b=>
    have q:=lk55_0 a2 h (by simp only[length_append]; omega)
    simp only[length_append] at q
    simp only[]
    cases h2:r55_1 a a.f2 0 (w++(m69 ((length (map b_iLiE a.f2)):Int))) with
    |k0 w2 j2 b2=>
      have q3:=lk55_1 a4 h2 (by simp only[length_append]; omega)
      simp only[length_append] at q3
      show w2.length≤_
      omega
/-! loop 36_0 -/
inductive O36_0 where
  |k0 (w0:List K_iiLiE) (w1:Int) (w2:Bool)
def r36_0 (a0:K_iLiiLiEELiLiEE):List K_iiLiE→Int→List K_iiLiE→O36_0
  |x0::y0,i,v0=>
    (r36_0 a0 y0 (i+1) (v0++([(K_iiLiE.mk x0.f0 x0.f1 [])])))
  |[],i,v0=>(O36_0.k0 v0 i (decide (i <((length (map b_iiLiE a0.f1)):Int))))
def h36_0 (l0_1:Nat) (l0_2:Nat) (a0:K_iLiiLiEELiLiEE) (i:Int) (v0:List K_iiLiE):St:=⟨[(1,(.ptr ⟨(1,0,0),[],0,0,3⟩)),(3,(.ptr ⟨(3,0,0),[],0,0,3⟩)),(12,(.one (.bor l0_1 (map b_iiLiE a0.f1)))),(13,(.one (.val (.int .i64 ((length (map b_iiLiE a0.f1)):Int))))),(14,(.one (.val (.int .i64 i))))],[((1,0,0),.live ⟨3,[[(.val (.int .i64 a0.f0)),(.bor l0_1 (map b_iiLiE a0.f1)),(.bor l0_2 (map b_iLiE a0.f2))]],[]⟩),((3,0,0),.live ⟨3,[[(.val (.int .i64 a0.f0)),(.own 3 (map d_iiLiE v0)),(.bor l0_2 (map b_iLiE a0.f2))]],[]⟩)]⟩
def ex36_0:O36_0→VX.Exit
  |.k0 _ _ _=>(.exit 0)
def fin36_0 (l0_1:Nat) (l0_2:Nat) (a0:K_iLiiLiEELiLiEE):O36_0→St
  |.k0 w0 w1 w2=>⟨[(1,(.ptr ⟨(1,0,0),[],0,0,3⟩)),(3,(.ptr ⟨(3,0,0),[],0,0,3⟩)),(12,(.one (.bor l0_1 (map b_iiLiE a0.f1)))),(13,(.one (.val (.int .i64 ((length (map b_iiLiE a0.f1)):Int))))),(14,(.one (.val (.int .i64 w1)))),(15,(.one (.val (.bool w2))))],[((1,0,0),.live ⟨3,[[(.val (.int .i64 a0.f0)),(.bor l0_1 (map b_iiLiE a0.f1)),(.bor l0_2 (map b_iLiE a0.f2))]],[]⟩),((3,0,0),.live ⟨3,[[(.val (.int .i64 a0.f0)),(.own 3 (map d_iiLiE w0)),(.bor l0_2 (map b_iLiE a0.f2))]],[]⟩)]⟩
theorem t36_0 {l0_1:Nat} {l0_2:Nat} {a0:K_iLiiLiEELiLiEE} (hy0:length a0.f1*40≤140737488351232) (hy1:∀z∈a0.f1,ok_iiLiE z) (hy2:length a0.f2*32≤140737488351232) (hy3:∀z∈a0.f2,ok_iLiE z) (hy4:SmT a0):∀(y0:List K_iiLiE) (p:List K_iiLiE) (v0:List K_iiLiE),p++y0=a0.f1→(length v0+length y0)*40≤70368744177664→Ev F X (.code l36_0 (h36_0 l0_1 l0_2 a0 (length p:Int) v0) (ex36_0 (r36_0 a0 y0 (length p:Int) v0)) (fin36_0 l0_1 l0_2 a0 (r36_0 a0 y0 (length p:Int) v0)))
  |[],p,v0,hp0,hi0=>by
    have hc:¬(decide ((length p:Int) <((length (map b_iiLiE a0.f1)):Int)))=true:=by
      rw[← hp0]; simp only[length_map,length_set,length_append,length_replicate,length_cons,length_nil,decide_eq_true_eq]; omega
    have hj0:=hi0; try simp only[length_map,length_set,length_append,length_replicate,length_cons,length_nil,Int.toNat_natCast] at hj0
    have st:=ch b36_0 (h36_0 l0_1 l0_2 a0 (length p:Int) v0) ⟨[(1,(.ptr ⟨(1,0,0),[],0,0,3⟩)),(3,(.ptr ⟨(3,0,0),[],0,0,3⟩)),(12,(.one (.bor l0_1 (map b_iiLiE a0.f1)))),(13,(.oi ((length (map b_iiLiE a0.f1)):Int))),(14,(.oi (length p:Int))),(15,(.one (.val (.bool (decide ((length p:Int) <((length (map b_iiLiE a0.f1)):Int)))))))],[((1,0,0),.live ⟨3,[[(.i a0.f0),(.bor l0_1 (map b_iiLiE a0.f1)),(.bor l0_2 (map b_iLiE a0.f2))]],[]⟩),((3,0,0),.live ⟨3,[[(.i a0.f0),(.own 3 (map d_iiLiE v0)),(.bor l0_2 (map b_iLiE a0.f2))]],[]⟩)]⟩ (.exit 0) 3 (by kernel_rfl) (.f (nt hc) (.h 2 (.b false) .nil))
    rw[show (⟨[(1,(.ptr ⟨(1,0,0),[],0,0,3⟩)),(3,(.ptr ⟨(3,0,0),[],0,0,3⟩)),(12,(.one (.bor l0_1 (map b_iiLiE a0.f1)))),(13,(.oi ((length (map b_iiLiE a0.f1)):Int))),(14,(.oi (length p:Int))),(15,(.one (.val (.bool (decide ((length p:Int) <((length (map b_iiLiE a0.f1)):Int)))))))],[((1,0,0),.live ⟨3,[[(.i a0.f0),(.bor l0_1 (map b_iiLiE a0.f1)),(.bor l0_2 (map b_iLiE a0.f2))]],[]⟩),((3,0,0),.live ⟨3,[[(.i a0.f0),(.own 3 (map d_iiLiE v0)),(.bor l0_2 (map b_iLiE a0.f2))]],[]⟩)]⟩:St)=fin36_0 l0_1 l0_2 a0 (.k0 v0 (length p:Int) (decide ((length p:Int) <((length (map b_iiLiE a0.f1)):Int)))) from(by rfl)] at st
    exact .loopX st (show ((.exit 0):VX.Exit)≠.normal from by simp)
  |x0::y0,p,v0,hp0,hi0=>by
    have hc:(decide ((length p:Int) <((length (map b_iiLiE a0.f1)):Int)))=true:=by
      rw[← hp0]; simp only[length_map,length_set,length_append,length_replicate,length_cons,length_nil,decide_eq_true_eq]; omega
    have Hx0:(a0.f1)[toNat (length p:Int)]?=some x0:=by
      rw[← hp0,Int.toNat_natCast]; simp
    have Mx0_0:=hy1 x0 (List.mem_of_getElem? Hx0)
    have hlen:length (a0.f1)=length p+length y0+1:=by rw[← hp0]; simp; omega
    have hw:wrap .i64 ((length p:Int)+1)=(length p:Int)+1:=wrap64 (by omega)
    have hj0:=hi0; try simp only[length_map,length_set,length_append,length_replicate,length_cons,length_nil,Int.toNat_natCast] at hj0
    simp only[r36_0]
    have f1:0≤(length p:Int):=(by omega)
    have f3:0+(length (map d_iiLiE v0))≤(length (map d_iiLiE v0)):=(by omega)
    have f4:1≤1:=(by omega)
    have f5:((take 1 (drop 0 [[(.val (.int .i64 x0.f0)),(.val (.int .i64 x0.f1)),(.own 1 [])]])).all fun x=>x.all copyable)=false:=(by trivial)
    have f8:(length ((take (length (map d_iiLiE v0)) (drop 0 (map d_iiLiE v0)))++([[(.val (.int .i64 x0.f0)),(.val (.int .i64 x0.f1)),(.own 1 [])]]:List (List D))))*40≤70368744177664:=(by simp only[length_map,length_append,length_cons,length_nil,length_take,length_drop]; omega)
    have f9:∀r∈([[(.val (.int .i64 x0.f0)),(.val (.int .i64 x0.f1)),(.own 1 [])]]:List (List D)),r.length=3:=(by simp[four_len,high4,high2]; done)
    have f12:([[(.val (.int .i64 a0.f0)),(.own 3 ((take (length (map d_iiLiE v0)) (drop 0 (map d_iiLiE v0)))++([[(.val (.int .i64 x0.f0)),(.val (.int .i64 x0.f1)),(.own 1 [])]]:List (List D)))),(.bor l0_2 (map b_iLiE a0.f2))]]:List (List D))=[[(.val (.int .i64 a0.f0)),(.own 3 (map d_iiLiE (v0++([(K_iiLiE.mk x0.f0 x0.f1 [])])))),(.bor l0_2 (map b_iLiE a0.f2))]]:=(by simp[byteRows_eq,ints_y,take_of_length_le,d_i,d_iiLiE,d_iLiE,d_iLiiLiEELiLiEE,d_iiiiiLiLiiLiEELiLiEEE,d_LiiiiiLiLiiLiEELiLiEEEE,d_b,d_iiiiLiLiiLiEELiLiEEE,d_LiE,d_LiLiiLiEELiLiEEE,d_LiiLiEE,d_LiLiEE,d_y,d_LyE,d_LLyEE,fromBR_i,fromBR_b,fromBR_y,four_len,high4,high2]; done)
    have st:=ch b36_0 (h36_0 l0_1 l0_2 a0 (length p:Int) v0) ⟨[(1,(.ptr ⟨(1,0,0),[],0,0,3⟩)),(3,(.ptr ⟨(3,0,0),[],0,0,3⟩)),(12,(.one (.bor l0_1 (map b_iiLiE a0.f1)))),(13,(.oi ((length (map b_iiLiE a0.f1)):Int))),(14,(.oi (wrap .i64 ((length p:Int)+1))))],[((1,0,0),.live ⟨3,[[(.i a0.f0),(.bor l0_1 (map b_iiLiE a0.f1)),(.bor l0_2 (map b_iLiE a0.f2))]],[]⟩),((3,0,0),.live ⟨3,[[(.i a0.f0),(.own 3 (map d_iiLiE (v0++([(K_iiLiE.mk x0.f0 x0.f1 [])])))),(.bor l0_2 (map b_iLiE a0.f2))]],[]⟩)]⟩ .normal 38 (by kernel_rfl) (.f hc (.f f1 (.f (mp_ b_iiLiE Hx0) (.f f3 (.f f4 (.f f5 (pe 0 (pe 1 (.f f8 (.f f9 (pe 0 (pe (length ((take (length (map d_iiLiE v0)) (drop 0 (map d_iiLiE v0)))++([[(.i x0.f0),(.i x0.f1),(.own 1 [])]]:List (List D)))) (.f f12 (.f trivial (.h 2 (.b true) (.h 4 (.row (b_iiLiE x0)) (.h 28 (.b false) (.h 33 (.norm (3,0,0) [[(.i a0.f0),(.own 3 (map d_iiLiE (v0++([(K_iiLiE.mk x0.f0 x0.f1 [])])))),(.bor l0_2 (map b_iLiE a0.f2))]]) .nil))))))))))))))))))
    have ih:=t36_0 (l0_1:=l0_1) (l0_2:=l0_2) (a0:=a0) hy0 hy1 hy2 hy3 hy4 y0 (p++ [x0]) (v0++([(K_iiLiE.mk x0.f0 x0.f1 [])])) (by rw[append_assoc]; exact hp0) (by simp only[length_map,length_set,length_append,length_replicate,length_cons,length_nil]; omega)
    rw[show ((p++ [x0]).length:Int)=(p.length:Int)+1 from by simp] at ih
    rw[show (⟨[(1,(.ptr ⟨(1,0,0),[],0,0,3⟩)),(3,(.ptr ⟨(3,0,0),[],0,0,3⟩)),(12,(.one (.bor l0_1 (map b_iiLiE a0.f1)))),(13,(.oi ((length (map b_iiLiE a0.f1)):Int))),(14,(.oi (wrap .i64 ((length p:Int)+1))))],[((1,0,0),.live ⟨3,[[(.i a0.f0),(.bor l0_1 (map b_iiLiE a0.f1)),(.bor l0_2 (map b_iLiE a0.f2))]],[]⟩),((3,0,0),.live ⟨3,[[(.i a0.f0),(.own 3 (map d_iiLiE (v0++([(K_iiLiE.mk x0.f0 x0.f1 [])])))),(.bor l0_2 (map b_iLiE a0.f2))]],[]⟩)]⟩:St)=h36_0 l0_1 l0_2 a0 ((length p:Int)+1) (v0++([(K_iiLiE.mk x0.f0 x0.f1 [])])) from(by unfold h36_0; simp only[hw]; done)] at st
    exact .loopN st ih
def post36_0 (n0:Nat):O36_0→Prop
  |.k0 w0 _ _=>length w0=n0
theorem z36_0 {a0:K_iLiiLiEELiLiEE}:∀(y0:List K_iiLiE) (i:Int) (v0:List K_iiLiE),post36_0 (length v0+length y0) (r36_0 a0 y0 i v0)
  |[],i,v0=>by
    first | trivial |(simp only[post36_0,length_nil,Nat.add_zero]; done) |(simp[post36_0]; done)
  |x0::y0,i,v0=>by
    simp only[r36_0]
    have z:=z36_0 (a0:=a0) y0 (i+1) (v0++([(K_iiLiE.mk x0.f0 x0.f1 [])]))
    rw[show (length v0+length (x0::y0))=(length (v0++([(K_iiLiE.mk x0.f0 x0.f1 [])]))+length y0) from by first | omega |(simp only[length_map,length_set,length_append,length_replicate,length_cons,length_nil]; done) |(simp only[length_map,length_set,length_append,length_replicate,length_cons,length_nil]; omega)]
    exact z
def bare (x:K_iiLiE):K_iiLiE:=K_iiLiE.mk x.f0 x.f1 []
theorem lk36 {a:K_iLiiLiEELiLiEE}:∀ {l:List K_iiLiE} {i:Int} {v w:List K_iiLiE} {j b},r36_0 a l i v=.k0 w j b→w=v++l.map bare
  |[],i,v,w,j,b,h=>by simp only[r36_0] at h; injection h with h; subst h; simp
  |x::l,i,v,w,j,b,h=>by
    simp only[r36_0] at h
    rw[lk36 h,append_assoc]; rfl
theorem sm36 {a:K_iLiiLiEELiLiEE} {w j b} (h:SmT a) (e:r36_0 a a.f1 0 []=.k0 w j b):SmT (K_iLiiLiEELiLiEE.mk a.f0 w a.f2):=by
  rw[lk36 e]
  refine⟨?_,?_,h.2.2.1,h.2.2.2⟩
  · show length ([]++map bare a.f1)≤4
    have:=h.1; simpa using this
  · intro x hx
    simp only[List.nil_append,List.mem_map] at hx
    obtain⟨y,_,rfl⟩:=hx
    exact Nat.zero_le _
theorem so36 {a:K_iLiiLiEELiLiEE} {w j b} (e:r36_0 a a.f1 0 []=.k0 w j b):∀z∈w,ok_iiLiE z:=by
  rw[lk36 e]
  intro x hx
  simp only[List.nil_append,List.mem_map] at hx
  obtain⟨y,_,rfl⟩:=hx
  exact Nat.zero_le _
/-! loop.example/g00539/impl.txSum -/
def m36 (a0:K_iLiiLiEELiLiEE):Int:=
  (match r36_0 a0 a0.f1 0 [] with | .k0 w0_0 w1_0 w2_0=>(m54 (m55 (K_iLiiLiEELiLiEE.mk a0.f0 w0_0 a0.f2))))
theorem e36 {l0_1:Nat} {l0_2:Nat} {a0:K_iLiiLiEELiLiEE} (hy0:length a0.f1*40≤140737488351232) (hy1:∀z∈a0.f1,ok_iiLiE z) (hy2:length a0.f2*32≤140737488351232) (hy3:∀z∈a0.f2,ok_iLiE z) (hy4:SmT a0):Ev F X (.call 36 [(.agg (k_iLiiLiEELiLiEE l0_1 l0_2 a0))] [] [] [(.one (.val (.int .i64 (m36 a0))))]):=by
  unfold m36
  cases h0:r36_0 a0 a0.f1 0 [] with
  |k0 w0_0 w1_0 w2_0=>
    try dsimp only
    have zh0:=z36_0 (a0:=a0) a0.f1 0 []; rw[h0] at zh0; simp only[post36_0,length_map,length_set,length_append,length_replicate,length_cons,length_nil,Int.toNat_natCast] at zh0
    have f0:(⟨[(1,(.ptr ⟨(1,0,0),[],0,0,3⟩)),(3,(.ptr ⟨(3,0,0),[],0,0,3⟩)),(12,(.one (.bor l0_1 (map b_iiLiE a0.f1)))),(13,(.oi ((length (map b_iiLiE a0.f1)):Int))),(14,(.oi 0))],[((1,0,0),.live ⟨3,[[(.i a0.f0),(.bor l0_1 (map b_iiLiE a0.f1)),(.bor l0_2 (map b_iLiE a0.f2))]],[]⟩),((3,0,0),.live ⟨3,[[(.i a0.f0),(.own 3 []),(.bor l0_2 (map b_iLiE a0.f2))]],[]⟩)]⟩:St)=h36_0 l0_1 l0_2 a0 0 []:=(by rfl)
    exact cp (by kernel_rfl) (.f f0 (.f (ev_ (e:=ex36_0) (g:=(fin36_0 l0_1 l0_2 a0)) h0 (t36_0 (l0_1:=l0_1) (l0_2:=l0_2) (a0:=a0) (by assumption) (by assumption) (by assumption) (by assumption) (by assumption) a0.f1 [] [] rfl (by have q:=hy4.1; simp only[length_nil]; omega))) (ln_iiLiE w0_0 (.h 26 (.loop (h36_0 l0_1 l0_2 a0 0 []) (.exit 0) ⟨[(1,(.ptr ⟨(1,0,0),[],0,0,3⟩)),(3,(.ptr ⟨(3,0,0),[],0,0,3⟩)),(12,(.one (.bor l0_1 (map b_iiLiE a0.f1)))),(13,(.one (.val (.int .i64 ((length (map b_iiLiE a0.f1)):Int))))),(14,(.one (.val (.int .i64 w1_0)))),(15,(.one (.val (.bool w2_0))))],[((1,0,0),.live ⟨3,[[(.val (.int .i64 a0.f0)),(.bor l0_1 (map b_iiLiE a0.f1)),(.bor l0_2 (map b_iLiE a0.f2))]],[]⟩),((3,0,0),.live ⟨3,[[(.val (.int .i64 a0.f0)),(.own 3 (map d_iiLiE w0_0)),(.bor l0_2 (map b_iLiE a0.f2))]],[]⟩)]⟩) (.r 30 [] [(map b_iiLiE w0_0)] (e55 (l0_1:=0) (l0_2:=(l0_2+1)) (a0:=(K_iLiiLiEELiLiEE.mk a0.f0 w0_0 a0.f2)) (by simp only[length_map]; omega) (by exact so36 ‹_›) ‹_› ‹_› (by exact(sm36 hy4 ‹_›).1) (by exact(sm36 hy4 ‹_›).2.1) (by exact hy4.2.2.1) (by exact hy4.2.2.2)) (ln_y (m55 (K_iLiiLiEELiLiEE.mk a0.f0 w0_0 a0.f2)) (.r 32 [] [(map b_y (m55 (K_iLiiLiEELiLiEE.mk a0.f0 w0_0 a0.f2)))] (e54 (l0_0:=0) (a0:=(m55 (K_iLiiLiEELiLiEE.mk a0.f0 w0_0 a0.f2))) (by have q:=pt55 _ (sm36 hy4 ‹_›); omega)) .nil)))))))
/-! loop 24_0 -/
inductive O24_0 where
  |k0 (w0:List Int) (w1:Int) (w2:Bool)
def r24_0 (a0:K_iiiiLiLiiLiEELiLiEEE):List K_iLiiLiEELiLiEE→Int→List Int→O24_0
  |x0::y0,i,v0=>
    (r24_0 a0 y0 (i+1) (v0++([(m36 x0)])))
  |[],i,v0=>(O24_0.k0 v0 i (decide (i <((length (map b_iLiiLiEELiLiEE a0.f4)):Int))))
def h24_0 (l0_4:Nat) (a0:K_iiiiLiLiiLiEELiLiEEE) (i:Int) (v0:List Int):St:=⟨[(1,(.ptr ⟨(1,0,0),[],0,0,5⟩)),(3,(.one (.ref ⟨(3,0,0),[],0,(length (map d_i v0))⟩))),(8,(.one (.bor l0_4 (map b_iLiiLiEELiLiEE a0.f4)))),(9,(.one (.val (.int .i64 ((length (map b_iLiiLiEELiLiEE a0.f4)):Int))))),(10,(.one (.val (.int .i64 i))))],[((1,0,0),.live ⟨5,[[(.val (.int .i64 a0.f0)),(.val (.int .i64 a0.f1)),(.val (.int .i64 a0.f2)),(.val (.int .i64 a0.f3)),(.bor l0_4 (map b_iLiiLiEELiLiEE a0.f4))]],[]⟩),((3,0,0),.live ⟨1,(map d_i v0),[]⟩)]⟩
def ex24_0:O24_0→VX.Exit
  |.k0 _ _ _=>(.exit 0)
def fin24_0 (l0_4:Nat) (a0:K_iiiiLiLiiLiEELiLiEEE):O24_0→St
  |.k0 w0 w1 w2=>⟨[(1,(.ptr ⟨(1,0,0),[],0,0,5⟩)),(3,(.one (.ref ⟨(3,0,0),[],0,(length (map d_i w0))⟩))),(8,(.one (.bor l0_4 (map b_iLiiLiEELiLiEE a0.f4)))),(9,(.one (.val (.int .i64 ((length (map b_iLiiLiEELiLiEE a0.f4)):Int))))),(10,(.one (.val (.int .i64 w1)))),(11,(.one (.val (.bool w2))))],[((1,0,0),.live ⟨5,[[(.val (.int .i64 a0.f0)),(.val (.int .i64 a0.f1)),(.val (.int .i64 a0.f2)),(.val (.int .i64 a0.f3)),(.bor l0_4 (map b_iLiiLiEELiLiEE a0.f4))]],[]⟩),((3,0,0),.live ⟨1,(map d_i w0),[]⟩)]⟩
theorem t24_0 {l0_4:Nat} {a0:K_iiiiLiLiiLiEELiLiEEE} (hy0:length a0.f4*56≤140737488351232) (hy1:∀z∈a0.f4,ok_iLiiLiEELiLiEE z) (hy2:length a0.f4≤4) (hy3:∀z∈a0.f4,SmT z):∀(y0:List K_iLiiLiEELiLiEE) (p:List K_iLiiLiEELiLiEE) (v0:List Int),p++y0=a0.f4→(length v0+length y0)*8≤70368744177664→length v0+length y0≤4→Ev F X (.code l24_0 (h24_0 l0_4 a0 (length p:Int) v0) (ex24_0 (r24_0 a0 y0 (length p:Int) v0)) (fin24_0 l0_4 a0 (r24_0 a0 y0 (length p:Int) v0)))
  |[],p,v0,hp0,hi0,hi1=>by
    have hc:¬(decide ((length p:Int) <((length (map b_iLiiLiEELiLiEE a0.f4)):Int)))=true:=by
      rw[← hp0]; simp only[length_map,length_set,length_append,length_replicate,length_cons,length_nil,decide_eq_true_eq]; omega
    have hj0:=hi0; try simp only[length_map,length_set,length_append,length_replicate,length_cons,length_nil,Int.toNat_natCast] at hj0
    have hj1:=hi1; try simp only[length_map,length_set,length_append,length_replicate,length_cons,length_nil,Int.toNat_natCast] at hj1
    have st:=ch b24_0 (h24_0 l0_4 a0 (length p:Int) v0) ⟨[(1,(.ptr ⟨(1,0,0),[],0,0,5⟩)),(3,(.one (.ref ⟨(3,0,0),[],0,(length (map d_i v0))⟩))),(8,(.one (.bor l0_4 (map b_iLiiLiEELiLiEE a0.f4)))),(9,(.oi ((length (map b_iLiiLiEELiLiEE a0.f4)):Int))),(10,(.oi (length p:Int))),(11,(.one (.val (.bool (decide ((length p:Int) <((length (map b_iLiiLiEELiLiEE a0.f4)):Int)))))))],[((1,0,0),.live ⟨5,[[(.i a0.f0),(.i a0.f1),(.i a0.f2),(.i a0.f3),(.bor l0_4 (map b_iLiiLiEELiLiEE a0.f4))]],[]⟩),((3,0,0),.live ⟨1,(map d_i v0),[]⟩)]⟩ (.exit 0) 3 (by kernel_rfl) (.f (nt hc) (.h 2 (.b false) .nil))
    rw[show (⟨[(1,(.ptr ⟨(1,0,0),[],0,0,5⟩)),(3,(.one (.ref ⟨(3,0,0),[],0,(length (map d_i v0))⟩))),(8,(.one (.bor l0_4 (map b_iLiiLiEELiLiEE a0.f4)))),(9,(.oi ((length (map b_iLiiLiEELiLiEE a0.f4)):Int))),(10,(.oi (length p:Int))),(11,(.one (.val (.bool (decide ((length p:Int) <((length (map b_iLiiLiEELiLiEE a0.f4)):Int)))))))],[((1,0,0),.live ⟨5,[[(.i a0.f0),(.i a0.f1),(.i a0.f2),(.i a0.f3),(.bor l0_4 (map b_iLiiLiEELiLiEE a0.f4))]],[]⟩),((3,0,0),.live ⟨1,(map d_i v0),[]⟩)]⟩:St)=fin24_0 l0_4 a0 (.k0 v0 (length p:Int) (decide ((length p:Int) <((length (map b_iLiiLiEELiLiEE a0.f4)):Int)))) from(by rfl)] at st
    exact .loopX st (show ((.exit 0):VX.Exit)≠.normal from by simp)
  |x0::y0,p,v0,hp0,hi0,hi1=>by
    have hc:(decide ((length p:Int) <((length (map b_iLiiLiEELiLiEE a0.f4)):Int)))=true:=by
      rw[← hp0]; simp only[length_map,length_set,length_append,length_replicate,length_cons,length_nil,decide_eq_true_eq]; omega
    have Hx0:(a0.f4)[toNat (length p:Int)]?=some x0:=by
      rw[← hp0,Int.toNat_natCast]; simp
    obtain⟨Mx0_0,Mx0_1,Mx0_2,Mx0_3⟩:=hy1 x0 (List.mem_of_getElem? Hx0)
    have hlen:length (a0.f4)=length p+length y0+1:=by rw[← hp0]; simp; omega
    have hw:wrap .i64 ((length p:Int)+1)=(length p:Int)+1:=wrap64 (by omega)
    have hj0:=hi0; try simp only[length_map,length_set,length_append,length_replicate,length_cons,length_nil,Int.toNat_natCast] at hj0
    have hj1:=hi1; try simp only[length_map,length_set,length_append,length_replicate,length_cons,length_nil,Int.toNat_natCast] at hj1
    simp only[r24_0]
    have f1:0≤(length p:Int):=(by omega)
    have f4:0+(length (map d_i v0))≤(length (map d_i v0)):=(by omega)
    have f5:1≤1:=(by omega)
    have f6:((take 1 (drop 0 [[(.val (.int .i64 (m36 x0)))]])).all fun x=>x.all copyable)=true:=(by trivial)
    have f7:(length ((take (length (map d_i v0)) (drop 0 (map d_i v0)))++([[(.val (.int .i64 (m36 x0)))]]:List (List D))))*8≤70368744177664:=(by simp only[length_map,length_append,length_take,length_drop,length_cons,length_nil,List.length_flatten,List.map_cons,List.map_nil,List.sum_cons,List.sum_nil] at*; omega)
    have f8:∀r∈([[(.val (.int .i64 (m36 x0)))]]:List (List D)),r.length=1:=(by unfold m36;(repeat' split)<;>simp_all<;>omega)
    have f9:((take (length (map d_i v0)) (drop 0 (map d_i v0)))++([[(.val (.int .i64 (m36 x0)))]]:List (List D)))=(map d_i (v0++([(m36 x0)]))):=(by simp[byteRows_eq,ints_y,take_of_length_le,d_i,d_iiLiE,d_iLiE,d_iLiiLiEELiLiEE,d_iiiiiLiLiiLiEELiLiEEE,d_LiiiiiLiLiiLiEELiLiEEEE,d_b,d_iiiiLiLiiLiEELiLiEEE,d_LiE,d_LiLiiLiEELiLiEEE,d_LiiLiEE,d_LiLiEE,d_y,d_LyE,d_LLyEE,fromBR_i,fromBR_b,fromBR_y,four_len,high4,high2]; done)
    have st:=ch b24_0 (h24_0 l0_4 a0 (length p:Int) v0) ⟨[(1,(.ptr ⟨(1,0,0),[],0,0,5⟩)),(3,(.one (.ref ⟨(3,0,0),[],0,(length ((take (length (map d_i v0)) (drop 0 (map d_i v0)))++([[(.i (m36 x0))]]:List (List D))))⟩))),(8,(.one (.bor l0_4 (map b_iLiiLiEELiLiEE a0.f4)))),(9,(.oi ((length (map b_iLiiLiEELiLiEE a0.f4)):Int))),(10,(.oi (wrap .i64 ((length p:Int)+1))))],[((1,0,0),.live ⟨5,[[(.i a0.f0),(.i a0.f1),(.i a0.f2),(.i a0.f3),(.bor l0_4 (map b_iLiiLiEELiLiEE a0.f4))]],[]⟩),((3,0,0),.live ⟨1,(map d_i (v0++([(m36 x0)]))),[]⟩)]⟩ .normal 28 (by kernel_rfl) (.f hc (.f f1 (.f (mp_ b_iLiiLiEELiLiEE Hx0) (.h 2 (.b true) (.h 4 (.row (b_iLiiLiEELiLiEE x0)) (.r 16 [] [] (e36 (l0_1:=(l0_4+1)) (l0_2:=(l0_4+1)) (a0:=x0) ‹_› ‹_› ‹_› ‹_› (by exact hy3 _ (List.mem_of_getElem? ‹_›))) (.f f4 (.f f5 (.f f6 (.f f7 (.f f8 (.f f9 (.f trivial (.h 20 (.b true) (.h 23 (.norm (3,0,0) (map d_i (v0++([(m36 x0)])))) .nil)))))))))))))))
    have ih:=t24_0 (l0_4:=l0_4) (a0:=a0) hy0 hy1 hy2 hy3 y0 (p++ [x0]) (v0++([(m36 x0)])) (by rw[append_assoc]; exact hp0) (by simp only[length_map,length_set,length_append,length_replicate,length_cons,length_nil]; omega) (by simp only[length_map,length_set,length_append,length_replicate,length_cons,length_nil]; omega)
    rw[show ((p++ [x0]).length:Int)=(p.length:Int)+1 from by simp] at ih
    rw[show (⟨[(1,(.ptr ⟨(1,0,0),[],0,0,5⟩)),(3,(.one (.ref ⟨(3,0,0),[],0,(length ((take (length (map d_i v0)) (drop 0 (map d_i v0)))++([[(.i (m36 x0))]]:List (List D))))⟩))),(8,(.one (.bor l0_4 (map b_iLiiLiEELiLiEE a0.f4)))),(9,(.oi ((length (map b_iLiiLiEELiLiEE a0.f4)):Int))),(10,(.oi (wrap .i64 ((length p:Int)+1))))],[((1,0,0),.live ⟨5,[[(.i a0.f0),(.i a0.f1),(.i a0.f2),(.i a0.f3),(.bor l0_4 (map b_iLiiLiEELiLiEE a0.f4))]],[]⟩),((3,0,0),.live ⟨1,(map d_i (v0++([(m36 x0)]))),[]⟩)]⟩:St)=h24_0 l0_4 a0 ((length p:Int)+1) (v0++([(m36 x0)])) from(by unfold h24_0; simp[hw,byteRows_eq,ints_y,take_of_length_le,d_i,d_iiLiE,d_iLiE,d_iLiiLiEELiLiEE,d_iiiiiLiLiiLiEELiLiEEE,d_LiiiiiLiLiiLiEELiLiEEEE,d_b,d_iiiiLiLiiLiEELiLiEEE,d_LiE,d_LiLiiLiEELiLiEEE,d_LiiLiEE,d_LiLiEE,d_y,d_LyE,d_LLyEE,fromBR_i,fromBR_b,fromBR_y,four_len,high4,high2]; done)] at st
    exact .loopN st ih
def post24_0 (n0:Nat):O24_0→Prop
  |.k0 w0 _ _=>length w0=n0
theorem z24_0 {a0:K_iiiiLiLiiLiEELiLiEEE}:∀(y0:List K_iLiiLiEELiLiEE) (i:Int) (v0:List Int),post24_0 (length v0+length y0) (r24_0 a0 y0 i v0)
  |[],i,v0=>by
    first | trivial |(simp only[post24_0,length_nil,Nat.add_zero]; done) |(simp[post24_0]; done)
  |x0::y0,i,v0=>by
    simp only[r24_0]
    have z:=z24_0 (a0:=a0) y0 (i+1) (v0++([(m36 x0)]))
    rw[show (length v0+length (x0::y0))=(length (v0++([(m36 x0)]))+length y0) from by first | omega |(simp only[length_map,length_set,length_append,length_replicate,length_cons,length_nil]; done) |(simp only[length_map,length_set,length_append,length_replicate,length_cons,length_nil]; omega)]
    exact z
theorem ls24 {a:K_iiiiLiLiiLiEELiLiEEE}:∀ {l:List K_iLiiLiEELiLiEE} {i:Int} {v w:List Int} {j b},r24_0 a l i v=.k0 w j b→w.length=v.length+l.length
  |[],i,v,w,j,b,h=>by simp only[r24_0] at h; injection h with h; subst h; simp
  |x::l,i,v,w,j,b,h=>by
    simp only[r24_0] at h
    have q:=ls24 h
    simp only[length_append,length_cons,length_nil] at q⊢; omega
/-! loop.example/g00539/impl.txSums -/
def m24 (a0:K_iiiiLiLiiLiEELiLiEEE):(List Int):=
  (match r24_0 a0 a0.f4 0 ([]) with | .k0 w0_0 w1_0 w2_0=>w0_0)
theorem e24 {l0_4:Nat} {a0:K_iiiiLiLiiLiEELiLiEEE} (hy0:length a0.f4*56≤140737488351232) (hy1:∀z∈a0.f4,ok_iLiiLiEELiLiEE z) (hy2:length a0.f4≤4) (hy3:∀z∈a0.f4,SmT z):Ev F X (.call 24 [(.agg (k_iiiiLiLiiLiEELiLiEEE l0_4 a0))] [] [] [(.one (.own 1 (map d_i (m24 a0))))]):=by
  unfold m24
  cases h0:r24_0 a0 a0.f4 0 ([]) with
  |k0 w0_0 w1_0 w2_0=>
    try dsimp only
    have zh0:=z24_0 (a0:=a0) a0.f4 0 ([]); rw[h0] at zh0; simp only[post24_0,length_map,length_set,length_append,length_replicate,length_cons,length_nil,Int.toNat_natCast] at zh0
    have f0:(⟨[(1,(.ptr ⟨(1,0,0),[],0,0,5⟩)),(3,(.one (.ref ⟨(3,0,0),[],0,0⟩))),(8,(.one (.bor l0_4 (map b_iLiiLiEELiLiEE a0.f4)))),(9,(.oi ((length (map b_iLiiLiEELiLiEE a0.f4)):Int))),(10,(.oi 0))],[((1,0,0),.live ⟨5,[[(.i a0.f0),(.i a0.f1),(.i a0.f2),(.i a0.f3),(.bor l0_4 (map b_iLiiLiEELiLiEE a0.f4))]],[]⟩),((3,0,0),.live ⟨1,[],[]⟩)]⟩:St)=h24_0 l0_4 a0 0 ([]):=(by rfl)
    exact cp (by kernel_rfl) (.f f0 (.f (ev_ (e:=ex24_0) (g:=(fin24_0 l0_4 a0)) h0 (t24_0 (l0_4:=l0_4) (a0:=a0) (by assumption) (by assumption) (by assumption) (by assumption) a0.f4 [] ([]) rfl (by simp only[length_map,length_append,length_take,length_drop,length_cons,length_nil,List.length_flatten,List.map_cons,List.map_nil,List.sum_cons,List.sum_nil] at*; omega) (by simp only[length_map,length_append,length_take,length_drop,length_cons,length_nil,List.length_flatten,List.map_cons,List.map_nil,List.sum_cons,List.sum_nil] at*; omega))) (pe 0 (pe (length (map d_i w0_0)) (.f (pureR_i w0_0) (.h 16 (.loop (h24_0 l0_4 a0 0 ([])) (.exit 0) ⟨[(1,(.ptr ⟨(1,0,0),[],0,0,5⟩)),(3,(.one (.ref ⟨(3,0,0),[],0,(length (map d_i w0_0))⟩))),(8,(.one (.bor l0_4 (map b_iLiiLiEELiLiEE a0.f4)))),(9,(.one (.val (.int .i64 ((length (map b_iLiiLiEELiLiEE a0.f4)):Int))))),(10,(.one (.val (.int .i64 w1_0)))),(11,(.one (.val (.bool w2_0))))],[((1,0,0),.live ⟨5,[[(.val (.int .i64 a0.f0)),(.val (.int .i64 a0.f1)),(.val (.int .i64 a0.f2)),(.val (.int .i64 a0.f3)),(.bor l0_4 (map b_iLiiLiEELiLiEE a0.f4))]],[]⟩),((3,0,0),.live ⟨1,(map d_i w0_0),[]⟩)]⟩) .nil))))))
theorem ln24 (a:K_iiiiLiLiiLiEELiLiEEE):length (m24 a)=length a.f4:=by
  unfold m24
  cases h:r24_0 a a.f4 0 [] with
  |k0 w j b=>
    have q:=ls24 h
    show w.length=_
    simpa using q
/-! loop 13_0 -/
inductive O13_0 where
  |k0 (w0:Int) (w1:Bool)
  |k1 (w0:Int)
def r13_0 (a0:K_iiiiLiLiiLiEELiLiEEE):List K_iLiiLiEELiLiEE→Int→O13_0
  |x0::y0,i=>
    if((m21 x0) !=0)=true then(O13_0.k1 (m21 x0)) else
    (r13_0 a0 y0 (i+1))
  |[],i=>(O13_0.k0 i (decide (i <((length (map b_iLiiLiEELiLiEE a0.f4)):Int))))
def h13_0 (l0_4:Nat) (a0:K_iiiiLiLiiLiEELiLiEEE) (i:Int) :St:=⟨[(1,(.ptr ⟨(1,0,0),[],0,0,5⟩)),(38,(.one (.bor l0_4 (map b_iLiiLiEELiLiEE a0.f4)))),(39,(.one (.val (.int .i64 ((length (map b_iLiiLiEELiLiEE a0.f4)):Int))))),(40,(.one (.val (.int .i64 i))))],[((1,0,0),.live ⟨5,[[(.val (.int .i64 a0.f0)),(.val (.int .i64 a0.f1)),(.val (.int .i64 a0.f2)),(.val (.int .i64 a0.f3)),(.bor l0_4 (map b_iLiiLiEELiLiEE a0.f4))]],[]⟩)]⟩
def ex13_0:O13_0→VX.Exit
  |.k0 _ _=>(.exit 1)
  |.k1 _=>.ret
def fin13_0 (l0_4:Nat) (a0:K_iiiiLiLiiLiEELiLiEEE):O13_0→St
  |.k0 w0 w1=>⟨[(1,(.ptr ⟨(1,0,0),[],0,0,5⟩)),(38,(.one (.bor l0_4 (map b_iLiiLiEELiLiEE a0.f4)))),(39,(.one (.val (.int .i64 ((length (map b_iLiiLiEELiLiEE a0.f4)):Int))))),(40,(.one (.val (.int .i64 w0)))),(41,(.one (.val (.bool w1))))],[((1,0,0),.live ⟨5,[[(.val (.int .i64 a0.f0)),(.val (.int .i64 a0.f1)),(.val (.int .i64 a0.f2)),(.val (.int .i64 a0.f3)),(.bor l0_4 (map b_iLiiLiEELiLiEE a0.f4))]],[]⟩)]⟩
  |.k1 w0=>⟨[(2,(.one (.val (.int .i64 w0))))],[]⟩
theorem t13_0 {l0_4:Nat} {a0:K_iiiiLiLiiLiEELiLiEEE} (hy0:length a0.f4*56≤140737488351232) (hy1:∀z∈a0.f4,ok_iLiiLiEELiLiEE z):∀(y0:List K_iLiiLiEELiLiEE) (p:List K_iLiiLiEELiLiEE),p++y0=a0.f4→Ev F X (.code l13_0 (h13_0 l0_4 a0 (length p:Int)) (ex13_0 (r13_0 a0 y0 (length p:Int))) (fin13_0 l0_4 a0 (r13_0 a0 y0 (length p:Int))))
  |[],p,hp0=>by
    have hc:¬(decide ((length p:Int) <((length (map b_iLiiLiEELiLiEE a0.f4)):Int)))=true:=by
      rw[← hp0]; simp only[length_map,length_set,length_append,length_replicate,length_cons,length_nil,decide_eq_true_eq]; omega
    have st:=ch b13_0 (h13_0 l0_4 a0 (length p:Int)) ⟨[(1,(.ptr ⟨(1,0,0),[],0,0,5⟩)),(38,(.one (.bor l0_4 (map b_iLiiLiEELiLiEE a0.f4)))),(39,(.oi ((length (map b_iLiiLiEELiLiEE a0.f4)):Int))),(40,(.oi (length p:Int))),(41,(.one (.val (.bool (decide ((length p:Int) <((length (map b_iLiiLiEELiLiEE a0.f4)):Int)))))))],[((1,0,0),.live ⟨5,[[(.i a0.f0),(.i a0.f1),(.i a0.f2),(.i a0.f3),(.bor l0_4 (map b_iLiiLiEELiLiEE a0.f4))]],[]⟩)]⟩ (.exit 1) 3 (by kernel_rfl) (.f (nt hc) (.h 2 (.b false) .nil))
    rw[show (⟨[(1,(.ptr ⟨(1,0,0),[],0,0,5⟩)),(38,(.one (.bor l0_4 (map b_iLiiLiEELiLiEE a0.f4)))),(39,(.oi ((length (map b_iLiiLiEELiLiEE a0.f4)):Int))),(40,(.oi (length p:Int))),(41,(.one (.val (.bool (decide ((length p:Int) <((length (map b_iLiiLiEELiLiEE a0.f4)):Int)))))))],[((1,0,0),.live ⟨5,[[(.i a0.f0),(.i a0.f1),(.i a0.f2),(.i a0.f3),(.bor l0_4 (map b_iLiiLiEELiLiEE a0.f4))]],[]⟩)]⟩:St)=fin13_0 l0_4 a0 (.k0 (length p:Int) (decide ((length p:Int) <((length (map b_iLiiLiEELiLiEE a0.f4)):Int)))) from(by rfl)] at st
    exact .loopX st (show ((.exit 1):VX.Exit)≠.normal from by simp)
  |x0::y0,p,hp0=>by
    have hc:(decide ((length p:Int) <((length (map b_iLiiLiEELiLiEE a0.f4)):Int)))=true:=by
      rw[← hp0]; simp only[length_map,length_set,length_append,length_replicate,length_cons,length_nil,decide_eq_true_eq]; omega
    have Hx0:(a0.f4)[toNat (length p:Int)]?=some x0:=by
      rw[← hp0,Int.toNat_natCast]; simp
    obtain⟨Mx0_0,Mx0_1,Mx0_2,Mx0_3⟩:=hy1 x0 (List.mem_of_getElem? Hx0)
    have hlen:length (a0.f4)=length p+length y0+1:=by rw[← hp0]; simp; omega
    have hw:wrap .i64 ((length p:Int)+1)=(length p:Int)+1:=wrap64 (by omega)
    simp only[r13_0]
    have f1:0≤(length p:Int):=(by omega)
    have P1 {hs q} (r:PS F X hs q):=(PS.f hc (.f f1 (.f (mp_ b_iLiiLiEELiLiEE Hx0) (.h 2 (.b true) (.h 4 (.row (b_iLiiLiEELiLiEE x0)) (.r 14 [] [] (e21 (l0_1:=(l0_4+1)) (l0_2:=(l0_4+1)) (a0:=x0) ‹_› ‹_› ‹_› ‹_›) r))))))
    by_cases h_1:((m21 x0) !=0)=true
    · try simp only[if_pos h_1]
      have st:=ch b13_0 (h13_0 l0_4 a0 (length p:Int)) ⟨[(2,(.oi (m21 x0)))],[]⟩ .ret 26 (by kernel_rfl) (P1 (.f h_1 (.h 21 (.b true) .nil)))
      rw[show (⟨[(2,(.oi (m21 x0)))],[]⟩:St)=fin13_0 l0_4 a0 (.k1 (m21 x0)) from(by rfl)] at st
      exact .loopX st (show (.ret:VX.Exit)≠.normal from by simp)
    · try simp only[if_neg h_1]
      have st:=ch b13_0 (h13_0 l0_4 a0 (length p:Int)) ⟨[(1,(.ptr ⟨(1,0,0),[],0,0,5⟩)),(38,(.one (.bor l0_4 (map b_iLiiLiEELiLiEE a0.f4)))),(39,(.oi ((length (map b_iLiiLiEELiLiEE a0.f4)):Int))),(40,(.oi (wrap .i64 ((length p:Int)+1))))],[((1,0,0),.live ⟨5,[[(.i a0.f0),(.i a0.f1),(.i a0.f2),(.i a0.f3),(.bor l0_4 (map b_iLiiLiEELiLiEE a0.f4))]],[]⟩)]⟩ .normal 26 (by kernel_rfl) (P1 (.f (nt h_1) (.f trivial (.h 21 (.b false) .nil))))
      have ih:=t13_0 (l0_4:=l0_4) (a0:=a0) hy0 hy1 y0 (p++ [x0]) (by rw[append_assoc]; exact hp0)
      rw[show ((p++ [x0]).length:Int)=(p.length:Int)+1 from by simp] at ih
      rw[show (⟨[(1,(.ptr ⟨(1,0,0),[],0,0,5⟩)),(38,(.one (.bor l0_4 (map b_iLiiLiEELiLiEE a0.f4)))),(39,(.oi ((length (map b_iLiiLiEELiLiEE a0.f4)):Int))),(40,(.oi (wrap .i64 ((length p:Int)+1))))],[((1,0,0),.live ⟨5,[[(.i a0.f0),(.i a0.f1),(.i a0.f2),(.i a0.f3),(.bor l0_4 (map b_iLiiLiEELiLiEE a0.f4))]],[]⟩)]⟩:St)=h13_0 l0_4 a0 ((length p:Int)+1)  from(by unfold h13_0; simp only[hw]; done)] at st
      exact .loopN st ih
theorem lb13 {a:K_iiiiLiLiiLiEELiLiEEE}:∀ {l:List K_iLiiLiEELiLiEE} {i:Int} {j b},r13_0 a l i=.k0 j b→∀x∈l,m21 x=0
  |[],i,j,b,h,x,hx=>by cases hx
  |y::l,i,j,b,h,x,hx=>by
    simp only[r13_0] at h
    split at h
    · cases h
    · rename_i h1
      rcases List.mem_cons.1 hx with rfl | hx
      · simpa using h1
      · exact lb13 h x hx
theorem ne13 {a:K_iiiiLiLiiLiEELiLiEEE}:∀(l:List K_iLiiLiEELiLiEE) (i:Int),r13_0 a l i≠.k1 0
  |[],i=>by simp only[r13_0]; intro h; cases h
  |y::l,i=>by
    simp only[r13_0]
    split
    · rename_i h; intro q; injection q with q; rw[q] at h; exact absurd h (by decide)
    · exact ne13 l _
theorem in413 {a:List K_iLiiLiEELiLiEE} (h:¬(!(m18 ((length (map b_iLiiLiEELiLiEE a)):Int) 1 4))=true):1≤length a∧length a≤4:=by
  unfold m18 at h
  simp only[length_map] at h
  split at h
  · rename_i g
    simp only[decide_eq_true_eq] at g
    by_cases e:(a.length:Int)≤4
    · omega
    · simp[e] at h
  · simp at h
/-! loop 13_1 -/
inductive O13_1 where
  |k0 (w0:Int) (w1:Bool)
  |k1
def r13_1 (a0:K_iiiiLiLiiLiEELiLiEEE):List K_iLiiLiEELiLiEE→Int→O13_1
  |x0::y0,i=>
    if(!((((length (map b_iiLiE x0.f1)):Int)==0)==(i==0)))=true then(O13_1.k1) else
    (r13_1 a0 y0 (i+1))
  |[],i=>(O13_1.k0 i (decide (i <((length (map b_iLiiLiEELiLiEE a0.f4)):Int))))
def h13_1 (l0_4:Nat) (a0:K_iiiiLiLiiLiEELiLiEEE) (i:Int) :St:=⟨[(1,(.ptr ⟨(1,0,0),[],0,0,5⟩)),(51,(.one (.bor l0_4 (map b_iLiiLiEELiLiEE a0.f4)))),(52,(.one (.val (.int .i64 ((length (map b_iLiiLiEELiLiEE a0.f4)):Int))))),(53,(.one (.val (.int .i64 i))))],[((1,0,0),.live ⟨5,[[(.val (.int .i64 a0.f0)),(.val (.int .i64 a0.f1)),(.val (.int .i64 a0.f2)),(.val (.int .i64 a0.f3)),(.bor l0_4 (map b_iLiiLiEELiLiEE a0.f4))]],[]⟩)]⟩
def ex13_1:O13_1→VX.Exit
  |.k0 _ _=>(.exit 3)
  |.k1=>.ret
def fin13_1 (l0_4:Nat) (a0:K_iiiiLiLiiLiEELiLiEEE):O13_1→St
  |.k0 w0 w1=>⟨[(1,(.ptr ⟨(1,0,0),[],0,0,5⟩)),(51,(.one (.bor l0_4 (map b_iLiiLiEELiLiEE a0.f4)))),(52,(.one (.val (.int .i64 ((length (map b_iLiiLiEELiLiEE a0.f4)):Int))))),(53,(.one (.val (.int .i64 w0)))),(54,(.one (.val (.bool w1))))],[((1,0,0),.live ⟨5,[[(.val (.int .i64 a0.f0)),(.val (.int .i64 a0.f1)),(.val (.int .i64 a0.f2)),(.val (.int .i64 a0.f3)),(.bor l0_4 (map b_iLiiLiEELiLiEE a0.f4))]],[]⟩)]⟩
  |.k1=>⟨[(2,(.one (.val (.int .i64 1))))],[]⟩
theorem t13_1 {l0_4:Nat} {a0:K_iiiiLiLiiLiEELiLiEEE} (hy0:length a0.f4*56≤140737488351232) (hy1:∀z∈a0.f4,ok_iLiiLiEELiLiEE z):∀(y0:List K_iLiiLiEELiLiEE) (p:List K_iLiiLiEELiLiEE),p++y0=a0.f4→Ev F X (.code l13_1 (h13_1 l0_4 a0 (length p:Int)) (ex13_1 (r13_1 a0 y0 (length p:Int))) (fin13_1 l0_4 a0 (r13_1 a0 y0 (length p:Int))))
  |[],p,hp0=>by
    have hc:¬(decide ((length p:Int) <((length (map b_iLiiLiEELiLiEE a0.f4)):Int)))=true:=by
      rw[← hp0]; simp only[length_map,length_set,length_append,length_replicate,length_cons,length_nil,decide_eq_true_eq]; omega
    have st:=ch b13_1 (h13_1 l0_4 a0 (length p:Int)) ⟨[(1,(.ptr ⟨(1,0,0),[],0,0,5⟩)),(51,(.one (.bor l0_4 (map b_iLiiLiEELiLiEE a0.f4)))),(52,(.oi ((length (map b_iLiiLiEELiLiEE a0.f4)):Int))),(53,(.oi (length p:Int))),(54,(.one (.val (.bool (decide ((length p:Int) <((length (map b_iLiiLiEELiLiEE a0.f4)):Int)))))))],[((1,0,0),.live ⟨5,[[(.i a0.f0),(.i a0.f1),(.i a0.f2),(.i a0.f3),(.bor l0_4 (map b_iLiiLiEELiLiEE a0.f4))]],[]⟩)]⟩ (.exit 3) 3 (by kernel_rfl) (.f (nt hc) (.h 2 (.b false) .nil))
    rw[show (⟨[(1,(.ptr ⟨(1,0,0),[],0,0,5⟩)),(51,(.one (.bor l0_4 (map b_iLiiLiEELiLiEE a0.f4)))),(52,(.oi ((length (map b_iLiiLiEELiLiEE a0.f4)):Int))),(53,(.oi (length p:Int))),(54,(.one (.val (.bool (decide ((length p:Int) <((length (map b_iLiiLiEELiLiEE a0.f4)):Int)))))))],[((1,0,0),.live ⟨5,[[(.i a0.f0),(.i a0.f1),(.i a0.f2),(.i a0.f3),(.bor l0_4 (map b_iLiiLiEELiLiEE a0.f4))]],[]⟩)]⟩:St)=fin13_1 l0_4 a0 (.k0 (length p:Int) (decide ((length p:Int) <((length (map b_iLiiLiEELiLiEE a0.f4)):Int)))) from(by rfl)] at st
    exact .loopX st (show ((.exit 3):VX.Exit)≠.normal from by simp)
  |x0::y0,p,hp0=>by
    have hc:(decide ((length p:Int) <((length (map b_iLiiLiEELiLiEE a0.f4)):Int)))=true:=by
      rw[← hp0]; simp only[length_map,length_set,length_append,length_replicate,length_cons,length_nil,decide_eq_true_eq]; omega
    have Hx0:(a0.f4)[toNat (length p:Int)]?=some x0:=by
      rw[← hp0,Int.toNat_natCast]; simp
    obtain⟨Mx0_0,Mx0_1,Mx0_2,Mx0_3⟩:=hy1 x0 (List.mem_of_getElem? Hx0)
    have hlen:length (a0.f4)=length p+length y0+1:=by rw[← hp0]; simp; omega
    have hw:wrap .i64 ((length p:Int)+1)=(length p:Int)+1:=wrap64 (by omega)
    simp only[r13_1]
    have f1:0≤(length p:Int):=(by omega)
    have P1 {hs q} (r:PS F X hs q):=(PS.f hc (.f f1 (.f (mp_ b_iLiiLiEELiLiEE Hx0) (.h 2 (.b true) (.h 6 (.row (b_iLiiLiEELiLiEE x0)) (.r 18 [] [] (e22 (l0_1:=(l0_4+1)) (l0_2:=(l0_4+1)) (a0:=x0)) r))))))
    by_cases h_1:(!((((length (map b_iiLiE x0.f1)):Int)==0)==((length p:Int)==0)))=true
    · try simp only[if_pos h_1]
      have st:=ch b13_1 (h13_1 l0_4 a0 (length p:Int)) ⟨[(2,(.oi 1))],[]⟩ .ret 28 (by kernel_rfl) (P1 (.f h_1 (.h 25 (.b true) .nil)))
      rw[show (⟨[(2,(.oi 1))],[]⟩:St)=fin13_1 l0_4 a0 (.k1) from(by rfl)] at st
      exact .loopX st (show (.ret:VX.Exit)≠.normal from by simp)
    · try simp only[if_neg h_1]
      have st:=ch b13_1 (h13_1 l0_4 a0 (length p:Int)) ⟨[(1,(.ptr ⟨(1,0,0),[],0,0,5⟩)),(51,(.one (.bor l0_4 (map b_iLiiLiEELiLiEE a0.f4)))),(52,(.oi ((length (map b_iLiiLiEELiLiEE a0.f4)):Int))),(53,(.oi (wrap .i64 ((length p:Int)+1))))],[((1,0,0),.live ⟨5,[[(.i a0.f0),(.i a0.f1),(.i a0.f2),(.i a0.f3),(.bor l0_4 (map b_iLiiLiEELiLiEE a0.f4))]],[]⟩)]⟩ .normal 30 (by kernel_rfl) (P1 (.f (nt h_1) (.f trivial (.h 25 (.b false) .nil))))
      have ih:=t13_1 (l0_4:=l0_4) (a0:=a0) hy0 hy1 y0 (p++ [x0]) (by rw[append_assoc]; exact hp0)
      rw[show ((p++ [x0]).length:Int)=(p.length:Int)+1 from by simp] at ih
      rw[show (⟨[(1,(.ptr ⟨(1,0,0),[],0,0,5⟩)),(51,(.one (.bor l0_4 (map b_iLiiLiEELiLiEE a0.f4)))),(52,(.oi ((length (map b_iLiiLiEELiLiEE a0.f4)):Int))),(53,(.oi (wrap .i64 ((length p:Int)+1))))],[((1,0,0),.live ⟨5,[[(.i a0.f0),(.i a0.f1),(.i a0.f2),(.i a0.f3),(.bor l0_4 (map b_iLiiLiEELiLiEE a0.f4))]],[]⟩)]⟩:St)=h13_1 l0_4 a0 ((length p:Int)+1)  from(by unfold h13_1; simp only[hw]; done)] at st
      exact .loopN st ih
/-! loop.example/g00539/impl.BlockFault -/
def m13 (a0:K_iiiiLiLiiLiEELiLiEEE):Int:=
  if(!(m18 a0.f0 0 2147483646))=true then 3 else
  if(!(m18 a0.f1 1 99999))=true then 3 else
    if(!(m20 a0.f2))=true then 3 else
      if(!(m18 a0.f3 0 65535))=true then 3 else
        if(!(m18 ((length (map b_iLiiLiEELiLiEE a0.f4)):Int) 1 4))=true then 2 else
          (match r13_0 a0 a0.f4 0 with | .k0 w0_22 w1_22=>(match r13_1 a0 a0.f4 0 with | .k0 w0_23 w1_23=>(if(m23 (m24 a0))=true then 6 else 0) | .k1=>1) | .k1 w0_22=>w0_22)
theorem e13 {l0_4:Nat} {a0:K_iiiiLiLiiLiEELiLiEEE} (hy0:length a0.f4*56≤140737488351232) (hy1:∀z∈a0.f4,ok_iLiiLiEELiLiEE z):Ev F X (.call 13 [(.agg (k_iiiiLiLiiLiEELiLiEEE l0_4 a0))] [] [] [(.one (.val (.int .i64 (m13 a0))))]):=by
  unfold m13
  have P0 {hs q} (r:PS F X hs q):=(PS.r 9 [] [] (e19 (a0:=a0.f0)) r)
  by_cases h0:(!(m18 a0.f0 0 2147483646))=true
  · try simp only[if_pos h0]
    exact cp (by kernel_rfl) (P0 (.f h0 (.f h0 (.f h0 (.f h0 (.f h0 (.h 14 (.b true) (.h 16 (.b true) (.h 18 (.b true) (.h 20 (.b true) (.h 23 (.b true) .nil)))))))))))
  · try simp only[if_neg h0]
    have P1 {hs q} (r:PS F X hs q):=(P0 (.f (nt h0) (.f (nt h0) (.f (nt h0) (.h 14 (.b false) (.h 16 (.b false) (.h 18 (.b false) (.r 19 [] [] (e18 (a0:=a0.f1) (a1:=1) (a2:=99999)) (.f (nt h0) (.f (nt h0) (.h 20 (.b false) (.h 23 (.b false) r))))))))))))
    by_cases h1:(!(m18 a0.f1 1 99999))=true
    · try simp only[if_pos h1]
      exact cp (by kernel_rfl) (P1 (.f h1 (.f h1 (.f h1 (.f h1 (.f h1 (.h 26 (.b true) (.h 28 (.b true) (.h 30 (.b true) (.h 32 (.b true) (.h 35 (.b true) .nil)))))))))))
    · try simp only[if_neg h1]
      have P2 {hs q} (r:PS F X hs q):=(P1 (.f (nt h1) (.f (nt h1) (.f (nt h1) (.h 26 (.b false) (.h 28 (.b false) (.h 30 (.b false) (.r 31 [] [] (e20 (a0:=a0.f2)) (.f (nt h1) (.f (nt h1) (.h 32 (.b false) (.h 35 (.b false) r))))))))))))
      by_cases h2:(!(m20 a0.f2))=true
      · try simp only[if_pos h2]
        exact cp (by kernel_rfl) (P2 (.f h2 (.f h2 (.f h2 (.f h2 (.f h2 (.h 38 (.b true) (.h 40 (.b true) (.h 42 (.b true) (.h 44 (.b true) (.h 47 (.b true) .nil)))))))))))
      · try simp only[if_neg h2]
        have P3 {hs q} (r:PS F X hs q):=(P2 (.f (nt h2) (.f (nt h2) (.f (nt h2) (.h 38 (.b false) (.h 40 (.b false) (.h 42 (.b false) (.r 43 [] [] (e18 (a0:=a0.f3) (a1:=0) (a2:=65535)) (.f (nt h2) (.f (nt h2) (.h 44 (.b false) (.h 47 (.b false) r))))))))))))
        by_cases h3:(!(m18 a0.f3 0 65535))=true
        · try simp only[if_pos h3]
          exact cp (by kernel_rfl) (P3 (.f h3 (.h 50 (.b true) .nil)))
        · try simp only[if_neg h3]
          have P4 {hs q} (r:PS F X hs q):=(P3 (.f (nt h3) (.h 50 (.b false) (.r 58 [] [] (e18 (a0:=((length (map b_iLiiLiEELiLiEE a0.f4)):Int)) (a1:=1) (a2:=4)) r))))
          by_cases h4:(!(m18 ((length (map b_iLiiLiEELiLiEE a0.f4)):Int) 1 4))=true
          · try simp only[if_pos h4]
            exact cp (by kernel_rfl) (P4 (.f h4 (.h 63 (.b true) .nil)))
          · try simp only[if_neg h4]
            have P5 {hs q} (r:PS F X hs q):=(P4 (.f (nt h4) (.h 63 (.b false) r)))
            cases h5:r13_0 a0 a0.f4 0 with
            |k0 w0_22 w1_22=>
              try dsimp only
              have f22:(⟨[(1,(.ptr ⟨(1,0,0),[],0,0,5⟩)),(38,(.one (.bor l0_4 (map b_iLiiLiEELiLiEE a0.f4)))),(39,(.oi ((length (map b_iLiiLiEELiLiEE a0.f4)):Int))),(40,(.oi 0))],[((1,0,0),.live ⟨5,[[(.i a0.f0),(.i a0.f1),(.i a0.f2),(.i a0.f3),(.bor l0_4 (map b_iLiiLiEELiLiEE a0.f4))]],[]⟩)]⟩:St)=h13_0 l0_4 a0 0 :=(by rfl)
              have P6 {hs q} (r:PS F X hs q):=(P5 (.f f22 (.f (ev_ (e:=ex13_0) (g:=(fin13_0 l0_4 a0)) h5 (t13_0 (l0_4:=l0_4) (a0:=a0) (by assumption) (by assumption) a0.f4 []  rfl)) (.h 72 (.loop (h13_0 l0_4 a0 0) (.exit 1) ⟨[(1,(.ptr ⟨(1,0,0),[],0,0,5⟩)),(38,(.one (.bor l0_4 (map b_iLiiLiEELiLiEE a0.f4)))),(39,(.one (.val (.int .i64 ((length (map b_iLiiLiEELiLiEE a0.f4)):Int))))),(40,(.one (.val (.int .i64 w0_22)))),(41,(.one (.val (.bool w1_22))))],[((1,0,0),.live ⟨5,[[(.val (.int .i64 a0.f0)),(.val (.int .i64 a0.f1)),(.val (.int .i64 a0.f2)),(.val (.int .i64 a0.f3)),(.bor l0_4 (map b_iLiiLiEELiLiEE a0.f4))]],[]⟩)]⟩) r))))
              cases h6:r13_1 a0 a0.f4 0 with
              |k0 w0_23 w1_23=>
                try dsimp only
                have f24:(⟨[(1,(.ptr ⟨(1,0,0),[],0,0,5⟩)),(51,(.one (.bor l0_4 (map b_iLiiLiEELiLiEE a0.f4)))),(52,(.oi ((length (map b_iLiiLiEELiLiEE a0.f4)):Int))),(53,(.oi 0))],[((1,0,0),.live ⟨5,[[(.i a0.f0),(.i a0.f1),(.i a0.f2),(.i a0.f3),(.bor l0_4 (map b_iLiiLiEELiLiEE a0.f4))]],[]⟩)]⟩:St)=h13_1 l0_4 a0 0 :=(by rfl)
                have f28:Ev F X (.call 23 [(.one (.ref ⟨(0,0,0),[],0,(length (map d_i (m24 a0)))⟩))] [((0,0,0),⟨1,(map d_i (m24 a0)),[]⟩)] [] [(.one (.val (.bool (m23 (m24 a0)))))]):=(e23 (a0:=(m24 a0)) (by rw[ln24]; have q:=(in413 ‹_›).2; omega))
                have P7 {hs q} (r:PS F X hs q):=(P6 (.f f24 (.f (ev_ (e:=ex13_1) (g:=(fin13_1 l0_4 a0)) h6 (t13_1 (l0_4:=l0_4) (a0:=a0) (by assumption) (by assumption) a0.f4 []  rfl)) (.h 81 (.loop (h13_1 l0_4 a0 0) (.exit 3) ⟨[(1,(.ptr ⟨(1,0,0),[],0,0,5⟩)),(51,(.one (.bor l0_4 (map b_iLiiLiEELiLiEE a0.f4)))),(52,(.one (.val (.int .i64 ((length (map b_iLiiLiEELiLiEE a0.f4)):Int))))),(53,(.one (.val (.int .i64 w0_23)))),(54,(.one (.val (.bool w1_23))))],[((1,0,0),.live ⟨5,[[(.val (.int .i64 a0.f0)),(.val (.int .i64 a0.f1)),(.val (.int .i64 a0.f2)),(.val (.int .i64 a0.f3)),(.bor l0_4 (map b_iLiiLiEELiLiEE a0.f4))]],[]⟩)]⟩) (.r 85 [] [] (e24 (l0_4:=(l0_4+1)) (a0:=a0) ‹_› ‹_› (by exact(in413 ‹_›).2) (by exact fun z hz=>ft21 (lb13 ‹_› z hz))) (.f (pureR_i (m24 a0)) (.r 87 [true] [] f28 r)))))))
                by_cases h7:(m23 (m24 a0))=true
                · try simp only[if_pos h7]
                  exact cp (by kernel_rfl) (P7 (.f h7 (.h 88 (.b true) .nil)))
                · try simp only[if_neg h7]
                  exact cp (by kernel_rfl) (P7 (.f (nt h7) (.h 88 (.b false) .nil)))
              |k1=>
                try dsimp only
                have f24:(⟨[(1,(.ptr ⟨(1,0,0),[],0,0,5⟩)),(51,(.one (.bor l0_4 (map b_iLiiLiEELiLiEE a0.f4)))),(52,(.oi ((length (map b_iLiiLiEELiLiEE a0.f4)):Int))),(53,(.oi 0))],[((1,0,0),.live ⟨5,[[(.i a0.f0),(.i a0.f1),(.i a0.f2),(.i a0.f3),(.bor l0_4 (map b_iLiiLiEELiLiEE a0.f4))]],[]⟩)]⟩:St)=h13_1 l0_4 a0 0 :=(by rfl)
                exact cp (by kernel_rfl) (P6 (.f f24 (.f (ev_ (e:=ex13_1) (g:=(fin13_1 l0_4 a0)) h6 (t13_1 (l0_4:=l0_4) (a0:=a0) (by assumption) (by assumption) a0.f4 []  rfl)) (.h 81 (.loop (h13_1 l0_4 a0 0) .ret ⟨[(2,(.one (.val (.int .i64 1))))],[]⟩) .nil))))
            |k1 w0_22=>
              try dsimp only
              have f22:(⟨[(1,(.ptr ⟨(1,0,0),[],0,0,5⟩)),(38,(.one (.bor l0_4 (map b_iLiiLiEELiLiEE a0.f4)))),(39,(.oi ((length (map b_iLiiLiEELiLiEE a0.f4)):Int))),(40,(.oi 0))],[((1,0,0),.live ⟨5,[[(.i a0.f0),(.i a0.f1),(.i a0.f2),(.i a0.f3),(.bor l0_4 (map b_iLiiLiEELiLiEE a0.f4))]],[]⟩)]⟩:St)=h13_0 l0_4 a0 0 :=(by rfl)
              exact cp (by kernel_rfl) (P5 (.f f22 (.f (ev_ (e:=ex13_0) (g:=(fin13_0 l0_4 a0)) h5 (t13_0 (l0_4:=l0_4) (a0:=a0) (by assumption) (by assumption) a0.f4 []  rfl)) (.h 72 (.loop (h13_0 l0_4 a0 0) .ret ⟨[(2,(.one (.val (.int .i64 w0_22))))],[]⟩) .nil))))
theorem bs13 {a:K_iiiiLiLiiLiEELiLiEEE} (h:m13 a=0):1≤length a.f4∧length a.f4≤4∧∀z∈a.f4,SmT z:=by
  unfold m13 at h
  iterate 5 (split at h; exact absurd h (by decide))
  rename_i c2
  cases hr:r13_0 a a.f4 0 with
  |k1 w=>rw[hr] at h; simp only[] at h; subst h; exact absurd hr (ne13 _ _)
  |k0 j b=>exact⟨(in413 c2).1,(in413 c2).2,fun z hz=>ft21 (lb13 hr z hz)⟩
/-! loop 7_0 -/
inductive O7_0 where
  |k0 (w0:Int) (w1:Bool)
  |k1
  |k2 (w0:Int)
  |k3
def r7_0 (a0:(List K_iiiiiLiLiiLiEELiLiEEE)):List K_iiiiiLiLiiLiEELiLiEEE→Int→O7_0
  |x0::y0,i=>
    if(!(m18 x0.f0 0 9999))=true then(O7_0.k1) else
    if((m13 (K_iiiiLiLiiLiEELiLiEEE.mk x0.f1 x0.f2 x0.f3 x0.f4 x0.f5)) !=0)=true then(O7_0.k2 (m13 (K_iiiiLiLiiLiEELiLiEEE.mk x0.f1 x0.f2 x0.f3 x0.f4 x0.f5))) else
      if(((length (map b_iLiE ((getD x0.f5 0 (K_iLiiLiEELiLiEE.mk 0 [] [])).f2))):Int) !=2)=true then(O7_0.k3) else
        if (decide (i > 0)) = true then (if (decide (((getD a0 (toNat (wrap .i64 (i - 1))) (K_iiiiiLiLiiLiEELiLiEEE.mk 0 0 0 0 0 [])).f0) ≥ x0.f0)) = true then (O7_0.k3) else
            (r7_0 a0 y0 (i+1))) else
          (r7_0 a0 y0 (i+1))
  |[],i=>(O7_0.k0 i (decide (i <((length (map b_iiiiiLiLiiLiEELiLiEEE a0)):Int))))
def h7_0 (l0_0:Nat) (a0:(List K_iiiiiLiLiiLiEELiLiEEE)) (i:Int) :St:=⟨[(0,(.one (.bor l0_0 (map b_iiiiiLiLiiLiEELiLiEEE a0)))),(9,(.one (.bor l0_0 (map b_iiiiiLiLiiLiEELiLiEEE a0)))),(10,(.one (.val (.int .i64 ((length (map b_iiiiiLiLiiLiEELiLiEEE a0)):Int))))),(11,(.one (.val (.int .i64 i))))],[]⟩
def ex7_0:O7_0→VX.Exit
  |.k0 _ _=>(.exit 0)
  |.k1=>.ret
  |.k2 _=>.ret
  |.k3=>.ret
def fin7_0 (l0_0:Nat) (a0:(List K_iiiiiLiLiiLiEELiLiEEE)):O7_0→St
  |.k0 w0 w1=>⟨[(0,(.one (.bor l0_0 (map b_iiiiiLiLiiLiEELiLiEEE a0)))),(9,(.one (.bor l0_0 (map b_iiiiiLiLiiLiEELiLiEEE a0)))),(10,(.one (.val (.int .i64 ((length (map b_iiiiiLiLiiLiEELiLiEEE a0)):Int))))),(11,(.one (.val (.int .i64 w0)))),(12,(.one (.val (.bool w1))))],[]⟩
  |.k1=>⟨[(2,(.one (.val (.int .i64 3))))],[]⟩
  |.k2 w0=>⟨[(2,(.one (.val (.int .i64 w0))))],[]⟩
  |.k3=>⟨[(2,(.one (.val (.int .i64 1))))],[]⟩
theorem t7_0 {l0_0:Nat} {a0:(List K_iiiiiLiLiiLiEELiLiEEE)} (hy0:length a0*64≤140737488351232) (hy1:∀z∈a0,ok_iiiiiLiLiiLiEELiLiEEE z):∀(y0:List K_iiiiiLiLiiLiEELiLiEEE) (p:List K_iiiiiLiLiiLiEELiLiEEE),p++y0=a0→Ev F X (.code l7_0 (h7_0 l0_0 a0 (length p:Int)) (ex7_0 (r7_0 a0 y0 (length p:Int))) (fin7_0 l0_0 a0 (r7_0 a0 y0 (length p:Int))))
  |[],p,hp0=>by
    have hc:¬(decide ((length p:Int) <((length (map b_iiiiiLiLiiLiEELiLiEEE a0)):Int)))=true:=by
      rw[← hp0]; simp only[length_map,length_set,length_append,length_replicate,length_cons,length_nil,decide_eq_true_eq]; omega
    have st:=ch b7_0 (h7_0 l0_0 a0 (length p:Int)) ⟨[(0,(.one (.bor l0_0 (map b_iiiiiLiLiiLiEELiLiEEE a0)))),(9,(.one (.bor l0_0 (map b_iiiiiLiLiiLiEELiLiEEE a0)))),(10,(.oi ((length (map b_iiiiiLiLiiLiEELiLiEEE a0)):Int))),(11,(.oi (length p:Int))),(12,(.one (.val (.bool (decide ((length p:Int) <((length (map b_iiiiiLiLiiLiEELiLiEEE a0)):Int)))))))],[]⟩ (.exit 0) 3 (by kernel_rfl) (.f (nt hc) (.h 2 (.b false) .nil))
    rw[show (⟨[(0,(.one (.bor l0_0 (map b_iiiiiLiLiiLiEELiLiEEE a0)))),(9,(.one (.bor l0_0 (map b_iiiiiLiLiiLiEELiLiEEE a0)))),(10,(.oi ((length (map b_iiiiiLiLiiLiEELiLiEEE a0)):Int))),(11,(.oi (length p:Int))),(12,(.one (.val (.bool (decide ((length p:Int) <((length (map b_iiiiiLiLiiLiEELiLiEEE a0)):Int)))))))],[]⟩:St)=fin7_0 l0_0 a0 (.k0 (length p:Int) (decide ((length p:Int) <((length (map b_iiiiiLiLiiLiEELiLiEEE a0)):Int)))) from(by rfl)] at st
    exact .loopX st (show ((.exit 0):VX.Exit)≠.normal from by simp)
  |x0::y0,p,hp0=>by
    have hc:(decide ((length p:Int) <((length (map b_iiiiiLiLiiLiEELiLiEEE a0)):Int)))=true:=by
      rw[← hp0]; simp only[length_map,length_set,length_append,length_replicate,length_cons,length_nil,decide_eq_true_eq]; omega
    have Hx0:(a0)[toNat (length p:Int)]?=some x0:=by
      rw[← hp0,Int.toNat_natCast]; simp
    obtain⟨Mx0_0,Mx0_1⟩:=hy1 x0 (List.mem_of_getElem? Hx0)
    have hlen:length (a0)=length p+length y0+1:=by rw[← hp0]; simp; omega
    have hw:wrap .i64 ((length p:Int)+1)=(length p:Int)+1:=wrap64 (by omega)
    simp only[r7_0]
    have f1:0≤(length p:Int):=(by omega)
    have P1 {hs q} (r:PS F X hs q):=(PS.f hc (.f f1 (.f (mp_ b_iiiiiLiLiiLiEELiLiEEE Hx0) (.h 2 (.b true) (.h 6 (.row (b_iiiiiLiLiiLiEELiLiEEE x0)) (.r 20 [] [] (e12 (a0:=x0.f0)) r))))))
    by_cases h_1:(!(m18 x0.f0 0 9999))=true
    · try simp only[if_pos h_1]
      have st:=ch b7_0 (h7_0 l0_0 a0 (length p:Int)) ⟨[(2,(.oi 3))],[]⟩ .ret 26 (by kernel_rfl) (P1 (.f h_1 (.h 23 (.b true) .nil)))
      rw[show (⟨[(2,(.oi 3))],[]⟩:St)=fin7_0 l0_0 a0 (.k1) from(by rfl)] at st
      exact .loopX st (show (.ret:VX.Exit)≠.normal from by simp)
    · try simp only[if_neg h_1]
      have P2 {hs q} (r:PS F X hs q):=(P1 (.f (nt h_1) (.h 23 (.b false) (.r 29 [] [] (e13 (l0_4:=(l0_0+1)) (a0:=(K_iiiiLiLiiLiEELiLiEEE.mk x0.f1 x0.f2 x0.f3 x0.f4 x0.f5)) ‹_› ‹_›) r))))
      by_cases h_2:((m13 (K_iiiiLiLiiLiEELiLiEEE.mk x0.f1 x0.f2 x0.f3 x0.f4 x0.f5)) !=0)=true
      · try simp only[if_pos h_2]
        have st:=ch b7_0 (h7_0 l0_0 a0 (length p:Int)) ⟨[(2,(.oi (m13 (K_iiiiLiLiiLiEELiLiEEE.mk x0.f1 x0.f2 x0.f3 x0.f4 x0.f5))))],[]⟩ .ret 41 (by kernel_rfl) (P2 (.f h_2 (.h 36 (.b true) .nil)))
        rw[show (⟨[(2,(.oi (m13 (K_iiiiLiLiiLiEELiLiEEE.mk x0.f1 x0.f2 x0.f3 x0.f4 x0.f5))))],[]⟩:St)=fin7_0 l0_0 a0 (.k2 (m13 (K_iiiiLiLiiLiEELiLiEEE.mk x0.f1 x0.f2 x0.f3 x0.f4 x0.f5))) from(by rfl)] at st
        exact .loopX st (show (.ret:VX.Exit)≠.normal from by simp)
      · try simp only[if_neg h_2]
        have f7:0≤(0:Int):=(by omega)
        have P3 {hs q} (r:PS F X hs q):=(P2 (.f (nt h_2) (.f f7 (.f (mp_ b_iLiiLiEELiLiEE (getD_at x0.f5 0 (K_iLiiLiEELiLiEE.mk 0 [] []) (by have q:=(bs13 (a:=K_iiiiLiLiiLiEELiLiEEE.mk x0.f1 x0.f2 x0.f3 x0.f4 x0.f5) (by simpa using h_2)).1; exact q))) (.h 36 (.b false) (.h 44 (.row (b_iLiiLiEELiLiEE (getD x0.f5 0 (K_iLiiLiEELiLiEE.mk 0 [] [])))) r))))))
        by_cases h_3:(((length (map b_iLiE ((getD x0.f5 0 (K_iLiiLiEELiLiEE.mk 0 [] [])).f2))):Int) !=2)=true
        · try simp only[if_pos h_3]
          have st:=ch b7_0 (h7_0 l0_0 a0 (length p:Int)) ⟨[(2,(.oi 1))],[]⟩ .ret 86 (by kernel_rfl) (P3 (.f h_3 (.f h_3 (.f h_3 (.f h_3 (.f h_3 (.h 55 (.b true) (.h 57 (.b true) (.h 59 (.b true) (.h 79 (.b true) (.h 82 (.b true) .nil)))))))))))
          rw[show (⟨[(2,(.oi 1))],[]⟩:St)=fin7_0 l0_0 a0 (.k3) from(by rfl)] at st
          exact .loopX st (show (.ret:VX.Exit)≠.normal from by simp)
        · try simp only[if_neg h_3]
          have P4 {hs q} (r:PS F X hs q):=(P3 (.f (nt h_3) (.f (nt h_3) (.f (nt h_3) (.h 55 (.b false) (.h 57 (.b false) (.h 59 (.b false) r)))))))
          by_cases h_4:(decide ((length p:Int) > 0))=true
          · try simp only[if_pos h_4]
            have f16:0≤(wrap .i64 ((length p:Int) - 1)):=(by rw[wrap64 (by omega)]; simp only[decide_eq_true_eq,length_map] at*; omega)
            have P5 {hs q} (r:PS F X hs q):=(P4 (.f h_4 (.f h_4 (.f h_4 (.f h_4 (.f f16 (.f (mp_ b_iiiiiLiLiiLiEELiLiEEE (getD_at a0 (toNat (wrap .i64 ((length p:Int) - 1))) (K_iiiiiLiLiiLiEELiLiEEE.mk 0 0 0 0 0 []) (by rw[wrap64 (by omega)]; simp only[decide_eq_true_eq,length_map] at*; omega))) (.f h_4 (.f h_4 (.f h_4 (.f h_4 (.f h_4 (.f (nt h_3) (.f h_4 (.f (nt h_3) (.h 61 (.b true) (.h 63 (.b true) (.h 65 (.b true) (.h 67 (.b true) (.h 68 (.row (b_iiiiiLiLiiLiEELiLiEEE (getD a0 (toNat (wrap .i64 ((length p:Int) - 1))) (K_iiiiiLiLiiLiEELiLiEEE.mk 0 0 0 0 0 [])))) (.h 69 (.b true) (.h 71 (.b true) (.h 73 (.b true) (.h 75 (.b true) (.h 77 (.b true) (.h 79 (.b false) (.h 80 (.b true) (.h 82 (.b false) r))))))))))))))))))))))))))))
            by_cases h_5:(decide (((getD a0 (toNat (wrap .i64 ((length p:Int) - 1))) (K_iiiiiLiLiiLiEELiLiEEE.mk 0 0 0 0 0 [])).f0)≥x0.f0))=true
            · try simp only[if_pos h_5]
              have st:=ch b7_0 (h7_0 l0_0 a0 (length p:Int)) ⟨[(2,(.oi 1))],[]⟩ .ret 86 (by kernel_rfl) (P5 (.f h_5 (.h 83 (.b true) .nil)))
              rw[show (⟨[(2,(.oi 1))],[]⟩:St)=fin7_0 l0_0 a0 (.k3) from(by rfl)] at st
              exact .loopX st (show (.ret:VX.Exit)≠.normal from by simp)
            · try simp only[if_neg h_5]
              have st:=ch b7_0 (h7_0 l0_0 a0 (length p:Int)) ⟨[(0,(.one (.bor l0_0 (map b_iiiiiLiLiiLiEELiLiEEE a0)))),(9,(.one (.bor l0_0 (map b_iiiiiLiLiiLiEELiLiEEE a0)))),(10,(.oi ((length (map b_iiiiiLiLiiLiEELiLiEEE a0)):Int))),(11,(.oi (wrap .i64 ((length p:Int)+1))))],[]⟩ .normal 88 (by kernel_rfl) (P5 (.f (nt h_5) (.f trivial (.h 83 (.b false) .nil))))
              have ih:=t7_0 (l0_0:=l0_0) (a0:=a0) hy0 hy1 y0 (p++ [x0]) (by rw[append_assoc]; exact hp0)
              rw[show ((p++ [x0]).length:Int)=(p.length:Int)+1 from by simp] at ih
              rw[show (⟨[(0,(.one (.bor l0_0 (map b_iiiiiLiLiiLiEELiLiEEE a0)))),(9,(.one (.bor l0_0 (map b_iiiiiLiLiiLiEELiLiEEE a0)))),(10,(.oi ((length (map b_iiiiiLiLiiLiEELiLiEEE a0)):Int))),(11,(.oi (wrap .i64 ((length p:Int)+1))))],[]⟩:St)=h7_0 l0_0 a0 ((length p:Int)+1)  from(by unfold h7_0; simp only[hw]; done)] at st
              exact .loopN st ih
          · try simp only[if_neg h_4]
            have st:=ch b7_0 (h7_0 l0_0 a0 (length p:Int)) ⟨[(0,(.one (.bor l0_0 (map b_iiiiiLiLiiLiEELiLiEEE a0)))),(9,(.one (.bor l0_0 (map b_iiiiiLiLiiLiEELiLiEEE a0)))),(10,(.oi ((length (map b_iiiiiLiLiiLiEELiLiEEE a0)):Int))),(11,(.oi (wrap .i64 ((length p:Int)+1))))],[]⟩ .normal 88 (by kernel_rfl) (P4 (.f (nt h_4) (.f (nt h_4) (.f (nt h_4) (.f (nt h_4) (.f (nt h_4) (.f (nt h_4) (.f (nt h_4) (.f (nt h_4) (.f (nt h_4) (.f (nt h_3) (.f (nt h_4) (.f (nt h_3) (.f trivial (.h 61 (.b false) (.h 63 (.b false) (.h 65 (.b false) (.h 67 (.b false) (.h 69 (.b false) (.h 71 (.b false) (.h 73 (.b false) (.h 75 (.b false) (.h 77 (.b false) (.h 79 (.b false) (.h 80 (.b false) (.h 82 (.b false) .nil))))))))))))))))))))))))))
            have ih:=t7_0 (l0_0:=l0_0) (a0:=a0) hy0 hy1 y0 (p++ [x0]) (by rw[append_assoc]; exact hp0)
            rw[show ((p++ [x0]).length:Int)=(p.length:Int)+1 from by simp] at ih
            rw[show (⟨[(0,(.one (.bor l0_0 (map b_iiiiiLiLiiLiEELiLiEEE a0)))),(9,(.one (.bor l0_0 (map b_iiiiiLiLiiLiEELiLiEEE a0)))),(10,(.oi ((length (map b_iiiiiLiLiiLiEELiLiEEE a0)):Int))),(11,(.oi (wrap .i64 ((length p:Int)+1))))],[]⟩:St)=h7_0 l0_0 a0 ((length p:Int)+1)  from(by unfold h7_0; simp only[hw]; done)] at st
            exact .loopN st ih
/-! loop.example/g00539/impl.JobsFault -/
def m7 (a0:(List K_iiiiiLiLiiLiEELiLiEEE)):Int:=
  if(decide (((length (map b_iiiiiLiLiiLiEELiLiEEE a0)):Int) > 4))=true then 2 else
  (match r7_0 a0 a0 0 with | .k0 w0_1 w1_1=>0 | .k1=>3 | .k2 w0_1=>w0_1 | .k3=>1)
theorem e7 {l0_0:Nat} {a0:(List K_iiiiiLiLiiLiEELiLiEEE)} (hy0:length a0*64≤140737488351232) (hy1:∀z∈a0,ok_iiiiiLiLiiLiEELiLiEEE z):Ev F X (.call 7 [(.one (.bor l0_0 (map b_iiiiiLiLiiLiEELiLiEEE a0)))] [] [] [(.one (.val (.int .i64 (m7 a0))))]):=by
  unfold m7
  by_cases h0:(decide (((length (map b_iiiiiLiLiiLiEELiLiEEE a0)):Int) > 4))=true
  · try simp only[if_pos h0]
    exact cp (by kernel_rfl) (.f h0 (.h 8 (.b true) .nil))
  · try simp only[if_neg h0]
    have P1 {hs q} (r:PS F X hs q):=(PS.f (nt h0) (.h 8 (.b false) r))
    cases h1:r7_0 a0 a0 0 with
    |k0 w0_1 w1_1=>
      try dsimp only
      have f1:(⟨[(0,(.one (.bor l0_0 (map b_iiiiiLiLiiLiEELiLiEEE a0)))),(9,(.one (.bor l0_0 (map b_iiiiiLiLiiLiEELiLiEEE a0)))),(10,(.oi ((length (map b_iiiiiLiLiiLiEELiLiEEE a0)):Int))),(11,(.oi 0))],[]⟩:St)=h7_0 l0_0 a0 0 :=(by rfl)
      exact cp (by kernel_rfl) (P1 (.f f1 (.f (ev_ (e:=ex7_0) (g:=(fin7_0 l0_0 a0)) h1 (t7_0 (l0_0:=l0_0) (a0:=a0) (by assumption) (by assumption) a0 []  rfl)) (.h 15 (.loop (h7_0 l0_0 a0 0) (.exit 0) ⟨[(0,(.one (.bor l0_0 (map b_iiiiiLiLiiLiEELiLiEEE a0)))),(9,(.one (.bor l0_0 (map b_iiiiiLiLiiLiEELiLiEEE a0)))),(10,(.one (.val (.int .i64 ((length (map b_iiiiiLiLiiLiEELiLiEEE a0)):Int))))),(11,(.one (.val (.int .i64 w0_1)))),(12,(.one (.val (.bool w1_1))))],[]⟩) .nil))))
    |k1=>
      try dsimp only
      have f1:(⟨[(0,(.one (.bor l0_0 (map b_iiiiiLiLiiLiEELiLiEEE a0)))),(9,(.one (.bor l0_0 (map b_iiiiiLiLiiLiEELiLiEEE a0)))),(10,(.oi ((length (map b_iiiiiLiLiiLiEELiLiEEE a0)):Int))),(11,(.oi 0))],[]⟩:St)=h7_0 l0_0 a0 0 :=(by rfl)
      exact cp (by kernel_rfl) (P1 (.f f1 (.f (ev_ (e:=ex7_0) (g:=(fin7_0 l0_0 a0)) h1 (t7_0 (l0_0:=l0_0) (a0:=a0) (by assumption) (by assumption) a0 []  rfl)) (.h 15 (.loop (h7_0 l0_0 a0 0) .ret ⟨[(2,(.one (.val (.int .i64 3))))],[]⟩) .nil))))
    |k2 w0_1=>
      try dsimp only
      have f1:(⟨[(0,(.one (.bor l0_0 (map b_iiiiiLiLiiLiEELiLiEEE a0)))),(9,(.one (.bor l0_0 (map b_iiiiiLiLiiLiEELiLiEEE a0)))),(10,(.oi ((length (map b_iiiiiLiLiiLiEELiLiEEE a0)):Int))),(11,(.oi 0))],[]⟩:St)=h7_0 l0_0 a0 0 :=(by rfl)
      exact cp (by kernel_rfl) (P1 (.f f1 (.f (ev_ (e:=ex7_0) (g:=(fin7_0 l0_0 a0)) h1 (t7_0 (l0_0:=l0_0) (a0:=a0) (by assumption) (by assumption) a0 []  rfl)) (.h 15 (.loop (h7_0 l0_0 a0 0) .ret ⟨[(2,(.one (.val (.int .i64 w0_1))))],[]⟩) .nil))))
    |k3=>
      try dsimp only
      have f1:(⟨[(0,(.one (.bor l0_0 (map b_iiiiiLiLiiLiEELiLiEEE a0)))),(9,(.one (.bor l0_0 (map b_iiiiiLiLiiLiEELiLiEEE a0)))),(10,(.oi ((length (map b_iiiiiLiLiiLiEELiLiEEE a0)):Int))),(11,(.oi 0))],[]⟩:St)=h7_0 l0_0 a0 0 :=(by rfl)
      exact cp (by kernel_rfl) (P1 (.f f1 (.f (ev_ (e:=ex7_0) (g:=(fin7_0 l0_0 a0)) h1 (t7_0 (l0_0:=l0_0) (a0:=a0) (by assumption) (by assumption) a0 []  rfl)) (.h 15 (.loop (h7_0 l0_0 a0 0) .ret ⟨[(2,(.one (.val (.int .i64 1))))],[]⟩) .nil))))
/-! loop 96_0 -/
inductive O96_0 where
  |k0 (w0:Int) (w1:Bool)
  |k1
def r96_0 (a0:(List Int)):List Int→List Int→Int→O96_0
  |x0::y0,x1::y1,i=>
    if(x0 !=x1)=true then(O96_0.k1) else
    (r96_0 a0 y0 y1 (i+1))
  |_,_,i=>(O96_0.k0 i (decide (i <((length (map b_i a0)):Int))))
def h96_0 (l0_0:Nat) (l1_0:Nat) (a0:(List Int)) (a1:(List Int)) (i:Int) :St:=⟨[(0,(.one (.bor l0_0 (map b_i a0)))),(1,(.one (.bor l1_0 (map b_i a1)))),(5,(.one (.val (.int .i64 i))))],[]⟩
def ex96_0:O96_0→VX.Exit
  |.k0 _ _=>(.exit 0)
  |.k1=>.ret
def fin96_0 (l0_0:Nat) (l1_0:Nat) (a0:(List Int)) (a1:(List Int)):O96_0→St
  |.k0 w0 w1=>⟨[(0,(.one (.bor l0_0 (map b_i a0)))),(1,(.one (.bor l1_0 (map b_i a1)))),(5,(.one (.val (.int .i64 w0)))),(14,(.one (.val (.bool w1))))],[]⟩
  |.k1=>⟨[(4,(.one (.val (.bool false))))],[]⟩
theorem t96_0 {l0_0:Nat} {l1_0:Nat} {a0:(List Int)} {a1:(List Int)} (hy0:length a0*8≤140737488351232) (hy1:length a1*8≤140737488351232):∀(y0:List Int) (y1:List Int) (p:List Int) (p_1:List Int),p++y0=a0→p_1++y1=a1→length p=length p_1→length y0=length y1→Ev F X (.code l96_0 (h96_0 l0_0 l1_0 a0 a1 (length p:Int)) (ex96_0 (r96_0 a0 y0 y1 (length p:Int))) (fin96_0 l0_0 l1_0 a0 a1 (r96_0 a0 y0 y1 (length p:Int))))
  |[],[],p,p_1,hp0,hp1,hq1,hl1=>by
    have hc:¬(decide ((length p:Int) <((length (map b_i a0)):Int)))=true:=by
      rw[← hp0]; simp only[length_map,length_set,length_append,length_replicate,length_cons,length_nil,decide_eq_true_eq]; omega
    have st:=ch b96_0 (h96_0 l0_0 l1_0 a0 a1 (length p:Int)) ⟨[(0,(.one (.bor l0_0 (map b_i a0)))),(1,(.one (.bor l1_0 (map b_i a1)))),(5,(.oi (length p:Int))),(14,(.one (.val (.bool (decide ((length p:Int) <((length (map b_i a0)):Int)))))))],[]⟩ (.exit 0) 9 (by kernel_rfl) (.f (nt hc) (.h 8 (.b false) .nil))
    rw[show (⟨[(0,(.one (.bor l0_0 (map b_i a0)))),(1,(.one (.bor l1_0 (map b_i a1)))),(5,(.oi (length p:Int))),(14,(.one (.val (.bool (decide ((length p:Int) <((length (map b_i a0)):Int)))))))],[]⟩:St)=fin96_0 l0_0 l1_0 a0 a1 (.k0 (length p:Int) (decide ((length p:Int) <((length (map b_i a0)):Int)))) from(by rfl)] at st
    exact .loopX st (show ((.exit 0):VX.Exit)≠.normal from by simp)
  |x0::y0,x1::y1,p,p_1,hp0,hp1,hq1,hl1=>by
    have hc:(decide ((length p:Int) <((length (map b_i a0)):Int)))=true:=by
      rw[← hp0]; simp only[length_map,length_set,length_append,length_replicate,length_cons,length_nil,decide_eq_true_eq]; omega
    have Hx0:(a0)[toNat (length p:Int)]?=some x0:=by
      rw[← hp0,Int.toNat_natCast]; simp
    have Hx1:(a1)[toNat (length p:Int)]?=some x1:=by
      rw[← hp1,hq1,Int.toNat_natCast]; simp
    have hlen:length (a0)=length p+length y0+1:=by rw[← hp0]; simp; omega
    have hw:wrap .i64 ((length p:Int)+1)=(length p:Int)+1:=wrap64 (by omega)
    simp only[r96_0]
    have f1:0≤(length p:Int):=(by omega)
    have P1 {hs q} (r:PS F X hs q):=(PS.f hc (.f f1 (.f (mp_ b_i Hx0) (.f f1 (.f (mp_ b_i Hx1) (.h 8 (.b true) (.h 14 (.row [(.val (.int .i64 x0))]) (.h 22 (.row [(.val (.int .i64 x1))]) r))))))))
    by_cases h_1:(x0 !=x1)=true
    · try simp only[if_pos h_1]
      have st:=ch b96_0 (h96_0 l0_0 l1_0 a0 a1 (length p:Int)) ⟨[(4,(.one (.val (.bool false))))],[]⟩ .ret 30 (by kernel_rfl) (P1 (.f h_1 (.h 27 (.b true) .nil)))
      rw[show (⟨[(4,(.one (.val (.bool false))))],[]⟩:St)=fin96_0 l0_0 l1_0 a0 a1 (.k1) from(by rfl)] at st
      exact .loopX st (show (.ret:VX.Exit)≠.normal from by simp)
    · try simp only[if_neg h_1]
      have st:=ch b96_0 (h96_0 l0_0 l1_0 a0 a1 (length p:Int)) ⟨[(0,(.one (.bor l0_0 (map b_i a0)))),(1,(.one (.bor l1_0 (map b_i a1)))),(5,(.oi (wrap .i64 ((length p:Int)+1))))],[]⟩ .normal 34 (by kernel_rfl) (P1 (.f (nt h_1) (.f trivial (.h 27 (.b false) .nil))))
      have ih:=t96_0 (l0_0:=l0_0) (l1_0:=l1_0) (a0:=a0) (a1:=a1) hy0 hy1 y0 y1 (p++ [x0]) (p_1++ [x1]) (by rw[append_assoc]; exact hp0) (by rw[append_assoc]; exact hp1) (by simp only[length_map,length_set,length_append,length_replicate,length_cons,length_nil]; omega) (by simp only[length_map,length_set,length_append,length_replicate,length_cons,length_nil] at hl1; omega)
      rw[show ((p++ [x0]).length:Int)=(p.length:Int)+1 from by simp] at ih
      rw[show (⟨[(0,(.one (.bor l0_0 (map b_i a0)))),(1,(.one (.bor l1_0 (map b_i a1)))),(5,(.oi (wrap .i64 ((length p:Int)+1))))],[]⟩:St)=h96_0 l0_0 l1_0 a0 a1 ((length p:Int)+1)  from(by unfold h96_0; simp only[hw]; done)] at st
      exact .loopN st ih
/-! loop.example/g00539/laws.eqInt64S -/
def m96 (a0:(List Int)) (a1:(List Int)):Bool:=
  if(((length (map b_i a0)):Int) !=((length (map b_i a1)):Int))=true then false else
  (match r96_0 a0 a0 a1 0 with | .k0 w0_1 w1_1=>true | .k1=>false)
theorem e96 {l0_0:Nat} {a0:(List Int)} {l1_0:Nat} {a1:(List Int)} (hy0:length a0*8≤140737488351232) (hy1:length a1*8≤140737488351232):Ev F X (.call 96 [(.one (.bor l0_0 (map b_i a0))),(.one (.bor l1_0 (map b_i a1)))] [] [] [(.one (.val (.bool (m96 a0 a1))))]):=by
  unfold m96
  by_cases h0:(((length (map b_i a0)):Int) !=((length (map b_i a1)):Int))=true
  · try simp only[if_pos h0]
    exact cp (by kernel_rfl) (.f h0 (.h 12 (.b true) .nil))
  · try simp only[if_neg h0]
    cases h1:r96_0 a0 a0 a1 0 with
    |k0 w0_1 w1_1=>
      try dsimp only
      have f1:(⟨[(0,(.one (.bor l0_0 (map b_i a0)))),(1,(.one (.bor l1_0 (map b_i a1)))),(5,(.oi 0))],[]⟩:St)=h96_0 l0_0 l1_0 a0 a1 0 :=(by rfl)
      exact cp (by kernel_rfl) (.f (nt h0) (.f f1 (.f (ev_ (e:=ex96_0) (g:=(fin96_0 l0_0 l1_0 a0 a1)) h1 (t96_0 (l0_0:=l0_0) (l1_0:=l1_0) (a0:=a0) (a1:=a1) (by assumption) (by assumption) a0 a1 [] []  rfl rfl rfl (by simp at*; omega))) (.h 12 (.b false) (.h 15 (.loop (h96_0 l0_0 l1_0 a0 a1 0) (.exit 0) ⟨[(0,(.one (.bor l0_0 (map b_i a0)))),(1,(.one (.bor l1_0 (map b_i a1)))),(5,(.one (.val (.int .i64 w0_1)))),(14,(.one (.val (.bool w1_1))))],[]⟩) .nil)))))
    |k1=>
      try dsimp only
      have f1:(⟨[(0,(.one (.bor l0_0 (map b_i a0)))),(1,(.one (.bor l1_0 (map b_i a1)))),(5,(.oi 0))],[]⟩:St)=h96_0 l0_0 l1_0 a0 a1 0 :=(by rfl)
      exact cp (by kernel_rfl) (.f (nt h0) (.f f1 (.f (ev_ (e:=ex96_0) (g:=(fin96_0 l0_0 l1_0 a0 a1)) h1 (t96_0 (l0_0:=l0_0) (l1_0:=l1_0) (a0:=a0) (a1:=a1) (by assumption) (by assumption) a0 a1 [] []  rfl rfl rfl (by simp at*; omega))) (.h 12 (.b false) (.h 15 (.loop (h96_0 l0_0 l1_0 a0 a1 0) .ret ⟨[(4,(.one (.val (.bool false))))],[]⟩) .nil)))))
theorem eqr96_0 (a0:(List Int)):∀(l m:List Int) (i:Int),l.length=m.length→(r96_0 a0 l m i=.k1∧l≠m)∨(∃w0 w1,r96_0 a0 l m i=.k0 w0 w1∧l=m)
  |[],[],i,_=>.inr ⟨_,_,rfl,rfl⟩
  |[],_::_,i,h=>by simp at h
  |_::_,[],i,h=>by simp at h
  |x::l,y::m,i,h=>by
    have ih:=eqr96_0 a0 l m (i+1) (by simpa using h)
    by_cases hxy:x=y
    · subst hxy
      have e:r96_0 a0 (x::l) (x::m) i=r96_0 a0 l m (i+1):=by simp[r96_0,ba_eq]
      rw[e]
      rcases ih with⟨h1,h2⟩ |⟨w0,w1,h1,h2⟩
      · exact .inl ⟨h1,by simp[h2]⟩
      · exact .inr ⟨_,_,h1,by rw[h2]⟩
    · have e:r96_0 a0 (x::l) (y::m) i=.k1:=by
        simp only[r96_0]
        first
          |((repeat' split)<;>simp_all [ba_eq]; done)
          |(cases x; cases y;(repeat' split)<;>simp_all [ba_eq])
      exact .inl ⟨e,by simp[hxy]⟩
open Classical in
theorem eqd96 (a b:(List Int)):m96 a b=decide (a=b):=by
  rw[Bool.eq_iff_iff,decide_eq_true_eq]
  unfold m96
  by_cases hl:length a=length b
  · rcases eqr96_0 a a b 0 hl with⟨h1,h2⟩ |⟨w0,w1,h1,h2⟩
    · simp only[h1,length_map,hl]
      first
        |(simp[h2,ba_eq]; done)
        |(cases a; cases b; simp_all [ba_eq]; done)
        |(cases a; cases b;(repeat' split)<;>simp_all [ba_eq])
    · simp only[h1,length_map,hl]
      first
        |(simp[h2,ba_eq]; done)
        |(cases a; cases b; simp_all [ba_eq]; done)
        |(cases a; cases b;(repeat' split)<;>simp_all [ba_eq])
  · have hn:a≠b:=by rintro rfl; exact hl rfl
    simp only[length_map]
    first
      |(simp[hn,hl,ba_eq]; done)
      |((repeat' split)<;>simp_all [ba_eq]; done)
      |(simp[hn]; omega)
/-! loop.example/g00539/laws.eqIn -/
def m87 (a0:K_iiLiE) (a1:K_iiLiE):Bool:=
  if(a0.f0 !=a1.f0)=true then false else
  if(a0.f1 !=a1.f1)=true then false else
    if(!(m96 a0.f2 a1.f2))=true then false else
      true
theorem e87 {l0_2:Nat} {a0:K_iiLiE} {l1_2:Nat} {a1:K_iiLiE} (hy0:length a0.f2*8≤140737488351232) (hy1:length a1.f2*8≤140737488351232):Ev F X (.call 87 [(.agg (k_iiLiE l0_2 a0)),(.agg (k_iiLiE l1_2 a1))] [] [] [(.one (.val (.bool (m87 a0 a1))))]):=by
  unfold m87
  by_cases h0:(a0.f0 !=a1.f0)=true
  · try simp only[if_pos h0]
    exact cp (by kernel_rfl) (.f h0 (.h 16 (.b true) .nil))
  · try simp only[if_neg h0]
    by_cases h1:(a0.f1 !=a1.f1)=true
    · try simp only[if_pos h1]
      exact cp (by kernel_rfl) (.f (nt h0) (.f h1 (.h 16 (.b false) (.h 27 (.b true) .nil))))
    · try simp only[if_neg h1]
      have P2 {hs q} (r:PS F X hs q):=(PS.f (nt h0) (.f (nt h1) (.h 16 (.b false) (.h 27 (.b false) (.r 37 [] [] (e96 (l0_0:=(l0_2+1)) (l1_0:=(l1_2+1)) (a0:=a0.f2) (a1:=a1.f2) ‹_› ‹_›) r)))))
      by_cases h2:(!(m96 a0.f2 a1.f2))=true
      · try simp only[if_pos h2]
        exact cp (by kernel_rfl) (P2 (.f h2 (.h 40 (.b true) .nil)))
      · try simp only[if_neg h2]
        exact cp (by kernel_rfl) (P2 (.f (nt h2) (.h 40 (.b false) .nil)))
open Classical in
theorem eqd87 (a b:K_iiLiE):m87 a b=decide (a=b):=by
  rw[Bool.eq_iff_iff,decide_eq_true_eq]
  constructor
  · intro h
    unfold m87 at h
    cases a; cases b
    (repeat' split at h)<;>simp_all [ba_eq,eqd96]
  · rintro rfl
    simp[m87,ba_eq,eqd96]
/-! loop 73_0 -/
inductive O73_0 where
  |k0 (w0:Int) (w1:Bool)
  |k1
def r73_0 (a0:(List K_iiLiE)):List K_iiLiE→List K_iiLiE→Int→O73_0
  |x0::y0,x1::y1,i=>
    if(!(m87 x0 x1))=true then(O73_0.k1) else
    (r73_0 a0 y0 y1 (i+1))
  |_,_,i=>(O73_0.k0 i (decide (i <((length (map b_iiLiE a0)):Int))))
def h73_0 (l0_0:Nat) (l1_0:Nat) (a0:(List K_iiLiE)) (a1:(List K_iiLiE)) (i:Int) :St:=⟨[(0,(.one (.bor l0_0 (map b_iiLiE a0)))),(1,(.one (.bor l1_0 (map b_iiLiE a1)))),(5,(.one (.val (.int .i64 i))))],[]⟩
def ex73_0:O73_0→VX.Exit
  |.k0 _ _=>(.exit 0)
  |.k1=>.ret
def fin73_0 (l0_0:Nat) (l1_0:Nat) (a0:(List K_iiLiE)) (a1:(List K_iiLiE)):O73_0→St
  |.k0 w0 w1=>⟨[(0,(.one (.bor l0_0 (map b_iiLiE a0)))),(1,(.one (.bor l1_0 (map b_iiLiE a1)))),(5,(.one (.val (.int .i64 w0)))),(14,(.one (.val (.bool w1))))],[]⟩
  |.k1=>⟨[(4,(.one (.val (.bool false))))],[]⟩
theorem t73_0 {l0_0:Nat} {l1_0:Nat} {a0:(List K_iiLiE)} {a1:(List K_iiLiE)} (hy0:length a0*40≤140737488351232) (hy1:∀z∈a0,ok_iiLiE z) (hy2:length a1*40≤140737488351232) (hy3:∀z∈a1,ok_iiLiE z):∀(y0:List K_iiLiE) (y1:List K_iiLiE) (p:List K_iiLiE) (p_1:List K_iiLiE),p++y0=a0→p_1++y1=a1→length p=length p_1→length y0=length y1→Ev F X (.code l73_0 (h73_0 l0_0 l1_0 a0 a1 (length p:Int)) (ex73_0 (r73_0 a0 y0 y1 (length p:Int))) (fin73_0 l0_0 l1_0 a0 a1 (r73_0 a0 y0 y1 (length p:Int))))
  |[],[],p,p_1,hp0,hp1,hq1,hl1=>by
    have hc:¬(decide ((length p:Int) <((length (map b_iiLiE a0)):Int)))=true:=by
      rw[← hp0]; simp only[length_map,length_set,length_append,length_replicate,length_cons,length_nil,decide_eq_true_eq]; omega
    have st:=ch b73_0 (h73_0 l0_0 l1_0 a0 a1 (length p:Int)) ⟨[(0,(.one (.bor l0_0 (map b_iiLiE a0)))),(1,(.one (.bor l1_0 (map b_iiLiE a1)))),(5,(.oi (length p:Int))),(14,(.one (.val (.bool (decide ((length p:Int) <((length (map b_iiLiE a0)):Int)))))))],[]⟩ (.exit 0) 9 (by kernel_rfl) (.f (nt hc) (.h 8 (.b false) .nil))
    rw[show (⟨[(0,(.one (.bor l0_0 (map b_iiLiE a0)))),(1,(.one (.bor l1_0 (map b_iiLiE a1)))),(5,(.oi (length p:Int))),(14,(.one (.val (.bool (decide ((length p:Int) <((length (map b_iiLiE a0)):Int)))))))],[]⟩:St)=fin73_0 l0_0 l1_0 a0 a1 (.k0 (length p:Int) (decide ((length p:Int) <((length (map b_iiLiE a0)):Int)))) from(by rfl)] at st
    exact .loopX st (show ((.exit 0):VX.Exit)≠.normal from by simp)
  |x0::y0,x1::y1,p,p_1,hp0,hp1,hq1,hl1=>by
    have hc:(decide ((length p:Int) <((length (map b_iiLiE a0)):Int)))=true:=by
      rw[← hp0]; simp only[length_map,length_set,length_append,length_replicate,length_cons,length_nil,decide_eq_true_eq]; omega
    have Hx0:(a0)[toNat (length p:Int)]?=some x0:=by
      rw[← hp0,Int.toNat_natCast]; simp
    have Hx1:(a1)[toNat (length p:Int)]?=some x1:=by
      rw[← hp1,hq1,Int.toNat_natCast]; simp
    have Mx0_0:=hy1 x0 (List.mem_of_getElem? Hx0)
    have Mx1_0:=hy3 x1 (List.mem_of_getElem? Hx1)
    have hlen:length (a0)=length p+length y0+1:=by rw[← hp0]; simp; omega
    have hw:wrap .i64 ((length p:Int)+1)=(length p:Int)+1:=wrap64 (by omega)
    simp only[r73_0]
    have f1:0≤(length p:Int):=(by omega)
    have P1 {hs q} (r:PS F X hs q):=(PS.f hc (.f f1 (.f (mp_ b_iiLiE Hx0) (.f f1 (.f (mp_ b_iiLiE Hx1) (.h 8 (.b true) (.h 14 (.row (b_iiLiE x0)) (.h 22 (.row (b_iiLiE x1)) (.r 26 [] [] (e87 (l0_2:=(l0_0+1)) (l1_2:=(l1_0+1)) (a0:=x0) (a1:=x1) (by assumption) (by assumption)) r)))))))))
    by_cases h_1:(!(m87 x0 x1))=true
    · try simp only[if_pos h_1]
      have st:=ch b73_0 (h73_0 l0_0 l1_0 a0 a1 (length p:Int)) ⟨[(4,(.one (.val (.bool false))))],[]⟩ .ret 32 (by kernel_rfl) (P1 (.f h_1 (.h 29 (.b true) .nil)))
      rw[show (⟨[(4,(.one (.val (.bool false))))],[]⟩:St)=fin73_0 l0_0 l1_0 a0 a1 (.k1) from(by rfl)] at st
      exact .loopX st (show (.ret:VX.Exit)≠.normal from by simp)
    · try simp only[if_neg h_1]
      have st:=ch b73_0 (h73_0 l0_0 l1_0 a0 a1 (length p:Int)) ⟨[(0,(.one (.bor l0_0 (map b_iiLiE a0)))),(1,(.one (.bor l1_0 (map b_iiLiE a1)))),(5,(.oi (wrap .i64 ((length p:Int)+1))))],[]⟩ .normal 36 (by kernel_rfl) (P1 (.f (nt h_1) (.f trivial (.h 29 (.b false) .nil))))
      have ih:=t73_0 (l0_0:=l0_0) (l1_0:=l1_0) (a0:=a0) (a1:=a1) hy0 hy1 hy2 hy3 y0 y1 (p++ [x0]) (p_1++ [x1]) (by rw[append_assoc]; exact hp0) (by rw[append_assoc]; exact hp1) (by simp only[length_map,length_set,length_append,length_replicate,length_cons,length_nil]; omega) (by simp only[length_map,length_set,length_append,length_replicate,length_cons,length_nil] at hl1; omega)
      rw[show ((p++ [x0]).length:Int)=(p.length:Int)+1 from by simp] at ih
      rw[show (⟨[(0,(.one (.bor l0_0 (map b_iiLiE a0)))),(1,(.one (.bor l1_0 (map b_iiLiE a1)))),(5,(.oi (wrap .i64 ((length p:Int)+1))))],[]⟩:St)=h73_0 l0_0 l1_0 a0 a1 ((length p:Int)+1)  from(by unfold h73_0; simp only[hw]; done)] at st
      exact .loopN st ih
/-! loop.example/g00539/laws.eqInS -/
def m73 (a0:(List K_iiLiE)) (a1:(List K_iiLiE)):Bool:=
  if(((length (map b_iiLiE a0)):Int) !=((length (map b_iiLiE a1)):Int))=true then false else
  (match r73_0 a0 a0 a1 0 with | .k0 w0_1 w1_1=>true | .k1=>false)
theorem e73 {l0_0:Nat} {a0:(List K_iiLiE)} {l1_0:Nat} {a1:(List K_iiLiE)} (hy0:length a0*40≤140737488351232) (hy1:∀z∈a0,ok_iiLiE z) (hy2:length a1*40≤140737488351232) (hy3:∀z∈a1,ok_iiLiE z):Ev F X (.call 73 [(.one (.bor l0_0 (map b_iiLiE a0))),(.one (.bor l1_0 (map b_iiLiE a1)))] [] [] [(.one (.val (.bool (m73 a0 a1))))]):=by
  unfold m73
  by_cases h0:(((length (map b_iiLiE a0)):Int) !=((length (map b_iiLiE a1)):Int))=true
  · try simp only[if_pos h0]
    exact cp (by kernel_rfl) (.f h0 (.h 12 (.b true) .nil))
  · try simp only[if_neg h0]
    cases h1:r73_0 a0 a0 a1 0 with
    |k0 w0_1 w1_1=>
      try dsimp only
      have f1:(⟨[(0,(.one (.bor l0_0 (map b_iiLiE a0)))),(1,(.one (.bor l1_0 (map b_iiLiE a1)))),(5,(.oi 0))],[]⟩:St)=h73_0 l0_0 l1_0 a0 a1 0 :=(by rfl)
      exact cp (by kernel_rfl) (.f (nt h0) (.f f1 (.f (ev_ (e:=ex73_0) (g:=(fin73_0 l0_0 l1_0 a0 a1)) h1 (t73_0 (l0_0:=l0_0) (l1_0:=l1_0) (a0:=a0) (a1:=a1) (by assumption) (by assumption) (by assumption) (by assumption) a0 a1 [] []  rfl rfl rfl (by simp at*; omega))) (.h 12 (.b false) (.h 15 (.loop (h73_0 l0_0 l1_0 a0 a1 0) (.exit 0) ⟨[(0,(.one (.bor l0_0 (map b_iiLiE a0)))),(1,(.one (.bor l1_0 (map b_iiLiE a1)))),(5,(.one (.val (.int .i64 w0_1)))),(14,(.one (.val (.bool w1_1))))],[]⟩) .nil)))))
    |k1=>
      try dsimp only
      have f1:(⟨[(0,(.one (.bor l0_0 (map b_iiLiE a0)))),(1,(.one (.bor l1_0 (map b_iiLiE a1)))),(5,(.oi 0))],[]⟩:St)=h73_0 l0_0 l1_0 a0 a1 0 :=(by rfl)
      exact cp (by kernel_rfl) (.f (nt h0) (.f f1 (.f (ev_ (e:=ex73_0) (g:=(fin73_0 l0_0 l1_0 a0 a1)) h1 (t73_0 (l0_0:=l0_0) (l1_0:=l1_0) (a0:=a0) (a1:=a1) (by assumption) (by assumption) (by assumption) (by assumption) a0 a1 [] []  rfl rfl rfl (by simp at*; omega))) (.h 12 (.b false) (.h 15 (.loop (h73_0 l0_0 l1_0 a0 a1 0) .ret ⟨[(4,(.one (.val (.bool false))))],[]⟩) .nil)))))
theorem eqr73_0 (a0:(List K_iiLiE)):∀(l m:List K_iiLiE) (i:Int),l.length=m.length→(r73_0 a0 l m i=.k1∧l≠m)∨(∃w0 w1,r73_0 a0 l m i=.k0 w0 w1∧l=m)
  |[],[],i,_=>.inr ⟨_,_,rfl,rfl⟩
  |[],_::_,i,h=>by simp at h
  |_::_,[],i,h=>by simp at h
  |x::l,y::m,i,h=>by
    have ih:=eqr73_0 a0 l m (i+1) (by simpa using h)
    by_cases hxy:x=y
    · subst hxy
      have e:r73_0 a0 (x::l) (x::m) i=r73_0 a0 l m (i+1):=by simp[r73_0,ba_eq,eqd87]
      rw[e]
      rcases ih with⟨h1,h2⟩ |⟨w0,w1,h1,h2⟩
      · exact .inl ⟨h1,by simp[h2]⟩
      · exact .inr ⟨_,_,h1,by rw[h2]⟩
    · have e:r73_0 a0 (x::l) (y::m) i=.k1:=by
        simp only[r73_0]
        first
          |((repeat' split)<;>simp_all [ba_eq,eqd87]; done)
          |(cases x; cases y;(repeat' split)<;>simp_all [ba_eq,eqd87])
      exact .inl ⟨e,by simp[hxy]⟩
open Classical in
theorem eqd73 (a b:(List K_iiLiE)):m73 a b=decide (a=b):=by
  rw[Bool.eq_iff_iff,decide_eq_true_eq]
  unfold m73
  by_cases hl:length a=length b
  · rcases eqr73_0 a a b 0 hl with⟨h1,h2⟩ |⟨w0,w1,h1,h2⟩
    · simp only[h1,length_map,hl]
      first
        |(simp[h2,ba_eq,eqd87]; done)
        |(cases a; cases b; simp_all [ba_eq,eqd87]; done)
        |(cases a; cases b;(repeat' split)<;>simp_all [ba_eq,eqd87])
    · simp only[h1,length_map,hl]
      first
        |(simp[h2,ba_eq,eqd87]; done)
        |(cases a; cases b; simp_all [ba_eq,eqd87]; done)
        |(cases a; cases b;(repeat' split)<;>simp_all [ba_eq,eqd87])
  · have hn:a≠b:=by rintro rfl; exact hl rfl
    simp only[length_map]
    first
      |(simp[hn,hl,ba_eq,eqd87]; done)
      |((repeat' split)<;>simp_all [ba_eq,eqd87]; done)
      |(simp[hn]; omega)
/-! loop.example/g00539/laws.eqOut -/
def m88 (a0:K_iLiE) (a1:K_iLiE):Bool:=
  if(a0.f0 !=a1.f0)=true then false else
  if(!(m96 a0.f1 a1.f1))=true then false else
    true
theorem e88 {l0_1:Nat} {a0:K_iLiE} {l1_1:Nat} {a1:K_iLiE} (hy0:length a0.f1*8≤140737488351232) (hy1:length a1.f1*8≤140737488351232):Ev F X (.call 88 [(.agg (k_iLiE l0_1 a0)),(.agg (k_iLiE l1_1 a1))] [] [] [(.one (.val (.bool (m88 a0 a1))))]):=by
  unfold m88
  by_cases h0:(a0.f0 !=a1.f0)=true
  · try simp only[if_pos h0]
    exact cp (by kernel_rfl) (.f h0 (.h 16 (.b true) .nil))
  · try simp only[if_neg h0]
    have P1 {hs q} (r:PS F X hs q):=(PS.f (nt h0) (.h 16 (.b false) (.r 26 [] [] (e96 (l0_0:=(l0_1+1)) (l1_0:=(l1_1+1)) (a0:=a0.f1) (a1:=a1.f1) ‹_› ‹_›) r)))
    by_cases h1:(!(m96 a0.f1 a1.f1))=true
    · try simp only[if_pos h1]
      exact cp (by kernel_rfl) (P1 (.f h1 (.h 29 (.b true) .nil)))
    · try simp only[if_neg h1]
      exact cp (by kernel_rfl) (P1 (.f (nt h1) (.h 29 (.b false) .nil)))
open Classical in
theorem eqd88 (a b:K_iLiE):m88 a b=decide (a=b):=by
  rw[Bool.eq_iff_iff,decide_eq_true_eq]
  constructor
  · intro h
    unfold m88 at h
    cases a; cases b
    (repeat' split at h)<;>simp_all [ba_eq,eqd96]
  · rintro rfl
    simp[m88,ba_eq,eqd96]
/-! loop 74_0 -/
inductive O74_0 where
  |k0 (w0:Int) (w1:Bool)
  |k1
def r74_0 (a0:(List K_iLiE)):List K_iLiE→List K_iLiE→Int→O74_0
  |x0::y0,x1::y1,i=>
    if(!(m88 x0 x1))=true then(O74_0.k1) else
    (r74_0 a0 y0 y1 (i+1))
  |_,_,i=>(O74_0.k0 i (decide (i <((length (map b_iLiE a0)):Int))))
def h74_0 (l0_0:Nat) (l1_0:Nat) (a0:(List K_iLiE)) (a1:(List K_iLiE)) (i:Int) :St:=⟨[(0,(.one (.bor l0_0 (map b_iLiE a0)))),(1,(.one (.bor l1_0 (map b_iLiE a1)))),(5,(.one (.val (.int .i64 i))))],[]⟩
def ex74_0:O74_0→VX.Exit
  |.k0 _ _=>(.exit 0)
  |.k1=>.ret
def fin74_0 (l0_0:Nat) (l1_0:Nat) (a0:(List K_iLiE)) (a1:(List K_iLiE)):O74_0→St
  |.k0 w0 w1=>⟨[(0,(.one (.bor l0_0 (map b_iLiE a0)))),(1,(.one (.bor l1_0 (map b_iLiE a1)))),(5,(.one (.val (.int .i64 w0)))),(14,(.one (.val (.bool w1))))],[]⟩
  |.k1=>⟨[(4,(.one (.val (.bool false))))],[]⟩
theorem t74_0 {l0_0:Nat} {l1_0:Nat} {a0:(List K_iLiE)} {a1:(List K_iLiE)} (hy0:length a0*32≤140737488351232) (hy1:∀z∈a0,ok_iLiE z) (hy2:length a1*32≤140737488351232) (hy3:∀z∈a1,ok_iLiE z):∀(y0:List K_iLiE) (y1:List K_iLiE) (p:List K_iLiE) (p_1:List K_iLiE),p++y0=a0→p_1++y1=a1→length p=length p_1→length y0=length y1→Ev F X (.code l74_0 (h74_0 l0_0 l1_0 a0 a1 (length p:Int)) (ex74_0 (r74_0 a0 y0 y1 (length p:Int))) (fin74_0 l0_0 l1_0 a0 a1 (r74_0 a0 y0 y1 (length p:Int))))
  |[],[],p,p_1,hp0,hp1,hq1,hl1=>by
    have hc:¬(decide ((length p:Int) <((length (map b_iLiE a0)):Int)))=true:=by
      rw[← hp0]; simp only[length_map,length_set,length_append,length_replicate,length_cons,length_nil,decide_eq_true_eq]; omega
    have st:=ch b74_0 (h74_0 l0_0 l1_0 a0 a1 (length p:Int)) ⟨[(0,(.one (.bor l0_0 (map b_iLiE a0)))),(1,(.one (.bor l1_0 (map b_iLiE a1)))),(5,(.oi (length p:Int))),(14,(.one (.val (.bool (decide ((length p:Int) <((length (map b_iLiE a0)):Int)))))))],[]⟩ (.exit 0) 9 (by kernel_rfl) (.f (nt hc) (.h 8 (.b false) .nil))
    rw[show (⟨[(0,(.one (.bor l0_0 (map b_iLiE a0)))),(1,(.one (.bor l1_0 (map b_iLiE a1)))),(5,(.oi (length p:Int))),(14,(.one (.val (.bool (decide ((length p:Int) <((length (map b_iLiE a0)):Int)))))))],[]⟩:St)=fin74_0 l0_0 l1_0 a0 a1 (.k0 (length p:Int) (decide ((length p:Int) <((length (map b_iLiE a0)):Int)))) from(by rfl)] at st
    exact .loopX st (show ((.exit 0):VX.Exit)≠.normal from by simp)
  |x0::y0,x1::y1,p,p_1,hp0,hp1,hq1,hl1=>by
    have hc:(decide ((length p:Int) <((length (map b_iLiE a0)):Int)))=true:=by
      rw[← hp0]; simp only[length_map,length_set,length_append,length_replicate,length_cons,length_nil,decide_eq_true_eq]; omega
    have Hx0:(a0)[toNat (length p:Int)]?=some x0:=by
      rw[← hp0,Int.toNat_natCast]; simp
    have Hx1:(a1)[toNat (length p:Int)]?=some x1:=by
      rw[← hp1,hq1,Int.toNat_natCast]; simp
    have Mx0_0:=hy1 x0 (List.mem_of_getElem? Hx0)
    have Mx1_0:=hy3 x1 (List.mem_of_getElem? Hx1)
    have hlen:length (a0)=length p+length y0+1:=by rw[← hp0]; simp; omega
    have hw:wrap .i64 ((length p:Int)+1)=(length p:Int)+1:=wrap64 (by omega)
    simp only[r74_0]
    have f1:0≤(length p:Int):=(by omega)
    have P1 {hs q} (r:PS F X hs q):=(PS.f hc (.f f1 (.f (mp_ b_iLiE Hx0) (.f f1 (.f (mp_ b_iLiE Hx1) (.h 8 (.b true) (.h 14 (.row (b_iLiE x0)) (.h 22 (.row (b_iLiE x1)) (.r 26 [] [] (e88 (l0_1:=(l0_0+1)) (l1_1:=(l1_0+1)) (a0:=x0) (a1:=x1) (by assumption) (by assumption)) r)))))))))
    by_cases h_1:(!(m88 x0 x1))=true
    · try simp only[if_pos h_1]
      have st:=ch b74_0 (h74_0 l0_0 l1_0 a0 a1 (length p:Int)) ⟨[(4,(.one (.val (.bool false))))],[]⟩ .ret 32 (by kernel_rfl) (P1 (.f h_1 (.h 29 (.b true) .nil)))
      rw[show (⟨[(4,(.one (.val (.bool false))))],[]⟩:St)=fin74_0 l0_0 l1_0 a0 a1 (.k1) from(by rfl)] at st
      exact .loopX st (show (.ret:VX.Exit)≠.normal from by simp)
    · try simp only[if_neg h_1]
      have st:=ch b74_0 (h74_0 l0_0 l1_0 a0 a1 (length p:Int)) ⟨[(0,(.one (.bor l0_0 (map b_iLiE a0)))),(1,(.one (.bor l1_0 (map b_iLiE a1)))),(5,(.oi (wrap .i64 ((length p:Int)+1))))],[]⟩ .normal 36 (by kernel_rfl) (P1 (.f (nt h_1) (.f trivial (.h 29 (.b false) .nil))))
      have ih:=t74_0 (l0_0:=l0_0) (l1_0:=l1_0) (a0:=a0) (a1:=a1) hy0 hy1 hy2 hy3 y0 y1 (p++ [x0]) (p_1++ [x1]) (by rw[append_assoc]; exact hp0) (by rw[append_assoc]; exact hp1) (by simp only[length_map,length_set,length_append,length_replicate,length_cons,length_nil]; omega) (by simp only[length_map,length_set,length_append,length_replicate,length_cons,length_nil] at hl1; omega)
      rw[show ((p++ [x0]).length:Int)=(p.length:Int)+1 from by simp] at ih
      rw[show (⟨[(0,(.one (.bor l0_0 (map b_iLiE a0)))),(1,(.one (.bor l1_0 (map b_iLiE a1)))),(5,(.oi (wrap .i64 ((length p:Int)+1))))],[]⟩:St)=h74_0 l0_0 l1_0 a0 a1 ((length p:Int)+1)  from(by unfold h74_0; simp only[hw]; done)] at st
      exact .loopN st ih
end Go.Proofs.Ytjgebnhpklkjcaa.JobsFault
