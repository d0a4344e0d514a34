/- What the functions compute. -/
import Derived.Test.YtjgebnhpklkjcaaEJobsFaultC
import Derived.KernelRfl
namespace Go.Proofs.Ytjgebnhpklkjcaa.JobsFault
open Go Go.Proofs.Ytjgebnhpklkjcaa.V
set_option linter.unusedVariables false
set_option linter.unusedSimpArgs false
set_option maxRecDepth 20000
open Go.IntKind (wrap)
open Int (toNat)
open List (length_replicate length_map length_set length_append length_cons length_nil length_take length_drop take_of_length_le map_take map_drop map_set append_assoc getElem?_map map length take drop getD set)
attribute [local simp] toBR_i fullR_i pureR_i lenB_i lenD_i fromBR_i copy_i toBR_iiLiE fullR_iiLiE pureR_iiLiE lenB_iiLiE lenD_iiLiE toBR_iLiE fullR_iLiE pureR_iLiE lenB_iLiE lenD_iLiE toBR_iLiiLiEELiLiEE fullR_iLiiLiEELiLiEE pureR_iLiiLiEELiLiEE lenB_iLiiLiEELiLiEE lenD_iLiiLiEELiLiEE toBR_iiiiiLiLiiLiEELiLiEEE fullR_iiiiiLiLiiLiEELiLiEEE pureR_iiiiiLiLiiLiEELiLiEEE lenB_iiiiiLiLiiLiEELiLiEEE lenD_iiiiiLiLiiLiEELiLiEEE toBR_LiiiiiLiLiiLiEELiLiEEEE fullR_LiiiiiLiLiiLiEELiLiEEEE pureR_LiiiiiLiLiiLiEELiLiEEEE lenB_LiiiiiLiLiiLiEELiLiEEEE lenD_LiiiiiLiLiiLiEELiLiEEEE toBR_b fullR_b pureR_b lenB_b lenD_b fromBR_b copy_b toBR_iiiiLiLiiLiEELiLiEEE fullR_iiiiLiLiiLiEELiLiEEE pureR_iiiiLiLiiLiEELiLiEEE lenB_iiiiLiLiiLiEELiLiEEE lenD_iiiiLiLiiLiEELiLiEEE toBR_LiE fullR_LiE pureR_LiE lenB_LiE lenD_LiE toBR_LiLiiLiEELiLiEEE fullR_LiLiiLiEELiLiEEE pureR_LiLiiLiEELiLiEEE lenB_LiLiiLiEELiLiEEE lenD_LiLiiLiEELiLiEEE toBR_LiiLiEE fullR_LiiLiEE pureR_LiiLiEE lenB_LiiLiEE lenD_LiiLiEE toBR_LiLiEE fullR_LiLiEE pureR_LiLiEE lenB_LiLiEE lenD_LiLiEE strInts_len byteRows_len toBR_y fullR_y pureR_y lenB_y lenD_y fromBR_y copy_y toBR_LyE fullR_LyE pureR_LyE lenB_LyE lenD_LyE toBR_LLyEE fullR_LLyEE pureR_LLyEE lenB_LLyEE lenD_LLyEE
/-! loop 35_0 -/
inductive O35_0 where
  |k0 (w0:List Int) (w1:Int) (w2:Bool)
def r35_0 (a0:(List Int)):Nat→List Int→Int→O35_0
  |n+1,v0,v2=>
    if(decide (v2 <((length (map b_i a0)):Int)))=true then(r35_0 a0 n (v0++([(m52 [(getD a0 (toNat v2) 0),(m53 a0 v2)])])) (wrap .i64 (v2+2))) else
    (O35_0.k0 v0 v2 (decide (v2 <((length (map b_i a0)):Int))))
  |0,v0,v2=>(O35_0.k0 v0 v2 (decide (v2 <((length (map b_i a0)):Int))))
def h35_0 (l0_0:Nat) (a0:(List Int)) (v0:List Int) (v2:Int):St:=⟨[(0,(.one (.bor l0_0 (map b_i a0)))),(3,(.one (.ref ⟨(3,0,0),[],0,(length (map d_i v0))⟩))),(4,(.one (.val (.int .i64 v2))))],[((3,0,0),.live ⟨1,(map d_i v0),[]⟩)]⟩
def ex35_0:O35_0→VX.Exit
  |.k0 _ _ _=>(.exit 0)
def fin35_0 (l0_0:Nat) (a0:(List Int)):O35_0→St
  |.k0 w0 w1 w2=>⟨[(0,(.one (.bor l0_0 (map b_i a0)))),(3,(.one (.ref ⟨(3,0,0),[],0,(length (map d_i w0))⟩))),(4,(.one (.val (.int .i64 w1)))),(9,(.one (.val (.bool w2))))],[((3,0,0),.live ⟨1,(map d_i w0),[]⟩)]⟩
theorem t35_0 {l0_0:Nat} {a0:(List Int)} (hy0:length a0≤1000):∀(n:Nat) (v0:List Int) (v2:Int),0≤v2→v2≤(length a0:Int)+1→2*(length v0:Int)=v2→toNat ((length a0:Int) - v2)≤n→Ev F X (.code l35_0 (h35_0 l0_0 a0 v0 v2) (ex35_0 (r35_0 a0 n v0 v2)) (fin35_0 l0_0 a0 (r35_0 a0 n v0 v2)))
  |0,v0,v2,hi0,hi1,hi2,hn=>by
    have hc:¬(decide (v2 <((length (map b_i a0)):Int)))=true:=by first |(exact fuel64_zero hn) |(simp only[decide_eq_true_eq] at*; omega) |(simp at*; omega)
    have st:=ch b35_0 (h35_0 l0_0 a0 v0 v2) ⟨[(0,(.one (.bor l0_0 (map b_i a0)))),(3,(.one (.ref ⟨(3,0,0),[],0,(length (map d_i v0))⟩))),(4,(.oi v2)),(9,(.one (.val (.bool (decide (v2 <((length (map b_i a0)):Int)))))))],[((3,0,0),.live ⟨1,(map d_i v0),[]⟩)]⟩ (.exit 0) 9 (by kernel_rfl) (.f (nt hc) (.h 8 (.b false) .nil))
    rw[show (⟨[(0,(.one (.bor l0_0 (map b_i a0)))),(3,(.one (.ref ⟨(3,0,0),[],0,(length (map d_i v0))⟩))),(4,(.oi v2)),(9,(.one (.val (.bool (decide (v2 <((length (map b_i a0)):Int)))))))],[((3,0,0),.live ⟨1,(map d_i v0),[]⟩)]⟩:St)=fin35_0 l0_0 a0 (.k0 v0 v2 (decide (v2 <((length (map b_i a0)):Int)))) from(by rfl)] at st
    exact .loopX st (show ((.exit 0):VX.Exit)≠.normal from by simp)
  |n+1,v0,v2,hi0,hi1,hi2,hn=>by
    simp only[r35_0]
    by_cases h_0:(decide (v2 <((length (map b_i a0)):Int)))=true
    · try simp only[if_pos h_0]
      have f1:0≤v2:=‹_›
      have f4:2≤2:=(by omega)
      have f5:fullR (take 2 (drop 0 [[(.val (.int .i64 (getD a0 (toNat v2) 0)))],[(.val (.int .i64 (m53 a0 v2)))]]))=true:=(by trivial)
      have f6:toBR (take 2 (drop 0 [[(.val (.int .i64 (getD a0 (toNat v2) 0)))],[(.val (.int .i64 (m53 a0 v2)))]]))=[[(.val (.int .i64 (getD a0 (toNat v2) 0)))],[(.val (.int .i64 (m53 a0 v2)))]]:=(by trivial)
      have f8:0+(length (map d_i v0))≤(length (map d_i v0)):=(by omega)
      have f9:1≤1:=(by omega)
      have f10:((take 1 (drop 0 [[(.val (.int .i64 (m52 [(getD a0 (toNat v2) 0),(m53 a0 v2)])))]])).all fun x=>x.all copyable)=true:=(by assumption)
      have f11:(length ((take (length (map d_i v0)) (drop 0 (map d_i v0)))++([[(.val (.int .i64 (m52 [(getD a0 (toNat v2) 0),(m53 a0 v2)])))]]:List (List D))))*8≤70368744177664:=(by simp only[decide_eq_true_eq,length_map,length_append,length_take,length_drop,length_cons,length_nil] at*; omega)
      have f12:∀r∈([[(.val (.int .i64 (m52 [(getD a0 (toNat v2) 0),(m53 a0 v2)])))]]:List (List D)),r.length=1:=(by unfold m52 m53;(repeat' split)<;>simp_all<;>omega)
      have f13:((take (length (map d_i v0)) (drop 0 (map d_i v0)))++([[(.val (.int .i64 (m52 [(getD a0 (toNat v2) 0),(m53 a0 v2)])))]]:List (List D)))=(map d_i (v0++([(m52 [(getD a0 (toNat v2) 0),(m53 a0 v2)])]))):=(by simp[byteRows_eq,ints_y,take_of_length_le,d_i,d_iiLiE,d_iLiE,d_iLiiLiEELiLiEE,d_iiiiiLiLiiLiEELiLiEEE,d_LiiiiiLiLiiLiEELiLiEEEE,d_b,d_iiiiLiLiiLiEELiLiEEE,d_LiE,d_LiLiiLiEELiLiEEE,d_LiiLiEE,d_LiLiEE,d_y,d_LyE,d_LLyEE,fromBR_i,fromBR_b,fromBR_y,four_len,high4,high2]; done)
      have st:=ch b35_0 (h35_0 l0_0 a0 v0 v2) ⟨[(0,(.one (.bor l0_0 (map b_i a0)))),(3,(.one (.ref ⟨(3,0,0),[],0,(length ((take (length (map d_i v0)) (drop 0 (map d_i v0)))++([[(.i (m52 [(getD a0 (toNat v2) 0),(m53 a0 v2)]))]]:List (List D))))⟩))),(4,(.oi (wrap .i64 (v2+2))))],[((3,0,0),.live ⟨1,(map d_i (v0++([(m52 [(getD a0 (toNat v2) 0),(m53 a0 v2)])]))),[]⟩)]⟩ .normal 42 (by kernel_rfl) (.f h_0 (.f f1 (.f (mp_ b_i (getD_at a0 (toNat v2) 0 (by simp only[decide_eq_true_eq,length_map,length_append,length_take,length_drop,length_cons,length_nil] at*; omega))) (.h 8 (.b true) (.h 16 (.row [(.i (getD a0 (toNat v2) 0))]) (.r 24 [] [] (e53 (l0_0:=(l0_0+1)) (a0:=a0) (a1:=v2) ‹_› (by simp only[decide_eq_true_eq,length_map,length_append,length_take,length_drop,length_cons,length_nil] at*; omega) ‹_›) (.f f4 (.f f5 (.f f6 (.r 28 [] [[[(.i (getD a0 (toNat v2) 0))],[(.i (m53 a0 v2))]]] (e52 (l0_0:=0) (a0:=[(getD a0 (toNat v2) 0),(m53 a0 v2)]) (by simp only[decide_eq_true_eq,length_map,length_append,length_take,length_drop,length_cons,length_nil] at*; omega)) (.f f8 (.f f9 (.f f10 (.f f11 (.f f12 (.f f13 (.f trivial (.h 32 (.b true) (.h 35 (.norm (3,0,0) (map d_i (v0++([(m52 [(getD a0 (toNat v2) 0),(m53 a0 v2)])])))) .nil)))))))))))))))))))
      have ih:=t35_0 (l0_0:=l0_0) (a0:=a0) hy0 n (v0++([(m52 [(getD a0 (toNat v2) 0),(m53 a0 v2)])])) (wrap .i64 (v2+2)) (by simp only[decide_eq_true_eq,length_map,length_append,length_cons,length_nil] at*; rw[wrap64 (by omega)]; omega) (by simp only[decide_eq_true_eq,length_map,length_append,length_cons,length_nil] at*; rw[wrap64 (by omega)]; omega) (by simp only[decide_eq_true_eq,length_map,length_append,length_cons,length_nil] at*; rw[wrap64 (by omega)]; omega) (by simp only[decide_eq_true_eq,length_map,length_append,length_cons,length_nil] at*; rw[wrap64 (by omega)]; omega)
      rw[show (⟨[(0,(.one (.bor l0_0 (map b_i a0)))),(3,(.one (.ref ⟨(3,0,0),[],0,(length ((take (length (map d_i v0)) (drop 0 (map d_i v0)))++([[(.i (m52 [(getD a0 (toNat v2) 0),(m53 a0 v2)]))]]:List (List D))))⟩))),(4,(.oi (wrap .i64 (v2+2))))],[((3,0,0),.live ⟨1,(map d_i (v0++([(m52 [(getD a0 (toNat v2) 0),(m53 a0 v2)])]))),[]⟩)]⟩:St)=h35_0 l0_0 a0 (v0++([(m52 [(getD a0 (toNat v2) 0),(m53 a0 v2)])])) (wrap .i64 (v2+2)) from(by unfold h35_0; simp[byteRows_eq,ints_y,take_of_length_le,d_i,d_iiLiE,d_iLiE,d_iLiiLiEELiLiEE,d_iiiiiLiLiiLiEELiLiEEE,d_LiiiiiLiLiiLiEELiLiEEEE,d_b,d_iiiiLiLiiLiEELiLiEEE,d_LiE,d_LiLiiLiEELiLiEEE,d_LiiLiEE,d_LiLiEE,d_y,d_LyE,d_LLyEE,fromBR_i,fromBR_b,fromBR_y,four_len,high4,high2]; done)] at st
      exact .loopN st ih
    · try simp only[if_neg h_0]
      have st:=ch b35_0 (h35_0 l0_0 a0 v0 v2) ⟨[(0,(.one (.bor l0_0 (map b_i a0)))),(3,(.one (.ref ⟨(3,0,0),[],0,(length (map d_i v0))⟩))),(4,(.oi v2)),(9,(.one (.val (.bool (decide (v2 <((length (map b_i a0)):Int)))))))],[((3,0,0),.live ⟨1,(map d_i v0),[]⟩)]⟩ (.exit 0) 9 (by kernel_rfl) (.f (nt h_0) (.h 8 (.b false) .nil))
      rw[show (⟨[(0,(.one (.bor l0_0 (map b_i a0)))),(3,(.one (.ref ⟨(3,0,0),[],0,(length (map d_i v0))⟩))),(4,(.oi v2)),(9,(.one (.val (.bool (decide (v2 <((length (map b_i a0)):Int)))))))],[((3,0,0),.live ⟨1,(map d_i v0),[]⟩)]⟩:St)=fin35_0 l0_0 a0 (.k0 v0 v2 (decide (v2 <((length (map b_i a0)):Int)))) from(by rfl)] at st
      exact .loopX st (show ((.exit 0):VX.Exit)≠.normal from by simp)
/-! loop 35_0,behind -/
def post35_0 (a0:(List Int)):O35_0→Prop
  |.k0 w0 _ _=>2*(length w0:Int)≤(length a0:Int)+1
theorem z35_0 {a0:(List Int)} (hy0:length a0≤1000):∀(n:Nat) (v0:List Int) (v2:Int),0≤v2→v2≤(length a0:Int)+1→2*(length v0:Int)=v2→post35_0 a0 (r35_0 a0 n v0 v2)
  |0,v0,v2,hi0,hi1,hi2=>by
    simp only[r35_0]
    first | trivial |(show _ ; simp only[post35_0]; omega) |(simp only[post35_0] at*; omega) |(simp only[decide_eq_true_eq,length_map,length_append,length_cons,length_nil] at*; rw[wrap64 (by omega)]; omega) |(simp; done) |(simp only[decide_eq_true_eq] at*; omega)
  |n+1,v0,v2,hi0,hi1,hi2=>by
    simp only[r35_0]
    by_cases h_0:(decide (v2 <((length (map b_i a0)):Int)))=true
    · try simp only[if_pos h_0]
      exact z35_0 (a0:=a0) hy0 n (v0++([(m52 [(getD a0 (toNat v2) 0),(m53 a0 v2)])])) (wrap .i64 (v2+2)) (by simp only[decide_eq_true_eq,length_map,length_append,length_cons,length_nil] at*; rw[wrap64 (by omega)]; omega) (by simp only[decide_eq_true_eq,length_map,length_append,length_cons,length_nil] at*; rw[wrap64 (by omega)]; omega) (by simp only[decide_eq_true_eq,length_map,length_append,length_cons,length_nil] at*; rw[wrap64 (by omega)]; omega)
    · try simp only[if_neg h_0]
      first | trivial |(show _ ; simp only[post35_0]; omega) |(simp only[post35_0] at*; omega) |(simp only[decide_eq_true_eq,length_map,length_append,length_cons,length_nil] at*; rw[wrap64 (by omega)]; omega) |(simp; done) |(simp only[decide_eq_true_eq] at*; omega)
/-! loop.example/g00539/impl.above -/
def m35 (a0:(List Int)):(List Int):=
  (match r35_0 a0 (toNat ((length a0:Int) - 0)) ([]) 0 with | .k0 w0_0 w1_0 w2_0=>w0_0)
theorem e35 {l0_0:Nat} {a0:(List Int)} (hy0:length a0≤1000):Ev F X (.call 35 [(.one (.bor l0_0 (map b_i a0)))] [] [] [(.one (.own 1 (map d_i (m35 a0))))]):=by
  unfold m35
  cases h0:r35_0 a0 (toNat ((length a0:Int) - 0)) ([]) 0 with
  |k0 w0_0 w1_0 w2_0=>
    try dsimp only
    have zh0:=z35_0 (a0:=a0) (by assumption) (toNat ((length a0:Int) - 0)) ([]) 0 (by omega) (by omega) (by rfl); rw[h0] at zh0; simp only[post35_0] at zh0
    have f0:(⟨[(0,(.one (.bor l0_0 (map b_i a0)))),(3,(.one (.ref ⟨(3,0,0),[],0,0⟩))),(4,(.oi 0))],[((3,0,0),.live ⟨1,[],[]⟩)]⟩:St)=h35_0 l0_0 a0 ([]) 0:=(by rfl)
    exact cp (by kernel_rfl) (.f f0 (.f (ev_ (e:=ex35_0) (g:=(fin35_0 l0_0 a0)) h0 (t35_0 (l0_0:=l0_0) (a0:=a0) (by assumption) (toNat ((length a0:Int) - 0)) ([]) 0 (by omega) (by omega) (by rfl) (Nat.le_refl _))) (pe 0 (pe (length (map d_i w0_0)) (.f (pureR_i w0_0) (.h 8 (.loop (h35_0 l0_0 a0 ([]) 0) (.exit 0) ⟨[(0,(.one (.bor l0_0 (map b_i a0)))),(3,(.one (.ref ⟨(3,0,0),[],0,(length (map d_i w0_0))⟩))),(4,(.one (.val (.int .i64 w1_0)))),(9,(.one (.val (.bool w2_0))))],[((3,0,0),.live ⟨1,(map d_i w0_0),[]⟩)]⟩) .nil))))))
theorem abl35 (a:List Int) (h:a.length≤1000):2*(m35 a).length≤a.length+1:=by
  have z:=z35_0 (a0:=a) h (toNat ((length a:Int) - 0)) [] 0 (by omega) (by omega) (by simp)
  show 2*(match r35_0 a (toNat ((length a:Int) - 0)) [] 0 with | .k0 w _ _=>w).length≤a.length+1
  revert z
  generalize r35_0 a (toNat ((length a:Int) - 0)) [] 0=r
  intro z
  cases r with
  |k0 w0 w1 w2=>simp only[post35_0] at z; show 2*w0.length≤_; omega
/-! loop 23_1 -/
inductive O23_1 where
  |k0 (w0:Int) (w1:Bool)
  |k1
def r23_1 (c0_23_1:List Int):Nat→Int→O23_1
  |n+1,v0=>
    if (decide (v0 < ((length (map d_i c0_23_1)) : Int))) = true then (if ((getD c0_23_1 (toNat (wrap .i64 (v0 - 1))) 0) == (getD c0_23_1 (toNat v0) 0)) = true then (O23_1.k1) else
      (r23_1 c0_23_1 n (wrap .i64 (v0+2)))) else
    (O23_1.k0 v0 (decide (v0 <((length (map d_i c0_23_1)):Int))))
  |0,v0=>(O23_1.k0 v0 (decide (v0 <((length (map d_i c0_23_1)):Int))))
def h23_1 (a0:(List Int)) (c0_23_1:List Int) (v0:Int):St:=⟨[(3,(.one (.ref ⟨(3,0,0),[],0,(length (map d_i c0_23_1))⟩))),(4,(.one (.val (.int .i64 v0))))],[((3,0,0),.live ⟨1,(map d_i c0_23_1),[]⟩)]⟩
def ex23_1:O23_1→VX.Exit
  |.k0 _ _=>(.exit 2)
  |.k1=>.ret
def fin23_1 (a0:(List Int)) (c0_23_1:List Int):O23_1→St
  |.k0 w0 w1=>⟨[(3,(.one (.ref ⟨(3,0,0),[],0,(length (map d_i c0_23_1))⟩))),(4,(.one (.val (.int .i64 w0)))),(17,(.one (.val (.bool w1))))],[((3,0,0),.live ⟨1,(map d_i c0_23_1),[]⟩)]⟩
  |.k1=>⟨[(2,(.one (.val (.bool true))))],[]⟩
theorem t23_1 {a0:(List Int)} {c0_23_1:List Int} (hy0:length c0_23_1≤140737488351232):∀(n:Nat) (v0:Int),1≤v0→v0≤(length c0_23_1:Int)+2→length c0_23_1≤1000→toNat ((length c0_23_1:Int) - v0)≤n→Ev F X (.code l23_1 (h23_1 a0 c0_23_1 v0) (ex23_1 (r23_1 c0_23_1 n v0)) (fin23_1 a0 c0_23_1 (r23_1 c0_23_1 n v0)))
  |0,v0,hi0,hi1,hi2,hn=>by
    have hc:¬(decide (v0 <((length (map d_i c0_23_1)):Int)))=true:=by first |(have e1:wrap .i64 (v0+1)=v0+1:=wrap64 (by omega); have e0:wrap .i64 (v0 - 1)=v0 - 1:=wrap64 (by omega); have e2:wrap .i64 (v0+2)=v0+2:=wrap64 (by omega); simp only[decide_eq_true_eq,length_map,e1,e0,e2]; omega) |(exact fuel64_zero hn) |(simp only[decide_eq_true_eq] at*; omega) |(simp at*; omega)
    have st:=ch b23_1 (h23_1 a0 c0_23_1 v0) ⟨[(3,(.one (.ref ⟨(3,0,0),[],0,(length (map d_i c0_23_1))⟩))),(4,(.oi v0)),(17,(.one (.val (.bool (decide (v0 <((length (map d_i c0_23_1)):Int)))))))],[((3,0,0),.live ⟨1,(map d_i c0_23_1),[]⟩)]⟩ (.exit 2) 9 (by kernel_rfl) (.f (nt hc) (.h 8 (.b false) .nil))
    rw[show (⟨[(3,(.one (.ref ⟨(3,0,0),[],0,(length (map d_i c0_23_1))⟩))),(4,(.oi v0)),(17,(.one (.val (.bool (decide (v0 <((length (map d_i c0_23_1)):Int)))))))],[((3,0,0),.live ⟨1,(map d_i c0_23_1),[]⟩)]⟩:St)=fin23_1 a0 c0_23_1 (.k0 v0 (decide (v0 <((length (map d_i c0_23_1)):Int)))) from(by rfl)] at st
    exact .loopX st (show ((.exit 2):VX.Exit)≠.normal from by simp)
  |n+1,v0,hi0,hi1,hi2,hn=>by
    simp only[r23_1]
    by_cases h_0:(decide (v0 <((length (map d_i c0_23_1)):Int)))=true
    · try simp only[if_pos h_0]
      have f1:0+(length (map d_i c0_23_1))≤(length (map d_i c0_23_1)):=(by omega)
      have f2:0≤(wrap .i64 (v0 - 1))∧(wrap .i64 (v0 - 1)) <((length (map d_i c0_23_1)):Int):=(by have e1:wrap .i64 (v0+1)=v0+1:=wrap64 (by omega); have e0:wrap .i64 (v0 - 1)=v0 - 1:=wrap64 (by omega); have e2:wrap .i64 (v0+2)=v0+2:=wrap64 (by omega); simp only[decide_eq_true_eq,length_map,e1,e0,e2] at h_0⊢; omega)
      have f5:0≤v0∧v0 <((length (map d_i c0_23_1)):Int):=(by have e1:wrap .i64 (v0+1)=v0+1:=wrap64 (by omega); have e0:wrap .i64 (v0 - 1)=v0 - 1:=wrap64 (by omega); have e2:wrap .i64 (v0+2)=v0+2:=wrap64 (by omega); simp only[decide_eq_true_eq,length_map,e1,e0,e2] at h_0⊢; omega)
      have P1 {hs q} (r:PS F X hs q):=(PS.f h_0 (.f f1 (.f f2 (.f (mz_ d_i (getD_at c0_23_1 (toNat (wrap .i64 (v0 - 1))) 0 (by have e1:wrap .i64 (v0+1)=v0+1:=wrap64 (by omega); have e0:wrap .i64 (v0 - 1)=v0 - 1:=wrap64 (by omega); have e2:wrap .i64 (v0+2)=v0+2:=wrap64 (by omega); simp only[decide_eq_true_eq,length_map,e1,e0,e2] at h_0⊢; omega))) (.f f1 (.f f5 (.f (mz_ d_i (getD_at c0_23_1 (toNat v0) 0 (by have e1:wrap .i64 (v0+1)=v0+1:=wrap64 (by omega); have e0:wrap .i64 (v0 - 1)=v0 - 1:=wrap64 (by omega); have e2:wrap .i64 (v0+2)=v0+2:=wrap64 (by omega); simp only[decide_eq_true_eq,length_map,e1,e0,e2] at h_0⊢; omega))) (.h 8 (.b true) (.h 18 (.rowD [(.val (.int .i64 (getD c0_23_1 (toNat (wrap .i64 (v0 - 1))) 0)))]) (.h 26 (.rowD [(.val (.int .i64 (getD c0_23_1 (toNat v0) 0)))]) r))))))))))
      by_cases h_1:((getD c0_23_1 (toNat (wrap .i64 (v0 - 1))) 0)==(getD c0_23_1 (toNat v0) 0))=true
      · try simp only[if_pos h_1]
        have st:=ch b23_1 (h23_1 a0 c0_23_1 v0) ⟨[(2,(.one (.val (.bool true))))],[]⟩ .ret 32 (by kernel_rfl) (P1 (.f h_1 (.h 29 (.b true) .nil)))
        rw[show (⟨[(2,(.one (.val (.bool true))))],[]⟩:St)=fin23_1 a0 c0_23_1 (.k1) from(by rfl)] at st
        exact .loopX st (show (.ret:VX.Exit)≠.normal from by simp)
      · try simp only[if_neg h_1]
        have st:=ch b23_1 (h23_1 a0 c0_23_1 v0) ⟨[(3,(.one (.ref ⟨(3,0,0),[],0,(length (map d_i c0_23_1))⟩))),(4,(.oi (wrap .i64 (v0+2))))],[((3,0,0),.live ⟨1,(map d_i c0_23_1),[]⟩)]⟩ .normal 36 (by kernel_rfl) (P1 (.f (nt h_1) (.f trivial (.h 29 (.b false) .nil))))
        have ih:=t23_1 (a0:=a0) (c0_23_1:=c0_23_1) hy0 n (wrap .i64 (v0+2)) (by have e1:wrap .i64 (v0+1)=v0+1:=wrap64 (by omega); have e0:wrap .i64 (v0 - 1)=v0 - 1:=wrap64 (by omega); have e2:wrap .i64 (v0+2)=v0+2:=wrap64 (by omega); simp only[decide_eq_true_eq,length_map,e1,e0,e2] at h_0⊢; omega) (by have e1:wrap .i64 (v0+1)=v0+1:=wrap64 (by omega); have e0:wrap .i64 (v0 - 1)=v0 - 1:=wrap64 (by omega); have e2:wrap .i64 (v0+2)=v0+2:=wrap64 (by omega); simp only[decide_eq_true_eq,length_map,e1,e0,e2] at h_0⊢; omega) (by assumption) (by have e1:wrap .i64 (v0+1)=v0+1:=wrap64 (by omega); have e0:wrap .i64 (v0 - 1)=v0 - 1:=wrap64 (by omega); have e2:wrap .i64 (v0+2)=v0+2:=wrap64 (by omega); simp only[decide_eq_true_eq,length_map,e1,e0,e2] at h_0⊢; omega)
        rw[show (⟨[(3,(.one (.ref ⟨(3,0,0),[],0,(length (map d_i c0_23_1))⟩))),(4,(.oi (wrap .i64 (v0+2))))],[((3,0,0),.live ⟨1,(map d_i c0_23_1),[]⟩)]⟩:St)=h23_1 a0 c0_23_1 (wrap .i64 (v0+2)) from(by rfl)] at st
        exact .loopN st ih
    · try simp only[if_neg h_0]
      have st:=ch b23_1 (h23_1 a0 c0_23_1 v0) ⟨[(3,(.one (.ref ⟨(3,0,0),[],0,(length (map d_i c0_23_1))⟩))),(4,(.oi v0)),(17,(.one (.val (.bool (decide (v0 <((length (map d_i c0_23_1)):Int)))))))],[((3,0,0),.live ⟨1,(map d_i c0_23_1),[]⟩)]⟩ (.exit 2) 9 (by kernel_rfl) (.f (nt h_0) (.h 8 (.b false) .nil))
      rw[show (⟨[(3,(.one (.ref ⟨(3,0,0),[],0,(length (map d_i c0_23_1))⟩))),(4,(.oi v0)),(17,(.one (.val (.bool (decide (v0 <((length (map d_i c0_23_1)):Int)))))))],[((3,0,0),.live ⟨1,(map d_i c0_23_1),[]⟩)]⟩:St)=fin23_1 a0 c0_23_1 (.k0 v0 (decide (v0 <((length (map d_i c0_23_1)):Int)))) from(by rfl)] at st
      exact .loopX st (show ((.exit 2):VX.Exit)≠.normal from by simp)
/-! loop 23_0 -/
inductive O23_0 where
  |k0 (w0:List Int) (w1:Bool)
  |k1
def r23_0 :Nat→List Int→O23_0
  |n+1,v0=>
    if(decide (((length (map d_i v0)):Int) > 1))=true then(match r23_1 v0 (toNat ((length v0:Int) - 1)) 1 with | .k0 w0_1 w1_1=>(r23_0 n (m35 v0)) | .k1=>(O23_0.k1)) else
    (O23_0.k0 v0 (decide (((length (map d_i v0)):Int) > 1)))
  |0,v0=>(O23_0.k0 v0 (decide (((length (map d_i v0)):Int) > 1)))
def h23_0 (a0:(List Int)) (v0:List Int):St:=⟨[(3,(.one (.ref ⟨(3,0,0),[],0,(length (map d_i v0))⟩)))],[((3,0,0),.live ⟨1,(map d_i v0),[]⟩)]⟩
def ex23_0:O23_0→VX.Exit
  |.k0 _ _=>(.exit 0)
  |.k1=>.ret
def fin23_0 (a0:(List Int)):O23_0→St
  |.k0 w0 w1=>⟨[(3,(.one (.ref ⟨(3,0,0),[],0,(length (map d_i w0))⟩))),(11,(.one (.val (.bool w1))))],[((3,0,0),.live ⟨1,(map d_i w0),[]⟩)]⟩
  |.k1=>⟨[(2,(.one (.val (.bool true))))],[]⟩
theorem t23_0 {a0:(List Int)} (hy0:length a0≤1000):∀(n:Nat) (v0:List Int),length v0≤1000→length v0≤n→Ev F X (.code l23_0 (h23_0 a0 v0) (ex23_0 (r23_0 n v0)) (fin23_0 a0 (r23_0 n v0)))
  |0,v0,hi0,hn=>by
    have hc:¬(decide (((length (map d_i v0)):Int) > 1))=true:=by first |(simp only[decide_eq_true_eq,length_map]; omega) |(exact fuel64_zero hn) |(simp only[decide_eq_true_eq] at*; omega) |(simp at*; omega)
    have st:=ch b23_0 (h23_0 a0 v0) ⟨[(3,(.one (.ref ⟨(3,0,0),[],0,(length (map d_i v0))⟩))),(11,(.one (.val (.bool (decide (((length (map d_i v0)):Int) > 1))))))],[((3,0,0),.live ⟨1,(map d_i v0),[]⟩)]⟩ (.exit 0) 7 (by kernel_rfl) (.f (nt hc) (.h 6 (.b false) .nil))
    rw[show (⟨[(3,(.one (.ref ⟨(3,0,0),[],0,(length (map d_i v0))⟩))),(11,(.one (.val (.bool (decide (((length (map d_i v0)):Int) > 1))))))],[((3,0,0),.live ⟨1,(map d_i v0),[]⟩)]⟩:St)=fin23_0 a0 (.k0 v0 (decide (((length (map d_i v0)):Int) > 1))) from(by rfl)] at st
    exact .loopX st (show ((.exit 0):VX.Exit)≠.normal from by simp)
  |n+1,v0,hi0,hn=>by
    simp only[r23_0]
    by_cases h_0:(decide (((length (map d_i v0)):Int) > 1))=true
    · try simp only[if_pos h_0]
      cases h_1:r23_1 v0 (toNat ((length v0:Int) - 1)) 1 with
      |k0 w0_1 w1_1=>
        try dsimp only
        have f1:(⟨[(3,(.one (.ref ⟨(3,0,0),[],0,(length (map d_i v0))⟩))),(4,(.oi 1))],[((3,0,0),.live ⟨1,(map d_i v0),[]⟩)]⟩:St)=h23_1 a0 v0 1:=(by rfl)
        have st:=ch b23_0 (h23_0 a0 v0) ⟨[(3,(.one (.ref ⟨(3,0,0),[],0,(length (map d_i (m35 v0)))⟩)))],[((3,0,0),.live ⟨1,(map d_i (m35 v0)),[]⟩)]⟩ .normal 16 (by kernel_rfl) (.f h_0 (.f f1 (.f (ev_ (e:=ex23_1) (g:=(fin23_1 a0 v0)) h_1 (t23_1 (a0:=a0) (c0_23_1:=v0) (by omega) (toNat ((length v0:Int) - 1)) 1 (by omega) (by omega) (by omega) (Nat.le_refl _))) (ln_i v0 (.h 6 (.b true) (.h 9 (.loop (h23_1 a0 v0 1) (.exit 2) ⟨[(3,(.one (.ref ⟨(3,0,0),[],0,(length (map d_i v0))⟩))),(4,(.oi w0_1)),(17,(.one (.val (.bool w1_1))))],[((3,0,0),.live ⟨1,(map d_i v0),[]⟩)]⟩) (.r 13 [] [(map b_i v0)] (e35 (l0_0:=0) (a0:=v0) ‹_›) (pe 0 (pe (length (map d_i (m35 v0))) .nil)))))))))
        have ih:=t23_0 (a0:=a0) hy0 n (m35 v0) (by have q:=abl35 v0 (by omega); omega) (by have q:=abl35 v0 (by omega); simp only[decide_eq_true_eq,length_map] at h_0; omega)
        rw[show (⟨[(3,(.one (.ref ⟨(3,0,0),[],0,(length (map d_i (m35 v0)))⟩)))],[((3,0,0),.live ⟨1,(map d_i (m35 v0)),[]⟩)]⟩:St)=h23_0 a0 (m35 v0) from(by rfl)] at st
        exact .loopN st ih
      |k1=>
        try dsimp only
        have f1:(⟨[(3,(.one (.ref ⟨(3,0,0),[],0,(length (map d_i v0))⟩))),(4,(.oi 1))],[((3,0,0),.live ⟨1,(map d_i v0),[]⟩)]⟩:St)=h23_1 a0 v0 1:=(by rfl)
        have st:=ch b23_0 (h23_0 a0 v0) ⟨[(2,(.one (.val (.bool true))))],[]⟩ .ret 10 (by kernel_rfl) (.f h_0 (.f f1 (.f (ev_ (e:=ex23_1) (g:=(fin23_1 a0 v0)) h_1 (t23_1 (a0:=a0) (c0_23_1:=v0) (by omega) (toNat ((length v0:Int) - 1)) 1 (by omega) (by omega) (by omega) (Nat.le_refl _))) (.h 6 (.b true) (.h 9 (.loop (h23_1 a0 v0 1) .ret ⟨[(2,(.one (.val (.bool true))))],[]⟩) .nil)))))
        rw[show (⟨[(2,(.one (.val (.bool true))))],[]⟩:St)=fin23_0 a0 (.k1) from(by rfl)] at st
        exact .loopX st (show (.ret:VX.Exit)≠.normal from by simp)
    · try simp only[if_neg h_0]
      have st:=ch b23_0 (h23_0 a0 v0) ⟨[(3,(.one (.ref ⟨(3,0,0),[],0,(length (map d_i v0))⟩))),(11,(.one (.val (.bool (decide (((length (map d_i v0)):Int) > 1))))))],[((3,0,0),.live ⟨1,(map d_i v0),[]⟩)]⟩ (.exit 0) 7 (by kernel_rfl) (.f (nt h_0) (.h 6 (.b false) .nil))
      rw[show (⟨[(3,(.one (.ref ⟨(3,0,0),[],0,(length (map d_i v0))⟩))),(11,(.one (.val (.bool (decide (((length (map d_i v0)):Int) > 1))))))],[((3,0,0),.live ⟨1,(map d_i v0),[]⟩)]⟩:St)=fin23_0 a0 (.k0 v0 (decide (((length (map d_i v0)):Int) > 1))) from(by rfl)] at st
      exact .loopX st (show ((.exit 0):VX.Exit)≠.normal from by simp)
/-! loop.example/g00539/impl.HasTwin -/
def m23 (a0:(List Int)):Bool:=
  if((m34 a0) !=0)=true then false else
  (match r23_0 (length a0) a0 with | .k0 w0_2 w1_2=>false | .k1=>true)
theorem e23 {a0:(List Int)} (hy0:length a0≤1000):Ev F X (.call 23 [(.one (.ref ⟨(0,0,0),[],0,(length (map d_i a0))⟩))] [((0,0,0),⟨1,(map d_i a0),[]⟩)] [] [(.one (.val (.bool (m23 a0))))]):=by
  unfold m23
  have P0 {hs q} (r:PS F X hs q):=(ln_i a0 (.r 5 [] [(map b_i a0)] (e34 (l0_0:=0) (a0:=a0) (by omega)) r))
  by_cases h0:((m34 a0) !=0)=true
  · try simp only[if_pos h0]
    exact cq [] (by kernel_rfl) (P0 (.f h0 (.h 8 (.b true) .nil)))
  · try simp only[if_neg h0]
    have P1 {hs q} (r:PS F X hs q):=(P0 (.f (nt h0) (pe 0 (pe (length (map d_i a0)) (.h 8 (.b false) r)))))
    cases h1:r23_0 (length a0) a0 with
    |k0 w0_2 w1_2=>
      try dsimp only
      have f7:(⟨[(3,(.one (.ref ⟨(3,0,0),[],0,(length (map d_i a0))⟩)))],[((3,0,0),.live ⟨1,(map d_i a0),[]⟩)]⟩:St)=h23_0 a0 a0:=(by rfl)
      exact cq [] (by kernel_rfl) (P1 (.f f7 (.f (ev_ (e:=ex23_0) (g:=(fin23_0 a0)) h1 (t23_0 (a0:=a0) (by assumption) (length a0) a0 (by omega) (Nat.le_refl _))) (.h 13 (.loop (h23_0 a0 a0) (.exit 0) ⟨[(3,(.one (.ref ⟨(3,0,0),[],0,(length (map d_i w0_2))⟩))),(11,(.one (.val (.bool w1_2))))],[((3,0,0),.live ⟨1,(map d_i w0_2),[]⟩)]⟩) .nil))))
    |k1=>
      try dsimp only
      have f7:(⟨[(3,(.one (.ref ⟨(3,0,0),[],0,(length (map d_i a0))⟩)))],[((3,0,0),.live ⟨1,(map d_i a0),[]⟩)]⟩:St)=h23_0 a0 a0:=(by rfl)
      exact cq [] (by kernel_rfl) (P1 (.f f7 (.f (ev_ (e:=ex23_0) (g:=(fin23_0 a0)) h1 (t23_0 (a0:=a0) (by assumption) (length a0) a0 (by omega) (Nat.le_refl _))) (.h 13 (.loop (h23_0 a0 a0) .ret ⟨[(2,(.one (.val (.bool true))))],[]⟩) .nil))))
/-! loop.example/g00539/impl.putVar -/
def m69 (a0:Int):(List Int):=
  if(decide (a0 < 253))=true then[(wrap .u8 (a0))] else
  [253,(wrap .u8 (a0)),(wrap .u8 ((Int.fdiv a0 (2 ^(min (toNat 8) (IntKind.bits .i64))))))]
theorem e69 {a0:Int}:Ev F X (.call 69 [(.one (.val (.int .i64 a0)))] [] [] [(.one (.own 1 (map d_y (m69 a0))))]):=by
  unfold m69
  by_cases h0:(decide (a0 < 253))=true
  · try simp only[if_pos h0]
    have f3:pureR [[(.val (.int .u8 (wrap .u8 (a0))))]]=true:=(by simp only[List.drop_zero,tbr,tsi,ly_y,ly0_y,← List.map_append,List.take_length,List.cons_append,List.nil_append,append_assoc,toBR_y,fullR_y,pureR_y,copy_y,ints_y]; done)
    exact cp (by kernel_rfl) (.f h0 (pe 0 (pe 1 (.f f3 (.h 6 (.b true) .nil)))))
  · try simp only[if_neg h0]
    have f1:0≤(8:Int):=(by omega)
    have f4:pureR [[(.val (.int .u8 253))],[(.val (.int .u8 (wrap .u8 (a0))))],[(.val (.int .u8 (wrap .u8 ((Int.fdiv a0 (2 ^(min (toNat 8) (IntKind.bits .i64))))))))]]=true:=(by simp only[List.drop_zero,tbr,tsi,ly_y,ly0_y,← List.map_append,List.take_length,List.cons_append,List.nil_append,append_assoc,toBR_y,fullR_y,pureR_y,copy_y,ints_y]; done)
    exact cp (by kernel_rfl) (.f (nt h0) (.f f1 (pe 0 (pe 3 (.f f4 (.h 6 (.b false) .nil))))))
theorem pl69 (a:Int):length (m69 a)≤3:=by
  unfold m69; split<;>simp
/-! slices.Grow[[]byte,byte] -/
def m86 (a1:Int):(List Int):=
  []
theorem e86 {a1:Int} (hy0:0≤a1) (hy1:a1≤70368744177664):Ev F X (.call 86 [(.one (.nl 1)),(.one (.val (.int .i64 a1)))] [] [] [(.one (.own 1 (map d_y (m86 a1))))]):=by
  unfold m86
  by_cases h0:(decide (a1 < 0))=true
  · try simp only[if_pos h0]
    exfalso
    first |(simp_all; done) | omega |(simp only[decide_eq_true_eq,length_map] at*; omega)
  · try simp only[if_neg h0]
    by_cases h1:(decide ((wrap .i64 (a1 - 0)) > 0))=true
    · try simp only[if_pos h1]
      have f2:0≤(0:Int)∧(0:Int)≤(0:Int)∧(0:Int)≤0:=(by omega)
      have f3:1≤(wrap .i64 (a1 - 0))∧(wrap .i64 (a1 - 0))≤70368744177664∧(wrap .i64 (a1 - 0))*1≤70368744177664:=(by have e:wrap .i64 (a1 - 0)=a1:=(by rw[Int.sub_zero]; exact wrap64 (by omega)); rw[e] at h1⊢; simp only[decide_eq_true_eq,length_replicate] at*; omega)
      have f4:0+(toNat (wrap .i64 (a1 - 0)))≤(length ((List.replicate (toNat (wrap .i64 (a1 - 0))) [(.val (.int .u8 0))]):List (List D))):=(by have e:wrap .i64 (a1 - 0)=a1:=(by rw[Int.sub_zero]; exact wrap64 (by omega)); rw[e] at h1⊢; simp only[decide_eq_true_eq,length_replicate] at*; omega)
      have f5:(0:Int)≤0∧(0:Int)≤((toNat (wrap .i64 (a1 - 0))):Int):=(by omega)
      have f8:pureR []=true:=(by trivial)
      exact cp (by kernel_rfl) (.f (nt h0) (.f h1 (.f f2 (.f f3 (.f f4 (.f f5 (pe 0 (pe 0 (.f f8 (.h 6 (.b false) (.h 27 (.b true) .nil)))))))))))
    · try simp only[if_neg h1]
      have f2:pureR []=true:=(by trivial)
      exact cp (by kernel_rfl) (.f (nt h0) (.f (nt h1) (.f f2 (.h 6 (.b false) (.h 27 (.b false) .nil)))))
theorem grow_nil (a:Int):m86 a=[]:=rfl
/-! loop 70_0 -/
inductive O70_0 where
  |k0 (w0:Int) (w1:Int) (w2:Bool)
def r70_0 (a0:(List (List Int))):List (List Int)→Int→Int→O70_0
  |x0::y0,i,v1=>
    if(decide ((wrap .i64 (v1+((length (map b_y x0)):Int))) < 0))=true then(O70_0.k0 v1 i (decide (i <((length (map b_LyE a0)):Int)))) else
    (r70_0 a0 y0 (i+1) (wrap .i64 (v1+((length (map b_y x0)):Int))))
  |[],i,v1=>(O70_0.k0 v1 i (decide (i <((length (map b_LyE a0)):Int))))
def h70_0 (l0_0:Nat) (a0:(List (List Int))) (i:Int) (v1:Int):St:=⟨[(0,(.one (.bor l0_0 (map b_LyE a0)))),(3,(.one (.val (.int .i64 v1)))),(9,(.one (.bor l0_0 (map b_LyE a0)))),(10,(.one (.val (.int .i64 ((length (map b_LyE a0)):Int))))),(11,(.one (.val (.int .i64 i))))],[]⟩
def ex70_0:O70_0→VX.Exit
  |.k0 _ _ _=>(.exit 0)
def fin70_0 (l0_0:Nat) (a0:(List (List Int))):O70_0→St
  |.k0 w0 w1 w2=>⟨[(0,(.one (.bor l0_0 (map b_LyE a0)))),(3,(.one (.val (.int .i64 w0)))),(9,(.one (.bor l0_0 (map b_LyE a0)))),(10,(.one (.val (.int .i64 ((length (map b_LyE a0)):Int))))),(11,(.one (.val (.int .i64 w1)))),(12,(.one (.val (.bool w2))))],[]⟩
theorem t70_0 {l0_0:Nat} {a0:(List (List Int))} (hy0:length (List.flatten a0)≤70368744177664) (hy1:length a0≤1000000):∀(y0:List (List Int)) (p:List (List Int)) (v1:Int),p++y0=a0→0≤v1→v1+((length (List.flatten y0):Nat):Int)≤70368744177664→Ev F X (.code l70_0 (h70_0 l0_0 a0 (length p:Int) v1) (ex70_0 (r70_0 a0 y0 (length p:Int) v1)) (fin70_0 l0_0 a0 (r70_0 a0 y0 (length p:Int) v1)))
  |[],p,v1,hp0,hi0,hi1=>by
    have hc:¬(decide ((length p:Int) <((length (map b_LyE a0)):Int)))=true:=by
      rw[← hp0]; simp only[length_map,length_set,length_append,length_replicate,length_cons,length_nil,decide_eq_true_eq]; omega
    have hj0:=hi0; try simp only[length_map,length_set,length_append,length_replicate,length_cons,length_nil,Int.toNat_natCast] at hj0
    have hj1:=hi1; try simp only[length_map,length_set,length_append,length_replicate,length_cons,length_nil,Int.toNat_natCast] at hj1
    have st:=ch b70_0 (h70_0 l0_0 a0 (length p:Int) v1) ⟨[(0,(.one (.bor l0_0 (map b_LyE a0)))),(3,(.oi v1)),(9,(.one (.bor l0_0 (map b_LyE a0)))),(10,(.oi ((length (map b_LyE a0)):Int))),(11,(.oi (length p:Int))),(12,(.one (.val (.bool (decide ((length p:Int) <((length (map b_LyE a0)):Int)))))))],[]⟩ (.exit 0) 3 (by kernel_rfl) (.f (nt hc) (.h 2 (.b false) .nil))
    rw[show (⟨[(0,(.one (.bor l0_0 (map b_LyE a0)))),(3,(.oi v1)),(9,(.one (.bor l0_0 (map b_LyE a0)))),(10,(.oi ((length (map b_LyE a0)):Int))),(11,(.oi (length p:Int))),(12,(.one (.val (.bool (decide ((length p:Int) <((length (map b_LyE a0)):Int)))))))],[]⟩:St)=fin70_0 l0_0 a0 (.k0 v1 (length p:Int) (decide ((length p:Int) <((length (map b_LyE a0)):Int)))) from(by rfl)] at st
    exact .loopX st (show ((.exit 0):VX.Exit)≠.normal from by simp)
  |x0::y0,p,v1,hp0,hi0,hi1=>by
    have hc:(decide ((length p:Int) <((length (map b_LyE a0)):Int)))=true:=by
      rw[← hp0]; simp only[length_map,length_set,length_append,length_replicate,length_cons,length_nil,decide_eq_true_eq]; omega
    have Hx0:(a0)[toNat (length p:Int)]?=some x0:=by
      rw[← hp0,Int.toNat_natCast]; simp
    have hlen:length (a0)=length p+length y0+1:=by rw[← hp0]; simp; omega
    have hw:wrap .i64 ((length p:Int)+1)=(length p:Int)+1:=wrap64 (by omega)
    have hj0:=hi0; try simp only[length_map,length_set,length_append,length_replicate,length_cons,length_nil,Int.toNat_natCast] at hj0
    have hj1:=hi1; try simp only[length_map,length_set,length_append,length_replicate,length_cons,length_nil,Int.toNat_natCast] at hj1
    simp only[r70_0]
    have f1:0≤(length p:Int):=(by omega)
    by_cases h_1:(decide ((wrap .i64 (v1+((length (map b_y x0)):Int))) < 0))=true
    · try simp only[if_pos h_1]
      exfalso
      first |(simp only[List.flatten_cons,length_append,List.flatten_nil,length_nil,length_map,length_map,decide_eq_true_eq] at*; rw[wrap64 (by omega)] at*; omega) |(simp_all; done) | omega |(simp only[decide_eq_true_eq,length_map] at*; omega)
    · try simp only[if_neg h_1]
      have st:=ch b70_0 (h70_0 l0_0 a0 (length p:Int) v1) ⟨[(0,(.one (.bor l0_0 (map b_LyE a0)))),(3,(.oi (wrap .i64 (v1+((length (map b_y x0)):Int))))),(9,(.one (.bor l0_0 (map b_LyE a0)))),(10,(.oi ((length (map b_LyE a0)):Int))),(11,(.oi (wrap .i64 ((length p:Int)+1))))],[]⟩ .normal 28 (by kernel_rfl) (.f hc (.f f1 (.f (mp_ b_LyE Hx0) (.f trivial (.f (nt h_1) (.f trivial (.h 2 (.b true) (.h 4 (.row [(.sl (map b_y x0))]) (.h 23 (.b false) .nil)))))))))
      have ih:=t70_0 (l0_0:=l0_0) (a0:=a0) hy0 hy1 y0 (p++ [x0]) (wrap .i64 (v1+((length (map b_y x0)):Int))) (by rw[append_assoc]; exact hp0) (by simp only[List.flatten_cons,length_append,List.flatten_nil,length_nil,length_map] at*; rw[wrap64 (by omega)]; omega) (by simp only[List.flatten_cons,length_append,List.flatten_nil,length_nil,length_map] at*; rw[wrap64 (by omega)]; omega)
      rw[show ((p++ [x0]).length:Int)=(p.length:Int)+1 from by simp] at ih
      rw[show (⟨[(0,(.one (.bor l0_0 (map b_LyE a0)))),(3,(.oi (wrap .i64 (v1+((length (map b_y x0)):Int))))),(9,(.one (.bor l0_0 (map b_LyE a0)))),(10,(.oi ((length (map b_LyE a0)):Int))),(11,(.oi (wrap .i64 ((length p:Int)+1))))],[]⟩:St)=h70_0 l0_0 a0 ((length p:Int)+1) (wrap .i64 (v1+((length (map b_y x0)):Int))) from(by unfold h70_0; simp only[hw]; done)] at st
      exact .loopN st ih
theorem csum:∀(a:List (List Int)) (l:List (List Int)) (i v:Int),0≤v→v+((length (List.flatten l):Nat):Int)≤70368744177664→∃j b,r70_0 a l i v=.k0 (v+((length (List.flatten l):Nat):Int)) j b
  |a,[],i,v,_,_=>⟨_,_,by simp[r70_0]; exact⟨rfl,rfl⟩⟩
  |a,x::l,i,v,h0,h=>by
    simp only[List.flatten_cons,length_append] at h
    obtain⟨j,b,e⟩:=csum a l (i+1) (v+((length x:Nat):Int)) (by omega) (by omega)
    refine⟨j,b,?_⟩
    simp only[r70_0,length_map]
    rw[wrap64 (by omega),if_neg (by simp only[decide_eq_true_eq]; omega),e]
    simp only[List.flatten_cons,length_append]
    congr 1; omega
/-! loop 70_1 -/
inductive O70_1 where
  |k0 (w0:List Int) (w1:Int) (w2:Bool)
def r70_1 (a0:(List (List Int))):List (List Int)→Int→List Int→O70_1
  |x0::y0,i,v0=>
    (r70_1 a0 y0 (i+1) (v0++x0))
  |[],i,v0=>(O70_1.k0 v0 i (decide (i <((length (map b_LyE a0)):Int))))
def h70_1 (l0_0:Nat) (a0:(List (List Int))) (c0_70_1:Int) (i:Int) (v0:List Int):St:=⟨[(6,(.one (.ref ⟨(6,0,0),[],0,(length (map d_y v0))⟩))),(25,(.one (.bor l0_0 (map b_LyE a0)))),(26,(.one (.val (.int .i64 ((length (map b_LyE a0)):Int))))),(27,(.one (.val (.int .i64 i))))],[((6,0,0),.live ⟨1,(map d_y v0),[]⟩)]⟩
def ex70_1:O70_1→VX.Exit
  |.k0 _ _ _=>(.exit 2)
def fin70_1 (l0_0:Nat) (a0:(List (List Int))) (c0_70_1:Int):O70_1→St
  |.k0 w0 w1 w2=>⟨[(6,(.one (.ref ⟨(6,0,0),[],0,(length (map d_y w0))⟩))),(25,(.one (.bor l0_0 (map b_LyE a0)))),(26,(.one (.val (.int .i64 ((length (map b_LyE a0)):Int))))),(27,(.one (.val (.int .i64 w1)))),(28,(.one (.val (.bool w2))))],[((6,0,0),.live ⟨1,(map d_y w0),[]⟩)]⟩
theorem t70_1 {l0_0:Nat} {a0:(List (List Int))} {c0_70_1:Int} (hy0:length (List.flatten a0)≤70368744177664) (hy1:length a0≤1000000):∀(y0:List (List Int)) (p:List (List Int)) (v0:List Int),p++y0=a0→length v0+length (List.flatten y0)≤70368744177664→Ev F X (.code l70_1 (h70_1 l0_0 a0 c0_70_1 (length p:Int) v0) (ex70_1 (r70_1 a0 y0 (length p:Int) v0)) (fin70_1 l0_0 a0 c0_70_1 (r70_1 a0 y0 (length p:Int) v0)))
  |[],p,v0,hp0,hi0=>by
    have hc:¬(decide ((length p:Int) <((length (map b_LyE a0)):Int)))=true:=by
      rw[← hp0]; simp only[length_map,length_set,length_append,length_replicate,length_cons,length_nil,decide_eq_true_eq]; omega
    have hj0:=hi0; try simp only[length_map,length_set,length_append,length_replicate,length_cons,length_nil,Int.toNat_natCast] at hj0
    have st:=ch b70_1 (h70_1 l0_0 a0 c0_70_1 (length p:Int) v0) ⟨[(6,(.one (.ref ⟨(6,0,0),[],0,(length (map d_y v0))⟩))),(25,(.one (.bor l0_0 (map b_LyE a0)))),(26,(.oi ((length (map b_LyE a0)):Int))),(27,(.oi (length p:Int))),(28,(.one (.val (.bool (decide ((length p:Int) <((length (map b_LyE a0)):Int)))))))],[((6,0,0),.live ⟨1,(map d_y v0),[]⟩)]⟩ (.exit 2) 3 (by kernel_rfl) (.f (nt hc) (.h 2 (.b false) .nil))
    rw[show (⟨[(6,(.one (.ref ⟨(6,0,0),[],0,(length (map d_y v0))⟩))),(25,(.one (.bor l0_0 (map b_LyE a0)))),(26,(.oi ((length (map b_LyE a0)):Int))),(27,(.oi (length p:Int))),(28,(.one (.val (.bool (decide ((length p:Int) <((length (map b_LyE a0)):Int)))))))],[((6,0,0),.live ⟨1,(map d_y v0),[]⟩)]⟩:St)=fin70_1 l0_0 a0 c0_70_1 (.k0 v0 (length p:Int) (decide ((length p:Int) <((length (map b_LyE a0)):Int)))) from(by rfl)] at st
    exact .loopX st (show ((.exit 2):VX.Exit)≠.normal from by simp)
  |x0::y0,p,v0,hp0,hi0=>by
    have hc:(decide ((length p:Int) <((length (map b_LyE a0)):Int)))=true:=by
      rw[← hp0]; simp only[length_map,length_set,length_append,length_replicate,length_cons,length_nil,decide_eq_true_eq]; omega
    have Hx0:(a0)[toNat (length p:Int)]?=some x0:=by
      rw[← hp0,Int.toNat_natCast]; simp
    have hlen:length (a0)=length p+length y0+1:=by rw[← hp0]; simp; omega
    have hw:wrap .i64 ((length p:Int)+1)=(length p:Int)+1:=wrap64 (by omega)
    have hj0:=hi0; try simp only[length_map,length_set,length_append,length_replicate,length_cons,length_nil,Int.toNat_natCast] at hj0
    simp only[r70_1]
    have f1:0≤(length p:Int):=(by omega)
    have f3:0+(length (map d_y v0))≤(length (map d_y v0)):=(by omega)
    have f4:(length ((take (length (map d_y v0)) (drop 0 (map d_y v0)))++(fromBR l0_0 (map b_y x0))))*1≤70368744177664:=(by simp only[List.flatten_cons,length_append,List.flatten_nil,length_nil,length_map,length_take,length_drop,fromBR_y,grow_nil] at*; omega)
    have f5:∀r∈((fromBR l0_0 (map b_y x0)):List (List D)),r.length=1:=(by simp[*,four_len,high4,high2,b_y,d_y,byteRows_eq,ints_y]; done)
    have f6:((take (length (map d_y v0)) (drop 0 (map d_y v0)))++(fromBR l0_0 (map b_y x0)))=(map d_y (v0++x0)):=(by simp[byteRows_eq,ints_y,take_of_length_le,d_i,d_iiLiE,d_iLiE,d_iLiiLiEELiLiEE,d_iiiiiLiLiiLiEELiLiEEE,d_LiiiiiLiLiiLiEELiLiEEEE,d_b,d_iiiiLiLiiLiEELiLiEEE,d_LiE,d_LiLiiLiEELiLiEEE,d_LiiLiEE,d_LiLiEE,d_y,d_LyE,d_LLyEE,fromBR_i,fromBR_b,fromBR_y,four_len,high4,high2]; done)
    have st:=ch b70_1 (h70_1 l0_0 a0 c0_70_1 (length p:Int) v0) ⟨[(6,(.one (.ref ⟨(6,0,0),[],0,(length ((take (length (map d_y v0)) (drop 0 (map d_y v0)))++(fromBR l0_0 (map b_y x0))))⟩))),(25,(.one (.bor l0_0 (map b_LyE a0)))),(26,(.oi ((length (map b_LyE a0)):Int))),(27,(.oi (wrap .i64 ((length p:Int)+1))))],[((6,0,0),.live ⟨1,(map d_y (v0++x0)),[]⟩)]⟩ .normal 22 (by kernel_rfl) (.f hc (.f f1 (.f (mp_ b_LyE Hx0) (.f f3 (.f f4 (.f f5 (.f f6 (.f trivial (.h 2 (.b true) (.h 4 (.row [(.sl (map b_y x0))]) (.h 17 (.norm (6,0,0) (map d_y (v0++x0))) .nil)))))))))))
    have ih:=t70_1 (l0_0:=l0_0) (a0:=a0) (c0_70_1:=c0_70_1) hy0 hy1 y0 (p++ [x0]) (v0++x0) (by rw[append_assoc]; exact hp0) (by simp only[List.flatten_cons,length_append,List.flatten_nil,length_nil,length_map] at*; omega)
    rw[show ((p++ [x0]).length:Int)=(p.length:Int)+1 from by simp] at ih
    rw[show (⟨[(6,(.one (.ref ⟨(6,0,0),[],0,(length ((take (length (map d_y v0)) (drop 0 (map d_y v0)))++(fromBR l0_0 (map b_y x0))))⟩))),(25,(.one (.bor l0_0 (map b_LyE a0)))),(26,(.oi ((length (map b_LyE a0)):Int))),(27,(.oi (wrap .i64 ((length p:Int)+1))))],[((6,0,0),.live ⟨1,(map d_y (v0++x0)),[]⟩)]⟩:St)=h70_1 l0_0 a0 c0_70_1 ((length p:Int)+1) (v0++x0) from(by unfold h70_1; simp[hw,byteRows_eq,ints_y,take_of_length_le,d_i,d_iiLiE,d_iLiE,d_iLiiLiEELiLiEE,d_iiiiiLiLiiLiEELiLiEEE,d_LiiiiiLiLiiLiEELiLiEEEE,d_b,d_iiiiLiLiiLiEELiLiEEE,d_LiE,d_LiLiiLiEELiLiEEE,d_LiiLiEE,d_LiLiEE,d_y,d_LyE,d_LLyEE,fromBR_i,fromBR_b,fromBR_y,four_len,high4,high2]; done)] at st
    exact .loopN st ih
theorem ccat:∀(a:List (List Int)) (l:List (List Int)) (i:Int) (v:List Int),∃j b,r70_1 a l i v=.k0 (v++List.flatten l) j b
  |a,[],i,v=>⟨_,_,by simp[r70_1]; exact⟨rfl,rfl⟩⟩
  |a,x::l,i,v=>by
    obtain⟨j,b,e⟩:=ccat a l (i+1) (v++x)
    refine⟨j,b,?_⟩
    simp only[r70_1]
    rw[e,List.flatten_cons,append_assoc]
/-! slices.Concat[[]byte,byte] -/
def m70 (a0:(List (List Int))):(List Int):=
  (match r70_0 a0 a0 0 0 with | .k0 w0_0 w1_0 w2_0=>(match r70_1 a0 a0 0 (m86 w0_0) with | .k0 w0_2 w1_2 w2_2=>w0_2))
theorem e70 {l0_0:Nat} {a0:(List (List Int))} (hy0:length (List.flatten a0)≤70368744177664) (hy1:length a0≤1000000):Ev F X (.call 70 [(.one (.bor l0_0 (map b_LyE a0)))] [] [] [(.one (.own 1 (map d_y (m70 a0))))]):=by
  unfold m70
  cases h0:r70_0 a0 a0 0 0 with
  |k0 w0_0 w1_0 w2_0=>
    try dsimp only
    obtain⟨jh0,bh0,eh0⟩:=csum a0 a0 0 0 (by omega) (by omega); rw[h0] at eh0; injection eh0 with e0h0 e1h0 e2h0
    have f0:(⟨[(0,(.one (.bor l0_0 (map b_LyE a0)))),(3,(.oi 0)),(9,(.one (.bor l0_0 (map b_LyE a0)))),(10,(.oi ((length (map b_LyE a0)):Int))),(11,(.oi 0))],[]⟩:St)=h70_0 l0_0 a0 0 0:=(by rfl)
    have f2:Ev F X (.call 86 [(.one (.nl 1)),(.oi w0_0)] [] [] [(.one (.own 1 (map d_y (m86 w0_0))))]):=(e86 (a1:=w0_0) (by omega) (by omega))
    cases h1:r70_1 a0 a0 0 (m86 w0_0) with
    |k0 w0_2 w1_2 w2_2=>
      try dsimp only
      have f3:(⟨[(6,(.one (.ref ⟨(6,0,0),[],0,(length (map d_y (m86 w0_0)))⟩))),(25,(.one (.bor l0_0 (map b_LyE a0)))),(26,(.oi ((length (map b_LyE a0)):Int))),(27,(.oi 0))],[((6,0,0),.live ⟨1,(map d_y (m86 w0_0)),[]⟩)]⟩:St)=h70_1 l0_0 a0 w0_0 0 (m86 w0_0):=(by rfl)
      exact cp (by kernel_rfl) (.f f0 (.f (ev_ (e:=ex70_0) (g:=(fin70_0 l0_0 a0)) h0 (t70_0 (l0_0:=l0_0) (a0:=a0) (by assumption) (by assumption) a0 [] 0 rfl (by omega) (by omega))) (.h 10 (.loop (h70_0 l0_0 a0 0 0) (.exit 0) ⟨[(0,(.one (.bor l0_0 (map b_LyE a0)))),(3,(.one (.val (.int .i64 w0_0)))),(9,(.one (.bor l0_0 (map b_LyE a0)))),(10,(.one (.val (.int .i64 ((length (map b_LyE a0)):Int))))),(11,(.one (.val (.int .i64 w1_0)))),(12,(.one (.val (.bool w2_0))))],[]⟩) (.r 14 [] [] f2 (.f f3 (.f (ev_ (e:=ex70_1) (g:=(fin70_1 l0_0 a0 w0_0)) h1 (t70_1 (l0_0:=l0_0) (a0:=a0) (c0_70_1:=w0_0) (by assumption) (by assumption) a0 [] (m86 w0_0) rfl (by simp only[grow_nil,length_nil,Nat.zero_add]; omega))) (pe 0 (pe (length (map d_y w0_2)) (.f (pureR_y w0_2) (.h 23 (.loop (h70_1 l0_0 a0 w0_0 0 (m86 w0_0)) (.exit 2) ⟨[(6,(.one (.ref ⟨(6,0,0),[],0,(length (map d_y w0_2))⟩))),(25,(.one (.bor l0_0 (map b_LyE a0)))),(26,(.one (.val (.int .i64 ((length (map b_LyE a0)):Int))))),(27,(.one (.val (.int .i64 w1_2)))),(28,(.one (.val (.bool w2_2))))],[((6,0,0),.live ⟨1,(map d_y w0_2),[]⟩)]⟩) .nil))))))))))
theorem concat_is (a:List (List Int)) (h:length (List.flatten a)≤70368744177664):m70 a=List.flatten a:=by
  obtain⟨j,b,e⟩:=csum a a 0 0 (by omega) (by omega)
  obtain⟨j2,b2,e2⟩:=ccat a a 0 (m86 (0+((length (List.flatten a):Nat):Int)))
  unfold m70
  simp only[e,e2]
  rfl
theorem cat4 {a b c d:List Int} (h:a.length+b.length+c.length+d.length≤7000):m70 [a,b,c,d]=((a++b)++c)++d:=by
  rw[concat_is _ (by simp only[List.flatten_cons,List.flatten_nil,List.append_nil,length_append]; omega)]
  simp only[List.flatten_cons,List.flatten_nil,List.append_nil,append_assoc]
theorem cat3 {a b c:List Int} (h:a.length+b.length+c.length≤7000):m70 [a,b,c]=(a++b)++c:=by
  rw[concat_is _ (by simp only[List.flatten_cons,List.flatten_nil,List.append_nil,length_append]; omega)]
  simp only[List.flatten_cons,List.flatten_nil,List.append_nil,append_assoc]
/-! loop.example/g00539/impl.halves -/
def m71 (a0:Int):(List Int):=
  ((m69 (Int.tmod a0 65536))++(m69 (wrap .i64 (Int.tdiv a0 65536))))
theorem e71 {a0:Int}:Ev F X (.call 71 [(.one (.val (.int .i64 a0)))] [] [] [(.one (.own 1 (map d_y (m71 a0))))]):=by
  have f0:(65536:Int)≠0:=(by omega)
  have f4:0+(length (map d_y (m69 (Int.tmod a0 65536))))≤(length (map d_y (m69 (Int.tmod a0 65536)))):=(by omega)
  have f5:0+(length (map d_y (m69 (wrap .i64 (Int.tdiv a0 65536)))))≤(length (map d_y (m69 (wrap .i64 (Int.tdiv a0 65536))))):=(by omega)
  have f6:((take (length (map d_y (m69 (wrap .i64 (Int.tdiv a0 65536))))) (drop 0 (map d_y (m69 (wrap .i64 (Int.tdiv a0 65536)))))).all fun x=>x.all copyable)=true:=(ct_y _ _ _)
  have f7:(length ((take (length (map d_y (m69 (Int.tmod a0 65536)))) (drop 0 (map d_y (m69 (Int.tmod a0 65536)))))++(take (length (map d_y (m69 (wrap .i64 (Int.tdiv a0 65536))))) (drop 0 (map d_y (m69 (wrap .i64 (Int.tdiv a0 65536))))))))*1≤70368744177664:=(by unfold m69;(repeat' split)<;>simp_all<;>omega)
  have f8:∀r∈((take (length (map d_y (m69 (wrap .i64 (Int.tdiv a0 65536))))) (drop 0 (map d_y (m69 (wrap .i64 (Int.tdiv a0 65536)))))):List (List D)),r.length=1:=(by simp only[List.drop_zero,tbr,tsi,ly_y,ly0_y,← List.map_append,List.take_length,List.cons_append,List.nil_append,append_assoc]; exact lenD_y _)
  have f9:((take (length (map d_y (m69 (Int.tmod a0 65536)))) (drop 0 (map d_y (m69 (Int.tmod a0 65536)))))++(take (length (map d_y (m69 (wrap .i64 (Int.tdiv a0 65536))))) (drop 0 (map d_y (m69 (wrap .i64 (Int.tdiv a0 65536)))))))=(map d_y ((m69 (Int.tmod a0 65536))++(m69 (wrap .i64 (Int.tdiv a0 65536))))):=(by simp[byteRows_eq,ints_y,take_of_length_le,d_i,d_iiLiE,d_iLiE,d_iLiiLiEELiLiEE,d_iiiiiLiLiiLiEELiLiEEE,d_LiiiiiLiLiiLiEELiLiEEEE,d_b,d_iiiiLiLiiLiEELiLiEEE,d_LiE,d_LiLiiLiEELiLiEEE,d_LiiLiEE,d_LiLiEE,d_y,d_LyE,d_LLyEE,fromBR_i,fromBR_b,fromBR_y,four_len,high4,high2]; done)
  have f11:(length ((take (length (map d_y (m69 (Int.tmod a0 65536)))) (drop 0 (map d_y (m69 (Int.tmod a0 65536)))))++(take (length (map d_y (m69 (wrap .i64 (Int.tdiv a0 65536))))) (drop 0 (map d_y (m69 (wrap .i64 (Int.tdiv a0 65536))))))))=(length (map d_y ((m69 (Int.tmod a0 65536))++(m69 (wrap .i64 (Int.tdiv a0 65536)))))):=(by simp only[List.drop_zero,tbr,tsi,ly_y,ly0_y,← List.map_append,List.take_length,List.cons_append,List.nil_append,append_assoc,toBR_y,fullR_y,pureR_y,copy_y,ints_y]; done)
  exact cp (by kernel_rfl) (.f f0 (.r 7 [] [] (e69 (a0:=(Int.tmod a0 65536))) (.f f0 (.r 13 [] [] (e69 (a0:=(wrap .i64 (Int.tdiv a0 65536)))) (.f f4 (.f f5 (.f f6 (.f f7 (.f f8 (.f f9 (pe 0 (.f f11 (.f (pureR_y ((m69 (Int.tmod a0 65536))++(m69 (wrap .i64 (Int.tdiv a0 65536))))) (.h 15 (.b true) (.h 18 (.norm (2,0,0) (map d_y ((m69 (Int.tmod a0 65536))++(m69 (wrap .i64 (Int.tdiv a0 65536)))))) .nil)))))))))))))))
theorem pb71 (a:Int):length (m71 a)≤6:=by
  unfold m71; rw[length_append]
  exact Nat.add_le_add (pl69 _) (pl69 _)
/-! loop 72_0 -/
inductive O72_0 where
  |k0 (w0:List Int) (w1:Int) (w2:Bool)
def r72_0 (a0:(List Int)):List Int→Int→List Int→O72_0
  |x0::y0,i,v0=>
    (r72_0 a0 y0 (i+1) (v0++(m69 x0)))
  |[],i,v0=>(O72_0.k0 v0 i (decide (i <((length (map b_i a0)):Int))))
def h72_0 (l0_0:Nat) (a0:(List Int)) (i:Int) (v0:List Int):St:=⟨[(3,(.one (.ref ⟨(3,0,0),[],0,(length (map d_y v0))⟩))),(9,(.one (.bor l0_0 (map b_i a0)))),(10,(.one (.val (.int .i64 ((length (map b_i a0)):Int))))),(11,(.one (.val (.int .i64 i))))],[((3,0,0),.live ⟨1,(map d_y v0),[]⟩)]⟩
def ex72_0:O72_0→VX.Exit
  |.k0 _ _ _=>(.exit 0)
def fin72_0 (l0_0:Nat) (a0:(List Int)):O72_0→St
  |.k0 w0 w1 w2=>⟨[(3,(.one (.ref ⟨(3,0,0),[],0,(length (map d_y w0))⟩))),(9,(.one (.bor l0_0 (map b_i a0)))),(10,(.one (.val (.int .i64 ((length (map b_i a0)):Int))))),(11,(.one (.val (.int .i64 w1)))),(12,(.one (.val (.bool w2))))],[((3,0,0),.live ⟨1,(map d_y w0),[]⟩)]⟩
theorem t72_0 {l0_0:Nat} {a0:(List Int)} (hy0:length a0≤1000):∀(y0:List Int) (p:List Int) (v0:List Int),p++y0=a0→length v0+3*length y0≤3003→Ev F X (.code l72_0 (h72_0 l0_0 a0 (length p:Int) v0) (ex72_0 (r72_0 a0 y0 (length p:Int) v0)) (fin72_0 l0_0 a0 (r72_0 a0 y0 (length p:Int) v0)))
  |[],p,v0,hp0,hi0=>by
    have hc:¬(decide ((length p:Int) <((length (map b_i a0)):Int)))=true:=by
      rw[← hp0]; simp only[length_map,length_set,length_append,length_replicate,length_cons,length_nil,decide_eq_true_eq]; omega
    have hj0:=hi0; try simp only[length_map,length_set,length_append,length_replicate,length_cons,length_nil,Int.toNat_natCast] at hj0
    have st:=ch b72_0 (h72_0 l0_0 a0 (length p:Int) v0) ⟨[(3,(.one (.ref ⟨(3,0,0),[],0,(length (map d_y v0))⟩))),(9,(.one (.bor l0_0 (map b_i a0)))),(10,(.oi ((length (map b_i a0)):Int))),(11,(.oi (length p:Int))),(12,(.one (.val (.bool (decide ((length p:Int) <((length (map b_i a0)):Int)))))))],[((3,0,0),.live ⟨1,(map d_y v0),[]⟩)]⟩ (.exit 0) 3 (by kernel_rfl) (.f (nt hc) (.h 2 (.b false) .nil))
    rw[show (⟨[(3,(.one (.ref ⟨(3,0,0),[],0,(length (map d_y v0))⟩))),(9,(.one (.bor l0_0 (map b_i a0)))),(10,(.oi ((length (map b_i a0)):Int))),(11,(.oi (length p:Int))),(12,(.one (.val (.bool (decide ((length p:Int) <((length (map b_i a0)):Int)))))))],[((3,0,0),.live ⟨1,(map d_y v0),[]⟩)]⟩:St)=fin72_0 l0_0 a0 (.k0 v0 (length p:Int) (decide ((length p:Int) <((length (map b_i a0)):Int)))) from(by rfl)] at st
    exact .loopX st (show ((.exit 0):VX.Exit)≠.normal from by simp)
  |x0::y0,p,v0,hp0,hi0=>by
    have hc:(decide ((length p:Int) <((length (map b_i a0)):Int)))=true:=by
      rw[← hp0]; simp only[length_map,length_set,length_append,length_replicate,length_cons,length_nil,decide_eq_true_eq]; omega
    have Hx0:(a0)[toNat (length p:Int)]?=some x0:=by
      rw[← hp0,Int.toNat_natCast]; simp
    have hlen:length (a0)=length p+length y0+1:=by rw[← hp0]; simp; omega
    have hw:wrap .i64 ((length p:Int)+1)=(length p:Int)+1:=wrap64 (by omega)
    have hj0:=hi0; try simp only[length_map,length_set,length_append,length_replicate,length_cons,length_nil,Int.toNat_natCast] at hj0
    simp only[r72_0]
    have f1:0≤(length p:Int):=(by omega)
    have f4:0+(length (map d_y v0))≤(length (map d_y v0)):=(by omega)
    have f5:0+(length (map d_y (m69 x0)))≤(length (map d_y (m69 x0))):=(by omega)
    have f6:((take (length (map d_y (m69 x0))) (drop 0 (map d_y (m69 x0)))).all fun x=>x.all copyable)=true:=(ct_y _ _ _)
    have f7:(length ((take (length (map d_y v0)) (drop 0 (map d_y v0)))++(take (length (map d_y (m69 x0))) (drop 0 (map d_y (m69 x0))))))*1≤70368744177664:=(by have q0:=pl69 x0; simp only[length_map,length_append,length_take,length_drop,length_cons,length_nil,List.length_flatten,List.map_cons,List.map_nil,List.sum_cons,List.sum_nil] at*; omega)
    have f8:∀r∈((take (length (map d_y (m69 x0))) (drop 0 (map d_y (m69 x0)))):List (List D)),r.length=1:=(by simp only[List.drop_zero,tbr,tsi,ly_y,ly0_y,← List.map_append,List.take_length,List.cons_append,List.nil_append,append_assoc]; exact lenD_y _)
    have f9:((take (length (map d_y v0)) (drop 0 (map d_y v0)))++(take (length (map d_y (m69 x0))) (drop 0 (map d_y (m69 x0)))))=(map d_y (v0++(m69 x0))):=(by simp[byteRows_eq,ints_y,take_of_length_le,d_i,d_iiLiE,d_iLiE,d_iLiiLiEELiLiEE,d_iiiiiLiLiiLiEELiLiEEE,d_LiiiiiLiLiiLiEELiLiEEEE,d_b,d_iiiiLiLiiLiEELiLiEEE,d_LiE,d_LiLiiLiEELiLiEEE,d_LiiLiEE,d_LiLiEE,d_y,d_LyE,d_LLyEE,fromBR_i,fromBR_b,fromBR_y,four_len,high4,high2]; done)
    have st:=ch b72_0 (h72_0 l0_0 a0 (length p:Int) v0) ⟨[(3,(.one (.ref ⟨(3,0,0),[],0,(length ((take (length (map d_y v0)) (drop 0 (map d_y v0)))++(take (length (map d_y (m69 x0))) (drop 0 (map d_y (m69 x0))))))⟩))),(9,(.one (.bor l0_0 (map b_i a0)))),(10,(.oi ((length (map b_i a0)):Int))),(11,(.oi (wrap .i64 ((length p:Int)+1))))],[((3,0,0),.live ⟨1,(map d_y (v0++(m69 x0))),[]⟩)]⟩ .normal 24 (by kernel_rfl) (.f hc (.f f1 (.f (mp_ b_i Hx0) (.h 2 (.b true) (.h 4 (.row [(.i x0)]) (.r 14 [] [] (e69 (a0:=x0)) (.f f4 (.f f5 (.f f6 (.f f7 (.f f8 (.f f9 (.f trivial (.h 16 (.b true) (.h 19 (.norm (3,0,0) (map d_y (v0++(m69 x0)))) .nil)))))))))))))))
    have ih:=t72_0 (l0_0:=l0_0) (a0:=a0) hy0 y0 (p++ [x0]) (v0++(m69 x0)) (by rw[append_assoc]; exact hp0) (by have q0:=pl69 x0; simp only[length_map,length_append,length_take,length_drop,length_cons,length_nil,List.length_flatten,List.map_cons,List.map_nil,List.sum_cons,List.sum_nil] at*; omega)
    rw[show ((p++ [x0]).length:Int)=(p.length:Int)+1 from by simp] at ih
    rw[show (⟨[(3,(.one (.ref ⟨(3,0,0),[],0,(length ((take (length (map d_y v0)) (drop 0 (map d_y v0)))++(take (length (map d_y (m69 x0))) (drop 0 (map d_y (m69 x0))))))⟩))),(9,(.one (.bor l0_0 (map b_i a0)))),(10,(.oi ((length (map b_i a0)):Int))),(11,(.oi (wrap .i64 ((length p:Int)+1))))],[((3,0,0),.live ⟨1,(map d_y (v0++(m69 x0))),[]⟩)]⟩:St)=h72_0 l0_0 a0 ((length p:Int)+1) (v0++(m69 x0)) from(by unfold h72_0; simp[hw,byteRows_eq,ints_y,take_of_length_le,d_i,d_iiLiE,d_iLiE,d_iLiiLiEELiLiEE,d_iiiiiLiLiiLiEELiLiEEE,d_LiiiiiLiLiiLiEELiLiEEEE,d_b,d_iiiiLiLiiLiEELiLiEEE,d_LiE,d_LiLiiLiEELiLiEEE,d_LiiLiEE,d_LiLiEE,d_y,d_LyE,d_LLyEE,fromBR_i,fromBR_b,fromBR_y,four_len,high4,high2]; done)] at st
    exact .loopN st ih
theorem ll72 {a:List Int}:∀ {l:List Int} {i:Int} {v w:List Int} {j b},r72_0 a l i v=.k0 w j b→w.length≤v.length+3*l.length
  |[],i,v,w,j,b,h=>by simp only[r72_0] at h; injection h with h; subst h; simp
  |x::l,i,v,w,j,b,h=>by
    simp only[r72_0] at h
    have q:=ll72 h
    have q0:=pl69 x
    simp only[length_append,length_cons] at q⊢; omega
/-! loop.example/g00539/impl.numbers -/
def m72 (a0:(List Int)):(List Int):=
  (match r72_0 a0 a0 0 (m69 ((length (map b_i a0)):Int)) with | .k0 w0_1 w1_1 w2_1=>w0_1)
theorem e72 {l0_0:Nat} {a0:(List Int)} (hy0:length a0≤1000):Ev F X (.call 72 [(.one (.bor l0_0 (map b_i a0)))] [] [] [(.one (.own 1 (map d_y (m72 a0))))]):=by
  unfold m72
  cases h0:r72_0 a0 a0 0 (m69 ((length (map b_i a0)):Int)) with
  |k0 w0_1 w1_1 w2_1=>
    try dsimp only
    have f1:(⟨[(3,(.one (.ref ⟨(3,0,0),[],0,(length (map d_y (m69 ((length (map b_i a0)):Int))))⟩))),(9,(.one (.bor l0_0 (map b_i a0)))),(10,(.oi ((length (map b_i a0)):Int))),(11,(.oi 0))],[((3,0,0),.live ⟨1,(map d_y (m69 ((length (map b_i a0)):Int))),[]⟩)]⟩:St)=h72_0 l0_0 a0 0 (m69 ((length (map b_i a0)):Int)):=(by rfl)
    exact cp (by kernel_rfl) (.r 7 [] [] (e69 (a0:=((length (map b_i a0)):Int))) (.f f1 (.f (ev_ (e:=ex72_0) (g:=(fin72_0 l0_0 a0)) h0 (t72_0 (l0_0:=l0_0) (a0:=a0) (by assumption) a0 [] (m69 ((length (map b_i a0)):Int)) rfl (by have q:=pl69 ((length (map b_i a0)):Int); omega))) (pe 0 (pe (length (map d_y w0_1)) (.f (pureR_y w0_1) (.h 16 (.loop (h72_0 l0_0 a0 0 (m69 ((length (map b_i a0)):Int))) (.exit 0) ⟨[(3,(.one (.ref ⟨(3,0,0),[],0,(length (map d_y w0_1))⟩))),(9,(.one (.bor l0_0 (map b_i a0)))),(10,(.one (.val (.int .i64 ((length (map b_i a0)):Int))))),(11,(.one (.val (.int .i64 w1_1)))),(12,(.one (.val (.bool w2_1))))],[((3,0,0),.live ⟨1,(map d_y w0_1),[]⟩)]⟩) .nil)))))))
theorem pn72 (a:List Int):length (m72 a)≤3+3*a.length:=by
  unfold m72
  cases h:r72_0 a a 0 (m69 ((length (map b_i a)):Int)) with
  |k0 w j b=>
    have q:=ll72 h
    have q0:=pl69 ((length (map b_i a)):Int)
    show w.length≤_
    omega
/-! loop 55_0 -/
inductive O55_0 where
  |k0 (w0:List Int) (w1:Int) (w2:Bool)
def r55_0 (a0:K_iLiiLiEELiLiEE):List K_iiLiE→Int→List Int→O55_0
  |x0::y0,i,v0=>
    (r55_0 a0 y0 (i+1) (m70 [v0,(m71 x0.f0),(m69 x0.f1),(m72 x0.f2)]))
  |[],i,v0=>(O55_0.k0 v0 i (decide (i <((length (map b_iiLiE a0.f1)):Int))))
def h55_0 (l0_1:Nat) (l0_2:Nat) (a0:K_iLiiLiEELiLiEE) (i:Int) (v0:List Int):St:=⟨[(1,(.ptr ⟨(1,0,0),[],0,0,3⟩)),(3,(.one (.ref ⟨(3,0,0),[],0,(length (map d_y v0))⟩))),(17,(.one (.bor l0_1 (map b_iiLiE a0.f1)))),(18,(.one (.val (.int .i64 ((length (map b_iiLiE a0.f1)):Int))))),(19,(.one (.val (.int .i64 i))))],[((1,0,0),.live ⟨3,[[(.val (.int .i64 a0.f0)),(.bor l0_1 (map b_iiLiE a0.f1)),(.bor l0_2 (map b_iLiE a0.f2))]],[]⟩),((3,0,0),.live ⟨1,(map d_y v0),[]⟩)]⟩
def ex55_0:O55_0→VX.Exit
  |.k0 _ _ _=>(.exit 0)
def fin55_0 (l0_1:Nat) (l0_2:Nat) (a0:K_iLiiLiEELiLiEE):O55_0→St
  |.k0 w0 w1 w2=>⟨[(1,(.ptr ⟨(1,0,0),[],0,0,3⟩)),(3,(.one (.ref ⟨(3,0,0),[],0,(length (map d_y w0))⟩))),(17,(.one (.bor l0_1 (map b_iiLiE a0.f1)))),(18,(.one (.val (.int .i64 ((length (map b_iiLiE a0.f1)):Int))))),(19,(.one (.val (.int .i64 w1)))),(20,(.one (.val (.bool w2))))],[((1,0,0),.live ⟨3,[[(.val (.int .i64 a0.f0)),(.bor l0_1 (map b_iiLiE a0.f1)),(.bor l0_2 (map b_iLiE a0.f2))]],[]⟩),((3,0,0),.live ⟨1,(map d_y w0),[]⟩)]⟩
theorem t55_0 {l0_1:Nat} {l0_2:Nat} {a0:K_iLiiLiEELiLiEE} (hy0:length a0.f1*40≤140737488351232) (hy1:∀z∈a0.f1,ok_iiLiE z) (hy2:length a0.f2*32≤140737488351232) (hy3:∀z∈a0.f2,ok_iLiE z) (hy4:length a0.f1≤4) (hy5:∀z∈a0.f1,length z.f2≤8) (hy6:length a0.f2≤4) (hy7:∀z∈a0.f2,length z.f1≤12):∀(y0:List K_iiLiE) (p:List K_iiLiE) (v0:List Int),p++y0=a0.f1→length v0+60*length y0≤260→Ev F X (.code l55_0 (h55_0 l0_1 l0_2 a0 (length p:Int) v0) (ex55_0 (r55_0 a0 y0 (length p:Int) v0)) (fin55_0 l0_1 l0_2 a0 (r55_0 a0 y0 (length p:Int) v0)))
  |[],p,v0,hp0,hi0=>by
    have hc:¬(decide ((length p:Int) <((length (map b_iiLiE a0.f1)):Int)))=true:=by
      rw[← hp0]; simp only[length_map,length_set,length_append,length_replicate,length_cons,length_nil,decide_eq_true_eq]; omega
    have hj0:=hi0; try simp only[length_map,length_set,length_append,length_replicate,length_cons,length_nil,Int.toNat_natCast] at hj0
    have st:=ch b55_0 (h55_0 l0_1 l0_2 a0 (length p:Int) v0) ⟨[(1,(.ptr ⟨(1,0,0),[],0,0,3⟩)),(3,(.one (.ref ⟨(3,0,0),[],0,(length (map d_y v0))⟩))),(17,(.one (.bor l0_1 (map b_iiLiE a0.f1)))),(18,(.oi ((length (map b_iiLiE a0.f1)):Int))),(19,(.oi (length p:Int))),(20,(.one (.val (.bool (decide ((length p:Int) <((length (map b_iiLiE a0.f1)):Int)))))))],[((1,0,0),.live ⟨3,[[(.i a0.f0),(.bor l0_1 (map b_iiLiE a0.f1)),(.bor l0_2 (map b_iLiE a0.f2))]],[]⟩),((3,0,0),.live ⟨1,(map d_y v0),[]⟩)]⟩ (.exit 0) 3 (by kernel_rfl) (.f (nt hc) (.h 2 (.b false) .nil))
    rw[show (⟨[(1,(.ptr ⟨(1,0,0),[],0,0,3⟩)),(3,(.one (.ref ⟨(3,0,0),[],0,(length (map d_y v0))⟩))),(17,(.one (.bor l0_1 (map b_iiLiE a0.f1)))),(18,(.oi ((length (map b_iiLiE a0.f1)):Int))),(19,(.oi (length p:Int))),(20,(.one (.val (.bool (decide ((length p:Int) <((length (map b_iiLiE a0.f1)):Int)))))))],[((1,0,0),.live ⟨3,[[(.i a0.f0),(.bor l0_1 (map b_iiLiE a0.f1)),(.bor l0_2 (map b_iLiE a0.f2))]],[]⟩),((3,0,0),.live ⟨1,(map d_y v0),[]⟩)]⟩:St)=fin55_0 l0_1 l0_2 a0 (.k0 v0 (length p:Int) (decide ((length p:Int) <((length (map b_iiLiE a0.f1)):Int)))) from(by rfl)] at st
    exact .loopX st (show ((.exit 0):VX.Exit)≠.normal from by simp)
  |x0::y0,p,v0,hp0,hi0=>by
    have hc:(decide ((length p:Int) <((length (map b_iiLiE a0.f1)):Int)))=true:=by
      rw[← hp0]; simp only[length_map,length_set,length_append,length_replicate,length_cons,length_nil,decide_eq_true_eq]; omega
    have Hx0:(a0.f1)[toNat (length p:Int)]?=some x0:=by
      rw[← hp0,Int.toNat_natCast]; simp
    have Nx0_5:=hy5 x0 (List.mem_of_getElem? Hx0)
    have Mx0_0:=hy1 x0 (List.mem_of_getElem? Hx0)
    have hlen:length (a0.f1)=length p+length y0+1:=by rw[← hp0]; simp; omega
    have hw:wrap .i64 ((length p:Int)+1)=(length p:Int)+1:=wrap64 (by omega)
    have hj0:=hi0; try simp only[length_map,length_set,length_append,length_replicate,length_cons,length_nil,Int.toNat_natCast] at hj0
    simp only[r55_0]
    have f1:0≤(length p:Int):=(by omega)
    have f14:4≤4:=(by omega)
    have f15:fullR (take 4 (drop 0 [[(.own 1 (map d_y v0))],[(.own 1 (map d_y (m71 x0.f0)))],[(.own 1 (map d_y (m69 x0.f1)))],[(.own 1 (map d_y (m72 x0.f2)))]]))=true:=(by simp[fullR,fullL,full,pureR,pureL,V.pure,byteRows_eq,four_len,high4,high2]; done)
    have f16:toBR (take 4 (drop 0 [[(.own 1 (map d_y v0))],[(.own 1 (map d_y (m71 x0.f0)))],[(.own 1 (map d_y (m69 x0.f1)))],[(.own 1 (map d_y (m72 x0.f2)))]]))=[[(.sl (toBR (map d_y v0)))],[(.sl (toBR (map d_y (m71 x0.f0))))],[(.sl (toBR (map d_y (m69 x0.f1))))],[(.sl (toBR (map d_y (m72 x0.f2))))]]:=(by simp[toBR,toBL,toB,tsi,byteRows_eq,b_i,b_iiLiE,b_iLiE,b_iLiiLiEELiLiEE,b_iiiiiLiLiiLiEELiLiEEE,b_LiiiiiLiLiiLiEELiLiEEEE,b_b,b_iiiiLiLiiLiEELiLiEEE,b_LiE,b_LiLiiLiEELiLiEEE,b_LiiLiEE,b_LiLiEE,b_y,b_LyE,b_LLyEE,four_len,high4,high2]; done)
    have f17:Ev F X (.call 70 [(.one (.bor 0 [[(.sl (toBR (map d_y v0)))],[(.sl (toBR (map d_y (m71 x0.f0))))],[(.sl (toBR (map d_y (m69 x0.f1))))],[(.sl (toBR (map d_y (m72 x0.f2))))]]))] [] [] [(.one (.own 1 (map d_y (m70 [v0,(m71 x0.f0),(m69 x0.f1),(m72 x0.f2)]))))]):=(by rw[show (toBR (map d_y v0))=(map b_y v0) from by first | rfl |(simp[map_take,map_drop,four_len,high4,high2]; done) |(simp[byteRows_eq,map_take,map_drop,four_len,high4,high2]; done) |(simp[*,map_take,map_drop,four_len,high4,high2]; done) |(rw[take_of_length_le (by simp only[length_drop,length_take,length_map,Int.toNat_natCast]; omega)]; simp only[← map_drop,← map_take]),show (toBR (map d_y (m71 x0.f0)))=(map b_y (m71 x0.f0)) from by first | rfl |(simp[map_take,map_drop,four_len,high4,high2]; done) |(simp[byteRows_eq,map_take,map_drop,four_len,high4,high2]; done) |(simp[*,map_take,map_drop,four_len,high4,high2]; done) |(rw[take_of_length_le (by simp only[length_drop,length_take,length_map,Int.toNat_natCast]; omega)]; simp only[← map_drop,← map_take]),show (toBR (map d_y (m69 x0.f1)))=(map b_y (m69 x0.f1)) from by first | rfl |(simp[map_take,map_drop,four_len,high4,high2]; done) |(simp[byteRows_eq,map_take,map_drop,four_len,high4,high2]; done) |(simp[*,map_take,map_drop,four_len,high4,high2]; done) |(rw[take_of_length_le (by simp only[length_drop,length_take,length_map,Int.toNat_natCast]; omega)]; simp only[← map_drop,← map_take]),show (toBR (map d_y (m72 x0.f2)))=(map b_y (m72 x0.f2)) from by first | rfl |(simp[map_take,map_drop,four_len,high4,high2]; done) |(simp[byteRows_eq,map_take,map_drop,four_len,high4,high2]; done) |(simp[*,map_take,map_drop,four_len,high4,high2]; done) |(rw[take_of_length_le (by simp only[length_drop,length_take,length_map,Int.toNat_natCast]; omega)]; simp only[← map_drop,← map_take])]; exact(e70 (l0_0:=0) (a0:=[v0,(m71 x0.f0),(m69 x0.f1),(m72 x0.f2)]) (by have q0:=hy5 x0 (List.mem_of_getElem? Hx0); have q1:=pl69 x0.f1; have q2:=pb71 x0.f0; have q3:=pn72 x0.f2; simp only[length_map,length_append,length_take,length_drop,length_cons,length_nil,List.length_flatten,List.map_cons,List.map_nil,List.sum_cons,List.sum_nil] at*; omega) (by have q0:=hy5 x0 (List.mem_of_getElem? Hx0); have q1:=pl69 x0.f1; have q2:=pb71 x0.f0; have q3:=pn72 x0.f2; simp only[length_map,length_append,length_take,length_drop,length_cons,length_nil,List.length_flatten,List.map_cons,List.map_nil,List.sum_cons,List.sum_nil] at*; omega)))
    have st:=ch b55_0 (h55_0 l0_1 l0_2 a0 (length p:Int) v0) ⟨[(1,(.ptr ⟨(1,0,0),[],0,0,3⟩)),(3,(.one (.ref ⟨(3,0,0),[],0,(length (map d_y (m70 [v0,(m71 x0.f0),(m69 x0.f1),(m72 x0.f2)])))⟩))),(17,(.one (.bor l0_1 (map b_iiLiE a0.f1)))),(18,(.oi ((length (map b_iiLiE a0.f1)):Int))),(19,(.oi (wrap .i64 ((length p:Int)+1))))],[((1,0,0),.live ⟨3,[[(.i a0.f0),(.bor l0_1 (map b_iiLiE a0.f1)),(.bor l0_2 (map b_iLiE a0.f2))]],[]⟩),((3,0,0),.live ⟨1,(map d_y (m70 [v0,(m71 x0.f0),(m69 x0.f1),(m72 x0.f2)])),[]⟩)]⟩ .normal 41 (by kernel_rfl) (.f hc (.f f1 (.f (mp_ b_iiLiE Hx0) (.h 2 (.b true) (.h 4 (.row (b_iiLiE x0)) (.r 18 [] [] (e71 (a0:=x0.f0)) (.r 24 [] [] (e69 (a0:=x0.f1)) (.r 30 [] [] (e72 (l0_0:=(l0_1+1)) (a0:=x0.f2) (by omega)) (pe 0 (pe (length (map d_y v0)) (pe 0 (pe (length (map d_y (m71 x0.f0))) (pe 0 (pe (length (map d_y (m69 x0.f1))) (pe 0 (pe (length (map d_y (m72 x0.f2))) (.f f14 (.f f15 (.f f16 (.r 34 [] [[[(.sl (toBR (map d_y v0)))],[(.sl (toBR (map d_y (m71 x0.f0))))],[(.sl (toBR (map d_y (m69 x0.f1))))],[(.sl (toBR (map d_y (m72 x0.f2))))]]] f17 (.f trivial .nil)))))))))))))))))))))
    have ih:=t55_0 (l0_1:=l0_1) (l0_2:=l0_2) (a0:=a0) hy0 hy1 hy2 hy3 hy4 hy5 hy6 hy7 y0 (p++ [x0]) (m70 [v0,(m71 x0.f0),(m69 x0.f1),(m72 x0.f2)]) (by rw[append_assoc]; exact hp0) (by have q0:=hy5 x0 (List.mem_of_getElem? Hx0); have q1:=pl69 x0.f1; have q2:=pb71 x0.f0; have q3:=pn72 x0.f2; rw[cat4 (by simp only[length_cons] at*; omega)]; simp only[length_map,length_append,length_take,length_drop,length_cons,length_nil,List.length_flatten,List.map_cons,List.map_nil,List.sum_cons,List.sum_nil] at*; omega)
    rw[show ((p++ [x0]).length:Int)=(p.length:Int)+1 from by simp] at ih
    rw[show (⟨[(1,(.ptr ⟨(1,0,0),[],0,0,3⟩)),(3,(.one (.ref ⟨(3,0,0),[],0,(length (map d_y (m70 [v0,(m71 x0.f0),(m69 x0.f1),(m72 x0.f2)])))⟩))),(17,(.one (.bor l0_1 (map b_iiLiE a0.f1)))),(18,(.oi ((length (map b_iiLiE a0.f1)):Int))),(19,(.oi (wrap .i64 ((length p:Int)+1))))],[((1,0,0),.live ⟨3,[[(.i a0.f0),(.bor l0_1 (map b_iiLiE a0.f1)),(.bor l0_2 (map b_iLiE a0.f2))]],[]⟩),((3,0,0),.live ⟨1,(map d_y (m70 [v0,(m71 x0.f0),(m69 x0.f1),(m72 x0.f2)])),[]⟩)]⟩:St)=h55_0 l0_1 l0_2 a0 ((length p:Int)+1) (m70 [v0,(m71 x0.f0),(m69 x0.f1),(m72 x0.f2)]) from(by unfold h55_0; simp only[hw]; done)] at st
    exact .loopN st ih
theorem lk55_0 {a:K_iLiiLiEELiLiEE}:∀ {l:List K_iiLiE} {i:Int} {v w:List Int} {j b},(∀z∈l,length z.f2≤8)→r55_0 a l i v=.k0 w j b→v.length+60*l.length≤260→w.length≤v.length+60*l.length
  |[],i,v,w,j,b,_,h,_=>by simp only[r55_0] at h; injection h with h; subst h; simp
  |x::l,i,v,w,j,b,z,h,hv=>by
    simp only[r55_0] at h
    have q0:=z x (List.mem_cons_self ..)
    have z1:=fun u hu=>z u (List.mem_cons_of_mem _ hu)
    have q1:=pl69 x.f1
    have q2:=pb71 x.f0
    have q3:=pn72 x.f2
    simp only[length_cons] at hv⊢
    rw[cat4 (by omega)] at h
    have q:=lk55_0 z1 h (by simp only[length_append]; omega)
    simp only[length_append] at q; omega
/-! loop 55_1 -/
inductive O55_1 where
  |k0 (w0:List Int) (w1:Int) (w2:Bool)
def r55_1 (a0:K_iLiiLiEELiLiEE):List K_iLiE→Int→List Int→O55_1
  |x0::y0,i,v0=>
    (r55_1 a0 y0 (i+1) (m70 [v0,(m71 x0.f0),(m72 x0.f1)]))
  |[],i,v0=>(O55_1.k0 v0 i (decide (i <((length (map b_iLiE a0.f2)):Int))))
def h55_1 (l0_1:Nat) (l0_2:Nat) (a0:K_iLiiLiEELiLiEE) (c0_55_1:List Int) (i:Int) (v0:List Int):St:=⟨[(1,(.ptr ⟨(1,0,0),[],0,0,3⟩)),(3,(.one (.ref ⟨(3,0,0),[],0,(length (map d_y v0))⟩))),(43,(.one (.bor l0_2 (map b_iLiE a0.f2)))),(44,(.one (.val (.int .i64 ((length (map b_iLiE a0.f2)):Int))))),(45,(.one (.val (.int .i64 i))))],[((1,0,0),.live ⟨3,[[(.val (.int .i64 a0.f0)),(.bor l0_1 (map b_iiLiE a0.f1)),(.bor l0_2 (map b_iLiE a0.f2))]],[]⟩),((3,0,0),.live ⟨1,(map d_y v0),[]⟩)]⟩
def ex55_1:O55_1→VX.Exit
  |.k0 _ _ _=>(.exit 2)
def fin55_1 (l0_1:Nat) (l0_2:Nat) (a0:K_iLiiLiEELiLiEE) (c0_55_1:List Int):O55_1→St
  |.k0 w0 w1 w2=>⟨[(1,(.ptr ⟨(1,0,0),[],0,0,3⟩)),(3,(.one (.ref ⟨(3,0,0),[],0,(length (map d_y w0))⟩))),(43,(.one (.bor l0_2 (map b_iLiE a0.f2)))),(44,(.one (.val (.int .i64 ((length (map b_iLiE a0.f2)):Int))))),(45,(.one (.val (.int .i64 w1)))),(46,(.one (.val (.bool w2))))],[((1,0,0),.live ⟨3,[[(.val (.int .i64 a0.f0)),(.bor l0_1 (map b_iiLiE a0.f1)),(.bor l0_2 (map b_iLiE a0.f2))]],[]⟩),((3,0,0),.live ⟨1,(map d_y w0),[]⟩)]⟩
theorem t55_1 {l0_1:Nat} {l0_2:Nat} {a0:K_iLiiLiEELiLiEE} {c0_55_1:List Int} (hy0:length a0.f1*40≤140737488351232) (hy1:∀z∈a0.f1,ok_iiLiE z) (hy2:length a0.f2*32≤140737488351232) (hy3:∀z∈a0.f2,ok_iLiE z) (hy4:length a0.f1≤4) (hy5:∀z∈a0.f1,length z.f2≤8) (hy6:length a0.f2≤4) (hy7:∀z∈a0.f2,length z.f1≤12) (hy8:length c0_55_1≤140737488351232):∀(y0:List K_iLiE) (p:List K_iLiE) (v0:List Int),p++y0=a0.f2→length v0+60*length y0≤520→Ev F X (.code l55_1 (h55_1 l0_1 l0_2 a0 c0_55_1 (length p:Int) v0) (ex55_1 (r55_1 a0 y0 (length p:Int) v0)) (fin55_1 l0_1 l0_2 a0 c0_55_1 (r55_1 a0 y0 (length p:Int) v0)))
  |[],p,v0,hp0,hi0=>by
    have hc:¬(decide ((length p:Int) <((length (map b_iLiE a0.f2)):Int)))=true:=by
      rw[← hp0]; simp only[length_map,length_set,length_append,length_replicate,length_cons,length_nil,decide_eq_true_eq]; omega
    have hj0:=hi0; try simp only[length_map,length_set,length_append,length_replicate,length_cons,length_nil,Int.toNat_natCast] at hj0
    have st:=ch b55_1 (h55_1 l0_1 l0_2 a0 c0_55_1 (length p:Int) v0) ⟨[(1,(.ptr ⟨(1,0,0),[],0,0,3⟩)),(3,(.one (.ref ⟨(3,0,0),[],0,(length (map d_y v0))⟩))),(43,(.one (.bor l0_2 (map b_iLiE a0.f2)))),(44,(.oi ((length (map b_iLiE a0.f2)):Int))),(45,(.oi (length p:Int))),(46,(.one (.val (.bool (decide ((length p:Int) <((length (map b_iLiE a0.f2)):Int)))))))],[((1,0,0),.live ⟨3,[[(.i a0.f0),(.bor l0_1 (map b_iiLiE a0.f1)),(.bor l0_2 (map b_iLiE a0.f2))]],[]⟩),((3,0,0),.live ⟨1,(map d_y v0),[]⟩)]⟩ (.exit 2) 3 (by kernel_rfl) (.f (nt hc) (.h 2 (.b false) .nil))
    rw[show (⟨[(1,(.ptr ⟨(1,0,0),[],0,0,3⟩)),(3,(.one (.ref ⟨(3,0,0),[],0,(length (map d_y v0))⟩))),(43,(.one (.bor l0_2 (map b_iLiE a0.f2)))),(44,(.oi ((length (map b_iLiE a0.f2)):Int))),(45,(.oi (length p:Int))),(46,(.one (.val (.bool (decide ((length p:Int) <((length (map b_iLiE a0.f2)):Int)))))))],[((1,0,0),.live ⟨3,[[(.i a0.f0),(.bor l0_1 (map b_iiLiE a0.f1)),(.bor l0_2 (map b_iLiE a0.f2))]],[]⟩),((3,0,0),.live ⟨1,(map d_y v0),[]⟩)]⟩:St)=fin55_1 l0_1 l0_2 a0 c0_55_1 (.k0 v0 (length p:Int) (decide ((length p:Int) <((length (map b_iLiE a0.f2)):Int)))) from(by rfl)] at st
    exact .loopX st (show ((.exit 2):VX.Exit)≠.normal from by simp)
  |x0::y0,p,v0,hp0,hi0=>by
    have hc:(decide ((length p:Int) <((length (map b_iLiE a0.f2)):Int)))=true:=by
      rw[← hp0]; simp only[length_map,length_set,length_append,length_replicate,length_cons,length_nil,decide_eq_true_eq]; omega
    have Hx0:(a0.f2)[toNat (length p:Int)]?=some x0:=by
      rw[← hp0,Int.toNat_natCast]; simp
    have Nx0_7:=hy7 x0 (List.mem_of_getElem? Hx0)
    have Mx0_0:=hy3 x0 (List.mem_of_getElem? Hx0)
    have hlen:length (a0.f2)=length p+length y0+1:=by rw[← hp0]; simp; omega
    have hw:wrap .i64 ((length p:Int)+1)=(length p:Int)+1:=wrap64 (by omega)
    have hj0:=hi0; try simp only[length_map,length_set,length_append,length_replicate,length_cons,length_nil,Int.toNat_natCast] at hj0
    simp only[r55_1]
    have f1:0≤(length p:Int):=(by omega)
    have f11:3≤3:=(by omega)
    have f12:fullR (take 3 (drop 0 [[(.own 1 (map d_y v0))],[(.own 1 (map d_y (m71 x0.f0)))],[(.own 1 (map d_y (m72 x0.f1)))]]))=true:=(by simp[fullR,fullL,full,pureR,pureL,V.pure,byteRows_eq,four_len,high4,high2]; done)
    have f13:toBR (take 3 (drop 0 [[(.own 1 (map d_y v0))],[(.own 1 (map d_y (m71 x0.f0)))],[(.own 1 (map d_y (m72 x0.f1)))]]))=[[(.sl (toBR (map d_y v0)))],[(.sl (toBR (map d_y (m71 x0.f0))))],[(.sl (toBR (map d_y (m72 x0.f1))))]]:=(by simp[toBR,toBL,toB,tsi,byteRows_eq,b_i,b_iiLiE,b_iLiE,b_iLiiLiEELiLiEE,b_iiiiiLiLiiLiEELiLiEEE,b_LiiiiiLiLiiLiEELiLiEEEE,b_b,b_iiiiLiLiiLiEELiLiEEE,b_LiE,b_LiLiiLiEELiLiEEE,b_LiiLiEE,b_LiLiEE,b_y,b_LyE,b_LLyEE,four_len,high4,high2]; done)
    have f14:Ev F X (.call 70 [(.one (.bor 0 [[(.sl (toBR (map d_y v0)))],[(.sl (toBR (map d_y (m71 x0.f0))))],[(.sl (toBR (map d_y (m72 x0.f1))))]]))] [] [] [(.one (.own 1 (map d_y (m70 [v0,(m71 x0.f0),(m72 x0.f1)]))))]):=(by rw[show (toBR (map d_y v0))=(map b_y v0) from by first | rfl |(simp[map_take,map_drop,four_len,high4,high2]; done) |(simp[byteRows_eq,map_take,map_drop,four_len,high4,high2]; done) |(simp[*,map_take,map_drop,four_len,high4,high2]; done) |(rw[take_of_length_le (by simp only[length_drop,length_take,length_map,Int.toNat_natCast]; omega)]; simp only[← map_drop,← map_take]),show (toBR (map d_y (m71 x0.f0)))=(map b_y (m71 x0.f0)) from by first | rfl |(simp[map_take,map_drop,four_len,high4,high2]; done) |(simp[byteRows_eq,map_take,map_drop,four_len,high4,high2]; done) |(simp[*,map_take,map_drop,four_len,high4,high2]; done) |(rw[take_of_length_le (by simp only[length_drop,length_take,length_map,Int.toNat_natCast]; omega)]; simp only[← map_drop,← map_take]),show (toBR (map d_y (m72 x0.f1)))=(map b_y (m72 x0.f1)) from by first | rfl |(simp[map_take,map_drop,four_len,high4,high2]; done) |(simp[byteRows_eq,map_take,map_drop,four_len,high4,high2]; done) |(simp[*,map_take,map_drop,four_len,high4,high2]; done) |(rw[take_of_length_le (by simp only[length_drop,length_take,length_map,Int.toNat_natCast]; omega)]; simp only[← map_drop,← map_take])]; exact(e70 (l0_0:=0) (a0:=[v0,(m71 x0.f0),(m72 x0.f1)]) (by have q0:=hy7 x0 (List.mem_of_getElem? Hx0); have q2:=pb71 x0.f0; have q3:=pn72 x0.f1; simp only[length_map,length_append,length_take,length_drop,length_cons,length_nil,List.length_flatten,List.map_cons,List.map_nil,List.sum_cons,List.sum_nil] at*; omega) (by have q0:=hy7 x0 (List.mem_of_getElem? Hx0); have q2:=pb71 x0.f0; have q3:=pn72 x0.f1; simp only[length_map,length_append,length_take,length_drop,length_cons,length_nil,List.length_flatten,List.map_cons,List.map_nil,List.sum_cons,List.sum_nil] at*; omega)))
    have st:=ch b55_1 (h55_1 l0_1 l0_2 a0 c0_55_1 (length p:Int) v0) ⟨[(1,(.ptr ⟨(1,0,0),[],0,0,3⟩)),(3,(.one (.ref ⟨(3,0,0),[],0,(length (map d_y (m70 [v0,(m71 x0.f0),(m72 x0.f1)])))⟩))),(43,(.one (.bor l0_2 (map b_iLiE a0.f2)))),(44,(.oi ((length (map b_iLiE a0.f2)):Int))),(45,(.oi (wrap .i64 ((length p:Int)+1))))],[((1,0,0),.live ⟨3,[[(.i a0.f0),(.bor l0_1 (map b_iiLiE a0.f1)),(.bor l0_2 (map b_iLiE a0.f2))]],[]⟩),((3,0,0),.live ⟨1,(map d_y (m70 [v0,(m71 x0.f0),(m72 x0.f1)])),[]⟩)]⟩ .normal 35 (by kernel_rfl) (.f hc (.f f1 (.f (mp_ b_iLiE Hx0) (.h 2 (.b true) (.h 4 (.row (b_iLiE x0)) (.r 18 [] [] (e71 (a0:=x0.f0)) (.r 24 [] [] (e72 (l0_0:=(l0_2+1)) (a0:=x0.f1) (by omega)) (pe 0 (pe (length (map d_y v0)) (pe 0 (pe (length (map d_y (m71 x0.f0))) (pe 0 (pe (length (map d_y (m72 x0.f1))) (.f f11 (.f f12 (.f f13 (.r 28 [] [[[(.sl (toBR (map d_y v0)))],[(.sl (toBR (map d_y (m71 x0.f0))))],[(.sl (toBR (map d_y (m72 x0.f1))))]]] f14 (.f trivial .nil))))))))))))))))))
    have ih:=t55_1 (l0_1:=l0_1) (l0_2:=l0_2) (a0:=a0) (c0_55_1:=c0_55_1) hy0 hy1 hy2 hy3 hy4 hy5 hy6 hy7 hy8 y0 (p++ [x0]) (m70 [v0,(m71 x0.f0),(m72 x0.f1)]) (by rw[append_assoc]; exact hp0) (by have q0:=hy7 x0 (List.mem_of_getElem? Hx0); have q2:=pb71 x0.f0; have q3:=pn72 x0.f1; rw[cat3 (by simp only[length_cons] at*; omega)]; simp only[length_map,length_append,length_take,length_drop,length_cons,length_nil,List.length_flatten,List.map_cons,List.map_nil,List.sum_cons,List.sum_nil] at*; omega)
    rw[show ((p++ [x0]).length:Int)=(p.length:Int)+1 from by simp] at ih
    rw[show (⟨[(1,(.ptr ⟨(1,0,0),[],0,0,3⟩)),(3,(.one (.ref ⟨(3,0,0),[],0,(length (map d_y (m70 [v0,(m71 x0.f0),(m72 x0.f1)])))⟩))),(43,(.one (.bor l0_2 (map b_iLiE a0.f2)))),(44,(.oi ((length (map b_iLiE a0.f2)):Int))),(45,(.oi (wrap .i64 ((length p:Int)+1))))],[((1,0,0),.live ⟨3,[[(.i a0.f0),(.bor l0_1 (map b_iiLiE a0.f1)),(.bor l0_2 (map b_iLiE a0.f2))]],[]⟩),((3,0,0),.live ⟨1,(map d_y (m70 [v0,(m71 x0.f0),(m72 x0.f1)])),[]⟩)]⟩:St)=h55_1 l0_1 l0_2 a0 c0_55_1 ((length p:Int)+1) (m70 [v0,(m71 x0.f0),(m72 x0.f1)]) from(by unfold h55_1; simp only[hw]; done)] at st
    exact .loopN st ih
theorem lk55_1 {a:K_iLiiLiEELiLiEE}:∀ {l:List K_iLiE} {i:Int} {v w:List Int} {j b},(∀z∈l,length z.f1≤12)→r55_1 a l i v=.k0 w j b→v.length+60*l.length≤520→w.length≤v.length+60*l.length
  |[],i,v,w,j,b,_,h,_=>by simp only[r55_1] at h; injection h with h; subst h; simp
  |x::l,i,v,w,j,b,z,h,hv=>by
    simp only[r55_1] at h
    have q0:=z x (List.mem_cons_self ..)
    have z1:=fun u hu=>z u (List.mem_cons_of_mem _ hu)
    have q2:=pb71 x.f0
    have q3:=pn72 x.f1
    simp only[length_cons] at hv⊢
    rw[cat3 (by omega)] at h
    have q:=lk55_1 z1 h (by simp only[length_append]; omega)
    simp only[length_append] at q; omega
end Go.Proofs.Ytjgebnhpklkjcaa.JobsFault
