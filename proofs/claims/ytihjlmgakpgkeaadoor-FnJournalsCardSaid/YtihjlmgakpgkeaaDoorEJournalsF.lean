/- What the functions compute. -/
import Derived.Test.YtihjlmgakpgkeaaDoorEJournalsE
import Derived.KernelRfl
namespace Go.Proofs.YtihjlmgakpgkeaaDoor.Journals
open Go Go.Proofs.YtihjlmgakpgkeaaDoor.V
set_option linter.unusedVariables false
set_option linter.unusedSimpArgs false
set_option maxRecDepth 20000
open Go.IntKind (wrap)
open Int (toNat)
open List (length_replicate length_map length_set length_append length_cons length_nil length_take length_drop take_of_length_le map_take map_drop map_set append_assoc getElem?_map map length take drop getD set)
attribute [local simp] strInts_len byteRows_len toBR_y fullR_y pureR_y lenB_y lenD_y fromBR_y copy_y toBR_LyE fullR_LyE pureR_LyE lenB_LyE lenD_LyE toBR_b fullR_b pureR_b lenB_b lenD_b fromBR_b copy_b toBR_isii fullR_isii pureR_isii lenB_isii lenD_isii fromBR_isii copy_isii toBR_iiLisiiE fullR_iiLisiiE pureR_iiLisiiE lenB_iiLisiiE lenD_iiLisiiE toBR_LyEi fullR_LyEi pureR_LyEi lenB_LyEi lenD_LyEi toBR_iLyEi fullR_iLyEi pureR_iLyEi lenB_iLyEi lenD_iLyEi toBR_iLyE fullR_iLyE pureR_iLyE lenB_iLyE lenD_iLyE toBR_i fullR_i pureR_i lenB_i lenD_i fromBR_i copy_i toBR_s fullR_s pureR_s lenB_s lenD_s fromBR_s copy_s toBR_LiE fullR_LiE pureR_LiE lenB_LiE lenD_LiE toBR_si fullR_si pureR_si lenB_si lenD_si fromBR_si copy_si toBR_R fullR_R pureR_R lenB_R lenD_R toBR_C fullR_C pureR_C lenB_C lenD_C toBR_B fullR_B pureR_B lenB_B lenD_B toBR_LsiE fullR_LsiE pureR_LsiE lenB_LsiE lenD_LsiE toBR_LLyEE fullR_LLyEE pureR_LLyEE lenB_LLyEE lenD_LLyEE toBR_LisiiE fullR_LisiiE pureR_LisiiE lenB_LisiiE lenD_LisiiE toBR_Q fullR_Q pureR_Q lenB_Q lenD_Q
inductive O75_0 where
  |k0 (w0:List K_isii) (w1:Int)
def r75_0 (a0:(List Int)):Nat→List K_isii→Int→O75_0
  |n+1,v0,v2=>
    if(!(m121_1 (drop (toNat v2) a0)))=true then(O75_0.k0 v0 v2) else
    (r75_0 a0 n (v0++([(m121_0 (drop (toNat v2) a0))])) (wrap .i64 (v2+((length (map d_y (m70 (m121_0 (drop (toNat v2) a0))))):Int))))
  |0,v0,v2=>(O75_0.k0 v0 v2)
def h75_0 (l0_0:Nat) (a0:(List Int)) (v0:List K_isii) (v2:Int):St:=⟨[(0,(.one (.bor l0_0 (map b_y a0)))),(4,(.one (.ref ⟨(4,0,0),[],0,(length (map d_isii v0))⟩))),(5,(.one (.val (.int .i64 v2))))],[((4,0,0),.live ⟨4,(map d_isii v0),[]⟩)]⟩
def ex75_0:O75_0→VX.Exit
  |.k0 _ _=>.ret
def fin75_0 (l0_0:Nat) (a0:(List Int)):O75_0→St
  |.k0 w0 w1=>⟨[(4,(.one (.ref ⟨(4,0,0),[],0,(length (map d_isii w0))⟩))),(2,(.one (.ref ⟨(4,0,0),[],0,(length (map d_isii w0))⟩))),(3,(.one (.val (.int .i64 w1))))],[((4,0,0),.live ⟨4,(map d_isii w0),[]⟩)]⟩
theorem t75_0 {l0_0:Nat} {a0:(List Int)} (hy0:∀z∈a0,(0:Int)≤z∧z≤255) (hy1:length a0≤1200):∀(n:Nat) (v0:List K_isii) (v2:Int),0≤v2→v2≤(length a0:Int)→(length v0:Int)≤v2→(∀z∈v0,ByteArray.size z.f1≤255)→length a0 - toNat v2≤n→Ev F X (.code l75_0 (h75_0 l0_0 a0 v0 v2) (ex75_0 (r75_0 a0 n v0 v2)) (fin75_0 l0_0 a0 (r75_0 a0 n v0 v2)))
  |0,v0,v2,hi0,hi1,hi2,hi3,hn=>by
    have f0:(0≤v2∧v2≤((length (map b_y a0)):Int)∧((length (map b_y a0)):Int)≤((length (map b_y a0)):Int))∧∀r∈((map b_y a0):List (List B)),r.length=1:=(by refine⟨?_,lenB_y _⟩; simp only[LN]; omega)
    have f1:Ev F X (.call 121 [(.one (.bor (l0_0+1) (take (toNat ((length (map b_y a0)):Int) - toNat v2) (drop (toNat v2) (map b_y a0)))))] [] [] [(.agg [(.i ((m121_0 (drop (toNat v2) a0)).f0)),(.val (.string ((m121_0 (drop (toNat v2) a0)).f1))),(.i ((m121_0 (drop (toNat v2) a0)).f2)),(.i ((m121_0 (drop (toNat v2) a0)).f3))]),(.one (.val (.bool (m121_1 (drop (toNat v2) a0)))))]):=(by rw[show (take (toNat ((length (map b_y a0)):Int) - toNat v2) (drop (toNat v2) (map b_y a0)))=(map b_y (drop (toNat v2) a0)) from by first | rfl |(simp[map_take,map_drop,four_len,high4,high2]; done) |(simp[byteRows_eq,map_take,map_drop,four_len,high4,high2]; done) |(simp[*,map_take,map_drop,four_len,high4,high2]; done) |(rw[take_of_length_le (by simp only[length_drop,length_take,length_map,Int.toNat_natCast]; omega)]; simp only[← map_drop,← map_take])]; exact(e121 (l0_0:=(l0_0+1)) (a0:=(drop (toNat v2) a0)) (by exact gdr hy0 _) (by simp only[length_drop]; omega)))
    have hc:(!(m121_1 (drop (toNat v2) a0)))=true:=by first |(rw[List.drop_of_length_le (by omega)]; rfl) |(exact fuel64_zero hn) |(simp only[decide_eq_true_eq] at*; omega) |(simp at*; omega)
    have st:=ch b75_0 (h75_0 l0_0 a0 v0 v2) ⟨[(4,(.one (.ref ⟨(4,0,0),[],0,(length (map d_isii v0))⟩))),(2,(.one (.ref ⟨(4,0,0),[],0,(length (map d_isii v0))⟩))),(3,(.oi v2))],[((4,0,0),.live ⟨4,(map d_isii v0),[]⟩)]⟩ .ret 33 (by kernel_rfl) (.f f0 (.r 7 [] [] f1 (.f hc (T 24 .nil))))
    rw[show (⟨[(4,(.one (.ref ⟨(4,0,0),[],0,(length (map d_isii v0))⟩))),(2,(.one (.ref ⟨(4,0,0),[],0,(length (map d_isii v0))⟩))),(3,(.oi v2))],[((4,0,0),.live ⟨4,(map d_isii v0),[]⟩)]⟩:St)=fin75_0 l0_0 a0 (.k0 v0 v2) from(by rfl)] at st
    exact .loopX st (show (.ret:VX.Exit)≠.normal from by simp)
  |n+1,v0,v2,hi0,hi1,hi2,hi3,hn=>by
    simp only[r75_0]
    have f0:(0≤v2∧v2≤((length (map b_y a0)):Int)∧((length (map b_y a0)):Int)≤((length (map b_y a0)):Int))∧∀r∈((map b_y a0):List (List B)),r.length=1:=(by refine⟨?_,lenB_y _⟩; simp only[LN]; omega)
    have f1:Ev F X (.call 121 [(.one (.bor (l0_0+1) (take (toNat ((length (map b_y a0)):Int) - toNat v2) (drop (toNat v2) (map b_y a0)))))] [] [] [(.agg [(.i ((m121_0 (drop (toNat v2) a0)).f0)),(.val (.string ((m121_0 (drop (toNat v2) a0)).f1))),(.i ((m121_0 (drop (toNat v2) a0)).f2)),(.i ((m121_0 (drop (toNat v2) a0)).f3))]),(.one (.val (.bool (m121_1 (drop (toNat v2) a0)))))]):=(by rw[show (take (toNat ((length (map b_y a0)):Int) - toNat v2) (drop (toNat v2) (map b_y a0)))=(map b_y (drop (toNat v2) a0)) from by first | rfl |(simp[map_take,map_drop,four_len,high4,high2]; done) |(simp[byteRows_eq,map_take,map_drop,four_len,high4,high2]; done) |(simp[*,map_take,map_drop,four_len,high4,high2]; done) |(rw[take_of_length_le (by simp only[length_drop,length_take,length_map,Int.toNat_natCast]; omega)]; simp only[← map_drop,← map_take])]; exact(e121 (l0_0:=(l0_0+1)) (a0:=(drop (toNat v2) a0)) (by exact gdr hy0 _) (by simp only[length_drop]; omega)))
    by_cases h_0:(!(m121_1 (drop (toNat v2) a0)))=true
    · try simp only[if_pos h_0]
      have st:=ch b75_0 (h75_0 l0_0 a0 v0 v2) ⟨[(4,(.one (.ref ⟨(4,0,0),[],0,(length (map d_isii v0))⟩))),(2,(.one (.ref ⟨(4,0,0),[],0,(length (map d_isii v0))⟩))),(3,(.oi v2))],[((4,0,0),.live ⟨4,(map d_isii v0),[]⟩)]⟩ .ret 33 (by kernel_rfl) (.f f0 (.r 7 [] [] f1 (.f h_0 (T 24 .nil))))
      rw[show (⟨[(4,(.one (.ref ⟨(4,0,0),[],0,(length (map d_isii v0))⟩))),(2,(.one (.ref ⟨(4,0,0),[],0,(length (map d_isii v0))⟩))),(3,(.oi v2))],[((4,0,0),.live ⟨4,(map d_isii v0),[]⟩)]⟩:St)=fin75_0 l0_0 a0 (.k0 v0 v2) from(by rfl)] at st
      exact .loopX st (show (.ret:VX.Exit)≠.normal from by simp)
    try simp only[if_neg h_0]
    have f3:0+(length (map d_isii v0))≤(length (map d_isii v0)):=(by omega)
    have f4:1≤1:=(by omega)
    have f5:((take 1 (drop 0 [[(.i ((m121_0 (drop (toNat v2) a0)).f0)),(.val (.string ((m121_0 (drop (toNat v2) a0)).f1))),(.i ((m121_0 (drop (toNat v2) a0)).f2)),(.i ((m121_0 (drop (toNat v2) a0)).f3))]])).all fun x=>x.all copyable)=true:=(by trivial)
    have f6:(length ((take (length (map d_isii v0)) (drop 0 (map d_isii v0)))++([[(.i ((m121_0 (drop (toNat v2) a0)).f0)),(.val (.string ((m121_0 (drop (toNat v2) a0)).f1))),(.i ((m121_0 (drop (toNat v2) a0)).f2)),(.i ((m121_0 (drop (toNat v2) a0)).f3))]]:List (List D))))*40≤70368744177664:=(by have q:=rd_ok' (gdr hy0 _) (by assumption); simp only[length_drop] at q; simp only[length_map,length_append,length_cons,length_nil,length_take,length_drop]; omega)
    have f7:∀r∈([[(.i ((m121_0 (drop (toNat v2) a0)).f0)),(.val (.string ((m121_0 (drop (toNat v2) a0)).f1))),(.i ((m121_0 (drop (toNat v2) a0)).f2)),(.i ((m121_0 (drop (toNat v2) a0)).f3))]]:List (List D)),r.length=4:=(by unfold m121_0;(repeat' split)<;>simp_all<;>omega)
    have f8:((take (length (map d_isii v0)) (drop 0 (map d_isii v0)))++([[(.i ((m121_0 (drop (toNat v2) a0)).f0)),(.val (.string ((m121_0 (drop (toNat v2) a0)).f1))),(.i ((m121_0 (drop (toNat v2) a0)).f2)),(.i ((m121_0 (drop (toNat v2) a0)).f3))]]:List (List D)))=(map d_isii (v0++([(m121_0 (drop (toNat v2) a0))]))):=(by simp[take_of_length_le,d_isii,four_len,high4,high2]; done)
    have f9:fullL [(.i ((m121_0 (drop (toNat v2) a0)).f0)),(.val (.string ((m121_0 (drop (toNat v2) a0)).f1))),(.i ((m121_0 (drop (toNat v2) a0)).f2)),(.i ((m121_0 (drop (toNat v2) a0)).f3))]=true:=(by assumption)
    have st:=ch b75_0 (h75_0 l0_0 a0 v0 v2) ⟨[(0,(.one (.bor l0_0 (map b_y a0)))),(4,(.one (.ref ⟨(4,0,0),[],0,(length ((take (length (map d_isii v0)) (drop 0 (map d_isii v0)))++([[(.i ((m121_0 (drop (toNat v2) a0)).f0)),(.val (.string ((m121_0 (drop (toNat v2) a0)).f1))),(.i ((m121_0 (drop (toNat v2) a0)).f2)),(.i ((m121_0 (drop (toNat v2) a0)).f3))]]:List (List D))))⟩))),(5,(.oi (wrap .i64 (v2+((length (map d_y (m70 (m121_0 (drop (toNat v2) a0))))):Int)))))],[((4,0,0),.live ⟨4,(map d_isii (v0++([(m121_0 (drop (toNat v2) a0))]))),[]⟩)]⟩ .normal 46 (by kernel_rfl) (.f f0 (.r 7 [] [] f1 (.f (nt h_0) (.f f3 (.f f4 (.f f5 (.f f6 (.f f7 (.f f8 (.f f9 (U 24 (T 32 (.h 35 (.norm (4,0,0) (map d_isii (v0++([(m121_0 (drop (toNat v2) a0))])))) (.r 39 [] [] (e70 (l0:=0) (a0:=(m121_0 (drop (toNat v2) a0))) (by have q:=rd_ok' (gdr hy0 _) (by assumption); simp only[length_drop] at q; omega)) (.f trivial .nil)))))))))))))))
    have ih:=t75_0 (l0_0:=l0_0) (a0:=a0) hy0 hy1 n (v0++([(m121_0 (drop (toNat v2) a0))])) (wrap .i64 (v2+((length (map d_y (m70 (m121_0 (drop (toNat v2) a0))))):Int))) (by have q:=rd_ok' (gdr hy0 _) (by assumption); simp only[length_drop] at q; simp only[length_map,length_append,length_cons,length_nil]; rw[wrap64 (by omega)]; omega) (by have q:=rd_ok' (gdr hy0 _) (by assumption); simp only[length_drop] at q; simp only[length_map,length_append,length_cons,length_nil]; rw[wrap64 (by omega)]; omega) (by have q:=rd_ok' (gdr hy0 _) (by assumption); simp only[length_drop] at q; simp only[length_map,length_append,length_cons,length_nil]; rw[wrap64 (by omega)]; omega) (by have q:=rd_ok' (gdr hy0 _) (by assumption); simp only[length_drop] at q; intro z hz; rcases List.mem_append.1 hz with hz | hz; exact hi3 z hz; rw[List.mem_singleton.1 hz]; exact q.2.2) (by have q:=rd_ok' (gdr hy0 _) (by assumption); simp only[length_drop] at q; simp only[length_map]; rw[wrap64 (by omega)]; omega)
    rw[show (⟨[(0,(.one (.bor l0_0 (map b_y a0)))),(4,(.one (.ref ⟨(4,0,0),[],0,(length ((take (length (map d_isii v0)) (drop 0 (map d_isii v0)))++([[(.i ((m121_0 (drop (toNat v2) a0)).f0)),(.val (.string ((m121_0 (drop (toNat v2) a0)).f1))),(.i ((m121_0 (drop (toNat v2) a0)).f2)),(.i ((m121_0 (drop (toNat v2) a0)).f3))]]:List (List D))))⟩))),(5,(.oi (wrap .i64 (v2+((length (map d_y (m70 (m121_0 (drop (toNat v2) a0))))):Int)))))],[((4,0,0),.live ⟨4,(map d_isii (v0++([(m121_0 (drop (toNat v2) a0))]))),[]⟩)]⟩:St)=h75_0 l0_0 a0 (v0++([(m121_0 (drop (toNat v2) a0))])) (wrap .i64 (v2+((length (map d_y (m70 (m121_0 (drop (toNat v2) a0))))):Int))) from(by unfold h75_0; simp[take_of_length_le,d_y,d_isii,four_len,high4,high2]; done)] at st
    exact .loopN st ih
def post75_0 (a0:(List Int)):O75_0→Prop
  |.k0 w0 _=>length w0≤1200∧(∀z∈w0,ByteArray.size z.f1≤255)
theorem z75_0 {a0:(List Int)} (hy0:∀z∈a0,(0:Int)≤z∧z≤255) (hy1:length a0≤1200):∀(n:Nat) (v0:List K_isii) (v2:Int),0≤v2→v2≤(length a0:Int)→(length v0:Int)≤v2→(∀z∈v0,ByteArray.size z.f1≤255)→post75_0 a0 (r75_0 a0 n v0 v2)
  |0,v0,v2,hi0,hi1,hi2,hi3=>by
    simp only[r75_0]
    first | trivial |(show _ ; simp only[post75_0]; omega) |(simp only[post75_0] at*; omega) |(have q:=rd_ok' (gdr hy0 _) (by assumption); simp only[length_drop] at q; simp only[length_map,length_append,length_cons,length_nil]; rw[wrap64 yb]; omega) |(have q:=rd_ok' (gdr hy0 _) (by assumption); simp only[length_drop] at q; intro z hz; rcases List.mem_append.1 hz with hz | hz; exact hi3 z hz; rw[List.mem_singleton.1 hz]; exact q.2.2) |(show _∧_; exact⟨by omega,by assumption⟩) |(simp only[decide_eq_true_eq] at*; omega)
  |n+1,v0,v2,hi0,hi1,hi2,hi3=>by
    simp only[r75_0]
    by_cases h_0:(!(m121_1 (drop (toNat v2) a0)))=true
    · try simp only[if_pos h_0]
      first | trivial |(show _ ; simp only[post75_0]; omega) |(simp only[post75_0] at*; omega) |(have q:=rd_ok' (gdr hy0 _) (by assumption); simp only[length_drop] at q; simp only[length_map,length_append,length_cons,length_nil]; rw[wrap64 yb]; omega) |(have q:=rd_ok' (gdr hy0 _) (by assumption); simp only[length_drop] at q; intro z hz; rcases List.mem_append.1 hz with hz | hz; exact hi3 z hz; rw[List.mem_singleton.1 hz]; exact q.2.2) |(show _∧_; exact⟨by omega,by assumption⟩) |(simp only[decide_eq_true_eq] at*; omega)
    try simp only[if_neg h_0]
    exact z75_0 (a0:=a0) hy0 hy1 n (v0++([(m121_0 (drop (toNat v2) a0))])) (wrap .i64 (v2+((length (map d_y (m70 (m121_0 (drop (toNat v2) a0))))):Int))) yo yo yo yL
def m75_0 (a0:(List Int)):(List K_isii):=
  (match r75_0 a0 (length a0 - toNat 0) ([]) 0 with | .k0 w0_0 w1_0=>w0_0)
def m75_1 (a0:(List Int)):Int:=
  (match r75_0 a0 (length a0 - toNat 0) ([]) 0 with | .k0 w0_0 w1_0=>w1_0)
theorem e75 {l0_0:Nat} {a0:(List Int)} (hy0:∀z∈a0,(0:Int)≤z∧z≤255) (hy1:length a0≤1200):Ev F X (.call 75 [(.one (.bor l0_0 (map b_y a0)))] [] [] [(.one (.own 4 (map d_isii (m75_0 a0)))),(.one (.val (.int .i64 (m75_1 a0))))]):=by
  unfold m75_0 m75_1
  cases h0:r75_0 a0 (length a0 - toNat 0) ([]) 0 with
  |k0 w0_0 w1_0=>
    try dsimp only
    have zh0:=z75_0 (a0:=a0) (by assumption) (by assumption) (length a0 - toNat 0) ([]) 0 yb yb yw yM; rw[h0] at zh0; simp only[post75_0] at zh0
    have f0:(⟨[(0,(.one (.bor l0_0 (map b_y a0)))),(4,(.one (.ref ⟨(4,0,0),[],0,0⟩))),(5,(.oi 0))],[((4,0,0),.live ⟨4,[],[]⟩)]⟩:St)=h75_0 l0_0 a0 ([]) 0:=yv
    exact cp ya (.f f0 (.f (ev_ (e:=ex75_0) (g:=(fin75_0 l0_0 a0)) h0 (t75_0 (l0_0:=l0_0) (a0:=a0) (by assumption) (by assumption) (length a0 - toNat 0) ([]) 0 yb yb yw yM (Nat.le_refl _))) (pe 0 (pe (length (map d_isii w0_0)) (.f (pureR_isii w0_0) (.h 10 (.loop (h75_0 l0_0 a0 ([]) 0) .ret ⟨[(4,(.one (.ref ⟨(4,0,0),[],0,(length (map d_isii w0_0))⟩))),(2,(.one (.ref ⟨(4,0,0),[],0,(length (map d_isii w0_0))⟩))),(3,(.oi w1_0))],[((4,0,0),.live ⟨4,(map d_isii w0_0),[]⟩)]⟩) .nil))))))
def m27 (a0:(List Int)):K_iiLisiiE:=
  if(decide (((length (map b_y a0)):Int) > 1200))=true then(K_iiLisiiE.mk 2 0 []) else
  (K_iiLisiiE.mk 0 (m75_1 a0) (m75_0 a0))
theorem e27 {l0_0:Nat} {a0:(List Int)} (hy0:∀z∈a0,(0:Int)≤z∧z≤255) (hy1:length a0≤140737488351232):Ev F X (.call 27 [(.one (.bor l0_0 (map b_y a0)))] [] [] [(.agg (d_iiLisiiE (m27 a0)))]):=by
  unfold m27
  by_cases h0:(decide (((length (map b_y a0)):Int) > 1200))=true
  · try simp only[if_pos h0]
    have f1:pureR []=true:=yA
    exact cp ya (.f h0 (.f f1 (T 8 .nil)))
  try simp only[if_neg h0]
  exact cp ya (N h0 (U 8 (.r 12 [] [] (e75 (l0_0:=(l0_0+1)) (a0:=a0) ‹_› yI) (pe 0 (pe (length (map d_isii (m75_0 a0))) (.f (pureR_isii (m75_0 a0)) .nil))))))

theorem szs (a0:List Int) (hb:∀z∈a0,(0:Int)≤z∧z≤255):length (m27 a0).f2≤1200∧∀z∈(m27 a0).f2,ByteArray.size z.f1≤255:=by
  unfold m27
  split
  · simp
  rename_i h
  have z:=z75_0 (a0:=a0) hb (by simp only[decide_eq_true_eq,length_map] at h; omega) (length a0 - toNat 0) [] 0 yb yb (by simp) (by simp)
  unfold m75_0
  cases hr:r75_0 a0 (length a0 - toNat 0) [] 0 with
  |k0 w0 w1=>rw[hr] at z; exact z
def m28 (a0:(List Int)) (a1:Int) (a2:Int):Int:=
  if(decide (a2≤1))=true then 0 else
  if(((length (map b_y a0)):Int)==0)=true then(Int.tmod (wrap .i64 (a1*7)) a2) else
    if(decide (a2 > 200))=true then(Int.tmod (wrap .i64 ((wrap .i64 ((wrap .i64 ((wrap .i64 ((getD a0 (toNat (Int.tmod a1 ((length (map b_y a0)):Int))) 0)))+(wrap .i64 ((wrap .i64 (Int.tdiv a1 ((length (map b_y a0)):Int)))*3))))*251))+(wrap .i64 ((getD a0 (toNat (Int.tmod (wrap .i64 (a1+1)) ((length (map b_y a0)):Int))) 0))))) a2) else
      (Int.tmod (wrap .i64 ((wrap .i64 ((getD a0 (toNat (Int.tmod a1 ((length (map b_y a0)):Int))) 0)))+(wrap .i64 ((wrap .i64 (Int.tdiv a1 ((length (map b_y a0)):Int)))*3)))) a2)
theorem e28 {l0_0:Nat} {a0:(List Int)} {a1:Int} {a2:Int} (hy0:∀z∈a0,(0:Int)≤z∧z≤255) (hy1:length a0≤140737488351232) (hy2:0≤a1) (hy3:a1≤1000):Ev F X (.call 28 [(.one (.bor l0_0 (map b_y a0))),(.one (.val (.int .i64 a1))),(.one (.val (.int .i64 a2)))] [] [] [(.one (.val (.int .i64 (m28 a0 a1 a2))))]):=by
  unfold m28
  by_cases h0:(decide (a2≤1))=true
  · try simp only[if_pos h0]
    exact cp ya (.f h0 (T 12 .nil))
  try simp only[if_neg h0]
  by_cases h1:(((length (map b_y a0)):Int)==0)=true
  · try simp only[if_pos h1]
    have f2:a2≠0:=yr
    exact cp ya (N h0 (.f h1 (.f f2 (U 12 (T 17 .nil)))))
  try simp only[if_neg h1]
  have f2:((length (map b_y a0)):Int)≠0:=(by simp only[beq_iff_eq,length_map] at*; omega)
  have f3:0≤(Int.tmod a1 ((length (map b_y a0)):Int)):=(by exact Int.tmod_nonneg _ yb)
  have P2 {hs q} (r:PS F X hs q):=(PS.f (nt h0) (N h1 (.f f2 (.f f3 (.f (mp_ b_y (getD_at a0 (toNat (Int.tmod a1 ((length (map b_y a0)):Int))) 0 (by exact idx_lt _ _ yb (by assumption)))) (.f f2 (.f trivial (U 12 (U 17 (.h 27 (.row [(.val (.int .u8 (getD a0 (toNat (Int.tmod a1 ((length (map b_y a0)):Int))) 0)))]) r))))))))))
  by_cases h2:(decide (a2 > 200))=true
  · try simp only[if_pos h2]
    have f10:0≤(Int.tmod (wrap .i64 (a1+1)) ((length (map b_y a0)):Int)):=(by rw[wrap64 yb]; exact Int.tmod_nonneg _ yb)
    have f13:a2≠0:=yr
    exact cp ya (P2 (.f h2 (.f trivial (.f f2 (.f f10 (.f (mp_ b_y (getD_at a0 (toNat (Int.tmod (wrap .i64 (a1+1)) ((length (map b_y a0)):Int))) 0 (by rw[wrap64 yb]; exact idx_lt _ _ yb (by assumption)))) (.f trivial (.f f13 (T 48 (.h 64 (.row [(.val (.int .u8 (getD a0 (toNat (Int.tmod (wrap .i64 (a1+1)) ((length (map b_y a0)):Int))) 0)))]) .nil))))))))))
  try simp only[if_neg h2]
  have f8:a2≠0:=yr
  exact cp ya (P2 (N h2 (.f f8 (U 48 .nil))))
theorem at_rng {a:List Int} {i k:Int} (hb:∀z∈a,(0:Int)≤z∧z≤255) (h1:0≤i) (h2:i≤1000) (hk:1≤k) (hk2:k≤1000000000):0≤m28 a i k∧m28 a i k < k:=by
  have hm:∀x:Int,0≤x→0≤Int.tmod x k∧Int.tmod x k < k:=fun x hx=>⟨Int.tmod_nonneg _ hx,Int.tmod_lt_of_pos _ yb⟩
  unfold m28
  split
  · omega
  split
  · apply hm
    rw[wrap64 yb]; omega
  rename_i hn
  have hn':0 <((length (map b_y a)):Int):=by simp at hn⊢; exact List.length_pos_iff.2 hn
  have hq1:0≤Int.tdiv i ((length (map b_y a)):Int):=Int.tdiv_nonneg h1 yb
  have hq2:Int.tdiv i ((length (map b_y a)):Int)≤i:=by rw[Int.tdiv_eq_ediv_of_nonneg h1]; exact Int.ediv_le_self _ h1
  have hx:=getD_b a hb (toNat (Int.tmod i ((length (map b_y a)):Int)))
  have hy:=getD_b a hb (toNat (Int.tmod (wrap .i64 (i+1)) ((length (map b_y a)):Int)))
  revert hq1 hq2 hx hy
  generalize Int.tdiv i _=q
  generalize getD a (toNat (Int.tmod i _)) 0=x
  generalize getD a _ 0=y
  intro hq1 hq2 hx hy
  have g1:wrap .i64 q=q:=wrap64 yb
  have g2:wrap .i64 (q*3)=q*3:=wrap64 yb
  have g3:wrap .i64 x=x:=wrap64 yb
  have g4:wrap .i64 (x+q*3)=x+q*3:=wrap64 yb
  have g5:wrap .i64 ((x+q*3)*251)=(x+q*3)*251:=wrap64 yb
  have g6:wrap .i64 y=y:=wrap64 yb
  have g7:wrap .i64 ((x+q*3)*251+y)=(x+q*3)*251+y:=wrap64 yb
  simp only[g1,g2,g3,g4,g5,g6,g7]
  split
  · apply hm; omega
  apply hm; omega
theorem sz1 {a0:List Int} (h:∀z∈a0,(0:Int)≤z∧z≤255) (hl:length a0≤140737488351232):length (m19 ((m62 (m38 a0)).f0)).f2≤1200∧∀z∈(m19 ((m62 (m38 a0)).f0)).f2,ByteArray.size z.f1≤255:=by
  have q:=bdG (a:=m38 a0) (S_le (S_src a0 h hl) yb)
  exact sze _ q.2 yb
theorem sz2 {a0:List Int} (h:∀z∈a0,(0:Int)≤z∧z≤255) (hl:length a0≤140737488351232) (n:Nat):length (m19 (take n (drop 0 ((m62 (m38 a0)).f0)))).f2≤1200∧∀z∈(m19 (take n (drop 0 ((m62 (m38 a0)).f0)))).f2,ByteArray.size z.f1≤255:=by
  have q:=bdG (a:=m38 a0) (S_le (S_src a0 h hl) yb)
  exact sze _ (gtd q.2 _ _) (by simp only[length_take,length_drop]; omega)
theorem cut_ok {a0:List Int} (hy0:∀z∈a0,(0:Int)≤z∧z≤255) {u:Int} (h1:0≤u) (h2:u≤100000):0≤m28 a0 3 (wrap .i64 (u+1))∧m28 a0 3 (wrap .i64 (u+1))≤u:=by
  rw[wrap64 yb]
  have:=at_rng (a:=a0) (i:=3) (k:=u+1) hy0 yb yb yb yb
  omega
theorem usd {a0:List Int} (hy0:∀z∈a0,(0:Int)≤z∧z≤255) (hy1:length a0≤140737488351232) (h1:¬(decide (((m19 ((m62 (m38 a0)).f0)).f1) < 0))=true) (h2:¬(decide (((m19 ((m62 (m38 a0)).f0)).f1) >((length (map d_y ((m62 (m38 a0)).f0))):Int)))=true):(0≤(0:Int)∧(0:Int)≤((m19 ((m62 (m38 a0)).f0)).f1)∧((m19 ((m62 (m38 a0)).f0)).f1)≤((length (map d_y ((m62 (m38 a0)).f0))):Int))∧(0+(toNat ((m19 ((m62 (m38 a0)).f0)).f1) - toNat 0)≤(length (map d_y ((m62 (m38 a0)).f0))))∧(0≤(0:Int)∧(0:Int)≤(m28 a0 3 (wrap .i64 (((m19 ((m62 (m38 a0)).f0)).f1)+1)))∧(m28 a0 3 (wrap .i64 (((m19 ((m62 (m38 a0)).f0)).f1)+1)))≤((length (map d_y ((m62 (m38 a0)).f0))):Int))∧(0+(toNat (m28 a0 3 (wrap .i64 (((m19 ((m62 (m38 a0)).f0)).f1)+1))) - toNat 0)≤(length (map d_y ((m62 (m38 a0)).f0)))):=by
  have q:=(bdG (a:=m38 a0) (S_le (S_src a0 hy0 hy1) yb)).1
  simp only[decide_eq_true_eq,length_map] at h1 h2⊢
  have c:=cut_ok (a0:=a0) hy0 (u:=((m19 ((m62 (m38 a0)).f0)).f1)) yb yb
  generalize (m28 a0 3 (wrap .i64 (((m19 ((m62 (m38 a0)).f0)).f1)+1)))=cc at c⊢
  generalize ((m19 ((m62 (m38 a0)).f0)).f1)=uu at*
  refine⟨⟨?_,?_,?_⟩,?_,⟨?_,?_,?_⟩,?_⟩<;>omega
theorem bne1 {x:Int} (h:¬(x !=1)=true):x=1:=by simpa using h
theorem is1 {x:Int} (h:¬(x !=1)=true):0≤(0:Int)∧(0:Int) < x:=by have:=bne1 h; omega
theorem is1n {l:List K_isii} (h:¬(((length (map d_isii l)):Int) !=1)=true):0 < length l:=by
  have:=bne1 h
  rw[length_map] at this; omega
theorem le_of {l m:List K_isii} (h:¬(decide (((length (map d_isii l)):Int) >((length (map d_isii m)):Int)))=true):length l≤length m:=by
  simp only[decide_eq_true_eq,length_map] at h; omega
inductive O4_0 where
  |k0 (w0:List Int) (w1:Int) (w2:Bool)
def r4_0 (a0:(List Int)):List K_isii→Int→List Int→O4_0
  |x0::y0,i,v0=>
    (r4_0 a0 y0 (i+1) (v0++((m22 x0).f1)))
  |[],i,v0=>(O4_0.k0 v0 i (decide (i <((length (map d_isii ((m19 ((m62 (m38 a0)).f0)).f2))):Int))))
def h4_0 (l0_0:Nat) (a0:(List Int)) (i:Int) (v0:List Int):St:=⟨[(0,(.one (.bor l0_0 (map b_y a0)))),(3,(.one (.ref ⟨(3,0,0),[],0,(length (map d_y ((m62 (m38 a0)).f0)))⟩))),(4,(.ptr ⟨(4,0,0),[],0,0,3⟩)),(9,(.one (.ref ⟨(9,0,0),[],0,(length (map d_y v0))⟩))),(10,(.one (.val (.int .i64 i))))],[((3,0,0),.live ⟨1,(map d_y ((m62 (m38 a0)).f0)),[]⟩),((4,0,0),.live ⟨3,[(d_iiLisiiE (m19 ((m62 (m38 a0)).f0)))],[]⟩),((9,0,0),.live ⟨1,(map d_y v0),[]⟩)]⟩
def ex4_0:O4_0→VX.Exit
  |.k0 _ _ _=>(.exit 0)
def fin4_0 (l0_0:Nat) (a0:(List Int)):O4_0→St
  |.k0 w0 w1 w2=>⟨[(0,(.one (.bor l0_0 (map b_y a0)))),(3,(.one (.ref ⟨(3,0,0),[],0,(length (map d_y ((m62 (m38 a0)).f0)))⟩))),(4,(.ptr ⟨(4,0,0),[],0,0,3⟩)),(9,(.one (.ref ⟨(9,0,0),[],0,(length (map d_y w0))⟩))),(10,(.one (.val (.int .i64 w1)))),(118,(.one (.val (.bool w2))))],[((3,0,0),.live ⟨1,(map d_y ((m62 (m38 a0)).f0)),[]⟩),((4,0,0),.live ⟨3,[(d_iiLisiiE (m19 ((m62 (m38 a0)).f0)))],[]⟩),((9,0,0),.live ⟨1,(map d_y w0),[]⟩)]⟩
set_option maxHeartbeats 4000000 in
theorem t4_0 {l0_0:Nat} {a0:(List Int)} (hy0:∀z∈a0,(0:Int)≤z∧z≤255) (hy1:length a0≤140737488351232):∀(y0:List K_isii) (p:List K_isii) (v0:List Int),p++y0=(m19 ((m62 (m38 a0)).f0)).f2→length v0+2000*length y0≤2400000→Ev F X (.code l4_0 (h4_0 l0_0 a0 (length p:Int) v0) (ex4_0 (r4_0 a0 y0 (length p:Int) v0)) (fin4_0 l0_0 a0 (r4_0 a0 y0 (length p:Int) v0)))
  |[],p,v0,hp0,hi0=>by
    have hc:¬(decide ((length p:Int) <((length (map d_isii ((m19 ((m62 (m38 a0)).f0)).f2))):Int)))=true:=by
      rw[← hp0]; simp only[LN,decide_eq_true_eq]; omega
    have hj0:=hi0; try simp only[LN,Int.toNat_natCast] at hj0
    have st:=ch b4_0 (h4_0 l0_0 a0 (length p:Int) v0) ⟨[(0,(.one (.bor l0_0 (map b_y a0)))),(3,(.one (.ref ⟨(3,0,0),[],0,(length (map d_y ((m62 (m38 a0)).f0)))⟩))),(4,(.ptr ⟨(4,0,0),[],0,0,3⟩)),(9,(.one (.ref ⟨(9,0,0),[],0,(length (map d_y v0))⟩))),(10,(.oi (length p:Int))),(118,(.one (.val (.bool (decide ((length p:Int) <((length (map d_isii ((m19 ((m62 (m38 a0)).f0)).f2))):Int)))))))],[((3,0,0),.live ⟨1,(map d_y ((m62 (m38 a0)).f0)),[]⟩),((4,0,0),.live ⟨3,[(d_iiLisiiE (m19 ((m62 (m38 a0)).f0)))],[]⟩),((9,0,0),.live ⟨1,(map d_y v0),[]⟩)]⟩ (.exit 0) 11 (by kernel_rfl) (.f (nt hc) (U 10 .nil))
    rw[show (⟨[(0,(.one (.bor l0_0 (map b_y a0)))),(3,(.one (.ref ⟨(3,0,0),[],0,(length (map d_y ((m62 (m38 a0)).f0)))⟩))),(4,(.ptr ⟨(4,0,0),[],0,0,3⟩)),(9,(.one (.ref ⟨(9,0,0),[],0,(length (map d_y v0))⟩))),(10,(.oi (length p:Int))),(118,(.one (.val (.bool (decide ((length p:Int) <((length (map d_isii ((m19 ((m62 (m38 a0)).f0)).f2))):Int)))))))],[((3,0,0),.live ⟨1,(map d_y ((m62 (m38 a0)).f0)),[]⟩),((4,0,0),.live ⟨3,[(d_iiLisiiE (m19 ((m62 (m38 a0)).f0)))],[]⟩),((9,0,0),.live ⟨1,(map d_y v0),[]⟩)]⟩:St)=fin4_0 l0_0 a0 (.k0 v0 (length p:Int) (decide ((length p:Int) <((length (map d_isii ((m19 ((m62 (m38 a0)).f0)).f2))):Int)))) from(by rfl)] at st
    exact .loopX st (show ((.exit 0):VX.Exit)≠.normal from by simp)
  |x0::y0,p,v0,hp0,hi0=>by
    have hc:(decide ((length p:Int) <((length (map d_isii ((m19 ((m62 (m38 a0)).f0)).f2))):Int)))=true:=by
      rw[← hp0]; simp only[LN,decide_eq_true_eq]; omega
    have Hx0:((m19 ((m62 (m38 a0)).f0)).f2)[toNat (length p:Int)]?=some x0:=by
      rw[← hp0,Int.toNat_natCast]; simp
    have hlen:length ((m19 ((m62 (m38 a0)).f0)).f2)=length p+length y0+1:=by rw[← hp0]; simp; omega
    have hw:wrap .i64 ((length p:Int)+1)=(length p:Int)+1:=wrap64 (by have hz:length ((m19 ((m62 (m38 a0)).f0)).f2)*40≤140737488351232:=(by first |(exact(bdG (a:=m38 a0) (S_le (S_src a0 hy0 hy1) (by omega))).2) |(have q:=bdG (a:=m38 a0) (S_le (S_src a0 hy0 hy1) (by omega)); omega) |(exact pkb _) |(have q:=pk_len (m20_1 a0); omega) |(exact(adL (a:=a0) hy0 hy1).2.1) |(have q:=adL (a:=a0) hy0 hy1; omega) |(with_reducible refine Nat.le_trans (es65 _) ?_; decide) |(exact is1 ‹_›) |(have q:=adL (a:=a0) hy0 hy1; have q2:=pk_len (m20_1 a0); simp only[bo_size]; omega) |(exact(usd (a0:=a0) hy0 hy1 ‹_› ‹_›).1) |(exact(usd (a0:=a0) hy0 hy1 ‹_› ‹_›).2.1) |(exact(usd (a0:=a0) hy0 hy1 ‹_› ‹_›).2.2.1) |(exact(usd (a0:=a0) hy0 hy1 ‹_› ‹_›).2.2.2) |(simp only[← map_drop,← map_take]; exact ints_y _) |(simp only[List.drop_zero,← map_take]; exact ints_y _) |(simp only[List.drop_zero,List.take_length]; exact ints_y _) |(exact gtd (bdG (a:=m38 a0) (S_le (S_src a0 hy0 hy1) (by omega))).2 _ _) |(have q:=bdG (a:=m38 a0) (S_le (S_src a0 hy0 hy1) (by omega)); simp only[length_take,length_drop]; omega) |(exact is1n ‹_›) | with_reducible assumption | omega |(have pk:=pk_len x0; simp only[length_map,length_append,length_take,length_drop,length_cons] at*; omega) |(have e1:=congrArg length hp1; simp only[length_append,length_cons,length_map] at e1 hl1⊢; omega) |(have z1:=(sz1 (a0:=a0) hy0 hy1).1; omega) |(have z2:=(sz2 (a0:=a0) hy0 hy1 (toNat (m28 a0 3 (wrap .i64 (((m19 ((m62 (m38 a0)).f0)).f1)+1))) - toNat 0)).1; omega) |(have z1:=(sz1 (a0:=a0) hy0 hy1).1; simp only[length_nil]; omega) |(unfold m19 m62 m38;(repeat' split)<;>simp_all<;>omega) | assumption |(simp only[length_map]; omega) |(simp[four_len,high4,high2]; omega)); omega)
    have hj0:=hi0; try simp only[LN,Int.toNat_natCast] at hj0
    simp only[r4_0]
    have f1:0+(length (map d_isii ((m19 ((m62 (m38 a0)).f0)).f2)))≤(length (map d_isii ((m19 ((m62 (m38 a0)).f0)).f2))):=(by omega)
    have f2:0≤(length p:Int)∧(length p:Int) <((length (map d_isii ((m19 ((m62 (m38 a0)).f0)).f2))):Int):=(by have pk:=pk_len x0; simp only[length_map,length_append,length_take,length_drop,length_cons] at*; omega)
    have f5:0+(length (map d_y v0))≤(length (map d_y v0)):=(by omega)
    have f6:0+(length (map d_y ((m22 x0).f1)))≤(length (map d_y ((m22 x0).f1))):=(by omega)
    have f7:((take (length (map d_y ((m22 x0).f1))) (drop 0 (map d_y ((m22 x0).f1)))).all fun x=>x.all copyable)=true:=(ct_y _ _ _)
    have f8:(length ((take (length (map d_y v0)) (drop 0 (map d_y v0)))++(take (length (map d_y ((m22 x0).f1))) (drop 0 (map d_y ((m22 x0).f1))))))*1≤70368744177664:=(by have pk:=pk_len x0; simp only[length_map,length_append,length_take,length_drop,length_cons] at*; omega)
    have f9:∀r∈((take (length (map d_y ((m22 x0).f1))) (drop 0 (map d_y ((m22 x0).f1)))):List (List D)),r.length=1:=(by simp only[List.drop_zero,tbr,tsi,ly_y,ly0_y,← List.map_append,List.take_length,List.cons_append,List.nil_append,append_assoc]; exact lenD_y _)
    have f10:((take (length (map d_y v0)) (drop 0 (map d_y v0)))++(take (length (map d_y ((m22 x0).f1))) (drop 0 (map d_y ((m22 x0).f1)))))=(map d_y (v0++((m22 x0).f1))):=(by simp[take_of_length_le,d_y,four_len,high4,high2]; done)
    have st:=ch b4_0 (h4_0 l0_0 a0 (length p:Int) v0) ⟨[(0,(.one (.bor l0_0 (map b_y a0)))),(3,(.one (.ref ⟨(3,0,0),[],0,(length (map d_y ((m62 (m38 a0)).f0)))⟩))),(4,(.ptr ⟨(4,0,0),[],0,0,3⟩)),(9,(.one (.ref ⟨(9,0,0),[],0,(length ((take (length (map d_y v0)) (drop 0 (map d_y v0)))++(take (length (map d_y ((m22 x0).f1))) (drop 0 (map d_y ((m22 x0).f1))))))⟩))),(10,(.oi (wrap .i64 ((length p:Int)+1))))],[((3,0,0),.live ⟨1,(map d_y ((m62 (m38 a0)).f0)),[]⟩),((4,0,0),.live ⟨3,[(d_iiLisiiE (m19 ((m62 (m38 a0)).f0)))],[]⟩),((9,0,0),.live ⟨1,(map d_y (v0++((m22 x0).f1))),[]⟩)]⟩ .normal 38 (by kernel_rfl) (.f hc (.f f1 (.f f2 (.f (mz_ d_isii Hx0) (T 10 (.h 22 (.rowD (d_isii x0)) (.r 24 [] [] (e22 (a0:=x0)) (.f f5 (.f f6 (.f f7 (.f f8 (.f f9 (.f f10 (.f trivial (T 28 (.h 31 (.norm (9,0,0) (map d_y (v0++((m22 x0).f1)))) .nil))))))))))))))))
    have ih:=t4_0 (l0_0:=l0_0) (a0:=a0) hy0 hy1 y0 (p++ [x0]) (v0++((m22 x0).f1)) (by rw[append_assoc]; exact hp0) (by have pk:=pk_len x0; simp only[length_map,length_append,length_take,length_drop,length_cons] at*; omega)
    rw[show ((p++ [x0]).length:Int)=(p.length:Int)+1 from by simp] at ih
    rw[show (⟨[(0,(.one (.bor l0_0 (map b_y a0)))),(3,(.one (.ref ⟨(3,0,0),[],0,(length (map d_y ((m62 (m38 a0)).f0)))⟩))),(4,(.ptr ⟨(4,0,0),[],0,0,3⟩)),(9,(.one (.ref ⟨(9,0,0),[],0,(length ((take (length (map d_y v0)) (drop 0 (map d_y v0)))++(take (length (map d_y ((m22 x0).f1))) (drop 0 (map d_y ((m22 x0).f1))))))⟩))),(10,(.oi (wrap .i64 ((length p:Int)+1))))],[((3,0,0),.live ⟨1,(map d_y ((m62 (m38 a0)).f0)),[]⟩),((4,0,0),.live ⟨3,[(d_iiLisiiE (m19 ((m62 (m38 a0)).f0)))],[]⟩),((9,0,0),.live ⟨1,(map d_y (v0++((m22 x0).f1))),[]⟩)]⟩:St)=h4_0 l0_0 a0 ((length p:Int)+1) (v0++((m22 x0).f1)) from(by unfold h4_0; simp[hw,take_of_length_le,d_y,d_iiLisiiE,four_len,high4,high2]; done)] at st
    exact .loopN st ih
inductive O4_1 where
  |k0 (w0:Int) (w1:Bool)
  |k1
def r4_1 (a0:(List Int)):List K_isii→List K_isii→Int→O4_1
  |x0::y0,x1::y1,i=>
    if(!((x0.f0==x1.f0) &&((x0.f1.toList==x1.f1.toList) &&((x0.f2==x1.f2) &&((x0.f3==x1.f3) && true)))))=true then(O4_1.k1) else
    (r4_1 a0 y0 y1 (i+1))
  |_,_,i=>(O4_1.k0 i (decide (i <((length (map d_isii ((m19 (take (toNat (m28 a0 3 (wrap .i64 (((m19 ((m62 (m38 a0)).f0)).f1)+1))) - toNat 0) (drop 0 ((m62 (m38 a0)).f0)))).f2))):Int))))
def h4_1 (l0_0:Nat) (a0:(List Int)) (i:Int) :St:=⟨[(3,(.one (.ref ⟨(3,0,0),[],0,(length (map d_y ((m62 (m38 a0)).f0)))⟩))),(4,(.ptr ⟨(4,0,0),[],0,0,3⟩)),(11,(.one (.val (.int .i64 (m28 a0 3 (wrap .i64 (((m19 ((m62 (m38 a0)).f0)).f1)+1))))))),(12,(.ptr ⟨(12,0,0),[],0,0,3⟩)),(13,(.one (.val (.int .i64 i))))],[((3,0,0),.live ⟨1,(map d_y ((m62 (m38 a0)).f0)),[]⟩),((4,0,0),.live ⟨3,[(d_iiLisiiE (m19 ((m62 (m38 a0)).f0)))],[]⟩),((12,0,0),.live ⟨3,[(d_iiLisiiE (m19 (take (toNat (m28 a0 3 (wrap .i64 (((m19 ((m62 (m38 a0)).f0)).f1)+1))) - toNat 0) (drop 0 ((m62 (m38 a0)).f0)))))],[]⟩)]⟩
def ex4_1:O4_1→VX.Exit
  |.k0 _ _=>(.exit 2)
  |.k1=>.ret
def fin4_1 (l0_0:Nat) (a0:(List Int)):O4_1→St
  |.k0 w0 w1=>⟨[(3,(.one (.ref ⟨(3,0,0),[],0,(length (map d_y ((m62 (m38 a0)).f0)))⟩))),(4,(.ptr ⟨(4,0,0),[],0,0,3⟩)),(11,(.one (.val (.int .i64 (m28 a0 3 (wrap .i64 (((m19 ((m62 (m38 a0)).f0)).f1)+1))))))),(12,(.ptr ⟨(12,0,0),[],0,0,3⟩)),(13,(.one (.val (.int .i64 w0)))),(175,(.one (.val (.bool w1))))],[((3,0,0),.live ⟨1,(map d_y ((m62 (m38 a0)).f0)),[]⟩),((4,0,0),.live ⟨3,[(d_iiLisiiE (m19 ((m62 (m38 a0)).f0)))],[]⟩),((12,0,0),.live ⟨3,[(d_iiLisiiE (m19 (take (toNat (m28 a0 3 (wrap .i64 (((m19 ((m62 (m38 a0)).f0)).f1)+1))) - toNat 0) (drop 0 ((m62 (m38 a0)).f0)))))],[]⟩)]⟩
  |.k1=>⟨[(2,(.one (.val (.bool false))))],[]⟩
set_option maxHeartbeats 4000000 in
theorem t4_1 {l0_0:Nat} {a0:(List Int)} (hy0:∀z∈a0,(0:Int)≤z∧z≤255) (hy1:length a0≤140737488351232):∀(y0:List K_isii) (y1:List K_isii) (p:List K_isii) (p_1:List K_isii),p++y0=(m19 (take (toNat (m28 a0 3 (wrap .i64 (((m19 ((m62 (m38 a0)).f0)).f1)+1))) - toNat 0) (drop 0 ((m62 (m38 a0)).f0)))).f2→p_1++y1=(m19 ((m62 (m38 a0)).f0)).f2→length p=length p_1→length y0≤length y1→Ev F X (.code l4_1 (h4_1 l0_0 a0 (length p:Int)) (ex4_1 (r4_1 a0 y0 y1 (length p:Int))) (fin4_1 l0_0 a0 (r4_1 a0 y0 y1 (length p:Int))))
  |[],y1,p,p_1,hp0,hp1,hq1,hl1=>by
    have hc:¬(decide ((length p:Int) <((length (map d_isii ((m19 (take (toNat (m28 a0 3 (wrap .i64 (((m19 ((m62 (m38 a0)).f0)).f1)+1))) - toNat 0) (drop 0 ((m62 (m38 a0)).f0)))).f2))):Int)))=true:=by
      rw[← hp0]; simp only[LN,decide_eq_true_eq]; omega
    have st:=ch b4_1 (h4_1 l0_0 a0 (length p:Int)) ⟨[(3,(.one (.ref ⟨(3,0,0),[],0,(length (map d_y ((m62 (m38 a0)).f0)))⟩))),(4,(.ptr ⟨(4,0,0),[],0,0,3⟩)),(11,(.oi (m28 a0 3 (wrap .i64 (((m19 ((m62 (m38 a0)).f0)).f1)+1))))),(12,(.ptr ⟨(12,0,0),[],0,0,3⟩)),(13,(.oi (length p:Int))),(175,(.one (.val (.bool (decide ((length p:Int) <((length (map d_isii ((m19 (take (toNat (m28 a0 3 (wrap .i64 (((m19 ((m62 (m38 a0)).f0)).f1)+1))) - toNat 0) (drop 0 ((m62 (m38 a0)).f0)))).f2))):Int)))))))],[((3,0,0),.live ⟨1,(map d_y ((m62 (m38 a0)).f0)),[]⟩),((4,0,0),.live ⟨3,[(d_iiLisiiE (m19 ((m62 (m38 a0)).f0)))],[]⟩),((12,0,0),.live ⟨3,[(d_iiLisiiE (m19 (take (toNat (m28 a0 3 (wrap .i64 (((m19 ((m62 (m38 a0)).f0)).f1)+1))) - toNat 0) (drop 0 ((m62 (m38 a0)).f0)))))],[]⟩)]⟩ (.exit 2) 11 (by kernel_rfl) (.f (nt hc) (U 10 .nil))
    rw[show (⟨[(3,(.one (.ref ⟨(3,0,0),[],0,(length (map d_y ((m62 (m38 a0)).f0)))⟩))),(4,(.ptr ⟨(4,0,0),[],0,0,3⟩)),(11,(.oi (m28 a0 3 (wrap .i64 (((m19 ((m62 (m38 a0)).f0)).f1)+1))))),(12,(.ptr ⟨(12,0,0),[],0,0,3⟩)),(13,(.oi (length p:Int))),(175,(.one (.val (.bool (decide ((length p:Int) <((length (map d_isii ((m19 (take (toNat (m28 a0 3 (wrap .i64 (((m19 ((m62 (m38 a0)).f0)).f1)+1))) - toNat 0) (drop 0 ((m62 (m38 a0)).f0)))).f2))):Int)))))))],[((3,0,0),.live ⟨1,(map d_y ((m62 (m38 a0)).f0)),[]⟩),((4,0,0),.live ⟨3,[(d_iiLisiiE (m19 ((m62 (m38 a0)).f0)))],[]⟩),((12,0,0),.live ⟨3,[(d_iiLisiiE (m19 (take (toNat (m28 a0 3 (wrap .i64 (((m19 ((m62 (m38 a0)).f0)).f1)+1))) - toNat 0) (drop 0 ((m62 (m38 a0)).f0)))))],[]⟩)]⟩:St)=fin4_1 l0_0 a0 (.k0 (length p:Int) (decide ((length p:Int) <((length (map d_isii ((m19 (take (toNat (m28 a0 3 (wrap .i64 (((m19 ((m62 (m38 a0)).f0)).f1)+1))) - toNat 0) (drop 0 ((m62 (m38 a0)).f0)))).f2))):Int)))) from(by rfl)] at st
    exact .loopX st (show ((.exit 2):VX.Exit)≠.normal from by simp)
  |x0::y0,[],p,p_1,hp0,hp1,hq1,hl1=>by simp only[length_cons,length_nil] at hl1; omega
  |x0::y0,x1::y1,p,p_1,hp0,hp1,hq1,hl1=>by
    have hc:(decide ((length p:Int) <((length (map d_isii ((m19 (take (toNat (m28 a0 3 (wrap .i64 (((m19 ((m62 (m38 a0)).f0)).f1)+1))) - toNat 0) (drop 0 ((m62 (m38 a0)).f0)))).f2))):Int)))=true:=by
      rw[← hp0]; simp only[LN,decide_eq_true_eq]; omega
    have Hx0:((m19 (take (toNat (m28 a0 3 (wrap .i64 (((m19 ((m62 (m38 a0)).f0)).f1)+1))) - toNat 0) (drop 0 ((m62 (m38 a0)).f0)))).f2)[toNat (length p:Int)]?=some x0:=by
      rw[← hp0,Int.toNat_natCast]; simp
    have Hx1:((m19 ((m62 (m38 a0)).f0)).f2)[toNat (length p:Int)]?=some x1:=by
      rw[← hp1,hq1,Int.toNat_natCast]; simp
    have hlen:length ((m19 (take (toNat (m28 a0 3 (wrap .i64 (((m19 ((m62 (m38 a0)).f0)).f1)+1))) - toNat 0) (drop 0 ((m62 (m38 a0)).f0)))).f2)=length p+length y0+1:=by rw[← hp0]; simp; omega
    have hw:wrap .i64 ((length p:Int)+1)=(length p:Int)+1:=wrap64 (by have hz:length ((m19 (take (toNat (m28 a0 3 (wrap .i64 (((m19 ((m62 (m38 a0)).f0)).f1)+1))) - toNat 0) (drop 0 ((m62 (m38 a0)).f0)))).f2)*40≤140737488351232:=(by first |(exact(bdG (a:=m38 a0) (S_le (S_src a0 hy0 hy1) (by omega))).2) |(have q:=bdG (a:=m38 a0) (S_le (S_src a0 hy0 hy1) (by omega)); omega) |(exact pkb _) |(have q:=pk_len (m20_1 a0); omega) |(exact(adL (a:=a0) hy0 hy1).2.1) |(have q:=adL (a:=a0) hy0 hy1; omega) |(with_reducible refine Nat.le_trans (es65 _) ?_; decide) |(exact is1 ‹_›) |(have q:=adL (a:=a0) hy0 hy1; have q2:=pk_len (m20_1 a0); simp only[bo_size]; omega) |(exact(usd (a0:=a0) hy0 hy1 ‹_› ‹_›).1) |(exact(usd (a0:=a0) hy0 hy1 ‹_› ‹_›).2.1) |(exact(usd (a0:=a0) hy0 hy1 ‹_› ‹_›).2.2.1) |(exact(usd (a0:=a0) hy0 hy1 ‹_› ‹_›).2.2.2) |(simp only[← map_drop,← map_take]; exact ints_y _) |(simp only[List.drop_zero,← map_take]; exact ints_y _) |(simp only[List.drop_zero,List.take_length]; exact ints_y _) |(exact gtd (bdG (a:=m38 a0) (S_le (S_src a0 hy0 hy1) (by omega))).2 _ _) |(have q:=bdG (a:=m38 a0) (S_le (S_src a0 hy0 hy1) (by omega)); simp only[length_take,length_drop]; omega) |(exact is1n ‹_›) | with_reducible assumption | omega |(have pk:=pk_len x0; simp only[length_map,length_append,length_take,length_drop,length_cons] at*; omega) |(have e1:=congrArg length hp1; simp only[length_append,length_cons,length_map] at e1 hl1⊢; omega) |(have z1:=(sz1 (a0:=a0) hy0 hy1).1; omega) |(have z2:=(sz2 (a0:=a0) hy0 hy1 (toNat (m28 a0 3 (wrap .i64 (((m19 ((m62 (m38 a0)).f0)).f1)+1))) - toNat 0)).1; omega) |(have z1:=(sz1 (a0:=a0) hy0 hy1).1; simp only[length_nil]; omega) | assumption |(simp only[length_take,length_drop]; omega) |(simp[four_len,high4,high2]; omega)); omega)
    simp only[r4_1]
    have f1:0+(length (map d_isii ((m19 (take (toNat (m28 a0 3 (wrap .i64 (((m19 ((m62 (m38 a0)).f0)).f1)+1))) - toNat 0) (drop 0 ((m62 (m38 a0)).f0)))).f2)))≤(length (map d_isii ((m19 (take (toNat (m28 a0 3 (wrap .i64 (((m19 ((m62 (m38 a0)).f0)).f1)+1))) - toNat 0) (drop 0 ((m62 (m38 a0)).f0)))).f2))):=(by omega)
    have f2:0≤(length p:Int)∧(length p:Int) <((length (map d_isii ((m19 (take (toNat (m28 a0 3 (wrap .i64 (((m19 ((m62 (m38 a0)).f0)).f1)+1))) - toNat 0) (drop 0 ((m62 (m38 a0)).f0)))).f2))):Int):=(by have pk:=pk_len x0; simp only[length_map,length_append,length_take,length_drop,length_cons] at*; omega)
    have f4:0+(length (map d_isii ((m19 ((m62 (m38 a0)).f0)).f2)))≤(length (map d_isii ((m19 ((m62 (m38 a0)).f0)).f2))):=(by omega)
    have f5:0≤(length p:Int)∧(length p:Int) <((length (map d_isii ((m19 ((m62 (m38 a0)).f0)).f2))):Int):=(by have e1:=congrArg length hp1; simp only[length_append,length_cons,length_map] at e1 hl1⊢; omega)
    have P1 {hs q} (r:PS F X hs q):=(PS.f hc (.f f1 (.f f2 (.f (mz_ d_isii Hx0) (.f f4 (.f f5 (.f (mz_ d_isii Hx1) (T 10 (.h 20 (.rowD (d_isii x0)) (.h 30 (.rowD (d_isii x1)) r))))))))))
    by_cases h_1:(!((x0.f0==x1.f0) &&((x0.f1.toList==x1.f1.toList) &&((x0.f2==x1.f2) &&((x0.f3==x1.f3) && true)))))=true
    · try simp only[if_pos h_1]
      have st:=ch b4_1 (h4_1 l0_0 a0 (length p:Int)) ⟨[(2,(.one (.val (.bool false))))],[]⟩ .ret 36 (by kernel_rfl) (P1 (.f h_1 (T 33 .nil)))
      rw[show (⟨[(2,(.one (.val (.bool false))))],[]⟩:St)=fin4_1 l0_0 a0 (.k1) from(by rfl)] at st
      exact .loopX st (show (.ret:VX.Exit)≠.normal from by simp)
    try simp only[if_neg h_1]
    have st:=ch b4_1 (h4_1 l0_0 a0 (length p:Int)) ⟨[(3,(.one (.ref ⟨(3,0,0),[],0,(length (map d_y ((m62 (m38 a0)).f0)))⟩))),(4,(.ptr ⟨(4,0,0),[],0,0,3⟩)),(11,(.oi (m28 a0 3 (wrap .i64 (((m19 ((m62 (m38 a0)).f0)).f1)+1))))),(12,(.ptr ⟨(12,0,0),[],0,0,3⟩)),(13,(.oi (wrap .i64 ((length p:Int)+1))))],[((3,0,0),.live ⟨1,(map d_y ((m62 (m38 a0)).f0)),[]⟩),((4,0,0),.live ⟨3,[(d_iiLisiiE (m19 ((m62 (m38 a0)).f0)))],[]⟩),((12,0,0),.live ⟨3,[(d_iiLisiiE (m19 (take (toNat (m28 a0 3 (wrap .i64 (((m19 ((m62 (m38 a0)).f0)).f1)+1))) - toNat 0) (drop 0 ((m62 (m38 a0)).f0)))))],[]⟩)]⟩ .normal 40 (by kernel_rfl) (P1 (.f (nt h_1) (.f trivial (U 33 .nil))))
    have ih:=t4_1 (l0_0:=l0_0) (a0:=a0) hy0 hy1 y0 y1 (p++ [x0]) (p_1++ [x1]) (by rw[append_assoc]; exact hp0) (by rw[append_assoc]; exact hp1) (by simp only[LN]; omega) (by simp only[LN] at hl1; omega)
    rw[show ((p++ [x0]).length:Int)=(p.length:Int)+1 from by simp] at ih
    rw[show (⟨[(3,(.one (.ref ⟨(3,0,0),[],0,(length (map d_y ((m62 (m38 a0)).f0)))⟩))),(4,(.ptr ⟨(4,0,0),[],0,0,3⟩)),(11,(.oi (m28 a0 3 (wrap .i64 (((m19 ((m62 (m38 a0)).f0)).f1)+1))))),(12,(.ptr ⟨(12,0,0),[],0,0,3⟩)),(13,(.oi (wrap .i64 ((length p:Int)+1))))],[((3,0,0),.live ⟨1,(map d_y ((m62 (m38 a0)).f0)),[]⟩),((4,0,0),.live ⟨3,[(d_iiLisiiE (m19 ((m62 (m38 a0)).f0)))],[]⟩),((12,0,0),.live ⟨3,[(d_iiLisiiE (m19 (take (toNat (m28 a0 3 (wrap .i64 (((m19 ((m62 (m38 a0)).f0)).f1)+1))) - toNat 0) (drop 0 ((m62 (m38 a0)).f0)))))],[]⟩)]⟩:St)=h4_1 l0_0 a0 ((length p:Int)+1)  from(by unfold h4_1; simp only[hw]; done)] at st
    exact .loopN st ih
end Go.Proofs.YtihjlmgakpgkeaaDoor.Journals
