/- What the functions compute. -/
import Derived.Test.YtihjlmgakpgkeaaDoorEJournalsD
import Derived.KernelRfl
namespace Go.Proofs.YtihjlmgakpgkeaaDoor.Journals
open Go Go.Proofs.YtihjlmgakpgkeaaDoor.V
set_option linter.unusedVariables false
set_option linter.unusedSimpArgs false
set_option maxRecDepth 20000
open Go.IntKind (wrap)
open Int (toNat)
open List (length_replicate length_map length_set length_append length_cons length_nil length_take length_drop take_of_length_le map_take map_drop map_set append_assoc getElem?_map map length take drop getD set)
attribute [local simp] strInts_len byteRows_len toBR_y fullR_y pureR_y lenB_y lenD_y fromBR_y copy_y toBR_LyE fullR_LyE pureR_LyE lenB_LyE lenD_LyE toBR_b fullR_b pureR_b lenB_b lenD_b fromBR_b copy_b toBR_isii fullR_isii pureR_isii lenB_isii lenD_isii fromBR_isii copy_isii toBR_iiLisiiE fullR_iiLisiiE pureR_iiLisiiE lenB_iiLisiiE lenD_iiLisiiE toBR_LyEi fullR_LyEi pureR_LyEi lenB_LyEi lenD_LyEi toBR_iLyEi fullR_iLyEi pureR_iLyEi lenB_iLyEi lenD_iLyEi toBR_iLyE fullR_iLyE pureR_iLyE lenB_iLyE lenD_iLyE toBR_i fullR_i pureR_i lenB_i lenD_i fromBR_i copy_i toBR_s fullR_s pureR_s lenB_s lenD_s fromBR_s copy_s toBR_LiE fullR_LiE pureR_LiE lenB_LiE lenD_LiE toBR_si fullR_si pureR_si lenB_si lenD_si fromBR_si copy_si toBR_R fullR_R pureR_R lenB_R lenD_R toBR_C fullR_C pureR_C lenB_C lenD_C toBR_B fullR_B pureR_B lenB_B lenD_B toBR_LsiE fullR_LsiE pureR_LsiE lenB_LsiE lenD_LsiE toBR_LLyEE fullR_LLyEE pureR_LLyEE lenB_LLyEE lenD_LLyEE toBR_LisiiE fullR_LisiiE pureR_LisiiE lenB_LisiiE lenD_LisiiE toBR_Q fullR_Q pureR_Q lenB_Q lenD_Q
inductive O19_0 where
  |k0 (w0:Int) (w1:List K_isii)
def r19_0 :Nat→Int→List K_isii→List Int→O19_0
  |n+1,v0,v1,v2=>
    if(!(m63_2 v2))=true then(O19_0.k0 v0 v1) else
    (r19_0 n (wrap .i64 (v0+(m63_1 v2))) (v1++([(m63_0 v2)])) (drop (toNat (m63_1 v2)) v2))
  |0,v0,v1,v2=>(O19_0.k0 v0 v1)
def h19_0 (l0_0:Nat) (a0:(List Int)) (v0:Int) (v1:List K_isii) (v2:List Int):St:=⟨[(0,(.one (.bor l0_0 (map b_y v2)))),(2,(.ptr ⟨(2,0,0),[],0,0,3⟩)),(3,(.ptr ⟨(3,0,0),[],0,0,3⟩))],[((2,0,0),.live ⟨3,[[(.val (.int .i64 0)),(.val (.int .i64 0)),(.own 4 [])]],[]⟩),((3,0,0),.live ⟨3,[[(.val (.int .i64 0)),(.val (.int .i64 v0)),(.own 4 (map d_isii v1))]],[]⟩)]⟩
def ex19_0:O19_0→VX.Exit
  |.k0 _ _=>.ret
def fin19_0 (l0_0:Nat) (a0:(List Int)):O19_0→St
  |.k0 w0 w1=>⟨[(2,(.ptr ⟨(2,0,0),[],0,0,3⟩))],[((2,0,0),.live ⟨3,[[(.val (.int .i64 0)),(.val (.int .i64 w0)),(.own 4 (map d_isii w1))]],[]⟩)]⟩
theorem t19_0 {l0_0:Nat} {a0:(List Int)} (hy0:∀z∈a0,(0:Int)≤z∧z≤255) (hy1:length a0≤140737488351232):∀(n:Nat) (v0:Int) (v1:List K_isii) (v2:List Int),0≤v0→v0+(length v2:Int)≤1200→(length v1:Int)≤v0→(∀z∈v1,ByteArray.size z.f1≤255)→(∀z∈v2,(0:Int)≤z∧z≤255)→length v2≤n→Ev F X (.code l19_0 (h19_0 l0_0 a0 v0 v1 v2) (ex19_0 (r19_0 n v0 v1 v2)) (fin19_0 l0_0 a0 (r19_0 n v0 v1 v2)))
  |0,v0,v1,v2,hi0,hi1,hi2,hi3,hi4,hn=>by
    have hc:(!(m63_2 v2))=true:=by first |(rw[show v2=[] from List.eq_nil_of_length_eq_zero (by omega)]; rfl) |(exact fuel64_zero hn) |(simp only[decide_eq_true_eq] at*; omega) |(simp at*; omega)
    have st:=ch b19_0 (h19_0 l0_0 a0 v0 v1 v2) ⟨[(2,(.ptr ⟨(2,0,0),[],0,0,3⟩))],[((2,0,0),.live ⟨3,[[(.i 0),(.i v0),(.own 4 (map d_isii v1))]],[]⟩)]⟩ .ret 29 (by kernel_rfl) (.r 3 [] [] (e63 (l0_0:=(l0_0+1)) (a0:=v2) ‹_› (by omega)) (.f hc (pe 0 (pe (length (map d_isii v1)) (T 24 .nil)))))
    rw[show (⟨[(2,(.ptr ⟨(2,0,0),[],0,0,3⟩))],[((2,0,0),.live ⟨3,[[(.i 0),(.i v0),(.own 4 (map d_isii v1))]],[]⟩)]⟩:St)=fin19_0 l0_0 a0 (.k0 v0 v1) from(by rfl)] at st
    exact .loopX st (show (.ret:VX.Exit)≠.normal from by simp)
  |n+1,v0,v1,v2,hi0,hi1,hi2,hi3,hi4,hn=>by
    simp only[r19_0]
    have P0 {hs q} (r:PS F X hs q):=(PS.r 3 [] [] (e63 (l0_0:=(l0_0+1)) (a0:=v2) ‹_› (by omega)) r)
    by_cases h_0:(!(m63_2 v2))=true
    · try simp only[if_pos h_0]
      have st:=ch b19_0 (h19_0 l0_0 a0 v0 v1 v2) ⟨[(2,(.ptr ⟨(2,0,0),[],0,0,3⟩))],[((2,0,0),.live ⟨3,[[(.i 0),(.i v0),(.own 4 (map d_isii v1))]],[]⟩)]⟩ .ret 29 (by kernel_rfl) (P0 (.f h_0 (pe 0 (pe (length (map d_isii v1)) (T 24 .nil)))))
      rw[show (⟨[(2,(.ptr ⟨(2,0,0),[],0,0,3⟩))],[((2,0,0),.live ⟨3,[[(.i 0),(.i v0),(.own 4 (map d_isii v1))]],[]⟩)]⟩:St)=fin19_0 l0_0 a0 (.k0 v0 v1) from(by rfl)] at st
      exact .loopX st (show (.ret:VX.Exit)≠.normal from by simp)
    try simp only[if_neg h_0]
    have f2:0+(length (map d_isii v1))≤(length (map d_isii v1)):=(by omega)
    have f3:1≤1:=(by omega)
    have f4:((take 1 (drop 0 [[(.i ((m63_0 v2).f0)),(.val (.string ((m63_0 v2).f1))),(.i ((m63_0 v2).f2)),(.i ((m63_0 v2).f3))]])).all fun x=>x.all copyable)=true:=(by exact(rfl:(true:Bool)=true))
    have f5:(length ((take (length (map d_isii v1)) (drop 0 (map d_isii v1)))++([[(.i ((m63_0 v2).f0)),(.val (.string ((m63_0 v2).f1))),(.i ((m63_0 v2).f2)),(.i ((m63_0 v2).f3))]]:List (List D))))*40≤70368744177664:=(by have q:=re_ok (d:=v2) (by assumption) (by assumption); simp only[length_map,length_append,length_cons,length_nil,length_take,length_drop]; omega)
    have f6:∀r∈([[(.i ((m63_0 v2).f0)),(.val (.string ((m63_0 v2).f1))),(.i ((m63_0 v2).f2)),(.i ((m63_0 v2).f3))]]:List (List D)),r.length=4:=(by intro r hr; rw[List.mem_singleton.1 hr]; rfl)
    have f8:(0≤(m63_1 v2)∧(m63_1 v2)≤((length (map b_y v2)):Int)∧((length (map b_y v2)):Int)≤((length (map b_y v2)):Int))∧∀r∈((map b_y v2):List (List B)),r.length=1:=(by exact⟨(by have q:=re_ok (d:=v2) (by assumption) (by assumption); simp only[length_map]; omega),(by exact lenB_y _)⟩)
    have f11:([[(.i 0),(.i (wrap .i64 (v0+(m63_1 v2)))),(.own 4 ((take (length (map d_isii v1)) (drop 0 (map d_isii v1)))++([[(.i ((m63_0 v2).f0)),(.val (.string ((m63_0 v2).f1))),(.i ((m63_0 v2).f2)),(.i ((m63_0 v2).f3))]]:List (List D))))]]:List (List D))=[[(.i 0),(.i (wrap .i64 (v0+(m63_1 v2)))),(.own 4 (map d_isii (v1++([(m63_0 v2)]))))]]:=(by simp[take_of_length_le,d_isii,four_len,high4,high2]; done)
    have st:=ch b19_0 (h19_0 l0_0 a0 v0 v1 v2) ⟨[(0,(.one (.bor l0_0 (take (toNat ((length (map b_y v2)):Int) - toNat (m63_1 v2)) (drop (toNat (m63_1 v2)) (map b_y v2)))))),(2,(.ptr ⟨(2,0,0),[],0,0,3⟩)),(3,(.ptr ⟨(3,0,0),[],0,0,3⟩))],[((2,0,0),.live ⟨3,[[(.i 0),(.i 0),(.own 4 [])]],[]⟩),((3,0,0),.live ⟨3,[[(.i 0),(.i (wrap .i64 (v0+(m63_1 v2)))),(.own 4 (map d_isii (v1++([(m63_0 v2)]))))]],[]⟩)]⟩ .normal 60 (by kernel_rfl) (P0 (.f (nt h_0) (.f f2 (.f f3 (.f f4 (.f f5 (.f f6 (.f trivial (.f f8 (pe 0 (pe (length ((take (length (map d_isii v1)) (drop 0 (map d_isii v1)))++([[(.i ((m63_0 v2).f0)),(.val (.string ((m63_0 v2).f1))),(.i ((m63_0 v2).f2)),(.i ((m63_0 v2).f3))]]:List (List D)))) (.f f11 (U 24 (T 34 (.h 59 (.norm (3,0,0) [[(.i 0),(.i (wrap .i64 (v0+(m63_1 v2)))),(.own 4 (map d_isii (v1++([(m63_0 v2)]))))]]) .nil)))))))))))))))
    have ih:=t19_0 (l0_0:=l0_0) (a0:=a0) hy0 hy1 n (wrap .i64 (v0+(m63_1 v2))) (v1++([(m63_0 v2)])) (drop (toNat (m63_1 v2)) v2) (by have q:=re_ok (d:=v2) (by assumption) (by assumption); rw[wrap64 (by omega)]; omega) (by have q:=re_ok (d:=v2) (by assumption) (by assumption); simp only[length_map,length_append,length_cons,length_nil,length_drop]; rw[wrap64 (by omega)]; omega) (by have q:=re_ok (d:=v2) (by assumption) (by assumption); simp only[length_map,length_append,length_cons,length_nil,length_drop]; rw[wrap64 (by omega)]; omega) (by have q:=re_ok (d:=v2) (by assumption) (by assumption); intro z hz; rcases List.mem_append.1 hz with hz | hz; exact hi3 z hz; rw[List.mem_singleton.1 hz]; exact q.2.2) (by exact gdr (by assumption) _) (by have q:=re_ok (d:=v2) (by assumption) (by assumption); simp only[length_drop]; omega)
    rw[show (⟨[(0,(.one (.bor l0_0 (take (toNat ((length (map b_y v2)):Int) - toNat (m63_1 v2)) (drop (toNat (m63_1 v2)) (map b_y v2)))))),(2,(.ptr ⟨(2,0,0),[],0,0,3⟩)),(3,(.ptr ⟨(3,0,0),[],0,0,3⟩))],[((2,0,0),.live ⟨3,[[(.i 0),(.i 0),(.own 4 [])]],[]⟩),((3,0,0),.live ⟨3,[[(.i 0),(.i (wrap .i64 (v0+(m63_1 v2)))),(.own 4 (map d_isii (v1++([(m63_0 v2)]))))]],[]⟩)]⟩:St)=h19_0 l0_0 a0 (wrap .i64 (v0+(m63_1 v2))) (v1++([(m63_0 v2)])) (drop (toNat (m63_1 v2)) v2) from(by unfold h19_0; simp[take_of_length_le,d_isii,four_len,high4,high2]; done)] at st
    exact .loopN st ih
def post19_0 (a0:(List Int)):O19_0→Prop
  |.k0 _ w1=>length w1≤1200∧(∀z∈w1,ByteArray.size z.f1≤255)
theorem z19_0 {a0:(List Int)} (hy0:∀z∈a0,(0:Int)≤z∧z≤255) (hy1:length a0≤140737488351232):∀(n:Nat) (v0:Int) (v1:List K_isii) (v2:List Int),0≤v0→v0+(length v2:Int)≤1200→(length v1:Int)≤v0→(∀z∈v1,ByteArray.size z.f1≤255)→(∀z∈v2,(0:Int)≤z∧z≤255)→post19_0 a0 (r19_0 n v0 v1 v2)
  |0,v0,v1,v2,hi0,hi1,hi2,hi3,hi4=>by
    simp only[r19_0]
    first | trivial |(show _ ; simp only[post19_0]; omega) |(simp only[post19_0] at*; omega) |(have q:=re_ok (d:=v2) (by assumption) (by assumption); rw[wrap64 yb]; omega) |(have q:=re_ok (d:=v2) (by assumption) (by assumption); simp only[length_map,length_append,length_cons,length_nil,length_drop]; rw[wrap64 yb]; omega) |(have q:=re_ok (d:=v2) (by assumption) (by assumption); simp only[length_map,length_append,length_cons,length_nil,length_drop]; omega) |(have q:=re_ok (d:=v2) (by assumption) (by assumption); intro z hz; rcases List.mem_append.1 hz with hz | hz; exact hi3 z hz; rw[List.mem_singleton.1 hz]; exact q.2.2) |(exact gdr (by assumption) _) |(show _∧_; exact⟨by omega,by assumption⟩) |(simp only[decide_eq_true_eq] at*; omega)
  |n+1,v0,v1,v2,hi0,hi1,hi2,hi3,hi4=>by
    simp only[r19_0]
    by_cases h_0:(!(m63_2 v2))=true
    · try simp only[if_pos h_0]
      first | trivial |(show _ ; simp only[post19_0]; omega) |(simp only[post19_0] at*; omega) |(have q:=re_ok (d:=v2) (by assumption) (by assumption); rw[wrap64 yb]; omega) |(have q:=re_ok (d:=v2) (by assumption) (by assumption); simp only[length_map,length_append,length_cons,length_nil,length_drop]; rw[wrap64 yb]; omega) |(have q:=re_ok (d:=v2) (by assumption) (by assumption); simp only[length_map,length_append,length_cons,length_nil,length_drop]; omega) |(have q:=re_ok (d:=v2) (by assumption) (by assumption); intro z hz; rcases List.mem_append.1 hz with hz | hz; exact hi3 z hz; rw[List.mem_singleton.1 hz]; exact q.2.2) |(exact gdr (by assumption) _) |(show _∧_; exact⟨by omega,by assumption⟩) |(simp only[decide_eq_true_eq] at*; omega)
    try simp only[if_neg h_0]
    exact z19_0 (a0:=a0) hy0 hy1 n (wrap .i64 (v0+(m63_1 v2))) (v1++([(m63_0 v2)])) (drop (toNat (m63_1 v2)) v2) yan yt yt yP (by exact gdr (by assumption) _)
def m19 (a0:(List Int)):K_iiLisiiE:=
  if(decide (((length (map b_y a0)):Int) > 1200))=true then(K_iiLisiiE.mk 2 0 []) else
  (match r19_0 (length a0) 0 [] a0 with | .k0 w0_1 w1_1=>(K_iiLisiiE.mk 0 w0_1 w1_1))
theorem e19 {l0_0:Nat} {a0:(List Int)} (hy0:∀z∈a0,(0:Int)≤z∧z≤255) (hy1:length a0≤140737488351232):Ev F X (.call 19 [(.one (.bor l0_0 (map b_y a0)))] [] [] [(.agg (d_iiLisiiE (m19 a0)))]):=by
  unfold m19
  by_cases h0:(decide (((length (map b_y a0)):Int) > 1200))=true
  · try simp only[if_pos h0]
    have f1:pureR []=true:=(by exact(rfl:(true:Bool)=true))
    exact cp ya (.f h0 (.f f1 (T 8 .nil)))
  try simp only[if_neg h0]
  cases h1:r19_0 (length a0) 0 [] a0 with
  |k0 w0_1 w1_1=>
    try dsimp only
    have zh1:=z19_0 (a0:=a0) (by assumption) (by assumption) (length a0) 0 [] a0 yb yI yw yM yb; rw[h1] at zh1; simp only[post19_0] at zh1
    have f1:(⟨[(0,(.one (.bor l0_0 (map b_y a0)))),(2,(.ptr ⟨(2,0,0),[],0,0,3⟩)),(3,(.ptr ⟨(3,0,0),[],0,0,3⟩))],[((2,0,0),.live ⟨3,[[(.i 0),(.i 0),(.own 4 [])]],[]⟩),((3,0,0),.live ⟨3,[[(.i 0),(.i 0),(.own 4 [])]],[]⟩)]⟩:St)=h19_0 l0_0 a0 0 [] a0:=yv
    exact cp ya (N h0 (.f f1 (.f (ev_ (e:=ex19_0) (g:=(fin19_0 l0_0 a0)) h1 (t19_0 (l0_0:=l0_0) (a0:=a0) (by assumption) (by assumption) (length a0) 0 [] a0 yb yI yw yM yb (Nat.le_refl _))) (.f (pureR_isii w1_1) (U 8 (.h 15 (.loop (h19_0 l0_0 a0 0 [] a0) .ret ⟨[(2,(.ptr ⟨(2,0,0),[],0,0,3⟩))],[((2,0,0),.live ⟨3,[[(.i 0),(.i w0_1),(.own 4 (map d_isii w1_1))]],[]⟩)]⟩) .nil))))))

theorem sze (a0:List Int) (hb:∀z∈a0,(0:Int)≤z∧z≤255) (hl:length a0≤140737488351232):length (m19 a0).f2≤1200∧∀z∈(m19 a0).f2,ByteArray.size z.f1≤255:=by
  unfold m19
  split
  · simp
  rename_i h
  have z:=z19_0 (a0:=a0) hb hl (length a0) 0 [] a0 yb (by simp only[decide_eq_true_eq,length_map] at h; omega) (by simp) (by simp) hb
  cases hr:r19_0 (length a0) 0 [] a0 with
  |k0 w0 w1=>rw[hr] at z; exact z
def o65_0 (a0:K_LyEi):K_LyEi:=
  if((m48 (K_LyEi.mk a0.f0 ((o110_0 a0).f1)) 10)==0)=true then(K_LyEi.mk a0.f0 ((o41_0 (K_LyEi.mk a0.f0 ((o48_0 (K_LyEi.mk a0.f0 ((o110_0 a0).f1)) 10).f1)) [0,2,3,6]).f1)) else
  if((m48 (K_LyEi.mk a0.f0 ((o110_0 a0).f1)) 10)==1)=true then(K_LyEi.mk a0.f0 ((o48_0 (K_LyEi.mk a0.f0 ((o48_0 (K_LyEi.mk a0.f0 ((o110_0 a0).f1)) 10).f1)) 2).f1)) else
    if((m48 (K_LyEi.mk a0.f0 ((o110_0 a0).f1)) 10)==2)=true then(K_LyEi.mk a0.f0 ((o41_0 (K_LyEi.mk a0.f0 ((o48_0 (K_LyEi.mk a0.f0 ((o110_0 a0).f1)) 10).f1)) [0,10000,(-1)]).f1)) else
      (K_LyEi.mk a0.f0 ((o48_0 (K_LyEi.mk a0.f0 ((o110_0 a0).f1)) 10).f1))
def m65 (a0:K_LyEi):K_isii:=
  if((m48 (K_LyEi.mk a0.f0 ((o110_0 a0).f1)) 10)==0)=true then(K_isii.mk (m41 (K_LyEi.mk a0.f0 ((o48_0 (K_LyEi.mk a0.f0 ((o110_0 a0).f1)) 10).f1)) [0,2,3,6]) ((m110 a0).f1) ((m110 a0).f2) ((m110 a0).f3)) else
  if((m48 (K_LyEi.mk a0.f0 ((o110_0 a0).f1)) 10)==1)=true then(K_isii.mk ((m110 a0).f0) (getD ([(⟨#[]⟩:ByteArray),(⟨#[97,32,98]⟩:ByteArray)]) (toNat (m48 (K_LyEi.mk a0.f0 ((o48_0 (K_LyEi.mk a0.f0 ((o110_0 a0).f1)) 10).f1)) 2)) (⟨#[]⟩:ByteArray)) ((m110 a0).f2) ((m110 a0).f3)) else
    if((m48 (K_LyEi.mk a0.f0 ((o110_0 a0).f1)) 10)==2)=true then(K_isii.mk ((m110 a0).f0) ((m110 a0).f1) ((m110 a0).f2) (m41 (K_LyEi.mk a0.f0 ((o48_0 (K_LyEi.mk a0.f0 ((o110_0 a0).f1)) 10).f1)) [0,10000,(-1)])) else
      (m110 a0)
theorem e65 {l0_0:Nat} {a0:K_LyEi} (hy0:S a0 10):Ev F X (.call 65 [(.ptr ⟨(0,0,0),[],0,0,2⟩)] [((0,0,0),⟨2,[[(.bor (l0_0+1) (map b_y a0.f0)),(.val (.int .i64 a0.f1))]],[]⟩)] [[[(.bor l0_0 (map b_y a0.f0)),(.val (.int .i64 ((o65_0 a0).f1)))]]] [(.agg [(.val (.int .i64 ((m65 a0).f0))),(.val (.string ((m65 a0).f1))),(.val (.int .i64 ((m65 a0).f2))),(.val (.int .i64 ((m65 a0).f3)))])]):=by
  unfold m65 o65_0
  have P0 {hs q} (r:PS F X hs q):=(PS.r 5 [false] [] (e110 (l0_0:=(l0_0+1)) (a0:=a0) ym) (.r 13 [false] [] (e48 (l0_0:=(l0_0+1)) (a0:=(zz a0 (o110_0 a0))) (a1:=10) ym) r))
  by_cases h0:((m48 (zz a0 (o110_0 a0)) 10)==0)=true
  · try simp only[if_pos h0]
    have f3:4≤4:=yb
    have f4:fullR (take 4 (drop 0 [[(.i 0)],[(.i 2)],[(.i 3)],[(.i 6)]]))=true:=yA
    have f5:toBR (take 4 (drop 0 [[(.i 0)],[(.i 2)],[(.i 3)],[(.i 6)]]))=[[(.i 0)],[(.i 2)],[(.i 3)],[(.i 6)]]:=yA
    exact cq [false] ya (P0 (.f h0 (.f f3 (.f f4 (.f f5 (T 18 (.r 24 [false] [[[(.i 0)],[(.i 2)],[(.i 3)],[(.i 6)]]] (e41 (l0_0:=(l0_0+1)) (l1_0:=0) (a0:=(zz a0 (o48_0 (zz a0 (o110_0 a0)) 10))) (a1:=[0,2,3,6]) ym yM yM) .nil)))))))
  try simp only[if_neg h0]
  by_cases h1:((m48 (zz a0 (o110_0 a0)) 10)==1)=true
  · try simp only[if_pos h1]
    have f5:2≤2:=yb
    have f6:0≤(m48 (zz a0 (o48_0 (zz a0 (o110_0 a0)) 10)) 2)∧(m48 (zz a0 (o48_0 (zz a0 (o110_0 a0)) 10)) 2) <(2:Int):=(by exact rng _ _ ym yb yb)
    have f7:([[(.val (.string (⟨#[]⟩:ByteArray)))],[(.val (.string (⟨#[97,32,98]⟩:ByteArray)))]]:List (List D))[(0+(toNat (m48 (zz a0 (o48_0 (zz a0 (o110_0 a0)) 10)) 2)))]?=some [(.val (.string (getD ([(⟨#[]⟩:ByteArray),(⟨#[97,32,98]⟩:ByteArray)]) (toNat (m48 (zz a0 (o48_0 (zz a0 (o110_0 a0)) 10)) 2)) (⟨#[]⟩:ByteArray))))]:=(show (map d_s [(⟨#[]⟩:ByteArray),(⟨#[97,32,98]⟩:ByteArray)])[(0+(toNat (m48 (zz a0 (o48_0 (zz a0 (o110_0 a0)) 10)) 2)))]?=some [(.val (.string (getD ([(⟨#[]⟩:ByteArray),(⟨#[97,32,98]⟩:ByteArray)]) (toNat (m48 (zz a0 (o48_0 (zz a0 (o110_0 a0)) 10)) 2)) (⟨#[]⟩:ByteArray))))] from(by rw[Nat.zero_add,getElem?_map,getD_at ([(⟨#[]⟩:ByteArray),(⟨#[97,32,98]⟩:ByteArray)]) (toNat (m48 (zz a0 (o48_0 (zz a0 (o110_0 a0)) 10)) 2)) (⟨#[]⟩:ByteArray) (by first | exact True.intro | with_reducible rfl | with_reducible assumption | omega |((repeat (first | with_reducible refine sm110 ?_ rfl | with_reducible refine sm41 _ ?_ rfl | with_reducible refine sm48 _ ?_ rfl | with_reducible refine sm40 ?_ rfl)); exact S_le (by assumption) yb) |(exact rng _ _ ym yb yb) |(have q:=rng _ _ ym yb yb; simp only[length_cons,length_nil]; omega) |(have q:=(rng _ _ ym yb yb).2; exact Int.toNat_lt_of_lt q) |(simp; done) |(unfold m48;(repeat' split)<;>simp_all<;>omega) |(simp only[decide_eq_true_eq] at*; omega) |(simp only[length_cons,length_nil]; omega) |(simp[four_len,high4,high2]; omega) |(simp[take_of_length_le,four_len,high4,high2]; done) | assumption | trivial |(simp[*,four_len,high4,high2,byteRows_eq,ints_y]; done))]; rfl))
    exact cq [false] ya (P0 (N h0 (.f h1 (U 18 (T 23 (.r 29 [false] [] (e48 (l0_0:=(l0_0+1)) (a0:=(zz a0 (o48_0 (zz a0 (o110_0 a0)) 10))) (a1:=2) ym) (.f f5 (.f f6 (.f f7 (.h 33 (.rowD [(.val (.string (getD ([(⟨#[]⟩:ByteArray),(⟨#[97,32,98]⟩:ByteArray)]) (toNat (m48 (zz a0 (o48_0 (zz a0 (o110_0 a0)) 10)) 2)) (⟨#[]⟩:ByteArray))))]) .nil))))))))))
  try simp only[if_neg h1]
  by_cases h2:((m48 (zz a0 (o110_0 a0)) 10)==2)=true
  · try simp only[if_pos h2]
    have f5:3≤3:=yb
    have f6:fullR (take 3 (drop 0 [[(.i 0)],[(.i 10000)],[(.i (-1))]]))=true:=yA
    have f7:toBR (take 3 (drop 0 [[(.i 0)],[(.i 10000)],[(.i (-1))]]))=[[(.i 0)],[(.i 10000)],[(.i (-1))]]:=yA
    exact cq [false] ya (P0 (N h0 (N h1 (.f h2 (.f f5 (.f f6 (.f f7 (U 18 (U 23 (T 28 (.r 34 [false] [[[(.i 0)],[(.i 10000)],[(.i (-1))]]] (e41 (l0_0:=(l0_0+1)) (l1_0:=0) (a0:=(zz a0 (o48_0 (zz a0 (o110_0 a0)) 10))) (a1:=[0,10000,(-1)]) ym yM yM) .nil)))))))))))
  try simp only[if_neg h2]
  exact cq [false] ya (P0 (N h0 (N h1 (N h2 (U 18 (U 23 (U 28 .nil)))))))
theorem sm65 {a:K_LyEi} {n:Nat} {f:List Int} (h:S a (n+8)) (e:a.f0=f):S (K_LyEi.mk f ((o65_0 a).f1)) n:=by
  have e2:(o65_0 a).f0=a.f0:=by unfold o65_0;(repeat' split)<;>rfl
  have h3:S (o65_0 a) n:=by
    unfold o65_0
    (repeat' split)<;>((repeat (first | with_reducible refine sm110 ?_ rfl | with_reducible refine sm41 _ ?_ rfl | with_reducible refine sm48 _ ?_ rfl | with_reducible refine sm40 ?_ rfl)); exact S_le h yb)
  rw[← e,← e2]; exact h3
theorem es65 (a:K_LyEi):ByteArray.size (m65 a).f1≤3:=by
  unfold m65
  (repeat' split)<;>first | exact es110 _ | exact gsz _ yam _
def m20_0 (a0:(List Int)):K_LyEi:=
  if (m64 (K_LyEi.mk ((m38 a0).f0) ((o62_0 (m38 a0)).f1)) 10) = true then (if (decide (((length (map d_y ((m62 (m38 a0)).f0))) : Int) < 1190)) = true then (K_LyEi.mk (((m62 (m38 a0)).f0) ++ (List.replicate (toNat (wrap .i64 (1190 - ((length (map d_y ((m62 (m38 a0)).f0))) : Int)))) 0)) ((m62 (m38 a0)).f1)) else
    (m62 (m38 a0))) else
  (m62 (m38 a0))
def m20_1 (a0:(List Int)):K_isii:=
  (m65 (K_LyEi.mk ((m38 a0).f0) ((o64_0 (K_LyEi.mk ((m38 a0).f0) ((o62_0 (m38 a0)).f1)) 10).f1)))
theorem e20 {l0_0:Nat} {a0:(List Int)} (hy0:∀z∈a0,(0:Int)≤z∧z≤255) (hy1:length a0≤140737488351232):Ev F X (.call 20 [(.one (.bor l0_0 (map b_y a0)))] [] [] [(.agg (d_LyEi (m20_0 a0))),(.agg [(.val (.int .i64 ((m20_1 a0).f0))),(.val (.string ((m20_1 a0).f1))),(.val (.int .i64 ((m20_1 a0).f2))),(.val (.int .i64 ((m20_1 a0).f3)))])]):=by
  unfold m20_0 m20_1
  have P0 {hs q} (r:PS F X hs q):=(PS.r 7 [] [] (e38 (l0_0:=l0_0) (a0:=a0)) (.r 13 [false] [] (e62 (l0_0:=l0_0) (a0:=(m38 a0)) yg) (pe 0 (pe (length (map d_y ((m62 (m38 a0)).f0))) (.r 21 [false] [] (e64 (l0_0:=l0_0) (a0:=(zz (m38 a0) (o62_0 (m38 a0)))) (a1:=10) yg) r)))))
  by_cases h0:(m64 (zz (m38 a0) (o62_0 (m38 a0))) 10)=true
  · try simp only[if_pos h0]
    have P1 {hs q} (r:PS F X hs q):=(P0 (.f h0 (.f h0 (.f h0 (.f h0 (.f h0 (T 24 (T 26 (T 28 (T 30 (T 33 r)))))))))))
    by_cases h1:(decide (((length (map d_y ((m62 (m38 a0)).f0))):Int) < 1190))=true
    · try simp only[if_pos h1]
      have f11:0+(length (map d_y ((m62 (m38 a0)).f0)))≤(length (map d_y ((m62 (m38 a0)).f0))):=yb
      have f12:0≤(wrap .i64 (1190 - ((length (map d_y ((m62 (m38 a0)).f0))):Int)))∧(length ((take (length (map d_y ((m62 (m38 a0)).f0))) (drop 0 (map d_y ((m62 (m38 a0)).f0))))++(List.replicate (toNat (wrap .i64 (1190 - ((length (map d_y ((m62 (m38 a0)).f0))):Int)))) [(.val (.int .u8 0))])))≤70368744177664∧(length ((take (length (map d_y ((m62 (m38 a0)).f0))) (drop 0 (map d_y ((m62 (m38 a0)).f0))))++(List.replicate (toNat (wrap .i64 (1190 - ((length (map d_y ((m62 (m38 a0)).f0))):Int)))) [(.val (.int .u8 0))])))*1≤70368744177664:=(by have q:=bdG (a:=m38 a0) (S_le (S_src a0 hy0 hy1) yb); simp only[decide_eq_true_eq,length_map,length_append,length_replicate,length_take,length_drop,List.nil_append] at*; rw[wrap64 yb]; omega)
      have f15:([[(.own 1 ((take (length (map d_y ((m62 (m38 a0)).f0))) (drop 0 (map d_y ((m62 (m38 a0)).f0))))++(List.replicate (toNat (wrap .i64 (1190 - ((length (map d_y ((m62 (m38 a0)).f0))):Int)))) [(.val (.int .u8 0))]))),(.i ((m62 (m38 a0)).f1))]]:List (List D))=[[(.own 1 (map d_y (((m62 (m38 a0)).f0)++(List.replicate (toNat (wrap .i64 (1190 - ((length (map d_y ((m62 (m38 a0)).f0))):Int)))) 0)))),(.i ((m62 (m38 a0)).f1))]]:=(by simp[take_of_length_le,d_y,four_len,high4,high2]; done)
      exact cp ya (P1 (.f h1 (.f f11 (.f f12 (pe 0 (pe (length ((take (length (map d_y ((m62 (m38 a0)).f0))) (drop 0 (map d_y ((m62 (m38 a0)).f0))))++(List.replicate (toNat (wrap .i64 (1190 - ((length (map d_y ((m62 (m38 a0)).f0))):Int)))) [(.val (.int .u8 0))]))) (.f f15 (T 34 (.h 53 (.norm (5,0,0) [[(.own 1 (map d_y (((m62 (m38 a0)).f0)++(List.replicate (toNat (wrap .i64 (1190 - ((length (map d_y ((m62 (m38 a0)).f0))):Int)))) 0)))),(.i ((m62 (m38 a0)).f1))]]) (.r 59 [false] [] (e65 (l0_0:=l0_0) (a0:=(zz (m38 a0) (o64_0 (zz (m38 a0) (o62_0 (m38 a0))) 10))) yg) (pe 0 (pe (length (map d_y (((m62 (m38 a0)).f0)++(List.replicate (toNat (wrap .i64 (1190 - ((length (map d_y ((m62 (m38 a0)).f0))):Int)))) 0)))) (.f (pureR_y (((m62 (m38 a0)).f0)++(List.replicate (toNat (wrap .i64 (1190 - ((length (map d_y ((m62 (m38 a0)).f0))):Int)))) 0))) .nil)))))))))))))
    try simp only[if_neg h1]
    exact cp ya (P1 (N h1 (U 34 (.r 40 [false] [] (e65 (l0_0:=l0_0) (a0:=(zz (m38 a0) (o64_0 (zz (m38 a0) (o62_0 (m38 a0))) 10))) yg) (pe 0 (pe (length (map d_y ((m62 (m38 a0)).f0))) (.f (pureR_y ((m62 (m38 a0)).f0)) .nil)))))))
  try simp only[if_neg h0]
  exact cp ya (P0 (N h0 (N h0 (N h0 (N h0 (N h0 (U 24 (U 26 (U 28 (U 30 (U 33 (.r 40 [false] [] (e65 (l0_0:=l0_0) (a0:=(zz (m38 a0) (o64_0 (zz (m38 a0) (o62_0 (m38 a0))) 10))) yg) (pe 0 (pe (length (map d_y ((m62 (m38 a0)).f0))) (.f (pureR_y ((m62 (m38 a0)).f0)) .nil)))))))))))))))
theorem adL {a:List Int} (h:∀z∈a,(0:Int)≤z∧z≤255) (hl:a.length≤140737488351232):(m20_0 a).f0.length≤1201∧(∀z∈(m20_0 a).f0,(0:Int)≤z∧z≤255)∧ByteArray.size (m20_1 a).f1≤3:=by
  have q:=bdG (a:=m38 a) (S_le (S_src a h hl) yb)
  refine⟨?_,?_,es65 _⟩
  all_goals
    unfold m20_0
    (repeat' split)<;>first | exact q.1 | exact q.2 | skip
  · rename_i h1
    simp only[decide_eq_true_eq,length_map] at h1
    simp only[length_append,length_replicate,length_map]
    rw[wrap64 yb]; omega
  intro y hy
  rcases List.mem_append.1 hy with hy | hy
  · exact q.2 y hy
  rw[List.eq_of_mem_replicate hy]; decide
def m22 (a0:K_isii):K_iLyE:=
  if((m24 a0) !=0)=true then(K_iLyE.mk (m24 a0) []) else
  (K_iLyE.mk 0 (m68 a0))
theorem e22 {a0:K_isii}:Ev F X (.call 22 [(.agg [(.val (.int .i64 a0.f0)),(.val (.string a0.f1)),(.val (.int .i64 a0.f2)),(.val (.int .i64 a0.f3))])] [] [] [(.agg (d_iLyE (m22 a0)))]):=by
  unfold m22
  by_cases h0:((m24 a0) !=0)=true
  · try simp only[if_pos h0]
    have f2:pureR []=true:=yA
    exact cp ya (.r 7 [] [] (e24 (a0:=a0)) (.f h0 (.f f2 (T 14 .nil))))
  try simp only[if_neg h0]
  exact cp ya (.r 7 [] [] (e24 (a0:=a0)) (N h0 (U 14 (.r 18 [] [] (e68 (a0:=a0) (by have q:=fault_len24 ‹_›; omega)) (pe 0 (pe (length (map d_y (m68 a0))) (.f (pureR_y (m68 a0)) .nil)))))))
theorem okm22 (a0:K_isii):ok_iLyE (m22 a0):=by
  unfold m22
  split
  · simp[ok_LyE,ok_iiLisiiE,ok_LyEi,ok_iLyEi,ok_iLyE,ok_LiE,ok_R,ok_C,ok_B,ok_LsiE,ok_LLyEE,ok_LisiiE,ok_Q]
  have q:=pack_len68 a0 (by have:=fault_len24 (a:=a0) (by assumption); omega)
  simp only[ok_LyE,ok_iiLisiiE,ok_LyEi,ok_iLyEi,ok_iLyE,ok_LiE,ok_R,ok_C,ok_B,ok_LsiE,ok_LLyEE,ok_LisiiE,ok_Q]; omega
theorem pk_len (a:K_isii):length (m22 a).f1≤2000:=by
  unfold m22
  split
  · simp
  exact pack_len68 a (by have:=fault_len24 (a:=a) (by assumption); omega)
theorem pkb (a:K_isii):∀z∈(m22 a).f1,(0:Int)≤z∧z≤255:=by
  unfold m22
  split
  · intro z hz; cases hz
  exact pib a (by have:=fault_len24 (a:=a) (by assumption); omega)
def m66 (a0:K_LyEi):Int:=
  if(decide (((length (map b_y a0.f0)):Int) > 1200))=true then 2 else
  if(!(m45 a0.f1 0 ((length (map b_y a0.f0)):Int)))=true then 3 else
    0
theorem e66 {l0_0:Nat} {a0:K_LyEi}:Ev F X (.call 66 [(.agg (k_LyEi l0_0 a0))] [] [] [(.one (.val (.int .i64 (m66 a0))))]):=by
  unfold m66
  by_cases h0:(decide (((length (map b_y a0.f0)):Int) > 1200))=true
  · try simp only[if_pos h0]
    exact cp ya (.f h0 (T 14 .nil))
  try simp only[if_neg h0]
  have P1 {hs q} (r:PS F X hs q):=(PS.f (nt h0) (U 14 (.r 26 [] [] (e45 (a0:=a0.f1) (a1:=0) (a2:=((length (map b_y a0.f0)):Int))) r)))
  by_cases h1:(!(m45 a0.f1 0 ((length (map b_y a0.f0)):Int)))=true
  · try simp only[if_pos h1]
    exact cp ya (P1 (.f h1 (T 31 .nil)))
  try simp only[if_neg h1]
  exact cp ya (P1 (N h1 (U 31 .nil)))
theorem disk_len66 {a:K_LyEi} (h:¬((m66 a) !=0)=true):length a.f0≤1200:=by
  have h2:m66 a=0:=by simpa using h
  unfold m66 at h2
  split at h2
  · cases h2
  rename_i h3
  simp only[decide_eq_true_eq,length_map] at h3
  omega
def m21 (a0:K_LyEi) (a1:K_isii):K_iLyEi:=
  if((m66 a0) !=0)=true then(K_iLyEi.mk (m66 a0) [] 0) else
  if(((m22 a1).f0) !=0)=true then(K_iLyEi.mk ((m22 a1).f0) [] 0) else
    if(decide ((wrap .i64 (((length (map b_y a0.f0)):Int)+((length (map d_y ((m22 a1).f1))):Int))) > 1200))=true then(K_iLyEi.mk 10 [] 0) else
      (K_iLyEi.mk 0 (m67 [a0.f0,((m22 a1).f1)]) a0.f1)
theorem e21 {l0_0:Nat} {a0:K_LyEi} {a1:K_isii} (hy0:length a0.f0*1≤70368744177664):Ev F X (.call 21 [(.agg (k_LyEi l0_0 a0)),(.agg [(.val (.int .i64 a1.f0)),(.val (.string a1.f1)),(.val (.int .i64 a1.f2)),(.val (.int .i64 a1.f3))])] [] [] [(.agg (d_iLyEi (m21 a0 a1)))]):=by
  unfold m21
  have P0 {hs q} (r:PS F X hs q):=(PS.r 9 [] [] (e66 (l0_0:=(l0_0+1)) (a0:=a0)) r)
  by_cases h0:((m66 a0) !=0)=true
  · try simp only[if_pos h0]
    have f2:pureR []=true:=yA
    exact cp ya (P0 (.f h0 (.f f2 (T 16 .nil))))
  try simp only[if_neg h0]
  have P1 {hs q} (r:PS F X hs q):=(P0 (N h0 (U 16 (.r 20 [] [] (e22 (a0:=a1)) (pe 0 (pe (length (map d_y ((m22 a1).f1))) r))))))
  by_cases h1:(((m22 a1).f0) !=0)=true
  · try simp only[if_pos h1]
    have f6:pureR []=true:=yA
    exact cp ya (P1 (.f h1 (.f f6 (T 33 .nil))))
  try simp only[if_neg h1]
  by_cases h2:(decide ((wrap .i64 (((length (map b_y a0.f0)):Int)+((length (map d_y ((m22 a1).f1))):Int))) > 1200))=true
  · try simp only[if_pos h2]
    have f8:pureR []=true:=yA
    exact cp ya (P1 (N h1 (.f trivial (.f h2 (.f f8 (U 33 (T 52 .nil)))))))
  try simp only[if_neg h2]
  have f10:2≤2:=yb
  have f11:fullR (take 2 (drop 0 [[(.bor l0_0 (map b_y a0.f0))],[(.own 1 (map d_y ((m22 a1).f1)))]]))=true:=(by simp[fullR,fullL,full,fullR_y]; done)
  have f12:toBR (take 2 (drop 0 [[(.bor l0_0 (map b_y a0.f0))],[(.own 1 (map d_y ((m22 a1).f1)))]]))=[[(.sl (map b_y a0.f0))],[(.sl (toBR (map d_y ((m22 a1).f1))))]]:=yA
  have f13:Ev F X (.call 67 [(.one (.bor 0 [[(.sl (map b_y a0.f0))],[(.sl (toBR (map d_y ((m22 a1).f1))))]]))] [] [] [(.one (.own 1 (map d_y (m67 [a0.f0,((m22 a1).f1)]))))]):=(by rw[show (toBR (map d_y ((m22 a1).f1)))=(map b_y ((m22 a1).f1)) from by first | rfl |(simp[map_take,map_drop,four_len,high4,high2]; done) |(simp[byteRows_eq,map_take,map_drop,four_len,high4,high2]; done) |(simp[*,map_take,map_drop,four_len,high4,high2]; done) |(rw[take_of_length_le (by simp only[length_drop,length_take,length_map,Int.toNat_natCast]; omega)]; simp only[← map_drop,← map_take])]; exact(e67 (l0_0:=0) (a0:=[a0.f0,((m22 a1).f1)]) (by have q1:=disk_len66 ‹_›; have q2:=pk_len a1; simp only[List.flatten_cons,List.flatten_nil,List.append_nil,length_append,length_map]; omega) (by simp[fullR,fullL,full,fullR_y]; done)))
  exact cp ya (P1 (N h1 (.f trivial (N h2 (pe 0 (pe (length (map d_y ((m22 a1).f1))) (.f f10 (.f f11 (.f f12 (U 33 (U 52 (.r 64 [] [[[(.sl (map b_y a0.f0))],[(.sl (toBR (map d_y ((m22 a1).f1))))]]] f13 (pe 0 (pe (length (map d_y (m67 [a0.f0,((m22 a1).f1)]))) (.f (pureR_y (m67 [a0.f0,((m22 a1).f1)])) .nil)))))))))))))))
def m69 (a0:K_isii):Int:=
  if(!(m105 a0.f0 1 5))=true then 1 else
  if (!(m114_0 a0.f0)) = true then (if (!(a0.f1.toList == (⟨#[]⟩ : ByteArray).toList)) = true then 1 else
      if (!(m114_1 a0.f0)) = true then (if (a0.f2 != 0) = true then 1 else
          if (!(m114_2 a0.f0)) = true then (if (a0.f3 != 0) = true then 1 else
              if (m114_0 a0.f0) = true then (if (a0.f1.toList == (⟨#[]⟩ : ByteArray).toList) = true then 5 else
                  if(!(m115 a0.f1))=true then 5 else
                    if(!(m105 a0.f2 0 2147483646))=true then 3 else
                      if(!(m105 a0.f3 0 1000000))=true then 3 else
                        if(decide (a0.f3 < 1))=true then 3 else
                          if (a0.f0 == 1) = true then (if (decide (a0.f3 > 9999)) = true then 3 else
                              0) else
                            0) else
                if(!(m105 a0.f2 0 2147483646))=true then 3 else
                  if(!(m105 a0.f3 0 1000000))=true then 3 else
                    if (a0.f0 == 1) = true then (if (decide (a0.f3 > 9999)) = true then 3 else
                        0) else
                      0) else
            if (m114_0 a0.f0) = true then (if (a0.f1.toList == (⟨#[]⟩ : ByteArray).toList) = true then 5 else
                if(!(m115 a0.f1))=true then 5 else
                  if(!(m105 a0.f2 0 2147483646))=true then 3 else
                    if(!(m105 a0.f3 0 1000000))=true then 3 else
                      if(decide (a0.f3 < 1))=true then 3 else
                        if (a0.f0 == 1) = true then (if (decide (a0.f3 > 9999)) = true then 3 else
                            0) else
                          0) else
              if(!(m105 a0.f2 0 2147483646))=true then 3 else
                if(!(m105 a0.f3 0 1000000))=true then 3 else
                  if (a0.f0 == 1) = true then (if (decide (a0.f3 > 9999)) = true then 3 else
                      0) else
                    0) else
        if (!(m114_2 a0.f0)) = true then (if (a0.f3 != 0) = true then 1 else
            if (m114_0 a0.f0) = true then (if (a0.f1.toList == (⟨#[]⟩ : ByteArray).toList) = true then 5 else
                if(!(m115 a0.f1))=true then 5 else
                  if(!(m105 a0.f2 0 2147483646))=true then 3 else
                    if(!(m105 a0.f3 0 1000000))=true then 3 else
                      if(decide (a0.f3 < 1))=true then 3 else
                        if (a0.f0 == 1) = true then (if (decide (a0.f3 > 9999)) = true then 3 else
                            0) else
                          0) else
              if(!(m105 a0.f2 0 2147483646))=true then 3 else
                if(!(m105 a0.f3 0 1000000))=true then 3 else
                  if (a0.f0 == 1) = true then (if (decide (a0.f3 > 9999)) = true then 3 else
                      0) else
                    0) else
          if (m114_0 a0.f0) = true then (if (a0.f1.toList == (⟨#[]⟩ : ByteArray).toList) = true then 5 else
              if(!(m115 a0.f1))=true then 5 else
                if(!(m105 a0.f2 0 2147483646))=true then 3 else
                  if(!(m105 a0.f3 0 1000000))=true then 3 else
                    if(decide (a0.f3 < 1))=true then 3 else
                      if (a0.f0 == 1) = true then (if (decide (a0.f3 > 9999)) = true then 3 else
                          0) else
                        0) else
            if(!(m105 a0.f2 0 2147483646))=true then 3 else
              if(!(m105 a0.f3 0 1000000))=true then 3 else
                if (a0.f0 == 1) = true then (if (decide (a0.f3 > 9999)) = true then 3 else
                    0) else
                  0) else
    if (!(m114_1 a0.f0)) = true then (if (a0.f2 != 0) = true then 1 else
        if (!(m114_2 a0.f0)) = true then (if (a0.f3 != 0) = true then 1 else
            if (m114_0 a0.f0) = true then (if (a0.f1.toList == (⟨#[]⟩ : ByteArray).toList) = true then 5 else
                if(!(m115 a0.f1))=true then 5 else
                  if(!(m105 a0.f2 0 2147483646))=true then 3 else
                    if(!(m105 a0.f3 0 1000000))=true then 3 else
                      if(decide (a0.f3 < 1))=true then 3 else
                        if (a0.f0 == 1) = true then (if (decide (a0.f3 > 9999)) = true then 3 else
                            0) else
                          0) else
              if(!(m105 a0.f2 0 2147483646))=true then 3 else
                if(!(m105 a0.f3 0 1000000))=true then 3 else
                  if (a0.f0 == 1) = true then (if (decide (a0.f3 > 9999)) = true then 3 else
                      0) else
                    0) else
          if (m114_0 a0.f0) = true then (if (a0.f1.toList == (⟨#[]⟩ : ByteArray).toList) = true then 5 else
              if(!(m115 a0.f1))=true then 5 else
                if(!(m105 a0.f2 0 2147483646))=true then 3 else
                  if(!(m105 a0.f3 0 1000000))=true then 3 else
                    if(decide (a0.f3 < 1))=true then 3 else
                      if (a0.f0 == 1) = true then (if (decide (a0.f3 > 9999)) = true then 3 else
                          0) else
                        0) else
            if(!(m105 a0.f2 0 2147483646))=true then 3 else
              if(!(m105 a0.f3 0 1000000))=true then 3 else
                if (a0.f0 == 1) = true then (if (decide (a0.f3 > 9999)) = true then 3 else
                    0) else
                  0) else
      if (!(m114_2 a0.f0)) = true then (if (a0.f3 != 0) = true then 1 else
          if (m114_0 a0.f0) = true then (if (a0.f1.toList == (⟨#[]⟩ : ByteArray).toList) = true then 5 else
              if(!(m115 a0.f1))=true then 5 else
                if(!(m105 a0.f2 0 2147483646))=true then 3 else
                  if(!(m105 a0.f3 0 1000000))=true then 3 else
                    if(decide (a0.f3 < 1))=true then 3 else
                      if (a0.f0 == 1) = true then (if (decide (a0.f3 > 9999)) = true then 3 else
                          0) else
                        0) else
            if(!(m105 a0.f2 0 2147483646))=true then 3 else
              if(!(m105 a0.f3 0 1000000))=true then 3 else
                if (a0.f0 == 1) = true then (if (decide (a0.f3 > 9999)) = true then 3 else
                    0) else
                  0) else
        if (m114_0 a0.f0) = true then (if (a0.f1.toList == (⟨#[]⟩ : ByteArray).toList) = true then 5 else
            if(!(m115 a0.f1))=true then 5 else
              if(!(m105 a0.f2 0 2147483646))=true then 3 else
                if(!(m105 a0.f3 0 1000000))=true then 3 else
                  if(decide (a0.f3 < 1))=true then 3 else
                    if (a0.f0 == 1) = true then (if (decide (a0.f3 > 9999)) = true then 3 else
                        0) else
                      0) else
          if(!(m105 a0.f2 0 2147483646))=true then 3 else
            if(!(m105 a0.f3 0 1000000))=true then 3 else
              if (a0.f0 == 1) = true then (if (decide (a0.f3 > 9999)) = true then 3 else
                  0) else
                0
theorem e69 {l0:Nat} {a0:K_isii} (hy0:ByteArray.size a0.f1≤140737488351232):Ev F X (.call 69 [(.bptr l0 [(.val (.int .i64 a0.f0)),(.val (.string a0.f1)),(.val (.int .i64 a0.f2)),(.val (.int .i64 a0.f3))])] [] [] [(.one (.val (.int .i64 (m69 a0))))]):=by
  unfold m69
  have P0 {hs q} (r:PS F X hs q):=(PS.r 11 [] [] (e114 (a0:=a0.f0)) (.r 35 [] [] (e105 (a0:=a0.f0) (a1:=1) (a2:=5)) r))
  by_cases h0:(!(m105 a0.f0 1 5))=true
  · try simp only[if_pos h0]
    exact cp ya (P0 (.f h0 (.f h0 (.f h0 (.f h0 (.f h0 (T 40 (T 42 (T 44 (T 56 (T 59 .nil)))))))))))
  try simp only[if_neg h0]
  have P1 {hs q} (r:PS F X hs q):=(P0 (N h0 (N h0 (N h0 (U 40 (U 42 (U 44 r)))))))
  by_cases h1:(!(m114_0 a0.f0))=true
  · try simp only[if_pos h1]
    have P2 {hs q} (r:PS F X hs q):=(P1 (.f h1 (.f h1 (.f h1 (.f h1 (.f h1 (N h0 (.f h1 (N h0 (T 46 (T 48 (T 50 (T 52 (T 54 (U 56 (T 57 (U 59 r)))))))))))))))))
    by_cases h2:(!(a0.f1.toList==(⟨#[]⟩:ByteArray).toList))=true
    · try simp only[if_pos h2]
      exact cp ya (P2 (.f h2 (.f h2 (.f h2 (.f h2 (.f h2 (T 62 (T 64 (T 66 (T 78 (T 81 .nil)))))))))))
    try simp only[if_neg h2]
    have P3 {hs q} (r:PS F X hs q):=(P2 (N h2 (N h2 (N h2 (U 62 (U 64 (U 66 r)))))))
    by_cases h3:(!(m114_1 a0.f0))=true
    · try simp only[if_pos h3]
      have P4 {hs q} (r:PS F X hs q):=(P3 (.f h3 (.f h3 (.f h3 (.f h3 (.f h3 (N h2 (.f h3 (N h2 (T 68 (T 70 (T 72 (T 74 (T 76 (U 78 (T 79 (U 81 r)))))))))))))))))
      by_cases h4:(a0.f2 !=0)=true
      · try simp only[if_pos h4]
        exact cp ya (P4 (.f h4 (.f h4 (.f h4 (.f h4 (.f h4 (T 84 (T 86 (T 88 (T 100 (T 103 .nil)))))))))))
      try simp only[if_neg h4]
      have P5 {hs q} (r:PS F X hs q):=(P4 (N h4 (N h4 (N h4 (U 84 (U 86 (U 88 r)))))))
      by_cases h5:(!(m114_2 a0.f0))=true
      · try simp only[if_pos h5]
        have P6 {hs q} (r:PS F X hs q):=(P5 (.f h5 (.f h5 (.f h5 (.f h5 (.f h5 (N h4 (.f h5 (N h4 (T 90 (T 92 (T 94 (T 96 (T 98 (U 100 (T 101 (U 103 r)))))))))))))))))
        by_cases h6:(a0.f3 !=0)=true
        · try simp only[if_pos h6]
          exact cp ya (P6 (.f h6 (T 104 .nil)))
        try simp only[if_neg h6]
        have P7 {hs q} (r:PS F X hs q):=(P6 (N h6 (U 104 r)))
        by_cases h7:(m114_0 a0.f0)=true
        · try simp only[if_pos h7]
          have P8 {hs q} (r:PS F X hs q):=(P7 (.f h7 (.f h7 (.f h7 (.f h7 (.f h7 (.f h7 (T 109 (T 111 (T 113 (T 115 (T 117 (T 119 r)))))))))))))
          by_cases h8:(a0.f1.toList==(⟨#[]⟩:ByteArray).toList)=true
          · try simp only[if_pos h8]
            exact cp ya (P8 (.f h8 (.f h8 (.f h8 (.f h8 (.f h8 (.f h8 (.f h7 (.f h8 (.f h7 (T 121 (T 123 (T 125 (T 127 (T 129 (T 131 (T 133 (T 134 (T 136 .nil)))))))))))))))))))
          try simp only[if_neg h8]
          have P9 {hs q} (r:PS F X hs q):=(P8 (N h8 (N h8 (N h8 (N h8 (N h8 (U 121 (U 123 (U 125 (U 127 (U 129 (.r 130 [] [] (e115 (a0:=a0.f1) ‹_›) (N h8 (.f h7 (N h8 (.f h7 (U 131 (T 133 (U 134 (T 136 r))))))))))))))))))))
          by_cases h9:(!(m115 a0.f1))=true
          · try simp only[if_pos h9]
            exact cp ya (P9 (.f h9 (T 137 .nil)))
          try simp only[if_neg h9]
          have P10 {hs q} (r:PS F X hs q):=(P9 (N h9 (U 137 (.r 147 [] [] (e116 (a0:=a0.f2)) r))))
          by_cases h10:(!(m105 a0.f2 0 2147483646))=true
          · try simp only[if_pos h10]
            exact cp ya (P10 (.f h10 (.f h10 (.f h10 (.f h10 (.f h10 (.f h10 (.f h10 (T 152 (T 154 (T 156 (T 158 (T 160 (T 162 (T 165 .nil)))))))))))))))
          try simp only[if_neg h10]
          have P11 {hs q} (r:PS F X hs q):=(P10 (N h10 (N h10 (N h10 (N h10 (N h10 (U 152 (U 154 (U 156 (U 158 (U 160 (.r 161 [] [] (e101 (a0:=a0.f3)) (N h10 (N h10 (U 162 (U 165 r))))))))))))))))
          by_cases h11:(!(m105 a0.f3 0 1000000))=true
          · try simp only[if_pos h11]
            exact cp ya (P11 (.f h11 (.f h11 (.f h11 (.f h11 (T 168 (T 170 (T 182 (T 185 .nil)))))))))
          try simp only[if_neg h11]
          have P12 {hs q} (r:PS F X hs q):=(P11 (N h11 (N h11 (.f h7 (.f h7 (.f h7 (.f h7 (.f h7 (N h11 (.f h7 (N h11 (U 168 (U 170 (T 172 (T 174 (T 176 (T 178 (T 180 (U 182 (T 183 (U 185 r)))))))))))))))))))))
          by_cases h12:(decide (a0.f3 < 1))=true
          · try simp only[if_pos h12]
            exact cp ya (P12 (.f h12 (.f h12 (.f h12 (.f h12 (.f h12 (.f h12 (.f h12 (.f h12 (T 188 (T 190 (T 192 (T 194 (T 196 (T 198 (T 210 (T 213 .nil)))))))))))))))))
          try simp only[if_neg h12]
          have P13 {hs q} (r:PS F X hs q):=(P12 (N h12 (N h12 (N h12 (N h12 (N h12 (N h12 (U 188 (U 190 (U 192 (U 194 (U 196 (U 198 r)))))))))))))
          by_cases h13:(a0.f0==1)=true
          · try simp only[if_pos h13]
            have P14 {hs q} (r:PS F X hs q):=(P13 (.f h13 (.f h13 (.f h13 (.f h13 (.f h13 (N h12 (.f h13 (N h12 (T 200 (T 202 (T 204 (T 206 (T 208 (U 210 (T 211 (U 213 r)))))))))))))))))
            by_cases h14:(decide (a0.f3 > 9999))=true
            · try simp only[if_pos h14]
              exact cp ya (P14 (.f h14 (T 214 .nil)))
            try simp only[if_neg h14]
            exact cp ya (P14 (N h14 (U 214 .nil)))
          try simp only[if_neg h13]
          exact cp ya (P13 (N h13 (N h13 (N h13 (N h13 (N h13 (N h12 (N h13 (N h12 (U 200 (U 202 (U 204 (U 206 (U 208 (U 210 (U 211 (U 213 .nil)))))))))))))))))
        try simp only[if_neg h7]
        have P8 {hs q} (r:PS F X hs q):=(P7 (N h7 (N h7 (N h7 (N h7 (N h7 (N h7 (N h7 (N h7 (U 109 (U 111 (U 113 (U 115 (U 117 (U 119 (U 133 (U 136 (.r 147 [] [] (e116 (a0:=a0.f2)) r))))))))))))))))))
        by_cases h8:(!(m105 a0.f2 0 2147483646))=true
        · try simp only[if_pos h8]
          exact cp ya (P8 (.f h8 (.f h8 (.f h8 (.f h8 (.f h8 (.f h8 (.f h8 (T 152 (T 154 (T 156 (T 158 (T 160 (T 162 (T 165 .nil)))))))))))))))
        try simp only[if_neg h8]
        have P9 {hs q} (r:PS F X hs q):=(P8 (N h8 (N h8 (N h8 (N h8 (N h8 (U 152 (U 154 (U 156 (U 158 (U 160 (.r 161 [] [] (e101 (a0:=a0.f3)) (N h8 (N h8 (U 162 (U 165 r))))))))))))))))
        by_cases h9:(!(m105 a0.f3 0 1000000))=true
        · try simp only[if_pos h9]
          exact cp ya (P9 (.f h9 (.f h9 (.f h9 (.f h9 (T 168 (T 170 (T 182 (T 185 .nil)))))))))
        try simp only[if_neg h9]
        have P10 {hs q} (r:PS F X hs q):=(P9 (N h9 (N h9 (N h7 (N h7 (N h7 (N h7 (N h7 (N h9 (N h7 (N h9 (U 168 (U 170 (U 172 (U 174 (U 176 (U 178 (U 180 (U 182 (U 183 (U 185 r)))))))))))))))))))))
        by_cases h10:(a0.f0==1)=true
        · try simp only[if_pos h10]
          have P11 {hs q} (r:PS F X hs q):=(P10 (.f h10 (.f h10 (.f h10 (.f h10 (.f h10 (.f h10 (T 200 (T 202 (T 204 (T 206 (T 208 (T 211 r)))))))))))))
          by_cases h11:(decide (a0.f3 > 9999))=true
          · try simp only[if_pos h11]
            exact cp ya (P11 (.f h11 (T 214 .nil)))
          try simp only[if_neg h11]
          exact cp ya (P11 (N h11 (U 214 .nil)))
        try simp only[if_neg h10]
        exact cp ya (P10 (N h10 (N h10 (N h10 (N h10 (N h10 (N h10 (U 200 (U 202 (U 204 (U 206 (U 208 (U 211 .nil)))))))))))))
      try simp only[if_neg h5]
      have P6 {hs q} (r:PS F X hs q):=(P5 (N h5 (N h5 (N h5 (N h5 (N h5 (N h4 (N h5 (N h4 (U 90 (U 92 (U 94 (U 96 (U 98 (U 100 (U 101 (U 103 r)))))))))))))))))
      by_cases h6:(m114_0 a0.f0)=true
      · try simp only[if_pos h6]
        have P7 {hs q} (r:PS F X hs q):=(P6 (.f h6 (.f h6 (.f h6 (.f h6 (.f h6 (.f h6 (T 109 (T 111 (T 113 (T 115 (T 117 (T 119 r)))))))))))))
        by_cases h7:(a0.f1.toList==(⟨#[]⟩:ByteArray).toList)=true
        · try simp only[if_pos h7]
          exact cp ya (P7 (.f h7 (.f h7 (.f h7 (.f h7 (.f h7 (.f h7 (.f h6 (.f h7 (.f h6 (T 121 (T 123 (T 125 (T 127 (T 129 (T 131 (T 133 (T 134 (T 136 .nil)))))))))))))))))))
        try simp only[if_neg h7]
        have P8 {hs q} (r:PS F X hs q):=(P7 (N h7 (N h7 (N h7 (N h7 (N h7 (U 121 (U 123 (U 125 (U 127 (U 129 (.r 130 [] [] (e115 (a0:=a0.f1) ‹_›) (N h7 (.f h6 (N h7 (.f h6 (U 131 (T 133 (U 134 (T 136 r))))))))))))))))))))
        by_cases h8:(!(m115 a0.f1))=true
        · try simp only[if_pos h8]
          exact cp ya (P8 (.f h8 (T 137 .nil)))
        try simp only[if_neg h8]
        have P9 {hs q} (r:PS F X hs q):=(P8 (N h8 (U 137 (.r 147 [] [] (e116 (a0:=a0.f2)) r))))
        by_cases h9:(!(m105 a0.f2 0 2147483646))=true
        · try simp only[if_pos h9]
          exact cp ya (P9 (.f h9 (.f h9 (.f h9 (.f h9 (.f h9 (.f h9 (.f h9 (T 152 (T 154 (T 156 (T 158 (T 160 (T 162 (T 165 .nil)))))))))))))))
        try simp only[if_neg h9]
        have P10 {hs q} (r:PS F X hs q):=(P9 (N h9 (N h9 (N h9 (N h9 (N h9 (U 152 (U 154 (U 156 (U 158 (U 160 (.r 161 [] [] (e101 (a0:=a0.f3)) (N h9 (N h9 (U 162 (U 165 r))))))))))))))))
        by_cases h10:(!(m105 a0.f3 0 1000000))=true
        · try simp only[if_pos h10]
          exact cp ya (P10 (.f h10 (.f h10 (.f h10 (.f h10 (T 168 (T 170 (T 182 (T 185 .nil)))))))))
        try simp only[if_neg h10]
        have P11 {hs q} (r:PS F X hs q):=(P10 (N h10 (N h10 (.f h6 (.f h6 (.f h6 (.f h6 (.f h6 (N h10 (.f h6 (N h10 (U 168 (U 170 (T 172 (T 174 (T 176 (T 178 (T 180 (U 182 (T 183 (U 185 r)))))))))))))))))))))
        by_cases h11:(decide (a0.f3 < 1))=true
        · try simp only[if_pos h11]
          exact cp ya (P11 (.f h11 (.f h11 (.f h11 (.f h11 (.f h11 (.f h11 (.f h11 (.f h11 (T 188 (T 190 (T 192 (T 194 (T 196 (T 198 (T 210 (T 213 .nil)))))))))))))))))
        try simp only[if_neg h11]
        have P12 {hs q} (r:PS F X hs q):=(P11 (N h11 (N h11 (N h11 (N h11 (N h11 (N h11 (U 188 (U 190 (U 192 (U 194 (U 196 (U 198 r)))))))))))))
        by_cases h12:(a0.f0==1)=true
        · try simp only[if_pos h12]
          have P13 {hs q} (r:PS F X hs q):=(P12 (.f h12 (.f h12 (.f h12 (.f h12 (.f h12 (N h11 (.f h12 (N h11 (T 200 (T 202 (T 204 (T 206 (T 208 (U 210 (T 211 (U 213 r)))))))))))))))))
          by_cases h13:(decide (a0.f3 > 9999))=true
          · try simp only[if_pos h13]
            exact cp ya (P13 (.f h13 (T 214 .nil)))
          try simp only[if_neg h13]
          exact cp ya (P13 (N h13 (U 214 .nil)))
        try simp only[if_neg h12]
        exact cp ya (P12 (N h12 (N h12 (N h12 (N h12 (N h12 (N h11 (N h12 (N h11 (U 200 (U 202 (U 204 (U 206 (U 208 (U 210 (U 211 (U 213 .nil)))))))))))))))))
      try simp only[if_neg h6]
      have P7 {hs q} (r:PS F X hs q):=(P6 (N h6 (N h6 (N h6 (N h6 (N h6 (N h6 (N h6 (N h6 (U 109 (U 111 (U 113 (U 115 (U 117 (U 119 (U 133 (U 136 (.r 147 [] [] (e116 (a0:=a0.f2)) r))))))))))))))))))
      by_cases h7:(!(m105 a0.f2 0 2147483646))=true
      · try simp only[if_pos h7]
        exact cp ya (P7 (.f h7 (.f h7 (.f h7 (.f h7 (.f h7 (.f h7 (.f h7 (T 152 (T 154 (T 156 (T 158 (T 160 (T 162 (T 165 .nil)))))))))))))))
      try simp only[if_neg h7]
      have P8 {hs q} (r:PS F X hs q):=(P7 (N h7 (N h7 (N h7 (N h7 (N h7 (U 152 (U 154 (U 156 (U 158 (U 160 (.r 161 [] [] (e101 (a0:=a0.f3)) (N h7 (N h7 (U 162 (U 165 r))))))))))))))))
      by_cases h8:(!(m105 a0.f3 0 1000000))=true
      · try simp only[if_pos h8]
        exact cp ya (P8 (.f h8 (.f h8 (.f h8 (.f h8 (T 168 (T 170 (T 182 (T 185 .nil)))))))))
      try simp only[if_neg h8]
      have P9 {hs q} (r:PS F X hs q):=(P8 (N h8 (N h8 (N h6 (N h6 (N h6 (N h6 (N h6 (N h8 (N h6 (N h8 (U 168 (U 170 (U 172 (U 174 (U 176 (U 178 (U 180 (U 182 (U 183 (U 185 r)))))))))))))))))))))
      by_cases h9:(a0.f0==1)=true
      · try simp only[if_pos h9]
        have P10 {hs q} (r:PS F X hs q):=(P9 (.f h9 (.f h9 (.f h9 (.f h9 (.f h9 (.f h9 (T 200 (T 202 (T 204 (T 206 (T 208 (T 211 r)))))))))))))
        by_cases h10:(decide (a0.f3 > 9999))=true
        · try simp only[if_pos h10]
          exact cp ya (P10 (.f h10 (T 214 .nil)))
        try simp only[if_neg h10]
        exact cp ya (P10 (N h10 (U 214 .nil)))
      try simp only[if_neg h9]
      exact cp ya (P9 (N h9 (N h9 (N h9 (N h9 (N h9 (N h9 (U 200 (U 202 (U 204 (U 206 (U 208 (U 211 .nil)))))))))))))
    try simp only[if_neg h3]
    have P4 {hs q} (r:PS F X hs q):=(P3 (N h3 (N h3 (N h3 (N h3 (N h3 (N h2 (N h3 (N h2 (U 68 (U 70 (U 72 (U 74 (U 76 (U 78 (U 79 (U 81 r)))))))))))))))))
    by_cases h4:(!(m114_2 a0.f0))=true
    · try simp only[if_pos h4]
      have P5 {hs q} (r:PS F X hs q):=(P4 (.f h4 (.f h4 (.f h4 (.f h4 (.f h4 (.f h4 (T 90 (T 92 (T 94 (T 96 (T 98 (T 101 r)))))))))))))
      by_cases h5:(a0.f3 !=0)=true
      · try simp only[if_pos h5]
        exact cp ya (P5 (.f h5 (T 104 .nil)))
      try simp only[if_neg h5]
      have P6 {hs q} (r:PS F X hs q):=(P5 (N h5 (U 104 r)))
      by_cases h6:(m114_0 a0.f0)=true
      · try simp only[if_pos h6]
        have P7 {hs q} (r:PS F X hs q):=(P6 (.f h6 (.f h6 (.f h6 (.f h6 (.f h6 (.f h6 (T 109 (T 111 (T 113 (T 115 (T 117 (T 119 r)))))))))))))
        by_cases h7:(a0.f1.toList==(⟨#[]⟩:ByteArray).toList)=true
        · try simp only[if_pos h7]
          exact cp ya (P7 (.f h7 (.f h7 (.f h7 (.f h7 (.f h7 (.f h7 (.f h6 (.f h7 (.f h6 (T 121 (T 123 (T 125 (T 127 (T 129 (T 131 (T 133 (T 134 (T 136 .nil)))))))))))))))))))
        try simp only[if_neg h7]
        have P8 {hs q} (r:PS F X hs q):=(P7 (N h7 (N h7 (N h7 (N h7 (N h7 (U 121 (U 123 (U 125 (U 127 (U 129 (.r 130 [] [] (e115 (a0:=a0.f1) ‹_›) (N h7 (.f h6 (N h7 (.f h6 (U 131 (T 133 (U 134 (T 136 r))))))))))))))))))))
        by_cases h8:(!(m115 a0.f1))=true
        · try simp only[if_pos h8]
          exact cp ya (P8 (.f h8 (T 137 .nil)))
        try simp only[if_neg h8]
        have P9 {hs q} (r:PS F X hs q):=(P8 (N h8 (U 137 (.r 147 [] [] (e116 (a0:=a0.f2)) r))))
        by_cases h9:(!(m105 a0.f2 0 2147483646))=true
        · try simp only[if_pos h9]
          exact cp ya (P9 (.f h9 (.f h9 (.f h9 (.f h9 (.f h9 (.f h9 (.f h9 (T 152 (T 154 (T 156 (T 158 (T 160 (T 162 (T 165 .nil)))))))))))))))
        try simp only[if_neg h9]
        have P10 {hs q} (r:PS F X hs q):=(P9 (N h9 (N h9 (N h9 (N h9 (N h9 (U 152 (U 154 (U 156 (U 158 (U 160 (.r 161 [] [] (e101 (a0:=a0.f3)) (N h9 (N h9 (U 162 (U 165 r))))))))))))))))
        by_cases h10:(!(m105 a0.f3 0 1000000))=true
        · try simp only[if_pos h10]
          exact cp ya (P10 (.f h10 (.f h10 (.f h10 (.f h10 (T 168 (T 170 (T 182 (T 185 .nil)))))))))
        try simp only[if_neg h10]
        have P11 {hs q} (r:PS F X hs q):=(P10 (N h10 (N h10 (.f h6 (.f h6 (.f h6 (.f h6 (.f h6 (N h10 (.f h6 (N h10 (U 168 (U 170 (T 172 (T 174 (T 176 (T 178 (T 180 (U 182 (T 183 (U 185 r)))))))))))))))))))))
        by_cases h11:(decide (a0.f3 < 1))=true
        · try simp only[if_pos h11]
          exact cp ya (P11 (.f h11 (.f h11 (.f h11 (.f h11 (.f h11 (.f h11 (.f h11 (.f h11 (T 188 (T 190 (T 192 (T 194 (T 196 (T 198 (T 210 (T 213 .nil)))))))))))))))))
        try simp only[if_neg h11]
        have P12 {hs q} (r:PS F X hs q):=(P11 (N h11 (N h11 (N h11 (N h11 (N h11 (N h11 (U 188 (U 190 (U 192 (U 194 (U 196 (U 198 r)))))))))))))
        by_cases h12:(a0.f0==1)=true
        · try simp only[if_pos h12]
          have P13 {hs q} (r:PS F X hs q):=(P12 (.f h12 (.f h12 (.f h12 (.f h12 (.f h12 (N h11 (.f h12 (N h11 (T 200 (T 202 (T 204 (T 206 (T 208 (U 210 (T 211 (U 213 r)))))))))))))))))
          by_cases h13:(decide (a0.f3 > 9999))=true
          · try simp only[if_pos h13]
            exact cp ya (P13 (.f h13 (T 214 .nil)))
          try simp only[if_neg h13]
          exact cp ya (P13 (N h13 (U 214 .nil)))
        try simp only[if_neg h12]
        exact cp ya (P12 (N h12 (N h12 (N h12 (N h12 (N h12 (N h11 (N h12 (N h11 (U 200 (U 202 (U 204 (U 206 (U 208 (U 210 (U 211 (U 213 .nil)))))))))))))))))
      try simp only[if_neg h6]
      have P7 {hs q} (r:PS F X hs q):=(P6 (N h6 (N h6 (N h6 (N h6 (N h6 (N h6 (N h6 (N h6 (U 109 (U 111 (U 113 (U 115 (U 117 (U 119 (U 133 (U 136 (.r 147 [] [] (e116 (a0:=a0.f2)) r))))))))))))))))))
      by_cases h7:(!(m105 a0.f2 0 2147483646))=true
      · try simp only[if_pos h7]
        exact cp ya (P7 (.f h7 (.f h7 (.f h7 (.f h7 (.f h7 (.f h7 (.f h7 (T 152 (T 154 (T 156 (T 158 (T 160 (T 162 (T 165 .nil)))))))))))))))
      try simp only[if_neg h7]
      have P8 {hs q} (r:PS F X hs q):=(P7 (N h7 (N h7 (N h7 (N h7 (N h7 (U 152 (U 154 (U 156 (U 158 (U 160 (.r 161 [] [] (e101 (a0:=a0.f3)) (N h7 (N h7 (U 162 (U 165 r))))))))))))))))
      by_cases h8:(!(m105 a0.f3 0 1000000))=true
      · try simp only[if_pos h8]
        exact cp ya (P8 (.f h8 (.f h8 (.f h8 (.f h8 (T 168 (T 170 (T 182 (T 185 .nil)))))))))
      try simp only[if_neg h8]
      have P9 {hs q} (r:PS F X hs q):=(P8 (N h8 (N h8 (N h6 (N h6 (N h6 (N h6 (N h6 (N h8 (N h6 (N h8 (U 168 (U 170 (U 172 (U 174 (U 176 (U 178 (U 180 (U 182 (U 183 (U 185 r)))))))))))))))))))))
      by_cases h9:(a0.f0==1)=true
      · try simp only[if_pos h9]
        have P10 {hs q} (r:PS F X hs q):=(P9 (.f h9 (.f h9 (.f h9 (.f h9 (.f h9 (.f h9 (T 200 (T 202 (T 204 (T 206 (T 208 (T 211 r)))))))))))))
        by_cases h10:(decide (a0.f3 > 9999))=true
        · try simp only[if_pos h10]
          exact cp ya (P10 (.f h10 (T 214 .nil)))
        try simp only[if_neg h10]
        exact cp ya (P10 (N h10 (U 214 .nil)))
      try simp only[if_neg h9]
      exact cp ya (P9 (N h9 (N h9 (N h9 (N h9 (N h9 (N h9 (U 200 (U 202 (U 204 (U 206 (U 208 (U 211 .nil)))))))))))))
    try simp only[if_neg h4]
    have P5 {hs q} (r:PS F X hs q):=(P4 (N h4 (N h4 (N h4 (N h4 (N h4 (N h4 (U 90 (U 92 (U 94 (U 96 (U 98 (U 101 r)))))))))))))
    by_cases h5:(m114_0 a0.f0)=true
    · try simp only[if_pos h5]
      have P6 {hs q} (r:PS F X hs q):=(P5 (.f h5 (.f h5 (.f h5 (.f h5 (.f h5 (.f h5 (T 109 (T 111 (T 113 (T 115 (T 117 (T 119 r)))))))))))))
      by_cases h6:(a0.f1.toList==(⟨#[]⟩:ByteArray).toList)=true
      · try simp only[if_pos h6]
        exact cp ya (P6 (.f h6 (.f h6 (.f h6 (.f h6 (.f h6 (.f h6 (.f h5 (.f h6 (.f h5 (T 121 (T 123 (T 125 (T 127 (T 129 (T 131 (T 133 (T 134 (T 136 .nil)))))))))))))))))))
      try simp only[if_neg h6]
      have P7 {hs q} (r:PS F X hs q):=(P6 (N h6 (N h6 (N h6 (N h6 (N h6 (U 121 (U 123 (U 125 (U 127 (U 129 (.r 130 [] [] (e115 (a0:=a0.f1) ‹_›) (N h6 (.f h5 (N h6 (.f h5 (U 131 (T 133 (U 134 (T 136 r))))))))))))))))))))
      by_cases h7:(!(m115 a0.f1))=true
      · try simp only[if_pos h7]
        exact cp ya (P7 (.f h7 (T 137 .nil)))
      try simp only[if_neg h7]
      have P8 {hs q} (r:PS F X hs q):=(P7 (N h7 (U 137 (.r 147 [] [] (e116 (a0:=a0.f2)) r))))
      by_cases h8:(!(m105 a0.f2 0 2147483646))=true
      · try simp only[if_pos h8]
        exact cp ya (P8 (.f h8 (.f h8 (.f h8 (.f h8 (.f h8 (.f h8 (.f h8 (T 152 (T 154 (T 156 (T 158 (T 160 (T 162 (T 165 .nil)))))))))))))))
      try simp only[if_neg h8]
      have P9 {hs q} (r:PS F X hs q):=(P8 (N h8 (N h8 (N h8 (N h8 (N h8 (U 152 (U 154 (U 156 (U 158 (U 160 (.r 161 [] [] (e101 (a0:=a0.f3)) (N h8 (N h8 (U 162 (U 165 r))))))))))))))))
      by_cases h9:(!(m105 a0.f3 0 1000000))=true
      · try simp only[if_pos h9]
        exact cp ya (P9 (.f h9 (.f h9 (.f h9 (.f h9 (T 168 (T 170 (T 182 (T 185 .nil)))))))))
      try simp only[if_neg h9]
      have P10 {hs q} (r:PS F X hs q):=(P9 (N h9 (N h9 (.f h5 (.f h5 (.f h5 (.f h5 (.f h5 (N h9 (.f h5 (N h9 (U 168 (U 170 (T 172 (T 174 (T 176 (T 178 (T 180 (U 182 (T 183 (U 185 r)))))))))))))))))))))
      by_cases h10:(decide (a0.f3 < 1))=true
      · try simp only[if_pos h10]
        exact cp ya (P10 (.f h10 (.f h10 (.f h10 (.f h10 (.f h10 (.f h10 (.f h10 (.f h10 (T 188 (T 190 (T 192 (T 194 (T 196 (T 198 (T 210 (T 213 .nil)))))))))))))))))
      try simp only[if_neg h10]
      have P11 {hs q} (r:PS F X hs q):=(P10 (N h10 (N h10 (N h10 (N h10 (N h10 (N h10 (U 188 (U 190 (U 192 (U 194 (U 196 (U 198 r)))))))))))))
      by_cases h11:(a0.f0==1)=true
      · try simp only[if_pos h11]
        have P12 {hs q} (r:PS F X hs q):=(P11 (.f h11 (.f h11 (.f h11 (.f h11 (.f h11 (N h10 (.f h11 (N h10 (T 200 (T 202 (T 204 (T 206 (T 208 (U 210 (T 211 (U 213 r)))))))))))))))))
        by_cases h12:(decide (a0.f3 > 9999))=true
        · try simp only[if_pos h12]
          exact cp ya (P12 (.f h12 (T 214 .nil)))
        try simp only[if_neg h12]
        exact cp ya (P12 (N h12 (U 214 .nil)))
      try simp only[if_neg h11]
      exact cp ya (P11 (N h11 (N h11 (N h11 (N h11 (N h11 (N h10 (N h11 (N h10 (U 200 (U 202 (U 204 (U 206 (U 208 (U 210 (U 211 (U 213 .nil)))))))))))))))))
    try simp only[if_neg h5]
    have P6 {hs q} (r:PS F X hs q):=(P5 (N h5 (N h5 (N h5 (N h5 (N h5 (N h5 (N h5 (N h5 (U 109 (U 111 (U 113 (U 115 (U 117 (U 119 (U 133 (U 136 (.r 147 [] [] (e116 (a0:=a0.f2)) r))))))))))))))))))
    by_cases h6:(!(m105 a0.f2 0 2147483646))=true
    · try simp only[if_pos h6]
      exact cp ya (P6 (.f h6 (.f h6 (.f h6 (.f h6 (.f h6 (.f h6 (.f h6 (T 152 (T 154 (T 156 (T 158 (T 160 (T 162 (T 165 .nil)))))))))))))))
    try simp only[if_neg h6]
    have P7 {hs q} (r:PS F X hs q):=(P6 (N h6 (N h6 (N h6 (N h6 (N h6 (U 152 (U 154 (U 156 (U 158 (U 160 (.r 161 [] [] (e101 (a0:=a0.f3)) (N h6 (N h6 (U 162 (U 165 r))))))))))))))))
    by_cases h7:(!(m105 a0.f3 0 1000000))=true
    · try simp only[if_pos h7]
      exact cp ya (P7 (.f h7 (.f h7 (.f h7 (.f h7 (T 168 (T 170 (T 182 (T 185 .nil)))))))))
    try simp only[if_neg h7]
    have P8 {hs q} (r:PS F X hs q):=(P7 (N h7 (N h7 (N h5 (N h5 (N h5 (N h5 (N h5 (N h7 (N h5 (N h7 (U 168 (U 170 (U 172 (U 174 (U 176 (U 178 (U 180 (U 182 (U 183 (U 185 r)))))))))))))))))))))
    by_cases h8:(a0.f0==1)=true
    · try simp only[if_pos h8]
      have P9 {hs q} (r:PS F X hs q):=(P8 (.f h8 (.f h8 (.f h8 (.f h8 (.f h8 (.f h8 (T 200 (T 202 (T 204 (T 206 (T 208 (T 211 r)))))))))))))
      by_cases h9:(decide (a0.f3 > 9999))=true
      · try simp only[if_pos h9]
        exact cp ya (P9 (.f h9 (T 214 .nil)))
      try simp only[if_neg h9]
      exact cp ya (P9 (N h9 (U 214 .nil)))
    try simp only[if_neg h8]
    exact cp ya (P8 (N h8 (N h8 (N h8 (N h8 (N h8 (N h8 (U 200 (U 202 (U 204 (U 206 (U 208 (U 211 .nil)))))))))))))
  try simp only[if_neg h1]
  have P2 {hs q} (r:PS F X hs q):=(P1 (N h1 (N h1 (N h1 (N h1 (N h1 (N h0 (N h1 (N h0 (U 46 (U 48 (U 50 (U 52 (U 54 (U 56 (U 57 (U 59 r)))))))))))))))))
  by_cases h2:(!(m114_1 a0.f0))=true
  · try simp only[if_pos h2]
    have P3 {hs q} (r:PS F X hs q):=(P2 (.f h2 (.f h2 (.f h2 (.f h2 (.f h2 (.f h2 (T 68 (T 70 (T 72 (T 74 (T 76 (T 79 r)))))))))))))
    by_cases h3:(a0.f2 !=0)=true
    · try simp only[if_pos h3]
      exact cp ya (P3 (.f h3 (.f h3 (.f h3 (.f h3 (.f h3 (T 84 (T 86 (T 88 (T 100 (T 103 .nil)))))))))))
    try simp only[if_neg h3]
    have P4 {hs q} (r:PS F X hs q):=(P3 (N h3 (N h3 (N h3 (U 84 (U 86 (U 88 r)))))))
    by_cases h4:(!(m114_2 a0.f0))=true
    · try simp only[if_pos h4]
      have P5 {hs q} (r:PS F X hs q):=(P4 (.f h4 (.f h4 (.f h4 (.f h4 (.f h4 (N h3 (.f h4 (N h3 (T 90 (T 92 (T 94 (T 96 (T 98 (U 100 (T 101 (U 103 r)))))))))))))))))
      by_cases h5:(a0.f3 !=0)=true
      · try simp only[if_pos h5]
        exact cp ya (P5 (.f h5 (T 104 .nil)))
      try simp only[if_neg h5]
      have P6 {hs q} (r:PS F X hs q):=(P5 (N h5 (U 104 r)))
      by_cases h6:(m114_0 a0.f0)=true
      · try simp only[if_pos h6]
        have P7 {hs q} (r:PS F X hs q):=(P6 (.f h6 (.f h6 (.f h6 (.f h6 (.f h6 (.f h6 (T 109 (T 111 (T 113 (T 115 (T 117 (T 119 r)))))))))))))
        by_cases h7:(a0.f1.toList==(⟨#[]⟩:ByteArray).toList)=true
        · try simp only[if_pos h7]
          exact cp ya (P7 (.f h7 (.f h7 (.f h7 (.f h7 (.f h7 (.f h7 (.f h6 (.f h7 (.f h6 (T 121 (T 123 (T 125 (T 127 (T 129 (T 131 (T 133 (T 134 (T 136 .nil)))))))))))))))))))
        try simp only[if_neg h7]
        have P8 {hs q} (r:PS F X hs q):=(P7 (N h7 (N h7 (N h7 (N h7 (N h7 (U 121 (U 123 (U 125 (U 127 (U 129 (.r 130 [] [] (e115 (a0:=a0.f1) ‹_›) (N h7 (.f h6 (N h7 (.f h6 (U 131 (T 133 (U 134 (T 136 r))))))))))))))))))))
        by_cases h8:(!(m115 a0.f1))=true
        · try simp only[if_pos h8]
          exact cp ya (P8 (.f h8 (T 137 .nil)))
        try simp only[if_neg h8]
        have P9 {hs q} (r:PS F X hs q):=(P8 (N h8 (U 137 (.r 147 [] [] (e116 (a0:=a0.f2)) r))))
        by_cases h9:(!(m105 a0.f2 0 2147483646))=true
        · try simp only[if_pos h9]
          exact cp ya (P9 (.f h9 (.f h9 (.f h9 (.f h9 (.f h9 (.f h9 (.f h9 (T 152 (T 154 (T 156 (T 158 (T 160 (T 162 (T 165 .nil)))))))))))))))
        try simp only[if_neg h9]
        have P10 {hs q} (r:PS F X hs q):=(P9 (N h9 (N h9 (N h9 (N h9 (N h9 (U 152 (U 154 (U 156 (U 158 (U 160 (.r 161 [] [] (e101 (a0:=a0.f3)) (N h9 (N h9 (U 162 (U 165 r))))))))))))))))
        by_cases h10:(!(m105 a0.f3 0 1000000))=true
        · try simp only[if_pos h10]
          exact cp ya (P10 (.f h10 (.f h10 (.f h10 (.f h10 (T 168 (T 170 (T 182 (T 185 .nil)))))))))
        try simp only[if_neg h10]
        have P11 {hs q} (r:PS F X hs q):=(P10 (N h10 (N h10 (.f h6 (.f h6 (.f h6 (.f h6 (.f h6 (N h10 (.f h6 (N h10 (U 168 (U 170 (T 172 (T 174 (T 176 (T 178 (T 180 (U 182 (T 183 (U 185 r)))))))))))))))))))))
        by_cases h11:(decide (a0.f3 < 1))=true
        · try simp only[if_pos h11]
          exact cp ya (P11 (.f h11 (.f h11 (.f h11 (.f h11 (.f h11 (.f h11 (.f h11 (.f h11 (T 188 (T 190 (T 192 (T 194 (T 196 (T 198 (T 210 (T 213 .nil)))))))))))))))))
        try simp only[if_neg h11]
        have P12 {hs q} (r:PS F X hs q):=(P11 (N h11 (N h11 (N h11 (N h11 (N h11 (N h11 (U 188 (U 190 (U 192 (U 194 (U 196 (U 198 r)))))))))))))
        by_cases h12:(a0.f0==1)=true
        · try simp only[if_pos h12]
          have P13 {hs q} (r:PS F X hs q):=(P12 (.f h12 (.f h12 (.f h12 (.f h12 (.f h12 (N h11 (.f h12 (N h11 (T 200 (T 202 (T 204 (T 206 (T 208 (U 210 (T 211 (U 213 r)))))))))))))))))
          by_cases h13:(decide (a0.f3 > 9999))=true
          · try simp only[if_pos h13]
            exact cp ya (P13 (.f h13 (T 214 .nil)))
          try simp only[if_neg h13]
          exact cp ya (P13 (N h13 (U 214 .nil)))
        try simp only[if_neg h12]
        exact cp ya (P12 (N h12 (N h12 (N h12 (N h12 (N h12 (N h11 (N h12 (N h11 (U 200 (U 202 (U 204 (U 206 (U 208 (U 210 (U 211 (U 213 .nil)))))))))))))))))
      try simp only[if_neg h6]
      have P7 {hs q} (r:PS F X hs q):=(P6 (N h6 (N h6 (N h6 (N h6 (N h6 (N h6 (N h6 (N h6 (U 109 (U 111 (U 113 (U 115 (U 117 (U 119 (U 133 (U 136 (.r 147 [] [] (e116 (a0:=a0.f2)) r))))))))))))))))))
      by_cases h7:(!(m105 a0.f2 0 2147483646))=true
      · try simp only[if_pos h7]
        exact cp ya (P7 (.f h7 (.f h7 (.f h7 (.f h7 (.f h7 (.f h7 (.f h7 (T 152 (T 154 (T 156 (T 158 (T 160 (T 162 (T 165 .nil)))))))))))))))
      try simp only[if_neg h7]
      have P8 {hs q} (r:PS F X hs q):=(P7 (N h7 (N h7 (N h7 (N h7 (N h7 (U 152 (U 154 (U 156 (U 158 (U 160 (.r 161 [] [] (e101 (a0:=a0.f3)) (N h7 (N h7 (U 162 (U 165 r))))))))))))))))
      by_cases h8:(!(m105 a0.f3 0 1000000))=true
      · try simp only[if_pos h8]
        exact cp ya (P8 (.f h8 (.f h8 (.f h8 (.f h8 (T 168 (T 170 (T 182 (T 185 .nil)))))))))
      try simp only[if_neg h8]
      have P9 {hs q} (r:PS F X hs q):=(P8 (N h8 (N h8 (N h6 (N h6 (N h6 (N h6 (N h6 (N h8 (N h6 (N h8 (U 168 (U 170 (U 172 (U 174 (U 176 (U 178 (U 180 (U 182 (U 183 (U 185 r)))))))))))))))))))))
      by_cases h9:(a0.f0==1)=true
      · try simp only[if_pos h9]
        have P10 {hs q} (r:PS F X hs q):=(P9 (.f h9 (.f h9 (.f h9 (.f h9 (.f h9 (.f h9 (T 200 (T 202 (T 204 (T 206 (T 208 (T 211 r)))))))))))))
        by_cases h10:(decide (a0.f3 > 9999))=true
        · try simp only[if_pos h10]
          exact cp ya (P10 (.f h10 (T 214 .nil)))
        try simp only[if_neg h10]
        exact cp ya (P10 (N h10 (U 214 .nil)))
      try simp only[if_neg h9]
      exact cp ya (P9 (N h9 (N h9 (N h9 (N h9 (N h9 (N h9 (U 200 (U 202 (U 204 (U 206 (U 208 (U 211 .nil)))))))))))))
    try simp only[if_neg h4]
    have P5 {hs q} (r:PS F X hs q):=(P4 (N h4 (N h4 (N h4 (N h4 (N h4 (N h3 (N h4 (N h3 (U 90 (U 92 (U 94 (U 96 (U 98 (U 100 (U 101 (U 103 r)))))))))))))))))
    by_cases h5:(m114_0 a0.f0)=true
    · try simp only[if_pos h5]
      have P6 {hs q} (r:PS F X hs q):=(P5 (.f h5 (.f h5 (.f h5 (.f h5 (.f h5 (.f h5 (T 109 (T 111 (T 113 (T 115 (T 117 (T 119 r)))))))))))))
      by_cases h6:(a0.f1.toList==(⟨#[]⟩:ByteArray).toList)=true
      · try simp only[if_pos h6]
        exact cp ya (P6 (.f h6 (.f h6 (.f h6 (.f h6 (.f h6 (.f h6 (.f h5 (.f h6 (.f h5 (T 121 (T 123 (T 125 (T 127 (T 129 (T 131 (T 133 (T 134 (T 136 .nil)))))))))))))))))))
      try simp only[if_neg h6]
      have P7 {hs q} (r:PS F X hs q):=(P6 (N h6 (N h6 (N h6 (N h6 (N h6 (U 121 (U 123 (U 125 (U 127 (U 129 (.r 130 [] [] (e115 (a0:=a0.f1) ‹_›) (N h6 (.f h5 (N h6 (.f h5 (U 131 (T 133 (U 134 (T 136 r))))))))))))))))))))
      by_cases h7:(!(m115 a0.f1))=true
      · try simp only[if_pos h7]
        exact cp ya (P7 (.f h7 (T 137 .nil)))
      try simp only[if_neg h7]
      have P8 {hs q} (r:PS F X hs q):=(P7 (N h7 (U 137 (.r 147 [] [] (e116 (a0:=a0.f2)) r))))
      by_cases h8:(!(m105 a0.f2 0 2147483646))=true
      · try simp only[if_pos h8]
        exact cp ya (P8 (.f h8 (.f h8 (.f h8 (.f h8 (.f h8 (.f h8 (.f h8 (T 152 (T 154 (T 156 (T 158 (T 160 (T 162 (T 165 .nil)))))))))))))))
      try simp only[if_neg h8]
      have P9 {hs q} (r:PS F X hs q):=(P8 (N h8 (N h8 (N h8 (N h8 (N h8 (U 152 (U 154 (U 156 (U 158 (U 160 (.r 161 [] [] (e101 (a0:=a0.f3)) (N h8 (N h8 (U 162 (U 165 r))))))))))))))))
      by_cases h9:(!(m105 a0.f3 0 1000000))=true
      · try simp only[if_pos h9]
        exact cp ya (P9 (.f h9 (.f h9 (.f h9 (.f h9 (T 168 (T 170 (T 182 (T 185 .nil)))))))))
      try simp only[if_neg h9]
      have P10 {hs q} (r:PS F X hs q):=(P9 (N h9 (N h9 (.f h5 (.f h5 (.f h5 (.f h5 (.f h5 (N h9 (.f h5 (N h9 (U 168 (U 170 (T 172 (T 174 (T 176 (T 178 (T 180 (U 182 (T 183 (U 185 r)))))))))))))))))))))
      by_cases h10:(decide (a0.f3 < 1))=true
      · try simp only[if_pos h10]
        exact cp ya (P10 (.f h10 (.f h10 (.f h10 (.f h10 (.f h10 (.f h10 (.f h10 (.f h10 (T 188 (T 190 (T 192 (T 194 (T 196 (T 198 (T 210 (T 213 .nil)))))))))))))))))
      try simp only[if_neg h10]
      have P11 {hs q} (r:PS F X hs q):=(P10 (N h10 (N h10 (N h10 (N h10 (N h10 (N h10 (U 188 (U 190 (U 192 (U 194 (U 196 (U 198 r)))))))))))))
      by_cases h11:(a0.f0==1)=true
      · try simp only[if_pos h11]
        have P12 {hs q} (r:PS F X hs q):=(P11 (.f h11 (.f h11 (.f h11 (.f h11 (.f h11 (N h10 (.f h11 (N h10 (T 200 (T 202 (T 204 (T 206 (T 208 (U 210 (T 211 (U 213 r)))))))))))))))))
        by_cases h12:(decide (a0.f3 > 9999))=true
        · try simp only[if_pos h12]
          exact cp ya (P12 (.f h12 (T 214 .nil)))
        try simp only[if_neg h12]
        exact cp ya (P12 (N h12 (U 214 .nil)))
      try simp only[if_neg h11]
      exact cp ya (P11 (N h11 (N h11 (N h11 (N h11 (N h11 (N h10 (N h11 (N h10 (U 200 (U 202 (U 204 (U 206 (U 208 (U 210 (U 211 (U 213 .nil)))))))))))))))))
    try simp only[if_neg h5]
    have P6 {hs q} (r:PS F X hs q):=(P5 (N h5 (N h5 (N h5 (N h5 (N h5 (N h5 (N h5 (N h5 (U 109 (U 111 (U 113 (U 115 (U 117 (U 119 (U 133 (U 136 (.r 147 [] [] (e116 (a0:=a0.f2)) r))))))))))))))))))
    by_cases h6:(!(m105 a0.f2 0 2147483646))=true
    · try simp only[if_pos h6]
      exact cp ya (P6 (.f h6 (.f h6 (.f h6 (.f h6 (.f h6 (.f h6 (.f h6 (T 152 (T 154 (T 156 (T 158 (T 160 (T 162 (T 165 .nil)))))))))))))))
    try simp only[if_neg h6]
    have P7 {hs q} (r:PS F X hs q):=(P6 (N h6 (N h6 (N h6 (N h6 (N h6 (U 152 (U 154 (U 156 (U 158 (U 160 (.r 161 [] [] (e101 (a0:=a0.f3)) (N h6 (N h6 (U 162 (U 165 r))))))))))))))))
    by_cases h7:(!(m105 a0.f3 0 1000000))=true
    · try simp only[if_pos h7]
      exact cp ya (P7 (.f h7 (.f h7 (.f h7 (.f h7 (T 168 (T 170 (T 182 (T 185 .nil)))))))))
    try simp only[if_neg h7]
    have P8 {hs q} (r:PS F X hs q):=(P7 (N h7 (N h7 (N h5 (N h5 (N h5 (N h5 (N h5 (N h7 (N h5 (N h7 (U 168 (U 170 (U 172 (U 174 (U 176 (U 178 (U 180 (U 182 (U 183 (U 185 r)))))))))))))))))))))
    by_cases h8:(a0.f0==1)=true
    · try simp only[if_pos h8]
      have P9 {hs q} (r:PS F X hs q):=(P8 (.f h8 (.f h8 (.f h8 (.f h8 (.f h8 (.f h8 (T 200 (T 202 (T 204 (T 206 (T 208 (T 211 r)))))))))))))
      by_cases h9:(decide (a0.f3 > 9999))=true
      · try simp only[if_pos h9]
        exact cp ya (P9 (.f h9 (T 214 .nil)))
      try simp only[if_neg h9]
      exact cp ya (P9 (N h9 (U 214 .nil)))
    try simp only[if_neg h8]
    exact cp ya (P8 (N h8 (N h8 (N h8 (N h8 (N h8 (N h8 (U 200 (U 202 (U 204 (U 206 (U 208 (U 211 .nil)))))))))))))
  try simp only[if_neg h2]
  have P3 {hs q} (r:PS F X hs q):=(P2 (N h2 (N h2 (N h2 (N h2 (N h2 (N h2 (U 68 (U 70 (U 72 (U 74 (U 76 (U 79 r)))))))))))))
  by_cases h3:(!(m114_2 a0.f0))=true
  · try simp only[if_pos h3]
    have P4 {hs q} (r:PS F X hs q):=(P3 (.f h3 (.f h3 (.f h3 (.f h3 (.f h3 (.f h3 (T 90 (T 92 (T 94 (T 96 (T 98 (T 101 r)))))))))))))
    by_cases h4:(a0.f3 !=0)=true
    · try simp only[if_pos h4]
      exact cp ya (P4 (.f h4 (T 104 .nil)))
    try simp only[if_neg h4]
    have P5 {hs q} (r:PS F X hs q):=(P4 (N h4 (U 104 r)))
    by_cases h5:(m114_0 a0.f0)=true
    · try simp only[if_pos h5]
      have P6 {hs q} (r:PS F X hs q):=(P5 (.f h5 (.f h5 (.f h5 (.f h5 (.f h5 (.f h5 (T 109 (T 111 (T 113 (T 115 (T 117 (T 119 r)))))))))))))
      by_cases h6:(a0.f1.toList==(⟨#[]⟩:ByteArray).toList)=true
      · try simp only[if_pos h6]
        exact cp ya (P6 (.f h6 (.f h6 (.f h6 (.f h6 (.f h6 (.f h6 (.f h5 (.f h6 (.f h5 (T 121 (T 123 (T 125 (T 127 (T 129 (T 131 (T 133 (T 134 (T 136 .nil)))))))))))))))))))
      try simp only[if_neg h6]
      have P7 {hs q} (r:PS F X hs q):=(P6 (N h6 (N h6 (N h6 (N h6 (N h6 (U 121 (U 123 (U 125 (U 127 (U 129 (.r 130 [] [] (e115 (a0:=a0.f1) ‹_›) (N h6 (.f h5 (N h6 (.f h5 (U 131 (T 133 (U 134 (T 136 r))))))))))))))))))))
      by_cases h7:(!(m115 a0.f1))=true
      · try simp only[if_pos h7]
        exact cp ya (P7 (.f h7 (T 137 .nil)))
      try simp only[if_neg h7]
      have P8 {hs q} (r:PS F X hs q):=(P7 (N h7 (U 137 (.r 147 [] [] (e116 (a0:=a0.f2)) r))))
      by_cases h8:(!(m105 a0.f2 0 2147483646))=true
      · try simp only[if_pos h8]
        exact cp ya (P8 (.f h8 (.f h8 (.f h8 (.f h8 (.f h8 (.f h8 (.f h8 (T 152 (T 154 (T 156 (T 158 (T 160 (T 162 (T 165 .nil)))))))))))))))
      try simp only[if_neg h8]
      have P9 {hs q} (r:PS F X hs q):=(P8 (N h8 (N h8 (N h8 (N h8 (N h8 (U 152 (U 154 (U 156 (U 158 (U 160 (.r 161 [] [] (e101 (a0:=a0.f3)) (N h8 (N h8 (U 162 (U 165 r))))))))))))))))
      by_cases h9:(!(m105 a0.f3 0 1000000))=true
      · try simp only[if_pos h9]
        exact cp ya (P9 (.f h9 (.f h9 (.f h9 (.f h9 (T 168 (T 170 (T 182 (T 185 .nil)))))))))
      try simp only[if_neg h9]
      have P10 {hs q} (r:PS F X hs q):=(P9 (N h9 (N h9 (.f h5 (.f h5 (.f h5 (.f h5 (.f h5 (N h9 (.f h5 (N h9 (U 168 (U 170 (T 172 (T 174 (T 176 (T 178 (T 180 (U 182 (T 183 (U 185 r)))))))))))))))))))))
      by_cases h10:(decide (a0.f3 < 1))=true
      · try simp only[if_pos h10]
        exact cp ya (P10 (.f h10 (.f h10 (.f h10 (.f h10 (.f h10 (.f h10 (.f h10 (.f h10 (T 188 (T 190 (T 192 (T 194 (T 196 (T 198 (T 210 (T 213 .nil)))))))))))))))))
      try simp only[if_neg h10]
      have P11 {hs q} (r:PS F X hs q):=(P10 (N h10 (N h10 (N h10 (N h10 (N h10 (N h10 (U 188 (U 190 (U 192 (U 194 (U 196 (U 198 r)))))))))))))
      by_cases h11:(a0.f0==1)=true
      · try simp only[if_pos h11]
        have P12 {hs q} (r:PS F X hs q):=(P11 (.f h11 (.f h11 (.f h11 (.f h11 (.f h11 (N h10 (.f h11 (N h10 (T 200 (T 202 (T 204 (T 206 (T 208 (U 210 (T 211 (U 213 r)))))))))))))))))
        by_cases h12:(decide (a0.f3 > 9999))=true
        · try simp only[if_pos h12]
          exact cp ya (P12 (.f h12 (T 214 .nil)))
        try simp only[if_neg h12]
        exact cp ya (P12 (N h12 (U 214 .nil)))
      try simp only[if_neg h11]
      exact cp ya (P11 (N h11 (N h11 (N h11 (N h11 (N h11 (N h10 (N h11 (N h10 (U 200 (U 202 (U 204 (U 206 (U 208 (U 210 (U 211 (U 213 .nil)))))))))))))))))
    try simp only[if_neg h5]
    have P6 {hs q} (r:PS F X hs q):=(P5 (N h5 (N h5 (N h5 (N h5 (N h5 (N h5 (N h5 (N h5 (U 109 (U 111 (U 113 (U 115 (U 117 (U 119 (U 133 (U 136 (.r 147 [] [] (e116 (a0:=a0.f2)) r))))))))))))))))))
    by_cases h6:(!(m105 a0.f2 0 2147483646))=true
    · try simp only[if_pos h6]
      exact cp ya (P6 (.f h6 (.f h6 (.f h6 (.f h6 (.f h6 (.f h6 (.f h6 (T 152 (T 154 (T 156 (T 158 (T 160 (T 162 (T 165 .nil)))))))))))))))
    try simp only[if_neg h6]
    have P7 {hs q} (r:PS F X hs q):=(P6 (N h6 (N h6 (N h6 (N h6 (N h6 (U 152 (U 154 (U 156 (U 158 (U 160 (.r 161 [] [] (e101 (a0:=a0.f3)) (N h6 (N h6 (U 162 (U 165 r))))))))))))))))
    by_cases h7:(!(m105 a0.f3 0 1000000))=true
    · try simp only[if_pos h7]
      exact cp ya (P7 (.f h7 (.f h7 (.f h7 (.f h7 (T 168 (T 170 (T 182 (T 185 .nil)))))))))
    try simp only[if_neg h7]
    have P8 {hs q} (r:PS F X hs q):=(P7 (N h7 (N h7 (N h5 (N h5 (N h5 (N h5 (N h5 (N h7 (N h5 (N h7 (U 168 (U 170 (U 172 (U 174 (U 176 (U 178 (U 180 (U 182 (U 183 (U 185 r)))))))))))))))))))))
    by_cases h8:(a0.f0==1)=true
    · try simp only[if_pos h8]
      have P9 {hs q} (r:PS F X hs q):=(P8 (.f h8 (.f h8 (.f h8 (.f h8 (.f h8 (.f h8 (T 200 (T 202 (T 204 (T 206 (T 208 (T 211 r)))))))))))))
      by_cases h9:(decide (a0.f3 > 9999))=true
      · try simp only[if_pos h9]
        exact cp ya (P9 (.f h9 (T 214 .nil)))
      try simp only[if_neg h9]
      exact cp ya (P9 (N h9 (U 214 .nil)))
    try simp only[if_neg h8]
    exact cp ya (P8 (N h8 (N h8 (N h8 (N h8 (N h8 (N h8 (U 200 (U 202 (U 204 (U 206 (U 208 (U 211 .nil)))))))))))))
  try simp only[if_neg h3]
  have P4 {hs q} (r:PS F X hs q):=(P3 (N h3 (N h3 (N h3 (N h3 (N h3 (N h3 (U 90 (U 92 (U 94 (U 96 (U 98 (U 101 r)))))))))))))
  by_cases h4:(m114_0 a0.f0)=true
  · try simp only[if_pos h4]
    have P5 {hs q} (r:PS F X hs q):=(P4 (.f h4 (.f h4 (.f h4 (.f h4 (.f h4 (.f h4 (T 109 (T 111 (T 113 (T 115 (T 117 (T 119 r)))))))))))))
    by_cases h5:(a0.f1.toList==(⟨#[]⟩:ByteArray).toList)=true
    · try simp only[if_pos h5]
      exact cp ya (P5 (.f h5 (.f h5 (.f h5 (.f h5 (.f h5 (.f h5 (.f h4 (.f h5 (.f h4 (T 121 (T 123 (T 125 (T 127 (T 129 (T 131 (T 133 (T 134 (T 136 .nil)))))))))))))))))))
    try simp only[if_neg h5]
    have P6 {hs q} (r:PS F X hs q):=(P5 (N h5 (N h5 (N h5 (N h5 (N h5 (U 121 (U 123 (U 125 (U 127 (U 129 (.r 130 [] [] (e115 (a0:=a0.f1) ‹_›) (N h5 (.f h4 (N h5 (.f h4 (U 131 (T 133 (U 134 (T 136 r))))))))))))))))))))
    by_cases h6:(!(m115 a0.f1))=true
    · try simp only[if_pos h6]
      exact cp ya (P6 (.f h6 (T 137 .nil)))
    try simp only[if_neg h6]
    have P7 {hs q} (r:PS F X hs q):=(P6 (N h6 (U 137 (.r 147 [] [] (e116 (a0:=a0.f2)) r))))
    by_cases h7:(!(m105 a0.f2 0 2147483646))=true
    · try simp only[if_pos h7]
      exact cp ya (P7 (.f h7 (.f h7 (.f h7 (.f h7 (.f h7 (.f h7 (.f h7 (T 152 (T 154 (T 156 (T 158 (T 160 (T 162 (T 165 .nil)))))))))))))))
    try simp only[if_neg h7]
    have P8 {hs q} (r:PS F X hs q):=(P7 (N h7 (N h7 (N h7 (N h7 (N h7 (U 152 (U 154 (U 156 (U 158 (U 160 (.r 161 [] [] (e101 (a0:=a0.f3)) (N h7 (N h7 (U 162 (U 165 r))))))))))))))))
    by_cases h8:(!(m105 a0.f3 0 1000000))=true
    · try simp only[if_pos h8]
      exact cp ya (P8 (.f h8 (.f h8 (.f h8 (.f h8 (T 168 (T 170 (T 182 (T 185 .nil)))))))))
    try simp only[if_neg h8]
    have P9 {hs q} (r:PS F X hs q):=(P8 (N h8 (N h8 (.f h4 (.f h4 (.f h4 (.f h4 (.f h4 (N h8 (.f h4 (N h8 (U 168 (U 170 (T 172 (T 174 (T 176 (T 178 (T 180 (U 182 (T 183 (U 185 r)))))))))))))))))))))
    by_cases h9:(decide (a0.f3 < 1))=true
    · try simp only[if_pos h9]
      exact cp ya (P9 (.f h9 (.f h9 (.f h9 (.f h9 (.f h9 (.f h9 (.f h9 (.f h9 (T 188 (T 190 (T 192 (T 194 (T 196 (T 198 (T 210 (T 213 .nil)))))))))))))))))
    try simp only[if_neg h9]
    have P10 {hs q} (r:PS F X hs q):=(P9 (N h9 (N h9 (N h9 (N h9 (N h9 (N h9 (U 188 (U 190 (U 192 (U 194 (U 196 (U 198 r)))))))))))))
    by_cases h10:(a0.f0==1)=true
    · try simp only[if_pos h10]
      have P11 {hs q} (r:PS F X hs q):=(P10 (.f h10 (.f h10 (.f h10 (.f h10 (.f h10 (N h9 (.f h10 (N h9 (T 200 (T 202 (T 204 (T 206 (T 208 (U 210 (T 211 (U 213 r)))))))))))))))))
      by_cases h11:(decide (a0.f3 > 9999))=true
      · try simp only[if_pos h11]
        exact cp ya (P11 (.f h11 (T 214 .nil)))
      try simp only[if_neg h11]
      exact cp ya (P11 (N h11 (U 214 .nil)))
    try simp only[if_neg h10]
    exact cp ya (P10 (N h10 (N h10 (N h10 (N h10 (N h10 (N h9 (N h10 (N h9 (U 200 (U 202 (U 204 (U 206 (U 208 (U 210 (U 211 (U 213 .nil)))))))))))))))))
  try simp only[if_neg h4]
  have P5 {hs q} (r:PS F X hs q):=(P4 (N h4 (N h4 (N h4 (N h4 (N h4 (N h4 (N h4 (N h4 (U 109 (U 111 (U 113 (U 115 (U 117 (U 119 (U 133 (U 136 (.r 147 [] [] (e116 (a0:=a0.f2)) r))))))))))))))))))
  by_cases h5:(!(m105 a0.f2 0 2147483646))=true
  · try simp only[if_pos h5]
    exact cp ya (P5 (.f h5 (.f h5 (.f h5 (.f h5 (.f h5 (.f h5 (.f h5 (T 152 (T 154 (T 156 (T 158 (T 160 (T 162 (T 165 .nil)))))))))))))))
  try simp only[if_neg h5]
  have P6 {hs q} (r:PS F X hs q):=(P5 (N h5 (N h5 (N h5 (N h5 (N h5 (U 152 (U 154 (U 156 (U 158 (U 160 (.r 161 [] [] (e101 (a0:=a0.f3)) (N h5 (N h5 (U 162 (U 165 r))))))))))))))))
  by_cases h6:(!(m105 a0.f3 0 1000000))=true
  · try simp only[if_pos h6]
    exact cp ya (P6 (.f h6 (.f h6 (.f h6 (.f h6 (T 168 (T 170 (T 182 (T 185 .nil)))))))))
  try simp only[if_neg h6]
  have P7 {hs q} (r:PS F X hs q):=(P6 (N h6 (N h6 (N h4 (N h4 (N h4 (N h4 (N h4 (N h6 (N h4 (N h6 (U 168 (U 170 (U 172 (U 174 (U 176 (U 178 (U 180 (U 182 (U 183 (U 185 r)))))))))))))))))))))
  by_cases h7:(a0.f0==1)=true
  · try simp only[if_pos h7]
    have P8 {hs q} (r:PS F X hs q):=(P7 (.f h7 (.f h7 (.f h7 (.f h7 (.f h7 (.f h7 (T 200 (T 202 (T 204 (T 206 (T 208 (T 211 r)))))))))))))
    by_cases h8:(decide (a0.f3 > 9999))=true
    · try simp only[if_pos h8]
      exact cp ya (P8 (.f h8 (T 214 .nil)))
    try simp only[if_neg h8]
    exact cp ya (P8 (N h8 (U 214 .nil)))
  try simp only[if_neg h7]
  exact cp ya (P7 (N h7 (N h7 (N h7 (N h7 (N h7 (N h7 (U 200 (U 202 (U 204 (U 206 (U 208 (U 211 .nil)))))))))))))
theorem fault_len69 {a:K_isii} (h:¬((m69 a) !=0)=true):ByteArray.size a.f1≤12:=by
  by_cases h1:(a.f1.toList==(⟨#[]⟩:ByteArray).toList)=true
  · rw[ba_eq] at h1
    simp only[decide_eq_true_eq] at h1
    rw[h1]; decide
  by_cases h2:m115 a.f1=true
  · exact arg_len115 h2
  exfalso
  apply h
  have e1:(!(a.f1.toList==(⟨#[]⟩:ByteArray).toList))=true:=by simpa using h1
  have e2:(!(m115 a.f1))=true:=by simpa using h2
  unfold m69
  simp only[if_pos e1,if_pos e2,if_neg h1]
  cases h3:m114_0 a.f0<;>simp only[Bool.not_true,Bool.not_false,Bool.false_eq_true,if_true,if_false]<;>(repeat' split)<;>first | rfl | simp_all
def m23 (a0:K_isii):K_iLyE:=
  if((m69 a0) !=0)=true then(K_iLyE.mk (m69 a0) []) else
  (K_iLyE.mk 0 (m70 a0))
theorem e23 {a0:K_isii} (hy0:ByteArray.size a0.f1≤140737488351232):Ev F X (.call 23 [(.agg [(.val (.int .i64 a0.f0)),(.val (.string a0.f1)),(.val (.int .i64 a0.f2)),(.val (.int .i64 a0.f3))])] [] [] [(.agg (d_iLyE (m23 a0)))]):=by
  unfold m23
  have f0:fullL [(.i a0.f0),(.val (.string a0.f1)),(.i a0.f2),(.i a0.f3)]=true:=yA
  have P0 {hs q} (r:PS F X hs q):=(PS.f f0 (.r 5 [] [] (e69 (l0:=0) (a0:=a0) ‹_›) r))
  by_cases h0:((m69 a0) !=0)=true
  · try simp only[if_pos h0]
    have f3:pureR []=true:=(by assumption)
    exact cp ya (P0 (.f h0 (.f f3 (T 12 .nil))))
  try simp only[if_neg h0]
  exact cp ya (P0 (N h0 (.f f0 (U 12 (.r 14 [] [] (e70 (l0:=0) (a0:=a0) (by have q:=fault_len69 ‹_›; omega)) (pe 0 (pe (length (map d_y (m70 a0))) (.f (pureR_y (m70 a0)) .nil))))))))
theorem e25 {a0:K_isii} (hy0:ByteArray.size a0.f1≤140737488351232):Ev F X (.call 25 [(.agg [(.val (.int .i64 a0.f0)),(.val (.string a0.f1)),(.val (.int .i64 a0.f2)),(.val (.int .i64 a0.f3))])] [] [] [(.one (.val (.int .i64 (m69 a0))))]):=by
  have f0:fullL [(.i a0.f0),(.val (.string a0.f1)),(.i a0.f2),(.i a0.f3)]=true:=yA
  exact cp ya (.f f0 (.r 5 [] [] (e69 (l0:=0) (a0:=a0) ‹_›) .nil))
def m73 (a0:K_LyEi):Int:=
  if(decide (((length (map b_y a0.f0)):Int) > 1200))=true then 2 else
  if(!(m105 a0.f1 0 ((length (map b_y a0.f0)):Int)))=true then 3 else
    0
theorem e73 {l0:Nat} {a0:K_LyEi}:Ev F X (.call 73 [(.bptr l0 (b_LyEi a0))] [] [] [(.one (.val (.int .i64 (m73 a0))))]):=by
  unfold m73
  by_cases h0:(decide (((length (map b_y a0.f0)):Int) > 1200))=true
  · try simp only[if_pos h0]
    exact cp ya (.f h0 (T 14 .nil))
  try simp only[if_neg h0]
  have P1 {hs q} (r:PS F X hs q):=(PS.f (nt h0) (U 14 (.r 34 [] [] (e105 (a0:=a0.f1) (a1:=0) (a2:=((length (map b_y a0.f0)):Int))) r)))
  by_cases h1:(!(m105 a0.f1 0 ((length (map b_y a0.f0)):Int)))=true
  · try simp only[if_pos h1]
    exact cp ya (P1 (.f h1 (T 37 .nil)))
  try simp only[if_neg h1]
  exact cp ya (P1 (N h1 (U 37 .nil)))
theorem disk_len73 {a:K_LyEi} (h:¬((m73 a) !=0)=true):length a.f0≤1200:=by
  have h2:m73 a=0:=by simpa using h
  unfold m73 at h2
  split at h2
  · cases h2
  rename_i h3
  simp only[decide_eq_true_eq,length_map] at h3
  omega
def m26 (a0:K_LyEi) (a1:K_isii):K_iLyEi:=
  if((m73 a0) !=0)=true then(K_iLyEi.mk (m73 a0) [] 0) else
  if((m69 a1) !=0)=true then(K_iLyEi.mk (m69 a1) [] 0) else
    if(!(m74_1 a0 a1))=true then(K_iLyEi.mk 10 [] 0) else
      (K_iLyEi.mk 0 ((m74_0 a0 a1).f0) ((m74_0 a0 a1).f1))
theorem e26 {l0_0:Nat} {a0:K_LyEi} {a1:K_isii} (hy0:length a0.f0*1≤140737488351232) (hy1:ByteArray.size a1.f1≤140737488351232):Ev F X (.call 26 [(.agg (k_LyEi l0_0 a0)),(.agg [(.val (.int .i64 a1.f0)),(.val (.string a1.f1)),(.val (.int .i64 a1.f2)),(.val (.int .i64 a1.f3))])] [] [] [(.agg (d_iLyEi (m26 a0 a1)))]):=by
  unfold m26
  have f0:fullL [(.bor l0_0 (map b_y a0.f0)),(.i a0.f1)]=true:=yA
  have P0 {hs q} (r:PS F X hs q):=(PS.f f0 (.r 7 [] [] (e73 (l0:=0) (a0:=a0)) r))
  by_cases h0:((m73 a0) !=0)=true
  · try simp only[if_pos h0]
    have f3:pureR []=true:=(by assumption)
    exact cp ya (P0 (.f h0 (.f f3 (T 14 .nil))))
  try simp only[if_neg h0]
  have f3:fullL [(.i a1.f0),(.val (.string a1.f1)),(.i a1.f2),(.i a1.f3)]=true:=(by assumption)
  have P1 {hs q} (r:PS F X hs q):=(P0 (N h0 (.f f3 (U 14 (.r 16 [] [] (e69 (l0:=0) (a0:=a1) ‹_›) r)))))
  by_cases h1:((m69 a1) !=0)=true
  · try simp only[if_pos h1]
    have f6:pureR []=true:=(by assumption)
    exact cp ya (P1 (.f h1 (.f f6 (T 23 .nil))))
  try simp only[if_neg h1]
  have P2 {hs q} (r:PS F X hs q):=(P1 (N h1 (.f f3 (U 23 (.r 27 [] [] (e74 (l0_0:=(l0_0+1)) (l1:=0) (a0:=a0) (a1:=a1) (by have q:=disk_len73 ‹_›; omega) (by have q:=fault_len69 ‹_›; omega)) (pe 0 (pe (length (map d_y ((m74_0 a0 a1).f0))) r)))))))
  by_cases h2:(!(m74_1 a0 a1))=true
  · try simp only[if_pos h2]
    have f11:pureR []=true:=(by assumption)
    exact cp ya (P2 (.f h2 (.f f11 (T 44 .nil))))
  try simp only[if_neg h2]
  exact cp ya (P2 (N h2 (pe 0 (pe (length (map d_y ((m74_0 a0 a1).f0))) (.f (pureR_y ((m74_0 a0 a1).f0)) (U 44 .nil))))))
def m142 (a0:(List Int)):Int:=
  (wrap .i64 ((wrap .i64 ((wrap .i64 ((wrap .i64 ((wrap .i64 ((getD a0 0 0)))*2 ^(min (toNat 24) (IntKind.bits .i64))))+(wrap .i64 ((wrap .i64 ((getD a0 1 0)))*2 ^(min (toNat 16) (IntKind.bits .i64))))))+(wrap .i64 ((wrap .i64 ((getD a0 2 0)))*2 ^(min (toNat 8) (IntKind.bits .i64))))))+(wrap .i64 ((getD a0 3 0)))))
theorem e142 {l0_0:Nat} {a0:(List Int)} (hy0:4≤length a0):Ev F X (.call 142 [(.one (.bor l0_0 (map b_y a0)))] [] [] [(.one (.val (.int .i64 (m142 a0))))]):=by
  have f0:0≤(0:Int):=yb
  have f2:0≤(24:Int):=yb
  have f3:0≤(1:Int):=yb
  have f5:0≤(16:Int):=yb
  have f7:0≤(2:Int):=yb
  have f9:0≤(8:Int):=yb
  have f11:0≤(3:Int):=yb
  exact cp ya (.f f0 (.f (mp_ b_y (getD_at a0 0 0 yb)) (.f f2 (.f f3 (.f (mp_ b_y (getD_at a0 1 0 yb)) (.f f5 (.f trivial (.f f7 (.f (mp_ b_y (getD_at a0 2 0 yb)) (.f f9 (.f trivial (.f f11 (.f (mp_ b_y (getD_at a0 3 0 yb)) (.f trivial (.h 5 (.row [(.val (.int .u8 (getD a0 0 0)))]) (.h 15 (.row [(.val (.int .u8 (getD a0 1 0)))]) (.h 27 (.row [(.val (.int .u8 (getD a0 2 0)))]) (.h 39 (.row [(.val (.int .u8 (getD a0 3 0)))]) .nil))))))))))))))))))
def m121_0 (a0:(List Int)):K_isii:=
  if(decide (((length (map b_y a0)):Int) < 1))=true then(K_isii.mk 0 (⟨#[]⟩:ByteArray) 0 0) else
  if(decide (((length (map b_y a0)):Int) <(wrap .i64 ((wrap .i64 ((getD a0 0 0)))+3))))=true then(K_isii.mk 0 (⟨#[]⟩:ByteArray) 0 0) else
    if(decide ((getD a0 0 0) < 10))=true then(K_isii.mk 0 (⟨#[]⟩:ByteArray) 0 0) else
      if(((length (take (toNat (wrap .i64 (1+(wrap .i64 ((getD a0 0 0))))) - toNat 1) (drop 1 (map b_y a0)))):Int) !=(wrap .i64 (10+(wrap .i64 ((getD (take (toNat (wrap .i64 (1+(wrap .i64 ((getD a0 0 0))))) - toNat 1) (drop 1 a0)) 1 0))))))=true then(K_isii.mk 0 (⟨#[]⟩:ByteArray) 0 0) else
        (K_isii.mk (wrap .i64 ((getD (take (toNat (wrap .i64 (1+(wrap .i64 ((getD a0 0 0))))) - toNat 1) (drop 1 a0)) 0 0))) (bytesOf (take (toNat (wrap .i64 (2+(wrap .i64 ((getD (take (toNat (wrap .i64 (1+(wrap .i64 ((getD a0 0 0))))) - toNat 1) (drop 1 a0)) 1 0))))) - toNat 2) (drop 2 (take (toNat (wrap .i64 (1+(wrap .i64 ((getD a0 0 0))))) - toNat 1) (drop 1 a0))))) (m142 (drop (toNat (wrap .i64 (2+(wrap .i64 ((getD (take (toNat (wrap .i64 (1+(wrap .i64 ((getD a0 0 0))))) - toNat 1) (drop 1 a0)) 1 0)))))) (take (toNat (wrap .i64 (1+(wrap .i64 ((getD a0 0 0))))) - toNat 1) (drop 1 a0)))) (m142 (drop (toNat (wrap .i64 (6+(wrap .i64 ((getD (take (toNat (wrap .i64 (1+(wrap .i64 ((getD a0 0 0))))) - toNat 1) (drop 1 a0)) 1 0)))))) (take (toNat (wrap .i64 (1+(wrap .i64 ((getD a0 0 0))))) - toNat 1) (drop 1 a0)))))
def m121_1 (a0:(List Int)):Bool:=
  if(decide (((length (map b_y a0)):Int) < 1))=true then false else
  if(decide (((length (map b_y a0)):Int) <(wrap .i64 ((wrap .i64 ((getD a0 0 0)))+3))))=true then false else
    if(decide ((getD a0 0 0) < 10))=true then false else
      if(((length (take (toNat (wrap .i64 (1+(wrap .i64 ((getD a0 0 0))))) - toNat 1) (drop 1 (map b_y a0)))):Int) !=(wrap .i64 (10+(wrap .i64 ((getD (take (toNat (wrap .i64 (1+(wrap .i64 ((getD a0 0 0))))) - toNat 1) (drop 1 a0)) 1 0))))))=true then false else
        if((m69 (K_isii.mk (wrap .i64 ((getD (take (toNat (wrap .i64 (1+(wrap .i64 ((getD a0 0 0))))) - toNat 1) (drop 1 a0)) 0 0))) (bytesOf (take (toNat (wrap .i64 (2+(wrap .i64 ((getD (take (toNat (wrap .i64 (1+(wrap .i64 ((getD a0 0 0))))) - toNat 1) (drop 1 a0)) 1 0))))) - toNat 2) (drop 2 (take (toNat (wrap .i64 (1+(wrap .i64 ((getD a0 0 0))))) - toNat 1) (drop 1 a0))))) (m142 (drop (toNat (wrap .i64 (2+(wrap .i64 ((getD (take (toNat (wrap .i64 (1+(wrap .i64 ((getD a0 0 0))))) - toNat 1) (drop 1 a0)) 1 0)))))) (take (toNat (wrap .i64 (1+(wrap .i64 ((getD a0 0 0))))) - toNat 1) (drop 1 a0)))) (m142 (drop (toNat (wrap .i64 (6+(wrap .i64 ((getD (take (toNat (wrap .i64 (1+(wrap .i64 ((getD a0 0 0))))) - toNat 1) (drop 1 a0)) 1 0)))))) (take (toNat (wrap .i64 (1+(wrap .i64 ((getD a0 0 0))))) - toNat 1) (drop 1 a0)))))) !=0)=true then false else
          ((bytesOf (take (toNat ((length (map d_y (m70 (K_isii.mk (wrap .i64 ((getD (take (toNat (wrap .i64 (1+(wrap .i64 ((getD a0 0 0))))) - toNat 1) (drop 1 a0)) 0 0))) (bytesOf (take (toNat (wrap .i64 (2+(wrap .i64 ((getD (take (toNat (wrap .i64 (1+(wrap .i64 ((getD a0 0 0))))) - toNat 1) (drop 1 a0)) 1 0))))) - toNat 2) (drop 2 (take (toNat (wrap .i64 (1+(wrap .i64 ((getD a0 0 0))))) - toNat 1) (drop 1 a0))))) (m142 (drop (toNat (wrap .i64 (2+(wrap .i64 ((getD (take (toNat (wrap .i64 (1+(wrap .i64 ((getD a0 0 0))))) - toNat 1) (drop 1 a0)) 1 0)))))) (take (toNat (wrap .i64 (1+(wrap .i64 ((getD a0 0 0))))) - toNat 1) (drop 1 a0)))) (m142 (drop (toNat (wrap .i64 (6+(wrap .i64 ((getD (take (toNat (wrap .i64 (1+(wrap .i64 ((getD a0 0 0))))) - toNat 1) (drop 1 a0)) 1 0)))))) (take (toNat (wrap .i64 (1+(wrap .i64 ((getD a0 0 0))))) - toNat 1) (drop 1 a0)))))))):Int)) a0)).toList==(bytesOf (m70 (K_isii.mk (wrap .i64 ((getD (take (toNat (wrap .i64 (1+(wrap .i64 ((getD a0 0 0))))) - toNat 1) (drop 1 a0)) 0 0))) (bytesOf (take (toNat (wrap .i64 (2+(wrap .i64 ((getD (take (toNat (wrap .i64 (1+(wrap .i64 ((getD a0 0 0))))) - toNat 1) (drop 1 a0)) 1 0))))) - toNat 2) (drop 2 (take (toNat (wrap .i64 (1+(wrap .i64 ((getD a0 0 0))))) - toNat 1) (drop 1 a0))))) (m142 (drop (toNat (wrap .i64 (2+(wrap .i64 ((getD (take (toNat (wrap .i64 (1+(wrap .i64 ((getD a0 0 0))))) - toNat 1) (drop 1 a0)) 1 0)))))) (take (toNat (wrap .i64 (1+(wrap .i64 ((getD a0 0 0))))) - toNat 1) (drop 1 a0)))) (m142 (drop (toNat (wrap .i64 (6+(wrap .i64 ((getD (take (toNat (wrap .i64 (1+(wrap .i64 ((getD a0 0 0))))) - toNat 1) (drop 1 a0)) 1 0)))))) (take (toNat (wrap .i64 (1+(wrap .i64 ((getD a0 0 0))))) - toNat 1) (drop 1 a0))))))).toList)
theorem e121 {l0_0:Nat} {a0:(List Int)} (hy0:∀z∈a0,(0:Int)≤z∧z≤255) (hy1:length a0≤140737488351232):Ev F X (.call 121 [(.one (.bor l0_0 (map b_y a0)))] [] [] [(.agg [(.val (.int .i64 ((m121_0 a0).f0))),(.val (.string ((m121_0 a0).f1))),(.val (.int .i64 ((m121_0 a0).f2))),(.val (.int .i64 ((m121_0 a0).f3)))]),(.one (.val (.bool (m121_1 a0))))]):=by
  unfold m121_0 m121_1
  by_cases h0:(decide (((length (map b_y a0)):Int) < 1))=true
  · try simp only[if_pos h0]
    exact cp ya (.f h0 (.f h0 (.f h0 (.f h0 (.f h0 (.f h0 (.f h0 (.f h0 (.f h0 (T 18 (T 20 (T 22 (T 24 (T 26 (T 28 (T 30 (T 32 (T 35 .nil))))))))))))))))))
  try simp only[if_neg h0]
  have f4:0≤(0:Int):=yb
  have P1 {hs q} (r:PS F X hs q):=(PS.f (nt h0) (N h0 (N h0 (N h0 (.f f4 (.f (mp_ b_y (getD_at a0 0 0 yn)) (N h0 (N h0 (N h0 (.f trivial (N h0 (N h0 (U 18 (U 20 (U 22 (U 24 (.h 25 (.row [(.val (.int .u8 (getD a0 0 0)))]) (U 26 (U 28 (U 30 (U 32 (U 35 r))))))))))))))))))))))
  by_cases h1:(decide (((length (map b_y a0)):Int) <(wrap .i64 ((wrap .i64 ((getD a0 0 0)))+3))))=true
  · try simp only[if_pos h1]
    exact cp ya (P1 (.f h1 (.f h1 (.f h1 (.f h1 (.f h1 (T 38 (T 40 (T 42 (T 44 (T 47 .nil)))))))))))
  try simp only[if_neg h1]
  have P2 {hs q} (r:PS F X hs q):=(P1 (N h1 (N h1 (.f f4 (.f (mp_ b_y (getD_at a0 0 0 yn)) (N h1 (N h1 (N h1 (U 38 (U 40 (.h 41 (.row [(.val (.int .u8 (getD a0 0 0)))]) (U 42 (U 44 (U 47 r))))))))))))))
  by_cases h2:(decide ((getD a0 0 0) < 10))=true
  · try simp only[if_pos h2]
    exact cp ya (P2 (.f h2 (T 48 .nil)))
  try simp only[if_neg h2]
  have f23:(0≤(1:Int)∧(1:Int)≤(wrap .i64 (1+(wrap .i64 ((getD a0 0 0)))))∧(wrap .i64 (1+(wrap .i64 ((getD a0 0 0)))))≤((length (map b_y a0)):Int))∧∀r∈((map b_y a0):List (List B)),r.length=1:=yh
  have f24:0≤(1:Int):=yb
  have f25:(take (toNat (wrap .i64 (1+(wrap .i64 ((getD a0 0 0))))) - toNat 1) (drop 1 (map b_y a0)))[1]?=some [(.val (.int .u8 (getD (take (toNat (wrap .i64 (1+(wrap .i64 ((getD a0 0 0))))) - toNat 1) (drop 1 a0)) 1 0)))]:=(by simp only[← map_drop,← map_take]; rw[getElem?_map,getD_at (take (toNat (wrap .i64 (1+(wrap .i64 ((getD a0 0 0))))) - toNat 1) (drop 1 a0)) 1 0 yn]; rfl)
  have P3 {hs q} (r:PS F X hs q):=(P2 (N h2 (.f f4 (.f (mp_ b_y (getD_at a0 0 0 yn)) (.f trivial (.f f23 (.f f24 (.f f25 (.f trivial (U 48 (.h 54 (.row [(.val (.int .u8 (getD a0 0 0)))]) (.h 68 (.row [(.val (.int .u8 (getD (take (toNat (wrap .i64 (1+(wrap .i64 ((getD a0 0 0))))) - toNat 1) (drop 1 a0)) 1 0)))]) r))))))))))))
  by_cases h3:(((length (take (toNat (wrap .i64 (1+(wrap .i64 ((getD a0 0 0))))) - toNat 1) (drop 1 (map b_y a0)))):Int) !=(wrap .i64 (10+(wrap .i64 ((getD (take (toNat (wrap .i64 (1+(wrap .i64 ((getD a0 0 0))))) - toNat 1) (drop 1 a0)) 1 0))))))=true
  · try simp only[if_pos h3]
    exact cp ya (P3 (.f h3 (T 85 .nil)))
  try simp only[if_neg h3]
  have f29:(take (toNat (wrap .i64 (1+(wrap .i64 ((getD a0 0 0))))) - toNat 1) (drop 1 (map b_y a0)))[0]?=some [(.val (.int .u8 (getD (take (toNat (wrap .i64 (1+(wrap .i64 ((getD a0 0 0))))) - toNat 1) (drop 1 a0)) 0 0)))]:=(by simp only[← map_drop,← map_take]; rw[getElem?_map,getD_at (take (toNat (wrap .i64 (1+(wrap .i64 ((getD a0 0 0))))) - toNat 1) (drop 1 a0)) 0 0 yn]; rfl)
  have f31:(0≤(2:Int)∧(2:Int)≤(wrap .i64 (2+(wrap .i64 ((getD (take (toNat (wrap .i64 (1+(wrap .i64 ((getD a0 0 0))))) - toNat 1) (drop 1 a0)) 1 0)))))∧(wrap .i64 (2+(wrap .i64 ((getD (take (toNat (wrap .i64 (1+(wrap .i64 ((getD a0 0 0))))) - toNat 1) (drop 1 a0)) 1 0)))))≤((length (take (toNat (wrap .i64 (1+(wrap .i64 ((getD a0 0 0))))) - toNat 1) (drop 1 (map b_y a0)))):Int))∧∀r∈((take (toNat (wrap .i64 (1+(wrap .i64 ((getD a0 0 0))))) - toNat 1) (drop 1 (map b_y a0))):List (List B)),r.length=1:=yh
  have f32:rowsInts .u8 (fromBR l0_0 (take (toNat (wrap .i64 (2+(wrap .i64 ((getD (take (toNat (wrap .i64 (1+(wrap .i64 ((getD a0 0 0))))) - toNat 1) (drop 1 a0)) 1 0))))) - toNat 2) (drop 2 (take (toNat (wrap .i64 (1+(wrap .i64 ((getD a0 0 0))))) - toNat 1) (drop 1 (map b_y a0))))))=some (take (toNat (wrap .i64 (2+(wrap .i64 ((getD (take (toNat (wrap .i64 (1+(wrap .i64 ((getD a0 0 0))))) - toNat 1) (drop 1 a0)) 1 0))))) - toNat 2) (drop 2 (take (toNat (wrap .i64 (1+(wrap .i64 ((getD a0 0 0))))) - toNat 1) (drop 1 a0)))):=yaj
  have f34:(0≤(wrap .i64 (2+(wrap .i64 ((getD (take (toNat (wrap .i64 (1+(wrap .i64 ((getD a0 0 0))))) - toNat 1) (drop 1 a0)) 1 0)))))∧(wrap .i64 (2+(wrap .i64 ((getD (take (toNat (wrap .i64 (1+(wrap .i64 ((getD a0 0 0))))) - toNat 1) (drop 1 a0)) 1 0)))))≤((length (take (toNat (wrap .i64 (1+(wrap .i64 ((getD a0 0 0))))) - toNat 1) (drop 1 (map b_y a0)))):Int)∧((length (take (toNat (wrap .i64 (1+(wrap .i64 ((getD a0 0 0))))) - toNat 1) (drop 1 (map b_y a0)))):Int)≤((length (take (toNat (wrap .i64 (1+(wrap .i64 ((getD a0 0 0))))) - toNat 1) (drop 1 (map b_y a0)))):Int))∧∀r∈((take (toNat (wrap .i64 (1+(wrap .i64 ((getD a0 0 0))))) - toNat 1) (drop 1 (map b_y a0))):List (List B)),r.length=1:=yh
  have f35:Ev F X (.call 142 [(.one (.bor (l0_0+1) (take (toNat ((length (take (toNat (wrap .i64 (1+(wrap .i64 ((getD a0 0 0))))) - toNat 1) (drop 1 (map b_y a0)))):Int) - toNat (wrap .i64 (2+(wrap .i64 ((getD (take (toNat (wrap .i64 (1+(wrap .i64 ((getD a0 0 0))))) - toNat 1) (drop 1 a0)) 1 0)))))) (drop (toNat (wrap .i64 (2+(wrap .i64 ((getD (take (toNat (wrap .i64 (1+(wrap .i64 ((getD a0 0 0))))) - toNat 1) (drop 1 a0)) 1 0)))))) (take (toNat (wrap .i64 (1+(wrap .i64 ((getD a0 0 0))))) - toNat 1) (drop 1 (map b_y a0)))))))] [] [] [(.oi (m142 (drop (toNat (wrap .i64 (2+(wrap .i64 ((getD (take (toNat (wrap .i64 (1+(wrap .i64 ((getD a0 0 0))))) - toNat 1) (drop 1 a0)) 1 0)))))) (take (toNat (wrap .i64 (1+(wrap .i64 ((getD a0 0 0))))) - toNat 1) (drop 1 a0)))))]):=(by rw[show (take (toNat ((length (take (toNat (wrap .i64 (1+(wrap .i64 ((getD a0 0 0))))) - toNat 1) (drop 1 (map b_y a0)))):Int) - toNat (wrap .i64 (2+(wrap .i64 ((getD (take (toNat (wrap .i64 (1+(wrap .i64 ((getD a0 0 0))))) - toNat 1) (drop 1 a0)) 1 0)))))) (drop (toNat (wrap .i64 (2+(wrap .i64 ((getD (take (toNat (wrap .i64 (1+(wrap .i64 ((getD a0 0 0))))) - toNat 1) (drop 1 a0)) 1 0)))))) (take (toNat (wrap .i64 (1+(wrap .i64 ((getD a0 0 0))))) - toNat 1) (drop 1 (map b_y a0)))))=(map b_y (drop (toNat (wrap .i64 (2+(wrap .i64 ((getD (take (toNat (wrap .i64 (1+(wrap .i64 ((getD a0 0 0))))) - toNat 1) (drop 1 a0)) 1 0)))))) (take (toNat (wrap .i64 (1+(wrap .i64 ((getD a0 0 0))))) - toNat 1) (drop 1 a0)))) from by first | rfl |(simp[map_take,map_drop,four_len,high4,high2]; done) |(simp[byteRows_eq,map_take,map_drop,four_len,high4,high2]; done) |(simp[*,map_take,map_drop,four_len,high4,high2]; done) |(rw[take_of_length_le (by simp only[length_drop,length_take,length_map,Int.toNat_natCast]; omega)]; simp only[← map_drop,← map_take])]; exact(e142 (l0_0:=(l0_0+1)) (a0:=(drop (toNat (wrap .i64 (2+(wrap .i64 ((getD (take (toNat (wrap .i64 (1+(wrap .i64 ((getD a0 0 0))))) - toNat 1) (drop 1 a0)) 1 0)))))) (take (toNat (wrap .i64 (1+(wrap .i64 ((getD a0 0 0))))) - toNat 1) (drop 1 a0)))) yn))
  have f37:(0≤(wrap .i64 (6+(wrap .i64 ((getD (take (toNat (wrap .i64 (1+(wrap .i64 ((getD a0 0 0))))) - toNat 1) (drop 1 a0)) 1 0)))))∧(wrap .i64 (6+(wrap .i64 ((getD (take (toNat (wrap .i64 (1+(wrap .i64 ((getD a0 0 0))))) - toNat 1) (drop 1 a0)) 1 0)))))≤((length (take (toNat (wrap .i64 (1+(wrap .i64 ((getD a0 0 0))))) - toNat 1) (drop 1 (map b_y a0)))):Int)∧((length (take (toNat (wrap .i64 (1+(wrap .i64 ((getD a0 0 0))))) - toNat 1) (drop 1 (map b_y a0)))):Int)≤((length (take (toNat (wrap .i64 (1+(wrap .i64 ((getD a0 0 0))))) - toNat 1) (drop 1 (map b_y a0)))):Int))∧∀r∈((take (toNat (wrap .i64 (1+(wrap .i64 ((getD a0 0 0))))) - toNat 1) (drop 1 (map b_y a0))):List (List B)),r.length=1:=yh
  have f38:Ev F X (.call 142 [(.one (.bor (l0_0+1) (take (toNat ((length (take (toNat (wrap .i64 (1+(wrap .i64 ((getD a0 0 0))))) - toNat 1) (drop 1 (map b_y a0)))):Int) - toNat (wrap .i64 (6+(wrap .i64 ((getD (take (toNat (wrap .i64 (1+(wrap .i64 ((getD a0 0 0))))) - toNat 1) (drop 1 a0)) 1 0)))))) (drop (toNat (wrap .i64 (6+(wrap .i64 ((getD (take (toNat (wrap .i64 (1+(wrap .i64 ((getD a0 0 0))))) - toNat 1) (drop 1 a0)) 1 0)))))) (take (toNat (wrap .i64 (1+(wrap .i64 ((getD a0 0 0))))) - toNat 1) (drop 1 (map b_y a0)))))))] [] [] [(.oi (m142 (drop (toNat (wrap .i64 (6+(wrap .i64 ((getD (take (toNat (wrap .i64 (1+(wrap .i64 ((getD a0 0 0))))) - toNat 1) (drop 1 a0)) 1 0)))))) (take (toNat (wrap .i64 (1+(wrap .i64 ((getD a0 0 0))))) - toNat 1) (drop 1 a0)))))]):=(by rw[show (take (toNat ((length (take (toNat (wrap .i64 (1+(wrap .i64 ((getD a0 0 0))))) - toNat 1) (drop 1 (map b_y a0)))):Int) - toNat (wrap .i64 (6+(wrap .i64 ((getD (take (toNat (wrap .i64 (1+(wrap .i64 ((getD a0 0 0))))) - toNat 1) (drop 1 a0)) 1 0)))))) (drop (toNat (wrap .i64 (6+(wrap .i64 ((getD (take (toNat (wrap .i64 (1+(wrap .i64 ((getD a0 0 0))))) - toNat 1) (drop 1 a0)) 1 0)))))) (take (toNat (wrap .i64 (1+(wrap .i64 ((getD a0 0 0))))) - toNat 1) (drop 1 (map b_y a0)))))=(map b_y (drop (toNat (wrap .i64 (6+(wrap .i64 ((getD (take (toNat (wrap .i64 (1+(wrap .i64 ((getD a0 0 0))))) - toNat 1) (drop 1 a0)) 1 0)))))) (take (toNat (wrap .i64 (1+(wrap .i64 ((getD a0 0 0))))) - toNat 1) (drop 1 a0)))) from by first | rfl |(simp[map_take,map_drop,four_len,high4,high2]; done) |(simp[byteRows_eq,map_take,map_drop,four_len,high4,high2]; done) |(simp[*,map_take,map_drop,four_len,high4,high2]; done) |(rw[take_of_length_le (by simp only[length_drop,length_take,length_map,Int.toNat_natCast]; omega)]; simp only[← map_drop,← map_take])]; exact(e142 (l0_0:=(l0_0+1)) (a0:=(drop (toNat (wrap .i64 (6+(wrap .i64 ((getD (take (toNat (wrap .i64 (1+(wrap .i64 ((getD a0 0 0))))) - toNat 1) (drop 1 a0)) 1 0)))))) (take (toNat (wrap .i64 (1+(wrap .i64 ((getD a0 0 0))))) - toNat 1) (drop 1 a0)))) yn))
  have f39:fullL [(.i (wrap .i64 ((getD (take (toNat (wrap .i64 (1+(wrap .i64 ((getD a0 0 0))))) - toNat 1) (drop 1 a0)) 0 0)))),(.val (.string (bytesOf (take (toNat (wrap .i64 (2+(wrap .i64 ((getD (take (toNat (wrap .i64 (1+(wrap .i64 ((getD a0 0 0))))) - toNat 1) (drop 1 a0)) 1 0))))) - toNat 2) (drop 2 (take (toNat (wrap .i64 (1+(wrap .i64 ((getD a0 0 0))))) - toNat 1) (drop 1 a0))))))),(.i (m142 (drop (toNat (wrap .i64 (2+(wrap .i64 ((getD (take (toNat (wrap .i64 (1+(wrap .i64 ((getD a0 0 0))))) - toNat 1) (drop 1 a0)) 1 0)))))) (take (toNat (wrap .i64 (1+(wrap .i64 ((getD a0 0 0))))) - toNat 1) (drop 1 a0))))),(.i (m142 (drop (toNat (wrap .i64 (6+(wrap .i64 ((getD (take (toNat (wrap .i64 (1+(wrap .i64 ((getD a0 0 0))))) - toNat 1) (drop 1 a0)) 1 0)))))) (take (toNat (wrap .i64 (1+(wrap .i64 ((getD a0 0 0))))) - toNat 1) (drop 1 a0)))))]=true:=yA
  have P4 {hs q} (r:PS F X hs q):=(P3 (N h3 (.f f4 (.f f29 (.f trivial (.f f31 (.f f32 (.f trivial (.f f34 (U 85 (.h 89 (.row [(.val (.int .u8 (getD (take (toNat (wrap .i64 (1+(wrap .i64 ((getD a0 0 0))))) - toNat 1) (drop 1 a0)) 0 0)))]) (.h 103 (.ints (take (toNat (wrap .i64 (2+(wrap .i64 ((getD (take (toNat (wrap .i64 (1+(wrap .i64 ((getD a0 0 0))))) - toNat 1) (drop 1 a0)) 1 0))))) - toNat 2) (drop 2 (take (toNat (wrap .i64 (1+(wrap .i64 ((getD a0 0 0))))) - toNat 1) (drop 1 a0))))) (.r 113 [] [] f35 (.f trivial (.f f37 (.r 123 [] [] f38 (.f f39 (.r 129 [] [] (e69 (l0:=0) (a0:=(K_isii.mk (wrap .i64 ((getD (take (toNat (wrap .i64 (1+(wrap .i64 ((getD a0 0 0))))) - toNat 1) (drop 1 a0)) 0 0))) (bytesOf (take (toNat (wrap .i64 (2+(wrap .i64 ((getD (take (toNat (wrap .i64 (1+(wrap .i64 ((getD a0 0 0))))) - toNat 1) (drop 1 a0)) 1 0))))) - toNat 2) (drop 2 (take (toNat (wrap .i64 (1+(wrap .i64 ((getD a0 0 0))))) - toNat 1) (drop 1 a0))))) (m142 (drop (toNat (wrap .i64 (2+(wrap .i64 ((getD (take (toNat (wrap .i64 (1+(wrap .i64 ((getD a0 0 0))))) - toNat 1) (drop 1 a0)) 1 0)))))) (take (toNat (wrap .i64 (1+(wrap .i64 ((getD a0 0 0))))) - toNat 1) (drop 1 a0)))) (m142 (drop (toNat (wrap .i64 (6+(wrap .i64 ((getD (take (toNat (wrap .i64 (1+(wrap .i64 ((getD a0 0 0))))) - toNat 1) (drop 1 a0)) 1 0)))))) (take (toNat (wrap .i64 (1+(wrap .i64 ((getD a0 0 0))))) - toNat 1) (drop 1 a0)))))) yn) r))))))))))))))))))
  by_cases h4:((m69 (K_isii.mk (wrap .i64 ((getD (take (toNat (wrap .i64 (1+(wrap .i64 ((getD a0 0 0))))) - toNat 1) (drop 1 a0)) 0 0))) (bytesOf (take (toNat (wrap .i64 (2+(wrap .i64 ((getD (take (toNat (wrap .i64 (1+(wrap .i64 ((getD a0 0 0))))) - toNat 1) (drop 1 a0)) 1 0))))) - toNat 2) (drop 2 (take (toNat (wrap .i64 (1+(wrap .i64 ((getD a0 0 0))))) - toNat 1) (drop 1 a0))))) (m142 (drop (toNat (wrap .i64 (2+(wrap .i64 ((getD (take (toNat (wrap .i64 (1+(wrap .i64 ((getD a0 0 0))))) - toNat 1) (drop 1 a0)) 1 0)))))) (take (toNat (wrap .i64 (1+(wrap .i64 ((getD a0 0 0))))) - toNat 1) (drop 1 a0)))) (m142 (drop (toNat (wrap .i64 (6+(wrap .i64 ((getD (take (toNat (wrap .i64 (1+(wrap .i64 ((getD a0 0 0))))) - toNat 1) (drop 1 a0)) 1 0)))))) (take (toNat (wrap .i64 (1+(wrap .i64 ((getD a0 0 0))))) - toNat 1) (drop 1 a0)))))) !=0)=true
  · try simp only[if_pos h4]
    exact cp ya (P4 (.f h4 (T 132 .nil)))
  try simp only[if_neg h4]
  have f44:(0≤(0:Int)∧(0:Int)≤((length (map d_y (m70 (K_isii.mk (wrap .i64 ((getD (take (toNat (wrap .i64 (1+(wrap .i64 ((getD a0 0 0))))) - toNat 1) (drop 1 a0)) 0 0))) (bytesOf (take (toNat (wrap .i64 (2+(wrap .i64 ((getD (take (toNat (wrap .i64 (1+(wrap .i64 ((getD a0 0 0))))) - toNat 1) (drop 1 a0)) 1 0))))) - toNat 2) (drop 2 (take (toNat (wrap .i64 (1+(wrap .i64 ((getD a0 0 0))))) - toNat 1) (drop 1 a0))))) (m142 (drop (toNat (wrap .i64 (2+(wrap .i64 ((getD (take (toNat (wrap .i64 (1+(wrap .i64 ((getD a0 0 0))))) - toNat 1) (drop 1 a0)) 1 0)))))) (take (toNat (wrap .i64 (1+(wrap .i64 ((getD a0 0 0))))) - toNat 1) (drop 1 a0)))) (m142 (drop (toNat (wrap .i64 (6+(wrap .i64 ((getD (take (toNat (wrap .i64 (1+(wrap .i64 ((getD a0 0 0))))) - toNat 1) (drop 1 a0)) 1 0)))))) (take (toNat (wrap .i64 (1+(wrap .i64 ((getD a0 0 0))))) - toNat 1) (drop 1 a0)))))))):Int)∧((length (map d_y (m70 (K_isii.mk (wrap .i64 ((getD (take (toNat (wrap .i64 (1+(wrap .i64 ((getD a0 0 0))))) - toNat 1) (drop 1 a0)) 0 0))) (bytesOf (take (toNat (wrap .i64 (2+(wrap .i64 ((getD (take (toNat (wrap .i64 (1+(wrap .i64 ((getD a0 0 0))))) - toNat 1) (drop 1 a0)) 1 0))))) - toNat 2) (drop 2 (take (toNat (wrap .i64 (1+(wrap .i64 ((getD a0 0 0))))) - toNat 1) (drop 1 a0))))) (m142 (drop (toNat (wrap .i64 (2+(wrap .i64 ((getD (take (toNat (wrap .i64 (1+(wrap .i64 ((getD a0 0 0))))) - toNat 1) (drop 1 a0)) 1 0)))))) (take (toNat (wrap .i64 (1+(wrap .i64 ((getD a0 0 0))))) - toNat 1) (drop 1 a0)))) (m142 (drop (toNat (wrap .i64 (6+(wrap .i64 ((getD (take (toNat (wrap .i64 (1+(wrap .i64 ((getD a0 0 0))))) - toNat 1) (drop 1 a0)) 1 0)))))) (take (toNat (wrap .i64 (1+(wrap .i64 ((getD a0 0 0))))) - toNat 1) (drop 1 a0)))))))):Int)≤((length (map b_y a0)):Int))∧∀r∈((map b_y a0):List (List B)),r.length=1:=yh
  have f45:rowsInts .u8 (fromBR l0_0 (take (toNat ((length (map d_y (m70 (K_isii.mk (wrap .i64 ((getD (take (toNat (wrap .i64 (1+(wrap .i64 ((getD a0 0 0))))) - toNat 1) (drop 1 a0)) 0 0))) (bytesOf (take (toNat (wrap .i64 (2+(wrap .i64 ((getD (take (toNat (wrap .i64 (1+(wrap .i64 ((getD a0 0 0))))) - toNat 1) (drop 1 a0)) 1 0))))) - toNat 2) (drop 2 (take (toNat (wrap .i64 (1+(wrap .i64 ((getD a0 0 0))))) - toNat 1) (drop 1 a0))))) (m142 (drop (toNat (wrap .i64 (2+(wrap .i64 ((getD (take (toNat (wrap .i64 (1+(wrap .i64 ((getD a0 0 0))))) - toNat 1) (drop 1 a0)) 1 0)))))) (take (toNat (wrap .i64 (1+(wrap .i64 ((getD a0 0 0))))) - toNat 1) (drop 1 a0)))) (m142 (drop (toNat (wrap .i64 (6+(wrap .i64 ((getD (take (toNat (wrap .i64 (1+(wrap .i64 ((getD a0 0 0))))) - toNat 1) (drop 1 a0)) 1 0)))))) (take (toNat (wrap .i64 (1+(wrap .i64 ((getD a0 0 0))))) - toNat 1) (drop 1 a0)))))))):Int) - toNat 0) (drop 0 (map b_y a0))))=some (take (toNat ((length (map d_y (m70 (K_isii.mk (wrap .i64 ((getD (take (toNat (wrap .i64 (1+(wrap .i64 ((getD a0 0 0))))) - toNat 1) (drop 1 a0)) 0 0))) (bytesOf (take (toNat (wrap .i64 (2+(wrap .i64 ((getD (take (toNat (wrap .i64 (1+(wrap .i64 ((getD a0 0 0))))) - toNat 1) (drop 1 a0)) 1 0))))) - toNat 2) (drop 2 (take (toNat (wrap .i64 (1+(wrap .i64 ((getD a0 0 0))))) - toNat 1) (drop 1 a0))))) (m142 (drop (toNat (wrap .i64 (2+(wrap .i64 ((getD (take (toNat (wrap .i64 (1+(wrap .i64 ((getD a0 0 0))))) - toNat 1) (drop 1 a0)) 1 0)))))) (take (toNat (wrap .i64 (1+(wrap .i64 ((getD a0 0 0))))) - toNat 1) (drop 1 a0)))) (m142 (drop (toNat (wrap .i64 (6+(wrap .i64 ((getD (take (toNat (wrap .i64 (1+(wrap .i64 ((getD a0 0 0))))) - toNat 1) (drop 1 a0)) 1 0)))))) (take (toNat (wrap .i64 (1+(wrap .i64 ((getD a0 0 0))))) - toNat 1) (drop 1 a0)))))))):Int)) a0):=yaj
  have f46:0+(length (map d_y (m70 (K_isii.mk (wrap .i64 ((getD (take (toNat (wrap .i64 (1+(wrap .i64 ((getD a0 0 0))))) - toNat 1) (drop 1 a0)) 0 0))) (bytesOf (take (toNat (wrap .i64 (2+(wrap .i64 ((getD (take (toNat (wrap .i64 (1+(wrap .i64 ((getD a0 0 0))))) - toNat 1) (drop 1 a0)) 1 0))))) - toNat 2) (drop 2 (take (toNat (wrap .i64 (1+(wrap .i64 ((getD a0 0 0))))) - toNat 1) (drop 1 a0))))) (m142 (drop (toNat (wrap .i64 (2+(wrap .i64 ((getD (take (toNat (wrap .i64 (1+(wrap .i64 ((getD a0 0 0))))) - toNat 1) (drop 1 a0)) 1 0)))))) (take (toNat (wrap .i64 (1+(wrap .i64 ((getD a0 0 0))))) - toNat 1) (drop 1 a0)))) (m142 (drop (toNat (wrap .i64 (6+(wrap .i64 ((getD (take (toNat (wrap .i64 (1+(wrap .i64 ((getD a0 0 0))))) - toNat 1) (drop 1 a0)) 1 0)))))) (take (toNat (wrap .i64 (1+(wrap .i64 ((getD a0 0 0))))) - toNat 1) (drop 1 a0))))))))≤(length (map d_y (m70 (K_isii.mk (wrap .i64 ((getD (take (toNat (wrap .i64 (1+(wrap .i64 ((getD a0 0 0))))) - toNat 1) (drop 1 a0)) 0 0))) (bytesOf (take (toNat (wrap .i64 (2+(wrap .i64 ((getD (take (toNat (wrap .i64 (1+(wrap .i64 ((getD a0 0 0))))) - toNat 1) (drop 1 a0)) 1 0))))) - toNat 2) (drop 2 (take (toNat (wrap .i64 (1+(wrap .i64 ((getD a0 0 0))))) - toNat 1) (drop 1 a0))))) (m142 (drop (toNat (wrap .i64 (2+(wrap .i64 ((getD (take (toNat (wrap .i64 (1+(wrap .i64 ((getD a0 0 0))))) - toNat 1) (drop 1 a0)) 1 0)))))) (take (toNat (wrap .i64 (1+(wrap .i64 ((getD a0 0 0))))) - toNat 1) (drop 1 a0)))) (m142 (drop (toNat (wrap .i64 (6+(wrap .i64 ((getD (take (toNat (wrap .i64 (1+(wrap .i64 ((getD a0 0 0))))) - toNat 1) (drop 1 a0)) 1 0)))))) (take (toNat (wrap .i64 (1+(wrap .i64 ((getD a0 0 0))))) - toNat 1) (drop 1 a0)))))))):=yb
  have f47:rowsInts .u8 (take (length (map d_y (m70 (K_isii.mk (wrap .i64 ((getD (take (toNat (wrap .i64 (1+(wrap .i64 ((getD a0 0 0))))) - toNat 1) (drop 1 a0)) 0 0))) (bytesOf (take (toNat (wrap .i64 (2+(wrap .i64 ((getD (take (toNat (wrap .i64 (1+(wrap .i64 ((getD a0 0 0))))) - toNat 1) (drop 1 a0)) 1 0))))) - toNat 2) (drop 2 (take (toNat (wrap .i64 (1+(wrap .i64 ((getD a0 0 0))))) - toNat 1) (drop 1 a0))))) (m142 (drop (toNat (wrap .i64 (2+(wrap .i64 ((getD (take (toNat (wrap .i64 (1+(wrap .i64 ((getD a0 0 0))))) - toNat 1) (drop 1 a0)) 1 0)))))) (take (toNat (wrap .i64 (1+(wrap .i64 ((getD a0 0 0))))) - toNat 1) (drop 1 a0)))) (m142 (drop (toNat (wrap .i64 (6+(wrap .i64 ((getD (take (toNat (wrap .i64 (1+(wrap .i64 ((getD a0 0 0))))) - toNat 1) (drop 1 a0)) 1 0)))))) (take (toNat (wrap .i64 (1+(wrap .i64 ((getD a0 0 0))))) - toNat 1) (drop 1 a0)))))))) (drop 0 (map d_y (m70 (K_isii.mk (wrap .i64 ((getD (take (toNat (wrap .i64 (1+(wrap .i64 ((getD a0 0 0))))) - toNat 1) (drop 1 a0)) 0 0))) (bytesOf (take (toNat (wrap .i64 (2+(wrap .i64 ((getD (take (toNat (wrap .i64 (1+(wrap .i64 ((getD a0 0 0))))) - toNat 1) (drop 1 a0)) 1 0))))) - toNat 2) (drop 2 (take (toNat (wrap .i64 (1+(wrap .i64 ((getD a0 0 0))))) - toNat 1) (drop 1 a0))))) (m142 (drop (toNat (wrap .i64 (2+(wrap .i64 ((getD (take (toNat (wrap .i64 (1+(wrap .i64 ((getD a0 0 0))))) - toNat 1) (drop 1 a0)) 1 0)))))) (take (toNat (wrap .i64 (1+(wrap .i64 ((getD a0 0 0))))) - toNat 1) (drop 1 a0)))) (m142 (drop (toNat (wrap .i64 (6+(wrap .i64 ((getD (take (toNat (wrap .i64 (1+(wrap .i64 ((getD a0 0 0))))) - toNat 1) (drop 1 a0)) 1 0)))))) (take (toNat (wrap .i64 (1+(wrap .i64 ((getD a0 0 0))))) - toNat 1) (drop 1 a0)))))))))=some (m70 (K_isii.mk (wrap .i64 ((getD (take (toNat (wrap .i64 (1+(wrap .i64 ((getD a0 0 0))))) - toNat 1) (drop 1 a0)) 0 0))) (bytesOf (take (toNat (wrap .i64 (2+(wrap .i64 ((getD (take (toNat (wrap .i64 (1+(wrap .i64 ((getD a0 0 0))))) - toNat 1) (drop 1 a0)) 1 0))))) - toNat 2) (drop 2 (take (toNat (wrap .i64 (1+(wrap .i64 ((getD a0 0 0))))) - toNat 1) (drop 1 a0))))) (m142 (drop (toNat (wrap .i64 (2+(wrap .i64 ((getD (take (toNat (wrap .i64 (1+(wrap .i64 ((getD a0 0 0))))) - toNat 1) (drop 1 a0)) 1 0)))))) (take (toNat (wrap .i64 (1+(wrap .i64 ((getD a0 0 0))))) - toNat 1) (drop 1 a0)))) (m142 (drop (toNat (wrap .i64 (6+(wrap .i64 ((getD (take (toNat (wrap .i64 (1+(wrap .i64 ((getD a0 0 0))))) - toNat 1) (drop 1 a0)) 1 0)))))) (take (toNat (wrap .i64 (1+(wrap .i64 ((getD a0 0 0))))) - toNat 1) (drop 1 a0)))))):=yd
  exact cp ya (P4 (N h4 (.f f39 (U 132 (.r 134 [] [] (e70 (l0:=0) (a0:=(K_isii.mk (wrap .i64 ((getD (take (toNat (wrap .i64 (1+(wrap .i64 ((getD a0 0 0))))) - toNat 1) (drop 1 a0)) 0 0))) (bytesOf (take (toNat (wrap .i64 (2+(wrap .i64 ((getD (take (toNat (wrap .i64 (1+(wrap .i64 ((getD a0 0 0))))) - toNat 1) (drop 1 a0)) 1 0))))) - toNat 2) (drop 2 (take (toNat (wrap .i64 (1+(wrap .i64 ((getD a0 0 0))))) - toNat 1) (drop 1 a0))))) (m142 (drop (toNat (wrap .i64 (2+(wrap .i64 ((getD (take (toNat (wrap .i64 (1+(wrap .i64 ((getD a0 0 0))))) - toNat 1) (drop 1 a0)) 1 0)))))) (take (toNat (wrap .i64 (1+(wrap .i64 ((getD a0 0 0))))) - toNat 1) (drop 1 a0)))) (m142 (drop (toNat (wrap .i64 (6+(wrap .i64 ((getD (take (toNat (wrap .i64 (1+(wrap .i64 ((getD a0 0 0))))) - toNat 1) (drop 1 a0)) 1 0)))))) (take (toNat (wrap .i64 (1+(wrap .i64 ((getD a0 0 0))))) - toNat 1) (drop 1 a0)))))) yn) (.f f44 (.f f45 (.f f46 (.f f47 (.h 148 (.ints (take (toNat ((length (map d_y (m70 (K_isii.mk (wrap .i64 ((getD (take (toNat (wrap .i64 (1+(wrap .i64 ((getD a0 0 0))))) - toNat 1) (drop 1 a0)) 0 0))) (bytesOf (take (toNat (wrap .i64 (2+(wrap .i64 ((getD (take (toNat (wrap .i64 (1+(wrap .i64 ((getD a0 0 0))))) - toNat 1) (drop 1 a0)) 1 0))))) - toNat 2) (drop 2 (take (toNat (wrap .i64 (1+(wrap .i64 ((getD a0 0 0))))) - toNat 1) (drop 1 a0))))) (m142 (drop (toNat (wrap .i64 (2+(wrap .i64 ((getD (take (toNat (wrap .i64 (1+(wrap .i64 ((getD a0 0 0))))) - toNat 1) (drop 1 a0)) 1 0)))))) (take (toNat (wrap .i64 (1+(wrap .i64 ((getD a0 0 0))))) - toNat 1) (drop 1 a0)))) (m142 (drop (toNat (wrap .i64 (6+(wrap .i64 ((getD (take (toNat (wrap .i64 (1+(wrap .i64 ((getD a0 0 0))))) - toNat 1) (drop 1 a0)) 1 0)))))) (take (toNat (wrap .i64 (1+(wrap .i64 ((getD a0 0 0))))) - toNat 1) (drop 1 a0)))))))):Int)) a0)) (.h 152 (.ints (m70 (K_isii.mk (wrap .i64 ((getD (take (toNat (wrap .i64 (1+(wrap .i64 ((getD a0 0 0))))) - toNat 1) (drop 1 a0)) 0 0))) (bytesOf (take (toNat (wrap .i64 (2+(wrap .i64 ((getD (take (toNat (wrap .i64 (1+(wrap .i64 ((getD a0 0 0))))) - toNat 1) (drop 1 a0)) 1 0))))) - toNat 2) (drop 2 (take (toNat (wrap .i64 (1+(wrap .i64 ((getD a0 0 0))))) - toNat 1) (drop 1 a0))))) (m142 (drop (toNat (wrap .i64 (2+(wrap .i64 ((getD (take (toNat (wrap .i64 (1+(wrap .i64 ((getD a0 0 0))))) - toNat 1) (drop 1 a0)) 1 0)))))) (take (toNat (wrap .i64 (1+(wrap .i64 ((getD a0 0 0))))) - toNat 1) (drop 1 a0)))) (m142 (drop (toNat (wrap .i64 (6+(wrap .i64 ((getD (take (toNat (wrap .i64 (1+(wrap .i64 ((getD a0 0 0))))) - toNat 1) (drop 1 a0)) 1 0)))))) (take (toNat (wrap .i64 (1+(wrap .i64 ((getD a0 0 0))))) - toNat 1) (drop 1 a0))))))) .nil)))))))))))

theorem rd_ok {d:List Int} (hy0:∀z∈d,(0:Int)≤z∧z≤255) (h:m121_1 d=true):13≤length (m70 (m121_0 d))∧length (m70 (m121_0 d))≤length d∧ByteArray.size (m121_0 d).f1≤255:=by
  rw[pack_exact]
  unfold m121_1 at h
  unfold m121_0
  split at h
  · cases h
  rename_i h0; rw[if_neg h0]
  split at h
  · cases h
  rename_i h1; rw[if_neg h1]
  split at h
  · cases h
  rename_i h2; rw[if_neg h2]
  split at h
  · cases h
  rename_i h3; rw[if_neg h3]
  clear h
  obtain⟨g0,g1,e0,e1,e2,e3,e4,e5,e6,e7,e8,e9⟩:=nums d hy0
  simp only[decide_eq_true_eq,bne_iff_ne,ne_eq,beq_iff_eq,Decidable.not_not,length_map,length_take,length_drop,bo_size,pack_exact] at*
  omega
theorem rd_ok' {d:List Int} (hy0:∀z∈d,(0:Int)≤z∧z≤255) (h:¬(!(m121_1 d))=true):13≤length (m70 (m121_0 d))∧length (m70 (m121_0 d))≤length d∧ByteArray.size (m121_0 d).f1≤255:=rd_ok hy0 (by simpa using h)
end Go.Proofs.YtihjlmgakpgkeaaDoor.Journals
