/- What the functions compute. -/
import Derived.Test.YtihjlmgakpgkeaaGreatDoorELedgersD
import Derived.KernelRfl
namespace Go.Proofs.YtihjlmgakpgkeaaGreatDoor.Ledgers
open Go Go.Proofs.YtihjlmgakpgkeaaGreatDoor.V
set_option linter.unusedVariables false
set_option linter.unusedSimpArgs false
set_option maxRecDepth 20000
open Go.IntKind (wrap)
open Int (toNat)
open List (length_replicate length_map length_set length_append length_cons length_nil length_take length_drop take_of_length_le map_take map_drop map_set append_assoc getElem?_map map length take drop getD set)
attribute [local simp] strInts_len byteRows_len toBR_y fullR_y pureR_y lenB_y lenD_y fromBR_y copy_y toBR_LyE fullR_LyE pureR_LyE lenB_LyE lenD_LyE toBR_b fullR_b pureR_b lenB_b lenD_b fromBR_b copy_b toBR_si fullR_si pureR_si lenB_si lenD_si fromBR_si copy_si toBR_R fullR_R pureR_R lenB_R lenD_R toBR_B fullR_B pureR_B lenB_B lenD_B toBR_i fullR_i pureR_i lenB_i lenD_i fromBR_i copy_i toBR_C fullR_C pureR_C lenB_C lenD_C toBR_LyEi fullR_LyEi pureR_LyEi lenB_LyEi lenD_LyEi toBR_Q fullR_Q pureR_Q lenB_Q lenD_Q toBR_LiE fullR_LiE pureR_LiE lenB_LiE lenD_LiE toBR_LsiE fullR_LsiE pureR_LsiE lenB_LsiE lenD_LsiE toBR_s fullR_s pureR_s lenB_s lenD_s fromBR_s copy_s
inductive O58_0 where
  |k0 (w0:List K_si) (w1:Int) (w2:Bool)
def r58_0 (a0:(List K_si)):List K_si→Int→List K_si→O58_0
  |x0::y0,i,v0=>
    if(decide ((m1007600 v0 x0.f0)≥0))=true then(r58_0 a0 y0 (i+1) (set v0 (toNat (m1007600 v0 x0.f0)) (K_si.mk ((getD v0 (toNat (m1007600 v0 x0.f0)) (K_si.mk (⟨#[]⟩:ByteArray) 0)).f0) (wrap .i64 (((getD v0 (toNat (m1007600 v0 x0.f0)) (K_si.mk (⟨#[]⟩:ByteArray) 0)).f1)+x0.f1))))) else
    (r58_0 a0 y0 (i+1) (v0++([x0])))
  |[],i,v0=>(O58_0.k0 v0 i (decide (i <((length (map b_si a0)):Int))))
def h58_0 (l0_0:Nat) (a0:(List K_si)) (i:Int) (v0:List K_si):St:=⟨[(3,(.one (.ref ⟨(3,0,0),[],0,(length (map d_si v0))⟩))),(8,(.one (.bor l0_0 (map b_si a0)))),(9,(.one (.val (.int .i64 ((length (map b_si a0)):Int))))),(10,(.one (.val (.int .i64 i))))],[((3,0,0),.live ⟨2,(map d_si v0),[]⟩)]⟩
def ex58_0:O58_0→VX.Exit
  |.k0 _ _ _=>(.exit 0)
def fin58_0 (l0_0:Nat) (a0:(List K_si)):O58_0→St
  |.k0 w0 w1 w2=>⟨[(3,(.one (.ref ⟨(3,0,0),[],0,(length (map d_si w0))⟩))),(8,(.one (.bor l0_0 (map b_si a0)))),(9,(.one (.val (.int .i64 ((length (map b_si a0)):Int))))),(10,(.one (.val (.int .i64 w1)))),(11,(.one (.val (.bool w2))))],[((3,0,0),.live ⟨2,(map d_si w0),[]⟩)]⟩
theorem t58_0 {l0_0:Nat} {a0:(List K_si)} (hy0:length a0*24≤70368744177664):∀(y0:List K_si) (p:List K_si) (v0:List K_si),p++y0=a0→(length v0+length y0)*24≤70368744177664→Ev F X (.code l58_0 (h58_0 l0_0 a0 (length p:Int) v0) (ex58_0 (r58_0 a0 y0 (length p:Int) v0)) (fin58_0 l0_0 a0 (r58_0 a0 y0 (length p:Int) v0)))
  |[],p,v0,hp0,hi0=>by
    have hc:¬(decide ((length p:Int) <((length (map b_si a0)):Int)))=true:=by
      rw[← hp0]; simp only[LN,decide_eq_true_eq]; omega
    have hj0:=hi0; try simp only[LN,Int.toNat_natCast] at hj0
    have st:=ch b58_0 (h58_0 l0_0 a0 (length p:Int) v0) ⟨[(3,(.one (.ref ⟨(3,0,0),[],0,(length (map d_si v0))⟩))),(8,(.one (.bor l0_0 (map b_si a0)))),(9,(.oi ((length (map b_si a0)):Int))),(10,(.oi (length p:Int))),(11,(.one (.val (.bool (decide ((length p:Int) <((length (map b_si a0)):Int)))))))],[((3,0,0),.live ⟨2,(map d_si v0),[]⟩)]⟩ (.exit 0) 3 (by kernel_rfl) (.f (nt hc) (U 2 .nil))
    rw[show (⟨[(3,(.one (.ref ⟨(3,0,0),[],0,(length (map d_si v0))⟩))),(8,(.one (.bor l0_0 (map b_si a0)))),(9,(.oi ((length (map b_si a0)):Int))),(10,(.oi (length p:Int))),(11,(.one (.val (.bool (decide ((length p:Int) <((length (map b_si a0)):Int)))))))],[((3,0,0),.live ⟨2,(map d_si v0),[]⟩)]⟩:St)=fin58_0 l0_0 a0 (.k0 v0 (length p:Int) (decide ((length p:Int) <((length (map b_si a0)):Int)))) from(by rfl)] at st
    exact .loopX st (show ((.exit 0):VX.Exit)≠.normal from by simp)
  |x0::y0,p,v0,hp0,hi0=>by
    have hc:(decide ((length p:Int) <((length (map b_si a0)):Int)))=true:=by
      rw[← hp0]; simp only[LN,decide_eq_true_eq]; omega
    have Hx0:(a0)[toNat (length p:Int)]?=some x0:=by
      rw[← hp0,Int.toNat_natCast]; simp
    have hlen:length (a0)=length p+length y0+1:=by rw[← hp0]; simp; omega
    have hw:wrap .i64 ((length p:Int)+1)=(length p:Int)+1:=wrap64 (by omega)
    have hj0:=hi0; try simp only[LN,Int.toNat_natCast] at hj0
    simp only[r58_0]
    have f1:0≤(length p:Int):=(by omega)
    have P1 {hs q} (r:PS F X hs q):=(PS.f hc (.f f1 (.f (mp_ b_si Hx0) (ln_si v0 (hT 2 (.h 4 (.row (b_si x0)) (.r 18 [] [(map b_si v0)] (e56 (l0_0:=0) (a0:=v0) (a1:=x0.f0) (by omega)) r)))))))
    by_cases h_1:(decide ((m1007600 v0 x0.f0)≥0))=true
    · try simp only[if_pos h_1]
      have f8:0+(length (map d_si v0))≤(length (map d_si v0)):=(by omega)
      have f9:0≤(m1007600 v0 x0.f0)∧(m1007600 v0 x0.f0) <((length (map d_si v0)):Int):=(by have q:=ix1007600 v0 x0.f0; simp only[decide_eq_true_eq,length_map] at*; omega)
      have f15:(set (map d_si v0) (0+(toNat (m1007600 v0 x0.f0))) [(.val (.string ((getD v0 (toNat (m1007600 v0 x0.f0)) (K_si.mk (⟨#[]⟩:ByteArray) 0)).f0))),(.i (wrap .i64 (((getD v0 (toNat (m1007600 v0 x0.f0)) (K_si.mk (⟨#[]⟩:ByteArray) 0)).f1)+x0.f1)))])=(map d_si (set v0 (toNat (m1007600 v0 x0.f0)) (K_si.mk ((getD v0 (toNat (m1007600 v0 x0.f0)) (K_si.mk (⟨#[]⟩:ByteArray) 0)).f0) (wrap .i64 (((getD v0 (toNat (m1007600 v0 x0.f0)) (K_si.mk (⟨#[]⟩:ByteArray) 0)).f1)+x0.f1))))):=(by simp[take_of_length_le,d_si]; done)
      have st:=ch b58_0 (h58_0 l0_0 a0 (length p:Int) v0) ⟨[(3,(.one (.ref ⟨(3,0,0),[],0,(length (map d_si v0))⟩))),(8,(.one (.bor l0_0 (map b_si a0)))),(9,(.oi ((length (map b_si a0)):Int))),(10,(.oi (wrap .i64 ((length p:Int)+1))))],[((3,0,0),.live ⟨2,(map d_si (set v0 (toNat (m1007600 v0 x0.f0)) (K_si.mk ((getD v0 (toNat (m1007600 v0 x0.f0)) (K_si.mk (⟨#[]⟩:ByteArray) 0)).f0) (wrap .i64 (((getD v0 (toNat (m1007600 v0 x0.f0)) (K_si.mk (⟨#[]⟩:ByteArray) 0)).f1)+x0.f1))))),[]⟩)]⟩ .normal 53 (by kernel_rfl) (P1 (.f h_1 (.f f8 (.f f9 (.f (mz_ d_si (getD_at v0 (toNat (m1007600 v0 x0.f0)) (K_si.mk (⟨#[]⟩:ByteArray) 0) (by have q:=ix1007600 v0 x0.f0; simp only[decide_eq_true_eq,length_map] at*; omega))) (.f trivial (.f f8 (.f f9 (.f (mz_ d_si (getD_at v0 (toNat (m1007600 v0 x0.f0)) (K_si.mk (⟨#[]⟩:ByteArray) 0) (by have q:=ix1007600 v0 x0.f0; simp only[decide_eq_true_eq,length_map] at*; omega))) (.f f15 (.f trivial (hT 25 (.h 35 (.rowD (d_si (getD v0 (toNat (m1007600 v0 x0.f0)) (K_si.mk (⟨#[]⟩:ByteArray) 0)))) (.h 47 (.rowD (d_si (getD v0 (toNat (m1007600 v0 x0.f0)) (K_si.mk (⟨#[]⟩:ByteArray) 0)))) (.h 48 (.norm (3,0,0) (map d_si (set v0 (toNat (m1007600 v0 x0.f0)) (K_si.mk ((getD v0 (toNat (m1007600 v0 x0.f0)) (K_si.mk (⟨#[]⟩:ByteArray) 0)).f0) (wrap .i64 (((getD v0 (toNat (m1007600 v0 x0.f0)) (K_si.mk (⟨#[]⟩:ByteArray) 0)).f1)+x0.f1)))))) .nil)))))))))))))))
      have ih:=t58_0 (l0_0:=l0_0) (a0:=a0) hy0 y0 (p++ [x0]) (set v0 (toNat (m1007600 v0 x0.f0)) (K_si.mk ((getD v0 (toNat (m1007600 v0 x0.f0)) (K_si.mk (⟨#[]⟩:ByteArray) 0)).f0) (wrap .i64 (((getD v0 (toNat (m1007600 v0 x0.f0)) (K_si.mk (⟨#[]⟩:ByteArray) 0)).f1)+x0.f1)))) (by rw[append_assoc]; exact hp0) (by simp only[LN]; omega)
      rw[show ((p++ [x0]).length:Int)=(p.length:Int)+1 from by simp] at ih
      rw[show (⟨[(3,(.one (.ref ⟨(3,0,0),[],0,(length (map d_si v0))⟩))),(8,(.one (.bor l0_0 (map b_si a0)))),(9,(.oi ((length (map b_si a0)):Int))),(10,(.oi (wrap .i64 ((length p:Int)+1))))],[((3,0,0),.live ⟨2,(map d_si (set v0 (toNat (m1007600 v0 x0.f0)) (K_si.mk ((getD v0 (toNat (m1007600 v0 x0.f0)) (K_si.mk (⟨#[]⟩:ByteArray) 0)).f0) (wrap .i64 (((getD v0 (toNat (m1007600 v0 x0.f0)) (K_si.mk (⟨#[]⟩:ByteArray) 0)).f1)+x0.f1))))),[]⟩)]⟩:St)=h58_0 l0_0 a0 ((length p:Int)+1) (set v0 (toNat (m1007600 v0 x0.f0)) (K_si.mk ((getD v0 (toNat (m1007600 v0 x0.f0)) (K_si.mk (⟨#[]⟩:ByteArray) 0)).f0) (wrap .i64 (((getD v0 (toNat (m1007600 v0 x0.f0)) (K_si.mk (⟨#[]⟩:ByteArray) 0)).f1)+x0.f1)))) from(by unfold h58_0; simp only[hw,length_map,length_set,length_append,length_replicate,length_cons,length_nil]; done)] at st
      exact .loopN st ih
    try simp only[if_neg h_1]
    have f8:0+(length (map d_si v0))≤(length (map d_si v0)):=(by omega)
    have f9:1≤1:=(by omega)
    have f10:((take 1 (drop 0 [[(.val (.string x0.f0)),(.i x0.f1)]])).all fun x=>x.all copyable)=true:=(by trivial)
    have f11:(length ((take (length (map d_si v0)) (drop 0 (map d_si v0)))++([[(.val (.string x0.f0)),(.i x0.f1)]]:List (List D))))*24≤70368744177664:=(by simp only[length_map,length_append,length_cons,length_nil,length_take,length_drop]; omega)
    have f12:∀r∈([[(.val (.string x0.f0)),(.i x0.f1)]]:List (List D)),r.length=2:=(by simp; done)
    have f13:((take (length (map d_si v0)) (drop 0 (map d_si v0)))++([[(.val (.string x0.f0)),(.i x0.f1)]]:List (List D)))=(map d_si (v0++([x0]))):=(by simp[take_of_length_le,d_si]; done)
    have st:=ch b58_0 (h58_0 l0_0 a0 (length p:Int) v0) ⟨[(3,(.one (.ref ⟨(3,0,0),[],0,(length ((take (length (map d_si v0)) (drop 0 (map d_si v0)))++([[(.val (.string x0.f0)),(.i x0.f1)]]:List (List D))))⟩))),(8,(.one (.bor l0_0 (map b_si a0)))),(9,(.oi ((length (map b_si a0)):Int))),(10,(.oi (wrap .i64 ((length p:Int)+1))))],[((3,0,0),.live ⟨2,(map d_si (v0++([x0]))),[]⟩)]⟩ .normal 41 (by kernel_rfl) (P1 (.f (nt h_1) (.f f8 (.f f9 (.f f10 (.f f11 (.f f12 (.f f13 (.f trivial (U 25 (hT 33 (.h 36 (.norm (3,0,0) (map d_si (v0++([x0])))) .nil))))))))))))
    have ih:=t58_0 (l0_0:=l0_0) (a0:=a0) hy0 y0 (p++ [x0]) (v0++([x0])) (by rw[append_assoc]; exact hp0) (by simp only[LN]; omega)
    rw[show ((p++ [x0]).length:Int)=(p.length:Int)+1 from by simp] at ih
    rw[show (⟨[(3,(.one (.ref ⟨(3,0,0),[],0,(length ((take (length (map d_si v0)) (drop 0 (map d_si v0)))++([[(.val (.string x0.f0)),(.i x0.f1)]]:List (List D))))⟩))),(8,(.one (.bor l0_0 (map b_si a0)))),(9,(.oi ((length (map b_si a0)):Int))),(10,(.oi (wrap .i64 ((length p:Int)+1))))],[((3,0,0),.live ⟨2,(map d_si (v0++([x0]))),[]⟩)]⟩:St)=h58_0 l0_0 a0 ((length p:Int)+1) (v0++([x0])) from(by unfold h58_0; simp[hw,take_of_length_le,d_si]; done)] at st
    exact .loopN st ih
def m58 (a0:(List K_si)):(List K_si):=
  (match r58_0 a0 a0 0 ([]) with | .k0 w0_0 w1_0 w2_0=>w0_0)
theorem e58 {l0_0:Nat} {a0:(List K_si)} (hy0:length a0*24≤70368744177664):Ev F X (.call 58 [(.one (.bor l0_0 (map b_si a0)))] [] [] [(.one (.own 2 (map d_si (m58 a0))))]):=by
  unfold m58
  cases h0:r58_0 a0 a0 0 ([]) with
  |k0 w0_0 w1_0 w2_0=>
    try dsimp only
    have f0:(⟨[(3,(.one (.ref ⟨(3,0,0),[],0,0⟩))),(8,(.one (.bor l0_0 (map b_si a0)))),(9,(.oi ((length (map b_si a0)):Int))),(10,(.oi 0))],[((3,0,0),.live ⟨2,[],[]⟩)]⟩:St)=h58_0 l0_0 a0 0 ([]):=yu
    exact cp ya (.f f0 (.f (ev_ (e:=ex58_0) (g:=(fin58_0 l0_0 a0)) h0 (t58_0 (l0_0:=l0_0) (a0:=a0) (by assumption) a0 [] ([]) rfl yy)) (pe 0 (pe (length (map d_si w0_0)) (.f (pureR_si w0_0) (.h 12 (.loop (h58_0 l0_0 a0 0 ([])) (.exit 0) ⟨[(3,(.one (.ref ⟨(3,0,0),[],0,(length (map d_si w0_0))⟩))),(8,(.one (.bor l0_0 (map b_si a0)))),(9,(.oi ((length (map b_si a0)):Int))),(10,(.oi w1_0)),(11,(.one (.val (.bool w2_0))))],[((3,0,0),.live ⟨2,(map d_si w0_0),[]⟩)]⟩) .nil))))))
theorem mlen_r58 (a:List K_si):∀(l:List K_si) (i:Int) (v:List K_si),∃w j b,r58_0 a l i v=.k0 w j b∧w.length≤v.length+l.length
  |[],i,v=>⟨_,_,_,rfl,by simp⟩
  |x::l,i,v=>by
    simp only[r58_0]
    split
    · obtain⟨w,j,b,h,h2⟩:=mlen_r58 a l (i+1) (set v (toNat (m1007600 v x.f0)) (K_si.mk ((getD v (toNat (m1007600 v x.f0)) (K_si.mk (⟨#[]⟩:ByteArray) 0)).f0) (wrap .i64 (((getD v (toNat (m1007600 v x.f0)) (K_si.mk (⟨#[]⟩:ByteArray) 0)).f1)+x.f1))))
      exact⟨w,j,b,h,by simp at h2⊢; omega⟩
    obtain⟨w,j,b,h,h2⟩:=mlen_r58 a l (i+1) (v++ [x])
    exact⟨w,j,b,h,by simp at h2⊢; omega⟩
theorem mlen_58 (a:List K_si):(m58 a).length≤a.length:=by
  unfold m58
  obtain⟨w,j,b,h,h2⟩:=mlen_r58 a a 0 []
  rw[h]; simpa using h2
theorem mne_r58 (a:List K_si):∀(l:List K_si) (i:Int) (v:List K_si) (k:Nat),(∀z∈l,1≤z.f1∧z.f1≤9999)→(∀z∈v,1≤z.f1∧z.f1≤9999*(k:Int))→k+l.length≤1000→∃w j b,r58_0 a l i v=.k0 w j b∧v.length≤w.length∧(0 < l.length→0 < w.length)∧(∀z∈w,1≤z.f1∧z.f1≤9999*((k+l.length:Nat):Int))
  |[],i,v,k,_,hv,_=>⟨v,_,_,rfl,Nat.le_refl _,by simp,by simpa using hv⟩
  |x::l,i,v,k,hl,hv,hk=>by
    have hx:=hl x (List.mem_cons_self ..)
    have hl':∀z∈l,1≤z.f1∧z.f1≤9999:=fun z hz=>hl z (List.mem_cons_of_mem _ hz)
    simp only[length_cons] at hk
    simp only[r58_0]
    have q:=ix1007600 v x.f0
    by_cases h:(decide ((m1007600 v x.f0)≥0))=true
    · rw[if_pos h]
      simp only[decide_eq_true_eq] at h
      have hg:getD v (toNat (m1007600 v x.f0)) (K_si.mk (⟨#[]⟩:ByteArray) 0)∈v:=by
        rw[List.getD_eq_getElem?_getD,List.getElem?_eq_getElem yd]; exact List.getElem_mem _
      have hgb:=hv _ hg
      obtain ⟨w, j, b, e, h1, h2, h3⟩ := mne_r58 a l (i + 1) (set v (toNat (m1007600 v x.f0)) (K_si.mk ((getD v (toNat (m1007600 v x.f0)) (K_si.mk (⟨#[]⟩ : ByteArray) 0)).f0) (wrap .i64 (((getD v (toNat (m1007600 v x.f0)) (K_si.mk (⟨#[]⟩ : ByteArray) 0)).f1) + x.f1)))) (k + 1) hl' (fun z hz => by
        rcases List.mem_or_eq_of_mem_set hz with hz | rfl
        · have:=hv z hz; omega
        simp only[]
        rw[wrap64 yd]; omega) yd
      refine⟨w,j,b,e,by simpa using h1,fun _=>?_,fun z hz=>?_⟩
      · simp only[length_set] at h1
        have:0 < v.length:=by omega
        omega
      have:=h3 z hz; simp only[length_cons]; omega
    rw[if_neg h]
    obtain ⟨w, j, b, e, h1, h2, h3⟩ := mne_r58 a l (i + 1) (v ++ [x]) (k + 1) hl' (fun z hz => by
      rcases List.mem_append.1 hz with hz | hz
      · have:=hv z hz; omega
      rw[List.mem_singleton.1 hz]; omega) yd
    simp only[length_append,length_cons,length_nil] at h1
    refine⟨w,j,b,e,by omega,fun _=>by omega,fun z hz=>?_⟩
    have:=h3 z hz; simp only[length_cons]; omega
theorem mne_58 (a:List K_si) (h:∀z∈a,1≤z.f1∧z.f1≤9999) (hl:a.length≤12):(0 < a.length→0 <(m58 a).length)∧∀z∈m58 a,1≤z.f1∧z.f1≤119988:=by
  obtain⟨w,j,b,e,h1,h2,h3⟩:=mne_r58 a a 0 [] 0 h yax yd
  unfold m58
  rw[e]
  refine⟨h2,fun z hz=>?_⟩
  have:=h3 z hz
  omega
inductive O59_0 where
  |k0 (w0:Int) (w1:Bool)
  |k1 (w0:Int)
def r59_0 (a0:(List Int)) (a1:Int):List Int→Int→O59_0
  |x0::y0,i=>
    if(a1==x0)=true then(O59_0.k1 i) else
    (r59_0 a0 a1 y0 (i+1))
  |[],i=>(O59_0.k0 i (decide (i <((length (map b_i a0)):Int))))
def h59_0 (l0_0:Nat) (a0:(List Int)) (a1:Int) (i:Int) :St:=⟨[(0,(.one (.bor l0_0 (map b_i a0)))),(1,(.one (.val (.int .i64 a1)))),(7,(.one (.val (.int .i64 ((length (map b_i a0)):Int))))),(8,(.one (.val (.int .i64 i))))],[]⟩
def ex59_0:O59_0→VX.Exit
  |.k0 _ _=>(.exit 0)
  |.k1 _=>.ret
def fin59_0 (l0_0:Nat) (a0:(List Int)) (a1:Int):O59_0→St
  |.k0 w0 w1=>⟨[(0,(.one (.bor l0_0 (map b_i a0)))),(1,(.one (.val (.int .i64 a1)))),(7,(.one (.val (.int .i64 ((length (map b_i a0)):Int))))),(8,(.one (.val (.int .i64 w0)))),(9,(.one (.val (.bool w1))))],[]⟩
  |.k1 w0=>⟨[(4,(.one (.val (.int .i64 w0))))],[]⟩
theorem t59_0 {l0_0:Nat} {a0:(List Int)} {a1:Int} (hy0:length a0*8≤140737488351232):∀(y0:List Int) (p:List Int),p++y0=a0→Ev F X (.code l59_0 (h59_0 l0_0 a0 a1 (length p:Int)) (ex59_0 (r59_0 a0 a1 y0 (length p:Int))) (fin59_0 l0_0 a0 a1 (r59_0 a0 a1 y0 (length p:Int))))
  |[],p,hp0=>by
    have hc:¬(decide ((length p:Int) <((length (map b_i a0)):Int)))=true:=by
      rw[← hp0]; simp only[LN,decide_eq_true_eq]; omega
    have st:=ch b59_0 (h59_0 l0_0 a0 a1 (length p:Int)) ⟨[(0,(.one (.bor l0_0 (map b_i a0)))),(1,(.oi a1)),(7,(.oi ((length (map b_i a0)):Int))),(8,(.oi (length p:Int))),(9,(.one (.val (.bool (decide ((length p:Int) <((length (map b_i a0)):Int)))))))],[]⟩ (.exit 0) 3 (by kernel_rfl) (.f (nt hc) (U 2 .nil))
    rw[show (⟨[(0,(.one (.bor l0_0 (map b_i a0)))),(1,(.oi a1)),(7,(.oi ((length (map b_i a0)):Int))),(8,(.oi (length p:Int))),(9,(.one (.val (.bool (decide ((length p:Int) <((length (map b_i a0)):Int)))))))],[]⟩:St)=fin59_0 l0_0 a0 a1 (.k0 (length p:Int) (decide ((length p:Int) <((length (map b_i a0)):Int)))) from(by rfl)] at st
    exact .loopX st (show ((.exit 0):VX.Exit)≠.normal from by simp)
  |x0::y0,p,hp0=>by
    have hc:(decide ((length p:Int) <((length (map b_i a0)):Int)))=true:=by
      rw[← hp0]; simp only[LN,decide_eq_true_eq]; omega
    have Hx0:(a0)[toNat (length p:Int)]?=some x0:=by
      rw[← hp0,Int.toNat_natCast]; simp
    have hlen:length (a0)=length p+length y0+1:=by rw[← hp0]; simp; omega
    have hw:wrap .i64 ((length p:Int)+1)=(length p:Int)+1:=wrap64 (by omega)
    simp only[r59_0]
    have f1:0≤(length p:Int):=(by omega)
    have P1 {hs q} (r:PS F X hs q):=(PS.f hc (.f f1 (.f (mp_ b_i Hx0) (hT 2 (.h 14 (.row [(.i x0)]) r)))))
    by_cases h_1:(a1==x0)=true
    · try simp only[if_pos h_1]
      have st:=ch b59_0 (h59_0 l0_0 a0 a1 (length p:Int)) ⟨[(4,(.oi (length p:Int)))],[]⟩ .ret 24 (by kernel_rfl) (P1 (.f h_1 (hT 19 .nil)))
      rw[show (⟨[(4,(.oi (length p:Int)))],[]⟩:St)=fin59_0 l0_0 a0 a1 (.k1 (length p:Int)) from(by rfl)] at st
      exact .loopX st (show (.ret:VX.Exit)≠.normal from by simp)
    try simp only[if_neg h_1]
    have st:=ch b59_0 (h59_0 l0_0 a0 a1 (length p:Int)) ⟨[(0,(.one (.bor l0_0 (map b_i a0)))),(1,(.oi a1)),(7,(.oi ((length (map b_i a0)):Int))),(8,(.oi (wrap .i64 ((length p:Int)+1))))],[]⟩ .normal 24 (by kernel_rfl) (P1 (.f (nt h_1) (.f trivial (U 19 .nil))))
    have ih:=t59_0 (l0_0:=l0_0) (a0:=a0) (a1:=a1) hy0 y0 (p++ [x0]) (by rw[append_assoc]; exact hp0)
    rw[show ((p++ [x0]).length:Int)=(p.length:Int)+1 from by simp] at ih
    rw[show (⟨[(0,(.one (.bor l0_0 (map b_i a0)))),(1,(.oi a1)),(7,(.oi ((length (map b_i a0)):Int))),(8,(.oi (wrap .i64 ((length p:Int)+1))))],[]⟩:St)=h59_0 l0_0 a0 a1 ((length p:Int)+1)  from(by unfold h59_0; simp only[hw]; done)] at st
    exact .loopN st ih
def m59 (a0:(List Int)) (a1:Int):Int:=
  (match r59_0 a0 a1 a0 0 with | .k0 w0_0 w1_0=>(-1) | .k1 w0_0=>w0_0)
theorem e59 {l0_0:Nat} {a0:(List Int)} {a1:Int} (hy0:length a0*8≤140737488351232):Ev F X (.call 59 [(.one (.bor l0_0 (map b_i a0))),(.one (.val (.int .i64 a1)))] [] [] [(.one (.val (.int .i64 (m59 a0 a1))))]):=by
  unfold m59
  cases h0:r59_0 a0 a1 a0 0 with
  |k0 w0_0 w1_0=>
    try dsimp only
    have f0:(⟨[(0,(.one (.bor l0_0 (map b_i a0)))),(1,(.oi a1)),(7,(.oi ((length (map b_i a0)):Int))),(8,(.oi 0))],[]⟩:St)=h59_0 l0_0 a0 a1 0 :=yu
    exact cp ya (.f f0 (.f (ev_ (e:=ex59_0) (g:=(fin59_0 l0_0 a0 a1)) h0 (t59_0 (l0_0:=l0_0) (a0:=a0) (a1:=a1) (by assumption) a0 []  rfl)) (.h 8 (.loop (h59_0 l0_0 a0 a1 0) (.exit 0) ⟨[(0,(.one (.bor l0_0 (map b_i a0)))),(1,(.oi a1)),(7,(.oi ((length (map b_i a0)):Int))),(8,(.oi w0_0)),(9,(.one (.val (.bool w1_0))))],[]⟩) .nil)))
  |k1 w0_0=>
    try dsimp only
    have f0:(⟨[(0,(.one (.bor l0_0 (map b_i a0)))),(1,(.oi a1)),(7,(.oi ((length (map b_i a0)):Int))),(8,(.oi 0))],[]⟩:St)=h59_0 l0_0 a0 a1 0 :=yu
    exact cp ya (.f f0 (.f (ev_ (e:=ex59_0) (g:=(fin59_0 l0_0 a0 a1)) h0 (t59_0 (l0_0:=l0_0) (a0:=a0) (a1:=a1) (by assumption) a0 []  rfl)) (.h 8 (.loop (h59_0 l0_0 a0 a1 0) .ret ⟨[(4,(.oi w0_0))],[]⟩) .nil)))
theorem ixr59_0 (a0:(List Int)) (a1:Int):∀(l:List Int) (i:Int),(∃(w0:_) (w1:_),r59_0 a0 a1 l i=.k0 w0 w1)∨(∃w,r59_0 a0 a1 l i=.k1 w∧i≤w∧w < i+l.length)
  |[],i=>.inl ⟨i,(decide (i <((length (map b_i a0)):Int))),rfl⟩
  |x::l,i=>by
    have ih:=ixr59_0 a0 a1 l (i+1)
    simp only[r59_0]
    (repeat' split)
    all_goals first
      |exact .inr ⟨i,rfl,by omega,by simp only[length_cons]; omega⟩
      | (rcases ih with ⟨w0, w1, h⟩ | ⟨w, h, h1, h2⟩
         · exact .inl ⟨w0,w1,h⟩
         exact .inr ⟨w,h,by omega,by simp only[length_cons]; omega⟩)
theorem ix59 (a0:(List Int)) (a1:Int): -1≤m59 a0 a1∧m59 a0 a1 <(length a0:Int):=by
  unfold m59
  rcases ixr59_0 a0 a1 a0 0 with⟨w0,w1,h⟩ |⟨w,h,h1,h2⟩<;>simp only[h]<;>omega
inductive O60_0 where
  |k0 (w0:Int) (w1:Int) (w2:Bool)
def r60_0 (a0:(List Int)):Nat→Int→Int→O60_0
  |n+1,v0,v1=>
    if(decide (v1 <((length (map b_i a0)):Int)))=true then(r60_0 a0 n (vmax v0 (getD a0 (toNat v1) 0)) (wrap .i64 (v1+1))) else
    (O60_0.k0 v0 v1 (decide (v1 <((length (map b_i a0)):Int))))
  |0,v0,v1=>(O60_0.k0 v0 v1 (decide (v1 <((length (map b_i a0)):Int))))
def h60_0 (l0_0:Nat) (a0:(List Int)) (v0:Int) (v1:Int):St:=⟨[(0,(.one (.bor l0_0 (map b_i a0)))),(3,(.one (.val (.int .i64 v0)))),(4,(.one (.val (.int .i64 v1))))],[]⟩
def ex60_0:O60_0→VX.Exit
  |.k0 _ _ _=>(.exit 0)
def fin60_0 (l0_0:Nat) (a0:(List Int)):O60_0→St
  |.k0 w0 w1 w2=>⟨[(0,(.one (.bor l0_0 (map b_i a0)))),(3,(.one (.val (.int .i64 w0)))),(4,(.one (.val (.int .i64 w1)))),(15,(.one (.val (.bool w2))))],[]⟩
theorem t60_0 {l0_0:Nat} {a0:(List Int)} (hy0:1≤length a0) (hy1:length a0≤1000):∀(n:Nat) (v0:Int) (v1:Int),0≤v1→((length (map b_i a0)):Int)≤9223372036854775807→toNat (((length (map b_i a0)):Int) - v1)≤n→Ev F X (.code l60_0 (h60_0 l0_0 a0 v0 v1) (ex60_0 (r60_0 a0 n v0 v1)) (fin60_0 l0_0 a0 (r60_0 a0 n v0 v1)))
  |0,v0,v1,hi0,hi1,hn=>by
    have hc:¬(decide (v1 <((length (map b_i a0)):Int)))=true:=by first |(exact fuel64_zero hn) |(simp only[decide_eq_true_eq] at*; omega) |(simp at*; omega)
    have st:=ch b60_0 (h60_0 l0_0 a0 v0 v1) ⟨[(0,(.one (.bor l0_0 (map b_i a0)))),(3,(.oi v0)),(4,(.oi v1)),(15,(.one (.val (.bool (decide (v1 <((length (map b_i a0)):Int)))))))],[]⟩ (.exit 0) 9 (by kernel_rfl) (.f (nt hc) (U 8 .nil))
    rw[show (⟨[(0,(.one (.bor l0_0 (map b_i a0)))),(3,(.oi v0)),(4,(.oi v1)),(15,(.one (.val (.bool (decide (v1 <((length (map b_i a0)):Int)))))))],[]⟩:St)=fin60_0 l0_0 a0 (.k0 v0 v1 (decide (v1 <((length (map b_i a0)):Int)))) from(by rfl)] at st
    exact .loopX st (show ((.exit 0):VX.Exit)≠.normal from by simp)
  |n+1,v0,v1,hi0,hi1,hn=>by
    simp only[r60_0]
    by_cases h_0:(decide (v1 <((length (map b_i a0)):Int)))=true
    · try simp only[if_pos h_0]
      have f1:0≤v1:=‹_›
      have st:=ch b60_0 (h60_0 l0_0 a0 v0 v1) ⟨[(0,(.one (.bor l0_0 (map b_i a0)))),(3,(.oi (vmax v0 (getD a0 (toNat v1) 0)))),(4,(.oi (wrap .i64 (v1+1))))],[]⟩ .normal 29 (by kernel_rfl) (.f h_0 (.f f1 (.f (mp_ b_i (getD_at a0 (toNat v1) 0 (by simp only[decide_eq_true_eq,length_map] at*; omega))) (.f trivial (hT 8 (.h 16 (.row [(.i (getD a0 (toNat v1) 0))]) .nil))))))
      have ih:=t60_0 (l0_0:=l0_0) (a0:=a0) hy0 hy1 n (vmax v0 (getD a0 (toNat v1) 0)) (wrap .i64 (v1+1)) (by rw[wrap64 (by simp only[decide_eq_true_eq] at*; omega)]; omega) (by assumption) (by rw[wrap64 (by simp only[decide_eq_true_eq] at*; omega)]; simp only[decide_eq_true_eq] at*; omega)
      rw[show (⟨[(0,(.one (.bor l0_0 (map b_i a0)))),(3,(.oi (vmax v0 (getD a0 (toNat v1) 0)))),(4,(.oi (wrap .i64 (v1+1))))],[]⟩:St)=h60_0 l0_0 a0 (vmax v0 (getD a0 (toNat v1) 0)) (wrap .i64 (v1+1)) from(by rfl)] at st
      exact .loopN st ih
    try simp only[if_neg h_0]
    have st:=ch b60_0 (h60_0 l0_0 a0 v0 v1) ⟨[(0,(.one (.bor l0_0 (map b_i a0)))),(3,(.oi v0)),(4,(.oi v1)),(15,(.one (.val (.bool (decide (v1 <((length (map b_i a0)):Int)))))))],[]⟩ (.exit 0) 9 (by kernel_rfl) (.f (nt h_0) (U 8 .nil))
    rw[show (⟨[(0,(.one (.bor l0_0 (map b_i a0)))),(3,(.oi v0)),(4,(.oi v1)),(15,(.one (.val (.bool (decide (v1 <((length (map b_i a0)):Int)))))))],[]⟩:St)=fin60_0 l0_0 a0 (.k0 v0 v1 (decide (v1 <((length (map b_i a0)):Int)))) from(by rfl)] at st
    exact .loopX st (show ((.exit 0):VX.Exit)≠.normal from by simp)
def m60 (a0:(List Int)):Int:=
  if(decide (((length (map b_i a0)):Int) < 1))=true then 0 else
  (match r60_0 a0 (toNat (((length (map b_i a0)):Int) - 1)) (getD a0 0 0) 1 with | .k0 w0_2 w1_2 w2_2=>w0_2)
theorem e60 {l0_0:Nat} {a0:(List Int)} (hy0:1≤length a0) (hy1:length a0≤1000):Ev F X (.call 60 [(.one (.bor l0_0 (map b_i a0)))] [] [] [(.one (.val (.int .i64 (m60 a0))))]):=by
  unfold m60
  by_cases h0:(decide (((length (map b_i a0)):Int) < 1))=true
  · try simp only[if_pos h0]
    exfalso
    first |(simp_all; done) | omega |(simp only[decide_eq_true_eq,length_map] at*; omega)
  try simp only[if_neg h0]
  have f1:0≤(0:Int):=yd
  cases h1:r60_0 a0 (toNat (((length (map b_i a0)):Int) - 1)) (getD a0 0 0) 1 with
  |k0 w0_2 w1_2 w2_2=>
    try dsimp only
    have f3:(⟨[(0,(.one (.bor l0_0 (map b_i a0)))),(3,(.oi (getD a0 0 0))),(4,(.oi 1))],[]⟩:St)=h60_0 l0_0 a0 (getD a0 0 0) 1:=yu
    exact cp ya (N h0 (.f f1 (.f (mp_ b_i (getD_at a0 0 0 yd)) (.f f3 (.f (ev_ (e:=ex60_0) (g:=(fin60_0 l0_0 a0)) h1 (t60_0 (l0_0:=l0_0) (a0:=a0) (by assumption) (by assumption) (toNat (((length (map b_i a0)):Int) - 1)) (getD a0 0 0) 1 yd yy (Nat.le_refl _))) (U 8 (.h 12 (.row [(.i (getD a0 0 0))]) (.h 19 (.loop (h60_0 l0_0 a0 (getD a0 0 0) 1) (.exit 0) ⟨[(0,(.one (.bor l0_0 (map b_i a0)))),(3,(.oi w0_2)),(4,(.oi w1_2)),(15,(.one (.val (.bool w2_2))))],[]⟩) .nil))))))))
theorem getD_in (a:List Int) (i:Nat) (h:i < a.length):getD a i 0∈a:=by
  rw[List.getD_eq_getElem?_getD,List.getElem?_eq_getElem h]; exact List.getElem_mem _
theorem mx_r (a:List Int) (hl:a.length≤1000):∀(n:Nat) (v i:Int),v∈a→0≤i→i+n≤a.length→∃w j b,r60_0 a n v i=.k0 w j b∧w∈a
  |0,v,i,hv,_,_=>⟨v,i,_,rfl,hv⟩
  |n+1,v,i,hv,h0,h=>by
    simp only[r60_0]
    rw[if_pos (by simp only[decide_eq_true_eq,length_map]; omega),wrap64 yd]
    refine mx_r a hl n _ (i+1) ?_ yd yd
    unfold vmax
    split
    · exact getD_in a _ yd
    exact hv
theorem mx_in (a:List Int) (h1:1≤a.length) (hl:a.length≤1000):m60 a∈a:=by
  obtain⟨w,j,b,e,hw⟩:=mx_r a hl (toNat ((a.length:Int) - 1)) (getD a 0 0) 1 (getD_in a 0 yd) yd yd
  unfold m60
  rw[if_neg (by simp only[decide_eq_true_eq,length_map]; omega),length_map,e]
  exact hw
theorem ix_r (a:List Int) (x:Int):∀(l:List Int) (i:Int),x∈l→∃w,r59_0 a x l i=.k1 w∧i≤w
  |[],i,h=>by cases h
  |y::l,i,h=>by
    simp only[r59_0]
    by_cases e:(x==y)=true
    · rw[if_pos e]; exact⟨i,rfl,by omega⟩
    rw[if_neg e]
    rcases List.mem_cons.1 h with rfl | h
    · simp at e
    obtain⟨w,e1,e2⟩:=ix_r a x l (i+1) h
    exact⟨w,e1,by omega⟩
theorem im (a:List Int) (h1:1≤a.length) (hl:a.length≤1000):0≤m59 a (m60 a)∧m59 a (m60 a) <(a.length:Int):=by
  refine⟨?_,(ix59 a (m60 a)).2⟩
  obtain⟨w,e1,e2⟩:=ix_r a (m60 a) a 0 (mx_in a h1 hl)
  unfold m59
  rw[e1]; exact e2
inductive O34_0 where
  |k0 (w0:List K_si) (w1:List Int) (w2:Int) (w3:Int) (w4:Bool)
def r34_0 (a0:Int) (a1:(List K_si)):List K_si→Int→List K_si→List Int→Int→O34_0
  |x0::y0,i,v0,v1,v4=>
    (r34_0 a0 a1 y0 (i+1) (set v0 (toNat i) (K_si.mk x0.f0 (wrap .i64 (Int.tdiv (wrap .i64 (a0*x0.f1)) (m42 a1))))) (v1++([(Int.tmod (wrap .i64 (a0*x0.f1)) (m42 a1))])) (wrap .i64 (v4 - (wrap .i64 (Int.tdiv (wrap .i64 (a0*x0.f1)) (m42 a1))))))
  |[],i,v0,v1,v4=>(O34_0.k0 v0 v1 v4 i (decide (i <((length (map d_si (m58 a1))):Int))))
def h34_0 (l1_0:Nat) (a0:Int) (a1:(List K_si)) (i:Int) (v0:List K_si) (v1:List Int) (v4:Int):St:=⟨[(0,(.one (.val (.int .i64 a0)))),(5,(.one (.ref ⟨(5,0,0),[],0,(length (map d_si (m58 a1)))⟩))),(6,(.one (.val (.int .i64 (m42 a1))))),(7,(.one (.ref ⟨(7,0,0),[],0,(length (map d_i v1))⟩))),(8,(.one (.val (.int .i64 v4)))),(19,(.one (.ref ⟨(5,0,0),[],0,(length (map d_si (m58 a1)))⟩))),(20,(.one (.val (.int .i64 ((length (map d_si (m58 a1))):Int))))),(21,(.one (.val (.int .i64 i))))],[((5,0,0),.live ⟨2,(map d_si v0),[]⟩),((7,0,0),.live ⟨1,(map d_i v1),[]⟩)]⟩
def ex34_0:O34_0→VX.Exit
  |.k0 _ _ _ _ _=>(.exit 0)
def fin34_0 (l1_0:Nat) (a0:Int) (a1:(List K_si)):O34_0→St
  |.k0 w0 w1 w2 w3 w4=>⟨[(0,(.one (.val (.int .i64 a0)))),(5,(.one (.ref ⟨(5,0,0),[],0,(length (map d_si (m58 a1)))⟩))),(6,(.one (.val (.int .i64 (m42 a1))))),(7,(.one (.ref ⟨(7,0,0),[],0,(length (map d_i w1))⟩))),(8,(.one (.val (.int .i64 w2)))),(19,(.one (.ref ⟨(5,0,0),[],0,(length (map d_si (m58 a1)))⟩))),(20,(.one (.val (.int .i64 ((length (map d_si (m58 a1))):Int))))),(21,(.one (.val (.int .i64 w3)))),(22,(.one (.val (.bool w4))))],[((5,0,0),.live ⟨2,(map d_si w0),[]⟩),((7,0,0),.live ⟨1,(map d_i w1),[]⟩)]⟩
theorem t34_0 {l1_0:Nat} {a0:Int} {a1:(List K_si)} (hy0:0≤a0) (hy1:a0≤1000000) (hy2:0 < length a1) (hy3:length a1≤12) (hy4:∀z∈a1,1≤z.f1∧z.f1≤9999):∀(y0:List K_si) (p:List K_si) (v0:List K_si) (v1:List Int) (v4:Int),p++y0=m58 a1→length v0=(length (map d_si (m58 a1)))→(length v1+length y0)*8≤70368744177664→drop (length p) v0=y0→Ev F X (.code l34_0 (h34_0 l1_0 a0 a1 (length p:Int) v0 v1 v4) (ex34_0 (r34_0 a0 a1 y0 (length p:Int) v0 v1 v4)) (fin34_0 l1_0 a0 a1 (r34_0 a0 a1 y0 (length p:Int) v0 v1 v4)))
  |[],p,v0,v1,v4,hp0,hi0,hi1,hi2=>by
    have hc:¬(decide ((length p:Int) <((length (map d_si (m58 a1))):Int)))=true:=by
      rw[← hp0]; simp only[LN,decide_eq_true_eq]; omega
    have hj0:=hi0; try simp only[LN,Int.toNat_natCast] at hj0
    have hj1:=hi1; try simp only[LN,Int.toNat_natCast] at hj1
    have hj2:=hi2; try simp only[LN,Int.toNat_natCast] at hj2
    have st:=ch b34_0 (h34_0 l1_0 a0 a1 (length p:Int) v0 v1 v4) ⟨[(0,(.oi a0)),(5,(.one (.ref ⟨(5,0,0),[],0,(length (map d_si (m58 a1)))⟩))),(6,(.oi (m42 a1))),(7,(.one (.ref ⟨(7,0,0),[],0,(length (map d_i v1))⟩))),(8,(.oi v4)),(19,(.one (.ref ⟨(5,0,0),[],0,(length (map d_si (m58 a1)))⟩))),(20,(.oi ((length (map d_si (m58 a1))):Int))),(21,(.oi (length p:Int))),(22,(.one (.val (.bool (decide ((length p:Int) <((length (map d_si (m58 a1))):Int)))))))],[((5,0,0),.live ⟨2,(map d_si v0),[]⟩),((7,0,0),.live ⟨1,(map d_i v1),[]⟩)]⟩ (.exit 0) 3 (by kernel_rfl) (.f (nt hc) (U 2 .nil))
    rw[show (⟨[(0,(.oi a0)),(5,(.one (.ref ⟨(5,0,0),[],0,(length (map d_si (m58 a1)))⟩))),(6,(.oi (m42 a1))),(7,(.one (.ref ⟨(7,0,0),[],0,(length (map d_i v1))⟩))),(8,(.oi v4)),(19,(.one (.ref ⟨(5,0,0),[],0,(length (map d_si (m58 a1)))⟩))),(20,(.oi ((length (map d_si (m58 a1))):Int))),(21,(.oi (length p:Int))),(22,(.one (.val (.bool (decide ((length p:Int) <((length (map d_si (m58 a1))):Int)))))))],[((5,0,0),.live ⟨2,(map d_si v0),[]⟩),((7,0,0),.live ⟨1,(map d_i v1),[]⟩)]⟩:St)=fin34_0 l1_0 a0 a1 (.k0 v0 v1 v4 (length p:Int) (decide ((length p:Int) <((length (map d_si (m58 a1))):Int)))) from(by rfl)] at st
    exact .loopX st (show ((.exit 0):VX.Exit)≠.normal from by simp)
  |x0::y0,p,v0,v1,v4,hp0,hi0,hi1,hi2=>by
    have hc:(decide ((length p:Int) <((length (map d_si (m58 a1))):Int)))=true:=by
      rw[← hp0]; simp only[LN,decide_eq_true_eq]; omega
    have Hx0:(m58 a1)[toNat (length p:Int)]?=some x0:=by
      rw[← hp0,Int.toNat_natCast]; simp
    have hlen:length (m58 a1)=length p+length y0+1:=by rw[← hp0]; simp; omega
    have hw:wrap .i64 ((length p:Int)+1)=(length p:Int)+1:=wrap64 (by have hz:length (m58 a1)*24≤140737488351232:=(by first | with_reducible assumption | omega |(have q:=mlen_58 a1; simp only[length_map,length_nil,Nat.zero_add] at*; omega) |(have q:=mlen_58 a1; omega) |(have q:=(tot_42 a1 (fun z hz=>by have:=(by assumption:∀z∈a1,1≤z.f1∧z.f1≤9999) z hz; omega) (by omega)).1; omega) |(simp only[decide_eq_true_eq,length_map] at*; omega) |(have q:=im v1 (by simp only[length_map] at*; omega) (by simp only[length_map] at*; omega); simp only[length_map] at*; omega) |(unfold m58;(repeat' split)<;>simp_all<;>omega) | assumption |(simp only[length_map]; omega) |(simp; omega)); omega)
    have hj0:=hi0; try simp only[LN,Int.toNat_natCast] at hj0
    have hj1:=hi1; try simp only[LN,Int.toNat_natCast] at hj1
    have hj2:=hi2; try simp only[LN,Int.toNat_natCast] at hj2
    have Hv0:v0[toNat (length p:Int)]?=some x0:=by rw[Int.toNat_natCast]; exact drop_at hi2
    simp only[r34_0]
    have f1:0+(length (map d_si (m58 a1)))≤(length (map d_si v0)):=(by have q:=mlen_58 a1; simp only[length_map,length_nil,Nat.zero_add] at*; omega)
    have f2:0≤(length p:Int)∧(length p:Int) <((length (map d_si (m58 a1))):Int):=(by omega)
    have f4:(m42 a1)≠0:=(by have q:=(tot_42 a1 (fun z hz=>by have:=(by assumption:∀z∈a1,1≤z.f1∧z.f1≤9999) z hz; omega) (by omega)).1; omega)
    have f8:(set (map d_si v0) (0+(toNat (length p:Int))) [(.val (.string x0.f0)),(.i (wrap .i64 (Int.tdiv (wrap .i64 (a0*x0.f1)) (m42 a1))))])=(map d_si (set v0 (toNat (length p:Int)) (K_si.mk x0.f0 (wrap .i64 (Int.tdiv (wrap .i64 (a0*x0.f1)) (m42 a1)))))):=(by simp[take_of_length_le,d_si]; done)
    have f10:0+(length (map d_i v1))≤(length (map d_i v1)):=(by omega)
    have f11:1≤1:=(by omega)
    have f12:((take 1 (drop 0 [[(.i (Int.tmod (wrap .i64 (a0*x0.f1)) (m42 a1)))]])).all fun x=>x.all copyable)=true:=(by trivial)
    have f13:(length ((take (length (map d_i v1)) (drop 0 (map d_i v1)))++([[(.i (Int.tmod (wrap .i64 (a0*x0.f1)) (m42 a1)))]]:List (List D))))*8≤70368744177664:=(by unfold m42;(repeat' split)<;>simp_all<;>omega)
    have f14:∀r∈([[(.i (Int.tmod (wrap .i64 (a0*x0.f1)) (m42 a1)))]]:List (List D)),r.length=1:=(by unfold m42;(repeat' split)<;>simp_all<;>omega)
    have f15:((take (length (map d_i v1)) (drop 0 (map d_i v1)))++([[(.i (Int.tmod (wrap .i64 (a0*x0.f1)) (m42 a1)))]]:List (List D)))=(map d_i (v1++([(Int.tmod (wrap .i64 (a0*x0.f1)) (m42 a1))]))):=(by simp[take_of_length_le,d_i]; done)
    have st:=ch b34_0 (h34_0 l1_0 a0 a1 (length p:Int) v0 v1 v4) ⟨[(0,(.oi a0)),(5,(.one (.ref ⟨(5,0,0),[],0,(length (map d_si (m58 a1)))⟩))),(6,(.oi (m42 a1))),(7,(.one (.ref ⟨(7,0,0),[],0,(length ((take (length (map d_i v1)) (drop 0 (map d_i v1)))++([[(.i (Int.tmod (wrap .i64 (a0*x0.f1)) (m42 a1)))]]:List (List D))))⟩))),(8,(.oi (wrap .i64 (v4 - (wrap .i64 (Int.tdiv (wrap .i64 (a0*x0.f1)) (m42 a1))))))),(19,(.one (.ref ⟨(5,0,0),[],0,(length (map d_si (m58 a1)))⟩))),(20,(.oi ((length (map d_si (m58 a1))):Int))),(21,(.oi (wrap .i64 ((length p:Int)+1))))],[((5,0,0),.live ⟨2,(map d_si (set v0 (toNat (length p:Int)) (K_si.mk x0.f0 (wrap .i64 (Int.tdiv (wrap .i64 (a0*x0.f1)) (m42 a1)))))),[]⟩),((7,0,0),.live ⟨1,(map d_i (v1++([(Int.tmod (wrap .i64 (a0*x0.f1)) (m42 a1))]))),[]⟩)]⟩ .normal 73 (by kernel_rfl) (.f hc (.f f1 (.f f2 (.f (mz_ d_si Hv0) (.f f4 (.f f1 (.f f2 (.f (mz_ d_si Hv0) (.f f8 (.f f4 (.f f10 (.f f11 (.f f12 (.f f13 (.f f14 (.f f15 (.f f4 (.f trivial (hT 2 (.h 8 (.rowD (d_si x0)) (.h 40 (.rowD (d_si x0)) (.h 41 (.norm (5,0,0) (map d_si (set v0 (toNat (length p:Int)) (K_si.mk x0.f0 (wrap .i64 (Int.tdiv (wrap .i64 (a0*x0.f1)) (m42 a1))))))) (hT 53 (.h 56 (.norm (7,0,0) (map d_i (v1++([(Int.tmod (wrap .i64 (a0*x0.f1)) (m42 a1))])))) .nil))))))))))))))))))))))))
    have ih:=t34_0 (l1_0:=l1_0) (a0:=a0) (a1:=a1) hy0 hy1 hy2 hy3 hy4 y0 (p++ [x0]) (set v0 (toNat (length p:Int)) (K_si.mk x0.f0 (wrap .i64 (Int.tdiv (wrap .i64 (a0*x0.f1)) (m42 a1))))) (v1++([(Int.tmod (wrap .i64 (a0*x0.f1)) (m42 a1))])) (wrap .i64 (v4 - (wrap .i64 (Int.tdiv (wrap .i64 (a0*x0.f1)) (m42 a1))))) (by rw[append_assoc]; exact hp0) (by simp only[LN]; omega) (by simp only[LN]; omega) (by simp only[LN,Int.toNat_natCast]; first | exact drop_set_next hi2 _ | exact drop_next hi2)
    rw[show ((p++ [x0]).length:Int)=(p.length:Int)+1 from by simp] at ih
    rw[show (⟨[(0,(.oi a0)),(5,(.one (.ref ⟨(5,0,0),[],0,(length (map d_si (m58 a1)))⟩))),(6,(.oi (m42 a1))),(7,(.one (.ref ⟨(7,0,0),[],0,(length ((take (length (map d_i v1)) (drop 0 (map d_i v1)))++([[(.i (Int.tmod (wrap .i64 (a0*x0.f1)) (m42 a1)))]]:List (List D))))⟩))),(8,(.oi (wrap .i64 (v4 - (wrap .i64 (Int.tdiv (wrap .i64 (a0*x0.f1)) (m42 a1))))))),(19,(.one (.ref ⟨(5,0,0),[],0,(length (map d_si (m58 a1)))⟩))),(20,(.oi ((length (map d_si (m58 a1))):Int))),(21,(.oi (wrap .i64 ((length p:Int)+1))))],[((5,0,0),.live ⟨2,(map d_si (set v0 (toNat (length p:Int)) (K_si.mk x0.f0 (wrap .i64 (Int.tdiv (wrap .i64 (a0*x0.f1)) (m42 a1)))))),[]⟩),((7,0,0),.live ⟨1,(map d_i (v1++([(Int.tmod (wrap .i64 (a0*x0.f1)) (m42 a1))]))),[]⟩)]⟩:St)=h34_0 l1_0 a0 a1 ((length p:Int)+1) (set v0 (toNat (length p:Int)) (K_si.mk x0.f0 (wrap .i64 (Int.tdiv (wrap .i64 (a0*x0.f1)) (m42 a1))))) (v1++([(Int.tmod (wrap .i64 (a0*x0.f1)) (m42 a1))])) (wrap .i64 (v4 - (wrap .i64 (Int.tdiv (wrap .i64 (a0*x0.f1)) (m42 a1))))) from(by unfold h34_0; simp[hw,take_of_length_le,d_si,d_i]; done)] at st
    exact .loopN st ih
def post34_0 (n0 n1:Nat):O34_0→Prop
  |.k0 w0 w1 _ _ _=>length w0=n0∧length w1=n1
theorem z34_0 {a0:Int} {a1:(List K_si)}:∀(y0:List K_si) (i:Int) (v0:List K_si) (v1:List Int) (v4:Int),post34_0 (length v0) (length v1+length y0) (r34_0 a0 a1 y0 i v0 v1 v4)
  |[],i,v0,v1,v4=>by
    first | trivial |(simp only[post34_0,length_nil,Nat.add_zero]; done) |(simp[post34_0]; done)
  |x0::y0,i,v0,v1,v4=>by
    simp only[r34_0]
    have z:=z34_0 (a0:=a0) (a1:=a1) y0 (i+1) (set v0 (toNat i) (K_si.mk x0.f0 (wrap .i64 (Int.tdiv (wrap .i64 (a0*x0.f1)) (m42 a1))))) (v1++([(Int.tmod (wrap .i64 (a0*x0.f1)) (m42 a1))])) (wrap .i64 (v4 - (wrap .i64 (Int.tdiv (wrap .i64 (a0*x0.f1)) (m42 a1)))))
    rw[show (length v0)=(length (set v0 (toNat i) (K_si.mk x0.f0 (wrap .i64 (Int.tdiv (wrap .i64 (a0*x0.f1)) (m42 a1)))))) from by first | omega |(simp only[LN]; done) |(simp only[LN]; omega),show (length v1+length (x0::y0))=(length (v1++([(Int.tmod (wrap .i64 (a0*x0.f1)) (m42 a1))]))+length y0) from by first | omega |(simp only[LN]; done) |(simp only[LN]; omega)]
    exact z
theorem left_34 (a0:Int) (a1:List K_si):∀(l:List K_si) (i:Int) (v0:List K_si) (v1:List Int) (v4:Int),v4≤9223372036854775807→∀w0 w1 w2 w3 w4,r34_0 a0 a1 l i v0 v1 v4=.k0 w0 w1 w2 w3 w4→w2≤9223372036854775807
  |[],i,v0,v1,v4,h,w0,w1,w2,w3,w4,e=>by
    simp only[r34_0] at e
    injection e with e0 e1 e2 e3 e4
    omega
  |x::l,i,v0,v1,v4,h,w0,w1,w2,w3,w4,e=>by
    simp only[r34_0] at e
    exact left_34 a0 a1 l (i+1) _ _ _ (wrap64_range _).2 w0 w1 w2 w3 w4 e
inductive O34_1 where
  |k0 (w0:List K_si) (w1:List Int) (w2:Int) (w3:Bool)
def r34_1 (c1_34_1:Int):Nat→Int→List K_si→List Int→O34_1
  |n+1,i,v0,v1=>
    (r34_1 c1_34_1 n (i+1) (set v0 (toNat (m59 v1 (m60 v1))) (K_si.mk ((getD v0 (toNat (m59 v1 (m60 v1))) (K_si.mk (⟨#[]⟩:ByteArray) 0)).f0) (wrap .i64 (((getD v0 (toNat (m59 v1 (m60 v1))) (K_si.mk (⟨#[]⟩:ByteArray) 0)).f1)+1)))) (set v1 (toNat (m59 v1 (m60 v1))) (-1)))
  |0,i,v0,v1=>(O34_1.k0 v0 v1 i (decide (i < c1_34_1)))
def h34_1 (l1_0:Nat) (a0:Int) (a1:(List K_si)) (c0_34_1:List Int) (c1_34_1:Int) (c2_34_1:List K_si) (i:Int) (v0:List K_si) (v1:List Int):St:=⟨[(5,(.one (.ref ⟨(5,0,0),[],0,(length (map d_si (m58 a1)))⟩))),(7,(.one (.ref ⟨(7,0,0),[],0,(length (map d_i c0_34_1))⟩))),(49,(.one (.val (.int .i64 c1_34_1)))),(50,(.one (.val (.int .i64 i))))],[((5,0,0),.live ⟨2,(map d_si v0),[]⟩),((7,0,0),.live ⟨1,(map d_i v1),[]⟩)]⟩
def ex34_1:O34_1→VX.Exit
  |.k0 _ _ _ _=>(.exit 2)
def fin34_1 (l1_0:Nat) (a0:Int) (a1:(List K_si)) (c0_34_1:List Int) (c1_34_1:Int) (c2_34_1:List K_si):O34_1→St
  |.k0 w0 w1 w2 w3=>⟨[(5,(.one (.ref ⟨(5,0,0),[],0,(length (map d_si (m58 a1)))⟩))),(7,(.one (.ref ⟨(7,0,0),[],0,(length (map d_i c0_34_1))⟩))),(49,(.one (.val (.int .i64 c1_34_1)))),(50,(.one (.val (.int .i64 w2)))),(51,(.one (.val (.bool w3))))],[((5,0,0),.live ⟨2,(map d_si w0),[]⟩),((7,0,0),.live ⟨1,(map d_i w1),[]⟩)]⟩
theorem t34_1 {l1_0:Nat} {a0:Int} {a1:(List K_si)} {c0_34_1:List Int} {c1_34_1:Int} {c2_34_1:List K_si} (hy0:0≤a0) (hy1:a0≤1000000) (hy2:0 < length a1) (hy3:length a1≤12) (hy4:∀z∈a1,1≤z.f1∧z.f1≤9999) (hy5:length c0_34_1≤140737488351232) (hy6:length c2_34_1≤140737488351232):∀(n:Nat) (i:Int) (v0:List K_si) (v1:List Int),0≤i→n=toNat (c1_34_1 - i)→length v0=(length (map d_si (m58 a1)))→length v1=(length (map d_i c0_34_1))→c1_34_1≤9223372036854775807→length v0=length v1→1≤length v1→length v1≤1000→Ev F X (.code l34_1 (h34_1 l1_0 a0 a1 c0_34_1 c1_34_1 c2_34_1 i v0 v1) (ex34_1 (r34_1 c1_34_1 n i v0 v1)) (fin34_1 l1_0 a0 a1 c0_34_1 c1_34_1 c2_34_1 (r34_1 c1_34_1 n i v0 v1)))
  |0,i,v0,v1,hn0,hn,hi0,hi1,hi2,hi3,hi4,hi5=>by
    have hc:¬(decide (i < c1_34_1))=true:=by
      simp only[decide_eq_true_eq]; omega
    have st:=ch b34_1 (h34_1 l1_0 a0 a1 c0_34_1 c1_34_1 c2_34_1 i v0 v1) ⟨[(5,(.one (.ref ⟨(5,0,0),[],0,(length (map d_si (m58 a1)))⟩))),(7,(.one (.ref ⟨(7,0,0),[],0,(length (map d_i c0_34_1))⟩))),(49,(.oi c1_34_1)),(50,(.oi i)),(51,(.one (.val (.bool (decide (i < c1_34_1))))))],[((5,0,0),.live ⟨2,(map d_si v0),[]⟩),((7,0,0),.live ⟨1,(map d_i v1),[]⟩)]⟩ (.exit 2) 3 (by kernel_rfl) (.f (nt hc) (U 2 .nil))
    rw[show (⟨[(5,(.one (.ref ⟨(5,0,0),[],0,(length (map d_si (m58 a1)))⟩))),(7,(.one (.ref ⟨(7,0,0),[],0,(length (map d_i c0_34_1))⟩))),(49,(.oi c1_34_1)),(50,(.oi i)),(51,(.one (.val (.bool (decide (i < c1_34_1))))))],[((5,0,0),.live ⟨2,(map d_si v0),[]⟩),((7,0,0),.live ⟨1,(map d_i v1),[]⟩)]⟩:St)=fin34_1 l1_0 a0 a1 c0_34_1 c1_34_1 c2_34_1 (.k0 v0 v1 i (decide (i < c1_34_1))) from(by rfl)] at st
    exact .loopX st (show ((.exit 2):VX.Exit)≠.normal from by simp)
  |n+1,i,v0,v1,hn0,hn,hi0,hi1,hi2,hi3,hi4,hi5=>by
    have hc:(decide (i < c1_34_1))=true:=by
      simp only[decide_eq_true_eq]; omega
    have hw:wrap .i64 (i+1)=i+1:=wrap64 (by omega)
    have hj0:=hi0; try simp only[LN,Int.toNat_natCast] at hj0
    have hj1:=hi1; try simp only[LN,Int.toNat_natCast] at hj1
    have hj2:=hi2; try simp only[LN,Int.toNat_natCast] at hj2
    have hj3:=hi3; try simp only[LN,Int.toNat_natCast] at hj3
    have hj4:=hi4; try simp only[LN,Int.toNat_natCast] at hj4
    have hj5:=hi5; try simp only[LN,Int.toNat_natCast] at hj5
    simp only[r34_1]
    have f1:0+(length (map d_i c0_34_1))≤(length (map d_i v1)):=(by have q:=mlen_58 a1; simp only[length_map,length_nil,Nat.zero_add] at*; omega)
    have f2:fullR (take (length (map d_i c0_34_1)) (drop 0 (map d_i v1)))=true:=(ft_i _ _ _)
    have f3:toBR (take (length (map d_i c0_34_1)) (drop 0 (map d_i v1)))=(map b_i v1):=(by rw[List.drop_zero,take_of_length_le (by simp only[length_map] at*; omega)]; exact toBR_i _)
    have f9:0+(length (map d_si (m58 a1)))≤(length (map d_si v0)):=(by have q:=mlen_58 a1; simp only[length_map,length_nil,Nat.zero_add] at*; omega)
    have f10:0≤(m59 v1 (m60 v1))∧(m59 v1 (m60 v1)) <((length (map d_si (m58 a1))):Int):=(by have q:=im v1 (by simp only[length_map] at*; omega) (by simp only[length_map] at*; omega); simp only[length_map] at*; omega)
    have f16:(set (map d_si v0) (0+(toNat (m59 v1 (m60 v1)))) [(.val (.string ((getD v0 (toNat (m59 v1 (m60 v1))) (K_si.mk (⟨#[]⟩:ByteArray) 0)).f0))),(.i (wrap .i64 (((getD v0 (toNat (m59 v1 (m60 v1))) (K_si.mk (⟨#[]⟩:ByteArray) 0)).f1)+1)))])=(map d_si (set v0 (toNat (m59 v1 (m60 v1))) (K_si.mk ((getD v0 (toNat (m59 v1 (m60 v1))) (K_si.mk (⟨#[]⟩:ByteArray) 0)).f0) (wrap .i64 (((getD v0 (toNat (m59 v1 (m60 v1))) (K_si.mk (⟨#[]⟩:ByteArray) 0)).f1)+1))))):=(by simp[take_of_length_le,d_si]; done)
    have f18:0≤(m59 v1 (m60 v1))∧(m59 v1 (m60 v1)) <((length (map d_i c0_34_1)):Int):=(by omega)
    have f20:(set (map d_i v1) (0+(toNat (m59 v1 (m60 v1)))) [(.i (-1))])=(map d_i (set v1 (toNat (m59 v1 (m60 v1))) (-1))):=(by simp[take_of_length_le,d_i]; done)
    have st:=ch b34_1 (h34_1 l1_0 a0 a1 c0_34_1 c1_34_1 c2_34_1 i v0 v1) ⟨[(5,(.one (.ref ⟨(5,0,0),[],0,(length (map d_si (m58 a1)))⟩))),(7,(.one (.ref ⟨(7,0,0),[],0,(length (map d_i c0_34_1))⟩))),(49,(.oi c1_34_1)),(50,(.oi (wrap .i64 (i+1))))],[((5,0,0),.live ⟨2,(map d_si (set v0 (toNat (m59 v1 (m60 v1))) (K_si.mk ((getD v0 (toNat (m59 v1 (m60 v1))) (K_si.mk (⟨#[]⟩:ByteArray) 0)).f0) (wrap .i64 (((getD v0 (toNat (m59 v1 (m60 v1))) (K_si.mk (⟨#[]⟩:ByteArray) 0)).f1)+1))))),[]⟩),((7,0,0),.live ⟨1,(map d_i (set v1 (toNat (m59 v1 (m60 v1))) (-1))),[]⟩)]⟩ .normal 45 (by kernel_rfl) (.f hc (.f f1 (.f f2 (.f f3 (hT 2 (.r 8 [] [(map b_i v1)] (e60 (l0_0:=0) (a0:=v1) ‹_› ‹_›) (.f f1 (.f f2 (.f f3 (.r 10 [] [(map b_i v1)] (e59 (l0_0:=0) (a0:=v1) (a1:=(m60 v1)) (by omega)) (.f f9 (.f f10 (.f (mz_ d_si (getD_at v0 (toNat (m59 v1 (m60 v1))) (K_si.mk (⟨#[]⟩:ByteArray) 0) (by omega))) (.f trivial (.f f9 (.f f10 (.f (mz_ d_si (getD_at v0 (toNat (m59 v1 (m60 v1))) (K_si.mk (⟨#[]⟩:ByteArray) 0) (by omega))) (.f f16 (.f f1 (.f f18 (.f (mz_ d_i (getD_at v1 (toNat (m59 v1 (m60 v1))) 0 (by omega))) (.f f20 (.f trivial (.h 22 (.rowD (d_si (getD v0 (toNat (m59 v1 (m60 v1))) (K_si.mk (⟨#[]⟩:ByteArray) 0)))) (.h 30 (.rowD (d_si (getD v0 (toNat (m59 v1 (m60 v1))) (K_si.mk (⟨#[]⟩:ByteArray) 0)))) (.h 31 (.norm (5,0,0) (map d_si (set v0 (toNat (m59 v1 (m60 v1))) (K_si.mk ((getD v0 (toNat (m59 v1 (m60 v1))) (K_si.mk (⟨#[]⟩:ByteArray) 0)).f0) (wrap .i64 (((getD v0 (toNat (m59 v1 (m60 v1))) (K_si.mk (⟨#[]⟩:ByteArray) 0)).f1)+1)))))) (.h 39 (.rowD [(.i (getD v1 (toNat (m59 v1 (m60 v1))) 0))]) (.h 40 (.norm (7,0,0) (map d_i (set v1 (toNat (m59 v1 (m60 v1))) (-1)))) .nil))))))))))))))))))))))))))))
    have ih:=t34_1 (l1_0:=l1_0) (a0:=a0) (a1:=a1) (c0_34_1:=c0_34_1) (c1_34_1:=c1_34_1) (c2_34_1:=c2_34_1) hy0 hy1 hy2 hy3 hy4 hy5 hy6 n (i+1) (set v0 (toNat (m59 v1 (m60 v1))) (K_si.mk ((getD v0 (toNat (m59 v1 (m60 v1))) (K_si.mk (⟨#[]⟩:ByteArray) 0)).f0) (wrap .i64 (((getD v0 (toNat (m59 v1 (m60 v1))) (K_si.mk (⟨#[]⟩:ByteArray) 0)).f1)+1)))) (set v1 (toNat (m59 v1 (m60 v1))) (-1)) (by omega) (by omega) (by simp only[LN]; omega) (by simp only[LN]; omega) (by omega) (by simp only[LN]; omega) (by simp only[LN]; omega) (by simp only[LN]; omega)
    rw[show (⟨[(5,(.one (.ref ⟨(5,0,0),[],0,(length (map d_si (m58 a1)))⟩))),(7,(.one (.ref ⟨(7,0,0),[],0,(length (map d_i c0_34_1))⟩))),(49,(.oi c1_34_1)),(50,(.oi (wrap .i64 (i+1))))],[((5,0,0),.live ⟨2,(map d_si (set v0 (toNat (m59 v1 (m60 v1))) (K_si.mk ((getD v0 (toNat (m59 v1 (m60 v1))) (K_si.mk (⟨#[]⟩:ByteArray) 0)).f0) (wrap .i64 (((getD v0 (toNat (m59 v1 (m60 v1))) (K_si.mk (⟨#[]⟩:ByteArray) 0)).f1)+1))))),[]⟩),((7,0,0),.live ⟨1,(map d_i (set v1 (toNat (m59 v1 (m60 v1))) (-1))),[]⟩)]⟩:St)=h34_1 l1_0 a0 a1 c0_34_1 c1_34_1 c2_34_1 (i+1) (set v0 (toNat (m59 v1 (m60 v1))) (K_si.mk ((getD v0 (toNat (m59 v1 (m60 v1))) (K_si.mk (⟨#[]⟩:ByteArray) 0)).f0) (wrap .i64 (((getD v0 (toNat (m59 v1 (m60 v1))) (K_si.mk (⟨#[]⟩:ByteArray) 0)).f1)+1)))) (set v1 (toNat (m59 v1 (m60 v1))) (-1)) from(by unfold h34_1; simp only[hw]; done)] at st
    exact .loopN st ih
def post34_1 (n0 n1:Nat):O34_1→Prop
  |.k0 w0 w1 _ _=>length w0=n0∧length w1=n1
theorem z34_1 {c1_34_1:Int}:∀(n:Nat) (i:Int) (v0:List K_si) (v1:List Int),post34_1 (length v0) (length v1) (r34_1 c1_34_1 n i v0 v1)
  |0,i,v0,v1=>by
    first | trivial |(simp only[post34_1,length_nil,Nat.add_zero]; done) |(simp[post34_1]; done)
  |n+1,i,v0,v1=>by
    simp only[r34_1]
    have z:=z34_1 (c1_34_1:=c1_34_1) n (i+1) (set v0 (toNat (m59 v1 (m60 v1))) (K_si.mk ((getD v0 (toNat (m59 v1 (m60 v1))) (K_si.mk (⟨#[]⟩:ByteArray) 0)).f0) (wrap .i64 (((getD v0 (toNat (m59 v1 (m60 v1))) (K_si.mk (⟨#[]⟩:ByteArray) 0)).f1)+1)))) (set v1 (toNat (m59 v1 (m60 v1))) (-1))
    rw[show (length v0)=(length (set v0 (toNat (m59 v1 (m60 v1))) (K_si.mk ((getD v0 (toNat (m59 v1 (m60 v1))) (K_si.mk (⟨#[]⟩:ByteArray) 0)).f0) (wrap .i64 (((getD v0 (toNat (m59 v1 (m60 v1))) (K_si.mk (⟨#[]⟩:ByteArray) 0)).f1)+1))))) from by first | omega |(simp only[LN]; done) |(simp only[LN]; omega),show (length v1)=(length (set v1 (toNat (m59 v1 (m60 v1))) (-1))) from by first | omega |(simp only[LN]; done) |(simp only[LN]; omega)]
    exact z
def m34 (a0:Int) (a1:(List K_si)):(List K_si):=
  (match r34_0 a0 a1 (m58 a1) 0 (m58 a1) ([]) a0 with | .k0 w0_2 w1_2 w2_2 w3_2 w4_2=>(match r34_1 w2_2 (toNat w2_2) 0 w0_2 w1_2 with | .k0 w0_3 w1_3 w2_3 w3_3=>w0_3))
theorem e34 {a0:Int} {l1_0:Nat} {a1:(List K_si)} (hy0:0≤a0) (hy1:a0≤1000000) (hy2:0 < length a1) (hy3:length a1≤12) (hy4:∀z∈a1,1≤z.f1∧z.f1≤9999):Ev F X (.call 34 [(.one (.val (.int .i64 a0))),(.one (.bor l1_0 (map b_si a1)))] [] [] [(.one (.own 2 (map d_si (m34 a0 a1))))]):=by
  unfold m34
  cases h0:r34_0 a0 a1 (m58 a1) 0 (m58 a1) ([]) a0 with
  |k0 w0_2 w1_2 w2_2 w3_2 w4_2=>
    try dsimp only
    have zh0:=z34_0 (a0:=a0) (a1:=a1) (m58 a1) 0 (m58 a1) ([]) a0; rw[h0] at zh0; simp only[post34_0,length_map,length_set,length_append,length_replicate,length_cons,length_nil,Int.toNat_natCast] at zh0; have qh0:=left_34 a0 a1 _ _ _ _ _ yd _ _ _ _ _ h0
    have f2:(⟨[(0,(.oi a0)),(5,(.one (.ref ⟨(5,0,0),[],0,(length (map d_si (m58 a1)))⟩))),(6,(.oi (m42 a1))),(7,(.one (.ref ⟨(7,0,0),[],0,0⟩))),(8,(.oi a0)),(19,(.one (.ref ⟨(5,0,0),[],0,(length (map d_si (m58 a1)))⟩))),(20,(.oi ((length (map d_si (m58 a1))):Int))),(21,(.oi 0))],[((5,0,0),.live ⟨2,(map d_si (m58 a1)),[]⟩),((7,0,0),.live ⟨1,[],[]⟩)]⟩:St)=h34_0 l1_0 a0 a1 0 (m58 a1) ([]) a0:=yu
    cases h1:r34_1 w2_2 (toNat w2_2) 0 w0_2 w1_2 with
    |k0 w0_3 w1_3 w2_3 w3_3=>
      try dsimp only
      have zh1:=z34_1 (c1_34_1:=w2_2) (toNat w2_2) 0 w0_2 w1_2; rw[h1] at zh1; simp only[post34_1,length_map,length_set,length_append,length_replicate,length_cons,length_nil,Int.toNat_natCast] at zh1
      have f4:(⟨[(5,(.one (.ref ⟨(5,0,0),[],0,(length (map d_si (m58 a1)))⟩))),(7,(.one (.ref ⟨(7,0,0),[],0,(length (map d_i w1_2))⟩))),(49,(.oi w2_2)),(50,(.oi 0))],[((5,0,0),.live ⟨2,(map d_si w0_2),[]⟩),((7,0,0),.live ⟨1,(map d_i w1_2),[]⟩)]⟩:St)=h34_1 l1_0 a0 a1 w1_2 w2_2 w0_2 0 w0_2 w1_2:=yu
      have f7:(length (map d_si (m58 a1)))=(length (map d_si w0_3)):=yO
      exact cp ya (.r 5 [] [] (e58 (l0_0:=(l1_0+1)) (a0:=a1) yd) (.r 9 [] [] (e42 (l0_0:=(l1_0+1)) (a0:=a1) yd) (.f f2 (.f (ev_ (e:=ex34_0) (g:=(fin34_0 l1_0 a0 a1)) h0 (t34_0 (l1_0:=l1_0) (a0:=a0) (a1:=a1) (by assumption) (by assumption) (by assumption) (by assumption) (by assumption) (m58 a1) [] (m58 a1) ([]) a0 rfl yaD yK yu)) (.f f4 (.f (ev_ (e:=ex34_1) (g:=(fin34_1 l1_0 a0 a1 w1_2 w2_2 w0_2)) h1 (t34_1 (l1_0:=l1_0) (a0:=a0) (a1:=a1) (c0_34_1:=w1_2) (c1_34_1:=w2_2) (c2_34_1:=w0_2) (by assumption) (by assumption) (by assumption) (by assumption) (by assumption) yO yO _ 0 w0_2 w1_2 yd yd yK yaD yd yd yK yK)) (pe 0 (.f f7 (.f (pureR_si w0_3) (.h 28 (.loop (h34_0 l1_0 a0 a1 0 (m58 a1) ([]) a0) (.exit 0) ⟨[(0,(.oi a0)),(5,(.one (.ref ⟨(5,0,0),[],0,(length (map d_si (m58 a1)))⟩))),(6,(.oi (m42 a1))),(7,(.one (.ref ⟨(7,0,0),[],0,(length (map d_i w1_2))⟩))),(8,(.oi w2_2)),(19,(.one (.ref ⟨(5,0,0),[],0,(length (map d_si (m58 a1)))⟩))),(20,(.oi ((length (map d_si (m58 a1))):Int))),(21,(.oi w3_2)),(22,(.one (.val (.bool w4_2))))],[((5,0,0),.live ⟨2,(map d_si w0_2),[]⟩),((7,0,0),.live ⟨1,(map d_i w1_2),[]⟩)]⟩) (.h 33 (.loop (h34_1 l1_0 a0 a1 w1_2 w2_2 w0_2 0 w0_2 w1_2) (.exit 2) ⟨[(5,(.one (.ref ⟨(5,0,0),[],0,(length (map d_si (m58 a1)))⟩))),(7,(.one (.ref ⟨(7,0,0),[],0,(length (map d_i w1_2))⟩))),(49,(.oi w2_2)),(50,(.oi w2_3)),(51,(.one (.val (.bool w3_3))))],[((5,0,0),.live ⟨2,(map d_si w0_3),[]⟩),((7,0,0),.live ⟨1,(map d_i w1_3),[]⟩)]⟩) .nil)))))))))))
theorem dlen34 (t:Int) (a:List K_si):length (m34 t a)=length (m58 a):=by
  have z:=z34_0 (a0:=t) (a1:=a) (m58 a) 0 (m58 a) [] t
  unfold m34
  cases hr:r34_0 t a (m58 a) 0 (m58 a) [] t with
  |k0 w0 w1 w2 w3 w4=>
    rw[hr] at z
    have z1:=z34_1 (c1_34_1:=w2) (toNat w2) 0 w0 w1
    simp only[]
    cases hr1:r34_1 w2 (toNat w2) 0 w0 w1 with
    |k0 u0 u1 u2 u3=>
      rw[hr1] at z1
      simp only[post34_0,post34_1,length_nil,Nat.zero_add] at z z1
      simp only[]
      omega
def o1003100_0 (a0:K_B) (a101001:Int) (a102001:Int):K_B:=
  if(!(m57 a101001 0 2147483646))=true then a0 else
  if(!(m57 a102001 0 1000000))=true then a0 else
    if(decide ((m1005300 a0.f3 a101001)≥0))=true then a0 else
      if(decide (((length (map d_R a0.f3)):Int)≥6))=true then a0 else
        if(!(m57 (wrap .i64 ((m33 a0.f3 0)+a102001)) 0 1000000))=true then a0 else
          if(decide (((length (map d_si a0.f2)):Int) > 0))=true then(K_B.mk a0.f0 a0.f1 a0.f2 (a0.f3++([(K_R.mk a101001 a102001 (wrap .i64 (Int.tdiv (wrap .i64 (a102001*a0.f1)) 1000)) (m34 (wrap .i64 (a102001 - (wrap .i64 (Int.tdiv (wrap .i64 (a102001*a0.f1)) 1000)))) a0.f2) 1)])) a0.f4 a0.f5 a0.f6 a0.f7) else
            (K_B.mk a0.f0 a0.f1 a0.f2 (a0.f3++([(K_R.mk a101001 a102001 a102001 [] 1)])) a0.f4 a0.f5 a0.f6 a0.f7)
def m1003100 (a0:K_B) (a101001:Int) (a102001:Int):Int:=
  if(!(m57 a101001 0 2147483646))=true then 3 else
  if(!(m57 a102001 0 1000000))=true then 3 else
    if(decide ((m1005300 a0.f3 a101001)≥0))=true then 6 else
      if(decide (((length (map d_R a0.f3)):Int)≥6))=true then 10 else
        if(!(m57 (wrap .i64 ((m33 a0.f3 0)+a102001)) 0 1000000))=true then 7 else
          0
theorem e1003100 {a0:K_B} {l101000:Nat} {a101001:Int} {l102000:Nat} {a102001:Int} (hy0:length a0.f2≤100) (hy1:length a0.f3≤100) (hy2:∀z∈a0.f3,length z.f3≤100) (hy3:length a0.f4≤100) (hy4:∀z∈a0.f3,ok_R z) (hy5:length a0.f2≤12) (hy6:∀z∈a0.f2,1≤z.f1∧z.f1≤9999) (hy7:0≤a0.f1∧a0.f1≤1000):Ev F X (.call 31 [(.ptr ⟨(0,0,0),[],0,0,8⟩),(.bptr l101000 [(.val (.int .i64 a101001))]),(.bptr l102000 [(.val (.int .i64 a102001))])] [((0,0,0),⟨8,[(d_B a0)],[]⟩)] [[(d_B (o1003100_0 a0 a101001 a102001))]] [(.one (.val (.int .i64 (m1003100 a0 a101001 a102001))))]):=by
  unfold m1003100 o1003100_0
  have P0 {hs q} (r:PS F X hs q):=(PS.r 5 [] [] (e32 (a0:=a101001)) r)
  by_cases h0:(!(m57 a101001 0 2147483646))=true
  · try simp only[if_pos h0]
    exact cq [false] ya (P0 (.f h0 (.f h0 (.f h0 (.f h0 (.f (pureR_si a0.f2) (.f (pureR_R a0.f3) (.f (pureR_si a0.f4) (hT 10 (hT 12 (hT 14 (hT 17 .nil))))))))))))
  try simp only[if_neg h0]
  have P1 {hs q} (r:PS F X hs q):=(P0 (N h0 (N h0 (U 10 (U 12 (.r 13 [] [] (e29 (a0:=a102001)) (N h0 (N h0 (U 14 (U 17 r))))))))))
  by_cases h1:(!(m57 a102001 0 1000000))=true
  · try simp only[if_pos h1]
    exact cq [false] ya (P1 (.f h1 (.f (pureR_si a0.f2) (.f (pureR_R a0.f3) (.f (pureR_si a0.f4) (hT 20 .nil))))))
  try simp only[if_neg h1]
  have P2 {hs q} (r:PS F X hs q):=(P1 (N h1 (ln_R a0.f3 (U 20 (.r 32 [] [(map b_R a0.f3)] (e26 (l0_0:=0) (a0:=a0.f3) (a1:=a101001) yd ‹_›) r)))))
  by_cases h2:(decide ((m1005300 a0.f3 a101001)≥0))=true
  · try simp only[if_pos h2]
    exact cq [false] ya (P2 (.f h2 (.f (pureR_si a0.f2) (.f (pureR_R a0.f3) (.f (pureR_si a0.f4) (hT 37 .nil))))))
  try simp only[if_neg h2]
  have P3 {hs q} (r:PS F X hs q):=(P2 (N h2 (U 37 r)))
  by_cases h3:(decide (((length (map d_R a0.f3)):Int)≥6))=true
  · try simp only[if_pos h3]
    exact cq [false] ya (P3 (.f h3 (.f (pureR_si a0.f2) (.f (pureR_R a0.f3) (.f (pureR_si a0.f4) (hT 52 .nil))))))
  try simp only[if_neg h3]
  have P4 {hs q} (r:PS F X hs q):=(P3 (N h3 (ln_R a0.f3 (U 52 (.r 62 [] [(map b_R a0.f3)] (e33 (l0_0:=0) (a0:=a0.f3) (a1:=0) yd ‹_›) (.f trivial (.r 68 [] [] (e29 (a0:=(wrap .i64 ((m33 a0.f3 0)+a102001)))) r)))))))
  by_cases h4:(!(m57 (wrap .i64 ((m33 a0.f3 0)+a102001)) 0 1000000))=true
  · try simp only[if_pos h4]
    exact cq [false] ya (P4 (.f h4 (.f (pureR_si a0.f2) (.f (pureR_R a0.f3) (.f (pureR_si a0.f4) (hT 73 .nil))))))
  try simp only[if_neg h4]
  by_cases h5:(decide (((length (map d_si a0.f2)):Int) > 0))=true
  · try simp only[if_pos h5]
    have f21:(1000:Int)≠0:=yd
    have f30:0+(length (map d_R a0.f3))≤(length (map d_R a0.f3)):=yd
    have f31:1≤1:=yd
    have f32:((take 1 (drop 0 [[(.i a101001),(.i a102001),(.i (wrap .i64 (Int.tdiv (wrap .i64 (a102001*a0.f1)) 1000))),(.own 2 (map d_si (m34 (wrap .i64 (a102001 - (wrap .i64 (Int.tdiv (wrap .i64 (a102001*a0.f1)) 1000)))) a0.f2))),(.i 1)]])).all fun x=>x.all copyable)=false:=yA
    have f35:(length ((take (length (map d_R a0.f3)) (drop 0 (map d_R a0.f3)))++([[(.i a101001),(.i a102001),(.i (wrap .i64 (Int.tdiv (wrap .i64 (a102001*a0.f1)) 1000))),(.own 2 (map d_si (m34 (wrap .i64 (a102001 - (wrap .i64 (Int.tdiv (wrap .i64 (a102001*a0.f1)) 1000)))) a0.f2))),(.i 1)]]:List (List D))))*56≤70368744177664:=(by unfold m34;(repeat' split)<;>simp_all<;>omega)
    have f36:∀r∈([[(.i a101001),(.i a102001),(.i (wrap .i64 (Int.tdiv (wrap .i64 (a102001*a0.f1)) 1000))),(.own 2 (map d_si (m34 (wrap .i64 (a102001 - (wrap .i64 (Int.tdiv (wrap .i64 (a102001*a0.f1)) 1000)))) a0.f2))),(.i 1)]]:List (List D)),r.length=5:=(by unfold m34;(repeat' split)<;>simp_all<;>omega)
    have f39:([[(.i a0.f0),(.i a0.f1),(.own 2 (map d_si a0.f2)),(.own 5 ((take (length (map d_R a0.f3)) (drop 0 (map d_R a0.f3)))++([[(.i a101001),(.i a102001),(.i (wrap .i64 (Int.tdiv (wrap .i64 (a102001*a0.f1)) 1000))),(.own 2 (map d_si (m34 (wrap .i64 (a102001 - (wrap .i64 (Int.tdiv (wrap .i64 (a102001*a0.f1)) 1000)))) a0.f2))),(.i 1)]]:List (List D)))),(.own 2 (map d_si a0.f4)),(.i a0.f5),(.i a0.f6),(.i a0.f7)]]:List (List D))=[[(.i a0.f0),(.i a0.f1),(.own 2 (map d_si a0.f2)),(.own 5 (map d_R (a0.f3++([(K_R.mk a101001 a102001 (wrap .i64 (Int.tdiv (wrap .i64 (a102001*a0.f1)) 1000)) (m34 (wrap .i64 (a102001 - (wrap .i64 (Int.tdiv (wrap .i64 (a102001*a0.f1)) 1000)))) a0.f2) 1)])))),(.own 2 (map d_si a0.f4)),(.i a0.f5),(.i a0.f6),(.i a0.f7)]]:=yI
    exact cq [false] ya (P4 (N h4 (.f h5 (.f f21 (ln_si a0.f2 (U 73 (hT 98 (.r 134 [] [(map b_si a0.f2)] (e34 (l1_0:=0) (a0:=(wrap .i64 (a102001 - (wrap .i64 (Int.tdiv (wrap .i64 (a102001*a0.f1)) 1000))))) (a1:=a0.f2) yac yac yab ‹_› ‹_›) (pe 0 (pe (length (map d_si (m34 (wrap .i64 (a102001 - (wrap .i64 (Int.tdiv (wrap .i64 (a102001*a0.f1)) 1000)))) a0.f2))) (pe 0 (pe (length (map d_si (m34 (wrap .i64 (a102001 - (wrap .i64 (Int.tdiv (wrap .i64 (a102001*a0.f1)) 1000)))) a0.f2))) (.f f30 (.f f31 (.f f32 (pe 0 (pe 1 (.f f35 (.f f36 (pe 0 (pe (length ((take (length (map d_R a0.f3)) (drop 0 (map d_R a0.f3)))++([[(.i a101001),(.i a102001),(.i (wrap .i64 (Int.tdiv (wrap .i64 (a102001*a0.f1)) 1000))),(.own 2 (map d_si (m34 (wrap .i64 (a102001 - (wrap .i64 (Int.tdiv (wrap .i64 (a102001*a0.f1)) 1000)))) a0.f2))),(.i 1)]]:List (List D)))) (.f f39 (.f (pureR_si a0.f2) (.f (pureR_R (a0.f3++([(K_R.mk a101001 a102001 (wrap .i64 (Int.tdiv (wrap .i64 (a102001*a0.f1)) 1000)) (m34 (wrap .i64 (a102001 - (wrap .i64 (Int.tdiv (wrap .i64 (a102001*a0.f1)) 1000)))) a0.f2) 1)]))) (.f (pureR_si a0.f4) (U 154 (.h 161 (.norm (0,0,0) [[(.i a0.f0),(.i a0.f1),(.own 2 (map d_si a0.f2)),(.own 5 (map d_R (a0.f3++([(K_R.mk a101001 a102001 (wrap .i64 (Int.tdiv (wrap .i64 (a102001*a0.f1)) 1000)) (m34 (wrap .i64 (a102001 - (wrap .i64 (Int.tdiv (wrap .i64 (a102001*a0.f1)) 1000)))) a0.f2) 1)])))),(.own 2 (map d_si a0.f4)),(.i a0.f5),(.i a0.f6),(.i a0.f7)]]) .nil)))))))))))))))))))))))))))
  try simp only[if_neg h5]
  have f23:0+(length (map d_R a0.f3))≤(length (map d_R a0.f3)):=yd
  have f24:1≤1:=yd
  have f25:((take 1 (drop 0 [[(.i a101001),(.i a102001),(.i a102001),(.own 2 []),(.i 1)]])).all fun x=>x.all copyable)=false:=yA
  have f28:(length ((take (length (map d_R a0.f3)) (drop 0 (map d_R a0.f3)))++([[(.i a101001),(.i a102001),(.i a102001),(.own 2 []),(.i 1)]]:List (List D))))*56≤70368744177664:=yB
  have f29:∀r∈([[(.i a101001),(.i a102001),(.i a102001),(.own 2 []),(.i 1)]]:List (List D)),r.length=5:=yP
  have f32:([[(.i a0.f0),(.i a0.f1),(.own 2 (map d_si a0.f2)),(.own 5 ((take (length (map d_R a0.f3)) (drop 0 (map d_R a0.f3)))++([[(.i a101001),(.i a102001),(.i a102001),(.own 2 []),(.i 1)]]:List (List D)))),(.own 2 (map d_si a0.f4)),(.i a0.f5),(.i a0.f6),(.i a0.f7)]]:List (List D))=[[(.i a0.f0),(.i a0.f1),(.own 2 (map d_si a0.f2)),(.own 5 (map d_R (a0.f3++([(K_R.mk a101001 a102001 a102001 [] 1)])))),(.own 2 (map d_si a0.f4)),(.i a0.f5),(.i a0.f6),(.i a0.f7)]]:=yI
  exact cq [false] ya (P4 (N h4 (N h5 (pe 0 (pe 0 (.f f23 (.f f24 (.f f25 (pe 0 (pe 1 (.f f28 (.f f29 (pe 0 (pe (length ((take (length (map d_R a0.f3)) (drop 0 (map d_R a0.f3)))++([[(.i a101001),(.i a102001),(.i a102001),(.own 2 []),(.i 1)]]:List (List D)))) (.f f32 (.f (pureR_si a0.f2) (.f (pureR_R (a0.f3++([(K_R.mk a101001 a102001 a102001 [] 1)]))) (.f (pureR_si a0.f4) (U 73 (U 98 (U 114 (.h 121 (.norm (0,0,0) [[(.i a0.f0),(.i a0.f1),(.own 2 (map d_si a0.f2)),(.own 5 (map d_R (a0.f3++([(K_R.mk a101001 a102001 a102001 [] 1)])))),(.own 2 (map d_si a0.f4)),(.i a0.f5),(.i a0.f6),(.i a0.f7)]]) .nil))))))))))))))))))))))
def m1002402 (a0:K_B) (a2001:Int) (a2003:Int):K_C:=
  if((m14 a0) !=0)=true then(K_C.mk (m14 a0) 0 0 0 [] [] [] 0 0 0) else
  if((m1003100 (m52 a0) a2001 a2003) !=0)=true then(K_C.mk (m1003100 (m52 a0) a2001 a2003) 0 0 0 [] [] [] 0 0 0) else
    (K_C.mk 0 0 ((o1003100_0 (m52 a0) a2001 a2003).f0) ((o1003100_0 (m52 a0) a2001 a2003).f1) ((o1003100_0 (m52 a0) a2001 a2003).f2) ((o1003100_0 (m52 a0) a2001 a2003).f3) ((o1003100_0 (m52 a0) a2001 a2003).f4) ((o1003100_0 (m52 a0) a2001 a2003).f5) ((o1003100_0 (m52 a0) a2001 a2003).f6) ((o1003100_0 (m52 a0) a2001 a2003).f7))
theorem e1002402 {l0_2:Nat} {l0_3:Nat} {l0_4:Nat} {a0:K_B} {l2000:Nat} {a2001:Int} {l2002:Nat} {a2003:Int} (hy0:length a0.f2*24≤140737488351232) (hy1:length a0.f3*56≤140737488351232) (hy2:∀z∈a0.f3,ok_R z) (hy3:length a0.f4*24≤140737488351232):Ev F X (.call 24 [(.agg (k_B l0_2 l0_3 l0_4 a0)),(.clo 31 [] [(.bptr l2000 [(.val (.int .i64 a2001))]),(.bptr l2002 [(.val (.int .i64 a2003))])])] [] [] [(.agg (d_C (m1002402 a0 a2001 a2003)))]):=by
  unfold m1002402
  have P0 {hs q} (r:PS F X hs q):=(PS.r 7 [] [] (e14 (l0_2:=(l0_2+1)) (l0_3:=(l0_3+1)) (l0_4:=(l0_4+1)) (a0:=a0) ‹_› ‹_› ‹_› ‹_›) r)
  by_cases h0:((m14 a0) !=0)=true
  · try simp only[if_pos h0]
    have f2:pureR []=true:=yA
    exact cp ya (P0 (.f h0 (.f f2 (.f f2 (.f f2 (hT 14 .nil))))))
  try simp only[if_neg h0]
  have P1 {hs q} (r:PS F X hs q):=(P0 (N h0 (U 14 (.r 18 [] [] (e52 (l0_2:=(l0_2+1)) (l0_3:=(l0_3+1)) (l0_4:=(l0_4+1)) (a0:=a0) yY yY yak yY ‹_›) (p3 ((m52 a0).f2) ((m52 a0).f3) ((m52 a0).f4) (.f (pureR_si ((m52 a0).f2)) (.f (pureR_R ((m52 a0).f3)) (.f (pureR_si ((m52 a0).f4)) (.r 26 [false] [] (e1003100 (l101000:=(l2000+1)) (l102000:=(l2002+1)) (a0:=(m52 a0)) (a101001:=a2001) (a102001:=a2003) yN yN yah yN (by rw[cp52]; assumption) yN (by rw[cp52]; exact(fw14 ‹_›).1) (by rw[cp52]; exact(fw14 ‹_›).2)) r)))))))))
  by_cases h1:((m1003100 (m52 a0) a2001 a2003) !=0)=true
  · try simp only[if_pos h1]
    have f14:pureR []=true:=yA
    exact cp ya (P1 (.f h1 (.f f14 (.f f14 (.f f14 (hT 33 .nil))))))
  try simp only[if_neg h1]
  exact cp ya (P1 (N h1 (p3 ((o1003100_0 (m52 a0) a2001 a2003).f2) ((o1003100_0 (m52 a0) a2001 a2003).f3) ((o1003100_0 (m52 a0) a2001 a2003).f4) (.f (pureR_si ((o1003100_0 (m52 a0) a2001 a2003).f2)) (.f (pureR_R ((o1003100_0 (m52 a0) a2001 a2003).f3)) (.f (pureR_si ((o1003100_0 (m52 a0) a2001 a2003).f4)) (U 33 .nil)))))))
theorem okm1002402 (a0:K_B) (a2001:Int) (a2003:Int):ok_C (m1002402 a0 a2001 a2003):=by
  unfold m1002402
  split
  · simp[ok_LyE,ok_R,ok_B,ok_C,ok_LyEi,ok_Q,ok_LiE,ok_LsiE]
  rename_i h
  obtain⟨q1,q2,q3,q4⟩:=fs14 h
  simp only[cp52]
  split
  · simp[ok_LyE,ok_R,ok_B,ok_C,ok_LyEi,ok_Q,ok_LiE,ok_LsiE]
  unfold o1003100_0
  (repeat' split)<;>simp only[ok_LyE,ok_R,ok_B,ok_C,ok_LyEi,ok_Q,ok_LiE,ok_LsiE]<;>first |(refine⟨?_,?_,?_,?_⟩<;>(simp; done)) |(refine⟨?_,?_,?_,?_⟩<;>first | omega | exact oapp q3 (by simp only[]; rw[dlen34]; exact Nat.le_trans (mlen_58 _) q1) |(simp only[length_set,length_append,length_cons,length_nil,length_take,length_drop]; omega) | exact oall q3 | exact oset q3 (oget q3 _) | exact oset q3 yax | exact oapp q3 yax)
theorem e10 {l0_2:Nat} {l0_3:Nat} {l0_4:Nat} {a0:K_B} {a1:Int} {a2:Int} (hy0:length a0.f2*24≤140737488351232) (hy1:length a0.f3*56≤140737488351232) (hy2:∀z∈a0.f3,ok_R z) (hy3:length a0.f4*24≤140737488351232):Ev F X (.call 10 [(.agg (k_B l0_2 l0_3 l0_4 a0)),(.one (.val (.int .i64 a1))),(.one (.val (.int .i64 a2)))] [] [] [(.agg (d_C (m1002402 a0 a1 a2)))]):=by
  have f0:fullL [(.i a1)]=true:=yA
  have f1:fullL [(.i a2)]=true:=(by assumption)
  have f2:Ev F X (.call 24 [(.agg (k_B (l0_2+1) (l0_3+1) (l0_4+1) a0)),(.clo 31 [] [(.bptr 0 [(.i a1)]),(.bptr 0 [(.i a2)])])] [] [] [(.agg (d_C (m1002402 a0 a1 a2)))]):=(e1002402 (a0:=a0) (a2001:=a1) (a2003:=a2) ‹_› ‹_› ‹_› ‹_›)
  exact cp ya (.f f0 (.f f1 (.r 13 [] [] f2 (p3 ((m1002402 a0 a1 a2).f4) ((m1002402 a0 a1 a2).f5) ((m1002402 a0 a1 a2).f6) (.f (pureR_si ((m1002402 a0 a1 a2).f4)) (.f (pureR_R ((m1002402 a0 a1 a2).f5)) (.f (pureR_si ((m1002402 a0 a1 a2).f6)) .nil)))))))
def m11_0 (a0:(List Int)):Int:=
  (m30 (m21 a0) [1,12,13,0])
def m11_1 (a0:(List Int)):Int:=
  (m30 (K_LyEi.mk ((m21 a0).f0) ((o30_0 (m21 a0) [1,12,13,0]).f1)) [0,1000,1001])
theorem e11 {l0_0:Nat} {a0:(List Int)} (hy0:∀z∈a0,(0:Int)≤z∧z≤255) (hy1:length a0≤140737488351232):Ev F X (.call 11 [(.one (.bor l0_0 (map b_y a0)))] [] [] [(.one (.val (.int .i64 (m11_0 a0)))),(.one (.val (.int .i64 (m11_1 a0))))]):=by
  have f1:4≤4:=yd
  have f2:fullR (take 4 (drop 0 [[(.i 1)],[(.i 12)],[(.i 13)],[(.i 0)]]))=true:=yA
  have f3:toBR (take 4 (drop 0 [[(.i 1)],[(.i 12)],[(.i 13)],[(.i 0)]]))=[[(.i 1)],[(.i 12)],[(.i 13)],[(.i 0)]]:=yA
  have f5:3≤3:=yd
  have f6:fullR (take 3 (drop 0 [[(.i 0)],[(.i 1000)],[(.i 1001)]]))=true:=(by assumption)
  have f7:toBR (take 3 (drop 0 [[(.i 0)],[(.i 1000)],[(.i 1001)]]))=[[(.i 0)],[(.i 1000)],[(.i 1001)]]:=yA
  exact cp ya (.r 7 [] [] (e21 (l0_0:=l0_0) (a0:=a0)) (.f f1 (.f f2 (.f f3 (.r 15 [false] [[[(.i 1)],[(.i 12)],[(.i 13)],[(.i 0)]]] (e30 (l0_0:=l0_0) (l1_0:=0) (a0:=(m21 a0)) (a1:=[1,12,13,0]) yj yP yP) (.f f5 (.f f6 (.f f7 (.r 21 [false] [[[(.i 0)],[(.i 1000)],[(.i 1001)]]] (e30 (l0_0:=l0_0) (l1_0:=0) (a0:=(zz (m21 a0) (o30_0 (m21 a0) [1,12,13,0]))) (a1:=[0,1000,1001]) yj yP yP) .nil)))))))))
def m12 (a0:Int) (a1:Int):K_C:=
  if(!(m35 a0 a1))=true then(K_C.mk 3 0 0 0 [] [] [] 0 0 0) else
  (K_C.mk 0 0 a0 a1 [] [] [] 0 0 0)
theorem e12 {a0:Int} {a1:Int}:Ev F X (.call 12 [(.one (.val (.int .i64 a0))),(.one (.val (.int .i64 a1)))] [] [] [(.agg (d_C (m12 a0 a1)))]):=by
  unfold m12
  by_cases h0:(!(m35 a0 a1))=true
  · try simp only[if_pos h0]
    have f2:pureR []=true:=yA
    exact cp ya (.r 7 [] [] (e35 (a0:=a0) (a1:=a1)) (.f h0 (.f f2 (.f f2 (.f f2 (hT 10 .nil))))))
  try simp only[if_neg h0]
  have f2:pureR []=true:=yA
  exact cp ya (.r 7 [] [] (e35 (a0:=a0) (a1:=a1)) (N h0 (.f f2 (.f f2 (.f f2 (U 10 .nil))))))
def m44 (a0:K_B):Bool:=
  if (m72 a0.f0 1 12) = true then (if (m72 a0.f1 0 1000) = true then (if (m72 a0.f5 0 1000000) = true then (if (m72 a0.f6 0 1000000) = true then (m72 a0.f7 0 1000000) else
        false) else
      false) else
    false) else
  false
theorem e44 {l0:Nat} {a0:K_B}:Ev F X (.call 44 [(.bptr l0 (b_B a0))] [] [] [(.one (.val (.bool (m44 a0))))]):=by
  unfold m44
  have P0 {hs q} (r:PS F X hs q):=(PS.r 11 [] [] (e72 (a0:=a0.f0) (a1:=1) (a2:=12)) r)
  by_cases h0:(m72 a0.f0 1 12)=true
  · try simp only[if_pos h0]
    have P1 {hs q} (r:PS F X hs q):=(P0 (.f h0 (.f h0 (.f h0 (.f h0 (.f h0 (hT 14 (hT 16 (hT 18 (hT 20 (hT 22 (.r 23 [] [] (e72 (a0:=a0.f1) (a1:=0) (a2:=1000)) (.f h0 (hT 25 r))))))))))))))
    by_cases h1:(m72 a0.f1 0 1000)=true
    · try simp only[if_pos h1]
      have P2 {hs q} (r:PS F X hs q):=(P1 (.f h1 (.f h1 (.f h1 (.f h1 (.f h1 (hT 28 (hT 30 (hT 32 (hT 34 (hT 36 (.r 37 [] [] (e66 (a0:=a0.f5)) (.f h1 (hT 39 r))))))))))))))
      by_cases h2:(m72 a0.f5 0 1000000)=true
      · try simp only[if_pos h2]
        have P3 {hs q} (r:PS F X hs q):=(P2 (.f h2 (.f h2 (.f h2 (.f h2 (.f h2 (hT 42 (hT 44 (hT 46 (hT 48 (hT 50 (.r 51 [] [] (e66 (a0:=a0.f6)) (.f h2 (hT 53 r))))))))))))))
        by_cases h3:(m72 a0.f6 0 1000000)=true
        · try simp only[if_pos h3]
          exact cp ya (P3 (.f h3 (.f h3 (.f h3 (.f h3 (.f h3 (hT 56 (hT 58 (hT 60 (hT 62 (hT 64 (.r 65 [] [] (e66 (a0:=a0.f7)) (.f h3 (hT 67 .nil))))))))))))))
        try simp only[if_neg h3]
        exact cp ya (P3 (N h3 (N h3 (N h3 (N h3 (N h3 (N h3 (U 56 (U 58 (U 60 (U 62 (U 64 (U 67 .nil)))))))))))))
      try simp only[if_neg h2]
      exact cp ya (P2 (N h2 (N h2 (N h2 (N h2 (N h2 (N h2 (U 42 (U 44 (U 46 (U 48 (U 50 (U 53 .nil)))))))))))))
    try simp only[if_neg h1]
    exact cp ya (P1 (N h1 (N h1 (N h1 (N h1 (N h1 (N h1 (U 28 (U 30 (U 32 (U 34 (U 36 (U 39 .nil)))))))))))))
  try simp only[if_neg h0]
  exact cp ya (P0 (N h0 (N h0 (N h0 (N h0 (N h0 (N h0 (U 14 (U 16 (U 18 (U 20 (U 22 (U 25 .nil)))))))))))))
inductive O61_0 where
  |k0 (w0:Int) (w1:Bool)
  |k1 (w0:Int)
def r61_0 (a0:(List K_si)):List K_si→Int→O61_0
  |x0::y0,i=>
    if((m78 x0) !=0)=true then(O61_0.k1 (m78 x0)) else
    (r61_0 a0 y0 (i+1))
  |[],i=>(O61_0.k0 i (decide (i <((length (map b_si a0)):Int))))
def h61_0 (l0_0:Nat) (a0:(List K_si)) (i:Int) :St:=⟨[(0,(.one (.bor l0_0 (map b_si a0)))),(3,(.one (.val (.int .i64 i))))],[]⟩
def ex61_0:O61_0→VX.Exit
  |.k0 _ _=>(.exit 0)
  |.k1 _=>.ret
def fin61_0 (l0_0:Nat) (a0:(List K_si)):O61_0→St
  |.k0 w0 w1=>⟨[(0,(.one (.bor l0_0 (map b_si a0)))),(3,(.one (.val (.int .i64 w0)))),(11,(.one (.val (.bool w1))))],[]⟩
  |.k1 w0=>⟨[(2,(.one (.val (.int .i64 w0))))],[]⟩
theorem t61_0 {l0_0:Nat} {a0:(List K_si)} (hy0:length a0*24≤140737488351232) (hy1:∀z∈a0,os_si z):∀(y0:List K_si) (p:List K_si),p++y0=a0→Ev F X (.code l61_0 (h61_0 l0_0 a0 (length p:Int)) (ex61_0 (r61_0 a0 y0 (length p:Int))) (fin61_0 l0_0 a0 (r61_0 a0 y0 (length p:Int))))
  |[],p,hp0=>by
    have hc:¬(decide ((length p:Int) <((length (map b_si a0)):Int)))=true:=by
      rw[← hp0]; simp only[LN,decide_eq_true_eq]; omega
    have st:=ch b61_0 (h61_0 l0_0 a0 (length p:Int)) ⟨[(0,(.one (.bor l0_0 (map b_si a0)))),(3,(.oi (length p:Int))),(11,(.one (.val (.bool (decide ((length p:Int) <((length (map b_si a0)):Int)))))))],[]⟩ (.exit 0) 9 (by kernel_rfl) (.f (nt hc) (U 8 .nil))
    rw[show (⟨[(0,(.one (.bor l0_0 (map b_si a0)))),(3,(.oi (length p:Int))),(11,(.one (.val (.bool (decide ((length p:Int) <((length (map b_si a0)):Int)))))))],[]⟩:St)=fin61_0 l0_0 a0 (.k0 (length p:Int) (decide ((length p:Int) <((length (map b_si a0)):Int)))) from(by rfl)] at st
    exact .loopX st (show ((.exit 0):VX.Exit)≠.normal from by simp)
  |x0::y0,p,hp0=>by
    have hc:(decide ((length p:Int) <((length (map b_si a0)):Int)))=true:=by
      rw[← hp0]; simp only[LN,decide_eq_true_eq]; omega
    have Hx0:(a0)[toNat (length p:Int)]?=some x0:=by
      rw[← hp0,Int.toNat_natCast]; simp
    have Mx0_0:=hy1 x0 (List.mem_of_getElem? Hx0)
    have hlen:length (a0)=length p+length y0+1:=by rw[← hp0]; simp; omega
    have hw:wrap .i64 ((length p:Int)+1)=(length p:Int)+1:=wrap64 (by omega)
    simp only[r61_0]
    have f1:0≤(length p:Int):=(by omega)
    have P1 {hs q} (r:PS F X hs q):=(PS.f hc (.f f1 (.f (mp_ b_si Hx0) (hT 8 (.h 14 (.row (b_si x0)) (.r 16 [] [] (e78 (l0:=(l0_0+1)) (a0:=x0) (by assumption)) r))))))
    by_cases h_1:((m78 x0) !=0)=true
    · try simp only[if_pos h_1]
      have st:=ch b61_0 (h61_0 l0_0 a0 (length p:Int)) ⟨[(2,(.oi (m78 x0)))],[]⟩ .ret 28 (by kernel_rfl) (P1 (.f h_1 (hT 23 .nil)))
      rw[show (⟨[(2,(.oi (m78 x0)))],[]⟩:St)=fin61_0 l0_0 a0 (.k1 (m78 x0)) from(by rfl)] at st
      exact .loopX st (show (.ret:VX.Exit)≠.normal from by simp)
    try simp only[if_neg h_1]
    have st:=ch b61_0 (h61_0 l0_0 a0 (length p:Int)) ⟨[(0,(.one (.bor l0_0 (map b_si a0)))),(3,(.oi (wrap .i64 ((length p:Int)+1))))],[]⟩ .normal 30 (by kernel_rfl) (P1 (.f (nt h_1) (.f trivial (U 23 .nil))))
    have ih:=t61_0 (l0_0:=l0_0) (a0:=a0) hy0 hy1 y0 (p++ [x0]) (by rw[append_assoc]; exact hp0)
    rw[show ((p++ [x0]).length:Int)=(p.length:Int)+1 from by simp] at ih
    rw[show (⟨[(0,(.one (.bor l0_0 (map b_si a0)))),(3,(.oi (wrap .i64 ((length p:Int)+1))))],[]⟩:St)=h61_0 l0_0 a0 ((length p:Int)+1)  from(by unfold h61_0; simp only[hw]; done)] at st
    exact .loopN st ih
def m61 (a0:(List K_si)):Int:=
  if(decide (((length (map b_si a0)):Int) > 12))=true then 2 else
  (match r61_0 a0 a0 0 with | .k0 w0_1 w1_1=>0 | .k1 w0_1=>w0_1)
theorem e61 {l0_0:Nat} {a0:(List K_si)} (hy0:length a0*24≤140737488351232) (hy1:∀z∈a0,os_si z):Ev F X (.call 61 [(.one (.bor l0_0 (map b_si a0)))] [] [] [(.one (.val (.int .i64 (m61 a0))))]):=by
  unfold m61
  by_cases h0:(decide (((length (map b_si a0)):Int) > 12))=true
  · try simp only[if_pos h0]
    exact cp ya (.f h0 (hT 8 .nil))
  try simp only[if_neg h0]
  cases h1:r61_0 a0 a0 0 with
  |k0 w0_1 w1_1=>
    try dsimp only
    have f1:(⟨[(0,(.one (.bor l0_0 (map b_si a0)))),(3,(.oi 0))],[]⟩:St)=h61_0 l0_0 a0 0 :=yu
    exact cp ya (N h0 (.f f1 (.f (ev_ (e:=ex61_0) (g:=(fin61_0 l0_0 a0)) h1 (t61_0 (l0_0:=l0_0) (a0:=a0) (by assumption) (by assumption) a0 []  rfl)) (U 8 (.h 11 (.loop (h61_0 l0_0 a0 0) (.exit 0) ⟨[(0,(.one (.bor l0_0 (map b_si a0)))),(3,(.oi w0_1)),(11,(.one (.val (.bool w1_1))))],[]⟩) .nil)))))
  |k1 w0_1=>
    try dsimp only
    have f1:(⟨[(0,(.one (.bor l0_0 (map b_si a0)))),(3,(.oi 0))],[]⟩:St)=h61_0 l0_0 a0 0 :=yu
    exact cp ya (N h0 (.f f1 (.f (ev_ (e:=ex61_0) (g:=(fin61_0 l0_0 a0)) h1 (t61_0 (l0_0:=l0_0) (a0:=a0) (by assumption) (by assumption) a0 []  rfl)) (U 8 (.h 11 (.loop (h61_0 l0_0 a0 0) .ret ⟨[(2,(.oi w0_1))],[]⟩) .nil)))))
theorem len12_61 (a:List K_si) (h:¬((m61 a) !=0)=true):length a≤12:=by
  unfold m61 at h
  split at h
  · simp at h
  rename_i h2
  simp only[decide_eq_true_eq,length_map] at h2
  omega
theorem wok_r61 (a:List K_si):∀(l:List K_si) (i:Int),(match r61_0 a l i with | .k0 .. =>(0:Int) | .k1 w=>w)=0→∀z∈l,1≤z.f1∧z.f1≤9999
  |[],i,_,x,hx=>by cases hx
  |y::l,i,h,x,hx=>by
    simp only[r61_0] at h
    by_cases h1:((m78 y) !=0)=true
    · simp only[if_pos h1] at h; simp[h] at h1
    simp only[if_neg h1] at h
    rcases List.mem_cons.1 hx with rfl | hx
    · have h2:m78 x=0:=by simpa using h1
      unfold m78 at h2
      split at h2
      · cases h2
      split at h2
      · cases h2
      split at h2
      · cases h2
      exact jn72 (by assumption)
    exact wok_r61 a l (i+1) h x hx
theorem wok61 (a:List K_si) (h:¬((m61 a) !=0)=true):∀z∈a,1≤z.f1∧z.f1≤9999:=by
  have h2:m61 a=0:=by simpa using h
  unfold m61 at h2
  split at h2
  · cases h2
  exact wok_r61 a a 0 h2
inductive O63_0 where
  |k0 (w0:Int) (w1:Bool)
  |k1
def r63_0 (a0:(List K_si)):List K_si→Int→O63_0
  |x0::y0,i=>
    if(x0.f0.toList==(⟨#[]⟩:ByteArray).toList)=true then(O63_0.k1) else
    if(!(m79 x0.f0))=true then(O63_0.k1) else
      if(!(m72 x0.f1 0 1000000))=true then(O63_0.k1) else
        if((m80 a0 x0.f0) !=i)=true then(O63_0.k1) else
          (r63_0 a0 y0 (i+1))
  |[],i=>(O63_0.k0 i (decide (i <((length (map b_si a0)):Int))))
def h63_0 (l0_0:Nat) (a0:(List K_si)) (i:Int) :St:=⟨[(0,(.one (.bor l0_0 (map b_si a0)))),(3,(.one (.val (.int .i64 i))))],[]⟩
def ex63_0:O63_0→VX.Exit
  |.k0 _ _=>(.exit 0)
  |.k1=>.ret
def fin63_0 (l0_0:Nat) (a0:(List K_si)):O63_0→St
  |.k0 w0 w1=>⟨[(0,(.one (.bor l0_0 (map b_si a0)))),(3,(.one (.val (.int .i64 w0)))),(7,(.one (.val (.bool w1))))],[]⟩
  |.k1=>⟨[(2,(.one (.val (.bool false))))],[]⟩
theorem t63_0 {l0_0:Nat} {a0:(List K_si)} (hy0:length a0*24≤140737488351232) (hy1:∀z∈a0,os_si z):∀(y0:List K_si) (p:List K_si),p++y0=a0→Ev F X (.code l63_0 (h63_0 l0_0 a0 (length p:Int)) (ex63_0 (r63_0 a0 y0 (length p:Int))) (fin63_0 l0_0 a0 (r63_0 a0 y0 (length p:Int))))
  |[],p,hp0=>by
    have hc:¬(decide ((length p:Int) <((length (map b_si a0)):Int)))=true:=by
      rw[← hp0]; simp only[LN,decide_eq_true_eq]; omega
    have st:=ch b63_0 (h63_0 l0_0 a0 (length p:Int)) ⟨[(0,(.one (.bor l0_0 (map b_si a0)))),(3,(.oi (length p:Int))),(7,(.one (.val (.bool (decide ((length p:Int) <((length (map b_si a0)):Int)))))))],[]⟩ (.exit 0) 9 (by kernel_rfl) (.f (nt hc) (U 8 .nil))
    rw[show (⟨[(0,(.one (.bor l0_0 (map b_si a0)))),(3,(.oi (length p:Int))),(7,(.one (.val (.bool (decide ((length p:Int) <((length (map b_si a0)):Int)))))))],[]⟩:St)=fin63_0 l0_0 a0 (.k0 (length p:Int) (decide ((length p:Int) <((length (map b_si a0)):Int)))) from(by rfl)] at st
    exact .loopX st (show ((.exit 0):VX.Exit)≠.normal from by simp)
  |x0::y0,p,hp0=>by
    have hc:(decide ((length p:Int) <((length (map b_si a0)):Int)))=true:=by
      rw[← hp0]; simp only[LN,decide_eq_true_eq]; omega
    have Hx0:(a0)[toNat (length p:Int)]?=some x0:=by
      rw[← hp0,Int.toNat_natCast]; simp
    have Mx0_0:=hy1 x0 (List.mem_of_getElem? Hx0)
    have hlen:length (a0)=length p+length y0+1:=by rw[← hp0]; simp; omega
    have hw:wrap .i64 ((length p:Int)+1)=(length p:Int)+1:=wrap64 (by omega)
    simp only[r63_0]
    have f1:0≤(length p:Int):=(by omega)
    have P1 {hs q} (r:PS F X hs q):=(PS.f hc (.f f1 (.f (mp_ b_si Hx0) (hT 8 (.h 14 (.row (b_si x0)) r)))))
    by_cases h_1:(x0.f0.toList==(⟨#[]⟩:ByteArray).toList)=true
    · try simp only[if_pos h_1]
      have st:=ch b63_0 (h63_0 l0_0 a0 (length p:Int)) ⟨[(2,(.one (.val (.bool false))))],[]⟩ .ret 82 (by kernel_rfl) (P1 (.f h_1 (.f h_1 (.f h_1 (.f h_1 (.f h_1 (.f h_1 (.f h_1 (.f h_1 (hT 23 (hT 25 (hT 27 (hT 29 (hT 31 (hT 33 (hT 35 (hT 38 .nil)))))))))))))))))
      rw[show (⟨[(2,(.one (.val (.bool false))))],[]⟩:St)=fin63_0 l0_0 a0 (.k1) from(by rfl)] at st
      exact .loopX st (show (.ret:VX.Exit)≠.normal from by simp)
    try simp only[if_neg h_1]
    have P2 {hs q} (r:PS F X hs q):=(P1 (.f (nt h_1) (.f (nt h_1) (.f (nt h_1) (.f f1 (.f (mp_ b_si Hx0) (.f (nt h_1) (.f (nt h_1) (.f (nt h_1) (U 23 (U 25 (U 27 (.h 28 (.row (b_si x0)) (U 29 (U 31 (U 33 (.r 34 [] [] (e79 (a0:=x0.f0) (by assumption)) (.f (nt h_1) (.f (nt h_1) (U 35 (U 38 r)))))))))))))))))))))
    by_cases h_2:(!(m79 x0.f0))=true
    · try simp only[if_pos h_2]
      have st:=ch b63_0 (h63_0 l0_0 a0 (length p:Int)) ⟨[(2,(.one (.val (.bool false))))],[]⟩ .ret 82 (by kernel_rfl) (P2 (.f h_2 (.f h_2 (.f h_2 (.f h_2 (.f h_2 (.f h_2 (.f h_2 (.f h_2 (hT 41 (hT 43 (hT 45 (hT 47 (hT 49 (hT 51 (hT 53 (hT 56 .nil)))))))))))))))))
      rw[show (⟨[(2,(.one (.val (.bool false))))],[]⟩:St)=fin63_0 l0_0 a0 (.k1) from(by rfl)] at st
      exact .loopX st (show (.ret:VX.Exit)≠.normal from by simp)
    try simp only[if_neg h_2]
    have P3 {hs q} (r:PS F X hs q):=(P2 (.f (nt h_2) (.f (nt h_2) (.f (nt h_2) (.f f1 (.f (mp_ b_si Hx0) (.f (nt h_2) (.f (nt h_2) (.f (nt h_2) (U 41 (U 43 (U 45 (.h 46 (.row (b_si x0)) (U 47 (U 49 (U 51 (.r 52 [] [] (e66 (a0:=x0.f1)) (.f (nt h_2) (.f (nt h_2) (U 53 (U 56 r)))))))))))))))))))))
    by_cases h_3:(!(m72 x0.f1 0 1000000))=true
    · try simp only[if_pos h_3]
      have st:=ch b63_0 (h63_0 l0_0 a0 (length p:Int)) ⟨[(2,(.one (.val (.bool false))))],[]⟩ .ret 82 (by kernel_rfl) (P3 (.f h_3 (.f h_3 (.f h_3 (.f h_3 (.f h_3 (.f h_3 (.f h_3 (.f h_3 (.f h_3 (.f h_3 (hT 59 (hT 61 (hT 63 (hT 65 (hT 67 (hT 69 (hT 71 (hT 73 (hT 75 (hT 78 .nil)))))))))))))))))))))
      rw[show (⟨[(2,(.one (.val (.bool false))))],[]⟩:St)=fin63_0 l0_0 a0 (.k1) from(by rfl)] at st
      exact .loopX st (show (.ret:VX.Exit)≠.normal from by simp)
    try simp only[if_neg h_3]
    have P4 {hs q} (r:PS F X hs q):=(P3 (.f (nt h_3) (.f (nt h_3) (.f (nt h_3) (.f (nt h_3) (.f f1 (.f (mp_ b_si Hx0) (.f (nt h_3) (.f (nt h_3) (.f (nt h_3) (U 59 (U 61 (U 63 (U 65 (.h 66 (.row (b_si x0)) (U 67 (U 69 (U 71 (.r 72 [] [] (e80 (l0_0:=(l0_0+1)) (a0:=a0) (a1:=x0.f0) ‹_›) (.f (nt h_3) (.f (nt h_3) (.f (nt h_3) (U 73 (U 75 (U 78 r)))))))))))))))))))))))))
    by_cases h_4:((m80 a0 x0.f0) !=(length p:Int))=true
    · try simp only[if_pos h_4]
      have st:=ch b63_0 (h63_0 l0_0 a0 (length p:Int)) ⟨[(2,(.one (.val (.bool false))))],[]⟩ .ret 82 (by kernel_rfl) (P4 (.f h_4 (hT 79 .nil)))
      rw[show (⟨[(2,(.one (.val (.bool false))))],[]⟩:St)=fin63_0 l0_0 a0 (.k1) from(by rfl)] at st
      exact .loopX st (show (.ret:VX.Exit)≠.normal from by simp)
    try simp only[if_neg h_4]
    have st:=ch b63_0 (h63_0 l0_0 a0 (length p:Int)) ⟨[(0,(.one (.bor l0_0 (map b_si a0)))),(3,(.oi (wrap .i64 ((length p:Int)+1))))],[]⟩ .normal 86 (by kernel_rfl) (P4 (.f (nt h_4) (.f trivial (U 79 .nil))))
    have ih:=t63_0 (l0_0:=l0_0) (a0:=a0) hy0 hy1 y0 (p++ [x0]) (by rw[append_assoc]; exact hp0)
    rw[show ((p++ [x0]).length:Int)=(p.length:Int)+1 from by simp] at ih
    rw[show (⟨[(0,(.one (.bor l0_0 (map b_si a0)))),(3,(.oi (wrap .i64 ((length p:Int)+1))))],[]⟩:St)=h63_0 l0_0 a0 ((length p:Int)+1)  from(by unfold h63_0; simp only[hw]; done)] at st
    exact .loopN st ih
def m63 (a0:(List K_si)):Bool:=
  (match r63_0 a0 a0 0 with | .k0 w0_0 w1_0=>true | .k1=>false)
theorem e63 {l0_0:Nat} {a0:(List K_si)} (hy0:length a0*24≤140737488351232) (hy1:∀z∈a0,os_si z):Ev F X (.call 63 [(.one (.bor l0_0 (map b_si a0)))] [] [] [(.one (.val (.bool (m63 a0))))]):=by
  unfold m63
  cases h0:r63_0 a0 a0 0 with
  |k0 w0_0 w1_0=>
    try dsimp only
    have f0:(⟨[(0,(.one (.bor l0_0 (map b_si a0)))),(3,(.oi 0))],[]⟩:St)=h63_0 l0_0 a0 0 :=yu
    exact cp ya (.f f0 (.f (ev_ (e:=ex63_0) (g:=(fin63_0 l0_0 a0)) h0 (t63_0 (l0_0:=l0_0) (a0:=a0) (by assumption) (by assumption) a0 []  rfl)) (.h 4 (.loop (h63_0 l0_0 a0 0) (.exit 0) ⟨[(0,(.one (.bor l0_0 (map b_si a0)))),(3,(.oi w0_0)),(7,(.one (.val (.bool w1_0))))],[]⟩) .nil)))
  |k1=>
    try dsimp only
    have f0:(⟨[(0,(.one (.bor l0_0 (map b_si a0)))),(3,(.oi 0))],[]⟩:St)=h63_0 l0_0 a0 0 :=yu
    exact cp ya (.f f0 (.f (ev_ (e:=ex63_0) (g:=(fin63_0 l0_0 a0)) h0 (t63_0 (l0_0:=l0_0) (a0:=a0) (by assumption) (by assumption) a0 []  rfl)) (.h 4 (.loop (h63_0 l0_0 a0 0) .ret ⟨[(2,(.one (.val (.bool false))))],[]⟩) .nil)))
def m62 (a0:(List K_R)) (a1:Int):Int:=
  if(!(m72 ((getD a0 (toNat a1) (K_R.mk 0 0 0 [] 0)).f0) 0 2147483646))=true then 3 else
  if(!(m72 ((getD a0 (toNat a1) (K_R.mk 0 0 0 [] 0)).f1) 0 1000000))=true then 3 else
    if(!(m72 ((getD a0 (toNat a1) (K_R.mk 0 0 0 [] 0)).f2) 0 1000000))=true then 3 else
      if(!(m72 ((getD a0 (toNat a1) (K_R.mk 0 0 0 [] 0)).f4) 1 3))=true then 3 else
        if(decide (((length (map b_si ((getD a0 (toNat a1) (K_R.mk 0 0 0 [] 0)).f3))):Int) > 12))=true then 1 else
          if(!(m63 ((getD a0 (toNat a1) (K_R.mk 0 0 0 [] 0)).f3)))=true then 1 else
            if((wrap .i64 ((m64 ((getD a0 (toNat a1) (K_R.mk 0 0 0 [] 0)).f3))+((getD a0 (toNat a1) (K_R.mk 0 0 0 [] 0)).f2))) !=((getD a0 (toNat a1) (K_R.mk 0 0 0 [] 0)).f1))=true then 1 else
              if(decide ((m67 (take (toNat a1) a0) ((getD a0 (toNat a1) (K_R.mk 0 0 0 [] 0)).f0))≥0))=true then 6 else
                0
theorem e62 {l0_0:Nat} {a0:(List K_R)} {a1:Int} (hy0:length a0*56≤140737488351232) (hy1:∀z∈a0,os_R z) (hy2:0≤a1) (hy3:a1 <(length a0:Int)):Ev F X (.call 62 [(.one (.bor l0_0 (map b_R a0))),(.one (.val (.int .i64 a1)))] [] [] [(.one (.val (.int .i64 (m62 a0 a1))))]):=by
  unfold m62
  have f0:0≤a1:=‹_›
  have P0 {hs q} (r:PS F X hs q):=(PS.f f0 (.f (mp_ b_R (getD_at a0 (toNat a1) (K_R.mk 0 0 0 [] 0) yd)) (.h 7 (.row (b_R (getD a0 (toNat a1) (K_R.mk 0 0 0 [] 0)))) (.r 19 [] [] (e70 (a0:=((getD a0 (toNat a1) (K_R.mk 0 0 0 [] 0)).f0))) r))))
  by_cases h0:(!(m72 ((getD a0 (toNat a1) (K_R.mk 0 0 0 [] 0)).f0) 0 2147483646))=true
  · try simp only[if_pos h0]
    exact cp ya (P0 (.f h0 (.f h0 (.f h0 (.f h0 (.f h0 (.f h0 (.f h0 (hT 24 (hT 26 (hT 28 (hT 30 (hT 32 (hT 34 (hT 37 .nil)))))))))))))))
  try simp only[if_neg h0]
  have P1 {hs q} (r:PS F X hs q):=(P0 (N h0 (N h0 (N h0 (N h0 (N h0 (U 24 (U 26 (U 28 (U 30 (U 32 (.r 33 [] [] (e66 (a0:=((getD a0 (toNat a1) (K_R.mk 0 0 0 [] 0)).f1))) (N h0 (N h0 (U 34 (U 37 r))))))))))))))))
  by_cases h1:(!(m72 ((getD a0 (toNat a1) (K_R.mk 0 0 0 [] 0)).f1) 0 1000000))=true
  · try simp only[if_pos h1]
    exact cp ya (P1 (.f h1 (.f h1 (.f h1 (.f h1 (.f h1 (.f h1 (.f h1 (hT 40 (hT 42 (hT 44 (hT 46 (hT 48 (hT 50 (hT 53 .nil)))))))))))))))
  try simp only[if_neg h1]
  have P2 {hs q} (r:PS F X hs q):=(P1 (N h1 (N h1 (N h1 (N h1 (N h1 (U 40 (U 42 (U 44 (U 46 (U 48 (.r 49 [] [] (e66 (a0:=((getD a0 (toNat a1) (K_R.mk 0 0 0 [] 0)).f2))) (N h1 (N h1 (U 50 (U 53 r))))))))))))))))
  by_cases h2:(!(m72 ((getD a0 (toNat a1) (K_R.mk 0 0 0 [] 0)).f2) 0 1000000))=true
  · try simp only[if_pos h2]
    exact cp ya (P2 (.f h2 (.f h2 (.f h2 (.f h2 (.f h2 (.f h2 (.f h2 (hT 56 (hT 58 (hT 60 (hT 62 (hT 64 (hT 66 (hT 69 .nil)))))))))))))))
  try simp only[if_neg h2]
  have P3 {hs q} (r:PS F X hs q):=(P2 (N h2 (N h2 (N h2 (N h2 (N h2 (U 56 (U 58 (U 60 (U 62 (U 64 (.r 65 [] [] (e72 (a0:=((getD a0 (toNat a1) (K_R.mk 0 0 0 [] 0)).f4)) (a1:=1) (a2:=3)) (N h2 (N h2 (U 66 (U 69 r))))))))))))))))
  by_cases h3:(!(m72 ((getD a0 (toNat a1) (K_R.mk 0 0 0 [] 0)).f4) 1 3))=true
  · try simp only[if_pos h3]
    exact cp ya (P3 (.f h3 (hT 70 .nil)))
  try simp only[if_neg h3]
  have P4 {hs q} (r:PS F X hs q):=(P3 (N h3 (U 70 r)))
  by_cases h4:(decide (((length (map b_si ((getD a0 (toNat a1) (K_R.mk 0 0 0 [] 0)).f3))):Int) > 12))=true
  · try simp only[if_pos h4]
    exact cp ya (P4 (.f h4 (.f h4 (.f h4 (.f h4 (.f h4 (.f h4 (.f h4 (hT 85 (hT 87 (hT 89 (hT 91 (hT 93 (hT 95 (hT 98 .nil)))))))))))))))
  try simp only[if_neg h4]
  have P5 {hs q} (r:PS F X hs q):=(P4 (N h4 (N h4 (N h4 (N h4 (N h4 (U 85 (U 87 (U 89 (U 91 (U 93 (.r 94 [] [] (e63 (l0_0:=(l0_0+1)) (a0:=((getD a0 (toNat a1) (K_R.mk 0 0 0 [] 0)).f3)) yr yr) (N h4 (N h4 (U 95 (U 98 r))))))))))))))))
  by_cases h5:(!(m63 ((getD a0 (toNat a1) (K_R.mk 0 0 0 [] 0)).f3)))=true
  · try simp only[if_pos h5]
    exact cp ya (P5 (.f h5 (.f h5 (.f h5 (.f h5 (.f h5 (.f h5 (.f h5 (.f h5 (.f h5 (.f h5 (.f h5 (.f h5 (.f h5 (.f h5 (.f h5 (.f h5 (hT 101 (hT 103 (hT 105 (hT 107 (hT 109 (hT 111 (hT 113 (hT 115 (hT 117 (hT 119 (hT 121 (hT 123 (hT 125 (hT 127 (hT 129 (hT 132 .nil)))))))))))))))))))))))))))))))))
  try simp only[if_neg h5]
  have P6 {hs q} (r:PS F X hs q):=(P5 (N h5 (N h5 (N h5 (N h5 (N h5 (U 101 (U 103 (U 105 (U 107 (U 109 (.r 110 [] [] (e64 (l0_0:=(l0_0+1)) (a0:=((getD a0 (toNat a1) (K_R.mk 0 0 0 [] 0)).f3)) yr) (N h5 (N h5 (N h5 (N h5 (N h5 (.f trivial (N h5 (N h5 (N h5 (N h5 (N h5 (N h5 (U 111 (U 113 (U 115 (U 117 (U 119 (U 121 (U 123 (U 125 (U 127 (U 129 (U 132 r)))))))))))))))))))))))))))))))))))
  by_cases h6:((wrap .i64 ((m64 ((getD a0 (toNat a1) (K_R.mk 0 0 0 [] 0)).f3))+((getD a0 (toNat a1) (K_R.mk 0 0 0 [] 0)).f2))) !=((getD a0 (toNat a1) (K_R.mk 0 0 0 [] 0)).f1))=true
  · try simp only[if_pos h6]
    exact cp ya (P6 (.f h6 (hT 133 .nil)))
  try simp only[if_neg h6]
  have f55:(0≤(0:Int)∧(0:Int)≤a1∧a1≤((length (map b_R a0)):Int))∧∀r∈((map b_R a0):List (List B)),r.length=5:=(by refine⟨?_,lenB_R _⟩; simp only[LN]; omega)
  have f56:Ev F X (.call 67 [(.one (.bor (l0_0+1) (take (toNat a1 - toNat 0) (drop 0 (map b_R a0))))),(.oi ((getD a0 (toNat a1) (K_R.mk 0 0 0 [] 0)).f0))] [] [] [(.oi (m67 (take (toNat a1) a0) ((getD a0 (toNat a1) (K_R.mk 0 0 0 [] 0)).f0)))]):=(by rw[show (take (toNat a1 - toNat 0) (drop 0 (map b_R a0)))=(map b_R (take (toNat a1) a0)) from by first | rfl |(simp[map_take,map_drop]; done) |(simp[byteRows_eq,map_take,map_drop]; done) |(simp[*,map_take,map_drop]; done) |(rw[take_of_length_le (by simp only[length_drop,length_take,length_map,Int.toNat_natCast]; omega)]; simp only[← map_drop,← map_take])]; exact(e67 (l0_0:=(l0_0+1)) (a0:=(take (toNat a1) a0)) (a1:=((getD a0 (toNat a1) (K_R.mk 0 0 0 [] 0)).f0)) (by simp only[length_take]; omega) (by intro z hz; exact os_ok_R z ((by assumption:∀z∈_,os_R z) z (List.mem_of_mem_take hz)))))
  by_cases h7:(decide ((m67 (take (toNat a1) a0) ((getD a0 (toNat a1) (K_R.mk 0 0 0 [] 0)).f0))≥0))=true
  · try simp only[if_pos h7]
    exact cp ya (P6 (N h6 (.f f55 (U 133 (.r 149 [] [] f56 (.f h7 (hT 152 .nil)))))))
  try simp only[if_neg h7]
  exact cp ya (P6 (N h6 (.f f55 (U 133 (.r 149 [] [] f56 (N h7 (U 152 .nil)))))))
inductive O36_0 where
  |k0 (w0:Int) (w1:Bool)
  |k1 (w0:Int)
def r36_0 (a0:K_B):List K_R→Int→O36_0
  |x0::y0,i=>
    if((m62 a0.f3 i) !=0)=true then(O36_0.k1 (m62 a0.f3 i)) else
    (r36_0 a0 y0 (i+1))
  |[],i=>(O36_0.k0 i (decide (i <((length (map b_R a0.f3)):Int))))
def h36_0 (l0:Nat) (a0:K_B) (i:Int) :St:=⟨[(0,(.bptr l0 (b_B a0))),(4,(.one (.val (.int .i64 i))))],[]⟩
def ex36_0:O36_0→VX.Exit
  |.k0 _ _=>(.exit 0)
  |.k1 _=>.ret
def fin36_0 (l0:Nat) (a0:K_B):O36_0→St
  |.k0 w0 w1=>⟨[(0,(.bptr l0 (b_B a0))),(4,(.one (.val (.int .i64 w0)))),(49,(.one (.val (.bool w1))))],[]⟩
  |.k1 w0=>⟨[(2,(.one (.val (.int .i64 w0))))],[]⟩
theorem t36_0 {l0:Nat} {a0:K_B} (hy0:length a0.f2*24≤140737488351232) (hy1:∀z∈a0.f2,os_si z) (hy2:length a0.f3*56≤140737488351232) (hy3:∀z∈a0.f3,os_R z) (hy4:length a0.f4*24≤140737488351232) (hy5:∀z∈a0.f4,os_si z):∀(y0:List K_R) (p:List K_R),p++y0=a0.f3→Ev F X (.code l36_0 (h36_0 l0 a0 (length p:Int)) (ex36_0 (r36_0 a0 y0 (length p:Int))) (fin36_0 l0 a0 (r36_0 a0 y0 (length p:Int))))
  |[],p,hp0=>by
    have hc:¬(decide ((length p:Int) <((length (map b_R a0.f3)):Int)))=true:=by
      rw[← hp0]; simp only[LN,decide_eq_true_eq]; omega
    have st:=ch b36_0 (h36_0 l0 a0 (length p:Int)) ⟨[(0,(.bptr l0 (b_B a0))),(4,(.oi (length p:Int))),(49,(.one (.val (.bool (decide ((length p:Int) <((length (map b_R a0.f3)):Int)))))))],[]⟩ (.exit 0) 15 (by kernel_rfl) (.f (nt hc) (U 14 .nil))
    rw[show (⟨[(0,(.bptr l0 (b_B a0))),(4,(.oi (length p:Int))),(49,(.one (.val (.bool (decide ((length p:Int) <((length (map b_R a0.f3)):Int)))))))],[]⟩:St)=fin36_0 l0 a0 (.k0 (length p:Int) (decide ((length p:Int) <((length (map b_R a0.f3)):Int)))) from(by rfl)] at st
    exact .loopX st (show ((.exit 0):VX.Exit)≠.normal from by simp)
  |x0::y0,p,hp0=>by
    have hc:(decide ((length p:Int) <((length (map b_R a0.f3)):Int)))=true:=by
      rw[← hp0]; simp only[LN,decide_eq_true_eq]; omega
    have Hx0:(a0.f3)[toNat (length p:Int)]?=some x0:=by
      rw[← hp0,Int.toNat_natCast]; simp
    obtain⟨Mx0_0,Mx0_1⟩:=hy3 x0 (List.mem_of_getElem? Hx0)
    have hlen:length (a0.f3)=length p+length y0+1:=by rw[← hp0]; simp; omega
    have hw:wrap .i64 ((length p:Int)+1)=(length p:Int)+1:=wrap64 (by omega)
    simp only[r36_0]
    have P1 {hs q} (r:PS F X hs q):=(PS.f hc (hT 14 (.r 26 [] [] (e62 (l0_0:=(l0+1)) (a0:=a0.f3) (a1:=(length p:Int)) ‹_› ‹_› (by omega) (by omega)) r)))
    by_cases h_1:((m62 a0.f3 (length p:Int)) !=0)=true
    · try simp only[if_pos h_1]
      have st:=ch b36_0 (h36_0 l0 a0 (length p:Int)) ⟨[(2,(.oi (m62 a0.f3 (length p:Int))))],[]⟩ .ret 38 (by kernel_rfl) (P1 (.f h_1 (hT 33 .nil)))
      rw[show (⟨[(2,(.oi (m62 a0.f3 (length p:Int))))],[]⟩:St)=fin36_0 l0 a0 (.k1 (m62 a0.f3 (length p:Int))) from(by rfl)] at st
      exact .loopX st (show (.ret:VX.Exit)≠.normal from by simp)
    try simp only[if_neg h_1]
    have st:=ch b36_0 (h36_0 l0 a0 (length p:Int)) ⟨[(0,(.bptr l0 (b_B a0))),(4,(.oi (wrap .i64 ((length p:Int)+1))))],[]⟩ .normal 40 (by kernel_rfl) (P1 (.f (nt h_1) (.f trivial (U 33 .nil))))
    have ih:=t36_0 (l0:=l0) (a0:=a0) hy0 hy1 hy2 hy3 hy4 hy5 y0 (p++ [x0]) (by rw[append_assoc]; exact hp0)
    rw[show ((p++ [x0]).length:Int)=(p.length:Int)+1 from by simp] at ih
    rw[show (⟨[(0,(.bptr l0 (b_B a0))),(4,(.oi (wrap .i64 ((length p:Int)+1))))],[]⟩:St)=h36_0 l0 a0 ((length p:Int)+1)  from(by unfold h36_0; simp only[hw]; done)] at st
    exact .loopN st ih
def m36 (a0:K_B):Int:=
  if(!(m44 a0))=true then 3 else
  if((m61 a0.f2) !=0)=true then(m61 a0.f2) else
    if(decide (((length (map b_si a0.f2)):Int) > a0.f0))=true then 2 else
      if(decide (((length (map b_R a0.f3)):Int) > 6))=true then 2 else
        if(decide (((length (map b_si a0.f4)):Int) > 8))=true then 2 else
          (match r36_0 a0 a0.f3 0 with | .k0 w0_19 w1_19=>(if(!(m63 a0.f4))=true then 1 else if((wrap .i64 ((wrap .i64 ((m64 a0.f4)+a0.f6))+a0.f5)) !=(wrap .i64 ((m65 a0.f3 true)+a0.f7)))=true then 7 else if(!(m72 (m65 a0.f3 false) 0 1000000))=true then 7 else 0) | .k1 w0_19=>w0_19)
theorem e36 {l0:Nat} {a0:K_B} (hy0:length a0.f2*24≤140737488351232) (hy1:∀z∈a0.f2,os_si z) (hy2:length a0.f3*56≤140737488351232) (hy3:∀z∈a0.f3,os_R z) (hy4:length a0.f4*24≤140737488351232) (hy5:∀z∈a0.f4,os_si z):Ev F X (.call 36 [(.bptr l0 (b_B a0))] [] [] [(.one (.val (.int .i64 (m36 a0))))]):=by
  unfold m36
  have P0 {hs q} (r:PS F X hs q):=(PS.r 5 [] [] (e44 (l0:=(l0+1)) (a0:=a0)) r)
  by_cases h0:(!(m44 a0))=true
  · try simp only[if_pos h0]
    exact cp ya (P0 (.f h0 (hT 8 .nil)))
  try simp only[if_neg h0]
  have P1 {hs q} (r:PS F X hs q):=(P0 (N h0 (U 8 (.r 18 [] [] (e61 (l0_0:=(l0+1)) (a0:=a0.f2) ‹_› ‹_›) r))))
  by_cases h1:((m61 a0.f2) !=0)=true
  · try simp only[if_pos h1]
    exact cp ya (P1 (.f h1 (hT 25 .nil)))
  try simp only[if_neg h1]
  have P2 {hs q} (r:PS F X hs q):=(P1 (N h1 (U 25 r)))
  by_cases h2:(decide (((length (map b_si a0.f2)):Int) > a0.f0))=true
  · try simp only[if_pos h2]
    exact cp ya (P2 (.f h2 (.f h2 (.f h2 (.f h2 (.f h2 (.f h2 (.f h2 (hT 48 (hT 50 (hT 52 (hT 54 (hT 56 (hT 58 (hT 61 .nil)))))))))))))))
  try simp only[if_neg h2]
  have P3 {hs q} (r:PS F X hs q):=(P2 (N h2 (N h2 (N h2 (N h2 (N h2 (N h2 (N h2 (U 48 (U 50 (U 52 (U 54 (U 56 (U 58 (U 61 r)))))))))))))))
  by_cases h3:(decide (((length (map b_R a0.f3)):Int) > 6))=true
  · try simp only[if_pos h3]
    exact cp ya (P3 (.f h3 (.f h3 (.f h3 (.f h3 (.f h3 (.f h3 (.f h3 (hT 64 (hT 66 (hT 68 (hT 70 (hT 72 (hT 74 (hT 77 .nil)))))))))))))))
  try simp only[if_neg h3]
  have P4 {hs q} (r:PS F X hs q):=(P3 (N h3 (N h3 (N h3 (N h3 (N h3 (N h3 (N h3 (U 64 (U 66 (U 68 (U 70 (U 72 (U 74 (U 77 r)))))))))))))))
  by_cases h4:(decide (((length (map b_si a0.f4)):Int) > 8))=true
  · try simp only[if_pos h4]
    exact cp ya (P4 (.f h4 (hT 78 .nil)))
  try simp only[if_neg h4]
  have P5 {hs q} (r:PS F X hs q):=(P4 (N h4 (U 78 r)))
  cases h5:r36_0 a0 a0.f3 0 with
  |k0 w0_19 w1_19=>
    try dsimp only
    have f19:(⟨[(0,(.bptr l0 (b_B a0))),(4,(.oi 0))],[]⟩:St)=h36_0 l0 a0 0 :=yu
    have P6 {hs q} (r:PS F X hs q):=(P5 (.f f19 (.f (ev_ (e:=ex36_0) (g:=(fin36_0 l0 a0)) h5 (t36_0 (l0:=l0) (a0:=a0) (by assumption) (by assumption) (by assumption) (by assumption) (by assumption) (by assumption) a0.f3 []  rfl)) (.h 81 (.loop (h36_0 l0 a0 0) (.exit 0) ⟨[(0,(.bptr l0 (b_B a0))),(4,(.oi w0_19)),(49,(.one (.val (.bool w1_19))))],[]⟩) (.r 91 [] [] (e63 (l0_0:=(l0+1)) (a0:=a0.f4) ‹_› ‹_›) r)))))
    by_cases h6:(!(m63 a0.f4))=true
    · try simp only[if_pos h6]
      exact cp ya (P6 (.f h6 (hT 94 .nil)))
    try simp only[if_neg h6]
    have P7 {hs q} (r:PS F X hs q):=(P6 (N h6 (U 94 (.r 104 [] [] (e64 (l0_0:=(l0+1)) (a0:=a0.f4) ‹_›) (.f trivial (.f trivial (.r 134 [] [] (e65 (l0_0:=(l0+1)) (a0:=a0.f3) (a1:=true) ‹_› yX) (.f trivial r))))))))
    by_cases h7:((wrap .i64 ((wrap .i64 ((m64 a0.f4)+a0.f6))+a0.f5)) !=(wrap .i64 ((m65 a0.f3 true)+a0.f7)))=true
    · try simp only[if_pos h7]
      exact cp ya (P7 (.f h7 (.f h7 (.f h7 (.f h7 (.f h7 (.f h7 (.f h7 (.f h7 (hT 149 (hT 151 (hT 153 (hT 155 (hT 157 (hT 159 (hT 161 (hT 164 .nil)))))))))))))))))
    try simp only[if_neg h7]
    have P8 {hs q} (r:PS F X hs q):=(P7 (N h7 (N h7 (N h7 (N h7 (N h7 (U 149 (U 151 (U 153 (U 155 (U 157 (.r 158 [] [] (e65 (l0_0:=(l0+1)) (a0:=a0.f3) (a1:=false) ‹_› yX) (N h7 (U 159 (.r 160 [] [] (e66 (a0:=(m65 a0.f3 false))) (N h7 (N h7 (U 161 (U 164 r)))))))))))))))))))
    by_cases h8:(!(m72 (m65 a0.f3 false) 0 1000000))=true
    · try simp only[if_pos h8]
      exact cp ya (P8 (.f h8 (hT 165 .nil)))
    try simp only[if_neg h8]
    exact cp ya (P8 (N h8 (U 165 .nil)))
  |k1 w0_19=>
    try dsimp only
    have f19:(⟨[(0,(.bptr l0 (b_B a0))),(4,(.oi 0))],[]⟩:St)=h36_0 l0 a0 0 :=yu
    exact cp ya (P5 (.f f19 (.f (ev_ (e:=ex36_0) (g:=(fin36_0 l0 a0)) h5 (t36_0 (l0:=l0) (a0:=a0) (by assumption) (by assumption) (by assumption) (by assumption) (by assumption) (by assumption) a0.f3 []  rfl)) (.h 81 (.loop (h36_0 l0 a0 0) .ret ⟨[(2,(.oi w0_19))],[]⟩) .nil))))
theorem rl62 {a:List K_R} {i:Int} (h:m62 a i=0):(getD a (toNat i) (K_R.mk 0 0 0 [] 0)).f3.length≤12:=by
  unfold m62 at h
  simp only[length_map] at h
  by_cases c:((getD a (toNat i) (K_R.mk 0 0 0 [] 0)).f3.length:Int) > 12
  · exfalso
    simp only[c,decide_true,if_true] at h
    (repeat' split at h)<;>simp at h
  omega
theorem rz36 (a0:K_B):∀(l:List K_R) (i:Nat),((∃u v,r36_0 a0 l i=.k0 u v)∧∀j:Nat,j < l.length→m62 a0.f3 ((i+j:Nat):Int)=0)∨(∃w,r36_0 a0 l i=.k1 w∧w≠0)
  |[],i=>.inl ⟨⟨_,_,rfl⟩,fun j hj=>by simp at hj⟩
  |x::l,i=>by
    have ih:=rz36 a0 l (i+1)
    simp only[r36_0]
    by_cases c:((m62 a0.f3 (i:Int)) !=0)=true
    · rw[if_pos c]; exact .inr ⟨_,rfl,by simpa using c⟩
    rw[if_neg c]
    rcases ih with⟨h1,h2⟩ | h
    · refine .inl ⟨h1,fun j hj=>?_⟩
      cases j with
      |zero=>simpa using c
      |succ j=>have:=h2 j (by simpa using hj); rw[← this]; congr 1; omega
    exact .inr h
theorem fs36 {a0:K_B} (h:¬((m36 a0) !=0)=true):a0.f2.length≤12∧a0.f3.length≤6∧(∀z∈a0.f3,z.f3.length≤12)∧a0.f4.length≤8:=by
  have h:m36 a0=0:=by simpa using h
  unfold m36 at h
  split at h
  · cases h
  split at h
  · rename_i h2; rw[h] at h2; simp at h2
  rename_i h2
  split at h
  · cases h
  split at h
  · cases h
  rename_i h4
  split at h
  · cases h
  rename_i h5
  simp only[length_map,decide_eq_true_eq] at h4 h5
  rcases rz36 a0 a0.f3 0 with⟨_,hz⟩ |⟨w,hw,hn⟩
  · refine⟨len12_61 _ h2,by omega,fun z hz2=>?_,by omega⟩
    obtain⟨j,hj⟩:=List.getElem?_of_mem hz2
    have hlt:j < a0.f3.length:=by
      have:=List.getElem?_eq_some_iff.1 hj; exact this.1
    have:=rl62 (hz j hlt)
    rw[Nat.zero_add,Int.toNat_natCast,List.getD_eq_getElem?_getD,hj] at this
    exact this
  rw[show ((0:Nat):Int)=0 from rfl] at hw
  rw[hw] at h; exact absurd h hn
theorem fw36 {a0:K_B} (h:¬((m36 a0) !=0)=true):(∀z∈a0.f2,1≤z.f1∧z.f1≤9999)∧(0≤a0.f1∧a0.f1≤1000):=by
  have h:m36 a0=0:=by simpa using h
  unfold m36 at h
  split at h
  · cases h
  rename_i h1
  split at h
  · rename_i h2; rw[h] at h2; simp at h2
  rename_i h2
  refine⟨wok61 _ h2,?_⟩
  have hr:m44 a0=true:=by simpa using h1
  unfold m44 at hr
  split at hr
  · split at hr
    · rename_i h3; exact jn72 (by rw[h3]; simp)
    cases hr
  cases hr
def m13 (a0:K_B) (a1:Int):K_C:=
  if((m36 a0) !=0)=true then(K_C.mk (m36 a0) 0 0 0 ([]) ([]) ([]) 0 0 0) else
  (m38 a0 a1)
theorem e13 {l0_2:Nat} {l0_3:Nat} {l0_4:Nat} {a0:K_B} {a1:Int} (hy0:length a0.f2*24≤140737488351232) (hy1:∀z∈a0.f2,os_si z) (hy2:length a0.f3*56≤140737488351232) (hy3:∀z∈a0.f3,os_R z) (hy4:length a0.f4*24≤140737488351232) (hy5:∀z∈a0.f4,os_si z):Ev F X (.call 13 [(.agg (k_B l0_2 l0_3 l0_4 a0)),(.one (.val (.int .i64 a1)))] [] [] [(.agg (d_C (m13 a0 a1)))]):=by
  unfold m13
  have f0:fullL [(.i a0.f0),(.i a0.f1),(.bor l0_2 (map b_si a0.f2)),(.bor l0_3 (map b_R a0.f3)),(.bor l0_4 (map b_si a0.f4)),(.i a0.f5),(.i a0.f6),(.i a0.f7)]=true:=yA
  have P0 {hs q} (r:PS F X hs q):=(PS.f f0 (.r 5 [] [] (e36 (l0:=0) (a0:=a0) ‹_› ‹_› ‹_› ‹_› ‹_› ‹_›) r))
  by_cases h0:((m36 a0) !=0)=true
  · try simp only[if_pos h0]
    exact cp ya (P0 (.f h0 (hT 12 (.r 16 [] [] (e37 (a0:=(m36 a0))) (p3 ([]) ([]) ([]) (.f (pureR_si ([])) (.f (pureR_R ([])) (.f (pureR_si ([])) .nil))))))))
  try simp only[if_neg h0]
  exact cp ya (P0 (N h0 (U 12 (.r 18 [] [] (e38 (l0_2:=(l0_2+1)) (l0_3:=(l0_3+1)) (l0_4:=(l0_4+1)) (a0:=a0) (a1:=a1) yS yS yal yS yX) (p3 ((m38 a0 a1).f4) ((m38 a0 a1).f5) ((m38 a0 a1).f6) (.f (pureR_si ((m38 a0 a1).f4)) (.f (pureR_R ((m38 a0 a1).f5)) (.f (pureR_si ((m38 a0 a1).f6)) .nil))))))))
end Go.Proofs.YtihjlmgakpgkeaaGreatDoor.Ledgers
