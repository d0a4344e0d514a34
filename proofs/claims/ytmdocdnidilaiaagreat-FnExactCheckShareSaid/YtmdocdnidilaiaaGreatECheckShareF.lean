/- What the functions compute. -/
import Derived.Test.YtmdocdnidilaiaaGreatECheckShareE
import Derived.KernelRfl
namespace Go.Proofs.YtmdocdnidilaiaaGreat.CheckShare
open Go Go.Proofs.YtmdocdnidilaiaaGreat.V
set_option linter.unusedVariables false
set_option linter.unusedSimpArgs false
set_option maxRecDepth 20000
open Go.IntKind (wrap)
open Int (toNat)
open List (length_replicate length_map length_set length_append length_cons length_nil length_take length_drop take_of_length_le map_take map_drop map_set append_assoc getElem?_map map length take drop getD set)
attribute [local simp] toBR_i fullR_i pureR_i lenB_i lenD_i fromBR_i copy_i toBR_N fullR_N pureR_N lenB_N lenD_N toBR_U fullR_U pureR_U lenB_U lenD_U toBR_T fullR_T pureR_T lenB_T lenD_T toBR_J fullR_J pureR_J lenB_J lenD_J toBR_JL fullR_JL pureR_JL lenB_JL lenD_JL toBR_KY fullR_KY pureR_KY lenB_KY lenD_KY fromBR_KY copy_KY toBR_LiiiiE fullR_LiiiiE pureR_LiiiiE lenB_LiiiiE lenD_LiiiiE toBR_b fullR_b pureR_b lenB_b lenD_b fromBR_b copy_b toBR_SR fullR_SR pureR_SR lenB_SR lenD_SR toBR_G fullR_G pureR_G lenB_G lenD_G toBR_TL fullR_TL pureR_TL lenB_TL lenD_TL toBR_LiE fullR_LiE pureR_LiE lenB_LiE lenD_LiE toBR_NL fullR_NL pureR_NL lenB_NL lenD_NL toBR_UL fullR_UL pureR_UL lenB_UL lenD_UL strInts_len byteRows_len toBR_y fullR_y pureR_y lenB_y lenD_y fromBR_y copy_y toBR_LyE fullR_LyE pureR_LyE lenB_LyE lenD_LyE toBR_LLyEE fullR_LLyEE pureR_LLyEE lenB_LLyEE lenD_LLyEE
inductive O146_0 where
  |k0 (w0:List Int) (w1:Int) (w2:Int) (w3:Bool)
def r146_0 :Nat→List Int→Int→Int→O146_0
  |n+1,v0,v1,v2=>
    if(decide (v2≥0))=true then(r146_0 n (set v0 (toNat v2) (wrap .u8 (v1))) (Int.fdiv v1 (2 ^(min (toNat 8) (IntKind.bits .i64)))) (wrap .i64 (v2 - 1))) else
    (O146_0.k0 v0 v1 v2 (decide (v2≥0)))
  |0,v0,v1,v2=>(O146_0.k0 v0 v1 v2 (decide (v2≥0)))
def h146_0 (a0:Int) (a1:Int) (v0:List Int) (v1:Int) (v2:Int):St:=⟨[(0,(.one (.val (.int .i64 v1)))),(5,(.one (.ref ⟨(5,0,0),[],0,(toNat a1)⟩))),(6,(.one (.val (.int .i64 v2))))],[((5,0,0),.live ⟨1,(map d_y v0),[]⟩)]⟩
def ex146_0:O146_0→VX.Exit
  |.k0 _ _ _ _=>(.exit 0)
def fin146_0 (a0:Int) (a1:Int):O146_0→St
  |.k0 w0 w1 w2 w3=>⟨[(0,(.one (.val (.int .i64 w1)))),(5,(.one (.ref ⟨(5,0,0),[],0,(toNat a1)⟩))),(6,(.one (.val (.int .i64 w2)))),(12,(.one (.val (.bool w3))))],[((5,0,0),.live ⟨1,(map d_y w0),[]⟩)]⟩
theorem t146_0 {a0:Int} {a1:Int} (hy0:0≤a1) (hy1:a1≤1000):∀(n:Nat) (v0:List Int) (v1:Int) (v2:Int),length v0=(toNat a1)→ -1≤v2→v2 < a1→toNat (v2+1)≤n→Ev F X (.code l146_0 (h146_0 a0 a1 v0 v1 v2) (ex146_0 (r146_0 n v0 v1 v2)) (fin146_0 a0 a1 (r146_0 n v0 v1 v2)))
  |0,v0,v1,v2,hi0,hi1,hi2,hn=>by
    have hc:¬(decide (v2≥0))=true:=by first |(exact fuel64_zero hn) |(simp only[decide_eq_true_eq] at*; omega) |(simp at*; omega)
    exact lx 5 ya (.f (nt hc) (.h 4 (.b false) .nil)) rfl
  |n+1,v0,v1,v2,hi0,hi1,hi2,hn=>by
    simp only[r146_0]
    by_cases h_0:(decide (v2≥0))=true
    · try simp only[if_pos h_0]
      have f1:0+(toNat a1)≤(length (map d_y v0)):=yl
      have f2:0≤v2∧v2 <((toNat a1):Int):=yas
      have f4:(set (map d_y v0) (0+(toNat v2)) [(.val (.int .u8 (wrap .u8 (v1))))])=(map d_y (set v0 (toNat v2) (wrap .u8 (v1)))):=yq
      have f5:0≤(8:Int):=yb
      have ih:=t146_0 (a0:=a0) (a1:=a1) hy0 hy1 n (set v0 (toNat v2) (wrap .u8 (v1))) (Int.fdiv v1 (2 ^(min (toNat 8) (IntKind.bits .i64)))) (wrap .i64 (v2 - 1)) yo yC yC yC
      exact ly 30 ya (.f h_0 (.f f1 (.f f2 (.f (mz_ d_y (getD_at v0 (toNat v2) 0 yb)) (.f f4 (.f f5 (.h 4 (.b true) (.h 16 (.rowD [(.val (.int .u8 (getD v0 (toNat v2) 0)))]) (.h 17 (.norm (5,0,0) (map d_y (set v0 (toNat v2) (wrap .u8 (v1))))) .nil))))))))) ih
    · try simp only[if_neg h_0]
      exact lx 5 ya (.f (nt h_0) (.h 4 (.b false) .nil)) rfl
def post146_0 (a0:Int) (a1:Int):O146_0→Prop
  |.k0 w0 _ _ _=>length w0=toNat a1
theorem z146_0 {a0:Int} {a1:Int} (hy0:0≤a1) (hy1:a1≤1000):∀(n:Nat) (v0:List Int) (v1:Int) (v2:Int),length v0=(toNat a1)→ -1≤v2→v2 < a1→post146_0 a0 a1 (r146_0 n v0 v1 v2)
  |0,v0,v1,v2,hi0,hi1,hi2=>by
    simp only[r146_0]
    first | trivial |(show _ ; simp only[post146_0]; omega) |(simp only[post146_0] at*; omega) |(rw[wrap64 yas]; simp only[decide_eq_true_eq] at*; omega) |(simp only[decide_eq_true_eq] at*; omega)
  |n+1,v0,v1,v2,hi0,hi1,hi2=>by
    simp only[r146_0]
    by_cases h_0:(decide (v2≥0))=true
    · try simp only[if_pos h_0]
      exact z146_0 (a0:=a0) (a1:=a1) hy0 hy1 n (set v0 (toNat v2) (wrap .u8 (v1))) (Int.fdiv v1 (2 ^(min (toNat 8) (IntKind.bits .i64)))) (wrap .i64 (v2 - 1)) yo yC yC
    · try simp only[if_neg h_0]
      first | trivial |(show _ ; simp only[post146_0]; omega) |(simp only[post146_0] at*; omega) |(rw[wrap64 yas]; simp only[decide_eq_true_eq] at*; omega) |(simp only[decide_eq_true_eq] at*; omega)
def m146 (a0:Int) (a1:Int):(List Int):=
  (match r146_0 (toNat ((wrap .i64 (a1 - 1))+1)) (List.replicate (toNat a1) 0) a0 (wrap .i64 (a1 - 1)) with | .k0 w0_1 w1_1 w2_1 w3_1=>w0_1)
theorem e146 {a0:Int} {a1:Int} (hy0:0≤a1) (hy1:a1≤1000):Ev F X (.call 146 [(.one (.val (.int .i64 a0))),(.one (.val (.int .i64 a1)))] [] [] [(.one (.own 1 (map d_y (m146 a0 a1))))]):=by
  unfold m146
  have f0:0≤a1∧a1≤a1∧a1≤140737488355328∧a1*1≤140737488355328:=yb
  have f1:(List.replicate (toNat a1) [(.val (.int .u8 0))])=(map d_y (List.replicate (toNat a1) 0)):=yq
  cases h0:r146_0 (toNat ((wrap .i64 (a1 - 1))+1)) (List.replicate (toNat a1) 0) a0 (wrap .i64 (a1 - 1)) with
  |k0 w0_1 w1_1 w2_1 w3_1=>
    try dsimp only
    have zh0:=z146_0 (a0:=a0) (a1:=a1) (by assumption) (by assumption) (toNat ((wrap .i64 (a1 - 1))+1)) (List.replicate (toNat a1) 0) a0 (wrap .i64 (a1 - 1)) yM yak yak; rw[h0] at zh0; simp only[post146_0] at zh0
    have f2:=Eq.refl (h146_0 a0 a1 (List.replicate (toNat a1) 0) a0 (wrap .i64 (a1 - 1)))
    have f5:(toNat a1)=(length (map d_y w0_1)):=yl
    exact cp ya (.f f0 (.f f1 (.f f2 (.f (ev_ (e:=ex146_0) (g:=(fin146_0 a0 a1)) h0 (t146_0 (a0:=a0) (a1:=a1) (by assumption) (by assumption) (toNat ((wrap .i64 (a1 - 1))+1)) (List.replicate (toNat a1) 0) a0 (wrap .i64 (a1 - 1)) yM yak yak (Nat.le_refl _))) (pe 0 (.f f5 (.f (pureR_y w0_1) (.h 8 (.norm (5,0,0) (map d_y (List.replicate (toNat a1) 0))) (.h 15 (.loop (h146_0 a0 a1 (List.replicate (toNat a1) 0) a0 (wrap .i64 (a1 - 1))) (.exit 0) (fin146_0 a0 a1 (.k0 w0_1 w1_1 w2_1 w3_1))) .nil)))))))))
theorem high4 (a:Int):length (m146 a 4)=4:=by kernel_rfl
theorem high2 (a:Int):length (m146 a 2)=2:=by kernel_rfl
inductive O118_0 where
  |k0 (w0:List Int) (w1:Int) (w2:Bool)
def r118_0 (a0:(List Int)):List Int→Int→List Int→O118_0
  |x0::y0,i,v0=>
    (r118_0 a0 y0 (i+1) (v0++(m146 x0 4)))
  |[],i,v0=>(O118_0.k0 v0 i (decide (i <((length (map b_i a0)):Int))))
def h118_0 (l0_0:Nat) (a0:(List Int)) (i:Int) (v0:List Int):St:=⟨[(3,(.one (.ref ⟨(3,0,0),[],0,(length (map d_y v0))⟩))),(7,(.one (.bor l0_0 (map b_i a0)))),(8,(.one (.val (.int .i64 ((length (map b_i a0)):Int))))),(9,(.one (.val (.int .i64 i))))],[((3,0,0),.live ⟨1,(map d_y v0),[]⟩)]⟩
def ex118_0:O118_0→VX.Exit
  |.k0 _ _ _=>(.exit 0)
def fin118_0 (l0_0:Nat) (a0:(List Int)):O118_0→St
  |.k0 w0 w1 w2=>⟨[(3,(.one (.ref ⟨(3,0,0),[],0,(length (map d_y w0))⟩))),(7,(.one (.bor l0_0 (map b_i a0)))),(8,(.one (.val (.int .i64 ((length (map b_i a0)):Int))))),(9,(.one (.val (.int .i64 w1)))),(10,(.one (.val (.bool w2))))],[((3,0,0),.live ⟨1,(map d_y w0),[]⟩)]⟩
theorem t118_0 {l0_0:Nat} {a0:(List Int)} (hy0:length a0≤1000):∀(y0:List Int) (p:List Int) (v0:List Int),p++y0=a0→length v0+4*length y0≤4000→Ev F X (.code l118_0 (h118_0 l0_0 a0 (length p:Int) v0) (ex118_0 (r118_0 a0 y0 (length p:Int) v0)) (fin118_0 l0_0 a0 (r118_0 a0 y0 (length p:Int) v0)))
  |[],p,v0,hp0,hi0=>by
    have hc:=hcn b_i hp0
    have hj0:=hi0; try simp only[LN,Int.toNat_natCast] at hj0
    exact lx 3 ya (.f (nt hc) (.h 2 (.b false) .nil)) rfl
  |x0::y0,p,v0,hp0,hi0=>by
    have hc:=hcy b_i hp0
    have Hx0:=hxy hp0
    have hlen:=hly hp0
    have hw:wrap .i64 ((length p:Int)+1)=(length p:Int)+1:=wrap64 yb
    have hj0:=hi0; try simp only[LN,Int.toNat_natCast] at hj0
    simp only[r118_0]
    have f1:0≤(length p:Int):=yb
    have f4:0+(length (map d_y v0))≤(length (map d_y v0)):=yb
    have f5:0+(length (map d_y (m146 x0 4)))≤(length (map d_y (m146 x0 4))):=yb
    have f6:((take (length (map d_y (m146 x0 4))) (drop 0 (map d_y (m146 x0 4)))).all fun x=>x.all copyable)=true:=(ct_y _ _ _)
    have f7:(length ((take (length (map d_y v0)) (drop 0 (map d_y v0)))++(take (length (map d_y (m146 x0 4))) (drop 0 (map d_y (m146 x0 4))))))*1≤70368744177664:=yS
    have f8:∀r∈((take (length (map d_y (m146 x0 4))) (drop 0 (map d_y (m146 x0 4)))):List (List D)),r.length=1:=ye
    have f9:((take (length (map d_y v0)) (drop 0 (map d_y v0)))++(take (length (map d_y (m146 x0 4))) (drop 0 (map d_y (m146 x0 4)))))=(map d_y (v0++(m146 x0 4))):=yB
    have st:=ch b118_0 (h118_0 l0_0 a0 (length p:Int) v0) ⟨[(3,(.one (.ref ⟨(3,0,0),[],0,(length ((take (length (map d_y v0)) (drop 0 (map d_y v0)))++(take (length (map d_y (m146 x0 4))) (drop 0 (map d_y (m146 x0 4))))))⟩))),(7,(.one (.bor l0_0 (map b_i a0)))),(8,(.oi ((length (map b_i a0)):Int))),(9,(.oi (wrap .i64 ((length p:Int)+1))))],[((3,0,0),.live ⟨1,(map d_y (v0++(m146 x0 4))),[]⟩)]⟩ .normal 24 ya (.f hc (.f f1 (.f (mp_ b_i Hx0) (.h 2 (.b true) (.h 4 (.row [(.i x0)]) (.r 14 [] [] (e146 (a0:=x0) (a1:=4) yb yb) (.f f4 (.f f5 (.f f6 (.f f7 (.f f8 (.f f9 (.f trivial (.h 16 (.b true) (.h 19 (.norm (3,0,0) (map d_y (v0++(m146 x0 4)))) .nil)))))))))))))))
    have ih:=t118_0 (l0_0:=l0_0) (a0:=a0) hy0 y0 (p++ [x0]) (v0++(m146 x0 4)) yd yS
    rw[pl1] at ih
    rw[show (⟨[(3,(.one (.ref ⟨(3,0,0),[],0,(length ((take (length (map d_y v0)) (drop 0 (map d_y v0)))++(take (length (map d_y (m146 x0 4))) (drop 0 (map d_y (m146 x0 4))))))⟩))),(7,(.one (.bor l0_0 (map b_i a0)))),(8,(.oi ((length (map b_i a0)):Int))),(9,(.oi (wrap .i64 ((length p:Int)+1))))],[((3,0,0),.live ⟨1,(map d_y (v0++(m146 x0 4))),[]⟩)]⟩:St)=h118_0 l0_0 a0 ((length p:Int)+1) (v0++(m146 x0 4)) from(by unfold h118_0; simp[hw,take_of_length_le,d_y,ol112,ol83,ol84,ol51,ol21,four_len,high4,high2]; done)] at st
    exact .loopN st ih
theorem sl118 {a:List Int}:∀ {l:List Int} {i:Int} {v w:List Int} {j b},r118_0 a l i v=.k0 w j b→w.length=v.length+4*l.length
  |[],i,v,w,j,b,h=>by simp only[r118_0] at h; injection h with h; subst h; simp
  |x::l,i,v,w,j,b,h=>by
    simp only[r118_0] at h
    have q:=sl118 h
    simp only[length_append,length_cons,high4] at q⊢; omega
def m118 (a0:(List Int)):Int:=
  (match r118_0 a0 a0 0 ([]) with | .k0 w0_0 w1_0 w2_0=>(m140 w0_0))
theorem e118 {l0_0:Nat} {a0:(List Int)} (hy0:length a0≤1000):Ev F X (.call 118 [(.one (.bor l0_0 (map b_i a0)))] [] [] [(.one (.val (.int .i64 (m118 a0))))]):=by
  unfold m118
  cases h0:r118_0 a0 a0 0 ([]) with
  |k0 w0_0 w1_0 w2_0=>
    try dsimp only
    have f0:=Eq.refl (h118_0 l0_0 a0 0 ([]))
    exact cp ya (.f f0 (.f (ev_ (e:=ex118_0) (g:=(fin118_0 l0_0 a0)) h0 (t118_0 (l0_0:=l0_0) (a0:=a0) (by assumption) a0 [] ([]) rfl yS)) (ln_y w0_0 (.h 12 (.loop (h118_0 l0_0 a0 0 ([])) (.exit 0) (fin118_0 l0_0 a0 (.k0 w0_0 w1_0 w2_0))) (.r 16 [] [(map b_y w0_0)] (e140 (l0_0:=0) (a0:=w0_0) (by have q:=sl118 ‹_›; simp only[length_nil] at q; omega)) .nil)))))
def m139 (a0:(List Int)) (a1:Int):Int:=
  if(decide ((bitsV .xor .i64 a1 1) <((length (map b_i a0)):Int)))=true then(getD a0 (toNat (bitsV .xor .i64 a1 1)) 0) else
  (getD a0 (toNat a1) 0)
theorem e139 {l0_0:Nat} {a0:(List Int)} {a1:Int} (hy0:0≤a1) (hy1:a1 <(length a0:Int)) (hy2:length a0≤1000):Ev F X (.call 139 [(.one (.bor l0_0 (map b_i a0))),(.one (.val (.int .i64 a1)))] [] [] [(.one (.val (.int .i64 (m139 a0 a1))))]):=by
  unfold m139
  by_cases h0:(decide ((bitsV .xor .i64 a1 1) <((length (map b_i a0)):Int)))=true
  · try simp only[if_pos h0]
    have f1:0≤(bitsV .xor .i64 a1 1):=(by exact xor1 hy0 yb)
    exact cp ya (.f h0 (.f f1 (.f (mp_ b_i (getD_at a0 (toNat (bitsV .xor .i64 a1 1)) 0 yal)) (.h 12 (.b true) (.h 20 (.row [(.i (getD a0 (toNat (bitsV .xor .i64 a1 1)) 0))]) .nil)))))
  · try simp only[if_neg h0]
    have f1:0≤a1:=‹_›
    exact cp ya (.f (nt h0) (.f f1 (.f (mp_ b_i (getD_at a0 (toNat a1) 0 yb)) (.h 12 (.b false) (.h 18 (.row [(.i (getD a0 (toNat a1) 0))]) .nil)))))
inductive O107_0 where
  |k0 (w0:List Int) (w1:Int) (w2:Bool)
def r107_0 (a0:(List Int)):Nat→List Int→Int→O107_0
  |n+1,v0,v2=>
    if(decide (v2 <((length (map b_i a0)):Int)))=true then(r107_0 a0 n (v0++([(m118 [(getD a0 (toNat v2) 0),(m139 a0 v2)])])) (wrap .i64 (v2+2))) else
    (O107_0.k0 v0 v2 (decide (v2 <((length (map b_i a0)):Int))))
  |0,v0,v2=>(O107_0.k0 v0 v2 (decide (v2 <((length (map b_i a0)):Int))))
def h107_0 (l0_0:Nat) (a0:(List Int)) (v0:List Int) (v2:Int):St:=⟨[(0,(.one (.bor l0_0 (map b_i a0)))),(3,(.one (.ref ⟨(3,0,0),[],0,(length (map d_i v0))⟩))),(4,(.one (.val (.int .i64 v2))))],[((3,0,0),.live ⟨1,(map d_i v0),[]⟩)]⟩
def ex107_0:O107_0→VX.Exit
  |.k0 _ _ _=>(.exit 0)
def fin107_0 (l0_0:Nat) (a0:(List Int)):O107_0→St
  |.k0 w0 w1 w2=>⟨[(0,(.one (.bor l0_0 (map b_i a0)))),(3,(.one (.ref ⟨(3,0,0),[],0,(length (map d_i w0))⟩))),(4,(.one (.val (.int .i64 w1)))),(9,(.one (.val (.bool w2))))],[((3,0,0),.live ⟨1,(map d_i w0),[]⟩)]⟩
theorem t107_0 {l0_0:Nat} {a0:(List Int)} (hy0:length a0≤1000):∀(n:Nat) (v0:List Int) (v2:Int),0≤v2→v2≤(length a0:Int)+1→2*(length v0:Int)=v2→toNat ((length a0:Int) - v2)≤n→Ev F X (.code l107_0 (h107_0 l0_0 a0 v0 v2) (ex107_0 (r107_0 a0 n v0 v2)) (fin107_0 l0_0 a0 (r107_0 a0 n v0 v2)))
  |0,v0,v2,hi0,hi1,hi2,hn=>by
    have hc:¬(decide (v2 <((length (map b_i a0)):Int)))=true:=by first |(exact fuel64_zero hn) |(simp only[decide_eq_true_eq] at*; omega) |(simp at*; omega)
    exact lx 9 ya (.f (nt hc) (.h 8 (.b false) .nil)) rfl
  |n+1,v0,v2,hi0,hi1,hi2,hn=>by
    simp only[r107_0]
    by_cases h_0:(decide (v2 <((length (map b_i a0)):Int)))=true
    · try simp only[if_pos h_0]
      have f1:0≤v2:=‹_›
      have f4:2≤2:=yb
      have f5:fullR (take 2 (drop 0 [[(.i (getD a0 (toNat v2) 0))],[(.i (m139 a0 v2))]]))=true:=yE
      have f6:toBR (take 2 (drop 0 [[(.i (getD a0 (toNat v2) 0))],[(.i (m139 a0 v2))]]))=[[(.i (getD a0 (toNat v2) 0))],[(.i (m139 a0 v2))]]:=yE
      have f8:0+(length (map d_i v0))≤(length (map d_i v0)):=yb
      have f9:1≤1:=yb
      have f10:((take 1 (drop 0 [[(.i (m118 [(getD a0 (toNat v2) 0),(m139 a0 v2)]))]])).all fun x=>x.all copyable)=true:=(by assumption)
      have f11:(length ((take (length (map d_i v0)) (drop 0 (map d_i v0)))++([[(.i (m118 [(getD a0 (toNat v2) 0),(m139 a0 v2)]))]]:List (List D))))*8≤70368744177664:=yp
      have f12:∀r∈([[(.i (m118 [(getD a0 (toNat v2) 0),(m139 a0 v2)]))]]:List (List D)),r.length=1:=(by unfold m118 m139;(repeat' split)<;>simp_all<;>omega)
      have f13:((take (length (map d_i v0)) (drop 0 (map d_i v0)))++([[(.i (m118 [(getD a0 (toNat v2) 0),(m139 a0 v2)]))]]:List (List D)))=(map d_i (v0++([(m118 [(getD a0 (toNat v2) 0),(m139 a0 v2)])]))):=yai
      have st:=ch b107_0 (h107_0 l0_0 a0 v0 v2) ⟨[(0,(.one (.bor l0_0 (map b_i a0)))),(3,(.one (.ref ⟨(3,0,0),[],0,(length ((take (length (map d_i v0)) (drop 0 (map d_i v0)))++([[(.i (m118 [(getD a0 (toNat v2) 0),(m139 a0 v2)]))]]:List (List D))))⟩))),(4,(.oi (wrap .i64 (v2+2))))],[((3,0,0),.live ⟨1,(map d_i (v0++([(m118 [(getD a0 (toNat v2) 0),(m139 a0 v2)])]))),[]⟩)]⟩ .normal 42 ya (.f h_0 (.f f1 (.f (mp_ b_i (getD_at a0 (toNat v2) 0 yp)) (.h 8 (.b true) (.h 16 (.row [(.i (getD a0 (toNat v2) 0))]) (.r 24 [] [] (e139 (l0_0:=(l0_0+1)) (a0:=a0) (a1:=v2) ‹_› yp ‹_›) (.f f4 (.f f5 (.f f6 (.r 28 [] [[[(.i (getD a0 (toNat v2) 0))],[(.i (m139 a0 v2))]]] (e118 (l0_0:=0) (a0:=[(getD a0 (toNat v2) 0),(m139 a0 v2)]) yp) (.f f8 (.f f9 (.f f10 (.f f11 (.f f12 (.f f13 (.f trivial (.h 32 (.b true) (.h 35 (.norm (3,0,0) (map d_i (v0++([(m118 [(getD a0 (toNat v2) 0),(m139 a0 v2)])])))) .nil)))))))))))))))))))
      have ih:=t107_0 (l0_0:=l0_0) (a0:=a0) hy0 n (v0++([(m118 [(getD a0 (toNat v2) 0),(m139 a0 v2)])])) (wrap .i64 (v2+2)) yg yg yg yg
      rw[show (⟨[(0,(.one (.bor l0_0 (map b_i a0)))),(3,(.one (.ref ⟨(3,0,0),[],0,(length ((take (length (map d_i v0)) (drop 0 (map d_i v0)))++([[(.i (m118 [(getD a0 (toNat v2) 0),(m139 a0 v2)]))]]:List (List D))))⟩))),(4,(.oi (wrap .i64 (v2+2))))],[((3,0,0),.live ⟨1,(map d_i (v0++([(m118 [(getD a0 (toNat v2) 0),(m139 a0 v2)])]))),[]⟩)]⟩:St)=h107_0 l0_0 a0 (v0++([(m118 [(getD a0 (toNat v2) 0),(m139 a0 v2)])])) (wrap .i64 (v2+2)) from(by unfold h107_0; simp[take_of_length_le,d_i,ol112,ol83,ol84,ol51,ol21,four_len,high4,high2]; done)] at st
      exact .loopN st ih
    · try simp only[if_neg h_0]
      exact lx 9 ya (.f (nt h_0) (.h 8 (.b false) .nil)) rfl
def post107_0 (a0:(List Int)):O107_0→Prop
  |.k0 w0 _ _=>2*(length w0:Int)≤(length a0:Int)+1
theorem z107_0 {a0:(List Int)} (hy0:length a0≤1000):∀(n:Nat) (v0:List Int) (v2:Int),0≤v2→v2≤(length a0:Int)+1→2*(length v0:Int)=v2→post107_0 a0 (r107_0 a0 n v0 v2)
  |0,v0,v2,hi0,hi1,hi2=>by
    simp only[r107_0]
    first | trivial |(show _ ; simp only[post107_0]; omega) |(simp only[post107_0] at*; omega) |(simp only[decide_eq_true_eq,length_map,length_append,length_cons,length_nil] at*; rw[wrap64 yb]; omega) |(simp; done) |(simp only[decide_eq_true_eq] at*; omega)
  |n+1,v0,v2,hi0,hi1,hi2=>by
    simp only[r107_0]
    by_cases h_0:(decide (v2 <((length (map b_i a0)):Int)))=true
    · try simp only[if_pos h_0]
      exact z107_0 (a0:=a0) hy0 n (v0++([(m118 [(getD a0 (toNat v2) 0),(m139 a0 v2)])])) (wrap .i64 (v2+2)) yg yg yg
    · try simp only[if_neg h_0]
      first | trivial |(show _ ; simp only[post107_0]; omega) |(simp only[post107_0] at*; omega) |(simp only[decide_eq_true_eq,length_map,length_append,length_cons,length_nil] at*; rw[wrap64 yb]; omega) |(simp; done) |(simp only[decide_eq_true_eq] at*; omega)
def m107 (a0:(List Int)):(List Int):=
  (match r107_0 a0 (toNat ((length a0:Int) - 0)) ([]) 0 with | .k0 w0_0 w1_0 w2_0=>w0_0)
theorem e107 {l0_0:Nat} {a0:(List Int)} (hy0:length a0≤1000):Ev F X (.call 107 [(.one (.bor l0_0 (map b_i a0)))] [] [] [(.one (.own 1 (map d_i (m107 a0))))]):=by
  unfold m107
  cases h0:r107_0 a0 (toNat ((length a0:Int) - 0)) ([]) 0 with
  |k0 w0_0 w1_0 w2_0=>
    try dsimp only
    have zh0:=z107_0 (a0:=a0) (by assumption) (toNat ((length a0:Int) - 0)) ([]) 0 yb yb (by rfl); rw[h0] at zh0; simp only[post107_0] at zh0
    have f0:=Eq.refl (h107_0 l0_0 a0 ([]) 0)
    exact cp ya (.f f0 (.f (ev_ (e:=ex107_0) (g:=(fin107_0 l0_0 a0)) h0 (t107_0 (l0_0:=l0_0) (a0:=a0) (by assumption) (toNat ((length a0:Int) - 0)) ([]) 0 yb yb (by rfl) (Nat.le_refl _))) (pe 0 (pe (length (map d_i w0_0)) (.f (pureR_i w0_0) (.h 8 (.loop (h107_0 l0_0 a0 ([]) 0) (.exit 0) (fin107_0 l0_0 a0 (.k0 w0_0 w1_0 w2_0))) .nil))))))
theorem abl107 (a:List Int) (h:a.length≤1000):2*(m107 a).length≤a.length+1:=by
  have z:=z107_0 (a0:=a) h (toNat ((length a:Int) - 0)) [] 0 yb yb yay
  show 2*(match r107_0 a (toNat ((length a:Int) - 0)) [] 0 with | .k0 w _ _=>w).length≤a.length+1
  revert z
  generalize r107_0 a (toNat ((length a:Int) - 0)) [] 0=r
  intro z
  cases r with
  |k0 w0 w1 w2=>simp only[post107_0] at z; show 2*w0.length≤_; omega
theorem abr107 (a:List Int) (h:a.length≤1000):∀(k:Nat) (v:List Int) (i:Int),0≤i→i≤(a.length:Int)+1→2*(v.length:Int)=i→(a.length:Int) - i≤(k:Int)→a.length≤2*(match r107_0 a k v i with | .k0 w _ _=>w).length
  |0,v,i,h0,h1,h2,h3=>by simp only[r107_0]; omega
  |k+1,v,i,h0,h1,h2,h3=>by
    simp only[r107_0]
    by_cases c:(decide (i <((length (map b_i a)):Int)))=true
    · rw[if_pos c]
      simp only[decide_eq_true_eq,length_map] at c
      have e:wrap .i64 (i+2)=i+2:=wrap64 yb
      rw[e]
      exact abr107 a h k _ (i+2) yb yb (by simp only[length_append,length_cons,length_nil]; omega) yb
    · rw[if_neg c]
      simp only[decide_eq_true_eq,length_map] at c
      show a.length≤2*v.length
      omega
theorem abu107 (a:List Int) (h:a.length≤1000):a.length≤2*(m107 a).length:=
  abr107 a h (toNat ((length a:Int) - 0)) [] 0 yb yb yay yb
inductive O78_1 where
  |k0 (w0:Int) (w1:Bool)
  |k1
def r78_1 (c0_78_1:List Int):Nat→Int→O78_1
  |n+1,v0=>
    if (decide (v0 < ((length (map d_i c0_78_1)) : Int))) = true then (if ((getD c0_78_1 (toNat (wrap .i64 (v0 - 1))) 0) == (getD c0_78_1 (toNat v0) 0)) = true then (O78_1.k1) else
      (r78_1 c0_78_1 n (wrap .i64 (v0+2)))) else
    (O78_1.k0 v0 (decide (v0 <((length (map d_i c0_78_1)):Int))))
  |0,v0=>(O78_1.k0 v0 (decide (v0 <((length (map d_i c0_78_1)):Int))))
def h78_1 (a0:(List Int)) (c0_78_1:List Int) (v0:Int):St:=⟨[(3,(.one (.ref ⟨(3,0,0),[],0,(length (map d_i c0_78_1))⟩))),(4,(.one (.val (.int .i64 v0))))],[((3,0,0),.live ⟨1,(map d_i c0_78_1),[]⟩)]⟩
def ex78_1:O78_1→VX.Exit
  |.k0 _ _=>(.exit 2)
  |.k1=>.ret
def fin78_1 (a0:(List Int)) (c0_78_1:List Int):O78_1→St
  |.k0 w0 w1=>⟨[(3,(.one (.ref ⟨(3,0,0),[],0,(length (map d_i c0_78_1))⟩))),(4,(.one (.val (.int .i64 w0)))),(17,(.one (.val (.bool w1))))],[((3,0,0),.live ⟨1,(map d_i c0_78_1),[]⟩)]⟩
  |.k1=>⟨[(2,(.one (.val (.bool true))))],[]⟩
theorem t78_1 {a0:(List Int)} {c0_78_1:List Int} (hy0:length c0_78_1≤140737488351232):∀(n:Nat) (v0:Int),1≤v0→v0≤(length c0_78_1:Int)+2→length c0_78_1≤1000→toNat ((length c0_78_1:Int) - v0)≤n→Ev F X (.code l78_1 (h78_1 a0 c0_78_1 v0) (ex78_1 (r78_1 c0_78_1 n v0)) (fin78_1 a0 c0_78_1 (r78_1 c0_78_1 n v0)))
  |0,v0,hi0,hi1,hi2,hn=>by
    have hc:¬(decide (v0 <((length (map d_i c0_78_1)):Int)))=true:=by first |(have e1:wrap .i64 (v0+1)=v0+1:=wrap64 yb; have e0:wrap .i64 (v0 - 1)=v0 - 1:=wrap64 yb; have e2:wrap .i64 (v0+2)=v0+2:=wrap64 yb; simp only[decide_eq_true_eq,length_map,e1,e0,e2]; omega) |(exact fuel64_zero hn) |(simp only[decide_eq_true_eq] at*; omega) |(simp at*; omega)
    exact lx 9 ya (.f (nt hc) (.h 8 (.b false) .nil)) rfl
  |n+1,v0,hi0,hi1,hi2,hn=>by
    simp only[r78_1]
    by_cases h_0:(decide (v0 <((length (map d_i c0_78_1)):Int)))=true
    · try simp only[if_pos h_0]
      have f1:0+(length (map d_i c0_78_1))≤(length (map d_i c0_78_1)):=yb
      have f2:0≤(wrap .i64 (v0 - 1))∧(wrap .i64 (v0 - 1)) <((length (map d_i c0_78_1)):Int):=yc
      have f5:0≤v0∧v0 <((length (map d_i c0_78_1)):Int):=yc
      have P1 {hs q} (r:PS F X hs q):=(PS.f h_0 (.f f1 (.f f2 (.f (mz_ d_i (getD_at c0_78_1 (toNat (wrap .i64 (v0 - 1))) 0 yc)) (.f f1 (.f f5 (.f (mz_ d_i (getD_at c0_78_1 (toNat v0) 0 yc)) (.h 8 (.b true) (.h 18 (.rowD [(.i (getD c0_78_1 (toNat (wrap .i64 (v0 - 1))) 0))]) (.h 26 (.rowD [(.i (getD c0_78_1 (toNat v0) 0))]) r))))))))))
      by_cases h_1:((getD c0_78_1 (toNat (wrap .i64 (v0 - 1))) 0)==(getD c0_78_1 (toNat v0) 0))=true
      · try simp only[if_pos h_1]
        exact lx 32 ya (P1 (.f h_1 (.h 29 (.b true) .nil))) rfl
      · try simp only[if_neg h_1]
        have ih:=t78_1 (a0:=a0) (c0_78_1:=c0_78_1) hy0 n (wrap .i64 (v0+2)) yc yc (by assumption) yc
        exact ly 36 ya (P1 (.f (nt h_1) (.f trivial (.h 29 (.b false) .nil)))) ih
    · try simp only[if_neg h_0]
      exact lx 9 ya (.f (nt h_0) (.h 8 (.b false) .nil)) rfl
inductive O78_0 where
  |k0 (w0:List Int) (w1:Bool)
  |k1
def r78_0 :Nat→List Int→O78_0
  |n+1,v0=>
    if(decide (((length (map d_i v0)):Int) > 1))=true then(match r78_1 v0 (toNat ((length v0:Int) - 1)) 1 with | .k0 w0_1 w1_1=>(r78_0 n (m107 v0)) | .k1=>(O78_0.k1)) else
    (O78_0.k0 v0 (decide (((length (map d_i v0)):Int) > 1)))
  |0,v0=>(O78_0.k0 v0 (decide (((length (map d_i v0)):Int) > 1)))
def h78_0 (a0:(List Int)) (v0:List Int):St:=⟨[(3,(.one (.ref ⟨(3,0,0),[],0,(length (map d_i v0))⟩)))],[((3,0,0),.live ⟨1,(map d_i v0),[]⟩)]⟩
def ex78_0:O78_0→VX.Exit
  |.k0 _ _=>(.exit 0)
  |.k1=>.ret
def fin78_0 (a0:(List Int)):O78_0→St
  |.k0 w0 w1=>⟨[(3,(.one (.ref ⟨(3,0,0),[],0,(length (map d_i w0))⟩))),(11,(.one (.val (.bool w1))))],[((3,0,0),.live ⟨1,(map d_i w0),[]⟩)]⟩
  |.k1=>⟨[(2,(.one (.val (.bool true))))],[]⟩
theorem t78_0 {a0:(List Int)} (hy0:length a0≤1000):∀(n:Nat) (v0:List Int),length v0≤1000→length v0≤n→Ev F X (.code l78_0 (h78_0 a0 v0) (ex78_0 (r78_0 n v0)) (fin78_0 a0 (r78_0 n v0)))
  |0,v0,hi0,hn=>by
    have hc:¬(decide (((length (map d_i v0)):Int) > 1))=true:=by first |(simp only[decide_eq_true_eq,length_map]; omega) |(exact fuel64_zero hn) |(simp only[decide_eq_true_eq] at*; omega) |(simp at*; omega)
    exact lx 7 ya (.f (nt hc) (.h 6 (.b false) .nil)) rfl
  |n+1,v0,hi0,hn=>by
    simp only[r78_0]
    by_cases h_0:(decide (((length (map d_i v0)):Int) > 1))=true
    · try simp only[if_pos h_0]
      cases h_1:r78_1 v0 (toNat ((length v0:Int) - 1)) 1 with
      |k0 w0_1 w1_1=>
        try dsimp only
        have f1:=Eq.refl (h78_1 a0 v0 1)
        have ih:=t78_0 (a0:=a0) hy0 n (m107 v0) (by have q:=abl107 v0 yb; omega) (by have q:=abl107 v0 yb; simp only[decide_eq_true_eq,length_map] at h_0; omega)
        exact ly 16 ya (.f h_0 (.f f1 (.f (ev_ (e:=ex78_1) (g:=(fin78_1 a0 v0)) h_1 (t78_1 (a0:=a0) (c0_78_1:=v0) yb (toNat ((length v0:Int) - 1)) 1 yb yb yb (Nat.le_refl _))) (ln_i v0 (.h 6 (.b true) (.h 9 (.loop (h78_1 a0 v0 1) (.exit 2) (fin78_1 a0 v0 (.k0 w0_1 w1_1))) (.r 13 [] [(map b_i v0)] (e107 (l0_0:=0) (a0:=v0) ‹_›) (pe 0 (pe (length (map d_i (m107 v0))) .nil))))))))) ih
      |k1=>
        try dsimp only
        have f1:=Eq.refl (h78_1 a0 v0 1)
        exact lx 10 ya (.f h_0 (.f f1 (.f (ev_ (e:=ex78_1) (g:=(fin78_1 a0 v0)) h_1 (t78_1 (a0:=a0) (c0_78_1:=v0) yb (toNat ((length v0:Int) - 1)) 1 yb yb yb (Nat.le_refl _))) (.h 6 (.b true) (.h 9 (.loop (h78_1 a0 v0 1) .ret (fin78_1 a0 v0 (.k1))) .nil))))) rfl
    · try simp only[if_neg h_0]
      exact lx 7 ya (.f (nt h_0) (.h 6 (.b false) .nil)) rfl
def m78 (a0:(List Int)):Bool:=
  if((m106 a0) !=0)=true then false else
  (match r78_0 (length a0) a0 with | .k0 w0_2 w1_2=>false | .k1=>true)
theorem e78 {a0:(List Int)} (hy0:length a0≤1000):Ev F X (.call 78 [(.one (.ref ⟨(0,0,0),[],0,(length (map d_i a0))⟩))] [((0,0,0),⟨1,(map d_i a0),[]⟩)] [] [(.one (.val (.bool (m78 a0))))]):=by
  unfold m78
  have P0 {hs q} (r:PS F X hs q):=(ln_i a0 (.r 5 [] [(map b_i a0)] (e106 (l0_0:=0) (a0:=a0) yb) r))
  by_cases h0:((m106 a0) !=0)=true
  · try simp only[if_pos h0]
    exact cq [] ya (P0 (.f h0 (.h 8 (.b true) .nil)))
  · try simp only[if_neg h0]
    have P1 {hs q} (r:PS F X hs q):=(P0 (.f (nt h0) (pe 0 (pe (length (map d_i a0)) (.h 8 (.b false) r)))))
    cases h1:r78_0 (length a0) a0 with
    |k0 w0_2 w1_2=>
      try dsimp only
      have f7:=Eq.refl (h78_0 a0 a0)
      exact cq [] ya (P1 (.f f7 (.f (ev_ (e:=ex78_0) (g:=(fin78_0 a0)) h1 (t78_0 (a0:=a0) (by assumption) (length a0) a0 yb (Nat.le_refl _))) (.h 13 (.loop (h78_0 a0 a0) (.exit 0) (fin78_0 a0 (.k0 w0_2 w1_2))) .nil))))
    |k1=>
      try dsimp only
      have f7:=Eq.refl (h78_0 a0 a0)
      exact cq [] ya (P1 (.f f7 (.f (ev_ (e:=ex78_0) (g:=(fin78_0 a0)) h1 (t78_0 (a0:=a0) (by assumption) (length a0) a0 yb (Nat.le_refl _))) (.h 13 (.loop (h78_0 a0 a0) .ret (fin78_0 a0 (.k1))) .nil))))
def m160 (a0:Int):(List Int):=
  if(decide (a0 < 253))=true then[(wrap .u8 (a0))] else
  [253,(wrap .u8 (a0)),(wrap .u8 ((Int.fdiv a0 (2 ^(min (toNat 8) (IntKind.bits .i64))))))]
theorem e160 {a0:Int}:Ev F X (.call 160 [(.one (.val (.int .i64 a0)))] [] [] [(.one (.own 1 (map d_y (m160 a0))))]):=by
  unfold m160
  by_cases h0:(decide (a0 < 253))=true
  · try simp only[if_pos h0]
    have f3:pureR [[(.val (.int .u8 (wrap .u8 (a0))))]]=true:=yh
    exact cp ya (.f h0 (pe 0 (pe 1 (.f f3 (.h 6 (.b true) .nil)))))
  · try simp only[if_neg h0]
    have f1:0≤(8:Int):=yb
    have f4:pureR [[(.val (.int .u8 253))],[(.val (.int .u8 (wrap .u8 (a0))))],[(.val (.int .u8 (wrap .u8 ((Int.fdiv a0 (2 ^(min (toNat 8) (IntKind.bits .i64))))))))]]=true:=yh
    exact cp ya (.f (nt h0) (.f f1 (pe 0 (pe 3 (.f f4 (.h 6 (.b false) .nil))))))
theorem pl160 (a:Int):length (m160 a)≤3:=by
  unfold m160; split<;>simp
def m168 (a1:Int):(List Int):=
  []
theorem e168 {a1:Int} (hy0:0≤a1) (hy1:a1≤70368744177664):Ev F X (.call 168 [(.one (.nl 1)),(.one (.val (.int .i64 a1)))] [] [] [(.one (.own 1 (map d_y (m168 a1))))]):=by
  unfold m168
  by_cases h0:(decide (a1 < 0))=true
  · try simp only[if_pos h0]
    exfalso
    first |(simp_all; done) | omega |(simp only[decide_eq_true_eq,length_map] at*; omega)
  · try simp only[if_neg h0]
    by_cases h1:(decide ((wrap .i64 (a1 - 0)) > 0))=true
    · try simp only[if_pos h1]
      have f2:0≤(0:Int)∧(0:Int)≤(0:Int)∧(0:Int)≤0:=yb
      have f3:1≤(wrap .i64 (a1 - 0))∧(wrap .i64 (a1 - 0))≤70368744177664∧(wrap .i64 (a1 - 0))*1≤70368744177664:=yT
      have f4:0+(toNat (wrap .i64 (a1 - 0)))≤(length ((List.replicate (toNat (wrap .i64 (a1 - 0))) [(.val (.int .u8 0))]):List (List D))):=yT
      have f5:(0:Int)≤0∧(0:Int)≤((toNat (wrap .i64 (a1 - 0))):Int):=yb
      have f8:pureR []=true:=yE
      exact cp ya (.f (nt h0) (.f h1 (.f f2 (.f f3 (.f f4 (.f f5 (pe 0 (pe 0 (.f f8 (.h 6 (.b false) (.h 27 (.b true) .nil)))))))))))
    · try simp only[if_neg h1]
      have f2:pureR []=true:=yE
      exact cp ya (.f (nt h0) (.f (nt h1) (.f f2 (.h 6 (.b false) (.h 27 (.b false) .nil)))))
theorem grow_nil (a:Int):m168 a=[]:=rfl
inductive O161_0 where
  |k0 (w0:Int) (w1:Int) (w2:Bool)
def r161_0 (a0:(List (List Int))):List (List Int)→Int→Int→O161_0
  |x0::y0,i,v1=>
    if(decide ((wrap .i64 (v1+((length (map b_y x0)):Int))) < 0))=true then(O161_0.k0 v1 i (decide (i <((length (map b_LyE a0)):Int)))) else
    (r161_0 a0 y0 (i+1) (wrap .i64 (v1+((length (map b_y x0)):Int))))
  |[],i,v1=>(O161_0.k0 v1 i (decide (i <((length (map b_LyE a0)):Int))))
def h161_0 (l0_0:Nat) (a0:(List (List Int))) (i:Int) (v1:Int):St:=⟨[(0,(.one (.bor l0_0 (map b_LyE a0)))),(3,(.one (.val (.int .i64 v1)))),(9,(.one (.bor l0_0 (map b_LyE a0)))),(10,(.one (.val (.int .i64 ((length (map b_LyE a0)):Int))))),(11,(.one (.val (.int .i64 i))))],[]⟩
def ex161_0:O161_0→VX.Exit
  |.k0 _ _ _=>(.exit 0)
def fin161_0 (l0_0:Nat) (a0:(List (List Int))):O161_0→St
  |.k0 w0 w1 w2=>⟨[(0,(.one (.bor l0_0 (map b_LyE a0)))),(3,(.one (.val (.int .i64 w0)))),(9,(.one (.bor l0_0 (map b_LyE a0)))),(10,(.one (.val (.int .i64 ((length (map b_LyE a0)):Int))))),(11,(.one (.val (.int .i64 w1)))),(12,(.one (.val (.bool w2))))],[]⟩
theorem t161_0 {l0_0:Nat} {a0:(List (List Int))} (hy0:length (List.flatten a0)≤70368744177664) (hy1:length a0≤1000000):∀(y0:List (List Int)) (p:List (List Int)) (v1:Int),p++y0=a0→0≤v1→v1+((length (List.flatten y0):Nat):Int)≤70368744177664→Ev F X (.code l161_0 (h161_0 l0_0 a0 (length p:Int) v1) (ex161_0 (r161_0 a0 y0 (length p:Int) v1)) (fin161_0 l0_0 a0 (r161_0 a0 y0 (length p:Int) v1)))
  |[],p,v1,hp0,hi0,hi1=>by
    have hc:=hcn b_LyE hp0
    have hj0:=hi0; try simp only[LN,Int.toNat_natCast] at hj0
    have hj1:=hi1; try simp only[LN,Int.toNat_natCast] at hj1
    exact lx 3 ya (.f (nt hc) (.h 2 (.b false) .nil)) rfl
  |x0::y0,p,v1,hp0,hi0,hi1=>by
    have hc:=hcy b_LyE hp0
    have Hx0:=hxy hp0
    have hlen:=hly hp0
    have hw:wrap .i64 ((length p:Int)+1)=(length p:Int)+1:=wrap64 yb
    have hj0:=hi0; try simp only[LN,Int.toNat_natCast] at hj0
    have hj1:=hi1; try simp only[LN,Int.toNat_natCast] at hj1
    simp only[r161_0]
    have f1:0≤(length p:Int):=yb
    by_cases h_1:(decide ((wrap .i64 (v1+((length (map b_y x0)):Int))) < 0))=true
    · try simp only[if_pos h_1]
      exfalso
      first |(simp only[List.flatten_cons,length_append,List.flatten_nil,length_nil,length_map,length_map,decide_eq_true_eq] at*; rw[wrap64 yb] at*; omega) |(simp_all; done) | omega |(simp only[decide_eq_true_eq,length_map] at*; omega)
    · try simp only[if_neg h_1]
      have ih:=t161_0 (l0_0:=l0_0) (a0:=a0) hy0 hy1 y0 (p++ [x0]) (wrap .i64 (v1+((length (map b_y x0)):Int))) yd yY yY
      rw[pl1,← hw] at ih; rw[← hw]
      exact ly 28 ya (.f hc (.f f1 (.f (mp_ b_LyE Hx0) (.f trivial (.f (nt h_1) (.f trivial (.h 2 (.b true) (.h 4 (.row [(.sl (map b_y x0))]) (.h 23 (.b false) .nil))))))))) ih
theorem csum:∀(a:List (List Int)) (l:List (List Int)) (i v:Int),0≤v→v+((length (List.flatten l):Nat):Int)≤70368744177664→∃j b,r161_0 a l i v=.k0 (v+((length (List.flatten l):Nat):Int)) j b
  |a,[],i,v,_,_=>⟨_,_,by simp[r161_0]; exact⟨rfl,rfl⟩⟩
  |a,x::l,i,v,h0,h=>by
    simp only[List.flatten_cons,length_append] at h
    obtain⟨j,b,e⟩:=csum a l (i+1) (v+((length x:Nat):Int)) yb yb
    refine⟨j,b,?_⟩
    simp only[r161_0,length_map]
    rw[wrap64 yb,if_neg yaw,e]
    simp only[List.flatten_cons,length_append]
    congr 1; omega
inductive O161_1 where
  |k0 (w0:List Int) (w1:Int) (w2:Bool)
def r161_1 (a0:(List (List Int))):List (List Int)→Int→List Int→O161_1
  |x0::y0,i,v0=>
    (r161_1 a0 y0 (i+1) (v0++x0))
  |[],i,v0=>(O161_1.k0 v0 i (decide (i <((length (map b_LyE a0)):Int))))
def h161_1 (l0_0:Nat) (a0:(List (List Int))) (c0_161_1:Int) (i:Int) (v0:List Int):St:=⟨[(6,(.one (.ref ⟨(6,0,0),[],0,(length (map d_y v0))⟩))),(25,(.one (.bor l0_0 (map b_LyE a0)))),(26,(.one (.val (.int .i64 ((length (map b_LyE a0)):Int))))),(27,(.one (.val (.int .i64 i))))],[((6,0,0),.live ⟨1,(map d_y v0),[]⟩)]⟩
def ex161_1:O161_1→VX.Exit
  |.k0 _ _ _=>(.exit 2)
def fin161_1 (l0_0:Nat) (a0:(List (List Int))) (c0_161_1:Int):O161_1→St
  |.k0 w0 w1 w2=>⟨[(6,(.one (.ref ⟨(6,0,0),[],0,(length (map d_y w0))⟩))),(25,(.one (.bor l0_0 (map b_LyE a0)))),(26,(.one (.val (.int .i64 ((length (map b_LyE a0)):Int))))),(27,(.one (.val (.int .i64 w1)))),(28,(.one (.val (.bool w2))))],[((6,0,0),.live ⟨1,(map d_y w0),[]⟩)]⟩
theorem t161_1 {l0_0:Nat} {a0:(List (List Int))} {c0_161_1:Int} (hy0:length (List.flatten a0)≤70368744177664) (hy1:length a0≤1000000):∀(y0:List (List Int)) (p:List (List Int)) (v0:List Int),p++y0=a0→length v0+length (List.flatten y0)≤70368744177664→Ev F X (.code l161_1 (h161_1 l0_0 a0 c0_161_1 (length p:Int) v0) (ex161_1 (r161_1 a0 y0 (length p:Int) v0)) (fin161_1 l0_0 a0 c0_161_1 (r161_1 a0 y0 (length p:Int) v0)))
  |[],p,v0,hp0,hi0=>by
    have hc:=hcn b_LyE hp0
    have hj0:=hi0; try simp only[length_map,length_set,length_append,length_replicate,length_cons,length_nil,Int.toNat_natCast] at hj0
    exact lx 3 (by kernel_rfl) (.f (nt hc) (.h 2 (.b false) .nil)) rfl
  |x0::y0,p,v0,hp0,hi0=>by
    have hc:=hcy b_LyE hp0
    have Hx0:=hxy hp0
    have hlen:=hly hp0
    have hw:wrap .i64 ((length p:Int)+1)=(length p:Int)+1:=wrap64 (by omega)
    have hj0:=hi0; try simp only[length_map,length_set,length_append,length_replicate,length_cons,length_nil,Int.toNat_natCast] at hj0
    simp only[r161_1]
    have f1:0≤(length p:Int):=(by omega)
    have f3:0+(length (map d_y v0))≤(length (map d_y v0)):=(by omega)
    have f4:(length ((take (length (map d_y v0)) (drop 0 (map d_y v0)))++(fromBR l0_0 (map b_y x0))))*1≤70368744177664:=(by simp only[List.flatten_cons,length_append,List.flatten_nil,length_nil,length_map,length_take,length_drop,fromBR_y,grow_nil] at*; omega)
    have f5:∀r∈((fromBR l0_0 (map b_y x0)):List (List D)),r.length=1:=(by simp[*,ol112,ol83,ol84,ol51,ol21,four_len,high4,high2,b_y,d_y,byteRows_eq,ints_y]; done)
    have f6:((take (length (map d_y v0)) (drop 0 (map d_y v0)))++(fromBR l0_0 (map b_y x0)))=(map d_y (v0++x0)):=(by simp[byteRows_eq,ints_y,take_of_length_le,d_i,d_N,d_U,d_T,d_J,d_JL,d_KY,d_LiiiiE,d_b,d_SR,d_G,d_TL,d_LiE,d_NL,d_UL,d_y,d_LyE,d_LLyEE,fromBR_i,fromBR_KY,fromBR_b,fromBR_y,ol112,ol83,ol84,ol51,ol21,four_len,high4,high2]; done)
    have st:=ch b161_1 (h161_1 l0_0 a0 c0_161_1 (length p:Int) v0) ⟨[(6,(.one (.ref ⟨(6,0,0),[],0,(length ((take (length (map d_y v0)) (drop 0 (map d_y v0)))++(fromBR l0_0 (map b_y x0))))⟩))),(25,(.one (.bor l0_0 (map b_LyE a0)))),(26,(.oi ((length (map b_LyE a0)):Int))),(27,(.oi (wrap .i64 ((length p:Int)+1))))],[((6,0,0),.live ⟨1,(map d_y (v0++x0)),[]⟩)]⟩ .normal 22 (by kernel_rfl) (.f hc (.f f1 (.f (mp_ b_LyE Hx0) (.f f3 (.f f4 (.f f5 (.f f6 (.f trivial (.h 2 (.b true) (.h 4 (.row [(.sl (map b_y x0))]) (.h 17 (.norm (6,0,0) (map d_y (v0++x0))) .nil)))))))))))
    have ih:=t161_1 (l0_0:=l0_0) (a0:=a0) (c0_161_1:=c0_161_1) hy0 hy1 y0 (p++ [x0]) (v0++x0) (by rw[append_assoc]; exact hp0) (by simp only[List.flatten_cons,length_append,List.flatten_nil,length_nil,length_map] at*; omega)
    rw[pl1] at ih
    rw[show (⟨[(6,(.one (.ref ⟨(6,0,0),[],0,(length ((take (length (map d_y v0)) (drop 0 (map d_y v0)))++(fromBR l0_0 (map b_y x0))))⟩))),(25,(.one (.bor l0_0 (map b_LyE a0)))),(26,(.oi ((length (map b_LyE a0)):Int))),(27,(.oi (wrap .i64 ((length p:Int)+1))))],[((6,0,0),.live ⟨1,(map d_y (v0++x0)),[]⟩)]⟩:St)=h161_1 l0_0 a0 c0_161_1 ((length p:Int)+1) (v0++x0) from(by unfold h161_1; simp[hw,byteRows_eq,ints_y,take_of_length_le,d_i,d_N,d_U,d_T,d_J,d_JL,d_KY,d_LiiiiE,d_b,d_SR,d_G,d_TL,d_LiE,d_NL,d_UL,d_y,d_LyE,d_LLyEE,fromBR_i,fromBR_KY,fromBR_b,fromBR_y,ol112,ol83,ol84,ol51,ol21,four_len,high4,high2]; done)] at st
    exact .loopN st ih
theorem ccat:∀(a:List (List Int)) (l:List (List Int)) (i:Int) (v:List Int),∃j b,r161_1 a l i v=.k0 (v++List.flatten l) j b
  |a,[],i,v=>⟨_,_,by simp[r161_1]; exact⟨rfl,rfl⟩⟩
  |a,x::l,i,v=>by
    obtain⟨j,b,e⟩:=ccat a l (i+1) (v++x)
    refine⟨j,b,?_⟩
    simp only[r161_1]
    rw[e,List.flatten_cons,append_assoc]
def m161 (a0:(List (List Int))):(List Int):=
  (match r161_0 a0 a0 0 0 with | .k0 w0_0 w1_0 w2_0=>(match r161_1 a0 a0 0 (m168 w0_0) with | .k0 w0_2 w1_2 w2_2=>w0_2))
theorem e161 {l0_0:Nat} {a0:(List (List Int))} (hy0:length (List.flatten a0)≤70368744177664) (hy1:length a0≤1000000):Ev F X (.call 161 [(.one (.bor l0_0 (map b_LyE a0)))] [] [] [(.one (.own 1 (map d_y (m161 a0))))]):=by
  unfold m161
  cases h0:r161_0 a0 a0 0 0 with
  |k0 w0_0 w1_0 w2_0=>
    try dsimp only
    obtain⟨jh0,bh0,eh0⟩:=csum a0 a0 0 0 yb yb; rw[h0] at eh0; injection eh0 with e0h0 e1h0 e2h0
    have f0:=Eq.refl (h161_0 l0_0 a0 0 0)
    have f2:Ev F X (.call 168 [(.one (.nl 1)),(.oi w0_0)] [] [] [(.one (.own 1 (map d_y (m168 w0_0))))]):=(e168 (a1:=w0_0) yb yb)
    cases h1:r161_1 a0 a0 0 (m168 w0_0) with
    |k0 w0_2 w1_2 w2_2=>
      try dsimp only
      have f3:=Eq.refl (h161_1 l0_0 a0 w0_0 0 (m168 w0_0))
      exact cp ya (.f f0 (.f (ev_ (e:=ex161_0) (g:=(fin161_0 l0_0 a0)) h0 (t161_0 (l0_0:=l0_0) (a0:=a0) (by assumption) (by assumption) a0 [] 0 rfl yb yb)) (.h 10 (.loop (h161_0 l0_0 a0 0 0) (.exit 0) (fin161_0 l0_0 a0 (.k0 w0_0 w1_0 w2_0))) (.r 14 [] [] f2 (.f f3 (.f (ev_ (e:=ex161_1) (g:=(fin161_1 l0_0 a0 w0_0)) h1 (t161_1 (l0_0:=l0_0) (a0:=a0) (c0_161_1:=w0_0) (by assumption) (by assumption) a0 [] (m168 w0_0) rfl (by simp only[grow_nil,length_nil,Nat.zero_add]; omega))) (pe 0 (pe (length (map d_y w0_2)) (.f (pureR_y w0_2) (.h 23 (.loop (h161_1 l0_0 a0 w0_0 0 (m168 w0_0)) (.exit 2) (fin161_1 l0_0 a0 w0_0 (.k0 w0_2 w1_2 w2_2))) .nil))))))))))
theorem concat_is (a:List (List Int)) (h:length (List.flatten a)≤70368744177664):m161 a=List.flatten a:=by
  obtain⟨j,b,e⟩:=csum a a 0 0 yb yb
  obtain⟨j2,b2,e2⟩:=ccat a a 0 (m168 (0+((length (List.flatten a):Nat):Int)))
  unfold m161
  simp only[e,e2]
  rfl
theorem cat4 {a b c d:List Int} (h:a.length+b.length+c.length+d.length≤7000):m161 [a,b,c,d]=((a++b)++c)++d:=by
  rw[concat_is _ yaf]
  simp only[List.flatten_cons,List.flatten_nil,List.append_nil,append_assoc]
theorem cat3 {a b c:List Int} (h:a.length+b.length+c.length≤7000):m161 [a,b,c]=(a++b)++c:=by
  rw[concat_is _ yaf]
  simp only[List.flatten_cons,List.flatten_nil,List.append_nil,append_assoc]
def m162 (a0:Int):(List Int):=
  ((m160 (Int.tmod a0 65536))++(m160 (wrap .i64 (Int.tdiv a0 65536))))
theorem e162 {a0:Int}:Ev F X (.call 162 [(.one (.val (.int .i64 a0)))] [] [] [(.one (.own 1 (map d_y (m162 a0))))]):=by
  have f0:(65536:Int)≠0:=yb
  have f4:0+(length (map d_y (m160 (Int.tmod a0 65536))))≤(length (map d_y (m160 (Int.tmod a0 65536)))):=yb
  have f5:0+(length (map d_y (m160 (wrap .i64 (Int.tdiv a0 65536)))))≤(length (map d_y (m160 (wrap .i64 (Int.tdiv a0 65536))))):=yb
  have f6:((take (length (map d_y (m160 (wrap .i64 (Int.tdiv a0 65536))))) (drop 0 (map d_y (m160 (wrap .i64 (Int.tdiv a0 65536)))))).all fun x=>x.all copyable)=true:=(ct_y _ _ _)
  have f7:(length ((take (length (map d_y (m160 (Int.tmod a0 65536)))) (drop 0 (map d_y (m160 (Int.tmod a0 65536)))))++(take (length (map d_y (m160 (wrap .i64 (Int.tdiv a0 65536))))) (drop 0 (map d_y (m160 (wrap .i64 (Int.tdiv a0 65536))))))))*1≤70368744177664:=(by unfold m160;(repeat' split)<;>simp_all<;>omega)
  have f8:∀r∈((take (length (map d_y (m160 (wrap .i64 (Int.tdiv a0 65536))))) (drop 0 (map d_y (m160 (wrap .i64 (Int.tdiv a0 65536)))))):List (List D)),r.length=1:=ye
  have f9:((take (length (map d_y (m160 (Int.tmod a0 65536)))) (drop 0 (map d_y (m160 (Int.tmod a0 65536)))))++(take (length (map d_y (m160 (wrap .i64 (Int.tdiv a0 65536))))) (drop 0 (map d_y (m160 (wrap .i64 (Int.tdiv a0 65536)))))))=(map d_y ((m160 (Int.tmod a0 65536))++(m160 (wrap .i64 (Int.tdiv a0 65536))))):=yB
  have f11:(length ((take (length (map d_y (m160 (Int.tmod a0 65536)))) (drop 0 (map d_y (m160 (Int.tmod a0 65536)))))++(take (length (map d_y (m160 (wrap .i64 (Int.tdiv a0 65536))))) (drop 0 (map d_y (m160 (wrap .i64 (Int.tdiv a0 65536))))))))=(length (map d_y ((m160 (Int.tmod a0 65536))++(m160 (wrap .i64 (Int.tdiv a0 65536)))))):=yh
  exact cp ya (.f f0 (.r 7 [] [] (e160 (a0:=(Int.tmod a0 65536))) (.f f0 (.r 13 [] [] (e160 (a0:=(wrap .i64 (Int.tdiv a0 65536)))) (.f f4 (.f f5 (.f f6 (.f f7 (.f f8 (.f f9 (pe 0 (.f f11 (.f (pureR_y ((m160 (Int.tmod a0 65536))++(m160 (wrap .i64 (Int.tdiv a0 65536))))) (.h 15 (.b true) (.h 18 (.norm (2,0,0) (map d_y ((m160 (Int.tmod a0 65536))++(m160 (wrap .i64 (Int.tdiv a0 65536)))))) .nil)))))))))))))))
theorem pb162 (a:Int):length (m162 a)≤6:=by
  unfold m162; rw[length_append]
  exact Nat.add_le_add (pl160 _) (pl160 _)
inductive O163_0 where
  |k0 (w0:List Int) (w1:Int) (w2:Bool)
def r163_0 (a0:(List Int)):List Int→Int→List Int→O163_0
  |x0::y0,i,v0=>
    (r163_0 a0 y0 (i+1) (v0++(m160 x0)))
  |[],i,v0=>(O163_0.k0 v0 i (decide (i <((length (map b_i a0)):Int))))
def h163_0 (l0_0:Nat) (a0:(List Int)) (i:Int) (v0:List Int):St:=⟨[(3,(.one (.ref ⟨(3,0,0),[],0,(length (map d_y v0))⟩))),(9,(.one (.bor l0_0 (map b_i a0)))),(10,(.one (.val (.int .i64 ((length (map b_i a0)):Int))))),(11,(.one (.val (.int .i64 i))))],[((3,0,0),.live ⟨1,(map d_y v0),[]⟩)]⟩
def ex163_0:O163_0→VX.Exit
  |.k0 _ _ _=>(.exit 0)
def fin163_0 (l0_0:Nat) (a0:(List Int)):O163_0→St
  |.k0 w0 w1 w2=>⟨[(3,(.one (.ref ⟨(3,0,0),[],0,(length (map d_y w0))⟩))),(9,(.one (.bor l0_0 (map b_i a0)))),(10,(.one (.val (.int .i64 ((length (map b_i a0)):Int))))),(11,(.one (.val (.int .i64 w1)))),(12,(.one (.val (.bool w2))))],[((3,0,0),.live ⟨1,(map d_y w0),[]⟩)]⟩
theorem t163_0 {l0_0:Nat} {a0:(List Int)} (hy0:length a0≤1000):∀(y0:List Int) (p:List Int) (v0:List Int),p++y0=a0→length v0+3*length y0≤3003→Ev F X (.code l163_0 (h163_0 l0_0 a0 (length p:Int) v0) (ex163_0 (r163_0 a0 y0 (length p:Int) v0)) (fin163_0 l0_0 a0 (r163_0 a0 y0 (length p:Int) v0)))
  |[],p,v0,hp0,hi0=>by
    have hc:=hcn b_i hp0
    have hj0:=hi0; try simp only[LN,Int.toNat_natCast] at hj0
    exact lx 3 ya (.f (nt hc) (.h 2 (.b false) .nil)) rfl
  |x0::y0,p,v0,hp0,hi0=>by
    have hc:=hcy b_i hp0
    have Hx0:=hxy hp0
    have hlen:=hly hp0
    have hw:wrap .i64 ((length p:Int)+1)=(length p:Int)+1:=wrap64 yb
    have hj0:=hi0; try simp only[LN,Int.toNat_natCast] at hj0
    simp only[r163_0]
    have f1:0≤(length p:Int):=yb
    have f4:0+(length (map d_y v0))≤(length (map d_y v0)):=yb
    have f5:0+(length (map d_y (m160 x0)))≤(length (map d_y (m160 x0))):=yb
    have f6:((take (length (map d_y (m160 x0))) (drop 0 (map d_y (m160 x0)))).all fun x=>x.all copyable)=true:=(ct_y _ _ _)
    have f7:(length ((take (length (map d_y v0)) (drop 0 (map d_y v0)))++(take (length (map d_y (m160 x0))) (drop 0 (map d_y (m160 x0))))))*1≤70368744177664:=yJ
    have f8:∀r∈((take (length (map d_y (m160 x0))) (drop 0 (map d_y (m160 x0)))):List (List D)),r.length=1:=ye
    have f9:((take (length (map d_y v0)) (drop 0 (map d_y v0)))++(take (length (map d_y (m160 x0))) (drop 0 (map d_y (m160 x0)))))=(map d_y (v0++(m160 x0))):=yB
    have st:=ch b163_0 (h163_0 l0_0 a0 (length p:Int) v0) ⟨[(3,(.one (.ref ⟨(3,0,0),[],0,(length ((take (length (map d_y v0)) (drop 0 (map d_y v0)))++(take (length (map d_y (m160 x0))) (drop 0 (map d_y (m160 x0))))))⟩))),(9,(.one (.bor l0_0 (map b_i a0)))),(10,(.oi ((length (map b_i a0)):Int))),(11,(.oi (wrap .i64 ((length p:Int)+1))))],[((3,0,0),.live ⟨1,(map d_y (v0++(m160 x0))),[]⟩)]⟩ .normal 24 ya (.f hc (.f f1 (.f (mp_ b_i Hx0) (.h 2 (.b true) (.h 4 (.row [(.i x0)]) (.r 14 [] [] (e160 (a0:=x0)) (.f f4 (.f f5 (.f f6 (.f f7 (.f f8 (.f f9 (.f trivial (.h 16 (.b true) (.h 19 (.norm (3,0,0) (map d_y (v0++(m160 x0)))) .nil)))))))))))))))
    have ih:=t163_0 (l0_0:=l0_0) (a0:=a0) hy0 y0 (p++ [x0]) (v0++(m160 x0)) yd yJ
    rw[pl1] at ih
    rw[show (⟨[(3,(.one (.ref ⟨(3,0,0),[],0,(length ((take (length (map d_y v0)) (drop 0 (map d_y v0)))++(take (length (map d_y (m160 x0))) (drop 0 (map d_y (m160 x0))))))⟩))),(9,(.one (.bor l0_0 (map b_i a0)))),(10,(.oi ((length (map b_i a0)):Int))),(11,(.oi (wrap .i64 ((length p:Int)+1))))],[((3,0,0),.live ⟨1,(map d_y (v0++(m160 x0))),[]⟩)]⟩:St)=h163_0 l0_0 a0 ((length p:Int)+1) (v0++(m160 x0)) from(by unfold h163_0; simp[hw,take_of_length_le,d_y,ol112,ol83,ol84,ol51,ol21,four_len,high4,high2]; done)] at st
    exact .loopN st ih
theorem ll163 {a:List Int}:∀ {l:List Int} {i:Int} {v w:List Int} {j b},r163_0 a l i v=.k0 w j b→w.length≤v.length+3*l.length
  |[],i,v,w,j,b,h=>by simp only[r163_0] at h; injection h with h; subst h; simp
  |x::l,i,v,w,j,b,h=>by
    simp only[r163_0] at h
    have q:=ll163 h
    have q0:=pl160 x
    simp only[length_append,length_cons] at q⊢; omega
def m163 (a0:(List Int)):(List Int):=
  (match r163_0 a0 a0 0 (m160 ((length (map b_i a0)):Int)) with | .k0 w0_1 w1_1 w2_1=>w0_1)
theorem e163 {l0_0:Nat} {a0:(List Int)} (hy0:length a0≤1000):Ev F X (.call 163 [(.one (.bor l0_0 (map b_i a0)))] [] [] [(.one (.own 1 (map d_y (m163 a0))))]):=by
  unfold m163
  cases h0:r163_0 a0 a0 0 (m160 ((length (map b_i a0)):Int)) with
  |k0 w0_1 w1_1 w2_1=>
    try dsimp only
    have f1:=Eq.refl (h163_0 l0_0 a0 0 (m160 ((length (map b_i a0)):Int)))
    exact cp ya (.r 7 [] [] (e160 (a0:=((length (map b_i a0)):Int))) (.f f1 (.f (ev_ (e:=ex163_0) (g:=(fin163_0 l0_0 a0)) h0 (t163_0 (l0_0:=l0_0) (a0:=a0) (by assumption) a0 [] (m160 ((length (map b_i a0)):Int)) rfl (by have q:=pl160 ((length (map b_i a0)):Int); omega))) (pe 0 (pe (length (map d_y w0_1)) (.f (pureR_y w0_1) (.h 16 (.loop (h163_0 l0_0 a0 0 (m160 ((length (map b_i a0)):Int))) (.exit 0) (fin163_0 l0_0 a0 (.k0 w0_1 w1_1 w2_1))) .nil)))))))
theorem pn163 (a:List Int):length (m163 a)≤3+3*a.length:=by
  unfold m163
  cases h:r163_0 a a 0 (m160 ((length (map b_i a)):Int)) with
  |k0 w j b=>
    have q:=ll163 h
    have q0:=pl160 ((length (map b_i a)):Int)
    show w.length≤_
    omega
inductive O141_0 where
  |k0 (w0:List Int) (w1:Int) (w2:Bool)
def r141_0 (a0:K_T):List K_N→Int→List Int→O141_0
  |x0::y0,i,v0=>
    (r141_0 a0 y0 (i+1) (m161 [v0,(m162 x0.f0),(m160 x0.f1),(m163 x0.f2)]))
  |[],i,v0=>(O141_0.k0 v0 i (decide (i <((length (map b_N a0.f1)):Int))))
def h141_0 (l0_1:Nat) (l0_2:Nat) (a0:K_T) (i:Int) (v0:List Int):St:=⟨[(1,(.ptr ⟨(1,0,0),[],0,0,3⟩)),(3,(.one (.ref ⟨(3,0,0),[],0,(length (map d_y v0))⟩))),(17,(.one (.bor l0_1 (map b_N a0.f1)))),(18,(.one (.val (.int .i64 ((length (map b_N a0.f1)):Int))))),(19,(.one (.val (.int .i64 i))))],[((1,0,0),.live ⟨3,[[(.val (.int .i64 a0.f0)),(.bor l0_1 (map b_N a0.f1)),(.bor l0_2 (map b_U a0.f2))]],[]⟩),((3,0,0),.live ⟨1,(map d_y v0),[]⟩)]⟩
def ex141_0:O141_0→VX.Exit
  |.k0 _ _ _=>(.exit 0)
def fin141_0 (l0_1:Nat) (l0_2:Nat) (a0:K_T):O141_0→St
  |.k0 w0 w1 w2=>⟨[(1,(.ptr ⟨(1,0,0),[],0,0,3⟩)),(3,(.one (.ref ⟨(3,0,0),[],0,(length (map d_y w0))⟩))),(17,(.one (.bor l0_1 (map b_N a0.f1)))),(18,(.one (.val (.int .i64 ((length (map b_N a0.f1)):Int))))),(19,(.one (.val (.int .i64 w1)))),(20,(.one (.val (.bool w2))))],[((1,0,0),.live ⟨3,[[(.val (.int .i64 a0.f0)),(.bor l0_1 (map b_N a0.f1)),(.bor l0_2 (map b_U a0.f2))]],[]⟩),((3,0,0),.live ⟨1,(map d_y w0),[]⟩)]⟩
theorem t141_0 {l0_1:Nat} {l0_2:Nat} {a0:K_T} (hy0:length a0.f1*40≤140737488351232) (hy1:∀z∈a0.f1,ok_N z) (hy2:length a0.f2*32≤140737488351232) (hy3:∀z∈a0.f2,ok_U z) (hy4:length a0.f1≤4) (hy5:∀z∈a0.f1,length z.f2≤8) (hy6:length a0.f2≤4) (hy7:∀z∈a0.f2,length z.f1≤12):∀(y0:List K_N) (p:List K_N) (v0:List Int),p++y0=a0.f1→length v0+60*length y0≤260→Ev F X (.code l141_0 (h141_0 l0_1 l0_2 a0 (length p:Int) v0) (ex141_0 (r141_0 a0 y0 (length p:Int) v0)) (fin141_0 l0_1 l0_2 a0 (r141_0 a0 y0 (length p:Int) v0)))
  |[],p,v0,hp0,hi0=>by
    have hc:=hcn b_N hp0
    have hj0:=hi0; try simp only[LN,Int.toNat_natCast] at hj0
    exact lx 3 ya (.f (nt hc) (.h 2 (.b false) .nil)) rfl
  |x0::y0,p,v0,hp0,hi0=>by
    have hc:=hcy b_N hp0
    have Hx0:=hxy hp0
    have Nx0_5:=hy5 x0 (List.mem_of_getElem? Hx0)
    have Mx0_0:=hy1 x0 (List.mem_of_getElem? Hx0)
    have hlen:=hly hp0
    have hw:wrap .i64 ((length p:Int)+1)=(length p:Int)+1:=wrap64 yb
    have hj0:=hi0; try simp only[LN,Int.toNat_natCast] at hj0
    simp only[r141_0]
    have f1:0≤(length p:Int):=yb
    have f14:4≤4:=yb
    have f15:fullR (take 4 (drop 0 [[(.own 1 (map d_y v0))],[(.own 1 (map d_y (m162 x0.f0)))],[(.own 1 (map d_y (m160 x0.f1)))],[(.own 1 (map d_y (m163 x0.f2)))]]))=true:=yZ
    have f16:toBR (take 4 (drop 0 [[(.own 1 (map d_y v0))],[(.own 1 (map d_y (m162 x0.f0)))],[(.own 1 (map d_y (m160 x0.f1)))],[(.own 1 (map d_y (m163 x0.f2)))]]))=[[(.sl (toBR (map d_y v0)))],[(.sl (toBR (map d_y (m162 x0.f0))))],[(.sl (toBR (map d_y (m160 x0.f1))))],[(.sl (toBR (map d_y (m163 x0.f2))))]]:=yH
    have f17:Ev F X (.call 161 [(.one (.bor 0 [[(.sl (toBR (map d_y v0)))],[(.sl (toBR (map d_y (m162 x0.f0))))],[(.sl (toBR (map d_y (m160 x0.f1))))],[(.sl (toBR (map d_y (m163 x0.f2))))]]))] [] [] [(.one (.own 1 (map d_y (m161 [v0,(m162 x0.f0),(m160 x0.f1),(m163 x0.f2)]))))]):=(by rw[show (toBR (map d_y v0))=(map b_y v0) from by first | rfl |(simp[map_take,map_drop,ol112,ol83,ol84,ol51,ol21,four_len,high4,high2]; done) |(simp[byteRows_eq,map_take,map_drop,ol112,ol83,ol84,ol51,ol21,four_len,high4,high2]; done) |(simp[*,map_take,map_drop,ol112,ol83,ol84,ol51,ol21,four_len,high4,high2]; done) |(rw[take_of_length_le (by simp only[length_drop,length_take,length_map,Int.toNat_natCast]; omega)]; simp only[← map_drop,← map_take]),show (toBR (map d_y (m162 x0.f0)))=(map b_y (m162 x0.f0)) from by first | rfl |(simp[map_take,map_drop,ol112,ol83,ol84,ol51,ol21,four_len,high4,high2]; done) |(simp[byteRows_eq,map_take,map_drop,ol112,ol83,ol84,ol51,ol21,four_len,high4,high2]; done) |(simp[*,map_take,map_drop,ol112,ol83,ol84,ol51,ol21,four_len,high4,high2]; done) |(rw[take_of_length_le (by simp only[length_drop,length_take,length_map,Int.toNat_natCast]; omega)]; simp only[← map_drop,← map_take]),show (toBR (map d_y (m160 x0.f1)))=(map b_y (m160 x0.f1)) from by first | rfl |(simp[map_take,map_drop,ol112,ol83,ol84,ol51,ol21,four_len,high4,high2]; done) |(simp[byteRows_eq,map_take,map_drop,ol112,ol83,ol84,ol51,ol21,four_len,high4,high2]; done) |(simp[*,map_take,map_drop,ol112,ol83,ol84,ol51,ol21,four_len,high4,high2]; done) |(rw[take_of_length_le (by simp only[length_drop,length_take,length_map,Int.toNat_natCast]; omega)]; simp only[← map_drop,← map_take]),show (toBR (map d_y (m163 x0.f2)))=(map b_y (m163 x0.f2)) from by first | rfl |(simp[map_take,map_drop,ol112,ol83,ol84,ol51,ol21,four_len,high4,high2]; done) |(simp[byteRows_eq,map_take,map_drop,ol112,ol83,ol84,ol51,ol21,four_len,high4,high2]; done) |(simp[*,map_take,map_drop,ol112,ol83,ol84,ol51,ol21,four_len,high4,high2]; done) |(rw[take_of_length_le (by simp only[length_drop,length_take,length_map,Int.toNat_natCast]; omega)]; simp only[← map_drop,← map_take])]; exact(e161 (l0_0:=0) (a0:=[v0,(m162 x0.f0),(m160 x0.f1),(m163 x0.f2)]) (by have q0:=hy5 x0 (List.mem_of_getElem? Hx0); have q1:=pl160 x0.f1; have q2:=pb162 x0.f0; have q3:=pn163 x0.f2; simp only[length_map,length_append,length_take,length_drop,length_cons,length_nil,List.length_flatten,List.map_cons,List.map_nil,List.sum_cons,List.sum_nil] at*; omega) (by have q0:=hy5 x0 (List.mem_of_getElem? Hx0); have q1:=pl160 x0.f1; have q2:=pb162 x0.f0; have q3:=pn163 x0.f2; simp only[length_map,length_append,length_take,length_drop,length_cons,length_nil,List.length_flatten,List.map_cons,List.map_nil,List.sum_cons,List.sum_nil] at*; omega)))
    have ih:=t141_0 (l0_1:=l0_1) (l0_2:=l0_2) (a0:=a0) hy0 hy1 hy2 hy3 hy4 hy5 hy6 hy7 y0 (p++ [x0]) (m161 [v0,(m162 x0.f0),(m160 x0.f1),(m163 x0.f2)]) yd (by have q0:=hy5 x0 (List.mem_of_getElem? Hx0); have q1:=pl160 x0.f1; have q2:=pb162 x0.f0; have q3:=pn163 x0.f2; rw[cat4 (by simp only[length_cons] at*; omega)]; simp only[length_map,length_append,length_take,length_drop,length_cons,length_nil,List.length_flatten,List.map_cons,List.map_nil,List.sum_cons,List.sum_nil] at*; omega)
    rw[pl1,← hw] at ih; rw[← hw]
    exact ly 41 ya (.f hc (.f f1 (.f (mp_ b_N Hx0) (.h 2 (.b true) (.h 4 (.row (b_N x0)) (.r 18 [] [] (e162 (a0:=x0.f0)) (.r 24 [] [] (e160 (a0:=x0.f1)) (.r 30 [] [] (e163 (l0_0:=(l0_1+1)) (a0:=x0.f2) yb) (pe 0 (pe (length (map d_y v0)) (pe 0 (pe (length (map d_y (m162 x0.f0))) (pe 0 (pe (length (map d_y (m160 x0.f1))) (pe 0 (pe (length (map d_y (m163 x0.f2))) (.f f14 (.f f15 (.f f16 (.r 34 [] [[[(.sl (toBR (map d_y v0)))],[(.sl (toBR (map d_y (m162 x0.f0))))],[(.sl (toBR (map d_y (m160 x0.f1))))],[(.sl (toBR (map d_y (m163 x0.f2))))]]] f17 (.f trivial .nil))))))))))))))))))))) ih
theorem lk141_0 {a:K_T}:∀ {l:List K_N} {i:Int} {v w:List Int} {j b},(∀z∈l,length z.f2≤8)→r141_0 a l i v=.k0 w j b→v.length+60*l.length≤260→w.length≤v.length+60*l.length
  |[],i,v,w,j,b,_,h,_=>by simp only[r141_0] at h; injection h with h; subst h; simp
  |x::l,i,v,w,j,b,z,h,hv=>by
    simp only[r141_0] at h
    have q0:=z x (List.mem_cons_self ..)
    have z1:=fun u hu=>z u (List.mem_cons_of_mem _ hu)
    have q1:=pl160 x.f1
    have q2:=pb162 x.f0
    have q3:=pn163 x.f2
    simp only[length_cons] at hv⊢
    rw[cat4 yb] at h
    have q:=lk141_0 z1 h yar
    simp only[length_append] at q; omega
inductive O141_1 where
  |k0 (w0:List Int) (w1:Int) (w2:Bool)
def r141_1 (a0:K_T):List K_U→Int→List Int→O141_1
  |x0::y0,i,v0=>
    (r141_1 a0 y0 (i+1) (m161 [v0,(m162 x0.f0),(m163 x0.f1)]))
  |[],i,v0=>(O141_1.k0 v0 i (decide (i <((length (map b_U a0.f2)):Int))))
def h141_1 (l0_1:Nat) (l0_2:Nat) (a0:K_T) (c0_141_1:List Int) (i:Int) (v0:List Int):St:=⟨[(1,(.ptr ⟨(1,0,0),[],0,0,3⟩)),(3,(.one (.ref ⟨(3,0,0),[],0,(length (map d_y v0))⟩))),(43,(.one (.bor l0_2 (map b_U a0.f2)))),(44,(.one (.val (.int .i64 ((length (map b_U a0.f2)):Int))))),(45,(.one (.val (.int .i64 i))))],[((1,0,0),.live ⟨3,[[(.val (.int .i64 a0.f0)),(.bor l0_1 (map b_N a0.f1)),(.bor l0_2 (map b_U a0.f2))]],[]⟩),((3,0,0),.live ⟨1,(map d_y v0),[]⟩)]⟩
def ex141_1:O141_1→VX.Exit
  |.k0 _ _ _=>(.exit 2)
def fin141_1 (l0_1:Nat) (l0_2:Nat) (a0:K_T) (c0_141_1:List Int):O141_1→St
  |.k0 w0 w1 w2=>⟨[(1,(.ptr ⟨(1,0,0),[],0,0,3⟩)),(3,(.one (.ref ⟨(3,0,0),[],0,(length (map d_y w0))⟩))),(43,(.one (.bor l0_2 (map b_U a0.f2)))),(44,(.one (.val (.int .i64 ((length (map b_U a0.f2)):Int))))),(45,(.one (.val (.int .i64 w1)))),(46,(.one (.val (.bool w2))))],[((1,0,0),.live ⟨3,[[(.val (.int .i64 a0.f0)),(.bor l0_1 (map b_N a0.f1)),(.bor l0_2 (map b_U a0.f2))]],[]⟩),((3,0,0),.live ⟨1,(map d_y w0),[]⟩)]⟩
theorem t141_1 {l0_1:Nat} {l0_2:Nat} {a0:K_T} {c0_141_1:List Int} (hy0:length a0.f1*40≤140737488351232) (hy1:∀z∈a0.f1,ok_N z) (hy2:length a0.f2*32≤140737488351232) (hy3:∀z∈a0.f2,ok_U z) (hy4:length a0.f1≤4) (hy5:∀z∈a0.f1,length z.f2≤8) (hy6:length a0.f2≤4) (hy7:∀z∈a0.f2,length z.f1≤12) (hy8:length c0_141_1≤140737488351232):∀(y0:List K_U) (p:List K_U) (v0:List Int),p++y0=a0.f2→length v0+60*length y0≤520→Ev F X (.code l141_1 (h141_1 l0_1 l0_2 a0 c0_141_1 (length p:Int) v0) (ex141_1 (r141_1 a0 y0 (length p:Int) v0)) (fin141_1 l0_1 l0_2 a0 c0_141_1 (r141_1 a0 y0 (length p:Int) v0)))
  |[],p,v0,hp0,hi0=>by
    have hc:=hcn b_U hp0
    have hj0:=hi0; try simp only[LN,Int.toNat_natCast] at hj0
    exact lx 3 ya (.f (nt hc) (.h 2 (.b false) .nil)) rfl
  |x0::y0,p,v0,hp0,hi0=>by
    have hc:=hcy b_U hp0
    have Hx0:=hxy hp0
    have Nx0_7:=hy7 x0 (List.mem_of_getElem? Hx0)
    have Mx0_0:=hy3 x0 (List.mem_of_getElem? Hx0)
    have hlen:=hly hp0
    have hw:wrap .i64 ((length p:Int)+1)=(length p:Int)+1:=wrap64 yb
    have hj0:=hi0; try simp only[LN,Int.toNat_natCast] at hj0
    simp only[r141_1]
    have f1:0≤(length p:Int):=yb
    have f11:3≤3:=yb
    have f12:fullR (take 3 (drop 0 [[(.own 1 (map d_y v0))],[(.own 1 (map d_y (m162 x0.f0)))],[(.own 1 (map d_y (m163 x0.f1)))]]))=true:=yZ
    have f13:toBR (take 3 (drop 0 [[(.own 1 (map d_y v0))],[(.own 1 (map d_y (m162 x0.f0)))],[(.own 1 (map d_y (m163 x0.f1)))]]))=[[(.sl (toBR (map d_y v0)))],[(.sl (toBR (map d_y (m162 x0.f0))))],[(.sl (toBR (map d_y (m163 x0.f1))))]]:=yH
    have f14:Ev F X (.call 161 [(.one (.bor 0 [[(.sl (toBR (map d_y v0)))],[(.sl (toBR (map d_y (m162 x0.f0))))],[(.sl (toBR (map d_y (m163 x0.f1))))]]))] [] [] [(.one (.own 1 (map d_y (m161 [v0,(m162 x0.f0),(m163 x0.f1)]))))]):=(by rw[show (toBR (map d_y v0))=(map b_y v0) from by first | rfl |(simp[map_take,map_drop,ol112,ol83,ol84,ol51,ol21,four_len,high4,high2]; done) |(simp[byteRows_eq,map_take,map_drop,ol112,ol83,ol84,ol51,ol21,four_len,high4,high2]; done) |(simp[*,map_take,map_drop,ol112,ol83,ol84,ol51,ol21,four_len,high4,high2]; done) |(rw[take_of_length_le (by simp only[length_drop,length_take,length_map,Int.toNat_natCast]; omega)]; simp only[← map_drop,← map_take]),show (toBR (map d_y (m162 x0.f0)))=(map b_y (m162 x0.f0)) from by first | rfl |(simp[map_take,map_drop,ol112,ol83,ol84,ol51,ol21,four_len,high4,high2]; done) |(simp[byteRows_eq,map_take,map_drop,ol112,ol83,ol84,ol51,ol21,four_len,high4,high2]; done) |(simp[*,map_take,map_drop,ol112,ol83,ol84,ol51,ol21,four_len,high4,high2]; done) |(rw[take_of_length_le (by simp only[length_drop,length_take,length_map,Int.toNat_natCast]; omega)]; simp only[← map_drop,← map_take]),show (toBR (map d_y (m163 x0.f1)))=(map b_y (m163 x0.f1)) from by first | rfl |(simp[map_take,map_drop,ol112,ol83,ol84,ol51,ol21,four_len,high4,high2]; done) |(simp[byteRows_eq,map_take,map_drop,ol112,ol83,ol84,ol51,ol21,four_len,high4,high2]; done) |(simp[*,map_take,map_drop,ol112,ol83,ol84,ol51,ol21,four_len,high4,high2]; done) |(rw[take_of_length_le (by simp only[length_drop,length_take,length_map,Int.toNat_natCast]; omega)]; simp only[← map_drop,← map_take])]; exact(e161 (l0_0:=0) (a0:=[v0,(m162 x0.f0),(m163 x0.f1)]) (by have q0:=hy7 x0 (List.mem_of_getElem? Hx0); have q2:=pb162 x0.f0; have q3:=pn163 x0.f1; simp only[length_map,length_append,length_take,length_drop,length_cons,length_nil,List.length_flatten,List.map_cons,List.map_nil,List.sum_cons,List.sum_nil] at*; omega) (by have q0:=hy7 x0 (List.mem_of_getElem? Hx0); have q2:=pb162 x0.f0; have q3:=pn163 x0.f1; simp only[length_map,length_append,length_take,length_drop,length_cons,length_nil,List.length_flatten,List.map_cons,List.map_nil,List.sum_cons,List.sum_nil] at*; omega)))
    have ih:=t141_1 (l0_1:=l0_1) (l0_2:=l0_2) (a0:=a0) (c0_141_1:=c0_141_1) hy0 hy1 hy2 hy3 hy4 hy5 hy6 hy7 hy8 y0 (p++ [x0]) (m161 [v0,(m162 x0.f0),(m163 x0.f1)]) yd (by have q0:=hy7 x0 (List.mem_of_getElem? Hx0); have q2:=pb162 x0.f0; have q3:=pn163 x0.f1; rw[cat3 (by simp only[length_cons] at*; omega)]; simp only[length_map,length_append,length_take,length_drop,length_cons,length_nil,List.length_flatten,List.map_cons,List.map_nil,List.sum_cons,List.sum_nil] at*; omega)
    rw[pl1,← hw] at ih; rw[← hw]
    exact ly 35 ya (.f hc (.f f1 (.f (mp_ b_U Hx0) (.h 2 (.b true) (.h 4 (.row (b_U x0)) (.r 18 [] [] (e162 (a0:=x0.f0)) (.r 24 [] [] (e163 (l0_0:=(l0_2+1)) (a0:=x0.f1) yb) (pe 0 (pe (length (map d_y v0)) (pe 0 (pe (length (map d_y (m162 x0.f0))) (pe 0 (pe (length (map d_y (m163 x0.f1))) (.f f11 (.f f12 (.f f13 (.r 28 [] [[[(.sl (toBR (map d_y v0)))],[(.sl (toBR (map d_y (m162 x0.f0))))],[(.sl (toBR (map d_y (m163 x0.f1))))]]] f14 (.f trivial .nil)))))))))))))))))) ih
theorem lk141_1 {a:K_T}:∀ {l:List K_U} {i:Int} {v w:List Int} {j b},(∀z∈l,length z.f1≤12)→r141_1 a l i v=.k0 w j b→v.length+60*l.length≤520→w.length≤v.length+60*l.length
  |[],i,v,w,j,b,_,h,_=>by simp only[r141_1] at h; injection h with h; subst h; simp
  |x::l,i,v,w,j,b,z,h,hv=>by
    simp only[r141_1] at h
    have q0:=z x (List.mem_cons_self ..)
    have z1:=fun u hu=>z u (List.mem_cons_of_mem _ hu)
    have q2:=pb162 x.f0
    have q3:=pn163 x.f1
    simp only[length_cons] at hv⊢
    rw[cat3 yb] at h
    have q:=lk141_1 z1 h yar
    simp only[length_append] at q; omega
end Go.Proofs.YtmdocdnidilaiaaGreat.CheckShare
