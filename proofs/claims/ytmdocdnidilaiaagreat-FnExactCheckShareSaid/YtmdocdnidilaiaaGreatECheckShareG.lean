/- What the functions compute. -/
import Derived.Test.YtmdocdnidilaiaaGreatECheckShareF
import Derived.KernelRfl
namespace Go.Proofs.YtmdocdnidilaiaaGreat.CheckShare
open Go Go.Proofs.YtmdocdnidilaiaaGreat.V
set_option linter.unusedVariables false
set_option linter.unusedSimpArgs false
set_option maxRecDepth 20000
open Go.IntKind (wrap)
open Int (toNat)
open List (length_replicate length_map length_set length_append length_cons length_nil length_take length_drop take_of_length_le map_take map_drop map_set append_assoc getElem?_map map length take drop getD set)
attribute [local simp] toBR_i fullR_i pureR_i lenB_i lenD_i fromBR_i copy_i toBR_N fullR_N pureR_N lenB_N lenD_N toBR_U fullR_U pureR_U lenB_U lenD_U toBR_T fullR_T pureR_T lenB_T lenD_T toBR_J fullR_J pureR_J lenB_J lenD_J toBR_JL fullR_JL pureR_JL lenB_JL lenD_JL toBR_KY fullR_KY pureR_KY lenB_KY lenD_KY fromBR_KY copy_KY toBR_LiiiiE fullR_LiiiiE pureR_LiiiiE lenB_LiiiiE lenD_LiiiiE toBR_b fullR_b pureR_b lenB_b lenD_b fromBR_b copy_b toBR_SR fullR_SR pureR_SR lenB_SR lenD_SR toBR_G fullR_G pureR_G lenB_G lenD_G toBR_TL fullR_TL pureR_TL lenB_TL lenD_TL toBR_LiE fullR_LiE pureR_LiE lenB_LiE lenD_LiE toBR_NL fullR_NL pureR_NL lenB_NL lenD_NL toBR_UL fullR_UL pureR_UL lenB_UL lenD_UL strInts_len byteRows_len toBR_y fullR_y pureR_y lenB_y lenD_y fromBR_y copy_y toBR_LyE fullR_LyE pureR_LyE lenB_LyE lenD_LyE toBR_LLyEE fullR_LLyEE pureR_LLyEE lenB_LLyEE lenD_LLyEE
def m141 (a0:K_T):(List Int):=
  (match r141_0 a0 a0.f1 0 ((m160 a0.f0)++(m160 ((length (map b_N a0.f1)):Int))) with | .k0 w0_4 w1_4 w2_4=>(match r141_1 a0 a0.f2 0 (w0_4++(m160 ((length (map b_U a0.f2)):Int))) with | .k0 w0_8 w1_8 w2_8=>w0_8))
theorem e141 {l0_1:Nat} {l0_2:Nat} {a0:K_T} (hy0:length a0.f1*40≤140737488351232) (hy1:∀z∈a0.f1,ok_N z) (hy2:length a0.f2*32≤140737488351232) (hy3:∀z∈a0.f2,ok_U z) (hy4:length a0.f1≤4) (hy5:∀z∈a0.f1,length z.f2≤8) (hy6:length a0.f2≤4) (hy7:∀z∈a0.f2,length z.f1≤12):Ev F X (.call 141 [(.agg (k_T l0_1 l0_2 a0))] [] [] [(.one (.own 1 (map d_y (m141 a0))))]):=by
  unfold m141
  have f2:0+(length (map d_y (m160 a0.f0)))≤(length (map d_y (m160 a0.f0))):=yb
  have f3:0+(length (map d_y (m160 ((length (map b_N a0.f1)):Int))))≤(length (map d_y (m160 ((length (map b_N a0.f1)):Int)))):=yb
  have f4:((take (length (map d_y (m160 ((length (map b_N a0.f1)):Int)))) (drop 0 (map d_y (m160 ((length (map b_N a0.f1)):Int))))).all fun x=>x.all copyable)=true:=(ct_y _ _ _)
  have f5:(length ((take (length (map d_y (m160 a0.f0))) (drop 0 (map d_y (m160 a0.f0))))++(take (length (map d_y (m160 ((length (map b_N a0.f1)):Int)))) (drop 0 (map d_y (m160 ((length (map b_N a0.f1)):Int)))))))*1≤70368744177664:=yn
  have f6:∀r∈((take (length (map d_y (m160 ((length (map b_N a0.f1)):Int)))) (drop 0 (map d_y (m160 ((length (map b_N a0.f1)):Int))))):List (List D)),r.length=1:=ye
  have f7:((take (length (map d_y (m160 a0.f0))) (drop 0 (map d_y (m160 a0.f0))))++(take (length (map d_y (m160 ((length (map b_N a0.f1)):Int)))) (drop 0 (map d_y (m160 ((length (map b_N a0.f1)):Int))))))=(map d_y ((m160 a0.f0)++(m160 ((length (map b_N a0.f1)):Int)))):=yB
  cases h0:r141_0 a0 a0.f1 0 ((m160 a0.f0)++(m160 ((length (map b_N a0.f1)):Int))) with
  |k0 w0_4 w1_4 w2_4=>
    try dsimp only
    have f8:(⟨[(1,(.ptr ⟨(1,0,0),[],0,0,3⟩)),(3,(.one (.ref ⟨(3,0,0),[],0,(length ((take (length (map d_y (m160 a0.f0))) (drop 0 (map d_y (m160 a0.f0))))++(take (length (map d_y (m160 ((length (map b_N a0.f1)):Int)))) (drop 0 (map d_y (m160 ((length (map b_N a0.f1)):Int)))))))⟩))),(17,(.one (.bor l0_1 (map b_N a0.f1)))),(18,(.oi ((length (map b_N a0.f1)):Int))),(19,(.oi 0))],[((1,0,0),.live ⟨3,[[(.i a0.f0),(.bor l0_1 (map b_N a0.f1)),(.bor l0_2 (map b_U a0.f2))]],[]⟩),((3,0,0),.live ⟨1,(map d_y ((m160 a0.f0)++(m160 ((length (map b_N a0.f1)):Int)))),[]⟩)]⟩:St)=h141_0 l0_1 l0_2 a0 0 ((m160 a0.f0)++(m160 ((length (map b_N a0.f1)):Int))):=(by unfold h141_0; simp[take_of_length_le,d_y,ol112,ol83,ol84,ol51,ol21,four_len,high4,high2]; done)
    have f11:0+(length (map d_y w0_4))≤(length (map d_y w0_4)):=yb
    have f12:0+(length (map d_y (m160 ((length (map b_U a0.f2)):Int))))≤(length (map d_y (m160 ((length (map b_U a0.f2)):Int)))):=yb
    have f13:((take (length (map d_y (m160 ((length (map b_U a0.f2)):Int)))) (drop 0 (map d_y (m160 ((length (map b_U a0.f2)):Int))))).all fun x=>x.all copyable)=true:=(ct_y _ _ _)
    have f14:(length ((take (length (map d_y w0_4)) (drop 0 (map d_y w0_4)))++(take (length (map d_y (m160 ((length (map b_U a0.f2)):Int)))) (drop 0 (map d_y (m160 ((length (map b_U a0.f2)):Int)))))))*1≤70368744177664:=yk
    have f15:∀r∈((take (length (map d_y (m160 ((length (map b_U a0.f2)):Int)))) (drop 0 (map d_y (m160 ((length (map b_U a0.f2)):Int))))):List (List D)),r.length=1:=ye
    have f16:((take (length (map d_y w0_4)) (drop 0 (map d_y w0_4)))++(take (length (map d_y (m160 ((length (map b_U a0.f2)):Int)))) (drop 0 (map d_y (m160 ((length (map b_U a0.f2)):Int))))))=(map d_y (w0_4++(m160 ((length (map b_U a0.f2)):Int)))):=yB
    cases h1:r141_1 a0 a0.f2 0 (w0_4++(m160 ((length (map b_U a0.f2)):Int))) with
    |k0 w0_8 w1_8 w2_8=>
      try dsimp only
      have f17:(⟨[(1,(.ptr ⟨(1,0,0),[],0,0,3⟩)),(3,(.one (.ref ⟨(3,0,0),[],0,(length ((take (length (map d_y w0_4)) (drop 0 (map d_y w0_4)))++(take (length (map d_y (m160 ((length (map b_U a0.f2)):Int)))) (drop 0 (map d_y (m160 ((length (map b_U a0.f2)):Int)))))))⟩))),(43,(.one (.bor l0_2 (map b_U a0.f2)))),(44,(.oi ((length (map b_U a0.f2)):Int))),(45,(.oi 0))],[((1,0,0),.live ⟨3,[[(.i a0.f0),(.bor l0_1 (map b_N a0.f1)),(.bor l0_2 (map b_U a0.f2))]],[]⟩),((3,0,0),.live ⟨1,(map d_y (w0_4++(m160 ((length (map b_U a0.f2)):Int)))),[]⟩)]⟩:St)=h141_1 l0_1 l0_2 a0 w0_4 0 (w0_4++(m160 ((length (map b_U a0.f2)):Int))):=(by unfold h141_1; simp[take_of_length_le,d_y,ol112,ol83,ol84,ol51,ol21,four_len,high4,high2]; done)
      exact cp ya (.r 9 [] [] (e160 (a0:=a0.f0)) (.r 17 [] [] (e160 (a0:=((length (map b_N a0.f1)):Int))) (.f f2 (.f f3 (.f f4 (.f f5 (.f f6 (.f f7 (.f f8 (.f (ev_ (e:=ex141_0) (g:=(fin141_0 l0_1 l0_2 a0)) h0 (t141_0 (l0_1:=l0_1) (l0_2:=l0_2) (a0:=a0) (by assumption) (by assumption) (by assumption) (by assumption) (by assumption) (by assumption) (by assumption) (by assumption) a0.f1 [] ((m160 a0.f0)++(m160 ((length (map b_N a0.f1)):Int))) rfl yn)) (.h 19 (.b true) (.h 22 (.norm (3,0,0) (map d_y ((m160 a0.f0)++(m160 ((length (map b_N a0.f1)):Int))))) (.h 31 (.loop (h141_0 l0_1 l0_2 a0 0 ((m160 a0.f0)++(m160 ((length (map b_N a0.f1)):Int)))) (.exit 0) (fin141_0 l0_1 l0_2 a0 (.k0 w0_4 w1_4 w2_4))) (.r 41 [] [] (e160 (a0:=((length (map b_U a0.f2)):Int))) (.f f11 (.f f12 (.f f13 (.f f14 (.f f15 (.f f16 (.f f17 (.f (ev_ (e:=ex141_1) (g:=(fin141_1 l0_1 l0_2 a0 w0_4)) h1 (t141_1 (l0_1:=l0_1) (l0_2:=l0_2) (a0:=a0) (c0_141_1:=w0_4) (by assumption) (by assumption) (by assumption) (by assumption) (by assumption) (by assumption) (by assumption) (by assumption) yn a0.f2 [] (w0_4++(m160 ((length (map b_U a0.f2)):Int))) rfl yk)) (pe 0 (pe (length (map d_y w0_8)) (.f (pureR_y w0_8) (.h 43 (.b true) (.h 46 (.norm (3,0,0) (map d_y (w0_4++(m160 ((length (map b_U a0.f2)):Int))))) (.h 55 (.loop (h141_1 l0_1 l0_2 a0 w0_4 0 (w0_4++(m160 ((length (map b_U a0.f2)):Int)))) (.exit 2) (fin141_1 l0_1 l0_2 a0 w0_4 (.k0 w0_8 w1_8 w2_8))) .nil))))))))))))))))))))))))))))
theorem pt141 (a:K_T) (h:SmT a):length (m141 a)≤1000:=by
  obtain⟨a1,a2,a3,a4⟩:=h
  have q0:=pl160 a.f0
  have q1:=pl160 ((length (map b_N a.f1)):Int)
  have q2:=pl160 ((length (map b_U a.f2)):Int)
  unfold m141
  cases h:r141_0 a a.f1 0 ((m160 a.f0)++(m160 ((length (map b_N a.f1)):Int))) with
  |k0 w j b=>
    have q:=lk141_0 a2 h yar
    simp only[length_append] at q
    simp only[]
    cases h2:r141_1 a a.f2 0 (w++(m160 ((length (map b_U a.f2)):Int))) with
    |k0 w2 j2 b2=>
      have q3:=lk141_1 a4 h2 yar
      simp only[length_append] at q3
      show w2.length≤_
      omega
inductive O108_0 where
  |k0 (w0:List K_N) (w1:Int) (w2:Bool)
def r108_0 (a0:K_T):List K_N→Int→List K_N→O108_0
  |x0::y0,i,v0=>
    (r108_0 a0 y0 (i+1) (v0++([(K_N.mk x0.f0 x0.f1 [])])))
  |[],i,v0=>(O108_0.k0 v0 i (decide (i <((length (map b_N a0.f1)):Int))))
def h108_0 (l0_1:Nat) (l0_2:Nat) (a0:K_T) (i:Int) (v0:List K_N):St:=⟨[(1,(.ptr ⟨(1,0,0),[],0,0,3⟩)),(3,(.ptr ⟨(3,0,0),[],0,0,3⟩)),(12,(.one (.bor l0_1 (map b_N a0.f1)))),(13,(.one (.val (.int .i64 ((length (map b_N a0.f1)):Int))))),(14,(.one (.val (.int .i64 i))))],[((1,0,0),.live ⟨3,[[(.val (.int .i64 a0.f0)),(.bor l0_1 (map b_N a0.f1)),(.bor l0_2 (map b_U a0.f2))]],[]⟩),((3,0,0),.live ⟨3,[[(.val (.int .i64 a0.f0)),(.own 3 (map d_N v0)),(.bor l0_2 (map b_U a0.f2))]],[]⟩)]⟩
def ex108_0:O108_0→VX.Exit
  |.k0 _ _ _=>(.exit 0)
def fin108_0 (l0_1:Nat) (l0_2:Nat) (a0:K_T):O108_0→St
  |.k0 w0 w1 w2=>⟨[(1,(.ptr ⟨(1,0,0),[],0,0,3⟩)),(3,(.ptr ⟨(3,0,0),[],0,0,3⟩)),(12,(.one (.bor l0_1 (map b_N a0.f1)))),(13,(.one (.val (.int .i64 ((length (map b_N a0.f1)):Int))))),(14,(.one (.val (.int .i64 w1)))),(15,(.one (.val (.bool w2))))],[((1,0,0),.live ⟨3,[[(.val (.int .i64 a0.f0)),(.bor l0_1 (map b_N a0.f1)),(.bor l0_2 (map b_U a0.f2))]],[]⟩),((3,0,0),.live ⟨3,[[(.val (.int .i64 a0.f0)),(.own 3 (map d_N w0)),(.bor l0_2 (map b_U a0.f2))]],[]⟩)]⟩
theorem t108_0 {l0_1:Nat} {l0_2:Nat} {a0:K_T} (hy0:length a0.f1*40≤140737488351232) (hy1:∀z∈a0.f1,ok_N z) (hy2:length a0.f2*32≤140737488351232) (hy3:∀z∈a0.f2,ok_U z) (hy4:SmT a0):∀(y0:List K_N) (p:List K_N) (v0:List K_N),p++y0=a0.f1→(length v0+length y0)*40≤70368744177664→Ev F X (.code l108_0 (h108_0 l0_1 l0_2 a0 (length p:Int) v0) (ex108_0 (r108_0 a0 y0 (length p:Int) v0)) (fin108_0 l0_1 l0_2 a0 (r108_0 a0 y0 (length p:Int) v0)))
  |[],p,v0,hp0,hi0=>by
    have hc:=hcn b_N hp0
    have hj0:=hi0; try simp only[LN,Int.toNat_natCast] at hj0
    exact lx 3 ya (.f (nt hc) (.h 2 (.b false) .nil)) rfl
  |x0::y0,p,v0,hp0,hi0=>by
    have hc:=hcy b_N hp0
    have Hx0:=hxy hp0
    have Mx0_0:=hy1 x0 (List.mem_of_getElem? Hx0)
    have hlen:=hly hp0
    have hw:wrap .i64 ((length p:Int)+1)=(length p:Int)+1:=wrap64 yb
    have hj0:=hi0; try simp only[LN,Int.toNat_natCast] at hj0
    simp only[r108_0]
    have f1:0≤(length p:Int):=yb
    have f3:0+(length (map d_N v0))≤(length (map d_N v0)):=yb
    have f4:1≤1:=yb
    have f5:((take 1 (drop 0 [[(.i x0.f0),(.i x0.f1),(.own 1 [])]])).all fun x=>x.all copyable)=false:=yE
    have f8:(length ((take (length (map d_N v0)) (drop 0 (map d_N v0)))++([[(.i x0.f0),(.i x0.f1),(.own 1 [])]]:List (List D))))*40≤70368744177664:=yu
    have f9:∀r∈([[(.i x0.f0),(.i x0.f1),(.own 1 [])]]:List (List D)),r.length=3:=yQ
    have f12:([[(.i a0.f0),(.own 3 ((take (length (map d_N v0)) (drop 0 (map d_N v0)))++([[(.i x0.f0),(.i x0.f1),(.own 1 [])]]:List (List D)))),(.bor l0_2 (map b_U a0.f2))]]:List (List D))=[[(.i a0.f0),(.own 3 (map d_N (v0++([(K_N.mk x0.f0 x0.f1 [])])))),(.bor l0_2 (map b_U a0.f2))]]:=(by simp[take_of_length_le,d_N,ol112,ol83,ol84,ol51,ol21,four_len,high4,high2]; done)
    have ih:=t108_0 (l0_1:=l0_1) (l0_2:=l0_2) (a0:=a0) hy0 hy1 hy2 hy3 hy4 y0 (p++ [x0]) (v0++([(K_N.mk x0.f0 x0.f1 [])])) yd yo
    rw[pl1,← hw] at ih; rw[← hw]
    exact ly 38 ya (.f hc (.f f1 (.f (mp_ b_N Hx0) (.f f3 (.f f4 (.f f5 (pe 0 (pe 1 (.f f8 (.f f9 (pe 0 (pe (length ((take (length (map d_N v0)) (drop 0 (map d_N v0)))++([[(.i x0.f0),(.i x0.f1),(.own 1 [])]]:List (List D)))) (.f f12 (.f trivial (.h 2 (.b true) (.h 4 (.row (b_N x0)) (.h 28 (.b false) (.h 33 (.norm (3,0,0) [[(.i a0.f0),(.own 3 (map d_N (v0++([(K_N.mk x0.f0 x0.f1 [])])))),(.bor l0_2 (map b_U a0.f2))]]) .nil)))))))))))))))))) ih
def post108_0 (n0:Nat):O108_0→Prop
  |.k0 w0 _ _=>length w0=n0
theorem z108_0 {a0:K_T}:∀(y0:List K_N) (i:Int) (v0:List K_N),post108_0 (length v0+length y0) (r108_0 a0 y0 i v0)
  |[],i,v0=>by
    first | trivial |(simp only[post108_0,length_nil,Nat.add_zero]; done) |(simp[post108_0]; done)
  |x0::y0,i,v0=>by
    simp only[r108_0]
    have z:=z108_0 (a0:=a0) y0 (i+1) (v0++([(K_N.mk x0.f0 x0.f1 [])]))
    rw[show (length v0+length (x0::y0))=(length (v0++([(K_N.mk x0.f0 x0.f1 [])]))+length y0) from by first | omega |(simp only[LN]; done) |(simp only[LN]; omega)]
    exact z
def bare (x:K_N):K_N:=K_N.mk x.f0 x.f1 []
theorem lk108 {a:K_T}:∀ {l:List K_N} {i:Int} {v w:List K_N} {j b},r108_0 a l i v=.k0 w j b→w=v++l.map bare
  |[],i,v,w,j,b,h=>by simp only[r108_0] at h; injection h with h; subst h; simp
  |x::l,i,v,w,j,b,h=>by
    simp only[r108_0] at h
    rw[lk108 h,append_assoc]; rfl
theorem sm108 {a:K_T} {w j b} (h:SmT a) (e:r108_0 a a.f1 0 []=.k0 w j b):SmT (K_T.mk a.f0 w a.f2):=by
  rw[lk108 e]
  refine⟨?_,?_,h.2.2.1,h.2.2.2⟩
  · show length ([]++map bare a.f1)≤4
    have:=h.1; simpa using this
  · intro x hx
    simp only[List.nil_append,List.mem_map] at hx
    obtain⟨y,_,rfl⟩:=hx
    exact Nat.zero_le _
theorem so108 {a:K_T} {w j b} (e:r108_0 a a.f1 0 []=.k0 w j b):∀z∈w,ok_N z:=by
  rw[lk108 e]
  intro x hx
  simp only[List.nil_append,List.mem_map] at hx
  obtain⟨y,_,rfl⟩:=hx
  exact Nat.zero_le _
def m108 (a0:K_T):Int:=
  (match r108_0 a0 a0.f1 0 [] with | .k0 w0_0 w1_0 w2_0=>(m140 (m141 (K_T.mk a0.f0 w0_0 a0.f2))))
theorem e108 {l0_1:Nat} {l0_2:Nat} {a0:K_T} (hy0:length a0.f1*40≤140737488351232) (hy1:∀z∈a0.f1,ok_N z) (hy2:length a0.f2*32≤140737488351232) (hy3:∀z∈a0.f2,ok_U z) (hy4:SmT a0):Ev F X (.call 108 [(.agg (k_T l0_1 l0_2 a0))] [] [] [(.one (.val (.int .i64 (m108 a0))))]):=by
  unfold m108
  cases h0:r108_0 a0 a0.f1 0 [] with
  |k0 w0_0 w1_0 w2_0=>
    try dsimp only
    have zh0:=z108_0 (a0:=a0) a0.f1 0 []; rw[h0] at zh0; simp only[post108_0,length_map,length_set,length_append,length_replicate,length_cons,length_nil,Int.toNat_natCast] at zh0
    have f0:=Eq.refl (h108_0 l0_1 l0_2 a0 0 [])
    exact cp ya (.f f0 (.f (ev_ (e:=ex108_0) (g:=(fin108_0 l0_1 l0_2 a0)) h0 (t108_0 (l0_1:=l0_1) (l0_2:=l0_2) (a0:=a0) (by assumption) (by assumption) (by assumption) (by assumption) (by assumption) a0.f1 [] [] rfl (by have q:=hy4.1; simp only[length_nil]; omega))) (ln_N w0_0 (.h 26 (.loop (h108_0 l0_1 l0_2 a0 0 []) (.exit 0) (fin108_0 l0_1 l0_2 a0 (.k0 w0_0 w1_0 w2_0))) (.r 30 [] [(map b_N w0_0)] (e141 (l0_1:=0) (l0_2:=(l0_2+1)) (a0:=(K_T.mk a0.f0 w0_0 a0.f2)) yl (by exact so108 ‹_›) ‹_› ‹_› (by exact(sm108 hy4 ‹_›).1) (by exact(sm108 hy4 ‹_›).2.1) (by exact hy4.2.2.1) (by exact hy4.2.2.2)) (ln_y (m141 (K_T.mk a0.f0 w0_0 a0.f2)) (.r 32 [] [(map b_y (m141 (K_T.mk a0.f0 w0_0 a0.f2)))] (e140 (l0_0:=0) (a0:=(m141 (K_T.mk a0.f0 w0_0 a0.f2))) (by have q:=pt141 _ (sm108 hy4 ‹_›); omega)) .nil)))))))
inductive O79_0 where
  |k0 (w0:List Int) (w1:Int) (w2:Bool)
def r79_0 (a0:K_G):List K_T→Int→List Int→O79_0
  |x0::y0,i,v0=>
    (r79_0 a0 y0 (i+1) (v0++([(m108 x0)])))
  |[],i,v0=>(O79_0.k0 v0 i (decide (i <((length (map b_T a0.f4)):Int))))
def h79_0 (l0_4:Nat) (a0:K_G) (i:Int) (v0:List Int):St:=⟨[(1,(.ptr ⟨(1,0,0),[],0,0,5⟩)),(3,(.one (.ref ⟨(3,0,0),[],0,(length (map d_i v0))⟩))),(8,(.one (.bor l0_4 (map b_T a0.f4)))),(9,(.one (.val (.int .i64 ((length (map b_T a0.f4)):Int))))),(10,(.one (.val (.int .i64 i))))],[((1,0,0),.live ⟨5,[[(.val (.int .i64 a0.f0)),(.val (.int .i64 a0.f1)),(.val (.int .i64 a0.f2)),(.val (.int .i64 a0.f3)),(.bor l0_4 (map b_T a0.f4))]],[]⟩),((3,0,0),.live ⟨1,(map d_i v0),[]⟩)]⟩
def ex79_0:O79_0→VX.Exit
  |.k0 _ _ _=>(.exit 0)
def fin79_0 (l0_4:Nat) (a0:K_G):O79_0→St
  |.k0 w0 w1 w2=>⟨[(1,(.ptr ⟨(1,0,0),[],0,0,5⟩)),(3,(.one (.ref ⟨(3,0,0),[],0,(length (map d_i w0))⟩))),(8,(.one (.bor l0_4 (map b_T a0.f4)))),(9,(.one (.val (.int .i64 ((length (map b_T a0.f4)):Int))))),(10,(.one (.val (.int .i64 w1)))),(11,(.one (.val (.bool w2))))],[((1,0,0),.live ⟨5,[[(.val (.int .i64 a0.f0)),(.val (.int .i64 a0.f1)),(.val (.int .i64 a0.f2)),(.val (.int .i64 a0.f3)),(.bor l0_4 (map b_T a0.f4))]],[]⟩),((3,0,0),.live ⟨1,(map d_i w0),[]⟩)]⟩
theorem t79_0 {l0_4:Nat} {a0:K_G} (hy0:length a0.f4*56≤140737488351232) (hy1:∀z∈a0.f4,ok_T z) (hy2:length a0.f4≤4) (hy3:∀z∈a0.f4,SmT z):∀(y0:List K_T) (p:List K_T) (v0:List Int),p++y0=a0.f4→(length v0+length y0)*8≤70368744177664→length v0+length y0≤4→Ev F X (.code l79_0 (h79_0 l0_4 a0 (length p:Int) v0) (ex79_0 (r79_0 a0 y0 (length p:Int) v0)) (fin79_0 l0_4 a0 (r79_0 a0 y0 (length p:Int) v0)))
  |[],p,v0,hp0,hi0,hi1=>by
    have hc:=hcn b_T hp0
    have hj0:=hi0; try simp only[LN,Int.toNat_natCast] at hj0
    have hj1:=hi1; try simp only[LN,Int.toNat_natCast] at hj1
    exact lx 3 ya (.f (nt hc) (.h 2 (.b false) .nil)) rfl
  |x0::y0,p,v0,hp0,hi0,hi1=>by
    have hc:=hcy b_T hp0
    have Hx0:=hxy hp0
    obtain⟨Mx0_0,Mx0_1,Mx0_2,Mx0_3⟩:=hy1 x0 (List.mem_of_getElem? Hx0)
    have hlen:=hly hp0
    have hw:wrap .i64 ((length p:Int)+1)=(length p:Int)+1:=wrap64 yb
    have hj0:=hi0; try simp only[LN,Int.toNat_natCast] at hj0
    have hj1:=hi1; try simp only[LN,Int.toNat_natCast] at hj1
    simp only[r79_0]
    have f1:0≤(length p:Int):=yb
    have f4:0+(length (map d_i v0))≤(length (map d_i v0)):=yb
    have f5:1≤1:=yb
    have f6:((take 1 (drop 0 [[(.i (m108 x0))]])).all fun x=>x.all copyable)=true:=yE
    have f7:(length ((take (length (map d_i v0)) (drop 0 (map d_i v0)))++([[(.i (m108 x0))]]:List (List D))))*8≤70368744177664:=yj
    have f8:∀r∈([[(.i (m108 x0))]]:List (List D)),r.length=1:=(by unfold m108;(repeat' split)<;>simp_all<;>omega)
    have f9:((take (length (map d_i v0)) (drop 0 (map d_i v0)))++([[(.i (m108 x0))]]:List (List D)))=(map d_i (v0++([(m108 x0)]))):=yai
    have st:=ch b79_0 (h79_0 l0_4 a0 (length p:Int) v0) ⟨[(1,(.ptr ⟨(1,0,0),[],0,0,5⟩)),(3,(.one (.ref ⟨(3,0,0),[],0,(length ((take (length (map d_i v0)) (drop 0 (map d_i v0)))++([[(.i (m108 x0))]]:List (List D))))⟩))),(8,(.one (.bor l0_4 (map b_T a0.f4)))),(9,(.oi ((length (map b_T a0.f4)):Int))),(10,(.oi (wrap .i64 ((length p:Int)+1))))],[((1,0,0),.live ⟨5,[[(.i a0.f0),(.i a0.f1),(.i a0.f2),(.i a0.f3),(.bor l0_4 (map b_T a0.f4))]],[]⟩),((3,0,0),.live ⟨1,(map d_i (v0++([(m108 x0)]))),[]⟩)]⟩ .normal 28 ya (.f hc (.f f1 (.f (mp_ b_T Hx0) (.h 2 (.b true) (.h 4 (.row (b_T x0)) (.r 16 [] [] (e108 (l0_1:=(l0_4+1)) (l0_2:=(l0_4+1)) (a0:=x0) ‹_› ‹_› ‹_› ‹_› (by exact hy3 _ (List.mem_of_getElem? ‹_›))) (.f f4 (.f f5 (.f f6 (.f f7 (.f f8 (.f f9 (.f trivial (.h 20 (.b true) (.h 23 (.norm (3,0,0) (map d_i (v0++([(m108 x0)])))) .nil)))))))))))))))
    have ih:=t79_0 (l0_4:=l0_4) (a0:=a0) hy0 hy1 hy2 hy3 y0 (p++ [x0]) (v0++([(m108 x0)])) yd yo yo
    rw[pl1] at ih
    rw[show (⟨[(1,(.ptr ⟨(1,0,0),[],0,0,5⟩)),(3,(.one (.ref ⟨(3,0,0),[],0,(length ((take (length (map d_i v0)) (drop 0 (map d_i v0)))++([[(.i (m108 x0))]]:List (List D))))⟩))),(8,(.one (.bor l0_4 (map b_T a0.f4)))),(9,(.oi ((length (map b_T a0.f4)):Int))),(10,(.oi (wrap .i64 ((length p:Int)+1))))],[((1,0,0),.live ⟨5,[[(.i a0.f0),(.i a0.f1),(.i a0.f2),(.i a0.f3),(.bor l0_4 (map b_T a0.f4))]],[]⟩),((3,0,0),.live ⟨1,(map d_i (v0++([(m108 x0)]))),[]⟩)]⟩:St)=h79_0 l0_4 a0 ((length p:Int)+1) (v0++([(m108 x0)])) from(by unfold h79_0; simp[hw,take_of_length_le,d_i,ol112,ol83,ol84,ol51,ol21,four_len,high4,high2]; done)] at st
    exact .loopN st ih
def post79_0 (n0:Nat):O79_0→Prop
  |.k0 w0 _ _=>length w0=n0
theorem z79_0 {a0:K_G}:∀(y0:List K_T) (i:Int) (v0:List Int),post79_0 (length v0+length y0) (r79_0 a0 y0 i v0)
  |[],i,v0=>by
    first | trivial |(simp only[post79_0,length_nil,Nat.add_zero]; done) |(simp[post79_0]; done)
  |x0::y0,i,v0=>by
    simp only[r79_0]
    have z:=z79_0 (a0:=a0) y0 (i+1) (v0++([(m108 x0)]))
    rw[show (length v0+length (x0::y0))=(length (v0++([(m108 x0)]))+length y0) from by first | omega |(simp only[LN]; done) |(simp only[LN]; omega)]
    exact z
theorem ls79 {a:K_G}:∀ {l:List K_T} {i:Int} {v w:List Int} {j b},r79_0 a l i v=.k0 w j b→w.length=v.length+l.length
  |[],i,v,w,j,b,h=>by simp only[r79_0] at h; injection h with h; subst h; simp
  |x::l,i,v,w,j,b,h=>by
    simp only[r79_0] at h
    have q:=ls79 h
    simp only[length_append,length_cons,length_nil] at q⊢; omega
def m79 (a0:K_G):(List Int):=
  (match r79_0 a0 a0.f4 0 ([]) with | .k0 w0_0 w1_0 w2_0=>w0_0)
theorem e79 {l0_4:Nat} {a0:K_G} (hy0:length a0.f4*56≤140737488351232) (hy1:∀z∈a0.f4,ok_T z) (hy2:length a0.f4≤4) (hy3:∀z∈a0.f4,SmT z):Ev F X (.call 79 [(.agg (k_G l0_4 a0))] [] [] [(.one (.own 1 (map d_i (m79 a0))))]):=by
  unfold m79
  cases h0:r79_0 a0 a0.f4 0 ([]) with
  |k0 w0_0 w1_0 w2_0=>
    try dsimp only
    have zh0:=z79_0 (a0:=a0) a0.f4 0 ([]); rw[h0] at zh0; simp only[post79_0,length_map,length_set,length_append,length_replicate,length_cons,length_nil,Int.toNat_natCast] at zh0
    have f0:=Eq.refl (h79_0 l0_4 a0 0 ([]))
    exact cp ya (.f f0 (.f (ev_ (e:=ex79_0) (g:=(fin79_0 l0_4 a0)) h0 (t79_0 (l0_4:=l0_4) (a0:=a0) (by assumption) (by assumption) (by assumption) (by assumption) a0.f4 [] ([]) rfl yj yj)) (pe 0 (pe (length (map d_i w0_0)) (.f (pureR_i w0_0) (.h 16 (.loop (h79_0 l0_4 a0 0 ([])) (.exit 0) (fin79_0 l0_4 a0 (.k0 w0_0 w1_0 w2_0))) .nil))))))
theorem ln79 (a:K_G):length (m79 a)=length a.f4:=by
  unfold m79
  cases h:r79_0 a a.f4 0 [] with
  |k0 w j b=>
    have q:=ls79 h
    show w.length=_
    simpa using q
inductive O43_0 where
  |k0 (w0:Int) (w1:Bool)
  |k1 (w0:Int)
def r43_0 (a0:K_G):List K_T→Int→O43_0
  |x0::y0,i=>
    if((m76 x0) !=0)=true then(O43_0.k1 (m76 x0)) else
    (r43_0 a0 y0 (i+1))
  |[],i=>(O43_0.k0 i (decide (i <((length (map b_T a0.f4)):Int))))
def h43_0 (l0_4:Nat) (a0:K_G) (i:Int) :St:=⟨[(1,(.ptr ⟨(1,0,0),[],0,0,5⟩)),(38,(.one (.bor l0_4 (map b_T a0.f4)))),(39,(.one (.val (.int .i64 ((length (map b_T a0.f4)):Int))))),(40,(.one (.val (.int .i64 i))))],[((1,0,0),.live ⟨5,[[(.val (.int .i64 a0.f0)),(.val (.int .i64 a0.f1)),(.val (.int .i64 a0.f2)),(.val (.int .i64 a0.f3)),(.bor l0_4 (map b_T a0.f4))]],[]⟩)]⟩
def ex43_0:O43_0→VX.Exit
  |.k0 _ _=>(.exit 1)
  |.k1 _=>.ret
def fin43_0 (l0_4:Nat) (a0:K_G):O43_0→St
  |.k0 w0 w1=>⟨[(1,(.ptr ⟨(1,0,0),[],0,0,5⟩)),(38,(.one (.bor l0_4 (map b_T a0.f4)))),(39,(.one (.val (.int .i64 ((length (map b_T a0.f4)):Int))))),(40,(.one (.val (.int .i64 w0)))),(41,(.one (.val (.bool w1))))],[((1,0,0),.live ⟨5,[[(.val (.int .i64 a0.f0)),(.val (.int .i64 a0.f1)),(.val (.int .i64 a0.f2)),(.val (.int .i64 a0.f3)),(.bor l0_4 (map b_T a0.f4))]],[]⟩)]⟩
  |.k1 w0=>⟨[(2,(.one (.val (.int .i64 w0))))],[]⟩
theorem t43_0 {l0_4:Nat} {a0:K_G} (hy0:length a0.f4*56≤140737488351232) (hy1:∀z∈a0.f4,ok_T z):∀(y0:List K_T) (p:List K_T),p++y0=a0.f4→Ev F X (.code l43_0 (h43_0 l0_4 a0 (length p:Int)) (ex43_0 (r43_0 a0 y0 (length p:Int))) (fin43_0 l0_4 a0 (r43_0 a0 y0 (length p:Int))))
  |[],p,hp0=>by
    have hc:=hcn b_T hp0
    exact lx 3 ya (.f (nt hc) (.h 2 (.b false) .nil)) rfl
  |x0::y0,p,hp0=>by
    have hc:=hcy b_T hp0
    have Hx0:=hxy hp0
    obtain⟨Mx0_0,Mx0_1,Mx0_2,Mx0_3⟩:=hy1 x0 (List.mem_of_getElem? Hx0)
    have hlen:=hly hp0
    have hw:wrap .i64 ((length p:Int)+1)=(length p:Int)+1:=wrap64 yb
    simp only[r43_0]
    have f1:0≤(length p:Int):=yb
    have P1 {hs q} (r:PS F X hs q):=(PS.f hc (.f f1 (.f (mp_ b_T Hx0) (.h 2 (.b true) (.h 4 (.row (b_T x0)) (.r 14 [] [] (e76 (l0_1:=(l0_4+1)) (l0_2:=(l0_4+1)) (a0:=x0) ‹_› ‹_› ‹_› ‹_›) r))))))
    by_cases h_1:((m76 x0) !=0)=true
    · try simp only[if_pos h_1]
      exact lx 26 ya (P1 (.f h_1 (.h 21 (.b true) .nil))) rfl
    · try simp only[if_neg h_1]
      have ih:=t43_0 (l0_4:=l0_4) (a0:=a0) hy0 hy1 y0 (p++ [x0]) yd
      rw[pl1,← hw] at ih; rw[← hw]
      exact ly 26 ya (P1 (.f (nt h_1) (.f trivial (.h 21 (.b false) .nil)))) ih
theorem lb43 {a:K_G}:∀ {l:List K_T} {i:Int} {j b},r43_0 a l i=.k0 j b→∀x∈l,m76 x=0
  |[],i,j,b,h,x,hx=>by cases hx
  |y::l,i,j,b,h,x,hx=>by
    simp only[r43_0] at h
    split at h
    · cases h
    · rename_i h1
      rcases List.mem_cons.1 hx with rfl | hx
      · simpa using h1
      · exact lb43 h x hx
theorem ne43 {a:K_G}:∀(l:List K_T) (i:Int),r43_0 a l i≠.k1 0
  |[],i=>by simp only[r43_0]; intro h; cases h
  |y::l,i=>by
    simp only[r43_0]
    split
    · rename_i h; intro q; injection q with q; rw[q] at h; exact absurd h yG
    · exact ne43 l _
theorem in443 {a:List K_T} (h:¬(!(m41 ((length (map b_T a)):Int) 1 4))=true):1≤length a∧length a≤4:=by
  unfold m41 at h
  simp only[length_map] at h
  split at h
  · rename_i g
    simp only[decide_eq_true_eq] at g
    by_cases e:(a.length:Int)≤4
    · omega
    · simp[e] at h
  · simp at h
inductive O43_1 where
  |k0 (w0:Int) (w1:Bool)
  |k1
def r43_1 (a0:K_G):List K_T→Int→O43_1
  |x0::y0,i=>
    if(!((((length (map b_N x0.f1)):Int)==0)==(i==0)))=true then(O43_1.k1) else
    (r43_1 a0 y0 (i+1))
  |[],i=>(O43_1.k0 i (decide (i <((length (map b_T a0.f4)):Int))))
def h43_1 (l0_4:Nat) (a0:K_G) (i:Int) :St:=⟨[(1,(.ptr ⟨(1,0,0),[],0,0,5⟩)),(51,(.one (.bor l0_4 (map b_T a0.f4)))),(52,(.one (.val (.int .i64 ((length (map b_T a0.f4)):Int))))),(53,(.one (.val (.int .i64 i))))],[((1,0,0),.live ⟨5,[[(.val (.int .i64 a0.f0)),(.val (.int .i64 a0.f1)),(.val (.int .i64 a0.f2)),(.val (.int .i64 a0.f3)),(.bor l0_4 (map b_T a0.f4))]],[]⟩)]⟩
def ex43_1:O43_1→VX.Exit
  |.k0 _ _=>(.exit 3)
  |.k1=>.ret
def fin43_1 (l0_4:Nat) (a0:K_G):O43_1→St
  |.k0 w0 w1=>⟨[(1,(.ptr ⟨(1,0,0),[],0,0,5⟩)),(51,(.one (.bor l0_4 (map b_T a0.f4)))),(52,(.one (.val (.int .i64 ((length (map b_T a0.f4)):Int))))),(53,(.one (.val (.int .i64 w0)))),(54,(.one (.val (.bool w1))))],[((1,0,0),.live ⟨5,[[(.val (.int .i64 a0.f0)),(.val (.int .i64 a0.f1)),(.val (.int .i64 a0.f2)),(.val (.int .i64 a0.f3)),(.bor l0_4 (map b_T a0.f4))]],[]⟩)]⟩
  |.k1=>⟨[(2,(.one (.val (.int .i64 1))))],[]⟩
theorem t43_1 {l0_4:Nat} {a0:K_G} (hy0:length a0.f4*56≤140737488351232) (hy1:∀z∈a0.f4,ok_T z):∀(y0:List K_T) (p:List K_T),p++y0=a0.f4→Ev F X (.code l43_1 (h43_1 l0_4 a0 (length p:Int)) (ex43_1 (r43_1 a0 y0 (length p:Int))) (fin43_1 l0_4 a0 (r43_1 a0 y0 (length p:Int))))
  |[],p,hp0=>by
    have hc:=hcn b_T hp0
    exact lx 3 ya (.f (nt hc) (.h 2 (.b false) .nil)) rfl
  |x0::y0,p,hp0=>by
    have hc:=hcy b_T hp0
    have Hx0:=hxy hp0
    obtain⟨Mx0_0,Mx0_1,Mx0_2,Mx0_3⟩:=hy1 x0 (List.mem_of_getElem? Hx0)
    have hlen:=hly hp0
    have hw:wrap .i64 ((length p:Int)+1)=(length p:Int)+1:=wrap64 yb
    simp only[r43_1]
    have f1:0≤(length p:Int):=yb
    have P1 {hs q} (r:PS F X hs q):=(PS.f hc (.f f1 (.f (mp_ b_T Hx0) (.h 2 (.b true) (.h 6 (.row (b_T x0)) (.r 18 [] [] (e77 (l0_1:=(l0_4+1)) (l0_2:=(l0_4+1)) (a0:=x0)) r))))))
    by_cases h_1:(!((((length (map b_N x0.f1)):Int)==0)==((length p:Int)==0)))=true
    · try simp only[if_pos h_1]
      exact lx 28 ya (P1 (.f h_1 (.h 25 (.b true) .nil))) rfl
    · try simp only[if_neg h_1]
      have ih:=t43_1 (l0_4:=l0_4) (a0:=a0) hy0 hy1 y0 (p++ [x0]) yd
      rw[pl1,← hw] at ih; rw[← hw]
      exact ly 30 ya (P1 (.f (nt h_1) (.f trivial (.h 25 (.b false) .nil)))) ih
def m43 (a0:K_G):Int:=
  if(!(m41 a0.f0 0 2147483646))=true then 3 else
  if(!(m41 a0.f1 1 99999))=true then 3 else
    if(!(m75 a0.f2))=true then 3 else
      if(!(m41 a0.f3 0 65535))=true then 3 else
        if(!(m41 ((length (map b_T a0.f4)):Int) 1 4))=true then 2 else
          (match r43_0 a0 a0.f4 0 with | .k0 w0_22 w1_22=>(match r43_1 a0 a0.f4 0 with | .k0 w0_23 w1_23=>(if(m78 (m79 a0))=true then 6 else 0) | .k1=>1) | .k1 w0_22=>w0_22)
theorem e43 {l0_4:Nat} {a0:K_G} (hy0:length a0.f4*56≤140737488351232) (hy1:∀z∈a0.f4,ok_T z):Ev F X (.call 43 [(.agg (k_G l0_4 a0))] [] [] [(.one (.val (.int .i64 (m43 a0))))]):=by
  unfold m43
  have P0 {hs q} (r:PS F X hs q):=(PS.r 9 [] [] (e74 (a0:=a0.f0)) r)
  by_cases h0:(!(m41 a0.f0 0 2147483646))=true
  · try simp only[if_pos h0]
    exact cp ya (P0 (.f h0 (.f h0 (.f h0 (.f h0 (.f h0 (.h 14 (.b true) (.h 16 (.b true) (.h 18 (.b true) (.h 20 (.b true) (.h 23 (.b true) .nil)))))))))))
  · try simp only[if_neg h0]
    have P1 {hs q} (r:PS F X hs q):=(P0 (.f (nt h0) (.f (nt h0) (.f (nt h0) (.h 14 (.b false) (.h 16 (.b false) (.h 18 (.b false) (.r 19 [] [] (e41 (a0:=a0.f1) (a1:=1) (a2:=99999)) (.f (nt h0) (.f (nt h0) (.h 20 (.b false) (.h 23 (.b false) r))))))))))))
    by_cases h1:(!(m41 a0.f1 1 99999))=true
    · try simp only[if_pos h1]
      exact cp ya (P1 (.f h1 (.f h1 (.f h1 (.f h1 (.f h1 (.h 26 (.b true) (.h 28 (.b true) (.h 30 (.b true) (.h 32 (.b true) (.h 35 (.b true) .nil)))))))))))
    · try simp only[if_neg h1]
      have P2 {hs q} (r:PS F X hs q):=(P1 (.f (nt h1) (.f (nt h1) (.f (nt h1) (.h 26 (.b false) (.h 28 (.b false) (.h 30 (.b false) (.r 31 [] [] (e75 (a0:=a0.f2)) (.f (nt h1) (.f (nt h1) (.h 32 (.b false) (.h 35 (.b false) r))))))))))))
      by_cases h2:(!(m75 a0.f2))=true
      · try simp only[if_pos h2]
        exact cp ya (P2 (.f h2 (.f h2 (.f h2 (.f h2 (.f h2 (.h 38 (.b true) (.h 40 (.b true) (.h 42 (.b true) (.h 44 (.b true) (.h 47 (.b true) .nil)))))))))))
      · try simp only[if_neg h2]
        have P3 {hs q} (r:PS F X hs q):=(P2 (.f (nt h2) (.f (nt h2) (.f (nt h2) (.h 38 (.b false) (.h 40 (.b false) (.h 42 (.b false) (.r 43 [] [] (e41 (a0:=a0.f3) (a1:=0) (a2:=65535)) (.f (nt h2) (.f (nt h2) (.h 44 (.b false) (.h 47 (.b false) r))))))))))))
        by_cases h3:(!(m41 a0.f3 0 65535))=true
        · try simp only[if_pos h3]
          exact cp ya (P3 (.f h3 (.h 50 (.b true) .nil)))
        · try simp only[if_neg h3]
          have P4 {hs q} (r:PS F X hs q):=(P3 (.f (nt h3) (.h 50 (.b false) (.r 58 [] [] (e41 (a0:=((length (map b_T a0.f4)):Int)) (a1:=1) (a2:=4)) r))))
          by_cases h4:(!(m41 ((length (map b_T a0.f4)):Int) 1 4))=true
          · try simp only[if_pos h4]
            exact cp ya (P4 (.f h4 (.h 63 (.b true) .nil)))
          · try simp only[if_neg h4]
            have P5 {hs q} (r:PS F X hs q):=(P4 (.f (nt h4) (.h 63 (.b false) r)))
            cases h5:r43_0 a0 a0.f4 0 with
            |k0 w0_22 w1_22=>
              try dsimp only
              have f22:=Eq.refl (h43_0 l0_4 a0 0 )
              have P6 {hs q} (r:PS F X hs q):=(P5 (.f f22 (.f (ev_ (e:=ex43_0) (g:=(fin43_0 l0_4 a0)) h5 (t43_0 (l0_4:=l0_4) (a0:=a0) (by assumption) (by assumption) a0.f4 []  rfl)) (.h 72 (.loop (h43_0 l0_4 a0 0) (.exit 1) (fin43_0 l0_4 a0 (.k0 w0_22 w1_22))) r))))
              cases h6:r43_1 a0 a0.f4 0 with
              |k0 w0_23 w1_23=>
                try dsimp only
                have f24:=Eq.refl (h43_1 l0_4 a0 0 )
                have f28:Ev F X (.call 78 [(.one (.ref ⟨(0,0,0),[],0,(length (map d_i (m79 a0)))⟩))] [((0,0,0),⟨1,(map d_i (m79 a0)),[]⟩)] [] [(.one (.val (.bool (m78 (m79 a0)))))]):=(e78 (a0:=(m79 a0)) (by rw[ln79]; have q:=(in443 ‹_›).2; omega))
                have P7 {hs q} (r:PS F X hs q):=(P6 (.f f24 (.f (ev_ (e:=ex43_1) (g:=(fin43_1 l0_4 a0)) h6 (t43_1 (l0_4:=l0_4) (a0:=a0) (by assumption) (by assumption) a0.f4 []  rfl)) (.h 81 (.loop (h43_1 l0_4 a0 0) (.exit 3) (fin43_1 l0_4 a0 (.k0 w0_23 w1_23))) (.r 85 [] [] (e79 (l0_4:=(l0_4+1)) (a0:=a0) ‹_› ‹_› (by exact(in443 ‹_›).2) (by exact fun z hz=>ft76 (lb43 ‹_› z hz))) (.f (pureR_i (m79 a0)) (.r 87 [true] [] f28 r)))))))
                by_cases h7:(m78 (m79 a0))=true
                · try simp only[if_pos h7]
                  exact cp ya (P7 (.f h7 (.h 88 (.b true) .nil)))
                · try simp only[if_neg h7]
                  exact cp ya (P7 (.f (nt h7) (.h 88 (.b false) .nil)))
              |k1=>
                try dsimp only
                have f24:=Eq.refl (h43_1 l0_4 a0 0 )
                exact cp ya (P6 (.f f24 (.f (ev_ (e:=ex43_1) (g:=(fin43_1 l0_4 a0)) h6 (t43_1 (l0_4:=l0_4) (a0:=a0) (by assumption) (by assumption) a0.f4 []  rfl)) (.h 81 (.loop (h43_1 l0_4 a0 0) .ret (fin43_1 l0_4 a0 (.k1))) .nil))))
            |k1 w0_22=>
              try dsimp only
              have f22:=Eq.refl (h43_0 l0_4 a0 0 )
              exact cp ya (P5 (.f f22 (.f (ev_ (e:=ex43_0) (g:=(fin43_0 l0_4 a0)) h5 (t43_0 (l0_4:=l0_4) (a0:=a0) (by assumption) (by assumption) a0.f4 []  rfl)) (.h 72 (.loop (h43_0 l0_4 a0 0) .ret (fin43_0 l0_4 a0 (.k1 w0_22))) .nil))))
theorem bs43 {a:K_G} (h:m43 a=0):1≤length a.f4∧length a.f4≤4∧∀z∈a.f4,SmT z:=by
  unfold m43 at h
  iterate 5 (split at h; exact absurd h yG)
  rename_i c2
  cases hr:r43_0 a a.f4 0 with
  |k1 w=>rw[hr] at h; simp only[] at h; subst h; exact absurd hr (ne43 _ _)
  |k0 j b=>exact⟨(in443 c2).1,(in443 c2).2,fun z hz=>ft76 (lb43 hr z hz)⟩
theorem bt43 {a:K_G} (h:m43 a=0):1≤a.f2∧a.f2≤1023:=by
  by_cases c:(!(m75 a.f2))=true
  · exfalso
    unfold m43 at h
    simp only[if_pos c] at h
    (repeat' split at h)<;>first | exact absurd h yG | omega
  · simp only[Bool.not_eq_true',Bool.not_eq_false] at c
    unfold m75 at c
    split at c
    · rename_i c2; exact jn41 (by simpa using c2)
    · cases c
theorem e72 {a0:Int}:Ev F X (.call 72 [(.one (.val (.int .i64 a0)))] [] [] [(.one (.val (.bool (m41 a0 0 9999))))]):=by
  exact cp ya (.r 5 [] [] (e41 (a0:=a0) (a1:=0) (a2:=9999)) .nil)
inductive O40_0 where
  |k0 (w0:Int) (w1:Bool)
  |k1
  |k2 (w0:Int)
  |k3
def r40_0 (a0:(List K_J)):List K_J→Int→O40_0
  |x0::y0,i=>
    if(!(m41 x0.f0 0 9999))=true then(O40_0.k1) else
    if((m43 (K_G.mk x0.f1 x0.f2 x0.f3 x0.f4 x0.f5)) !=0)=true then(O40_0.k2 (m43 (K_G.mk x0.f1 x0.f2 x0.f3 x0.f4 x0.f5))) else
      if(((length (map b_U ((getD x0.f5 0 (K_T.mk 0 [] [])).f2))):Int) !=2)=true then(O40_0.k3) else
        if (decide (i > 0)) = true then (if (decide (((getD a0 (toNat (wrap .i64 (i - 1))) (K_J.mk 0 0 0 0 0 [])).f0) ≥ x0.f0)) = true then (O40_0.k3) else
            (r40_0 a0 y0 (i+1))) else
          (r40_0 a0 y0 (i+1))
  |[],i=>(O40_0.k0 i (decide (i <((length (map b_J a0)):Int))))
def h40_0 (l0_0:Nat) (a0:(List K_J)) (i:Int) :St:=⟨[(0,(.one (.bor l0_0 (map b_J a0)))),(9,(.one (.bor l0_0 (map b_J a0)))),(10,(.one (.val (.int .i64 ((length (map b_J a0)):Int))))),(11,(.one (.val (.int .i64 i))))],[]⟩
def ex40_0:O40_0→VX.Exit
  |.k0 _ _=>(.exit 0)
  |.k1=>.ret
  |.k2 _=>.ret
  |.k3=>.ret
def fin40_0 (l0_0:Nat) (a0:(List K_J)):O40_0→St
  |.k0 w0 w1=>⟨[(0,(.one (.bor l0_0 (map b_J a0)))),(9,(.one (.bor l0_0 (map b_J a0)))),(10,(.one (.val (.int .i64 ((length (map b_J a0)):Int))))),(11,(.one (.val (.int .i64 w0)))),(12,(.one (.val (.bool w1))))],[]⟩
  |.k1=>⟨[(2,(.one (.val (.int .i64 3))))],[]⟩
  |.k2 w0=>⟨[(2,(.one (.val (.int .i64 w0))))],[]⟩
  |.k3=>⟨[(2,(.one (.val (.int .i64 1))))],[]⟩
theorem t40_0 {l0_0:Nat} {a0:(List K_J)} (hy0:length a0*64≤140737488351232) (hy1:∀z∈a0,ok_J z):∀(y0:List K_J) (p:List K_J),p++y0=a0→Ev F X (.code l40_0 (h40_0 l0_0 a0 (length p:Int)) (ex40_0 (r40_0 a0 y0 (length p:Int))) (fin40_0 l0_0 a0 (r40_0 a0 y0 (length p:Int))))
  |[],p,hp0=>by
    have hc:=hcn b_J hp0
    exact lx 3 ya (.f (nt hc) (.h 2 (.b false) .nil)) rfl
  |x0::y0,p,hp0=>by
    have hc:=hcy b_J hp0
    have Hx0:=hxy hp0
    obtain⟨Mx0_0,Mx0_1⟩:=hy1 x0 (List.mem_of_getElem? Hx0)
    have hlen:=hly hp0
    have hw:wrap .i64 ((length p:Int)+1)=(length p:Int)+1:=wrap64 yb
    simp only[r40_0]
    have f1:0≤(length p:Int):=yb
    have P1 {hs q} (r:PS F X hs q):=(PS.f hc (.f f1 (.f (mp_ b_J Hx0) (.h 2 (.b true) (.h 6 (.row (b_J x0)) (.r 20 [] [] (e72 (a0:=x0.f0)) r))))))
    by_cases h_1:(!(m41 x0.f0 0 9999))=true
    · try simp only[if_pos h_1]
      exact lx 26 ya (P1 (.f h_1 (.h 23 (.b true) .nil))) rfl
    · try simp only[if_neg h_1]
      have P2 {hs q} (r:PS F X hs q):=(P1 (.f (nt h_1) (.h 23 (.b false) (.r 29 [] [] (e43 (l0_4:=(l0_0+1)) (a0:=(K_G.mk x0.f1 x0.f2 x0.f3 x0.f4 x0.f5)) ‹_› ‹_›) r))))
      by_cases h_2:((m43 (K_G.mk x0.f1 x0.f2 x0.f3 x0.f4 x0.f5)) !=0)=true
      · try simp only[if_pos h_2]
        exact lx 41 ya (P2 (.f h_2 (.h 36 (.b true) .nil))) rfl
      · try simp only[if_neg h_2]
        have f7:0≤(0:Int):=yb
        have P3 {hs q} (r:PS F X hs q):=(P2 (.f (nt h_2) (.f f7 (.f (mp_ b_T (getD_at x0.f5 0 (K_T.mk 0 [] []) (by have q:=(bs43 (a:=K_G.mk x0.f1 x0.f2 x0.f3 x0.f4 x0.f5) (by simpa using h_2)).1; exact q))) (.h 36 (.b false) (.h 44 (.row (b_T (getD x0.f5 0 (K_T.mk 0 [] [])))) r))))))
        by_cases h_3:(((length (map b_U ((getD x0.f5 0 (K_T.mk 0 [] [])).f2))):Int) !=2)=true
        · try simp only[if_pos h_3]
          exact lx 86 ya (P3 (.f h_3 (.f h_3 (.f h_3 (.f h_3 (.f h_3 (.h 55 (.b true) (.h 57 (.b true) (.h 59 (.b true) (.h 79 (.b true) (.h 82 (.b true) .nil))))))))))) rfl
        · try simp only[if_neg h_3]
          have P4 {hs q} (r:PS F X hs q):=(P3 (.f (nt h_3) (.f (nt h_3) (.f (nt h_3) (.h 55 (.b false) (.h 57 (.b false) (.h 59 (.b false) r)))))))
          by_cases h_4:(decide ((length p:Int) > 0))=true
          · try simp only[if_pos h_4]
            have f16:0≤(wrap .i64 ((length p:Int) - 1)):=yR
            have P5 {hs q} (r:PS F X hs q):=(P4 (.f h_4 (.f h_4 (.f h_4 (.f h_4 (.f f16 (.f (mp_ b_J (getD_at a0 (toNat (wrap .i64 ((length p:Int) - 1))) (K_J.mk 0 0 0 0 0 []) yR)) (.f h_4 (.f h_4 (.f h_4 (.f h_4 (.f h_4 (.f (nt h_3) (.f h_4 (.f (nt h_3) (.h 61 (.b true) (.h 63 (.b true) (.h 65 (.b true) (.h 67 (.b true) (.h 68 (.row (b_J (getD a0 (toNat (wrap .i64 ((length p:Int) - 1))) (K_J.mk 0 0 0 0 0 [])))) (.h 69 (.b true) (.h 71 (.b true) (.h 73 (.b true) (.h 75 (.b true) (.h 77 (.b true) (.h 79 (.b false) (.h 80 (.b true) (.h 82 (.b false) r))))))))))))))))))))))))))))
            by_cases h_5:(decide (((getD a0 (toNat (wrap .i64 ((length p:Int) - 1))) (K_J.mk 0 0 0 0 0 [])).f0)≥x0.f0))=true
            · try simp only[if_pos h_5]
              exact lx 86 ya (P5 (.f h_5 (.h 83 (.b true) .nil))) rfl
            · try simp only[if_neg h_5]
              have ih:=t40_0 (l0_0:=l0_0) (a0:=a0) hy0 hy1 y0 (p++ [x0]) yd
              rw[pl1,← hw] at ih; rw[← hw]
              exact ly 88 ya (P5 (.f (nt h_5) (.f trivial (.h 83 (.b false) .nil)))) ih
          · try simp only[if_neg h_4]
            have ih:=t40_0 (l0_0:=l0_0) (a0:=a0) hy0 hy1 y0 (p++ [x0]) yd
            rw[pl1,← hw] at ih; rw[← hw]
            exact ly 88 ya (P4 (.f (nt h_4) (.f (nt h_4) (.f (nt h_4) (.f (nt h_4) (.f (nt h_4) (.f (nt h_4) (.f (nt h_4) (.f (nt h_4) (.f (nt h_4) (.f (nt h_3) (.f (nt h_4) (.f (nt h_3) (.f trivial (.h 61 (.b false) (.h 63 (.b false) (.h 65 (.b false) (.h 67 (.b false) (.h 69 (.b false) (.h 71 (.b false) (.h 73 (.b false) (.h 75 (.b false) (.h 77 (.b false) (.h 79 (.b false) (.h 80 (.b false) (.h 82 (.b false) .nil)))))))))))))))))))))))))) ih
theorem jl40 {a:List K_J}:∀ {l:List K_J} {i:Int} {j b},r40_0 a l i=.k0 j b→∀x∈l,SmJ x
  |[],i,j,b,h,x,hx=>by cases hx
  |y::l,i,j,b,h,x,hx=>by
    simp only[r40_0] at h
    split at h
    · cases h
    · split at h
      · cases h
      · split at h
        · cases h
        · rename_i c1 c2
          have q:=bs43 (a:=(K_G.mk y.f1 y.f2 y.f3 y.f4 y.f5)) (by simpa using c1)
          simp only[length_map,bne_iff_ne,ne_eq,Decidable.not_not] at c2
          have y0:SmJ y:=⟨q.1,q.2.1,q.2.2,by omega⟩
          have ih:∀j b,r40_0 a l (i+1)=.k0 j b→SmJ x:=fun j b e=>by
            rcases List.mem_cons.1 hx with rfl | hx
            · exact y0
            · exact jl40 e x hx
          (repeat' split at h)<;>first | exact ih _ _ h | cases h
theorem nj40 {a:List K_J}:∀(l:List K_J) (i:Int),r40_0 a l i≠.k2 0
  |[],i=>by simp only[r40_0]; intro h; cases h
  |y::l,i=>by
    simp only[r40_0]
    (repeat' split)<;>first | exact nj40 l _ |(intro q; cases q; done) |(rename_i h; intro q; injection q with q; rw[q] at h; exact absurd h yG) |(intro q; injection q with q; simp_all)
def m40 (a0:(List K_J)):Int:=
  if(decide (((length (map b_J a0)):Int) > 4))=true then 2 else
  (match r40_0 a0 a0 0 with | .k0 w0_1 w1_1=>0 | .k1=>3 | .k2 w0_1=>w0_1 | .k3=>1)
theorem e40 {l0_0:Nat} {a0:(List K_J)} (hy0:length a0*64≤140737488351232) (hy1:∀z∈a0,ok_J z):Ev F X (.call 40 [(.one (.bor l0_0 (map b_J a0)))] [] [] [(.one (.val (.int .i64 (m40 a0))))]):=by
  unfold m40
  by_cases h0:(decide (((length (map b_J a0)):Int) > 4))=true
  · try simp only[if_pos h0]
    exact cp ya (.f h0 (.h 8 (.b true) .nil))
  · try simp only[if_neg h0]
    have P1 {hs q} (r:PS F X hs q):=(PS.f (nt h0) (.h 8 (.b false) r))
    cases h1:r40_0 a0 a0 0 with
    |k0 w0_1 w1_1=>
      try dsimp only
      have f1:=Eq.refl (h40_0 l0_0 a0 0 )
      exact cp ya (P1 (.f f1 (.f (ev_ (e:=ex40_0) (g:=(fin40_0 l0_0 a0)) h1 (t40_0 (l0_0:=l0_0) (a0:=a0) (by assumption) (by assumption) a0 []  rfl)) (.h 15 (.loop (h40_0 l0_0 a0 0) (.exit 0) (fin40_0 l0_0 a0 (.k0 w0_1 w1_1))) .nil))))
    |k1=>
      try dsimp only
      have f1:=Eq.refl (h40_0 l0_0 a0 0 )
      exact cp ya (P1 (.f f1 (.f (ev_ (e:=ex40_0) (g:=(fin40_0 l0_0 a0)) h1 (t40_0 (l0_0:=l0_0) (a0:=a0) (by assumption) (by assumption) a0 []  rfl)) (.h 15 (.loop (h40_0 l0_0 a0 0) .ret (fin40_0 l0_0 a0 (.k1))) .nil))))
    |k2 w0_1=>
      try dsimp only
      have f1:=Eq.refl (h40_0 l0_0 a0 0 )
      exact cp ya (P1 (.f f1 (.f (ev_ (e:=ex40_0) (g:=(fin40_0 l0_0 a0)) h1 (t40_0 (l0_0:=l0_0) (a0:=a0) (by assumption) (by assumption) a0 []  rfl)) (.h 15 (.loop (h40_0 l0_0 a0 0) .ret (fin40_0 l0_0 a0 (.k2 w0_1))) .nil))))
    |k3=>
      try dsimp only
      have f1:=Eq.refl (h40_0 l0_0 a0 0 )
      exact cp ya (P1 (.f f1 (.f (ev_ (e:=ex40_0) (g:=(fin40_0 l0_0 a0)) h1 (t40_0 (l0_0:=l0_0) (a0:=a0) (by assumption) (by assumption) a0 []  rfl)) (.h 15 (.loop (h40_0 l0_0 a0 0) .ret (fin40_0 l0_0 a0 (.k3))) .nil))))
theorem js40 {a:List K_J} (h:m40 a=0):length a≤4∧∀z∈a,SmJ z:=by
  unfold m40 at h
  split at h
  · exact absurd h yG
  · rename_i c
    simp only[decide_eq_true_eq,length_map] at c
    cases hr:r40_0 a a 0 with
    |k0 j b=>exact⟨by omega,jl40 hr⟩
    |k2 w=>rw[hr] at h; simp only[] at h; subst h; exact absurd hr (nj40 _ _)
    |_=>rw[hr] at h; exact absurd h yG
def m58 (a0:K_KY):Bool:=
  if (m41 a0.f0 0 9999) = true then (if (m41 a0.f1 0 999) = true then (if (m41 a0.f2 0 99999) = true then (m41 a0.f3 0 65535) else
      false) else
    false) else
  false
theorem e58 {a0:K_KY}:Ev F X (.call 58 [(.agg [(.val (.int .i64 a0.f0)),(.val (.int .i64 a0.f1)),(.val (.int .i64 a0.f2)),(.val (.int .i64 a0.f3))])] [] [] [(.one (.val (.bool (m58 a0))))]):=by
  unfold m58
  have P0 {hs q} (r:PS F X hs q):=(PS.r 9 [] [] (e72 (a0:=a0.f0)) r)
  by_cases h0:(m41 a0.f0 0 9999)=true
  · try simp only[if_pos h0]
    have P1 {hs q} (r:PS F X hs q):=(P0 (.f h0 (.f h0 (.f h0 (.h 12 (.b true) (.h 14 (.b true) (.h 16 (.b true) (.r 17 [] [] (e41 (a0:=a0.f1) (a1:=0) (a2:=999)) (.f h0 (.h 19 (.b true) r))))))))))
    by_cases h1:(m41 a0.f1 0 999)=true
    · try simp only[if_pos h1]
      have P2 {hs q} (r:PS F X hs q):=(P1 (.f h1 (.f h1 (.f h1 (.h 22 (.b true) (.h 24 (.b true) (.h 26 (.b true) (.r 27 [] [] (e41 (a0:=a0.f2) (a1:=0) (a2:=99999)) (.f h1 (.h 29 (.b true) r))))))))))
      by_cases h2:(m41 a0.f2 0 99999)=true
      · try simp only[if_pos h2]
        exact cp ya (P2 (.f h2 (.f h2 (.f h2 (.h 32 (.b true) (.h 34 (.b true) (.h 36 (.b true) (.r 37 [] [] (e41 (a0:=a0.f3) (a1:=0) (a2:=65535)) (.f h2 (.h 39 (.b true) .nil))))))))))
      · try simp only[if_neg h2]
        exact cp ya (P2 (.f (nt h2) (.f (nt h2) (.f (nt h2) (.f (nt h2) (.h 32 (.b false) (.h 34 (.b false) (.h 36 (.b false) (.h 39 (.b false) .nil)))))))))
    · try simp only[if_neg h1]
      exact cp ya (P1 (.f (nt h1) (.f (nt h1) (.f (nt h1) (.f (nt h1) (.h 22 (.b false) (.h 24 (.b false) (.h 26 (.b false) (.h 29 (.b false) .nil)))))))))
  · try simp only[if_neg h0]
    exact cp ya (P0 (.f (nt h0) (.f (nt h0) (.f (nt h0) (.f (nt h0) (.h 12 (.b false) (.h 14 (.b false) (.h 16 (.b false) (.h 19 (.b false) .nil)))))))))
inductive O115_0 where
  |k0 (w0:Int) (w1:Bool)
  |k1 (w0:Int)
def r115_0 (a0:(List K_KY)) (a1:K_KY):List K_KY→Int→O115_0
  |x0::y0,i=>
    if((a1.f0==x0.f0) &&((a1.f1==x0.f1) &&((a1.f2==x0.f2) &&((a1.f3==x0.f3) && true))))=true then(O115_0.k1 i) else
    (r115_0 a0 a1 y0 (i+1))
  |[],i=>(O115_0.k0 i (decide (i <((length (map b_KY a0)):Int))))
def h115_0 (l0_0:Nat) (a0:(List K_KY)) (a1:K_KY) (i:Int) :St:=⟨[(0,(.one (.bor l0_0 (map b_KY a0)))),(3,(.ptr ⟨(3,0,0),[],0,0,4⟩)),(7,(.one (.val (.int .i64 ((length (map b_KY a0)):Int))))),(8,(.one (.val (.int .i64 i))))],[((3,0,0),.live ⟨4,[[(.val (.int .i64 a1.f0)),(.val (.int .i64 a1.f1)),(.val (.int .i64 a1.f2)),(.val (.int .i64 a1.f3))]],[]⟩)]⟩
def ex115_0:O115_0→VX.Exit
  |.k0 _ _=>(.exit 0)
  |.k1 _=>.ret
def fin115_0 (l0_0:Nat) (a0:(List K_KY)) (a1:K_KY):O115_0→St
  |.k0 w0 w1=>⟨[(0,(.one (.bor l0_0 (map b_KY a0)))),(3,(.ptr ⟨(3,0,0),[],0,0,4⟩)),(7,(.one (.val (.int .i64 ((length (map b_KY a0)):Int))))),(8,(.one (.val (.int .i64 w0)))),(9,(.one (.val (.bool w1))))],[((3,0,0),.live ⟨4,[[(.val (.int .i64 a1.f0)),(.val (.int .i64 a1.f1)),(.val (.int .i64 a1.f2)),(.val (.int .i64 a1.f3))]],[]⟩)]⟩
  |.k1 w0=>⟨[(4,(.one (.val (.int .i64 w0))))],[]⟩
theorem t115_0 {l0_0:Nat} {a0:(List K_KY)} {a1:K_KY} (hy0:length a0*32≤140737488351232):∀(y0:List K_KY) (p:List K_KY),p++y0=a0→Ev F X (.code l115_0 (h115_0 l0_0 a0 a1 (length p:Int)) (ex115_0 (r115_0 a0 a1 y0 (length p:Int))) (fin115_0 l0_0 a0 a1 (r115_0 a0 a1 y0 (length p:Int))))
  |[],p,hp0=>by
    have hc:=hcn b_KY hp0
    exact lx 3 ya (.f (nt hc) (.h 2 (.b false) .nil)) rfl
  |x0::y0,p,hp0=>by
    have hc:=hcy b_KY hp0
    have Hx0:=hxy hp0
    have hlen:=hly hp0
    have hw:wrap .i64 ((length p:Int)+1)=(length p:Int)+1:=wrap64 yb
    simp only[r115_0]
    have f1:0≤(length p:Int):=yb
    have P1 {hs q} (r:PS F X hs q):=(PS.f hc (.f f1 (.f (mp_ b_KY Hx0) (.h 2 (.b true) (.h 14 (.row (b_KY x0)) r)))))
    by_cases h_1:((a1.f0==x0.f0) &&((a1.f1==x0.f1) &&((a1.f2==x0.f2) &&((a1.f3==x0.f3) && true))))=true
    · try simp only[if_pos h_1]
      exact lx 24 ya (P1 (.f h_1 (.h 19 (.b true) .nil))) rfl
    · try simp only[if_neg h_1]
      have ih:=t115_0 (l0_0:=l0_0) (a0:=a0) (a1:=a1) hy0 y0 (p++ [x0]) yd
      rw[pl1,← hw] at ih; rw[← hw]
      exact ly 24 ya (P1 (.f (nt h_1) (.f trivial (.h 19 (.b false) .nil)))) ih
def m115 (a0:(List K_KY)) (a1:K_KY):Int:=
  (match r115_0 a0 a1 a0 0 with | .k0 w0_0 w1_0=>(-1) | .k1 w0_0=>w0_0)
theorem e115 {l0_0:Nat} {a0:(List K_KY)} {a1:K_KY} (hy0:length a0*32≤140737488351232):Ev F X (.call 115 [(.one (.bor l0_0 (map b_KY a0))),(.agg [(.val (.int .i64 a1.f0)),(.val (.int .i64 a1.f1)),(.val (.int .i64 a1.f2)),(.val (.int .i64 a1.f3))])] [] [] [(.one (.val (.int .i64 (m115 a0 a1))))]):=by
  unfold m115
  cases h0:r115_0 a0 a1 a0 0 with
  |k0 w0_0 w1_0=>
    try dsimp only
    have f0:=Eq.refl (h115_0 l0_0 a0 a1 0 )
    exact cp ya (.f f0 (.f (ev_ (e:=ex115_0) (g:=(fin115_0 l0_0 a0 a1)) h0 (t115_0 (l0_0:=l0_0) (a0:=a0) (a1:=a1) (by assumption) a0 []  rfl)) (.h 10 (.loop (h115_0 l0_0 a0 a1 0) (.exit 0) (fin115_0 l0_0 a0 a1 (.k0 w0_0 w1_0))) .nil)))
  |k1 w0_0=>
    try dsimp only
    have f0:=Eq.refl (h115_0 l0_0 a0 a1 0 )
    exact cp ya (.f f0 (.f (ev_ (e:=ex115_0) (g:=(fin115_0 l0_0 a0 a1)) h0 (t115_0 (l0_0:=l0_0) (a0:=a0) (a1:=a1) (by assumption) a0 []  rfl)) (.h 10 (.loop (h115_0 l0_0 a0 a1 0) .ret (fin115_0 l0_0 a0 a1 (.k1 w0_0))) .nil)))
theorem e89 {l0_0:Nat} {a0:(List K_KY)} {a1:K_KY} (hy0:length a0*32≤140737488351232):Ev F X (.call 89 [(.one (.bor l0_0 (map b_KY a0))),(.agg [(.val (.int .i64 a1.f0)),(.val (.int .i64 a1.f1)),(.val (.int .i64 a1.f2)),(.val (.int .i64 a1.f3))])] [] [] [(.one (.val (.bool (decide ((m115 a0 a1)≥0)))))]):=by
  exact cp ya (.r 9 [] [] (e115 (l0_0:=(l0_0+1)) (a0:=a0) (a1:=a1) ‹_›) .nil)
inductive O57_0 where
  |k0 (w0:Int) (w1:Bool)
  |k1
  |k2
def r57_0 (a0:(List K_KY)):List K_KY→Int→O57_0
  |x0::y0,i=>
    if(!(m58 x0))=true then(O57_0.k1) else
    if(decide ((m115 (take (toNat i) a0) x0)≥0))=true then(O57_0.k2) else
      (r57_0 a0 y0 (i+1))
  |[],i=>(O57_0.k0 i (decide (i <((length (map b_KY a0)):Int))))
def h57_0 (l0_0:Nat) (a0:(List K_KY)) (i:Int) :St:=⟨[(0,(.one (.bor l0_0 (map b_KY a0)))),(8,(.one (.bor l0_0 (map b_KY a0)))),(9,(.one (.val (.int .i64 ((length (map b_KY a0)):Int))))),(10,(.one (.val (.int .i64 i))))],[]⟩
def ex57_0:O57_0→VX.Exit
  |.k0 _ _=>(.exit 0)
  |.k1=>.ret
  |.k2=>.ret
def fin57_0 (l0_0:Nat) (a0:(List K_KY)):O57_0→St
  |.k0 w0 w1=>⟨[(0,(.one (.bor l0_0 (map b_KY a0)))),(8,(.one (.bor l0_0 (map b_KY a0)))),(9,(.one (.val (.int .i64 ((length (map b_KY a0)):Int))))),(10,(.one (.val (.int .i64 w0)))),(11,(.one (.val (.bool w1))))],[]⟩
  |.k1=>⟨[(2,(.one (.val (.int .i64 3))))],[]⟩
  |.k2=>⟨[(2,(.one (.val (.int .i64 6))))],[]⟩
theorem t57_0 {l0_0:Nat} {a0:(List K_KY)} (hy0:length a0*32≤140737488351232):∀(y0:List K_KY) (p:List K_KY),p++y0=a0→Ev F X (.code l57_0 (h57_0 l0_0 a0 (length p:Int)) (ex57_0 (r57_0 a0 y0 (length p:Int))) (fin57_0 l0_0 a0 (r57_0 a0 y0 (length p:Int))))
  |[],p,hp0=>by
    have hc:=hcn b_KY hp0
    exact lx 3 ya (.f (nt hc) (.h 2 (.b false) .nil)) rfl
  |x0::y0,p,hp0=>by
    have hc:=hcy b_KY hp0
    have Hx0:=hxy hp0
    have hlen:=hly hp0
    have hw:wrap .i64 ((length p:Int)+1)=(length p:Int)+1:=wrap64 yb
    simp only[r57_0]
    have f1:0≤(length p:Int):=yb
    have P1 {hs q} (r:PS F X hs q):=(PS.f hc (.f f1 (.f (mp_ b_KY Hx0) (.h 2 (.b true) (.h 6 (.row (b_KY x0)) (.r 18 [] [] (e58 (a0:=x0)) r))))))
    by_cases h_1:(!(m58 x0))=true
    · try simp only[if_pos h_1]
      exact lx 26 ya (P1 (.f h_1 (.h 23 (.b true) .nil))) rfl
    · try simp only[if_neg h_1]
      have f5:(0≤(0:Int)∧(0:Int)≤(length p:Int)∧(length p:Int)≤((length (map b_KY a0)):Int))∧∀r∈((map b_KY a0):List (List B)),r.length=4:=(by refine⟨?_,lenB_KY _⟩; simp only[LN]; omega)
      have f6:Ev F X (.call 89 [(.one (.bor (l0_0+1) (take (toNat (length p:Int) - toNat 0) (drop 0 (map b_KY a0))))),(.agg [(.i x0.f0),(.i x0.f1),(.i x0.f2),(.i x0.f3)])] [] [] [(.one (.val (.bool (decide ((m115 (take (toNat (length p:Int)) a0) x0)≥0)))))]):=(by rw[show (take (toNat (length p:Int) - toNat 0) (drop 0 (map b_KY a0)))=(map b_KY (take (toNat (length p:Int)) a0)) from by first | rfl |(simp[map_take,map_drop,ol112,ol83,ol84,ol51,ol21,four_len,high4,high2]; done) |(simp[byteRows_eq,map_take,map_drop,ol112,ol83,ol84,ol51,ol21,four_len,high4,high2]; done) |(simp[*,map_take,map_drop,ol112,ol83,ol84,ol51,ol21,four_len,high4,high2]; done) |(rw[take_of_length_le (by simp only[length_drop,length_take,length_map,Int.toNat_natCast]; omega)]; simp only[← map_drop,← map_take])]; exact(e89 (l0_0:=(l0_0+1)) (a0:=(take (toNat (length p:Int)) a0)) (a1:=x0) (by simp only[length_take]; omega)))
      by_cases h_2:(decide ((m115 (take (toNat (length p:Int)) a0) x0)≥0))=true
      · try simp only[if_pos h_2]
        exact lx 39 ya (P1 (.f (nt h_1) (.f f5 (.h 23 (.b false) (.r 33 [] [] f6 (.f h_2 (.h 36 (.b true) .nil))))))) rfl
      · try simp only[if_neg h_2]
        have ih:=t57_0 (l0_0:=l0_0) (a0:=a0) hy0 y0 (p++ [x0]) yd
        rw[pl1,← hw] at ih; rw[← hw]
        exact ly 41 ya (P1 (.f (nt h_1) (.f f5 (.h 23 (.b false) (.r 33 [] [] f6 (.f (nt h_2) (.f trivial (.h 36 (.b false) .nil)))))))) ih
end Go.Proofs.YtmdocdnidilaiaaGreat.CheckShare
