/- What the functions compute. -/
import Derived.Test.YtmdocdnidilaiaaGreatECheckShareC
import Derived.KernelRfl
namespace Go.Proofs.YtmdocdnidilaiaaGreat.CheckShare
open Go Go.Proofs.YtmdocdnidilaiaaGreat.V
set_option linter.unusedVariables false
set_option linter.unusedSimpArgs false
set_option maxRecDepth 20000
open Go.IntKind (wrap)
open Int (toNat)
open List (length_replicate length_map length_set length_append length_cons length_nil length_take length_drop take_of_length_le map_take map_drop map_set append_assoc getElem?_map map length take drop getD set)
attribute [local simp] toBR_i fullR_i pureR_i lenB_i lenD_i fromBR_i copy_i toBR_N fullR_N pureR_N lenB_N lenD_N toBR_U fullR_U pureR_U lenB_U lenD_U toBR_T fullR_T pureR_T lenB_T lenD_T toBR_J fullR_J pureR_J lenB_J lenD_J toBR_JL fullR_JL pureR_JL lenB_JL lenD_JL toBR_KY fullR_KY pureR_KY lenB_KY lenD_KY fromBR_KY copy_KY toBR_LiiiiE fullR_LiiiiE pureR_LiiiiE lenB_LiiiiE lenD_LiiiiE toBR_b fullR_b pureR_b lenB_b lenD_b fromBR_b copy_b toBR_SR fullR_SR pureR_SR lenB_SR lenD_SR toBR_G fullR_G pureR_G lenB_G lenD_G toBR_TL fullR_TL pureR_TL lenB_TL lenD_TL toBR_LiE fullR_LiE pureR_LiE lenB_LiE lenD_LiE toBR_NL fullR_NL pureR_NL lenB_NL lenD_NL toBR_UL fullR_UL pureR_UL lenB_UL lenD_UL strInts_len byteRows_len toBR_y fullR_y pureR_y lenB_y lenD_y fromBR_y copy_y toBR_LyE fullR_LyE pureR_LyE lenB_LyE lenD_LyE toBR_LLyEE fullR_LLyEE pureR_LLyEE lenB_LLyEE lenD_LLyEE
def m129 (a0:K_T) (a1:Bool):(List Int):=
  (match r129_0 a0 a1 a0.f1 0 ((m151 a0.f0)++(m151 ((length (map b_N a0.f1)):Int))) with | .k0 w0_4 w1_4 w2_4=>(match r129_1 a0 a0.f2 0 (w0_4++(m151 ((length (map b_U a0.f2)):Int))) with | .k0 w0_8 w1_8 w2_8=>w0_8))
theorem e129 {l0:Nat} {a0:K_T} {a1:Bool} (hy0:length a0.f1*40≤140737488351232) (hy1:∀z∈a0.f1,ok_N z) (hy2:length a0.f2*32≤140737488351232) (hy3:∀z∈a0.f2,ok_U z) (hy4:length a0.f1≤4) (hy5:∀z∈a0.f1,length z.f2≤8) (hy6:length a0.f2≤4) (hy7:∀z∈a0.f2,length z.f1≤12):Ev F X (.call 129 [(.bptr l0 (b_T a0)),(.one (.val (.bool a1)))] [] [] [(.one (.own 1 (map d_y (m129 a0 a1))))]):=by
  unfold m129
  have f2:0+(length (map d_y (m151 a0.f0)))≤(length (map d_y (m151 a0.f0))):=yb
  have f3:0+(length (map d_y (m151 ((length (map b_N a0.f1)):Int))))≤(length (map d_y (m151 ((length (map b_N a0.f1)):Int)))):=yb
  have f4:((take (length (map d_y (m151 ((length (map b_N a0.f1)):Int)))) (drop 0 (map d_y (m151 ((length (map b_N a0.f1)):Int))))).all fun x=>x.all copyable)=true:=(ct_y _ _ _)
  have f5:(length ((take (length (map d_y (m151 a0.f0))) (drop 0 (map d_y (m151 a0.f0))))++(take (length (map d_y (m151 ((length (map b_N a0.f1)):Int)))) (drop 0 (map d_y (m151 ((length (map b_N a0.f1)):Int)))))))*1≤70368744177664:=ym
  have f6:∀r∈((take (length (map d_y (m151 ((length (map b_N a0.f1)):Int)))) (drop 0 (map d_y (m151 ((length (map b_N a0.f1)):Int))))):List (List D)),r.length=1:=ye
  have f7:((take (length (map d_y (m151 a0.f0))) (drop 0 (map d_y (m151 a0.f0))))++(take (length (map d_y (m151 ((length (map b_N a0.f1)):Int)))) (drop 0 (map d_y (m151 ((length (map b_N a0.f1)):Int))))))=(map d_y ((m151 a0.f0)++(m151 ((length (map b_N a0.f1)):Int)))):=yq
  cases h0:r129_0 a0 a1 a0.f1 0 ((m151 a0.f0)++(m151 ((length (map b_N a0.f1)):Int))) with
  |k0 w0_4 w1_4 w2_4=>
    try dsimp only
    have f8:(⟨[(0,(.bptr l0 (b_T a0))),(1,(.one (.val (.bool a1)))),(5,(.one (.ref ⟨(5,0,0),[],0,(length ((take (length (map d_y (m151 a0.f0))) (drop 0 (map d_y (m151 a0.f0))))++(take (length (map d_y (m151 ((length (map b_N a0.f1)):Int)))) (drop 0 (map d_y (m151 ((length (map b_N a0.f1)):Int)))))))⟩))),(6,(.oi 0))],[((5,0,0),.live ⟨1,(map d_y ((m151 a0.f0)++(m151 ((length (map b_N a0.f1)):Int)))),[]⟩)]⟩:St)=h129_0 l0 a0 a1 0 ((m151 a0.f0)++(m151 ((length (map b_N a0.f1)):Int))):=(by unfold h129_0; simp[take_of_length_le,d_y,ol112,ol83,ol84,ol51,ol21,four_len]; done)
    have f11:0+(length (map d_y w0_4))≤(length (map d_y w0_4)):=yb
    have f12:0+(length (map d_y (m151 ((length (map b_U a0.f2)):Int))))≤(length (map d_y (m151 ((length (map b_U a0.f2)):Int)))):=yb
    have f13:((take (length (map d_y (m151 ((length (map b_U a0.f2)):Int)))) (drop 0 (map d_y (m151 ((length (map b_U a0.f2)):Int))))).all fun x=>x.all copyable)=true:=(ct_y _ _ _)
    have f14:(length ((take (length (map d_y w0_4)) (drop 0 (map d_y w0_4)))++(take (length (map d_y (m151 ((length (map b_U a0.f2)):Int)))) (drop 0 (map d_y (m151 ((length (map b_U a0.f2)):Int)))))))*1≤70368744177664:=yv
    have f15:∀r∈((take (length (map d_y (m151 ((length (map b_U a0.f2)):Int)))) (drop 0 (map d_y (m151 ((length (map b_U a0.f2)):Int))))):List (List D)),r.length=1:=ye
    have f16:((take (length (map d_y w0_4)) (drop 0 (map d_y w0_4)))++(take (length (map d_y (m151 ((length (map b_U a0.f2)):Int)))) (drop 0 (map d_y (m151 ((length (map b_U a0.f2)):Int))))))=(map d_y (w0_4++(m151 ((length (map b_U a0.f2)):Int)))):=yq
    cases h1:r129_1 a0 a0.f2 0 (w0_4++(m151 ((length (map b_U a0.f2)):Int))) with
    |k0 w0_8 w1_8 w2_8=>
      try dsimp only
      have f17:(⟨[(0,(.bptr l0 (b_T a0))),(5,(.one (.ref ⟨(5,0,0),[],0,(length ((take (length (map d_y w0_4)) (drop 0 (map d_y w0_4)))++(take (length (map d_y (m151 ((length (map b_U a0.f2)):Int)))) (drop 0 (map d_y (m151 ((length (map b_U a0.f2)):Int)))))))⟩))),(7,(.oi 0))],[((5,0,0),.live ⟨1,(map d_y (w0_4++(m151 ((length (map b_U a0.f2)):Int)))),[]⟩)]⟩:St)=h129_1 l0 a0 a1 w0_4 0 (w0_4++(m151 ((length (map b_U a0.f2)):Int))):=(by unfold h129_1; simp[take_of_length_le,d_y,ol112,ol83,ol84,ol51,ol21,four_len]; done)
      exact cp ya (.r 11 [] [] (e151 (a0:=a0.f0)) (.r 23 [] [] (e151 (a0:=((length (map b_N a0.f1)):Int))) (.f f2 (.f f3 (.f f4 (.f f5 (.f f6 (.f f7 (.f f8 (.f (ev_ (e:=ex129_0) (g:=(fin129_0 l0 a0 a1)) h0 (t129_0 (l0:=l0) (a0:=a0) (a1:=a1) (by assumption) (by assumption) (by assumption) (by assumption) (by assumption) (by assumption) (by assumption) (by assumption) a0.f1 [] ((m151 a0.f0)++(m151 ((length (map b_N a0.f1)):Int))) rfl ym)) (.h 25 (.b true) (.h 28 (.norm (5,0,0) (map d_y ((m151 a0.f0)++(m151 ((length (map b_N a0.f1)):Int))))) (.h 31 (.loop (h129_0 l0 a0 a1 0 ((m151 a0.f0)++(m151 ((length (map b_N a0.f1)):Int)))) (.exit 0) (fin129_0 l0 a0 a1 (.k0 w0_4 w1_4 w2_4))) (.r 45 [] [] (e151 (a0:=((length (map b_U a0.f2)):Int))) (.f f11 (.f f12 (.f f13 (.f f14 (.f f15 (.f f16 (.f f17 (.f (ev_ (e:=ex129_1) (g:=(fin129_1 l0 a0 a1 w0_4)) h1 (t129_1 (l0:=l0) (a0:=a0) (a1:=a1) (c0_129_1:=w0_4) (by assumption) (by assumption) (by assumption) (by assumption) (by assumption) (by assumption) (by assumption) (by assumption) ym a0.f2 [] (w0_4++(m151 ((length (map b_U a0.f2)):Int))) rfl yv)) (pe 0 (pe (length (map d_y w0_8)) (.f (pureR_y w0_8) (.h 47 (.b true) (.h 50 (.norm (5,0,0) (map d_y (w0_4++(m151 ((length (map b_U a0.f2)):Int))))) (.h 53 (.loop (h129_1 l0 a0 a1 w0_4 0 (w0_4++(m151 ((length (map b_U a0.f2)):Int)))) (.exit 2) (fin129_1 l0 a0 a1 w0_4 (.k0 w0_8 w1_8 w2_8))) .nil))))))))))))))))))))))))))))
theorem pt129 (a:K_T) (c:Bool) (h:SmT a):length (m129 a c)≤1000:=by
  obtain⟨a1,a2,a3,a4⟩:=h
  unfold m129
  cases h:r129_0 a c a.f1 0 ((m151 a.f0)++(m151 ((length (map b_N a.f1)):Int))) with
  |k0 w j b=>
    have q:=lk129_0 a2 h
    have q0:=pl151 a.f0
    have q1:=pl151 ((length (map b_N a.f1)):Int)
    have q2:=pl151 ((length (map b_U a.f2)):Int)
    simp only[length_append] at q
    simp only[]
    cases h2:r129_1 a a.f2 0 (w++(m151 ((length (map b_U a.f2)):Int))) with
    |k0 w2 j2 b2=>
      have q3:=lk129_1 a4 h2
      simp only[length_append] at q3
      show w2.length≤_
      omega
theorem e99 {l0:Nat} {a0:K_T} (hy0:length a0.f1*40≤140737488351232) (hy1:∀z∈a0.f1,ok_N z) (hy2:length a0.f2*32≤140737488351232) (hy3:∀z∈a0.f2,ok_U z) (hy4:SmT a0):Ev F X (.call 99 [(.bptr l0 (b_T a0))] [] [] [(.one (.val (.int .i64 (m128 (m129 a0 false)))))]):=by
  exact cp ya (.r 5 [] [] (e129 (l0:=(l0+1)) (a0:=a0) (a1:=false) ‹_› ‹_› ‹_› ‹_› (by exact hy4.1) (by exact hy4.2.1) (by exact hy4.2.2.1) (by exact hy4.2.2.2)) (ln_y (m129 a0 false) (.r 7 [] [(map b_y (m129 a0 false))] (e128 (l0_0:=0) (a0:=(m129 a0 false)) (by have q:=pt129 a0 false hy4; omega)) .nil)))
inductive O70_0 where
  |k0 (w0:List Int) (w1:Int) (w2:Bool)
def r70_0 (a0:K_G):List K_T→Int→List Int→O70_0
  |x0::y0,i,v0=>
    (r70_0 a0 y0 (i+1) (v0++([(m128 (m129 x0 false))])))
  |[],i,v0=>(O70_0.k0 v0 i (decide (i <((length (map b_T a0.f4)):Int))))
def h70_0 (l0:Nat) (a0:K_G) (i:Int) (v0:List Int):St:=⟨[(0,(.bptr l0 (b_G a0))),(3,(.one (.ref ⟨(3,0,0),[],0,(length (map d_i v0))⟩))),(4,(.one (.val (.int .i64 i))))],[((3,0,0),.live ⟨1,(map d_i v0),[]⟩)]⟩
def ex70_0:O70_0→VX.Exit
  |.k0 _ _ _=>(.exit 0)
def fin70_0 (l0:Nat) (a0:K_G):O70_0→St
  |.k0 w0 w1 w2=>⟨[(0,(.bptr l0 (b_G a0))),(3,(.one (.ref ⟨(3,0,0),[],0,(length (map d_i w0))⟩))),(4,(.one (.val (.int .i64 w1)))),(12,(.one (.val (.bool w2))))],[((3,0,0),.live ⟨1,(map d_i w0),[]⟩)]⟩
theorem t70_0 {l0:Nat} {a0:K_G} (hy0:length a0.f4*56≤140737488351232) (hy1:∀z∈a0.f4,ok_T z) (hy2:length a0.f4≤4) (hy3:∀z∈a0.f4,SmT z):∀(y0:List K_T) (p:List K_T) (v0:List Int),p++y0=a0.f4→(length v0+length y0)*8≤70368744177664→length v0+length y0≤4→Ev F X (.code l70_0 (h70_0 l0 a0 (length p:Int) v0) (ex70_0 (r70_0 a0 y0 (length p:Int) v0)) (fin70_0 l0 a0 (r70_0 a0 y0 (length p:Int) v0)))
  |[],p,v0,hp0,hi0,hi1=>by
    have hc:=hcn b_T hp0
    have hj0:=hi0; try simp only[LN,Int.toNat_natCast] at hj0
    have hj1:=hi1; try simp only[LN,Int.toNat_natCast] at hj1
    exact lx 15 ya (.f (nt hc) (.h 14 (.b false) .nil)) rfl
  |x0::y0,p,v0,hp0,hi0,hi1=>by
    have hc:=hcy b_T hp0
    have Hx0:=hxy hp0
    obtain⟨Mx0_0,Mx0_1,Mx0_2,Mx0_3⟩:=hy1 x0 (List.mem_of_getElem? Hx0)
    have hlen:=hly hp0
    have hw:wrap .i64 ((length p:Int)+1)=(length p:Int)+1:=wrap64 yb
    have hj0:=hi0; try simp only[LN,Int.toNat_natCast] at hj0
    have hj1:=hi1; try simp only[LN,Int.toNat_natCast] at hj1
    simp only[r70_0]
    have f1:0≤(length p:Int):=yb
    have f4:0+(length (map d_i v0))≤(length (map d_i v0)):=yb
    have f5:1≤1:=yb
    have f6:((take 1 (drop 0 [[(.i (m128 (m129 x0 false)))]])).all fun x=>x.all copyable)=true:=yE
    have f7:(length ((take (length (map d_i v0)) (drop 0 (map d_i v0)))++([[(.i (m128 (m129 x0 false)))]]:List (List D))))*8≤70368744177664:=yj
    have f8:∀r∈([[(.i (m128 (m129 x0 false)))]]:List (List D)),r.length=1:=(by unfold m128 m129;(repeat' split)<;>simp_all<;>omega)
    have f9:((take (length (map d_i v0)) (drop 0 (map d_i v0)))++([[(.i (m128 (m129 x0 false)))]]:List (List D)))=(map d_i (v0++([(m128 (m129 x0 false))]))):=yaa
    have st:=ch b70_0 (h70_0 l0 a0 (length p:Int) v0) ⟨[(0,(.bptr l0 (b_G a0))),(3,(.one (.ref ⟨(3,0,0),[],0,(length ((take (length (map d_i v0)) (drop 0 (map d_i v0)))++([[(.i (m128 (m129 x0 false)))]]:List (List D))))⟩))),(4,(.oi (wrap .i64 ((length p:Int)+1))))],[((3,0,0),.live ⟨1,(map d_i (v0++([(m128 (m129 x0 false))]))),[]⟩)]⟩ .normal 44 ya (.f hc (.f f1 (.f (mp_ b_T Hx0) (.h 14 (.b true) (.h 28 (.row (b_T x0)) (.r 30 [] [] (e99 (l0:=(l0+1)) (a0:=x0) ‹_› ‹_› ‹_› ‹_› (by exact hy3 _ (List.mem_of_getElem? ‹_›))) (.f f4 (.f f5 (.f f6 (.f f7 (.f f8 (.f f9 (.f trivial (.h 34 (.b true) (.h 37 (.norm (3,0,0) (map d_i (v0++([(m128 (m129 x0 false))])))) .nil)))))))))))))))
    have ih:=t70_0 (l0:=l0) (a0:=a0) hy0 hy1 hy2 hy3 y0 (p++ [x0]) (v0++([(m128 (m129 x0 false))])) yd yo yo
    rw[pl1] at ih
    rw[show (⟨[(0,(.bptr l0 (b_G a0))),(3,(.one (.ref ⟨(3,0,0),[],0,(length ((take (length (map d_i v0)) (drop 0 (map d_i v0)))++([[(.i (m128 (m129 x0 false)))]]:List (List D))))⟩))),(4,(.oi (wrap .i64 ((length p:Int)+1))))],[((3,0,0),.live ⟨1,(map d_i (v0++([(m128 (m129 x0 false))]))),[]⟩)]⟩:St)=h70_0 l0 a0 ((length p:Int)+1) (v0++([(m128 (m129 x0 false))])) from(by unfold h70_0; simp[hw,take_of_length_le,d_i,ol112,ol83,ol84,ol51,ol21,four_len]; done)] at st
    exact .loopN st ih
def post70_0 (n0:Nat):O70_0→Prop
  |.k0 w0 _ _=>length w0=n0
theorem z70_0 {a0:K_G}:∀(y0:List K_T) (i:Int) (v0:List Int),post70_0 (length v0+length y0) (r70_0 a0 y0 i v0)
  |[],i,v0=>by
    first | trivial |(simp only[post70_0,length_nil,Nat.add_zero]; done) |(simp[post70_0]; done)
  |x0::y0,i,v0=>by
    simp only[r70_0]
    have z:=z70_0 (a0:=a0) y0 (i+1) (v0++([(m128 (m129 x0 false))]))
    rw[show (length v0+length (x0::y0))=(length (v0++([(m128 (m129 x0 false))]))+length y0) from by first | omega |(simp only[LN]; done) |(simp only[LN]; omega)]
    exact z
theorem ls70 {a:K_G}:∀ {l:List K_T} {i:Int} {v w:List Int} {j b},r70_0 a l i v=.k0 w j b→w.length=v.length+l.length
  |[],i,v,w,j,b,h=>by simp only[r70_0] at h; injection h with h; subst h; simp
  |x::l,i,v,w,j,b,h=>by
    simp only[r70_0] at h
    have q:=ls70 h
    simp only[length_append,length_cons,length_nil] at q⊢; omega
def m70 (a0:K_G):(List Int):=
  (match r70_0 a0 a0.f4 0 ([]) with | .k0 w0_0 w1_0 w2_0=>w0_0)
theorem e70 {l0:Nat} {a0:K_G} (hy0:length a0.f4*56≤140737488351232) (hy1:∀z∈a0.f4,ok_T z) (hy2:length a0.f4≤4) (hy3:∀z∈a0.f4,SmT z):Ev F X (.call 70 [(.bptr l0 (b_G a0))] [] [] [(.one (.own 1 (map d_i (m70 a0))))]):=by
  unfold m70
  cases h0:r70_0 a0 a0.f4 0 ([]) with
  |k0 w0_0 w1_0 w2_0=>
    try dsimp only
    have zh0:=z70_0 (a0:=a0) a0.f4 0 ([]); rw[h0] at zh0; simp only[post70_0,length_map,length_set,length_append,length_replicate,length_cons,length_nil,Int.toNat_natCast] at zh0
    have f0:=Eq.refl (h70_0 l0 a0 0 ([]))
    exact cp ya (.f f0 (.f (ev_ (e:=ex70_0) (g:=(fin70_0 l0 a0)) h0 (t70_0 (l0:=l0) (a0:=a0) (by assumption) (by assumption) (by assumption) (by assumption) a0.f4 [] ([]) rfl yj yj)) (pe 0 (pe (length (map d_i w0_0)) (.f (pureR_i w0_0) (.h 8 (.loop (h70_0 l0 a0 0 ([])) (.exit 0) (fin70_0 l0 a0 (.k0 w0_0 w1_0 w2_0))) .nil))))))
theorem ln70 (a:K_G):length (m70 a)=length a.f4:=by
  unfold m70
  cases h:r70_0 a a.f4 0 [] with
  |k0 w j b=>
    have q:=ls70 h
    show w.length=_
    simpa using q
inductive O38_0 where
  |k0 (w0:Int) (w1:Bool)
  |k1 (w0:Int)
def r38_0 (a0:K_G):List K_T→Int→O38_0
  |x0::y0,i=>
    if((m67 x0) !=0)=true then(O38_0.k1 (m67 x0)) else
    (r38_0 a0 y0 (i+1))
  |[],i=>(O38_0.k0 i (decide (i <((length (map b_T a0.f4)):Int))))
def h38_0 (l0:Nat) (a0:K_G) (i:Int) :St:=⟨[(0,(.bptr l0 (b_G a0))),(3,(.one (.val (.int .i64 i))))],[]⟩
def ex38_0:O38_0→VX.Exit
  |.k0 _ _=>(.exit 0)
  |.k1 _=>.ret
def fin38_0 (l0:Nat) (a0:K_G):O38_0→St
  |.k0 w0 w1=>⟨[(0,(.bptr l0 (b_G a0))),(3,(.one (.val (.int .i64 w0)))),(55,(.one (.val (.bool w1))))],[]⟩
  |.k1 w0=>⟨[(2,(.one (.val (.int .i64 w0))))],[]⟩
theorem t38_0 {l0:Nat} {a0:K_G} (hy0:length a0.f4*56≤140737488351232) (hy1:∀z∈a0.f4,ok_T z):∀(y0:List K_T) (p:List K_T),p++y0=a0.f4→Ev F X (.code l38_0 (h38_0 l0 a0 (length p:Int)) (ex38_0 (r38_0 a0 y0 (length p:Int))) (fin38_0 l0 a0 (r38_0 a0 y0 (length p:Int))))
  |[],p,hp0=>by
    have hc:=hcn b_T hp0
    exact lx 15 ya (.f (nt hc) (.h 14 (.b false) .nil)) rfl
  |x0::y0,p,hp0=>by
    have hc:=hcy b_T hp0
    have Hx0:=hxy hp0
    obtain⟨Mx0_0,Mx0_1,Mx0_2,Mx0_3⟩:=hy1 x0 (List.mem_of_getElem? Hx0)
    have hlen:=hly hp0
    have hw:wrap .i64 ((length p:Int)+1)=(length p:Int)+1:=wrap64 yb
    simp only[r38_0]
    have f1:0≤(length p:Int):=yb
    have P1 {hs q} (r:PS F X hs q):=(PS.f hc (.f f1 (.f (mp_ b_T Hx0) (.h 14 (.b true) (.h 26 (.row (b_T x0)) (.r 28 [] [] (e67 (l0:=(l0+1)) (a0:=x0) ‹_› ‹_› ‹_› ‹_›) r))))))
    by_cases h_1:((m67 x0) !=0)=true
    · try simp only[if_pos h_1]
      exact lx 40 ya (P1 (.f h_1 (.h 35 (.b true) .nil))) rfl
    · try simp only[if_neg h_1]
      have ih:=t38_0 (l0:=l0) (a0:=a0) hy0 hy1 y0 (p++ [x0]) yd
      rw[pl1,← hw] at ih; rw[← hw]
      exact ly 42 ya (P1 (.f (nt h_1) (.f trivial (.h 35 (.b false) .nil)))) ih
theorem lb38 {a:K_G}:∀ {l:List K_T} {i:Int} {j b},r38_0 a l i=.k0 j b→∀x∈l,m67 x=0
  |[],i,j,b,h,x,hx=>by cases hx
  |y::l,i,j,b,h,x,hx=>by
    simp only[r38_0] at h
    split at h
    · cases h
    · rename_i h1
      rcases List.mem_cons.1 hx with rfl | hx
      · simpa using h1
      · exact lb38 h x hx
theorem ne38 {a:K_G}:∀(l:List K_T) (i:Int),r38_0 a l i≠.k1 0
  |[],i=>by simp only[r38_0]; intro h; cases h
  |y::l,i=>by
    simp only[r38_0]
    split
    · rename_i h; intro q; injection q with q; rw[q] at h; exact absurd h yG
    · exact ne38 l _
def m38 (a0:K_G):Int:=
  if(!(m36 a0.f0 0 2147483646))=true then 3 else
  if(!(m36 a0.f1 1 99999))=true then 3 else
    if(!(m66 a0.f2))=true then 3 else
      if(!(m36 a0.f3 0 65535))=true then 3 else
        if(decide (((length (map b_T a0.f4)):Int) < 1))=true then 2 else
          if(decide (((length (map b_T a0.f4)):Int) > 4))=true then 2 else
            (match r38_0 a0 a0.f4 0 with | .k0 w0_34 w1_34=>(if(!(m68 a0))=true then 1 else if(m69 (m70 a0))=true then 6 else 0) | .k1 w0_34=>w0_34)
theorem e38 {l0:Nat} {a0:K_G} (hy0:length a0.f4*56≤140737488351232) (hy1:∀z∈a0.f4,ok_T z):Ev F X (.call 38 [(.bptr l0 (b_G a0))] [] [] [(.one (.val (.int .i64 (m38 a0))))]):=by
  unfold m38
  have P0 {hs q} (r:PS F X hs q):=(PS.r 11 [] [] (e65 (a0:=a0.f0)) r)
  by_cases h0:(!(m36 a0.f0 0 2147483646))=true
  · try simp only[if_pos h0]
    exact cp ya (P0 (.f h0 (.f h0 (.f h0 (.f h0 (.f h0 (.f h0 (.f h0 (.h 16 (.b true) (.h 18 (.b true) (.h 20 (.b true) (.h 22 (.b true) (.h 24 (.b true) (.h 26 (.b true) (.h 29 (.b true) .nil)))))))))))))))
  · try simp only[if_neg h0]
    have P1 {hs q} (r:PS F X hs q):=(P0 (.f (nt h0) (.f (nt h0) (.f (nt h0) (.f (nt h0) (.f (nt h0) (.h 16 (.b false) (.h 18 (.b false) (.h 20 (.b false) (.h 22 (.b false) (.h 24 (.b false) (.r 25 [] [] (e36 (a0:=a0.f1) (a1:=1) (a2:=99999)) (.f (nt h0) (.f (nt h0) (.h 26 (.b false) (.h 29 (.b false) r))))))))))))))))
    by_cases h1:(!(m36 a0.f1 1 99999))=true
    · try simp only[if_pos h1]
      exact cp ya (P1 (.f h1 (.f h1 (.f h1 (.f h1 (.f h1 (.f h1 (.f h1 (.h 32 (.b true) (.h 34 (.b true) (.h 36 (.b true) (.h 38 (.b true) (.h 40 (.b true) (.h 42 (.b true) (.h 45 (.b true) .nil)))))))))))))))
    · try simp only[if_neg h1]
      have P2 {hs q} (r:PS F X hs q):=(P1 (.f (nt h1) (.f (nt h1) (.f (nt h1) (.f (nt h1) (.f (nt h1) (.h 32 (.b false) (.h 34 (.b false) (.h 36 (.b false) (.h 38 (.b false) (.h 40 (.b false) (.r 41 [] [] (e66 (a0:=a0.f2)) (.f (nt h1) (.f (nt h1) (.h 42 (.b false) (.h 45 (.b false) r))))))))))))))))
      by_cases h2:(!(m66 a0.f2))=true
      · try simp only[if_pos h2]
        exact cp ya (P2 (.f h2 (.f h2 (.f h2 (.f h2 (.f h2 (.f h2 (.f h2 (.h 48 (.b true) (.h 50 (.b true) (.h 52 (.b true) (.h 54 (.b true) (.h 56 (.b true) (.h 58 (.b true) (.h 61 (.b true) .nil)))))))))))))))
      · try simp only[if_neg h2]
        have P3 {hs q} (r:PS F X hs q):=(P2 (.f (nt h2) (.f (nt h2) (.f (nt h2) (.f (nt h2) (.f (nt h2) (.h 48 (.b false) (.h 50 (.b false) (.h 52 (.b false) (.h 54 (.b false) (.h 56 (.b false) (.r 57 [] [] (e36 (a0:=a0.f3) (a1:=0) (a2:=65535)) (.f (nt h2) (.f (nt h2) (.h 58 (.b false) (.h 61 (.b false) r))))))))))))))))
        by_cases h3:(!(m36 a0.f3 0 65535))=true
        · try simp only[if_pos h3]
          exact cp ya (P3 (.f h3 (.h 62 (.b true) .nil)))
        · try simp only[if_neg h3]
          have P4 {hs q} (r:PS F X hs q):=(P3 (.f (nt h3) (.h 62 (.b false) r)))
          by_cases h4:(decide (((length (map b_T a0.f4)):Int) < 1))=true
          · try simp only[if_pos h4]
            exact cp ya (P4 (.f h4 (.f h4 (.f h4 (.f h4 (.f h4 (.f h4 (.f h4 (.h 77 (.b true) (.h 79 (.b true) (.h 81 (.b true) (.h 83 (.b true) (.h 85 (.b true) (.h 87 (.b true) (.h 90 (.b true) .nil)))))))))))))))
          · try simp only[if_neg h4]
            have P5 {hs q} (r:PS F X hs q):=(P4 (.f (nt h4) (.f (nt h4) (.f (nt h4) (.f (nt h4) (.f (nt h4) (.f (nt h4) (.f (nt h4) (.h 77 (.b false) (.h 79 (.b false) (.h 81 (.b false) (.h 83 (.b false) (.h 85 (.b false) (.h 87 (.b false) (.h 90 (.b false) r)))))))))))))))
            by_cases h5:(decide (((length (map b_T a0.f4)):Int) > 4))=true
            · try simp only[if_pos h5]
              exact cp ya (P5 (.f h5 (.h 91 (.b true) .nil)))
            · try simp only[if_neg h5]
              have P6 {hs q} (r:PS F X hs q):=(P5 (.f (nt h5) (.h 91 (.b false) r)))
              cases h6:r38_0 a0 a0.f4 0 with
              |k0 w0_34 w1_34=>
                try dsimp only
                have f34:=Eq.refl (h38_0 l0 a0 0 )
                have P7 {hs q} (r:PS F X hs q):=(P6 (.f f34 (.f (ev_ (e:=ex38_0) (g:=(fin38_0 l0 a0)) h6 (t38_0 (l0:=l0) (a0:=a0) (by assumption) (by assumption) a0.f4 []  rfl)) (.h 94 (.loop (h38_0 l0 a0 0) (.exit 0) (fin38_0 l0 a0 (.k0 w0_34 w1_34))) (.r 98 [] [] (e68 (l0:=(l0+1)) (a0:=a0) ‹_› ‹_›) r)))))
                by_cases h7:(!(m68 a0))=true
                · try simp only[if_pos h7]
                  exact cp ya (P7 (.f h7 (.h 101 (.b true) .nil)))
                · try simp only[if_neg h7]
                  have f40:Ev F X (.call 69 [(.one (.ref ⟨(0,0,0),[],0,(length (map d_i (m70 a0)))⟩))] [((0,0,0),⟨1,(map d_i (m70 a0)),[]⟩)] [] [(.one (.val (.bool (m69 (m70 a0)))))]):=(e69 (a0:=(m70 a0)) (by rw[ln70]; simp only[decide_eq_true_eq,length_map] at*; omega))
                  have P8 {hs q} (r:PS F X hs q):=(P7 (.f (nt h7) (.h 101 (.b false) (.r 105 [] [] (e70 (l0:=(l0+1)) (a0:=a0) ‹_› ‹_› yal (by exact fun z hz=>ft67 (lb38 ‹_› z hz))) (.f (pureR_i (m70 a0)) (.r 107 [true] [] f40 r))))))
                  by_cases h8:(m69 (m70 a0))=true
                  · try simp only[if_pos h8]
                    exact cp ya (P8 (.f h8 (.h 108 (.b true) .nil)))
                  · try simp only[if_neg h8]
                    exact cp ya (P8 (.f (nt h8) (.h 108 (.b false) .nil)))
              |k1 w0_34=>
                try dsimp only
                have f34:=Eq.refl (h38_0 l0 a0 0 )
                exact cp ya (P6 (.f f34 (.f (ev_ (e:=ex38_0) (g:=(fin38_0 l0 a0)) h6 (t38_0 (l0:=l0) (a0:=a0) (by assumption) (by assumption) a0.f4 []  rfl)) (.h 94 (.loop (h38_0 l0 a0 0) .ret (fin38_0 l0 a0 (.k1 w0_34))) .nil))))
theorem bs38 {a:K_G} (h:m38 a=0):1≤length a.f4∧length a.f4≤4∧∀z∈a.f4,SmT z:=by
  unfold m38 at h
  iterate 6 (split at h; exact absurd h yG)
  rename_i c1 c2
  simp only[decide_eq_true_eq,length_map] at c1 c2
  cases hr:r38_0 a a.f4 0 with
  |k1 w=>rw[hr] at h; simp only[] at h; subst h; exact absurd hr (ne38 _ _)
  |k0 j b=>exact⟨by omega,by omega,fun z hz=>ft67 (lb38 hr z hz)⟩
theorem bt38 {a:K_G} (h:m38 a=0):1≤a.f2∧a.f2≤1023:=by
  by_cases c:(!(m66 a.f2))=true
  · exfalso
    unfold m38 at h
    simp only[if_pos c] at h
    (repeat' split at h)<;>first | exact absurd h yG | omega
  · simp only[Bool.not_eq_true',Bool.not_eq_false] at c
    unfold m66 at c
    split at c
    · rename_i c2; exact jn36 (by simpa using c2)
    · cases c
def m35 (a0:K_J):Int:=
  if(!(m36 a0.f0 0 9999))=true then 3 else
  if((m38 (K_G.mk a0.f1 a0.f2 a0.f3 a0.f4 a0.f5)) !=0)=true then(m38 (K_G.mk a0.f1 a0.f2 a0.f3 a0.f4 a0.f5)) else
    if(((length (map b_U ((getD a0.f5 0 (K_T.mk 0 [] [])).f2))):Int) !=2)=true then 1 else
      0
theorem e35 {l0:Nat} {a0:K_J} (hy0:length a0.f5*56≤140737488351232) (hy1:∀z∈a0.f5,ok_T z):Ev F X (.call 35 [(.bptr l0 (b_J a0))] [] [] [(.one (.val (.int .i64 (m35 a0))))]):=by
  unfold m35
  have P0 {hs q} (r:PS F X hs q):=(PS.r 11 [] [] (e36 (a0:=a0.f0) (a1:=0) (a2:=9999)) r)
  by_cases h0:(!(m36 a0.f0 0 9999))=true
  · try simp only[if_pos h0]
    exact cp ya (P0 (.f h0 (.h 14 (.b true) .nil)))
  · try simp only[if_neg h0]
    have P1 {hs q} (r:PS F X hs q):=(P0 (.f (nt h0) (.h 14 (.b false) (.r 22 [] [] (e38 (l0:=(l0+1)) (a0:=(K_G.mk a0.f1 a0.f2 a0.f3 a0.f4 a0.f5)) ‹_› ‹_›) r))))
    by_cases h1:((m38 (K_G.mk a0.f1 a0.f2 a0.f3 a0.f4 a0.f5)) !=0)=true
    · try simp only[if_pos h1]
      exact cp ya (P1 (.f h1 (.h 29 (.b true) .nil)))
    · try simp only[if_neg h1]
      have f4:0≤(0:Int):=yb
      have P2 {hs q} (r:PS F X hs q):=(P1 (.f (nt h1) (.f f4 (.f (mp_ b_T (getD_at a0.f5 0 (K_T.mk 0 [] []) (by have q:=(bs38 (a:=K_G.mk a0.f1 a0.f2 a0.f3 a0.f4 a0.f5) (by simpa using h1)).1; simp only[length_map] at*; omega))) (.h 29 (.b false) (.h 41 (.row (b_T (getD a0.f5 0 (K_T.mk 0 [] [])))) r))))))
      by_cases h2:(((length (map b_U ((getD a0.f5 0 (K_T.mk 0 [] [])).f2))):Int) !=2)=true
      · try simp only[if_pos h2]
        exact cp ya (P2 (.f h2 (.h 50 (.b true) .nil)))
      · try simp only[if_neg h2]
        exact cp ya (P2 (.f (nt h2) (.h 50 (.b false) .nil)))
theorem js35 {a:K_J} (h:m35 a=0):SmJ a:=by
  unfold m35 at h
  split at h
  · exact absurd h yG
  · split at h
    · rename_i c; rw[h] at c; exact absurd c yG
    · split at h
      · exact absurd h yG
      · rename_i c1 c2
        have q:=bs38 (a:=(K_G.mk a.f1 a.f2 a.f3 a.f4 a.f5)) (by simpa using c1)
        simp only[length_map,bne_iff_ne,ne_eq,Decidable.not_not] at c2
        exact⟨q.1,q.2.1,q.2.2,by omega⟩
inductive O47_0 where
  |k0 (w0:Int) (w1:Bool)
  |k1 (w0:Int)
  |k2
def r47_0 (a0:(List K_J)):List K_J→Int→O47_0
  |x0::y0,i=>
    if((m35 x0) !=0)=true then(O47_0.k1 (m35 x0)) else
    if (decide (i > 0)) = true then (if (decide (x0.f0 ≤ ((getD a0 (toNat (wrap .i64 (i - 1))) (K_J.mk 0 0 0 0 0 [])).f0))) = true then (O47_0.k2) else
        (r47_0 a0 y0 (i+1))) else
      (r47_0 a0 y0 (i+1))
  |[],i=>(O47_0.k0 i (decide (i <((length (map b_J a0)):Int))))
def h47_0 (l0_0:Nat) (a0:(List K_J)) (i:Int) :St:=⟨[(0,(.one (.bor l0_0 (map b_J a0)))),(3,(.one (.val (.int .i64 i))))],[]⟩
def ex47_0:O47_0→VX.Exit
  |.k0 _ _=>(.exit 0)
  |.k1 _=>.ret
  |.k2=>.ret
def fin47_0 (l0_0:Nat) (a0:(List K_J)):O47_0→St
  |.k0 w0 w1=>⟨[(0,(.one (.bor l0_0 (map b_J a0)))),(3,(.one (.val (.int .i64 w0)))),(11,(.one (.val (.bool w1))))],[]⟩
  |.k1 w0=>⟨[(2,(.one (.val (.int .i64 w0))))],[]⟩
  |.k2=>⟨[(2,(.one (.val (.int .i64 1))))],[]⟩
theorem t47_0 {l0_0:Nat} {a0:(List K_J)} (hy0:length a0*64≤140737488351232) (hy1:∀z∈a0,ok_J z):∀(y0:List K_J) (p:List K_J),p++y0=a0→Ev F X (.code l47_0 (h47_0 l0_0 a0 (length p:Int)) (ex47_0 (r47_0 a0 y0 (length p:Int))) (fin47_0 l0_0 a0 (r47_0 a0 y0 (length p:Int))))
  |[],p,hp0=>by
    have hc:=hcn b_J hp0
    exact lx 9 ya (.f (nt hc) (.h 8 (.b false) .nil)) rfl
  |x0::y0,p,hp0=>by
    have hc:=hcy b_J hp0
    have Hx0:=hxy hp0
    obtain⟨Mx0_0,Mx0_1⟩:=hy1 x0 (List.mem_of_getElem? Hx0)
    have hlen:=hly hp0
    have hw:wrap .i64 ((length p:Int)+1)=(length p:Int)+1:=wrap64 yb
    simp only[r47_0]
    have f1:0≤(length p:Int):=yb
    have P1 {hs q} (r:PS F X hs q):=(PS.f hc (.f f1 (.f (mp_ b_J Hx0) (.h 8 (.b true) (.h 14 (.row (b_J x0)) (.r 16 [] [] (e35 (l0:=(l0_0+1)) (a0:=x0) ‹_› ‹_›) r))))))
    by_cases h_1:((m35 x0) !=0)=true
    · try simp only[if_pos h_1]
      exact lx 28 ya (P1 (.f h_1 (.h 23 (.b true) .nil))) rfl
    · try simp only[if_neg h_1]
      have P2 {hs q} (r:PS F X hs q):=(P1 (.f (nt h_1) (.h 23 (.b false) r)))
      by_cases h_2:(decide ((length p:Int) > 0))=true
      · try simp only[if_pos h_2]
        have f16:0≤(wrap .i64 ((length p:Int) - 1)):=yR
        have P3 {hs q} (r:PS F X hs q):=(P2 (.f h_2 (.f h_2 (.f h_2 (.f f1 (.f (mp_ b_J Hx0) (.f h_2 (.f h_2 (.f h_2 (.f h_2 (.f h_2 (.f h_2 (.f f16 (.f (mp_ b_J (getD_at a0 (toNat (wrap .i64 ((length p:Int) - 1))) (K_J.mk 0 0 0 0 0 []) yR)) (.f h_2 (.f h_2 (.f h_2 (.f h_2 (.h 30 (.b true) (.h 32 (.b true) (.h 34 (.b true) (.h 35 (.row (b_J x0)) (.h 36 (.b true) (.h 38 (.b true) (.h 40 (.b true) (.h 42 (.b true) (.h 44 (.b true) (.h 46 (.b true) (.h 47 (.row (b_J (getD a0 (toNat (wrap .i64 ((length p:Int) - 1))) (K_J.mk 0 0 0 0 0 [])))) (.h 48 (.b true) (.h 50 (.b true) (.h 52 (.b true) (.h 55 (.b true) r)))))))))))))))))))))))))))))))))
        by_cases h_3:(decide (x0.f0≤((getD a0 (toNat (wrap .i64 ((length p:Int) - 1))) (K_J.mk 0 0 0 0 0 [])).f0)))=true
        · try simp only[if_pos h_3]
          exact lx 59 ya (P3 (.f h_3 (.h 56 (.b true) .nil))) rfl
        · try simp only[if_neg h_3]
          have ih:=t47_0 (l0_0:=l0_0) (a0:=a0) hy0 hy1 y0 (p++ [x0]) yd
          rw[pl1,← hw] at ih; rw[← hw]
          exact ly 63 ya (P3 (.f (nt h_3) (.f trivial (.h 56 (.b false) .nil)))) ih
      · try simp only[if_neg h_2]
        have ih:=t47_0 (l0_0:=l0_0) (a0:=a0) hy0 hy1 y0 (p++ [x0]) yd
        rw[pl1,← hw] at ih; rw[← hw]
        exact ly 63 ya (P2 (.f (nt h_2) (.f (nt h_2) (.f (nt h_2) (.f (nt h_2) (.f (nt h_2) (.f (nt h_2) (.f (nt h_2) (.f (nt h_2) (.f (nt h_2) (.f (nt h_2) (.f (nt h_2) (.f (nt h_2) (.f (nt h_2) (.f trivial (.h 30 (.b false) (.h 32 (.b false) (.h 34 (.b false) (.h 36 (.b false) (.h 38 (.b false) (.h 40 (.b false) (.h 42 (.b false) (.h 44 (.b false) (.h 46 (.b false) (.h 48 (.b false) (.h 50 (.b false) (.h 52 (.b false) (.h 55 (.b false) .nil)))))))))))))))))))))))))))) ih
def m47 (a0:(List K_J)):Int:=
  if(decide (((length (map b_J a0)):Int) > 4))=true then 2 else
  (match r47_0 a0 a0 0 with | .k0 w0_1 w1_1=>0 | .k1 w0_1=>w0_1 | .k2=>1)
theorem e47 {l0_0:Nat} {a0:(List K_J)} (hy0:length a0*64≤140737488351232) (hy1:∀z∈a0,ok_J z):Ev F X (.call 47 [(.one (.bor l0_0 (map b_J a0)))] [] [] [(.one (.val (.int .i64 (m47 a0))))]):=by
  unfold m47
  by_cases h0:(decide (((length (map b_J a0)):Int) > 4))=true
  · try simp only[if_pos h0]
    exact cp ya (.f h0 (.h 8 (.b true) .nil))
  · try simp only[if_neg h0]
    cases h1:r47_0 a0 a0 0 with
    |k0 w0_1 w1_1=>
      try dsimp only
      have f1:=Eq.refl (h47_0 l0_0 a0 0 )
      exact cp ya (.f (nt h0) (.f f1 (.f (ev_ (e:=ex47_0) (g:=(fin47_0 l0_0 a0)) h1 (t47_0 (l0_0:=l0_0) (a0:=a0) (by assumption) (by assumption) a0 []  rfl)) (.h 8 (.b false) (.h 11 (.loop (h47_0 l0_0 a0 0) (.exit 0) (fin47_0 l0_0 a0 (.k0 w0_1 w1_1))) .nil)))))
    |k1 w0_1=>
      try dsimp only
      have f1:=Eq.refl (h47_0 l0_0 a0 0 )
      exact cp ya (.f (nt h0) (.f f1 (.f (ev_ (e:=ex47_0) (g:=(fin47_0 l0_0 a0)) h1 (t47_0 (l0_0:=l0_0) (a0:=a0) (by assumption) (by assumption) a0 []  rfl)) (.h 8 (.b false) (.h 11 (.loop (h47_0 l0_0 a0 0) .ret (fin47_0 l0_0 a0 (.k1 w0_1))) .nil)))))
    |k2=>
      try dsimp only
      have f1:=Eq.refl (h47_0 l0_0 a0 0 )
      exact cp ya (.f (nt h0) (.f f1 (.f (ev_ (e:=ex47_0) (g:=(fin47_0 l0_0 a0)) h1 (t47_0 (l0_0:=l0_0) (a0:=a0) (by assumption) (by assumption) a0 []  rfl)) (.h 8 (.b false) (.h 11 (.loop (h47_0 l0_0 a0 0) .ret (fin47_0 l0_0 a0 (.k2))) .nil)))))
theorem e53 {a0:Int}:Ev F X (.call 53 [(.one (.val (.int .i64 a0)))] [] [] [(.agg (d_SR (K_SR.mk a0 false 0 0 0 0 [] [])))]):=by
  have f0:pureR []=true:=yE
  exact cp ya (.f f0 (.f f0 .nil))
def m55 (a0:K_KY):Bool:=
  if (m36 a0.f0 0 9999) = true then (if (m36 a0.f1 0 999) = true then (if (m36 a0.f2 0 99999) = true then (m36 a0.f3 0 65535) else
      false) else
    false) else
  false
theorem e55 {l0:Nat} {a0:K_KY}:Ev F X (.call 55 [(.bptr l0 [(.val (.int .i64 a0.f0)),(.val (.int .i64 a0.f1)),(.val (.int .i64 a0.f2)),(.val (.int .i64 a0.f3))])] [] [] [(.one (.val (.bool (m55 a0))))]):=by
  unfold m55
  have P0 {hs q} (r:PS F X hs q):=(PS.r 11 [] [] (e36 (a0:=a0.f0) (a1:=0) (a2:=9999)) r)
  by_cases h0:(m36 a0.f0 0 9999)=true
  · try simp only[if_pos h0]
    have P1 {hs q} (r:PS F X hs q):=(P0 (.f h0 (.f h0 (.f h0 (.f h0 (.f h0 (.h 14 (.b true) (.h 16 (.b true) (.h 18 (.b true) (.h 20 (.b true) (.h 22 (.b true) (.r 23 [] [] (e36 (a0:=a0.f1) (a1:=0) (a2:=999)) (.f h0 (.h 25 (.b true) r))))))))))))))
    by_cases h1:(m36 a0.f1 0 999)=true
    · try simp only[if_pos h1]
      have P2 {hs q} (r:PS F X hs q):=(P1 (.f h1 (.f h1 (.f h1 (.f h1 (.f h1 (.h 28 (.b true) (.h 30 (.b true) (.h 32 (.b true) (.h 34 (.b true) (.h 36 (.b true) (.r 37 [] [] (e36 (a0:=a0.f2) (a1:=0) (a2:=99999)) (.f h1 (.h 39 (.b true) r))))))))))))))
      by_cases h2:(m36 a0.f2 0 99999)=true
      · try simp only[if_pos h2]
        exact cp ya (P2 (.f h2 (.f h2 (.f h2 (.f h2 (.f h2 (.h 42 (.b true) (.h 44 (.b true) (.h 46 (.b true) (.h 48 (.b true) (.h 50 (.b true) (.r 51 [] [] (e36 (a0:=a0.f3) (a1:=0) (a2:=65535)) (.f h2 (.h 53 (.b true) .nil))))))))))))))
      · try simp only[if_neg h2]
        exact cp ya (P2 (.f (nt h2) (.f (nt h2) (.f (nt h2) (.f (nt h2) (.f (nt h2) (.f (nt h2) (.h 42 (.b false) (.h 44 (.b false) (.h 46 (.b false) (.h 48 (.b false) (.h 50 (.b false) (.h 53 (.b false) .nil)))))))))))))
    · try simp only[if_neg h1]
      exact cp ya (P1 (.f (nt h1) (.f (nt h1) (.f (nt h1) (.f (nt h1) (.f (nt h1) (.f (nt h1) (.h 28 (.b false) (.h 30 (.b false) (.h 32 (.b false) (.h 34 (.b false) (.h 36 (.b false) (.h 39 (.b false) .nil)))))))))))))
  · try simp only[if_neg h0]
    exact cp ya (P0 (.f (nt h0) (.f (nt h0) (.f (nt h0) (.f (nt h0) (.f (nt h0) (.f (nt h0) (.h 14 (.b false) (.h 16 (.b false) (.h 18 (.b false) (.h 20 (.b false) (.h 22 (.b false) (.h 25 (.b false) .nil)))))))))))))
inductive O85_0 where
  |k0 (w0:Int) (w1:Bool)
  |k1
def r85_0 (a0:(List K_KY)) (a1:K_KY):List K_KY→Int→O85_0
  |x0::y0,i=>
    if((x0.f0==a1.f0) &&((x0.f1==a1.f1) &&((x0.f2==a1.f2) &&((x0.f3==a1.f3) && true))))=true then(O85_0.k1) else
    (r85_0 a0 a1 y0 (i+1))
  |[],i=>(O85_0.k0 i (decide (i <((length (map b_KY a0)):Int))))
def h85_0 (l0_0:Nat) (a0:(List K_KY)) (a1:K_KY) (i:Int) :St:=⟨[(0,(.one (.bor l0_0 (map b_KY a0)))),(3,(.ptr ⟨(3,0,0),[],0,0,4⟩)),(5,(.one (.val (.int .i64 i))))],[((3,0,0),.live ⟨4,[[(.val (.int .i64 a1.f0)),(.val (.int .i64 a1.f1)),(.val (.int .i64 a1.f2)),(.val (.int .i64 a1.f3))]],[]⟩)]⟩
def ex85_0:O85_0→VX.Exit
  |.k0 _ _=>(.exit 0)
  |.k1=>.ret
def fin85_0 (l0_0:Nat) (a0:(List K_KY)) (a1:K_KY):O85_0→St
  |.k0 w0 w1=>⟨[(0,(.one (.bor l0_0 (map b_KY a0)))),(3,(.ptr ⟨(3,0,0),[],0,0,4⟩)),(5,(.one (.val (.int .i64 w0)))),(9,(.one (.val (.bool w1))))],[((3,0,0),.live ⟨4,[[(.val (.int .i64 a1.f0)),(.val (.int .i64 a1.f1)),(.val (.int .i64 a1.f2)),(.val (.int .i64 a1.f3))]],[]⟩)]⟩
  |.k1=>⟨[(4,(.one (.val (.bool true))))],[]⟩
theorem t85_0 {l0_0:Nat} {a0:(List K_KY)} {a1:K_KY} (hy0:length a0*32≤140737488351232):∀(y0:List K_KY) (p:List K_KY),p++y0=a0→Ev F X (.code l85_0 (h85_0 l0_0 a0 a1 (length p:Int)) (ex85_0 (r85_0 a0 a1 y0 (length p:Int))) (fin85_0 l0_0 a0 a1 (r85_0 a0 a1 y0 (length p:Int))))
  |[],p,hp0=>by
    have hc:=hcn b_KY hp0
    exact lx 9 ya (.f (nt hc) (.h 8 (.b false) .nil)) rfl
  |x0::y0,p,hp0=>by
    have hc:=hcy b_KY hp0
    have Hx0:=hxy hp0
    have hlen:=hly hp0
    have hw:wrap .i64 ((length p:Int)+1)=(length p:Int)+1:=wrap64 yb
    simp only[r85_0]
    have f1:0≤(length p:Int):=yb
    have P1 {hs q} (r:PS F X hs q):=(PS.f hc (.f f1 (.f (mp_ b_KY Hx0) (.h 8 (.b true) (.h 14 (.row (b_KY x0)) r)))))
    by_cases h_1:((x0.f0==a1.f0) &&((x0.f1==a1.f1) &&((x0.f2==a1.f2) &&((x0.f3==a1.f3) && true))))=true
    · try simp only[if_pos h_1]
      exact lx 24 ya (P1 (.f h_1 (.h 21 (.b true) .nil))) rfl
    · try simp only[if_neg h_1]
      have ih:=t85_0 (l0_0:=l0_0) (a0:=a0) (a1:=a1) hy0 y0 (p++ [x0]) yd
      rw[pl1,← hw] at ih; rw[← hw]
      exact ly 28 ya (P1 (.f (nt h_1) (.f trivial (.h 21 (.b false) .nil)))) ih
def m85 (a0:(List K_KY)) (a1:K_KY):Bool:=
  (match r85_0 a0 a1 a0 0 with | .k0 w0_0 w1_0=>false | .k1=>true)
theorem e85 {l0_0:Nat} {a0:(List K_KY)} {a1:K_KY} (hy0:length a0*32≤140737488351232):Ev F X (.call 85 [(.one (.bor l0_0 (map b_KY a0))),(.agg [(.val (.int .i64 a1.f0)),(.val (.int .i64 a1.f1)),(.val (.int .i64 a1.f2)),(.val (.int .i64 a1.f3))])] [] [] [(.one (.val (.bool (m85 a0 a1))))]):=by
  unfold m85
  cases h0:r85_0 a0 a1 a0 0 with
  |k0 w0_0 w1_0=>
    try dsimp only
    have f0:=Eq.refl (h85_0 l0_0 a0 a1 0 )
    exact cp ya (.f f0 (.f (ev_ (e:=ex85_0) (g:=(fin85_0 l0_0 a0 a1)) h0 (t85_0 (l0_0:=l0_0) (a0:=a0) (a1:=a1) (by assumption) a0 []  rfl)) (.h 6 (.loop (h85_0 l0_0 a0 a1 0) (.exit 0) (fin85_0 l0_0 a0 a1 (.k0 w0_0 w1_0))) .nil)))
  |k1=>
    try dsimp only
    have f0:=Eq.refl (h85_0 l0_0 a0 a1 0 )
    exact cp ya (.f f0 (.f (ev_ (e:=ex85_0) (g:=(fin85_0 l0_0 a0 a1)) h0 (t85_0 (l0_0:=l0_0) (a0:=a0) (a1:=a1) (by assumption) a0 []  rfl)) (.h 6 (.loop (h85_0 l0_0 a0 a1 0) .ret (fin85_0 l0_0 a0 a1 (.k1))) .nil)))
inductive O54_0 where
  |k0 (w0:Int) (w1:Bool)
  |k1
  |k2
def r54_0 (a0:(List K_KY)):List K_KY→Int→O54_0
  |x0::y0,i=>
    if(!(m55 x0))=true then(O54_0.k1) else
    if(m85 (take (toNat i) a0) x0)=true then(O54_0.k2) else
      (r54_0 a0 y0 (i+1))
  |[],i=>(O54_0.k0 i (decide (i <((length (map b_KY a0)):Int))))
def h54_0 (l0_0:Nat) (a0:(List K_KY)) (i:Int) :St:=⟨[(0,(.one (.bor l0_0 (map b_KY a0)))),(3,(.one (.val (.int .i64 i))))],[]⟩
def ex54_0:O54_0→VX.Exit
  |.k0 _ _=>(.exit 0)
  |.k1=>.ret
  |.k2=>.ret
def fin54_0 (l0_0:Nat) (a0:(List K_KY)):O54_0→St
  |.k0 w0 w1=>⟨[(0,(.one (.bor l0_0 (map b_KY a0)))),(3,(.one (.val (.int .i64 w0)))),(10,(.one (.val (.bool w1))))],[]⟩
  |.k1=>⟨[(2,(.one (.val (.int .i64 3))))],[]⟩
  |.k2=>⟨[(2,(.one (.val (.int .i64 6))))],[]⟩
theorem t54_0 {l0_0:Nat} {a0:(List K_KY)} (hy0:length a0*32≤140737488351232):∀(y0:List K_KY) (p:List K_KY),p++y0=a0→Ev F X (.code l54_0 (h54_0 l0_0 a0 (length p:Int)) (ex54_0 (r54_0 a0 y0 (length p:Int))) (fin54_0 l0_0 a0 (r54_0 a0 y0 (length p:Int))))
  |[],p,hp0=>by
    have hc:=hcn b_KY hp0
    exact lx 9 ya (.f (nt hc) (.h 8 (.b false) .nil)) rfl
  |x0::y0,p,hp0=>by
    have hc:=hcy b_KY hp0
    have Hx0:=hxy hp0
    have hlen:=hly hp0
    have hw:wrap .i64 ((length p:Int)+1)=(length p:Int)+1:=wrap64 yb
    simp only[r54_0]
    have f1:0≤(length p:Int):=yb
    have P1 {hs q} (r:PS F X hs q):=(PS.f hc (.f f1 (.f (mp_ b_KY Hx0) (.h 8 (.b true) (.h 14 (.row (b_KY x0)) (.r 16 [] [] (e55 (l0:=(l0_0+1)) (a0:=x0)) r))))))
    by_cases h_1:(!(m55 x0))=true
    · try simp only[if_pos h_1]
      exact lx 22 ya (P1 (.f h_1 (.h 19 (.b true) .nil))) rfl
    · try simp only[if_neg h_1]
      have f5:(0≤(0:Int)∧(0:Int)≤(length p:Int)∧(length p:Int)≤((length (map b_KY a0)):Int))∧∀r∈((map b_KY a0):List (List B)),r.length=4:=(by refine⟨?_,lenB_KY _⟩; simp only[LN]; omega)
      have f8:Ev F X (.call 85 [(.one (.bor (l0_0+1) (take (toNat (length p:Int) - toNat 0) (drop 0 (map b_KY a0))))),(.agg [(.i x0.f0),(.i x0.f1),(.i x0.f2),(.i x0.f3)])] [] [] [(.one (.val (.bool (m85 (take (toNat (length p:Int)) a0) x0))))]):=(by rw[show (take (toNat (length p:Int) - toNat 0) (drop 0 (map b_KY a0)))=(map b_KY (take (toNat (length p:Int)) a0)) from by first | rfl |(simp[map_take,map_drop,ol112,ol83,ol84,ol51,ol21,four_len]; done) |(simp[byteRows_eq,map_take,map_drop,ol112,ol83,ol84,ol51,ol21,four_len]; done) |(simp[*,map_take,map_drop,ol112,ol83,ol84,ol51,ol21,four_len]; done) |(rw[take_of_length_le (by simp only[length_drop,length_take,length_map,Int.toNat_natCast]; omega)]; simp only[← map_drop,← map_take])]; exact(e85 (l0_0:=(l0_0+1)) (a0:=(take (toNat (length p:Int)) a0)) (a1:=x0) (by simp only[length_take]; omega)))
      have P2 {hs q} (r:PS F X hs q):=(P1 (.f (nt h_1) (.f f5 (.f f1 (.f (mp_ b_KY Hx0) (.h 19 (.b false) (.h 31 (.row (b_KY x0)) (.r 35 [] [] f8 r))))))))
      by_cases h_2:(m85 (take (toNat (length p:Int)) a0) x0)=true
      · try simp only[if_pos h_2]
        exact lx 39 ya (P2 (.f h_2 (.h 36 (.b true) .nil))) rfl
      · try simp only[if_neg h_2]
        have ih:=t54_0 (l0_0:=l0_0) (a0:=a0) hy0 y0 (p++ [x0]) yd
        rw[pl1,← hw] at ih; rw[← hw]
        exact ly 43 ya (P2 (.f (nt h_2) (.f trivial (.h 36 (.b false) .nil)))) ih
def m54 (a0:(List K_KY)):Int:=
  if(decide (((length (map b_KY a0)):Int) > 40))=true then 2 else
  (match r54_0 a0 a0 0 with | .k0 w0_1 w1_1=>0 | .k1=>3 | .k2=>6)
theorem e54 {l0_0:Nat} {a0:(List K_KY)} (hy0:length a0*32≤140737488351232):Ev F X (.call 54 [(.one (.bor l0_0 (map b_KY a0)))] [] [] [(.one (.val (.int .i64 (m54 a0))))]):=by
  unfold m54
  by_cases h0:(decide (((length (map b_KY a0)):Int) > 40))=true
  · try simp only[if_pos h0]
    exact cp ya (.f h0 (.h 8 (.b true) .nil))
  · try simp only[if_neg h0]
    cases h1:r54_0 a0 a0 0 with
    |k0 w0_1 w1_1=>
      try dsimp only
      have f1:=Eq.refl (h54_0 l0_0 a0 0 )
      exact cp ya (.f (nt h0) (.f f1 (.f (ev_ (e:=ex54_0) (g:=(fin54_0 l0_0 a0)) h1 (t54_0 (l0_0:=l0_0) (a0:=a0) (by assumption) a0 []  rfl)) (.h 8 (.b false) (.h 11 (.loop (h54_0 l0_0 a0 0) (.exit 0) (fin54_0 l0_0 a0 (.k0 w0_1 w1_1))) .nil)))))
    |k1=>
      try dsimp only
      have f1:=Eq.refl (h54_0 l0_0 a0 0 )
      exact cp ya (.f (nt h0) (.f f1 (.f (ev_ (e:=ex54_0) (g:=(fin54_0 l0_0 a0)) h1 (t54_0 (l0_0:=l0_0) (a0:=a0) (by assumption) a0 []  rfl)) (.h 8 (.b false) (.h 11 (.loop (h54_0 l0_0 a0 0) .ret (fin54_0 l0_0 a0 (.k1))) .nil)))))
    |k2=>
      try dsimp only
      have f1:=Eq.refl (h54_0 l0_0 a0 0 )
      exact cp ya (.f (nt h0) (.f f1 (.f (ev_ (e:=ex54_0) (g:=(fin54_0 l0_0 a0)) h1 (t54_0 (l0_0:=l0_0) (a0:=a0) (by assumption) a0 []  rfl)) (.h 8 (.b false) (.h 11 (.loop (h54_0 l0_0 a0 0) .ret (fin54_0 l0_0 a0 (.k2))) .nil)))))
theorem e149 {l0_0:Nat} {a0:(List Int)} (hy0:length a0*8≤70368744177664):Ev F X (.call 149 [(.one (.bor l0_0 (map b_i a0)))] [] [] [(.one (.own 1 (map d_i a0)))]):=by
  have f0:0+0≤0:=yb
  have f1:(length ([]++(fromBR l0_0 (map b_i a0))))*8≤70368744177664:=(by simp[ol112,ol83,ol84,ol51,ol21,four_len]; omega)
  have f2:∀r∈((fromBR l0_0 (map b_i a0)):List (List D)),r.length=1:=(by simp[*,ol112,ol83,ol84,ol51,ol21,four_len,b_i,d_i,byteRows_eq,ints_y]; done)
  have f3:([]++(fromBR l0_0 (map b_i a0)))=(map d_i a0):=yaa
  have f5:(length ([]++(fromBR l0_0 (map b_i a0))))=(length (map d_i a0)):=yW
  exact cp ya (.f f0 (.f f1 (.f f2 (.f f3 (pe 0 (.f f5 (.f (pureR_i a0) (.h 10 (.norm (2,0,0) (map d_i a0)) .nil))))))))
inductive O122_0 where
  |k0 (w0:List K_N) (w1:Int) (w2:Bool)
def r122_0 (a0:K_T):List K_N→Int→List K_N→O122_0
  |x0::y0,i,v0=>
    (r122_0 a0 y0 (i+1) (v0++([x0])))
  |[],i,v0=>(O122_0.k0 v0 i (decide (i <((length (map b_N a0.f1)):Int))))
def h122_0 (l0_1:Nat) (l0_2:Nat) (a0:K_T) (i:Int) (v0:List K_N):St:=⟨[(1,(.ptr ⟨(1,0,0),[],0,0,3⟩)),(2,(.ptr ⟨(2,0,0),[],0,0,3⟩)),(3,(.ptr ⟨(3,0,0),[],0,0,3⟩)),(4,(.one (.val (.int .i64 i))))],[((1,0,0),.live ⟨3,[[(.val (.int .i64 a0.f0)),(.bor l0_1 (map b_N a0.f1)),(.bor l0_2 (map b_U a0.f2))]],[]⟩),((2,0,0),.live ⟨3,[[(.val (.int .i64 0)),(.own 3 []),(.own 2 [])]],[]⟩),((3,0,0),.live ⟨3,[[(.val (.int .i64 a0.f0)),(.own 3 (map d_N v0)),(.own 2 [])]],[]⟩)]⟩
def ex122_0:O122_0→VX.Exit
  |.k0 _ _ _=>(.exit 0)
def fin122_0 (l0_1:Nat) (l0_2:Nat) (a0:K_T):O122_0→St
  |.k0 w0 w1 w2=>⟨[(1,(.ptr ⟨(1,0,0),[],0,0,3⟩)),(2,(.ptr ⟨(2,0,0),[],0,0,3⟩)),(3,(.ptr ⟨(3,0,0),[],0,0,3⟩)),(4,(.one (.val (.int .i64 w1)))),(13,(.one (.val (.bool w2))))],[((1,0,0),.live ⟨3,[[(.val (.int .i64 a0.f0)),(.bor l0_1 (map b_N a0.f1)),(.bor l0_2 (map b_U a0.f2))]],[]⟩),((2,0,0),.live ⟨3,[[(.val (.int .i64 0)),(.own 3 []),(.own 2 [])]],[]⟩),((3,0,0),.live ⟨3,[[(.val (.int .i64 a0.f0)),(.own 3 (map d_N w0)),(.own 2 [])]],[]⟩)]⟩
theorem t122_0 {l0_1:Nat} {l0_2:Nat} {a0:K_T} (hy0:length a0.f1*40≤140737488351232) (hy1:∀z∈a0.f1,ok_N z) (hy2:length a0.f2*32≤140737488351232) (hy3:∀z∈a0.f2,ok_U z) (hy4:SmT a0):∀(y0:List K_N) (p:List K_N) (v0:List K_N),p++y0=a0.f1→(length v0+length y0)*40≤70368744177664→Ev F X (.code l122_0 (h122_0 l0_1 l0_2 a0 (length p:Int) v0) (ex122_0 (r122_0 a0 y0 (length p:Int) v0)) (fin122_0 l0_1 l0_2 a0 (r122_0 a0 y0 (length p:Int) v0)))
  |[],p,v0,hp0,hi0=>by
    have hc:=hcn b_N hp0
    have hj0:=hi0; try simp only[LN,Int.toNat_natCast] at hj0
    exact lx 11 ya (.f (nt hc) (.h 10 (.b false) .nil)) rfl
  |x0::y0,p,v0,hp0,hi0=>by
    have hc:=hcy b_N hp0
    have Hx0:=hxy hp0
    have Mx0_0:=hy1 x0 (List.mem_of_getElem? Hx0)
    have hlen:=hly hp0
    have hw:wrap .i64 ((length p:Int)+1)=(length p:Int)+1:=wrap64 yb
    have hj0:=hi0; try simp only[LN,Int.toNat_natCast] at hj0
    simp only[r122_0]
    have f1:0≤(length p:Int):=yb
    have f10:0+(length (map d_N v0))≤(length (map d_N v0)):=yb
    have f11:1≤1:=yb
    have f12:((take 1 (drop 0 [[(.i x0.f0),(.i x0.f1),(.own 1 (map d_i x0.f2))]])).all fun x=>x.all copyable)=false:=yE
    have f15:(length ((take (length (map d_N v0)) (drop 0 (map d_N v0)))++([[(.i x0.f0),(.i x0.f1),(.own 1 (map d_i x0.f2))]]:List (List D))))*40≤70368744177664:=yu
    have f16:∀r∈([[(.i x0.f0),(.i x0.f1),(.own 1 (map d_i x0.f2))]]:List (List D)),r.length=3:=yW
    have f19:([[(.i a0.f0),(.own 3 ((take (length (map d_N v0)) (drop 0 (map d_N v0)))++([[(.i x0.f0),(.i x0.f1),(.own 1 (map d_i x0.f2))]]:List (List D)))),(.own 2 [])]]:List (List D))=[[(.i a0.f0),(.own 3 (map d_N (v0++([x0])))),(.own 2 [])]]:=(by simp[take_of_length_le,d_i,d_N,ol112,ol83,ol84,ol51,ol21,four_len]; done)
    have ih:=t122_0 (l0_1:=l0_1) (l0_2:=l0_2) (a0:=a0) hy0 hy1 hy2 hy3 hy4 y0 (p++ [x0]) (v0++([x0])) yd yo
    rw[pl1,← hw] at ih; rw[← hw]
    exact ly 70 ya (.f hc (.f f1 (.f (mp_ b_N Hx0) (.f f1 (.f (mp_ b_N Hx0) (.f f1 (.f (mp_ b_N Hx0) (.h 10 (.b true) (.h 22 (.row [(.i x0.f0),(.i x0.f1),(.sl (map b_i x0.f2))]) (.h 34 (.row [(.i x0.f0),(.i x0.f1),(.sl (map b_i x0.f2))]) (.h 46 (.row [(.i x0.f0),(.i x0.f1),(.sl (map b_i x0.f2))]) (.r 52 [] [] (e149 (l0_0:=(l0_1+1)) (a0:=x0.f2) (by have q:=hy4.2.1 x0 (List.mem_of_getElem? Hx0); omega)) (pe 0 (pe (length (map d_i x0.f2)) (.f f10 (.f f11 (.f f12 (pe 0 (pe 1 (.f f15 (.f f16 (pe 0 (pe (length ((take (length (map d_N v0)) (drop 0 (map d_N v0)))++([[(.i x0.f0),(.i x0.f1),(.own 1 (map d_i x0.f2))]]:List (List D)))) (.f f19 (.f trivial (.h 58 (.b false) (.h 63 (.norm (3,0,0) [[(.i a0.f0),(.own 3 (map d_N (v0++([x0])))),(.own 2 [])]]) .nil))))))))))))))))))))))))))) ih
def post122_0 (n0:Nat):O122_0→Prop
  |.k0 w0 _ _=>length w0=n0
theorem z122_0 {a0:K_T}:∀(y0:List K_N) (i:Int) (v0:List K_N),post122_0 (length v0+length y0) (r122_0 a0 y0 i v0)
  |[],i,v0=>by
    first | trivial |(simp only[post122_0,length_nil,Nat.add_zero]; done) |(simp[post122_0]; done)
  |x0::y0,i,v0=>by
    simp only[r122_0]
    have z:=z122_0 (a0:=a0) y0 (i+1) (v0++([x0]))
    rw[show (length v0+length (x0::y0))=(length (v0++([x0]))+length y0) from by first | omega |(simp only[LN]; done) |(simp only[LN]; omega)]
    exact z
theorem cp122_0 (a:K_T):∀(l:List K_N) (i:Int) (v:List K_N),∃j b,r122_0 a l i v=.k0 (v++l) j b
  |[],i,v=>⟨_,_,by simp only[r122_0,List.append_nil]; rfl⟩
  |x::l,i,v=>by
    obtain⟨j,b,h⟩:=cp122_0 a l (i+1) (v++ [x])
    exact⟨j,b,by simp only[r122_0]; rw[h,append_assoc]; rfl⟩
inductive O122_1 where
  |k0 (w0:List K_U) (w1:Int) (w2:Bool)
def r122_1 (a0:K_T):List K_U→Int→List K_U→O122_1
  |x0::y0,i,v0=>
    (r122_1 a0 y0 (i+1) (v0++([x0])))
  |[],i,v0=>(O122_1.k0 v0 i (decide (i <((length (map b_U a0.f2)):Int))))
def h122_1 (l0_1:Nat) (l0_2:Nat) (a0:K_T) (c0_122_1:List K_N) (i:Int) (v0:List K_U):St:=⟨[(1,(.ptr ⟨(1,0,0),[],0,0,3⟩)),(2,(.ptr ⟨(2,0,0),[],0,0,3⟩)),(3,(.ptr ⟨(3,0,0),[],0,0,3⟩)),(5,(.one (.val (.int .i64 i))))],[((1,0,0),.live ⟨3,[[(.val (.int .i64 a0.f0)),(.bor l0_1 (map b_N a0.f1)),(.bor l0_2 (map b_U a0.f2))]],[]⟩),((2,0,0),.live ⟨3,[[(.val (.int .i64 0)),(.own 3 []),(.own 2 [])]],[]⟩),((3,0,0),.live ⟨3,[[(.val (.int .i64 a0.f0)),(.own 3 (map d_N c0_122_1)),(.own 2 (map d_U v0))]],[]⟩)]⟩
def ex122_1:O122_1→VX.Exit
  |.k0 _ _ _=>(.exit 2)
def fin122_1 (l0_1:Nat) (l0_2:Nat) (a0:K_T) (c0_122_1:List K_N):O122_1→St
  |.k0 w0 w1 w2=>⟨[(1,(.ptr ⟨(1,0,0),[],0,0,3⟩)),(2,(.ptr ⟨(2,0,0),[],0,0,3⟩)),(3,(.ptr ⟨(3,0,0),[],0,0,3⟩)),(5,(.one (.val (.int .i64 w1)))),(45,(.one (.val (.bool w2))))],[((1,0,0),.live ⟨3,[[(.val (.int .i64 a0.f0)),(.bor l0_1 (map b_N a0.f1)),(.bor l0_2 (map b_U a0.f2))]],[]⟩),((2,0,0),.live ⟨3,[[(.val (.int .i64 0)),(.own 3 []),(.own 2 [])]],[]⟩),((3,0,0),.live ⟨3,[[(.val (.int .i64 a0.f0)),(.own 3 (map d_N c0_122_1)),(.own 2 (map d_U w0))]],[]⟩)]⟩
theorem t122_1 {l0_1:Nat} {l0_2:Nat} {a0:K_T} {c0_122_1:List K_N} (hy0:length a0.f1*40≤140737488351232) (hy1:∀z∈a0.f1,ok_N z) (hy2:length a0.f2*32≤140737488351232) (hy3:∀z∈a0.f2,ok_U z) (hy4:SmT a0) (hy5:length c0_122_1≤140737488351232):∀(y0:List K_U) (p:List K_U) (v0:List K_U),p++y0=a0.f2→(length v0+length y0)*32≤70368744177664→Ev F X (.code l122_1 (h122_1 l0_1 l0_2 a0 c0_122_1 (length p:Int) v0) (ex122_1 (r122_1 a0 y0 (length p:Int) v0)) (fin122_1 l0_1 l0_2 a0 c0_122_1 (r122_1 a0 y0 (length p:Int) v0)))
  |[],p,v0,hp0,hi0=>by
    have hc:=hcn b_U hp0
    have hj0:=hi0; try simp only[LN,Int.toNat_natCast] at hj0
    exact lx 11 ya (.f (nt hc) (.h 10 (.b false) .nil)) rfl
  |x0::y0,p,v0,hp0,hi0=>by
    have hc:=hcy b_U hp0
    have Hx0:=hxy hp0
    have Mx0_0:=hy3 x0 (List.mem_of_getElem? Hx0)
    have hlen:=hly hp0
    have hw:wrap .i64 ((length p:Int)+1)=(length p:Int)+1:=wrap64 yb
    have hj0:=hi0; try simp only[LN,Int.toNat_natCast] at hj0
    simp only[r122_1]
    have f1:0≤(length p:Int):=yb
    have f8:0+(length (map d_U v0))≤(length (map d_U v0)):=yb
    have f9:1≤1:=yb
    have f10:((take 1 (drop 0 [[(.i x0.f0),(.own 1 (map d_i x0.f1))]])).all fun x=>x.all copyable)=false:=yE
    have f13:(length ((take (length (map d_U v0)) (drop 0 (map d_U v0)))++([[(.i x0.f0),(.own 1 (map d_i x0.f1))]]:List (List D))))*32≤70368744177664:=yu
    have f14:∀r∈([[(.i x0.f0),(.own 1 (map d_i x0.f1))]]:List (List D)),r.length=2:=yW
    have f17:([[(.i a0.f0),(.own 3 (map d_N c0_122_1)),(.own 2 ((take (length (map d_U v0)) (drop 0 (map d_U v0)))++([[(.i x0.f0),(.own 1 (map d_i x0.f1))]]:List (List D))))]]:List (List D))=[[(.i a0.f0),(.own 3 (map d_N c0_122_1)),(.own 2 (map d_U (v0++([x0]))))]]:=(by simp[take_of_length_le,d_i,d_N,d_U,ol112,ol83,ol84,ol51,ol21,four_len]; done)
    have ih:=t122_1 (l0_1:=l0_1) (l0_2:=l0_2) (a0:=a0) (c0_122_1:=c0_122_1) hy0 hy1 hy2 hy3 hy4 hy5 y0 (p++ [x0]) (v0++([x0])) yd yo
    rw[pl1,← hw] at ih; rw[← hw]
    exact ly 58 ya (.f hc (.f f1 (.f (mp_ b_U Hx0) (.f f1 (.f (mp_ b_U Hx0) (.h 10 (.b true) (.h 22 (.row [(.i x0.f0),(.sl (map b_i x0.f1))]) (.h 34 (.row [(.i x0.f0),(.sl (map b_i x0.f1))]) (.r 40 [] [] (e149 (l0_0:=(l0_2+1)) (a0:=x0.f1) (by have q:=hy4.2.2.2 x0 (List.mem_of_getElem? Hx0); omega)) (pe 0 (pe (length (map d_i x0.f1)) (.f f8 (.f f9 (.f f10 (pe 0 (pe 1 (.f f13 (.f f14 (pe 0 (pe (length ((take (length (map d_U v0)) (drop 0 (map d_U v0)))++([[(.i x0.f0),(.own 1 (map d_i x0.f1))]]:List (List D)))) (.f f17 (.f trivial (.h 46 (.b false) (.h 51 (.norm (3,0,0) [[(.i a0.f0),(.own 3 (map d_N c0_122_1)),(.own 2 (map d_U (v0++([x0]))))]]) .nil)))))))))))))))))))))))) ih
def post122_1 (n0:Nat):O122_1→Prop
  |.k0 w0 _ _=>length w0=n0
theorem z122_1 {a0:K_T}:∀(y0:List K_U) (i:Int) (v0:List K_U),post122_1 (length v0+length y0) (r122_1 a0 y0 i v0)
  |[],i,v0=>by
    first | trivial |(simp only[post122_1,length_nil,Nat.add_zero]; done) |(simp[post122_1]; done)
  |x0::y0,i,v0=>by
    simp only[r122_1]
    have z:=z122_1 (a0:=a0) y0 (i+1) (v0++([x0]))
    rw[show (length v0+length (x0::y0))=(length (v0++([x0]))+length y0) from by first | omega |(simp only[LN]; done) |(simp only[LN]; omega)]
    exact z
theorem cp122_1 (a:K_T):∀(l:List K_U) (i:Int) (v:List K_U),∃j b,r122_1 a l i v=.k0 (v++l) j b
  |[],i,v=>⟨_,_,by simp only[r122_1,List.append_nil]; rfl⟩
  |x::l,i,v=>by
    obtain⟨j,b,h⟩:=cp122_1 a l (i+1) (v++ [x])
    exact⟨j,b,by simp only[r122_1]; rw[h,append_assoc]; rfl⟩
def m122 (a0:K_T):K_T:=
  (match r122_0 a0 a0.f1 0 [] with | .k0 w0_0 w1_0 w2_0=>(match r122_1 a0 a0.f2 0 [] with | .k0 w0_1 w1_1 w2_1=>(K_T.mk a0.f0 w0_0 w0_1)))
theorem e122 {l0_1:Nat} {l0_2:Nat} {a0:K_T} (hy0:length a0.f1*40≤140737488351232) (hy1:∀z∈a0.f1,ok_N z) (hy2:length a0.f2*32≤140737488351232) (hy3:∀z∈a0.f2,ok_U z) (hy4:SmT a0):Ev F X (.call 122 [(.agg (k_T l0_1 l0_2 a0))] [] [] [(.agg (d_T (m122 a0)))]):=by
  unfold m122
  cases h0:r122_0 a0 a0.f1 0 [] with
  |k0 w0_0 w1_0 w2_0=>
    try dsimp only
    have zh0:=z122_0 (a0:=a0) a0.f1 0 []; rw[h0] at zh0; simp only[post122_0,length_map,length_set,length_append,length_replicate,length_cons,length_nil,Int.toNat_natCast] at zh0
    have f0:=Eq.refl (h122_0 l0_1 l0_2 a0 0 [])
    cases h1:r122_1 a0 a0.f2 0 [] with
    |k0 w0_1 w1_1 w2_1=>
      try dsimp only
      have zh1:=z122_1 (a0:=a0) a0.f2 0 []; rw[h1] at zh1; simp only[post122_1,length_map,length_set,length_append,length_replicate,length_cons,length_nil,Int.toNat_natCast] at zh1
      have f2:=Eq.refl (h122_1 l0_1 l0_2 a0 w0_0 0 [])
      exact cp ya (.f f0 (.f (ev_ (e:=ex122_0) (g:=(fin122_0 l0_1 l0_2 a0)) h0 (t122_0 (l0_1:=l0_1) (l0_2:=l0_2) (a0:=a0) (by assumption) (by assumption) (by assumption) (by assumption) (by assumption) a0.f1 [] [] rfl yV)) (.f f2 (.f (ev_ (e:=ex122_1) (g:=(fin122_1 l0_1 l0_2 a0 w0_0)) h1 (t122_1 (l0_1:=l0_1) (l0_2:=l0_2) (a0:=a0) (c0_122_1:=w0_0) (by assumption) (by assumption) (by assumption) (by assumption) (by assumption) yb a0.f2 [] [] rfl yV)) (pe 0 (pe (length (map d_N w0_0)) (pe 0 (pe (length (map d_U w0_1)) (.f (pureR_N w0_0) (.f (pureR_U w0_1) (.h 16 (.loop (h122_0 l0_1 l0_2 a0 0 []) (.exit 0) (fin122_0 l0_1 l0_2 a0 (.k0 w0_0 w1_0 w2_0))) (.h 19 (.loop (h122_1 l0_1 l0_2 a0 w0_0 0 []) (.exit 2) (fin122_1 l0_1 l0_2 a0 w0_0 (.k0 w0_1 w1_1 w2_1))) .nil))))))))))))
theorem q122 (a0:K_T) (hy0:length a0.f1*40≤140737488351232) (hy1:∀z∈a0.f1,ok_N z) (hy2:length a0.f2*32≤140737488351232) (hy3:∀z∈a0.f2,ok_U z) (hy4:SmT a0):(m122 a0)=a0:=by
  obtain⟨j,b,h⟩:=cp122_0 a0 a0.f1 0 []
  obtain⟨j2,b2,h2⟩:=cp122_1 a0 a0.f2 0 []
  unfold m122
  rw[h]
  simp only[]
  rw[h2]
  rfl
theorem g122 {l0_1:Nat} {l0_2:Nat} {a0:K_T} (hy0:length a0.f1*40≤140737488351232) (hy1:∀z∈a0.f1,ok_N z) (hy2:length a0.f2*32≤140737488351232) (hy3:∀z∈a0.f2,ok_U z) (hy4:SmT a0):Ev F X (.call 122 [(.agg (k_T l0_1 l0_2 a0))] [] [] [(.agg (d_T a0))]):=by
  have t:=e122 (l0_1:=l0_1) (l0_2:=l0_2) (a0:=a0) hy0 hy1 hy2 hy3 hy4
  rw[q122 a0 hy0 hy1 hy2 hy3 hy4] at t
  exact t
inductive O95_0 where
  |k0 (w0:List K_T) (w1:Int) (w2:Bool)
def r95_0 (a0:(List K_T)):List K_T→Int→List K_T→O95_0
  |x0::y0,i,v0=>
    (r95_0 a0 y0 (i+1) (v0++([x0])))
  |[],i,v0=>(O95_0.k0 v0 i (decide (i <((length (map b_T a0)):Int))))
def h95_0 (l0_0:Nat) (a0:(List K_T)) (i:Int) (v0:List K_T):St:=⟨[(0,(.one (.bor l0_0 (map b_T a0)))),(3,(.one (.ref ⟨(3,0,0),[],0,(length (map d_T v0))⟩))),(4,(.one (.val (.int .i64 i))))],[((3,0,0),.live ⟨3,(map d_T v0),[]⟩)]⟩
def ex95_0:O95_0→VX.Exit
  |.k0 _ _ _=>(.exit 0)
def fin95_0 (l0_0:Nat) (a0:(List K_T)):O95_0→St
  |.k0 w0 w1 w2=>⟨[(0,(.one (.bor l0_0 (map b_T a0)))),(3,(.one (.ref ⟨(3,0,0),[],0,(length (map d_T w0))⟩))),(4,(.one (.val (.int .i64 w1)))),(9,(.one (.val (.bool w2))))],[((3,0,0),.live ⟨3,(map d_T w0),[]⟩)]⟩
theorem t95_0 {l0_0:Nat} {a0:(List K_T)} (hy0:length a0*56≤140737488351232) (hy1:∀z∈a0,ok_T z) (hy2:length a0≤4) (hy3:∀z∈a0,SmT z):∀(y0:List K_T) (p:List K_T) (v0:List K_T),p++y0=a0→(length v0+length y0)*56≤70368744177664→Ev F X (.code l95_0 (h95_0 l0_0 a0 (length p:Int) v0) (ex95_0 (r95_0 a0 y0 (length p:Int) v0)) (fin95_0 l0_0 a0 (r95_0 a0 y0 (length p:Int) v0)))
  |[],p,v0,hp0,hi0=>by
    have hc:=hcn b_T hp0
    have hj0:=hi0; try simp only[LN,Int.toNat_natCast] at hj0
    exact lx 9 ya (.f (nt hc) (.h 8 (.b false) .nil)) rfl
  |x0::y0,p,v0,hp0,hi0=>by
    have hc:=hcy b_T hp0
    have Hx0:=hxy hp0
    obtain⟨Mx0_0,Mx0_1,Mx0_2,Mx0_3⟩:=hy1 x0 (List.mem_of_getElem? Hx0)
    have hlen:=hly hp0
    have hw:wrap .i64 ((length p:Int)+1)=(length p:Int)+1:=wrap64 yb
    have hj0:=hi0; try simp only[LN,Int.toNat_natCast] at hj0
    simp only[r95_0]
    have f1:0≤(length p:Int):=yb
    have f8:0+(length (map d_T v0))≤(length (map d_T v0)):=yb
    have f9:1≤1:=yb
    have f10:((take 1 (drop 0 [[(.i x0.f0),(.own 3 (map d_N x0.f1)),(.own 2 (map d_U x0.f2))]])).all fun x=>x.all copyable)=false:=yE
    have f13:(length ((take (length (map d_T v0)) (drop 0 (map d_T v0)))++([[(.i x0.f0),(.own 3 (map d_N x0.f1)),(.own 2 (map d_U x0.f2))]]:List (List D))))*56≤70368744177664:=yu
    have f14:∀r∈([[(.i x0.f0),(.own 3 (map d_N x0.f1)),(.own 2 (map d_U x0.f2))]]:List (List D)),r.length=3:=yW
    have f15:((take (length (map d_T v0)) (drop 0 (map d_T v0)))++([[(.i x0.f0),(.own 3 (map d_N x0.f1)),(.own 2 (map d_U x0.f2))]]:List (List D)))=(map d_T (v0++([x0]))):=(by simp[take_of_length_le,d_N,d_U,d_T,ol112,ol83,ol84,ol51,ol21,four_len]; done)
    have st:=ch b95_0 (h95_0 l0_0 a0 (length p:Int) v0) ⟨[(0,(.one (.bor l0_0 (map b_T a0)))),(3,(.one (.ref ⟨(3,0,0),[],0,(length ((take (length (map d_T v0)) (drop 0 (map d_T v0)))++([[(.i x0.f0),(.own 3 (map d_N x0.f1)),(.own 2 (map d_U x0.f2))]]:List (List D))))⟩))),(4,(.oi (wrap .i64 ((length p:Int)+1))))],[((3,0,0),.live ⟨3,(map d_T (v0++([x0]))),[]⟩)]⟩ .normal 34 ya (.f hc (.f f1 (.f (mp_ b_T Hx0) (.h 8 (.b true) (.h 16 (.row [(.i x0.f0),(.sl (map b_N x0.f1)),(.sl (map b_U x0.f2))]) (.r 20 [] [] (g122 (l0_1:=(l0_0+1)) (l0_2:=(l0_0+1)) (a0:=x0) yK yK yK yK (by exact hy3 x0 (List.mem_of_getElem? Hx0))) (pe 0 (pe (length (map d_N x0.f1)) (pe 0 (pe (length (map d_U x0.f2)) (.f f8 (.f f9 (.f f10 (pe 0 (pe 1 (.f f13 (.f f14 (.f f15 (.f trivial (.h 24 (.b false) (.h 27 (.norm (3,0,0) (map d_T (v0++([x0])))) .nil)))))))))))))))))))))
    have ih:=t95_0 (l0_0:=l0_0) (a0:=a0) hy0 hy1 hy2 hy3 y0 (p++ [x0]) (v0++([x0])) yd yo
    rw[pl1] at ih
    rw[show (⟨[(0,(.one (.bor l0_0 (map b_T a0)))),(3,(.one (.ref ⟨(3,0,0),[],0,(length ((take (length (map d_T v0)) (drop 0 (map d_T v0)))++([[(.i x0.f0),(.own 3 (map d_N x0.f1)),(.own 2 (map d_U x0.f2))]]:List (List D))))⟩))),(4,(.oi (wrap .i64 ((length p:Int)+1))))],[((3,0,0),.live ⟨3,(map d_T (v0++([x0]))),[]⟩)]⟩:St)=h95_0 l0_0 a0 ((length p:Int)+1) (v0++([x0])) from(by unfold h95_0; simp[hw,take_of_length_le,d_N,d_U,d_T,ol112,ol83,ol84,ol51,ol21,four_len]; done)] at st
    exact .loopN st ih
def post95_0 (n0:Nat):O95_0→Prop
  |.k0 w0 _ _=>length w0=n0
theorem z95_0 {a0:(List K_T)}:∀(y0:List K_T) (i:Int) (v0:List K_T),post95_0 (length v0+length y0) (r95_0 a0 y0 i v0)
  |[],i,v0=>by
    first | trivial |(simp only[post95_0,length_nil,Nat.add_zero]; done) |(simp[post95_0]; done)
  |x0::y0,i,v0=>by
    simp only[r95_0]
    have z:=z95_0 (a0:=a0) y0 (i+1) (v0++([x0]))
    rw[show (length v0+length (x0::y0))=(length (v0++([x0]))+length y0) from by first | omega |(simp only[LN]; done) |(simp only[LN]; omega)]
    exact z
theorem cp95_0 (a:List K_T):∀(l:List K_T) (i:Int) (v:List K_T),∃j b,r95_0 a l i v=.k0 (v++l) j b
  |[],i,v=>⟨_,_,by simp only[r95_0,List.append_nil]; rfl⟩
  |x::l,i,v=>by
    obtain⟨j,b,h⟩:=cp95_0 a l (i+1) (v++ [x])
    exact⟨j,b,by simp only[r95_0]; rw[h,append_assoc]; rfl⟩
def m95 (a0:(List K_T)):(List K_T):=
  (match r95_0 a0 a0 0 ([]) with | .k0 w0_0 w1_0 w2_0=>w0_0)
theorem e95 {l0_0:Nat} {a0:(List K_T)} (hy0:length a0*56≤140737488351232) (hy1:∀z∈a0,ok_T z) (hy2:length a0≤4) (hy3:∀z∈a0,SmT z):Ev F X (.call 95 [(.one (.bor l0_0 (map b_T a0)))] [] [] [(.one (.own 3 (map d_T (m95 a0))))]):=by
  unfold m95
  cases h0:r95_0 a0 a0 0 ([]) with
  |k0 w0_0 w1_0 w2_0=>
    try dsimp only
    have zh0:=z95_0 (a0:=a0) a0 0 ([]); rw[h0] at zh0; simp only[post95_0,length_map,length_set,length_append,length_replicate,length_cons,length_nil,Int.toNat_natCast] at zh0
    have f0:=Eq.refl (h95_0 l0_0 a0 0 ([]))
    exact cp ya (.f f0 (.f (ev_ (e:=ex95_0) (g:=(fin95_0 l0_0 a0)) h0 (t95_0 (l0_0:=l0_0) (a0:=a0) (by assumption) (by assumption) (by assumption) (by assumption) a0 [] ([]) rfl yo)) (pe 0 (pe (length (map d_T w0_0)) (.f (pureR_T w0_0) (.h 8 (.loop (h95_0 l0_0 a0 0 ([])) (.exit 0) (fin95_0 l0_0 a0 (.k0 w0_0 w1_0 w2_0))) .nil))))))
theorem q95 (a0:(List K_T)) (hy0:length a0*56≤140737488351232) (hy1:∀z∈a0,ok_T z) (hy2:length a0≤4) (hy3:∀z∈a0,SmT z):(m95 a0)=a0:=by
  obtain⟨j,b,h⟩:=cp95_0 a0 a0 0 []
  unfold m95
  rw[h]
  rfl
theorem g95 {l0_0:Nat} {a0:(List K_T)} (hy0:length a0*56≤140737488351232) (hy1:∀z∈a0,ok_T z) (hy2:length a0≤4) (hy3:∀z∈a0,SmT z):Ev F X (.call 95 [(.one (.bor l0_0 (map b_T a0)))] [] [] [(.one (.own 3 (map d_T a0)))]):=by
  have t:=e95 (l0_0:=l0_0) (a0:=a0) hy0 hy1 hy2 hy3
  rw[q95 a0 hy0 hy1 hy2 hy3] at t
  exact t
theorem e64 {l0_4:Nat} {a0:K_G} (hy0:length a0.f4*56≤140737488351232) (hy1:∀z∈a0.f4,ok_T z) (hy2:length a0.f4≤4) (hy3:∀z∈a0.f4,SmT z):Ev F X (.call 64 [(.agg (k_G l0_4 a0))] [] [] [(.agg (d_G a0))]):=by
  exact cp ya (.r 9 [] [] (g95 (l0_0:=(l0_4+1)) (a0:=a0.f4) ‹_› ‹_› ‹_› ‹_›) (pe 0 (pe (length (map d_T a0.f4)) (pe 0 (pe (length (map d_T a0.f4)) (.f (pureR_T a0.f4) .nil))))))
def m37 (a0:K_J) (a1:Int) (a2:Int) (a3:Int):K_G:=
  (K_G.mk a0.f1 a2 a0.f3 a3 (set a0.f5 0 (K_T.mk ((getD a0.f5 0 (K_T.mk 0 [] [])).f0) ((getD a0.f5 0 (K_T.mk 0 [] [])).f1) (set ((getD a0.f5 0 (K_T.mk 0 [] [])).f2) 1 (K_U.mk ((getD ((getD a0.f5 0 (K_T.mk 0 [] [])).f2) 1 (K_U.mk 0 [])).f0) [(wrap .i64 (100+a1))])))))
theorem e37 {l0:Nat} {a0:K_J} {a1:Int} {a2:Int} {a3:Int} (hy0:length a0.f5*56≤140737488351232) (hy1:∀z∈a0.f5,ok_T z) (hy2:SmJ a0):Ev F X (.call 37 [(.bptr l0 (b_J a0)),(.one (.val (.int .i64 a1))),(.one (.val (.int .i64 a2))),(.one (.val (.int .i64 a3)))] [] [] [(.agg (d_G (m37 a0 a1 a2 a3)))]):=by
  have f3:0+(length (map d_T a0.f5))≤(length (map d_T a0.f5)):=yb
  have f4:0≤(0:Int)∧(0:Int) <((length (map d_T a0.f5)):Int):=(by have q:=hy2.1; simp only[length_map]; omega)
  have f7:nav 5 [[(.i a0.f1),(.i a0.f2),(.i a0.f3),(.i a0.f4),(.own 3 (map d_T a0.f5))]] [(0,4),(0,2)]=some (2,(map d_U ((getD a0.f5 0 (K_T.mk 0 [] [])).f2))):=(by show nav 3 (map d_T a0.f5) [(0,2)]=_; simp only[nav];(rw[getElem?_map,getD_at a0.f5 0 (K_T.mk 0 [] []) (by first | exact True.intro | with_reducible rfl | with_reducible assumption | omega |(exact hy2.2.1) |(exact hy2.2.2.1) |(exact hy2.1) |(have q:=hy2.1; omega) |(have q:=hy2.2.2.2; omega) |(refine⟨by omega,?_⟩; have q:=hy2.1; omega) |(refine⟨by omega,?_⟩; have q:=hy2.2.2.2; simp only[length_map]; omega) |(have q:=hy2.1; simp only[length_map]; omega) |(have q:=hy2.2.2.2; simp only[length_map]; omega) |(simp only[decide_eq_true_eq] at*; omega) |(simp only[length_map]; omega) |(simp[ol112,ol83,ol84,ol51,ol21,four_len]; omega) |(simp[take_of_length_le,ol112,ol83,ol84,ol51,ol21,four_len]; done) | assumption | trivial |(simp[*,ol112,ol83,ol84,ol51,ol21,four_len,byteRows_eq,ints_y]; done))]); rfl)
  have f8:0+(length (map d_U ((getD a0.f5 0 (K_T.mk 0 [] [])).f2)))≤(length (map d_U ((getD a0.f5 0 (K_T.mk 0 [] [])).f2))):=yb
  have f9:0≤(1:Int)∧(1:Int) <((length (map d_U ((getD a0.f5 0 (K_T.mk 0 [] [])).f2))):Int):=yao
  have f14:([[(.i a0.f1),(.i a0.f2),(.i a0.f3),(.i a0.f4),(.own 3 (setNav (map d_T a0.f5) [(0,2)] (set (map d_U ((getD a0.f5 0 (K_T.mk 0 [] [])).f2)) 1 [(.i ((getD ((getD a0.f5 0 (K_T.mk 0 [] [])).f2) 1 (K_U.mk 0 [])).f0)),(.own 1 [[(.i (wrap .i64 (100+a1)))]])])))]]:List (List D))=[[(.i a0.f1),(.i a0.f2),(.i a0.f3),(.i a0.f4),(.own 3 (map d_T (set a0.f5 0 (K_T.mk ((getD a0.f5 0 (K_T.mk 0 [] [])).f0) ((getD a0.f5 0 (K_T.mk 0 [] [])).f1) (set ((getD a0.f5 0 (K_T.mk 0 [] [])).f2) 1 (K_U.mk ((getD ((getD a0.f5 0 (K_T.mk 0 [] [])).f2) 1 (K_U.mk 0 [])).f0) [(wrap .i64 (100+a1))]))))))]]:=(by rw[setNavAt (i:=0) (j:=2) (row:=(d_T (getD a0.f5 0 (K_T.mk 0 [] [])))) (by rw[getElem?_map,getD_at a0.f5 0 (K_T.mk 0 [] []) (by first | exact True.intro | with_reducible rfl | with_reducible assumption | omega |(exact hy2.2.1) |(exact hy2.2.2.1) |(exact hy2.1) |(have q:=hy2.1; omega) |(have q:=hy2.2.2.2; omega) |(refine⟨by omega,?_⟩; have q:=hy2.1; omega) |(refine⟨by omega,?_⟩; have q:=hy2.2.2.2; simp only[length_map]; omega) |(have q:=hy2.1; simp only[length_map]; omega) |(have q:=hy2.2.2.2; simp only[length_map]; omega) |(simp only[decide_eq_true_eq] at*; omega) |(simp only[length_map]; omega) |(simp[ol112,ol83,ol84,ol51,ol21,four_len]; omega) |(simp[take_of_length_le,ol112,ol83,ol84,ol51,ol21,four_len]; done) | assumption | trivial |(simp[*,ol112,ol83,ol84,ol51,ol21,four_len,byteRows_eq,ints_y]; done))]; rfl) (by rfl)]; first | rfl |(simp[take_of_length_le,d_i,d_N,d_U,d_T,d_J,d_JL,d_KY,d_LiiiiE,d_b,d_SR,d_G,d_TL,d_LiE,d_NL,d_UL,d_y,d_LyE,d_LLyEE,ol112,ol83,ol84,ol51,ol21,four_len,byteRows_eq,ints_y]; done) |(simp[map_set,take_of_length_le,d_i,d_N,d_U,d_T,d_J,d_JL,d_KY,d_LiiiiE,d_b,d_SR,d_G,d_TL,d_LiE,d_NL,d_UL,d_y,d_LyE,d_LLyEE,ol112,ol83,ol84,ol51,ol21,four_len,byteRows_eq,ints_y]; done))
  exact cp ya (.r 11 [] [] (e64 (l0_4:=(l0+1)) (a0:=(K_G.mk a0.f1 a0.f2 a0.f3 a0.f4 a0.f5)) ‹_› ‹_› (by exact hy2.2.1) (by exact hy2.2.2.1)) (pe 0 (pe (length (map d_T a0.f5)) (.f f3 (.f f4 (.f (mp_ d_T (getD_at a0.f5 0 (K_T.mk 0 [] []) (by exact hy2.1))) (.f trivial (.f f7 (.f f8 (.f f9 (pe 0 (pe 1 (.f f7 (.f (mp_ d_U (getD_at ((getD a0.f5 0 (K_T.mk 0 [] [])).f2) 1 (K_U.mk 0 []) (by have q:=hy2.2.2.2; omega))) (.f f14 (pe 0 (pe (length (map d_T (set a0.f5 0 (K_T.mk ((getD a0.f5 0 (K_T.mk 0 [] [])).f0) ((getD a0.f5 0 (K_T.mk 0 [] [])).f1) (set ((getD a0.f5 0 (K_T.mk 0 [] [])).f2) 1 (K_U.mk ((getD ((getD a0.f5 0 (K_T.mk 0 [] [])).f2) 1 (K_U.mk 0 [])).f0) [(wrap .i64 (100+a1))])))))) (.f (pureR_T (set a0.f5 0 (K_T.mk ((getD a0.f5 0 (K_T.mk 0 [] [])).f0) ((getD a0.f5 0 (K_T.mk 0 [] [])).f1) (set ((getD a0.f5 0 (K_T.mk 0 [] [])).f2) 1 (K_U.mk ((getD ((getD a0.f5 0 (K_T.mk 0 [] [])).f2) 1 (K_U.mk 0 [])).f0) [(wrap .i64 (100+a1))]))))) (.h 25 (.rowD (d_T (getD a0.f5 0 (K_T.mk 0 [] [])))) (.h 33 (.nav [((9,0,0),[4,2],2,(map d_U ((getD a0.f5 0 (K_T.mk 0 [] [])).f2)))] [] (.nop)) (.h 37 (.nav [((9,0,0),[4,2],2,(map d_U ((getD a0.f5 0 (K_T.mk 0 [] [])).f2)))] [] (.rowD (d_U (getD ((getD a0.f5 0 (K_T.mk 0 [] [])).f2) 1 (K_U.mk 0 []))))) (.h 38 (.norm (9,0,0) [[(.i a0.f1),(.i a0.f2),(.i a0.f3),(.i a0.f4),(.own 3 (map d_T (set a0.f5 0 (K_T.mk ((getD a0.f5 0 (K_T.mk 0 [] [])).f0) ((getD a0.f5 0 (K_T.mk 0 [] [])).f1) (set ((getD a0.f5 0 (K_T.mk 0 [] [])).f2) 1 (K_U.mk ((getD ((getD a0.f5 0 (K_T.mk 0 [] [])).f2) 1 (K_U.mk 0 [])).f0) [(wrap .i64 (100+a1))]))))))]]) .nil))))))))))))))))))))))
theorem ob37 {a0:K_J} {a1 a2 a3:Int} (h:SmJ a0):length (m37 a0 a1 a2 a3).f4≤4∧∀z∈(m37 a0 a1 a2 a3).f4,SmT z:=by
  obtain⟨h1,h2,h3,h4⟩:=h
  have hX : SmT (getD a0.f5 0 (K_T.mk 0 [] [])) := h3 _ (by
    cases e:a0.f5 with
    |nil=>rw[e] at h1; simp at h1
    |cons x l=>exact List.mem_cons_self ..)
  obtain⟨x1,x2,x3,x4⟩:=hX
  unfold m37
  refine⟨by simpa using h2,fun z hz=>?_⟩
  rcases List.mem_or_eq_of_mem_set hz with hz | rfl
  · exact h3 z hz
  · refine⟨x1,x2,by simpa using x3,fun x hx=>?_⟩
    rcases List.mem_or_eq_of_mem_set hx with hx | rfl
    · exact x4 x hx
    · simp
end Go.Proofs.YtmdocdnidilaiaaGreat.CheckShare
