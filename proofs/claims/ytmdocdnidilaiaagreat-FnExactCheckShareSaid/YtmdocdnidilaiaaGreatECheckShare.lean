/- What the functions compute. -/
import Derived.Test.YtmdocdnidilaiaaGreatECheckShareH
import Derived.KernelRfl
namespace Go.Proofs.YtmdocdnidilaiaaGreat.CheckShare
open Go Go.Proofs.YtmdocdnidilaiaaGreat.V
set_option linter.unusedVariables false
set_option linter.unusedSimpArgs false
set_option maxRecDepth 20000
open Go.IntKind (wrap)
open Int (toNat)
open List (length_replicate length_map length_set length_append length_cons length_nil length_take length_drop take_of_length_le map_take map_drop map_set append_assoc getElem?_map map length take drop getD set)
attribute [local simp] toBR_i fullR_i pureR_i lenB_i lenD_i fromBR_i copy_i toBR_N fullR_N pureR_N lenB_N lenD_N toBR_U fullR_U pureR_U lenB_U lenD_U toBR_T fullR_T pureR_T lenB_T lenD_T toBR_J fullR_J pureR_J lenB_J lenD_J toBR_JL fullR_JL pureR_JL lenB_JL lenD_JL toBR_KY fullR_KY pureR_KY lenB_KY lenD_KY fromBR_KY copy_KY toBR_LiiiiE fullR_LiiiiE pureR_LiiiiE lenB_LiiiiE lenD_LiiiiE toBR_b fullR_b pureR_b lenB_b lenD_b fromBR_b copy_b toBR_SR fullR_SR pureR_SR lenB_SR lenD_SR toBR_G fullR_G pureR_G lenB_G lenD_G toBR_TL fullR_TL pureR_TL lenB_TL lenD_TL toBR_LiE fullR_LiE pureR_LiE lenB_LiE lenD_LiE toBR_NL fullR_NL pureR_NL lenB_NL lenD_NL toBR_UL fullR_UL pureR_UL lenB_UL lenD_UL strInts_len byteRows_len toBR_y fullR_y pureR_y lenB_y lenD_y fromBR_y copy_y toBR_LyE fullR_LyE pureR_LyE lenB_LyE lenD_LyE toBR_LLyEE fullR_LLyEE pureR_LLyEE lenB_LLyEE lenD_LLyEE
inductive O31_0 where
  |k0 (w0:List K_KY) (w1:Int) (w2:Int) (w3:Bool)
def r31_0 (a0:(List K_KY)):List K_KY→Int→List K_KY→Int→O31_0
  |x0::y0,i,v0,v1=>
    (r31_0 a0 y0 (i+1) (set v0 (toNat i) (K_KY.mk v1 (wrap .i64 (v1+1)) (wrap .i64 ((wrap .i64 (v1+1))+1)) (wrap .i64 ((wrap .i64 ((wrap .i64 (v1+1))+1))+1)))) (wrap .i64 ((wrap .i64 ((wrap .i64 ((wrap .i64 (v1+1))+1))+1))+1)))
  |[],i,v0,v1=>(O31_0.k0 v0 v1 i (decide (i <((length (map d_KY a0)):Int))))
def h31_0 (a0:(List K_KY)) (a1:Int) (i:Int) (v0:List K_KY) (v1:Int):St:=⟨[(0,(.one (.ref ⟨(0,0,0),[],0,(length (map d_KY a0))⟩))),(1,(.one (.val (.int .i64 v1)))),(5,(.one (.val (.int .i64 i))))],[((0,0,0),.live ⟨4,(map d_KY v0),[]⟩)]⟩
def ex31_0:O31_0→VX.Exit
  |.k0 _ _ _ _=>(.exit 0)
def fin31_0 (a0:(List K_KY)) (a1:Int):O31_0→St
  |.k0 w0 w1 w2 w3=>⟨[(0,(.one (.ref ⟨(0,0,0),[],0,(length (map d_KY a0))⟩))),(1,(.one (.val (.int .i64 w1)))),(5,(.one (.val (.int .i64 w2)))),(9,(.one (.val (.bool w3))))],[((0,0,0),.live ⟨4,(map d_KY w0),[]⟩)]⟩
theorem t31_0 {a0:(List K_KY)} {a1:Int} (hy0:length a0*32≤140737488351232):∀(y0:List K_KY) (p:List K_KY) (v0:List K_KY) (v1:Int),p++y0=a0→length v0=(length (map d_KY a0))→drop (length p) v0=y0→Ev F X (.code l31_0 (h31_0 a0 a1 (length p:Int) v0 v1) (ex31_0 (r31_0 a0 y0 (length p:Int) v0 v1)) (fin31_0 a0 a1 (r31_0 a0 y0 (length p:Int) v0 v1)))
  |[],p,v0,v1,hp0,hi0,hi1=>by
    have hc:=hcn d_KY hp0
    have hj0:=hi0; try simp only[LN,Int.toNat_natCast] at hj0
    have hj1:=hi1; try simp only[LN,Int.toNat_natCast] at hj1
    exact lx 9 ya (.f (nt hc) (.h 8 (.b false) .nil)) rfl
  |x0::y0,p,v0,v1,hp0,hi0,hi1=>by
    have hc:=hcy d_KY hp0
    have Hx0:=hxy hp0
    have hlen:=hly hp0
    have hw:wrap .i64 ((length p:Int)+1)=(length p:Int)+1:=wrap64 yb
    have hj0:=hi0; try simp only[LN,Int.toNat_natCast] at hj0
    have hj1:=hi1; try simp only[LN,Int.toNat_natCast] at hj1
    have Hv0:v0[toNat (length p:Int)]?=some x0:=by rw[Int.toNat_natCast]; exact drop_at hi1
    simp only[r31_0]
    have f1:0+(length (map d_KY a0))≤(length (map d_KY v0)):=yl
    have f2:0≤(length p:Int)∧(length p:Int) <((length (map d_KY a0)):Int):=yb
    have f4:(set (map d_KY v0) (0+(toNat (length p:Int))) [(.i v1),(.i x0.f1),(.i x0.f2),(.i x0.f3)])=(map d_KY (set v0 (toNat (length p:Int)) (K_KY.mk v1 x0.f1 x0.f2 x0.f3))):=yL
    have f6:0+(length (map d_KY a0))≤(length (map d_KY (set v0 (toNat (length p:Int)) (K_KY.mk v1 x0.f1 x0.f2 x0.f3)))):=yy
    have f8:(map d_KY (set v0 (toNat (length p:Int)) (K_KY.mk v1 x0.f1 x0.f2 x0.f3)))[(0+(toNat (length p:Int)))]?=some [(.i v1),(.i x0.f1),(.i x0.f2),(.i x0.f3)]:=yi
    have f9:(set (map d_KY (set v0 (toNat (length p:Int)) (K_KY.mk v1 x0.f1 x0.f2 x0.f3))) (0+(toNat (length p:Int))) [(.i v1),(.i (wrap .i64 (v1+1))),(.i x0.f2),(.i x0.f3)])=(map d_KY (set v0 (toNat (length p:Int)) (K_KY.mk v1 (wrap .i64 (v1+1)) x0.f2 x0.f3))):=yL
    have f11:0+(length (map d_KY a0))≤(length (map d_KY (set v0 (toNat (length p:Int)) (K_KY.mk v1 (wrap .i64 (v1+1)) x0.f2 x0.f3)))):=yy
    have f13:(map d_KY (set v0 (toNat (length p:Int)) (K_KY.mk v1 (wrap .i64 (v1+1)) x0.f2 x0.f3)))[(0+(toNat (length p:Int)))]?=some [(.i v1),(.i (wrap .i64 (v1+1))),(.i x0.f2),(.i x0.f3)]:=yi
    have f14:(set (map d_KY (set v0 (toNat (length p:Int)) (K_KY.mk v1 (wrap .i64 (v1+1)) x0.f2 x0.f3))) (0+(toNat (length p:Int))) [(.i v1),(.i (wrap .i64 (v1+1))),(.i (wrap .i64 ((wrap .i64 (v1+1))+1))),(.i x0.f3)])=(map d_KY (set v0 (toNat (length p:Int)) (K_KY.mk v1 (wrap .i64 (v1+1)) (wrap .i64 ((wrap .i64 (v1+1))+1)) x0.f3))):=yL
    have f16:0+(length (map d_KY a0))≤(length (map d_KY (set v0 (toNat (length p:Int)) (K_KY.mk v1 (wrap .i64 (v1+1)) (wrap .i64 ((wrap .i64 (v1+1))+1)) x0.f3)))):=yy
    have f18:(map d_KY (set v0 (toNat (length p:Int)) (K_KY.mk v1 (wrap .i64 (v1+1)) (wrap .i64 ((wrap .i64 (v1+1))+1)) x0.f3)))[(0+(toNat (length p:Int)))]?=some [(.i v1),(.i (wrap .i64 (v1+1))),(.i (wrap .i64 ((wrap .i64 (v1+1))+1))),(.i x0.f3)]:=yi
    have f19:(set (map d_KY (set v0 (toNat (length p:Int)) (K_KY.mk v1 (wrap .i64 (v1+1)) (wrap .i64 ((wrap .i64 (v1+1))+1)) x0.f3))) (0+(toNat (length p:Int))) [(.i v1),(.i (wrap .i64 (v1+1))),(.i (wrap .i64 ((wrap .i64 (v1+1))+1))),(.i (wrap .i64 ((wrap .i64 ((wrap .i64 (v1+1))+1))+1)))])=(map d_KY (set v0 (toNat (length p:Int)) (K_KY.mk v1 (wrap .i64 (v1+1)) (wrap .i64 ((wrap .i64 (v1+1))+1)) (wrap .i64 ((wrap .i64 ((wrap .i64 (v1+1))+1))+1))))):=yL
    have ih:=t31_0 (a0:=a0) (a1:=a1) hy0 y0 (p++ [x0]) (set v0 (toNat (length p:Int)) (K_KY.mk v1 (wrap .i64 (v1+1)) (wrap .i64 ((wrap .i64 (v1+1))+1)) (wrap .i64 ((wrap .i64 ((wrap .i64 (v1+1))+1))+1)))) (wrap .i64 ((wrap .i64 ((wrap .i64 ((wrap .i64 (v1+1))+1))+1))+1)) yd yo yz
    rw[pl1,← hw] at ih; rw[← hw]
    exact ly 91 ya (.f hc (.f f1 (.f f2 (.f (mz_ d_KY Hv0) (.f f4 (.f trivial (.f f6 (.f f2 (.f f8 (.f f9 (.f trivial (.f f11 (.f f2 (.f f13 (.f f14 (.f trivial (.f f16 (.f f2 (.f f18 (.f f19 (.f trivial (.f trivial (.h 8 (.b true) (.h 20 (.rowD (d_KY x0)) (.h 21 (.norm (0,0,0) (map d_KY (set v0 (toNat (length p:Int)) (K_KY.mk v1 x0.f1 x0.f2 x0.f3)))) (.h 39 (.rowD [(.i v1),(.i x0.f1),(.i x0.f2),(.i x0.f3)]) (.h 40 (.norm (0,0,0) (map d_KY (set v0 (toNat (length p:Int)) (K_KY.mk v1 (wrap .i64 (v1+1)) x0.f2 x0.f3)))) (.h 58 (.rowD [(.i v1),(.i (wrap .i64 (v1+1))),(.i x0.f2),(.i x0.f3)]) (.h 59 (.norm (0,0,0) (map d_KY (set v0 (toNat (length p:Int)) (K_KY.mk v1 (wrap .i64 (v1+1)) (wrap .i64 ((wrap .i64 (v1+1))+1)) x0.f3)))) (.h 77 (.rowD [(.i v1),(.i (wrap .i64 (v1+1))),(.i (wrap .i64 ((wrap .i64 (v1+1))+1))),(.i x0.f3)]) (.h 78 (.norm (0,0,0) (map d_KY (set v0 (toNat (length p:Int)) (K_KY.mk v1 (wrap .i64 (v1+1)) (wrap .i64 ((wrap .i64 (v1+1))+1)) (wrap .i64 ((wrap .i64 ((wrap .i64 (v1+1))+1))+1)))))) .nil))))))))))))))))))))))))))))))) ih
def post31_0 (n0:Nat):O31_0→Prop
  |.k0 w0 _ _ _=>length w0=n0
theorem z31_0 {a0:(List K_KY)}:∀(y0:List K_KY) (i:Int) (v0:List K_KY) (v1:Int),post31_0 (length v0) (r31_0 a0 y0 i v0 v1)
  |[],i,v0,v1=>by
    first | trivial |(simp only[post31_0,length_nil,Nat.add_zero]; done) |(simp[post31_0]; done)
  |x0::y0,i,v0,v1=>by
    simp only[r31_0]
    have z:=z31_0 (a0:=a0) y0 (i+1) (set v0 (toNat i) (K_KY.mk v1 (wrap .i64 (v1+1)) (wrap .i64 ((wrap .i64 (v1+1))+1)) (wrap .i64 ((wrap .i64 ((wrap .i64 (v1+1))+1))+1)))) (wrap .i64 ((wrap .i64 ((wrap .i64 ((wrap .i64 (v1+1))+1))+1))+1))
    rw[show (length v0)=(length (set v0 (toNat i) (K_KY.mk v1 (wrap .i64 (v1+1)) (wrap .i64 ((wrap .i64 (v1+1))+1)) (wrap .i64 ((wrap .i64 ((wrap .i64 (v1+1))+1))+1))))) from by first | omega |(simp only[LN]; done) |(simp only[LN]; omega)]
    exact z
def o31_0 (a0:(List K_KY)) (a1:Int):List K_KY:=
  (match r31_0 a0 a0 0 a0 a1 with | .k0 w0_0 w1_0 w2_0 w3_0=>w0_0)
def m31 (a0:(List K_KY)) (a1:Int):Int:=
  (match r31_0 a0 a0 0 a0 a1 with | .k0 w0_0 w1_0 w2_0 w3_0=>w1_0)
theorem e31 {a0:(List K_KY)} {a1:Int} (hy0:length a0*32≤140737488351232):Ev F X (.call 31 [(.one (.ref ⟨(0,0,0),[],0,(length (map d_KY a0))⟩)),(.one (.val (.int .i64 a1)))] [((0,0,0),⟨4,(map d_KY a0),[]⟩)] [(map d_KY (o31_0 a0 a1))] [(.one (.val (.int .i64 (m31 a0 a1))))]):=by
  unfold m31 o31_0
  cases h0:r31_0 a0 a0 0 a0 a1 with
  |k0 w0_0 w1_0 w2_0 w3_0=>
    try dsimp only
    have zh0:=z31_0 (a0:=a0) a0 0 a0 a1; rw[h0] at zh0; simp only[post31_0,length_map,length_set,length_append,length_replicate,length_cons,length_nil,Int.toNat_natCast] at zh0
    have f0:=Eq.refl (h31_0 a0 a1 0 a0 a1)
    exact cq [true] ya (.f f0 (.f (ev_ (e:=ex31_0) (g:=(fin31_0 a0 a1)) h0 (t31_0 (a0:=a0) (a1:=a1) (by assumption) a0 [] a0 a1 rfl yM (by rfl))) (.f (pureR_KY w0_0) (.h 4 (.loop (h31_0 a0 a1 0 a0 a1) (.exit 0) (fin31_0 a0 a1 (.k0 w0_0 w1_0 w2_0 w3_0))) .nil))))
theorem ow31_0 (a0:List K_KY):∀(l p:List K_KY) (v1:Int),∃(q:List K_KY) (w1:_) (w2:_) (w3:_),r31_0 a0 l (p.length:Int) (p++l) v1=.k0 (p++q) w1 w2 w3∧q.length=l.length
  |[],p,v1=>⟨[],v1,(p.length:Int),(decide ((p.length:Int) <((length (map d_KY a0)):Int))),rfl,rfl⟩
  |x0::l,p,v1=>by
    obtain⟨q,w1,w2,w3,e1,e2⟩:=ow31_0 a0 l (p++ [(K_KY.mk v1 (wrap .i64 (v1+1)) (wrap .i64 ((wrap .i64 (v1+1))+1)) (wrap .i64 ((wrap .i64 ((wrap .i64 (v1+1))+1))+1)))]) (wrap .i64 ((wrap .i64 ((wrap .i64 ((wrap .i64 (v1+1))+1))+1))+1))
    refine⟨(K_KY.mk v1 (wrap .i64 (v1+1)) (wrap .i64 ((wrap .i64 (v1+1))+1)) (wrap .i64 ((wrap .i64 ((wrap .i64 (v1+1))+1))+1)))::q,w1,w2,w3,?_,by simp[e2]⟩
    · have e:set (p++x0::l) (toNat (p.length:Int)) (K_KY.mk v1 (wrap .i64 (v1+1)) (wrap .i64 ((wrap .i64 (v1+1))+1)) (wrap .i64 ((wrap .i64 ((wrap .i64 (v1+1))+1))+1)))=(p++ [(K_KY.mk v1 (wrap .i64 (v1+1)) (wrap .i64 ((wrap .i64 (v1+1))+1)) (wrap .i64 ((wrap .i64 ((wrap .i64 (v1+1))+1))+1)))])++l:=by simp
      have e0:((p++ [(K_KY.mk v1 (wrap .i64 (v1+1)) (wrap .i64 ((wrap .i64 (v1+1))+1)) (wrap .i64 ((wrap .i64 ((wrap .i64 (v1+1))+1))+1)))]).length:Int)=(p.length:Int)+1:=by simp
      rw[e0] at e1
      simp only[r31_0]
      first |(rw[e,e1]; simp; done) |(simp only[e,e1]; simp; done)

theorem ol31 (a:List K_KY) (k:Int):(o31_0 a k).length=a.length:=by
  obtain⟨q,w1,w2,w3,e1,e2⟩:=ow31_0 a a [] k
  simp only[List.nil_append,length_nil] at e1
  rw[show ((0:Nat):Int)=0 from rfl] at e1
  unfold o31_0
  rw[e1]; exact e2
def o45_0 (a0:K_G) (a1:Int):List K_T:=
  (o51_0 a0.f4 a1)
def m45 (a0:K_G) (a1:Int):Int:=
  (m51 a0.f4 a1)
theorem e45 {a0:K_G} {a1:Int} (hy0:length a0.f4*56≤140737488351232) (hy1:∀z∈a0.f4,ok_T z):Ev F X (.call 45 [(.agg [(.val (.int .i64 a0.f0)),(.val (.int .i64 a0.f1)),(.val (.int .i64 a0.f2)),(.val (.int .i64 a0.f3)),(.ref ⟨(0,0,0),[],0,(length (map d_T a0.f4))⟩)]),(.one (.val (.int .i64 a1)))] [((0,0,0),⟨3,(map d_T a0.f4),[]⟩)] [(map d_T (o45_0 a0 a1))] [(.one (.val (.int .i64 (m45 a0 a1))))]):=by
  exact cq [true] ya (pe 0 (pe (length (map d_T a0.f4)) (.f (pureR_T a0.f4) (.r 11 [true] [] (e51 (a0:=a0.f4) (a1:=a1) ‹_› ‹_›) (.f (pureR_T (o51_0 a0.f4 a1)) .nil)))))
theorem ol45_0 (a:K_G) (k:Int):(o45_0 a k).length=length a.f4:=by
  unfold o45_0
  simp[ol51]
def o32_0 (a0:K_SR) (a1:Int):List K_KY:=
  (o31_0 a0.f7 (m45 (K_G.mk a0.f2 a0.f3 a0.f4 a0.f5 a0.f6) a1))
def o32_1 (a0:K_SR) (a1:Int):List K_T:=
  (o45_0 (K_G.mk a0.f2 a0.f3 a0.f4 a0.f5 a0.f6) a1)
def m32 (a0:K_SR) (a1:Int):Int:=
  (m31 a0.f7 (m45 (K_G.mk a0.f2 a0.f3 a0.f4 a0.f5 a0.f6) a1))
theorem e32 {a0:K_SR} {a1:Int} (hy0:length a0.f6*56≤140737488351232) (hy1:∀z∈a0.f6,ok_T z) (hy2:length a0.f7*32≤140737488351232):Ev F X (.call 32 [(.agg [(.val (.int .i64 a0.f0)),(.val (.bool a0.f1)),(.val (.int .i64 a0.f2)),(.val (.int .i64 a0.f3)),(.val (.int .i64 a0.f4)),(.val (.int .i64 a0.f5)),(.ref ⟨(0,0,0),[],0,(length (map d_T a0.f6))⟩),(.ref ⟨(0,1,0),[],0,(length (map d_KY a0.f7))⟩)]),(.one (.val (.int .i64 a1)))] [((0,1,0),⟨4,(map d_KY a0.f7),[]⟩),((0,0,0),⟨3,(map d_T a0.f6),[]⟩)] [(map d_KY (o32_0 a0 a1)),(map d_T (o32_1 a0 a1))] [(.one (.val (.int .i64 (m32 a0 a1))))]):=by
  exact cq [true,true] ya (pe 0 (pe (length (map d_T a0.f6)) (pe 0 (pe (length (map d_KY a0.f7)) (.f (pureR_T a0.f6) (.r 11 [true] [] (e45 (a0:=(K_G.mk a0.f2 a0.f3 a0.f4 a0.f5 a0.f6)) (a1:=a1) ‹_› ‹_›) (.f (pureR_KY a0.f7) (.r 21 [true] [] (e31 (a0:=a0.f7) (a1:=(m45 (K_G.mk a0.f2 a0.f3 a0.f4 a0.f5 a0.f6) a1)) ‹_›) (.f (pureR_KY (o31_0 a0.f7 (m45 (K_G.mk a0.f2 a0.f3 a0.f4 a0.f5 a0.f6) a1))) (.f (pureR_T (o45_0 (K_G.mk a0.f2 a0.f3 a0.f4 a0.f5 a0.f6) a1)) .nil))))))))))
theorem ol32_0 (a:K_SR) (k:Int):(o32_0 a k).length=length a.f7:=by
  unfold o32_0
  simp[ol31,ol45_0]
theorem ol32_1 (a:K_SR) (k:Int):(o32_1 a k).length=length a.f6:=by
  unfold o32_1
  simp[ol31,ol45_0]
inductive O144_0 where
  |k0 (w0:Int) (w1:Int) (w2:Bool)
  |k1
def r144_0 (a0:(List Int)):List Int→Int→Int→O144_0
  |x0::y0,i,v0=>
    if(x0 !=v0)=true then(O144_0.k1) else
    (r144_0 a0 y0 (i+1) (wrap .i64 (v0+1)))
  |[],i,v0=>(O144_0.k0 v0 i (decide (i <((length (map b_i a0)):Int))))
def h144_0 (l0_0:Nat) (a0:(List Int)) (a1:Int) (i:Int) (v0:Int):St:=⟨[(0,(.one (.bor l0_0 (map b_i a0)))),(1,(.one (.val (.int .i64 v0)))),(5,(.one (.val (.int .i64 i))))],[]⟩
def ex144_0:O144_0→VX.Exit
  |.k0 _ _ _=>(.exit 0)
  |.k1=>.ret
def fin144_0 (l0_0:Nat) (a0:(List Int)) (a1:Int):O144_0→St
  |.k0 w0 w1 w2=>⟨[(0,(.one (.bor l0_0 (map b_i a0)))),(1,(.one (.val (.int .i64 w0)))),(5,(.one (.val (.int .i64 w1)))),(9,(.one (.val (.bool w2))))],[]⟩
  |.k1=>⟨[(4,(.one (.val (.int .i64 (-1)))))],[]⟩
theorem t144_0 {l0_0:Nat} {a0:(List Int)} {a1:Int} (hy0:length a0*8≤140737488351232):∀(y0:List Int) (p:List Int) (v0:Int),p++y0=a0→Ev F X (.code l144_0 (h144_0 l0_0 a0 a1 (length p:Int) v0) (ex144_0 (r144_0 a0 y0 (length p:Int) v0)) (fin144_0 l0_0 a0 a1 (r144_0 a0 y0 (length p:Int) v0)))
  |[],p,v0,hp0=>by
    have hc:=hcn b_i hp0
    exact lx 9 ya (.f (nt hc) (.h 8 (.b false) .nil)) rfl
  |x0::y0,p,v0,hp0=>by
    have hc:=hcy b_i hp0
    have Hx0:=hxy hp0
    have hlen:=hly hp0
    have hw:wrap .i64 ((length p:Int)+1)=(length p:Int)+1:=wrap64 yb
    simp only[r144_0]
    have f1:0≤(length p:Int):=yb
    have P1 {hs q} (r:PS F X hs q):=(PS.f hc (.f f1 (.f (mp_ b_i Hx0) (.h 8 (.b true) (.h 14 (.row [(.i x0)]) r)))))
    by_cases h_1:(x0 !=v0)=true
    · try simp only[if_pos h_1]
      exact lx 24 ya (P1 (.f h_1 (.h 21 (.b true) .nil))) rfl
    · try simp only[if_neg h_1]
      have ih:=t144_0 (l0_0:=l0_0) (a0:=a0) (a1:=a1) hy0 y0 (p++ [x0]) (wrap .i64 (v0+1)) yd
      rw[pl1,← hw] at ih; rw[← hw]
      exact ly 34 ya (P1 (.f (nt h_1) (.f trivial (.f trivial (.h 21 (.b false) .nil))))) ih
def m144 (a0:(List Int)) (a1:Int):Int:=
  (match r144_0 a0 a0 0 a1 with | .k0 w0_0 w1_0 w2_0=>w0_0 | .k1=>(-1))
theorem e144 {l0_0:Nat} {a0:(List Int)} {a1:Int} (hy0:length a0*8≤140737488351232):Ev F X (.call 144 [(.one (.bor l0_0 (map b_i a0))),(.one (.val (.int .i64 a1)))] [] [] [(.one (.val (.int .i64 (m144 a0 a1))))]):=by
  unfold m144
  cases h0:r144_0 a0 a0 0 a1 with
  |k0 w0_0 w1_0 w2_0=>
    try dsimp only
    have f0:=Eq.refl (h144_0 l0_0 a0 a1 0 a1)
    exact cp ya (.f f0 (.f (ev_ (e:=ex144_0) (g:=(fin144_0 l0_0 a0 a1)) h0 (t144_0 (l0_0:=l0_0) (a0:=a0) (a1:=a1) (by assumption) a0 [] a1 rfl)) (.h 4 (.loop (h144_0 l0_0 a0 a1 0 a1) (.exit 0) (fin144_0 l0_0 a0 a1 (.k0 w0_0 w1_0 w2_0))) .nil)))
  |k1=>
    try dsimp only
    have f0:=Eq.refl (h144_0 l0_0 a0 a1 0 a1)
    exact cp ya (.f f0 (.f (ev_ (e:=ex144_0) (g:=(fin144_0 l0_0 a0 a1)) h0 (t144_0 (l0_0:=l0_0) (a0:=a0) (a1:=a1) (by assumption) a0 [] a1 rfl)) (.h 4 (.loop (h144_0 l0_0 a0 a1 0 a1) .ret (fin144_0 l0_0 a0 a1 (.k1))) .nil)))
inductive O110_0 where
  |k0 (w0:Int) (w1:Int) (w2:Bool)
  |k1
def r110_0 (a0:(List K_N)):List K_N→Int→Int→O110_0
  |x0::y0,i,v0=>
    if(x0.f0 !=v0)=true then(O110_0.k1) else
    if(x0.f1 !=(wrap .i64 (v0+1)))=true then(O110_0.k1) else
      if(decide ((m144 x0.f2 (wrap .i64 ((wrap .i64 (v0+1))+1))) < 0))=true then(O110_0.k1) else
        (r110_0 a0 y0 (i+1) (m144 x0.f2 (wrap .i64 ((wrap .i64 (v0+1))+1))))
  |[],i,v0=>(O110_0.k0 v0 i (decide (i <((length (map b_N a0)):Int))))
def h110_0 (l0_0:Nat) (a0:(List K_N)) (a1:Int) (i:Int) (v0:Int):St:=⟨[(0,(.one (.bor l0_0 (map b_N a0)))),(1,(.one (.val (.int .i64 v0)))),(5,(.one (.val (.int .i64 i))))],[]⟩
def ex110_0:O110_0→VX.Exit
  |.k0 _ _ _=>(.exit 0)
  |.k1=>.ret
def fin110_0 (l0_0:Nat) (a0:(List K_N)) (a1:Int):O110_0→St
  |.k0 w0 w1 w2=>⟨[(0,(.one (.bor l0_0 (map b_N a0)))),(1,(.one (.val (.int .i64 w0)))),(5,(.one (.val (.int .i64 w1)))),(9,(.one (.val (.bool w2))))],[]⟩
  |.k1=>⟨[(4,(.one (.val (.int .i64 (-1)))))],[]⟩
theorem t110_0 {l0_0:Nat} {a0:(List K_N)} {a1:Int} (hy0:length a0*40≤140737488351232) (hy1:∀z∈a0,ok_N z):∀(y0:List K_N) (p:List K_N) (v0:Int),p++y0=a0→Ev F X (.code l110_0 (h110_0 l0_0 a0 a1 (length p:Int) v0) (ex110_0 (r110_0 a0 y0 (length p:Int) v0)) (fin110_0 l0_0 a0 a1 (r110_0 a0 y0 (length p:Int) v0)))
  |[],p,v0,hp0=>by
    have hc:=hcn b_N hp0
    exact lx 9 ya (.f (nt hc) (.h 8 (.b false) .nil)) rfl
  |x0::y0,p,v0,hp0=>by
    have hc:=hcy b_N hp0
    have Hx0:=hxy hp0
    have Mx0_0:=hy1 x0 (List.mem_of_getElem? Hx0)
    have hlen:=hly hp0
    have hw:wrap .i64 ((length p:Int)+1)=(length p:Int)+1:=wrap64 yb
    simp only[r110_0]
    have f1:0≤(length p:Int):=yb
    have P1 {hs q} (r:PS F X hs q):=(PS.f hc (.f f1 (.f (mp_ b_N Hx0) (.h 8 (.b true) (.h 14 (.row (b_N x0)) r)))))
    by_cases h_1:(x0.f0 !=v0)=true
    · try simp only[if_pos h_1]
      exact lx 26 ya (P1 (.f h_1 (.h 23 (.b true) .nil))) rfl
    · try simp only[if_neg h_1]
      have P2 {hs q} (r:PS F X hs q):=(P1 (.f (nt h_1) (.f trivial (.f f1 (.f (mp_ b_N Hx0) (.h 23 (.b false) (.h 35 (.row (b_N x0)) r)))))))
      by_cases h_2:(x0.f1 !=(wrap .i64 (v0+1)))=true
      · try simp only[if_pos h_2]
        exact lx 47 ya (P2 (.f h_2 (.h 44 (.b true) .nil))) rfl
      · try simp only[if_neg h_2]
        have P3 {hs q} (r:PS F X hs q):=(P2 (.f (nt h_2) (.f trivial (.f f1 (.f (mp_ b_N Hx0) (.h 44 (.b false) (.h 56 (.row (b_N x0)) (.r 64 [] [] (e144 (l0_0:=(l0_0+1)) (a0:=x0.f2) (a1:=(wrap .i64 ((wrap .i64 (v0+1))+1))) (by assumption)) r))))))))
        by_cases h_3:(decide ((m144 x0.f2 (wrap .i64 ((wrap .i64 (v0+1))+1))) < 0))=true
        · try simp only[if_pos h_3]
          exact lx 74 ya (P3 (.f h_3 (.h 71 (.b true) .nil))) rfl
        · try simp only[if_neg h_3]
          have ih:=t110_0 (l0_0:=l0_0) (a0:=a0) (a1:=a1) hy0 hy1 y0 (p++ [x0]) (m144 x0.f2 (wrap .i64 ((wrap .i64 (v0+1))+1))) yd
          rw[pl1,← hw] at ih; rw[← hw]
          exact ly 78 ya (P3 (.f (nt h_3) (.f trivial (.h 71 (.b false) .nil)))) ih
def m110 (a0:(List K_N)) (a1:Int):Int:=
  (match r110_0 a0 a0 0 a1 with | .k0 w0_0 w1_0 w2_0=>w0_0 | .k1=>(-1))
theorem e110 {l0_0:Nat} {a0:(List K_N)} {a1:Int} (hy0:length a0*40≤140737488351232) (hy1:∀z∈a0,ok_N z):Ev F X (.call 110 [(.one (.bor l0_0 (map b_N a0))),(.one (.val (.int .i64 a1)))] [] [] [(.one (.val (.int .i64 (m110 a0 a1))))]):=by
  unfold m110
  cases h0:r110_0 a0 a0 0 a1 with
  |k0 w0_0 w1_0 w2_0=>
    try dsimp only
    have f0:=Eq.refl (h110_0 l0_0 a0 a1 0 a1)
    exact cp ya (.f f0 (.f (ev_ (e:=ex110_0) (g:=(fin110_0 l0_0 a0 a1)) h0 (t110_0 (l0_0:=l0_0) (a0:=a0) (a1:=a1) (by assumption) (by assumption) a0 [] a1 rfl)) (.h 4 (.loop (h110_0 l0_0 a0 a1 0 a1) (.exit 0) (fin110_0 l0_0 a0 a1 (.k0 w0_0 w1_0 w2_0))) .nil)))
  |k1=>
    try dsimp only
    have f0:=Eq.refl (h110_0 l0_0 a0 a1 0 a1)
    exact cp ya (.f f0 (.f (ev_ (e:=ex110_0) (g:=(fin110_0 l0_0 a0 a1)) h0 (t110_0 (l0_0:=l0_0) (a0:=a0) (a1:=a1) (by assumption) (by assumption) a0 [] a1 rfl)) (.h 4 (.loop (h110_0 l0_0 a0 a1 0 a1) .ret (fin110_0 l0_0 a0 a1 (.k1))) .nil)))
inductive O111_0 where
  |k0 (w0:Int) (w1:Int) (w2:Bool)
  |k1
def r111_0 (a0:(List K_U)):List K_U→Int→Int→O111_0
  |x0::y0,i,v0=>
    if(x0.f0 !=v0)=true then(O111_0.k1) else
    if(decide ((m144 x0.f1 (wrap .i64 (v0+1))) < 0))=true then(O111_0.k1) else
      (r111_0 a0 y0 (i+1) (m144 x0.f1 (wrap .i64 (v0+1))))
  |[],i,v0=>(O111_0.k0 v0 i (decide (i <((length (map b_U a0)):Int))))
def h111_0 (l0_0:Nat) (a0:(List K_U)) (a1:Int) (i:Int) (v0:Int):St:=⟨[(0,(.one (.bor l0_0 (map b_U a0)))),(1,(.one (.val (.int .i64 v0)))),(5,(.one (.val (.int .i64 i))))],[]⟩
def ex111_0:O111_0→VX.Exit
  |.k0 _ _ _=>(.exit 0)
  |.k1=>.ret
def fin111_0 (l0_0:Nat) (a0:(List K_U)) (a1:Int):O111_0→St
  |.k0 w0 w1 w2=>⟨[(0,(.one (.bor l0_0 (map b_U a0)))),(1,(.one (.val (.int .i64 w0)))),(5,(.one (.val (.int .i64 w1)))),(9,(.one (.val (.bool w2))))],[]⟩
  |.k1=>⟨[(4,(.one (.val (.int .i64 (-1)))))],[]⟩
theorem t111_0 {l0_0:Nat} {a0:(List K_U)} {a1:Int} (hy0:length a0*32≤140737488351232) (hy1:∀z∈a0,ok_U z):∀(y0:List K_U) (p:List K_U) (v0:Int),p++y0=a0→Ev F X (.code l111_0 (h111_0 l0_0 a0 a1 (length p:Int) v0) (ex111_0 (r111_0 a0 y0 (length p:Int) v0)) (fin111_0 l0_0 a0 a1 (r111_0 a0 y0 (length p:Int) v0)))
  |[],p,v0,hp0=>by
    have hc:=hcn b_U hp0
    exact lx 9 ya (.f (nt hc) (.h 8 (.b false) .nil)) rfl
  |x0::y0,p,v0,hp0=>by
    have hc:=hcy b_U hp0
    have Hx0:=hxy hp0
    have Mx0_0:=hy1 x0 (List.mem_of_getElem? Hx0)
    have hlen:=hly hp0
    have hw:wrap .i64 ((length p:Int)+1)=(length p:Int)+1:=wrap64 yb
    simp only[r111_0]
    have f1:0≤(length p:Int):=yb
    have P1 {hs q} (r:PS F X hs q):=(PS.f hc (.f f1 (.f (mp_ b_U Hx0) (.h 8 (.b true) (.h 14 (.row (b_U x0)) r)))))
    by_cases h_1:(x0.f0 !=v0)=true
    · try simp only[if_pos h_1]
      exact lx 26 ya (P1 (.f h_1 (.h 23 (.b true) .nil))) rfl
    · try simp only[if_neg h_1]
      have P2 {hs q} (r:PS F X hs q):=(P1 (.f (nt h_1) (.f trivial (.f f1 (.f (mp_ b_U Hx0) (.h 23 (.b false) (.h 35 (.row (b_U x0)) (.r 43 [] [] (e144 (l0_0:=(l0_0+1)) (a0:=x0.f1) (a1:=(wrap .i64 (v0+1))) (by assumption)) r))))))))
      by_cases h_2:(decide ((m144 x0.f1 (wrap .i64 (v0+1))) < 0))=true
      · try simp only[if_pos h_2]
        exact lx 53 ya (P2 (.f h_2 (.h 50 (.b true) .nil))) rfl
      · try simp only[if_neg h_2]
        have ih:=t111_0 (l0_0:=l0_0) (a0:=a0) (a1:=a1) hy0 hy1 y0 (p++ [x0]) (m144 x0.f1 (wrap .i64 (v0+1))) yd
        rw[pl1,← hw] at ih; rw[← hw]
        exact ly 57 ya (P2 (.f (nt h_2) (.f trivial (.h 50 (.b false) .nil)))) ih
def m111 (a0:(List K_U)) (a1:Int):Int:=
  (match r111_0 a0 a0 0 a1 with | .k0 w0_0 w1_0 w2_0=>w0_0 | .k1=>(-1))
theorem e111 {l0_0:Nat} {a0:(List K_U)} {a1:Int} (hy0:length a0*32≤140737488351232) (hy1:∀z∈a0,ok_U z):Ev F X (.call 111 [(.one (.bor l0_0 (map b_U a0))),(.one (.val (.int .i64 a1)))] [] [] [(.one (.val (.int .i64 (m111 a0 a1))))]):=by
  unfold m111
  cases h0:r111_0 a0 a0 0 a1 with
  |k0 w0_0 w1_0 w2_0=>
    try dsimp only
    have f0:=Eq.refl (h111_0 l0_0 a0 a1 0 a1)
    exact cp ya (.f f0 (.f (ev_ (e:=ex111_0) (g:=(fin111_0 l0_0 a0 a1)) h0 (t111_0 (l0_0:=l0_0) (a0:=a0) (a1:=a1) (by assumption) (by assumption) a0 [] a1 rfl)) (.h 4 (.loop (h111_0 l0_0 a0 a1 0 a1) (.exit 0) (fin111_0 l0_0 a0 a1 (.k0 w0_0 w1_0 w2_0))) .nil)))
  |k1=>
    try dsimp only
    have f0:=Eq.refl (h111_0 l0_0 a0 a1 0 a1)
    exact cp ya (.f f0 (.f (ev_ (e:=ex111_0) (g:=(fin111_0 l0_0 a0 a1)) h0 (t111_0 (l0_0:=l0_0) (a0:=a0) (a1:=a1) (by assumption) (by assumption) a0 [] a1 rfl)) (.h 4 (.loop (h111_0 l0_0 a0 a1 0 a1) .ret (fin111_0 l0_0 a0 a1 (.k1))) .nil)))
inductive O81_0 where
  |k0 (w0:Int) (w1:Int) (w2:Bool)
  |k1
def r81_0 (a0:(List K_T)):List K_T→Int→Int→O81_0
  |x0::y0,i,v0=>
    if(x0.f0 !=v0)=true then(O81_0.k1) else
    if(decide ((m110 x0.f1 (wrap .i64 (v0+1))) < 0))=true then(O81_0.k1) else
      if(decide ((m111 x0.f2 (m110 x0.f1 (wrap .i64 (v0+1)))) < 0))=true then(O81_0.k1) else
        (r81_0 a0 y0 (i+1) (m111 x0.f2 (m110 x0.f1 (wrap .i64 (v0+1)))))
  |[],i,v0=>(O81_0.k0 v0 i (decide (i <((length (map b_T a0)):Int))))
def h81_0 (l0_0:Nat) (a0:(List K_T)) (a1:Int) (i:Int) (v0:Int):St:=⟨[(0,(.one (.bor l0_0 (map b_T a0)))),(1,(.one (.val (.int .i64 v0)))),(5,(.one (.val (.int .i64 i))))],[]⟩
def ex81_0:O81_0→VX.Exit
  |.k0 _ _ _=>(.exit 0)
  |.k1=>.ret
def fin81_0 (l0_0:Nat) (a0:(List K_T)) (a1:Int):O81_0→St
  |.k0 w0 w1 w2=>⟨[(0,(.one (.bor l0_0 (map b_T a0)))),(1,(.one (.val (.int .i64 w0)))),(5,(.one (.val (.int .i64 w1)))),(9,(.one (.val (.bool w2))))],[]⟩
  |.k1=>⟨[(4,(.one (.val (.int .i64 (-1)))))],[]⟩
theorem t81_0 {l0_0:Nat} {a0:(List K_T)} {a1:Int} (hy0:length a0*56≤140737488351232) (hy1:∀z∈a0,ok_T z):∀(y0:List K_T) (p:List K_T) (v0:Int),p++y0=a0→Ev F X (.code l81_0 (h81_0 l0_0 a0 a1 (length p:Int) v0) (ex81_0 (r81_0 a0 y0 (length p:Int) v0)) (fin81_0 l0_0 a0 a1 (r81_0 a0 y0 (length p:Int) v0)))
  |[],p,v0,hp0=>by
    have hc:=hcn b_T hp0
    exact lx 9 ya (.f (nt hc) (.h 8 (.b false) .nil)) rfl
  |x0::y0,p,v0,hp0=>by
    have hc:=hcy b_T hp0
    have Hx0:=hxy hp0
    obtain⟨Mx0_0,Mx0_1,Mx0_2,Mx0_3⟩:=hy1 x0 (List.mem_of_getElem? Hx0)
    have hlen:=hly hp0
    have hw:wrap .i64 ((length p:Int)+1)=(length p:Int)+1:=wrap64 yb
    simp only[r81_0]
    have f1:0≤(length p:Int):=yb
    have P1 {hs q} (r:PS F X hs q):=(PS.f hc (.f f1 (.f (mp_ b_T Hx0) (.h 8 (.b true) (.h 14 (.row (b_T x0)) r)))))
    by_cases h_1:(x0.f0 !=v0)=true
    · try simp only[if_pos h_1]
      exact lx 26 ya (P1 (.f h_1 (.h 23 (.b true) .nil))) rfl
    · try simp only[if_neg h_1]
      have P2 {hs q} (r:PS F X hs q):=(P1 (.f (nt h_1) (.f trivial (.f f1 (.f (mp_ b_T Hx0) (.h 23 (.b false) (.h 35 (.row (b_T x0)) (.r 43 [] [] (e110 (l0_0:=(l0_0+1)) (a0:=x0.f1) (a1:=(wrap .i64 (v0+1))) ‹_› ‹_›) r))))))))
      by_cases h_2:(decide ((m110 x0.f1 (wrap .i64 (v0+1))) < 0))=true
      · try simp only[if_pos h_2]
        exact lx 53 ya (P2 (.f h_2 (.h 50 (.b true) .nil))) rfl
      · try simp only[if_neg h_2]
        have P3 {hs q} (r:PS F X hs q):=(P2 (.f (nt h_2) (.f f1 (.f (mp_ b_T Hx0) (.h 50 (.b false) (.h 56 (.row (b_T x0)) (.r 64 [] [] (e111 (l0_0:=(l0_0+1)) (a0:=x0.f2) (a1:=(m110 x0.f1 (wrap .i64 (v0+1)))) ‹_› ‹_›) r)))))))
        by_cases h_3:(decide ((m111 x0.f2 (m110 x0.f1 (wrap .i64 (v0+1)))) < 0))=true
        · try simp only[if_pos h_3]
          exact lx 74 ya (P3 (.f h_3 (.h 71 (.b true) .nil))) rfl
        · try simp only[if_neg h_3]
          have ih:=t81_0 (l0_0:=l0_0) (a0:=a0) (a1:=a1) hy0 hy1 y0 (p++ [x0]) (m111 x0.f2 (m110 x0.f1 (wrap .i64 (v0+1)))) yd
          rw[pl1,← hw] at ih; rw[← hw]
          exact ly 78 ya (P3 (.f (nt h_3) (.f trivial (.h 71 (.b false) .nil)))) ih
def m81 (a0:(List K_T)) (a1:Int):Int:=
  (match r81_0 a0 a0 0 a1 with | .k0 w0_0 w1_0 w2_0=>w0_0 | .k1=>(-1))
theorem e81 {l0_0:Nat} {a0:(List K_T)} {a1:Int} (hy0:length a0*56≤140737488351232) (hy1:∀z∈a0,ok_T z):Ev F X (.call 81 [(.one (.bor l0_0 (map b_T a0))),(.one (.val (.int .i64 a1)))] [] [] [(.one (.val (.int .i64 (m81 a0 a1))))]):=by
  unfold m81
  cases h0:r81_0 a0 a0 0 a1 with
  |k0 w0_0 w1_0 w2_0=>
    try dsimp only
    have f0:=Eq.refl (h81_0 l0_0 a0 a1 0 a1)
    exact cp ya (.f f0 (.f (ev_ (e:=ex81_0) (g:=(fin81_0 l0_0 a0 a1)) h0 (t81_0 (l0_0:=l0_0) (a0:=a0) (a1:=a1) (by assumption) (by assumption) a0 [] a1 rfl)) (.h 4 (.loop (h81_0 l0_0 a0 a1 0 a1) (.exit 0) (fin81_0 l0_0 a0 a1 (.k0 w0_0 w1_0 w2_0))) .nil)))
  |k1=>
    try dsimp only
    have f0:=Eq.refl (h81_0 l0_0 a0 a1 0 a1)
    exact cp ya (.f f0 (.f (ev_ (e:=ex81_0) (g:=(fin81_0 l0_0 a0 a1)) h0 (t81_0 (l0_0:=l0_0) (a0:=a0) (a1:=a1) (by assumption) (by assumption) a0 [] a1 rfl)) (.h 4 (.loop (h81_0 l0_0 a0 a1 0 a1) .ret (fin81_0 l0_0 a0 a1 (.k1))) .nil)))
def m46 (a0:K_G) (a1:Int):Int:=
  if(decide ((m81 a0.f4 a1) < 0))=true then(-1) else
  (m81 a0.f4 a1)
theorem e46 {l0_4:Nat} {a0:K_G} {a1:Int} (hy0:length a0.f4*56≤140737488351232) (hy1:∀z∈a0.f4,ok_T z):Ev F X (.call 46 [(.agg (k_G l0_4 a0)),(.one (.val (.int .i64 a1)))] [] [] [(.one (.val (.int .i64 (m46 a0 a1))))]):=by
  unfold m46
  have P0 {hs q} (r:PS F X hs q):=(PS.r 11 [] [] (e81 (l0_0:=(l0_4+1)) (a0:=a0.f4) (a1:=a1) ‹_› ‹_›) r)
  by_cases h0:(decide ((m81 a0.f4 a1) < 0))=true
  · try simp only[if_pos h0]
    exact cp ya (P0 (.f h0 (.h 18 (.b true) .nil)))
  · try simp only[if_neg h0]
    exact cp ya (P0 (.f (nt h0) (.h 18 (.b false) .nil)))
inductive O62_0 where
  |k0 (w0:Int) (w1:Int) (w2:Bool)
  |k1
def r62_0 (a0:(List K_KY)):List K_KY→Int→Int→O62_0
  |x0::y0,i,v0=>
    if(x0.f0 !=v0)=true then(O62_0.k1) else
    if(x0.f1 !=(wrap .i64 (v0+1)))=true then(O62_0.k1) else
      if(x0.f2 !=(wrap .i64 ((wrap .i64 (v0+1))+1)))=true then(O62_0.k1) else
        if(x0.f3 !=(wrap .i64 ((wrap .i64 ((wrap .i64 (v0+1))+1))+1)))=true then(O62_0.k1) else
          (r62_0 a0 y0 (i+1) (wrap .i64 ((wrap .i64 ((wrap .i64 ((wrap .i64 (v0+1))+1))+1))+1)))
  |[],i,v0=>(O62_0.k0 v0 i (decide (i <((length (map b_KY a0)):Int))))
def h62_0 (l0_0:Nat) (a0:(List K_KY)) (a1:Int) (i:Int) (v0:Int):St:=⟨[(0,(.one (.bor l0_0 (map b_KY a0)))),(1,(.one (.val (.int .i64 v0)))),(5,(.one (.val (.int .i64 i))))],[]⟩
def ex62_0:O62_0→VX.Exit
  |.k0 _ _ _=>(.exit 0)
  |.k1=>.ret
def fin62_0 (l0_0:Nat) (a0:(List K_KY)) (a1:Int):O62_0→St
  |.k0 w0 w1 w2=>⟨[(0,(.one (.bor l0_0 (map b_KY a0)))),(1,(.one (.val (.int .i64 w0)))),(5,(.one (.val (.int .i64 w1)))),(9,(.one (.val (.bool w2))))],[]⟩
  |.k1=>⟨[(4,(.one (.val (.int .i64 (-1)))))],[]⟩
theorem t62_0 {l0_0:Nat} {a0:(List K_KY)} {a1:Int} (hy0:length a0*32≤140737488351232):∀(y0:List K_KY) (p:List K_KY) (v0:Int),p++y0=a0→Ev F X (.code l62_0 (h62_0 l0_0 a0 a1 (length p:Int) v0) (ex62_0 (r62_0 a0 y0 (length p:Int) v0)) (fin62_0 l0_0 a0 a1 (r62_0 a0 y0 (length p:Int) v0)))
  |[],p,v0,hp0=>by
    have hc:=hcn b_KY hp0
    exact lx 9 ya (.f (nt hc) (.h 8 (.b false) .nil)) rfl
  |x0::y0,p,v0,hp0=>by
    have hc:=hcy b_KY hp0
    have Hx0:=hxy hp0
    have hlen:=hly hp0
    have hw:wrap .i64 ((length p:Int)+1)=(length p:Int)+1:=wrap64 yb
    simp only[r62_0]
    have f1:0≤(length p:Int):=yb
    have P1 {hs q} (r:PS F X hs q):=(PS.f hc (.f f1 (.f (mp_ b_KY Hx0) (.h 8 (.b true) (.h 14 (.row (b_KY x0)) r)))))
    by_cases h_1:(x0.f0 !=v0)=true
    · try simp only[if_pos h_1]
      exact lx 26 ya (P1 (.f h_1 (.h 23 (.b true) .nil))) rfl
    · try simp only[if_neg h_1]
      have P2 {hs q} (r:PS F X hs q):=(P1 (.f (nt h_1) (.f trivial (.f f1 (.f (mp_ b_KY Hx0) (.h 23 (.b false) (.h 35 (.row (b_KY x0)) r)))))))
      by_cases h_2:(x0.f1 !=(wrap .i64 (v0+1)))=true
      · try simp only[if_pos h_2]
        exact lx 47 ya (P2 (.f h_2 (.h 44 (.b true) .nil))) rfl
      · try simp only[if_neg h_2]
        have P3 {hs q} (r:PS F X hs q):=(P2 (.f (nt h_2) (.f trivial (.f f1 (.f (mp_ b_KY Hx0) (.h 44 (.b false) (.h 56 (.row (b_KY x0)) r)))))))
        by_cases h_3:(x0.f2 !=(wrap .i64 ((wrap .i64 (v0+1))+1)))=true
        · try simp only[if_pos h_3]
          exact lx 68 ya (P3 (.f h_3 (.h 65 (.b true) .nil))) rfl
        · try simp only[if_neg h_3]
          have P4 {hs q} (r:PS F X hs q):=(P3 (.f (nt h_3) (.f trivial (.f f1 (.f (mp_ b_KY Hx0) (.h 65 (.b false) (.h 77 (.row (b_KY x0)) r)))))))
          by_cases h_4:(x0.f3 !=(wrap .i64 ((wrap .i64 ((wrap .i64 (v0+1))+1))+1)))=true
          · try simp only[if_pos h_4]
            exact lx 89 ya (P4 (.f h_4 (.h 86 (.b true) .nil))) rfl
          · try simp only[if_neg h_4]
            have ih:=t62_0 (l0_0:=l0_0) (a0:=a0) (a1:=a1) hy0 y0 (p++ [x0]) (wrap .i64 ((wrap .i64 ((wrap .i64 ((wrap .i64 (v0+1))+1))+1))+1)) yd
            rw[pl1,← hw] at ih; rw[← hw]
            exact ly 99 ya (P4 (.f (nt h_4) (.f trivial (.f trivial (.h 86 (.b false) .nil))))) ih
def m62 (a0:(List K_KY)) (a1:Int):Int:=
  (match r62_0 a0 a0 0 a1 with | .k0 w0_0 w1_0 w2_0=>w0_0 | .k1=>(-1))
theorem e62 {l0_0:Nat} {a0:(List K_KY)} {a1:Int} (hy0:length a0*32≤140737488351232):Ev F X (.call 62 [(.one (.bor l0_0 (map b_KY a0))),(.one (.val (.int .i64 a1)))] [] [] [(.one (.val (.int .i64 (m62 a0 a1))))]):=by
  unfold m62
  cases h0:r62_0 a0 a0 0 a1 with
  |k0 w0_0 w1_0 w2_0=>
    try dsimp only
    have f0:=Eq.refl (h62_0 l0_0 a0 a1 0 a1)
    exact cp ya (.f f0 (.f (ev_ (e:=ex62_0) (g:=(fin62_0 l0_0 a0 a1)) h0 (t62_0 (l0_0:=l0_0) (a0:=a0) (a1:=a1) (by assumption) a0 [] a1 rfl)) (.h 4 (.loop (h62_0 l0_0 a0 a1 0 a1) (.exit 0) (fin62_0 l0_0 a0 a1 (.k0 w0_0 w1_0 w2_0))) .nil)))
  |k1=>
    try dsimp only
    have f0:=Eq.refl (h62_0 l0_0 a0 a1 0 a1)
    exact cp ya (.f f0 (.f (ev_ (e:=ex62_0) (g:=(fin62_0 l0_0 a0 a1)) h0 (t62_0 (l0_0:=l0_0) (a0:=a0) (a1:=a1) (by assumption) a0 [] a1 rfl)) (.h 4 (.loop (h62_0 l0_0 a0 a1 0 a1) .ret (fin62_0 l0_0 a0 a1 (.k1))) .nil)))
def m33 (a0:K_SR) (a1:Int):Int:=
  if(decide ((m46 (K_G.mk a0.f2 a0.f3 a0.f4 a0.f5 a0.f6) a1) < 0))=true then(-1) else
  if(decide ((m62 a0.f7 (m46 (K_G.mk a0.f2 a0.f3 a0.f4 a0.f5 a0.f6) a1)) < 0))=true then(-1) else
    (m62 a0.f7 (m46 (K_G.mk a0.f2 a0.f3 a0.f4 a0.f5 a0.f6) a1))
theorem e33 {l0_6:Nat} {l0_7:Nat} {a0:K_SR} {a1:Int} (hy0:length a0.f6*56≤140737488351232) (hy1:∀z∈a0.f6,ok_T z) (hy2:length a0.f7*32≤140737488351232):Ev F X (.call 33 [(.agg (k_SR l0_6 l0_7 a0)),(.one (.val (.int .i64 a1)))] [] [] [(.one (.val (.int .i64 (m33 a0 a1))))]):=by
  unfold m33
  have P0 {hs q} (r:PS F X hs q):=(PS.r 11 [] [] (e46 (l0_4:=(l0_6+1)) (a0:=(K_G.mk a0.f2 a0.f3 a0.f4 a0.f5 a0.f6)) (a1:=a1) ‹_› ‹_›) r)
  by_cases h0:(decide ((m46 (K_G.mk a0.f2 a0.f3 a0.f4 a0.f5 a0.f6) a1) < 0))=true
  · try simp only[if_pos h0]
    exact cp ya (P0 (.f h0 (.h 18 (.b true) .nil)))
  · try simp only[if_neg h0]
    have P1 {hs q} (r:PS F X hs q):=(P0 (.f (nt h0) (.h 18 (.b false) (.r 26 [] [] (e62 (l0_0:=(l0_7+1)) (a0:=a0.f7) (a1:=(m46 (K_G.mk a0.f2 a0.f3 a0.f4 a0.f5 a0.f6) a1)) ‹_›) r))))
    by_cases h1:(decide ((m62 a0.f7 (m46 (K_G.mk a0.f2 a0.f3 a0.f4 a0.f5 a0.f6) a1)) < 0))=true
    · try simp only[if_pos h1]
      exact cp ya (P1 (.f h1 (.h 33 (.b true) .nil)))
    · try simp only[if_neg h1]
      exact cp ya (P1 (.f (nt h1) (.h 33 (.b false) .nil)))
def m5 (a0:(List K_J)) (a1:(List K_KY)) (a2:K_KY) (a3:Int):Bool:=
  if(decide ((m15 a0 1048576) < 0))=true then true else
  if(decide ((m24 a1 (m15 a0 1048576)) < 0))=true then true else
    if(!(m29 (m28 a0 a1 a2 a3) (m25 a0 a1 a2 a3)))=true then false else
      if(!(m20 a0 a0))=true then false else
        if(!(m30 a1 a1))=true then false else
          if(decide ((m31 a1 (m21 a0 1)) < 0))=true then false else
            if(decide ((m33 (K_SR.mk ((m28 a0 a1 a2 a3).f0) ((m28 a0 a1 a2 a3).f1) ((m28 a0 a1 a2 a3).f2) ((m28 a0 a1 a2 a3).f3) ((m28 a0 a1 a2 a3).f4) ((m28 a0 a1 a2 a3).f5) (o32_1 (m28 a0 a1 a2 a3) 1) (o32_0 (m28 a0 a1 a2 a3) 1)) 1) < 0))=true then false else
              if((m33 (K_SR.mk ((m28 a0 a1 a2 a3).f0) ((m28 a0 a1 a2 a3).f1) ((m28 a0 a1 a2 a3).f2) ((m28 a0 a1 a2 a3).f3) ((m28 a0 a1 a2 a3).f4) ((m28 a0 a1 a2 a3).f5) (o32_1 (m28 a0 a1 a2 a3) 1) (o32_0 (m28 a0 a1 a2 a3) 1)) 1) !=(m32 (m28 a0 a1 a2 a3) 1))=true then false else
                true
set_option maxHeartbeats 8000000 in
theorem e5 {l0_0:Nat} {a0:(List K_J)} {l1_0:Nat} {a1:(List K_KY)} {a2:K_KY} {a3:Int} (hy0:length a0*64≤140737488351232) (hy1:∀z∈a0,ok_J z) (hy2:length a1*32≤140737488351232):Ev F X (.call 5 [(.one (.bor l0_0 (map b_J a0))),(.one (.bor l1_0 (map b_KY a1))),(.agg [(.val (.int .i64 a2.f0)),(.val (.int .i64 a2.f1)),(.val (.int .i64 a2.f2)),(.val (.int .i64 a2.f3))]),(.one (.val (.int .i64 a3)))] [] [] [(.one (.val (.bool (m5 a0 a1 a2 a3))))]):=by
  unfold m5
  have P0 {hs q} (r:PS F X hs q):=(PS.r 11 [] [] (e15 (l0_0:=(l0_0+1)) (a0:=a0) (a1:=1048576) ‹_› ‹_›) r)
  by_cases h0:(decide ((m15 a0 1048576) < 0))=true
  · try simp only[if_pos h0]
    exact cp ya (P0 (.f h0 (.h 18 (.b true) .nil)))
  · try simp only[if_neg h0]
    have P1 {hs q} (r:PS F X hs q):=(P0 (.f (nt h0) (.h 18 (.b false) (.r 24 [] [] (e24 (l0_0:=(l1_0+1)) (a0:=a1) (a1:=(m15 a0 1048576))) r))))
    by_cases h1:(decide ((m24 a1 (m15 a0 1048576)) < 0))=true
    · try simp only[if_pos h1]
      exact cp ya (P1 (.f h1 (.h 31 (.b true) .nil)))
    · try simp only[if_neg h1]
      have f4:=(g17 (l0_0:=(l0_0+1)) (a0:=a0) ‹_› ‹_›)
      have f5:=(g26 (l0_0:=(l1_0+1)) (a0:=a1) ‹_›)
      have f6:=(e27 (a0:=a2))
      have P2 {hs q} (r:PS F X hs q):=(P1 (.f (nt h1) (.h 31 (.b false) (.r 35 [] [] f4 (.r 39 [] [] f5 (.r 43 [] [] f6 (ln_J a0 (ln_KY a1 (.r 47 [] [(map b_J a0),(map b_KY a1)] (e25 (l0_0:=0) (l1_0:=0) (a0:=a0) (a1:=a1) (a2:=a2) (a3:=a3) ‹_› ‹_› ‹_›) (pe 0 (pe (length (map d_T ((m25 a0 a1 a2 a3).f6))) (pe 0 (pe (length (map d_KY ((m25 a0 a1 a2 a3).f7))) (.r 55 [] [] f4 (.r 61 [] [] f5 (.r 71 [] [] f6 (ln_J a0 (ln_KY a1 (.r 75 [] [(map b_J a0),(map b_KY a1)] (e28 (l0_0:=0) (l1_0:=0) (a0:=a0) (a1:=a1) (a2:=a2) (a3:=a3) ‹_› ‹_› ‹_›) (pe 0 (pe (length (map d_T ((m28 a0 a1 a2 a3).f6))) (pe 0 (pe (length (map d_KY ((m28 a0 a1 a2 a3).f7))) (ln_T ((m28 a0 a1 a2 a3).f6) (ln_KY ((m28 a0 a1 a2 a3).f7) (ln_T ((m25 a0 a1 a2 a3).f6) (ln_KY ((m25 a0 a1 a2 a3).f7) (.r 85 [] [(map b_T ((m28 a0 a1 a2 a3).f6)),(map b_KY ((m28 a0 a1 a2 a3).f7)),(map b_T ((m25 a0 a1 a2 a3).f6)),(map b_KY ((m25 a0 a1 a2 a3).f7))] (e29 (l0_6:=0) (l0_7:=0) (l1_6:=0) (l1_7:=0) (a0:=(m28 a0 a1 a2 a3)) (a1:=(m25 a0 a1 a2 a3)) yam yag yah yav yat yau) r))))))))))))))))))))))))))))
      by_cases h2:(!(m29 (m28 a0 a1 a2 a3) (m25 a0 a1 a2 a3)))=true
      · try simp only[if_pos h2]
        exact cp ya (P2 (.f h2 (.h 88 (.b true) .nil)))
      · try simp only[if_neg h2]
        have P3 {hs q} (r:PS F X hs q):=(P2 (.f (nt h2) (.h 88 (.b false) (.r 94 [] [] f4 (ln_J a0 (ln_J a0 (.r 96 [] [(map b_J a0),(map b_J a0)] (e20 (l0_0:=0) (l1_0:=0) (a0:=a0) (a1:=a0) ‹_› ‹_› ‹_› ‹_›) r)))))))
        by_cases h3:(!(m20 a0 a0))=true
        · try simp only[if_pos h3]
          exact cp ya (P3 (.f h3 (.h 99 (.b true) .nil)))
        · try simp only[if_neg h3]
          have P4 {hs q} (r:PS F X hs q):=(P3 (.f (nt h3) (.h 99 (.b false) (.r 105 [] [] f5 (ln_KY a1 (ln_KY a1 (.r 107 [] [(map b_KY a1),(map b_KY a1)] (e30 (l0_0:=0) (l1_0:=0) (a0:=a1) (a1:=a1) ‹_› ‹_›) r)))))))
          by_cases h4:(!(m30 a1 a1))=true
          · try simp only[if_pos h4]
            exact cp ya (P4 (.f h4 (.h 110 (.b true) .nil)))
          · try simp only[if_neg h4]
            have P5 {hs q} (r:PS F X hs q):=(P4 (.f (nt h4) (.f (pureR_J a0) (.h 110 (.b false) (.r 118 [true] [] (e21 (a0:=a0) (a1:=1) ‹_› ‹_›) (.f (pureR_KY a1) (.r 126 [true] [] (e31 (a0:=a1) (a1:=(m21 a0 1)) ‹_›) r)))))))
            by_cases h5:(decide ((m31 a1 (m21 a0 1)) < 0))=true
            · try simp only[if_pos h5]
              exact cp ya (P5 (.f h5 (.f h5 (.f h5 (.f h5 (.f h5 (.h 135 (.b true) (.h 137 (.b true) (.h 139 (.b true) (.h 141 (.b true) (.h 144 (.b true) .nil)))))))))))
            · try simp only[if_neg h5]
              have P6 {hs q} (r:PS F X hs q):=(P5 (.f (nt h5) (.f (nt h5) (.f (nt h5) (ln_T ((m28 a0 a1 a2 a3).f6) (ln_KY ((m28 a0 a1 a2 a3).f7) (ln_T ((m25 a0 a1 a2 a3).f6) (ln_KY ((m25 a0 a1 a2 a3).f7) (.h 135 (.b false) (.h 137 (.b false) (.h 139 (.b false) (.r 140 [] [(map b_T ((m28 a0 a1 a2 a3).f6)),(map b_KY ((m28 a0 a1 a2 a3).f7)),(map b_T ((m25 a0 a1 a2 a3).f6)),(map b_KY ((m25 a0 a1 a2 a3).f7))] (e29 (l0_6:=0) (l0_7:=0) (l1_6:=0) (l1_7:=0) (a0:=(m28 a0 a1 a2 a3)) (a1:=(m25 a0 a1 a2 a3)) yam yag yah yav yat yau) (.f (nt h5) (.f (nt h5) (.f (nt h2) (.f (pureR_T ((m28 a0 a1 a2 a3).f6)) (.f (pureR_KY ((m28 a0 a1 a2 a3).f7)) (.h 141 (.b false) (.h 144 (.b false) (.h 145 (.b false) (.r 153 [true,true] [] (e32 (a0:=(m28 a0 a1 a2 a3)) (a1:=1) yam yag yah) (ln_T (o32_1 (m28 a0 a1 a2 a3) 1) (ln_KY (o32_0 (m28 a0 a1 a2 a3) 1) (.r 163 [] [(map b_T (o32_1 (m28 a0 a1 a2 a3) 1)),(map b_KY (o32_0 (m28 a0 a1 a2 a3) 1))] (e33 (l0_6:=0) (l0_7:=0) (a0:=(K_SR.mk ((m28 a0 a1 a2 a3).f0) ((m28 a0 a1 a2 a3).f1) ((m28 a0 a1 a2 a3).f2) ((m28 a0 a1 a2 a3).f3) ((m28 a0 a1 a2 a3).f4) ((m28 a0 a1 a2 a3).f5) (o32_1 (m28 a0 a1 a2 a3) 1) (o32_0 (m28 a0 a1 a2 a3) 1))) (a1:=1) (by have q:=okm28 a0 a1 a2 a3; rw[ol32_1]; exact q.1) (by have q:=okm28 a0 a1 a2 a3; exact oo51 _ _ q.2.1) (by have q:=okm28 a0 a1 a2 a3; rw[ol32_0]; exact q.2.2)) r))))))))))))))))))))))))
              by_cases h6:(decide ((m33 (K_SR.mk ((m28 a0 a1 a2 a3).f0) ((m28 a0 a1 a2 a3).f1) ((m28 a0 a1 a2 a3).f2) ((m28 a0 a1 a2 a3).f3) ((m28 a0 a1 a2 a3).f4) ((m28 a0 a1 a2 a3).f5) (o32_1 (m28 a0 a1 a2 a3) 1) (o32_0 (m28 a0 a1 a2 a3) 1)) 1) < 0))=true
              · try simp only[if_pos h6]
                exact cp ya (P6 (.f h6 (.h 170 (.b true) .nil)))
              · try simp only[if_neg h6]
                by_cases h7:((m33 (K_SR.mk ((m28 a0 a1 a2 a3).f0) ((m28 a0 a1 a2 a3).f1) ((m28 a0 a1 a2 a3).f2) ((m28 a0 a1 a2 a3).f3) ((m28 a0 a1 a2 a3).f4) ((m28 a0 a1 a2 a3).f5) (o32_1 (m28 a0 a1 a2 a3) 1) (o32_0 (m28 a0 a1 a2 a3) 1)) 1) !=(m32 (m28 a0 a1 a2 a3) 1))=true
                · try simp only[if_pos h7]
                  exact cp ya (P6 (.f (nt h6) (.f h7 (.h 170 (.b false) (.h 177 (.b true) .nil)))))
                · try simp only[if_neg h7]
                  exact cp ya (P6 (.f (nt h6) (.f (nt h7) (.h 170 (.b false) (.h 177 (.b false) (.r 181 [] [] f4 (.r 185 [] [] f5 (.r 189 [] [] f6 (ln_J a0 (ln_KY a1 (.r 193 [] [(map b_J a0),(map b_KY a1)] (e28 (l0_0:=0) (l1_0:=0) (a0:=a0) (a1:=a1) (a2:=a2) (a3:=a3) ‹_› ‹_› ‹_›) (pe 0 (pe (length (map d_T ((m28 a0 a1 a2 a3).f6))) (pe 0 (pe (length (map d_KY ((m28 a0 a1 a2 a3).f7))) (ln_T ((m28 a0 a1 a2 a3).f6) (ln_KY ((m28 a0 a1 a2 a3).f7) (ln_T ((m25 a0 a1 a2 a3).f6) (ln_KY ((m25 a0 a1 a2 a3).f7) (.r 203 [] [(map b_T ((m28 a0 a1 a2 a3).f6)),(map b_KY ((m28 a0 a1 a2 a3).f7)),(map b_T ((m25 a0 a1 a2 a3).f6)),(map b_KY ((m25 a0 a1 a2 a3).f7))] (e29 (l0_6:=0) (l0_7:=0) (l1_6:=0) (l1_7:=0) (a0:=(m28 a0 a1 a2 a3)) (a1:=(m25 a0 a1 a2 a3)) yam yag yah yav yat yau) (.f (nt h2) (ln_T (o32_1 (m28 a0 a1 a2 a3) 1) (ln_KY (o32_0 (m28 a0 a1 a2 a3) 1) (.h 206 (.b false) (.r 214 [] [(map b_T (o32_1 (m28 a0 a1 a2 a3) 1)),(map b_KY (o32_0 (m28 a0 a1 a2 a3) 1))] (e33 (l0_6:=0) (l0_7:=0) (a0:=(K_SR.mk ((m28 a0 a1 a2 a3).f0) ((m28 a0 a1 a2 a3).f1) ((m28 a0 a1 a2 a3).f2) ((m28 a0 a1 a2 a3).f3) ((m28 a0 a1 a2 a3).f4) ((m28 a0 a1 a2 a3).f5) (o32_1 (m28 a0 a1 a2 a3) 1) (o32_0 (m28 a0 a1 a2 a3) 1))) (a1:=1) (by have q:=okm28 a0 a1 a2 a3; rw[ol32_1]; exact q.1) (by have q:=okm28 a0 a1 a2 a3; exact oo51 _ _ q.2.1) (by have q:=okm28 a0 a1 a2 a3; rw[ol32_0]; exact q.2.2)) (.f (nt h6) (.f (nt h7) (.h 221 (.b false) (.h 228 (.b false) .nil)))))))))))))))))))))))))))))
def wt_i (x:Int):Nat:=1
theorem wts_i:∀(l:List Int),(map wt_i l).sum=l.length*1
  |[]=>rfl
  |x::l=>by simp only[List.map_cons,List.sum_cons,wts_i l,length_cons,wt_i]; omega
def wt_N (x:K_N):Nat:=2+(map wt_i x.f2).sum
def wt_U (x:K_U):Nat:=1+(map wt_i x.f1).sum
def wt_T (x:K_T):Nat:=1+(map wt_N x.f1).sum+(map wt_U x.f2).sum
def wt_J (x:K_J):Nat:=5+(map wt_T x.f5).sum
def wt_JL (x:(List K_J)):Nat:=0+(map wt_J x).sum
def wt_KY (x:K_KY):Nat:=4
theorem wts_KY:∀(l:List K_KY),(map wt_KY l).sum=l.length*4
  |[]=>rfl
  |x::l=>by simp only[List.map_cons,List.sum_cons,wts_KY l,length_cons,wt_KY]; omega
def wt_LiiiiE (x:(List K_KY)):Nat:=0+(map wt_KY x).sum
def wt_b (x:Bool):Nat:=1
def wt_SR (x:K_SR):Nat:=6+(map wt_T x.f6).sum+(map wt_KY x.f7).sum
def wt_G (x:K_G):Nat:=4+(map wt_T x.f4).sum
def wt_TL (x:(List K_T)):Nat:=0+(map wt_T x).sum
def wt_LiE (x:(List Int)):Nat:=0+(map wt_i x).sum
def wt_NL (x:(List K_N)):Nat:=0+(map wt_N x).sum
def wt_UL (x:(List K_U)):Nat:=0+(map wt_U x).sum
def wt_y (x:Int):Nat:=1
def wt_LyE (x:(List Int)):Nat:=0+(map wt_y x).sum
def wt_LLyEE (x:(List (List Int))):Nat:=0+(map wt_LyE x).sum
theorem mr112_0 (a0:List Int):∀(l p:List Int) (v1:Int),0≤v1→v1+((map wt_i l).sum:Nat)≤4611686018427387904→∃(q:List Int) (k':Int) (w2:_) (w3:_),r112_0 a0 l (p.length:Int) (p++l) v1=.k0 (p++q) k' w2 w3∧q.length=l.length∧v1≤k'∧k'≤v1+((map wt_i l).sum:Nat)∧∀(c:List Int) (j:Int),∃u1 u2,r144_0 c q j v1=.k0 k' u1 u2
  |[],p,v1,h0,h1=>⟨[],v1,(p.length:Int),(decide ((p.length:Int) <((length (map d_i a0)):Int))),rfl,rfl,by omega,by simp,fun c j=>⟨j,(decide (j <((length (map b_i c)):Int))),rfl⟩⟩
  |x0::l,p,v1,h0,h1=>by
    simp only[List.map_cons,List.sum_cons,wt_i] at h1⊢
    obtain⟨q,k',w2,w3,e1,e2,e3,e4,e5⟩:=mr112_0 a0 l (p++ [v1]) (v1+1) yb yb
    refine⟨v1::q,k',w2,w3,?_,by simp[e2],by omega,by omega,?_⟩
    · have e:set (p++x0::l) (toNat (p.length:Int)) v1=(p++ [v1])++l:=by simp
      have e0:((p++ [v1]).length:Int)=(p.length:Int)+1:=by simp
      rw[e0] at e1
      simp(disch:=omega) only[r112_0,wrap64d]
      first |(rw[e,e1]; simp; done) |(simp only[e,e1]; simp; done)
    · intro c j
      obtain⟨u1,u2,g⟩:=e5 c (j+1)
      refine⟨u1,u2,?_⟩
      simp(disch:=omega) only[r144_0,wrap64d]
      first |(simpa using g) |(simp_all; done)
theorem mh112 (a:List Int) (k:Int) (h0:0≤k) (h1:k+((map wt_i a).sum:Nat)≤4611686018427387904):m144 (o112_0 a k) k=m112 a k∧k≤m112 a k∧m112 a k≤k+((map wt_i a).sum:Nat):=by
  obtain⟨q,k',w2,w3,e1,e2,e3,e4,e5⟩:=mr112_0 a a [] k h0 h1
  obtain⟨u1,u2,g⟩:=e5 q 0
  simp only[List.nil_append,length_nil] at e1
  rw[show ((0:Nat):Int)=0 from rfl] at e1
  unfold m112 o112_0 m144
  rw[e1]; simp only[]; rw[g]; exact⟨rfl,e3,e4⟩
theorem mr83_0 (a0:List K_N):∀(l p:List K_N) (v1:Int),0≤v1→v1+((map wt_N l).sum:Nat)≤4611686018427387904→∃(q:List K_N) (k':Int) (w2:_) (w3:_),r83_0 a0 l (p.length:Int) (p++l) v1=.k0 (p++q) k' w2 w3∧q.length=l.length∧v1≤k'∧k'≤v1+((map wt_N l).sum:Nat)∧∀(c:List K_N) (j:Int),∃u1 u2,r110_0 c q j v1=.k0 k' u1 u2
  |[],p,v1,h0,h1=>⟨[],v1,(p.length:Int),(decide ((p.length:Int) <((length (map d_N a0)):Int))),rfl,rfl,by omega,by simp,fun c j=>⟨j,(decide (j <((length (map b_N c)):Int))),rfl⟩⟩
  |x0::l,p,v1,h0,h1=>by
    simp only[List.map_cons,List.sum_cons,wt_N] at h1⊢
    have s0:=mh112 x0.f2 ((v1+1)+1) yb yb
    obtain⟨q,k',w2,w3,e1,e2,e3,e4,e5⟩:=mr83_0 a0 l (p++ [(K_N.mk v1 (v1+1) (o112_0 x0.f2 ((v1+1)+1)))]) (m112 x0.f2 ((v1+1)+1)) yb yb
    refine⟨(K_N.mk v1 (v1+1) (o112_0 x0.f2 ((v1+1)+1)))::q,k',w2,w3,?_,by simp[e2],by omega,by omega,?_⟩
    · have e:set (p++x0::l) (toNat (p.length:Int)) (K_N.mk v1 (v1+1) (o112_0 x0.f2 ((v1+1)+1)))=(p++ [(K_N.mk v1 (v1+1) (o112_0 x0.f2 ((v1+1)+1)))])++l:=by simp
      have e0:((p++ [(K_N.mk v1 (v1+1) (o112_0 x0.f2 ((v1+1)+1)))]).length:Int)=(p.length:Int)+1:=by simp
      rw[e0] at e1
      simp(disch:=omega) only[r83_0,wrap64d]
      first |(rw[e,e1]; simp; done) |(simp only[e,e1]; simp; done)
    · intro c j
      obtain⟨u1,u2,g⟩:=e5 c (j+1)
      refine⟨u1,u2,?_⟩
      have t0:=s0.1
      have n0:¬(m112 x0.f2 ((v1+1)+1) < 0):=by omega
      simp(disch:=omega) only[r110_0,wrap64d,t0]
      first |(simpa[n0] using g) |(simp_all; done)
theorem mh83 (a:List K_N) (k:Int) (h0:0≤k) (h1:k+((map wt_N a).sum:Nat)≤4611686018427387904):m110 (o83_0 a k) k=m83 a k∧k≤m83 a k∧m83 a k≤k+((map wt_N a).sum:Nat):=by
  obtain⟨q,k',w2,w3,e1,e2,e3,e4,e5⟩:=mr83_0 a a [] k h0 h1
  obtain⟨u1,u2,g⟩:=e5 q 0
  simp only[List.nil_append,length_nil] at e1
  rw[show ((0:Nat):Int)=0 from rfl] at e1
  unfold m83 o83_0 m110
  rw[e1]; simp only[]; rw[g]; exact⟨rfl,e3,e4⟩
theorem mr84_0 (a0:List K_U):∀(l p:List K_U) (v1:Int),0≤v1→v1+((map wt_U l).sum:Nat)≤4611686018427387904→∃(q:List K_U) (k':Int) (w2:_) (w3:_),r84_0 a0 l (p.length:Int) (p++l) v1=.k0 (p++q) k' w2 w3∧q.length=l.length∧v1≤k'∧k'≤v1+((map wt_U l).sum:Nat)∧∀(c:List K_U) (j:Int),∃u1 u2,r111_0 c q j v1=.k0 k' u1 u2
  |[],p,v1,h0,h1=>⟨[],v1,(p.length:Int),(decide ((p.length:Int) <((length (map d_U a0)):Int))),rfl,rfl,by omega,by simp,fun c j=>⟨j,(decide (j <((length (map b_U c)):Int))),rfl⟩⟩
  |x0::l,p,v1,h0,h1=>by
    simp only[List.map_cons,List.sum_cons,wt_U] at h1⊢
    have s0:=mh112 x0.f1 (v1+1) yb yb
    obtain⟨q,k',w2,w3,e1,e2,e3,e4,e5⟩:=mr84_0 a0 l (p++ [(K_U.mk v1 (o112_0 x0.f1 (v1+1)))]) (m112 x0.f1 (v1+1)) yb yb
    refine⟨(K_U.mk v1 (o112_0 x0.f1 (v1+1)))::q,k',w2,w3,?_,by simp[e2],by omega,by omega,?_⟩
    · have e:set (p++x0::l) (toNat (p.length:Int)) (K_U.mk v1 (o112_0 x0.f1 (v1+1)))=(p++ [(K_U.mk v1 (o112_0 x0.f1 (v1+1)))])++l:=by simp
      have e0:((p++ [(K_U.mk v1 (o112_0 x0.f1 (v1+1)))]).length:Int)=(p.length:Int)+1:=by simp
      rw[e0] at e1
      simp(disch:=omega) only[r84_0,wrap64d]
      first |(rw[e,e1]; simp; done) |(simp only[e,e1]; simp; done)
    · intro c j
      obtain⟨u1,u2,g⟩:=e5 c (j+1)
      refine⟨u1,u2,?_⟩
      have t0:=s0.1
      have n0:¬(m112 x0.f1 (v1+1) < 0):=by omega
      simp(disch:=omega) only[r111_0,wrap64d,t0]
      first |(simpa[n0] using g) |(simp_all; done)
theorem mh84 (a:List K_U) (k:Int) (h0:0≤k) (h1:k+((map wt_U a).sum:Nat)≤4611686018427387904):m111 (o84_0 a k) k=m84 a k∧k≤m84 a k∧m84 a k≤k+((map wt_U a).sum:Nat):=by
  obtain⟨q,k',w2,w3,e1,e2,e3,e4,e5⟩:=mr84_0 a a [] k h0 h1
  obtain⟨u1,u2,g⟩:=e5 q 0
  simp only[List.nil_append,length_nil] at e1
  rw[show ((0:Nat):Int)=0 from rfl] at e1
  unfold m84 o84_0 m111
  rw[e1]; simp only[]; rw[g]; exact⟨rfl,e3,e4⟩
theorem mr51_0 (a0:List K_T):∀(l p:List K_T) (v1:Int),0≤v1→v1+((map wt_T l).sum:Nat)≤4611686018427387904→∃(q:List K_T) (k':Int) (w2:_) (w3:_),r51_0 a0 l (p.length:Int) (p++l) v1=.k0 (p++q) k' w2 w3∧q.length=l.length∧v1≤k'∧k'≤v1+((map wt_T l).sum:Nat)∧∀(c:List K_T) (j:Int),∃u1 u2,r81_0 c q j v1=.k0 k' u1 u2
  |[],p,v1,h0,h1=>⟨[],v1,(p.length:Int),(decide ((p.length:Int) <((length (map d_T a0)):Int))),rfl,rfl,by omega,by simp,fun c j=>⟨j,(decide (j <((length (map b_T c)):Int))),rfl⟩⟩
  |x0::l,p,v1,h0,h1=>by
    simp only[List.map_cons,List.sum_cons,wt_T] at h1⊢
    have s0:=mh83 x0.f1 (v1+1) yb yb
    have s1:=mh84 x0.f2 (m83 x0.f1 (v1+1)) yb yb
    obtain⟨q,k',w2,w3,e1,e2,e3,e4,e5⟩:=mr51_0 a0 l (p++ [(K_T.mk v1 (o83_0 x0.f1 (v1+1)) (o84_0 x0.f2 (m83 x0.f1 (v1+1))))]) (m84 x0.f2 (m83 x0.f1 (v1+1))) yb yb
    refine⟨(K_T.mk v1 (o83_0 x0.f1 (v1+1)) (o84_0 x0.f2 (m83 x0.f1 (v1+1))))::q,k',w2,w3,?_,by simp[e2],by omega,by omega,?_⟩
    · have e:set (p++x0::l) (toNat (p.length:Int)) (K_T.mk v1 (o83_0 x0.f1 (v1+1)) (o84_0 x0.f2 (m83 x0.f1 (v1+1))))=(p++ [(K_T.mk v1 (o83_0 x0.f1 (v1+1)) (o84_0 x0.f2 (m83 x0.f1 (v1+1))))])++l:=by simp
      have e0:((p++ [(K_T.mk v1 (o83_0 x0.f1 (v1+1)) (o84_0 x0.f2 (m83 x0.f1 (v1+1))))]).length:Int)=(p.length:Int)+1:=by simp
      rw[e0] at e1
      simp(disch:=omega) only[r51_0,wrap64d]
      first |(rw[e,e1]; simp; done) |(simp only[e,e1]; simp; done)
    · intro c j
      obtain⟨u1,u2,g⟩:=e5 c (j+1)
      refine⟨u1,u2,?_⟩
      have t0:=s0.1
      have n0:¬(m83 x0.f1 (v1+1) < 0):=by omega
      have t1:=s1.1
      have n1:¬(m84 x0.f2 (m83 x0.f1 (v1+1)) < 0):=by omega
      simp(disch:=omega) only[r81_0,wrap64d,t0,t1]
      first |(simpa[n0,n1] using g) |(simp_all; done)
theorem mh51 (a:List K_T) (k:Int) (h0:0≤k) (h1:k+((map wt_T a).sum:Nat)≤4611686018427387904):m81 (o51_0 a k) k=m51 a k∧k≤m51 a k∧m51 a k≤k+((map wt_T a).sum:Nat):=by
  obtain⟨q,k',w2,w3,e1,e2,e3,e4,e5⟩:=mr51_0 a a [] k h0 h1
  obtain⟨u1,u2,g⟩:=e5 q 0
  simp only[List.nil_append,length_nil] at e1
  rw[show ((0:Nat):Int)=0 from rfl] at e1
  unfold m51 o51_0 m81
  rw[e1]; simp only[]; rw[g]; exact⟨rfl,e3,e4⟩
theorem mr31_0 (a0:List K_KY):∀(l p:List K_KY) (v1:Int),0≤v1→v1+((map wt_KY l).sum:Nat)≤4611686018427387904→∃(q:List K_KY) (k':Int) (w2:_) (w3:_),r31_0 a0 l (p.length:Int) (p++l) v1=.k0 (p++q) k' w2 w3∧q.length=l.length∧v1≤k'∧k'≤v1+((map wt_KY l).sum:Nat)∧∀(c:List K_KY) (j:Int),∃u1 u2,r62_0 c q j v1=.k0 k' u1 u2
  |[],p,v1,h0,h1=>⟨[],v1,(p.length:Int),(decide ((p.length:Int) <((length (map d_KY a0)):Int))),rfl,rfl,by omega,by simp,fun c j=>⟨j,(decide (j <((length (map b_KY c)):Int))),rfl⟩⟩
  |x0::l,p,v1,h0,h1=>by
    simp only[List.map_cons,List.sum_cons,wt_KY] at h1⊢
    obtain⟨q,k',w2,w3,e1,e2,e3,e4,e5⟩:=mr31_0 a0 l (p++ [(K_KY.mk v1 (v1+1) ((v1+1)+1) (((v1+1)+1)+1))]) ((((v1+1)+1)+1)+1) yb yb
    refine⟨(K_KY.mk v1 (v1+1) ((v1+1)+1) (((v1+1)+1)+1))::q,k',w2,w3,?_,by simp[e2],by omega,by omega,?_⟩
    · have e:set (p++x0::l) (toNat (p.length:Int)) (K_KY.mk v1 (v1+1) ((v1+1)+1) (((v1+1)+1)+1))=(p++ [(K_KY.mk v1 (v1+1) ((v1+1)+1) (((v1+1)+1)+1))])++l:=by simp
      have e0:((p++ [(K_KY.mk v1 (v1+1) ((v1+1)+1) (((v1+1)+1)+1))]).length:Int)=(p.length:Int)+1:=by simp
      rw[e0] at e1
      simp(disch:=omega) only[r31_0,wrap64d]
      first |(rw[e,e1]; simp; done) |(simp only[e,e1]; simp; done)
    · intro c j
      obtain⟨u1,u2,g⟩:=e5 c (j+1)
      refine⟨u1,u2,?_⟩
      simp(disch:=omega) only[r62_0,wrap64d]
      first |(simpa using g) |(simp_all; done)
theorem mh31 (a:List K_KY) (k:Int) (h0:0≤k) (h1:k+((map wt_KY a).sum:Nat)≤4611686018427387904):m62 (o31_0 a k) k=m31 a k∧k≤m31 a k∧m31 a k≤k+((map wt_KY a).sum:Nat):=by
  obtain⟨q,k',w2,w3,e1,e2,e3,e4,e5⟩:=mr31_0 a a [] k h0 h1
  obtain⟨u1,u2,g⟩:=e5 q 0
  simp only[List.nil_append,length_nil] at e1
  rw[show ((0:Nat):Int)=0 from rfl] at e1
  unfold m31 o31_0 m62
  rw[e1]; simp only[]; rw[g]; exact⟨rfl,e3,e4⟩
theorem mh45 (a:K_G) (k:Int) (h0:0≤k) (h1:k+(wt_G a:Nat)≤4611686018427387904):m46 (K_G.mk a.f0 a.f1 a.f2 a.f3 (o45_0 a k)) k=m45 a k∧k≤m45 a k∧m45 a k≤k+(wt_G a:Nat):=by
  simp only[wt_G] at h1⊢
  have s0:=mh51 a.f4 k yb yb
  have t0:=s0.1
  try simp only[length_map,wt_i,wt_N,wt_U,wt_T,wt_J,wt_JL,wt_KY,wt_LiiiiE,wt_b,wt_SR,wt_G,wt_TL,wt_LiE,wt_NL,wt_UL,wt_y,wt_LyE,wt_LLyEE] at*
  unfold m46 m45 o45_0
  simp(disch:=omega) only[wrap64d,t0]
  refine⟨?_,by omega,by omega⟩
  (repeat' rw[if_neg yaw])<;>rfl
theorem mh32 (a:K_SR) (k:Int) (h0:0≤k) (h1:k+(wt_SR a:Nat)≤4611686018427387904):m33 (K_SR.mk a.f0 a.f1 a.f2 a.f3 a.f4 a.f5 (o32_1 a k) (o32_0 a k)) k=m32 a k∧k≤m32 a k∧m32 a k≤k+(wt_SR a:Nat):=by
  simp only[wt_SR] at h1⊢
  have s0:=mh45 (K_G.mk a.f2 a.f3 a.f4 a.f5 a.f6) k yb yN
  have s1:=mh31 a.f7 (m45 (K_G.mk a.f2 a.f3 a.f4 a.f5 a.f6) k) yb yN
  have t0:=s0.1
  have t1:=s1.1
  try simp only[length_map,wt_i,wt_N,wt_U,wt_T,wt_J,wt_JL,wt_KY,wt_LiiiiE,wt_b,wt_SR,wt_G,wt_TL,wt_LiE,wt_NL,wt_UL,wt_y,wt_LyE,wt_LLyEE] at*
  unfold m33 m32 o32_0 o32_1
  simp(disch:=omega) only[wrap64d,t0,t1]
  refine⟨?_,by omega,by omega⟩
  (repeat' rw[if_neg yaw])<;>rfl
theorem ck156 (F:FuncId→Option VFun) (X:Ext):CkD F X 100 2 1 8 [(.val (.int .i64 0))]:=by
  intro l rows h1 h2
  exact codeH_ok (t:=0) (hs:=[]) (q:=[0+0≤0,(([]:List (List D))++fromBR l rows).length*8≤70368744177664,∀r∈fromBR l rows,r.length=1]) (by rfl) ⟨by simp,by simpa using h1,h2,trivial⟩
theorem ck93 (F:FuncId→Option VFun) (X:Ext):CkD F X 58 63 4 32 [(.val (.int .i64 0)),(.val (.int .i64 0)),(.val (.int .i64 0)),(.val (.int .i64 0))]:=by
  intro l rows h1 h2
  exact codeH_ok (t:=0) (hs:=[]) (q:=[0+0≤0,(([]:List (List D))++fromBR l rows).length*32≤70368744177664,∀r∈fromBR l rows,r.length=4]) (by rfl) ⟨by simp,by simpa using h1,h2,trivial⟩
theorem X_ok (f:FuncId) (args:List SV) (objs:List (V.Id × VObj)) (rs:List Ret) (h:X f args objs rs):CallOK Tryz.prog f args objs [] [] rs:=by
  rcases h with⟨rfl,rfl,h⟩ |⟨rfl,rfl,h⟩
  · exact clone_ok (X:=fun _ _ _ _=>False) (T:=100) (E:=2) (k:=1) (kb:=8) (zero:=[(.i 0)]) ya F_ok (fun _ _ _ _ h=>h.elim) ya (ck156 _ _) h
  · exact clone_ok (X:=fun _ _ _ _=>False) (T:=58) (E:=63) (k:=4) (kb:=32) (zero:=[(.i 0),(.i 0),(.i 0),(.i 0)]) ya F_ok (fun _ _ _ _ h=>h.elim) ya (ck93 _ _) h
end Go.Proofs.YtmdocdnidilaiaaGreat.CheckShare
