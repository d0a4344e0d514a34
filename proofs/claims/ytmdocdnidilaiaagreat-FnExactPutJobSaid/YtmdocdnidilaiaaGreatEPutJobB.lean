/- What the functions compute. -/
import Derived.Test.YtmdocdnidilaiaaGreatEPutJobA
import Derived.KernelRfl
namespace Go.Proofs.YtmdocdnidilaiaaGreat.PutJob
open Go Go.Proofs.YtmdocdnidilaiaaGreat.V
set_option linter.unusedVariables false
set_option linter.unusedSimpArgs false
set_option maxRecDepth 20000
open Go.IntKind (wrap)
open Int (toNat)
open List (length_replicate length_map length_set length_append length_cons length_nil length_take length_drop take_of_length_le map_take map_drop map_set append_assoc getElem?_map map length take drop getD set)
attribute [local simp] toBR_i fullR_i pureR_i lenB_i lenD_i fromBR_i copy_i toBR_N fullR_N pureR_N lenB_N lenD_N toBR_U fullR_U pureR_U lenB_U lenD_U toBR_T fullR_T pureR_T lenB_T lenD_T toBR_J fullR_J pureR_J lenB_J lenD_J toBR_JL fullR_JL pureR_JL lenB_JL lenD_JL toBR_b fullR_b pureR_b lenB_b lenD_b fromBR_b copy_b toBR_JR fullR_JR pureR_JR lenB_JR lenD_JR toBR_G fullR_G pureR_G lenB_G lenD_G toBR_TL fullR_TL pureR_TL lenB_TL lenD_TL toBR_LiE fullR_LiE pureR_LiE lenB_LiE lenD_LiE toBR_NL fullR_NL pureR_NL lenB_NL lenD_NL toBR_UL fullR_UL pureR_UL lenB_UL lenD_UL strInts_len byteRows_len toBR_y fullR_y pureR_y lenB_y lenD_y fromBR_y copy_y toBR_LyE fullR_LyE pureR_LyE lenB_LyE lenD_LyE toBR_LLyEE fullR_LLyEE pureR_LLyEE lenB_LLyEE lenD_LLyEE
/-! loop 83_0 -/
inductive O83_0 where
  |k0 (w0:List K_N) (w1:Int) (w2:Int) (w3:Bool)
def r83_0 (a0:(List K_N)):List K_N→Int→List K_N→Int→O83_0
  |x0::y0,i,v0,v1=>
    (r83_0 a0 y0 (i+1) (set v0 (toNat i) (K_N.mk v1 (wrap .i64 (v1+1)) (o112_0 x0.f2 (wrap .i64 ((wrap .i64 (v1+1))+1))))) (m112 x0.f2 (wrap .i64 ((wrap .i64 (v1+1))+1))))
  |[],i,v0,v1=>(O83_0.k0 v0 v1 i (decide (i <((length (map d_N a0)):Int))))
def h83_0 (a0:(List K_N)) (a1:Int) (i:Int) (v0:List K_N) (v1:Int):St:=⟨[(0,(.one (.ref ⟨(0,0,0),[],0,(length (map d_N a0))⟩))),(1,(.one (.val (.int .i64 v1)))),(5,(.one (.val (.int .i64 i))))],[((0,0,0),.live ⟨3,(map d_N v0),[]⟩)]⟩
def ex83_0:O83_0→VX.Exit
  |.k0 _ _ _ _=>(.exit 0)
def fin83_0 (a0:(List K_N)) (a1:Int):O83_0→St
  |.k0 w0 w1 w2 w3=>⟨[(0,(.one (.ref ⟨(0,0,0),[],0,(length (map d_N a0))⟩))),(1,(.one (.val (.int .i64 w1)))),(5,(.one (.val (.int .i64 w2)))),(9,(.one (.val (.bool w3))))],[((0,0,0),.live ⟨3,(map d_N w0),[]⟩)]⟩
theorem t83_0 {a0:(List K_N)} {a1:Int} (hy0:length a0*40≤140737488351232) (hy1:∀z∈a0,ok_N z):∀(y0:List K_N) (p:List K_N) (v0:List K_N) (v1:Int),p++y0=a0→length v0=(length (map d_N a0))→drop (length p) v0=y0→Ev F X (.code l83_0 (h83_0 a0 a1 (length p:Int) v0 v1) (ex83_0 (r83_0 a0 y0 (length p:Int) v0 v1)) (fin83_0 a0 a1 (r83_0 a0 y0 (length p:Int) v0 v1)))
  |[],p,v0,v1,hp0,hi0,hi1=>by
    have hc:=hcn d_N hp0
    have hj0:=hi0; try simp only[LN,Int.toNat_natCast] at hj0
    have hj1:=hi1; try simp only[LN,Int.toNat_natCast] at hj1
    exact lx 9 ya (.f (nt hc) (.h 8 (.b false) .nil)) rfl
  |x0::y0,p,v0,v1,hp0,hi0,hi1=>by
    have hc:=hcy d_N hp0
    have Hx0:=hxy hp0
    have Mx0_0:=hy1 x0 (List.mem_of_getElem? Hx0)
    have hlen:=hly hp0
    have hw:wrap .i64 ((length p:Int)+1)=(length p:Int)+1:=wrap64 yb
    have hj0:=hi0; try simp only[LN,Int.toNat_natCast] at hj0
    have hj1:=hi1; try simp only[LN,Int.toNat_natCast] at hj1
    have Hv0:v0[toNat (length p:Int)]?=some x0:=by rw[Int.toNat_natCast]; exact drop_at hi1
    simp only[r83_0]
    have f1:0+(length (map d_N a0))≤(length (map d_N v0)):=yu
    have f2:0≤(length p:Int)∧(length p:Int) <((length (map d_N a0)):Int):=yb
    have f4:(set (map d_N v0) (0+(toNat (length p:Int))) [(.i v1),(.i x0.f1),(.own 1 (map d_i x0.f2))])=(map d_N (set v0 (toNat (length p:Int)) (K_N.mk v1 x0.f1 x0.f2))):=(by simp[take_of_length_le,d_i,d_N,ol112]; done)
    have f6:0+(length (map d_N a0))≤(length (map d_N (set v0 (toNat (length p:Int)) (K_N.mk v1 x0.f1 x0.f2)))):=yF
    have f8:(map d_N (set v0 (toNat (length p:Int)) (K_N.mk v1 x0.f1 x0.f2)))[(0+(toNat (length p:Int)))]?=some [(.i v1),(.i x0.f1),(.own 1 (map d_i x0.f2))]:=ym
    have f9:(set (map d_N (set v0 (toNat (length p:Int)) (K_N.mk v1 x0.f1 x0.f2))) (0+(toNat (length p:Int))) [(.i v1),(.i (wrap .i64 (v1+1))),(.own 1 (map d_i x0.f2))])=(map d_N (set v0 (toNat (length p:Int)) (K_N.mk v1 (wrap .i64 (v1+1)) x0.f2))):=(by simp[take_of_length_le,d_i,d_N,ol112]; done)
    have f11:0+(length (map d_N a0))≤(length (map d_N (set v0 (toNat (length p:Int)) (K_N.mk v1 (wrap .i64 (v1+1)) x0.f2)))):=yF
    have f13:(map d_N (set v0 (toNat (length p:Int)) (K_N.mk v1 (wrap .i64 (v1+1)) x0.f2)))[(0+(toNat (length p:Int)))]?=some [(.i v1),(.i (wrap .i64 (v1+1))),(.own 1 (map d_i x0.f2))]:=ym
    have f14:nav 3 (map d_N (set v0 (toNat (length p:Int)) (K_N.mk v1 (wrap .i64 (v1+1)) x0.f2))) [((0+(toNat (length p:Int))),2)]=some (1,(map d_i x0.f2)):=yz
    have f17:undirt [((0+(toNat (length p:Int))),2)] [([((0+(toNat (length p:Int))),2)],false)]=[([((0+(toNat (length p:Int))),2)],true)]:=(by simp[undirt])
    have f18:(setCell (setCell (map d_N (set v0 (toNat (length p:Int)) (K_N.mk v1 (wrap .i64 (v1+1)) x0.f2))) [((0+(toNat (length p:Int))),2)] (.hole (lenAt ⟨3,(map d_N (set v0 (toNat (length p:Int)) (K_N.mk v1 (wrap .i64 (v1+1)) x0.f2))),[]⟩ [((0+(toNat (length p:Int))),2)]))) [((0+(toNat (length p:Int))),2)] (.own 1 (map d_i (o112_0 x0.f2 (wrap .i64 ((wrap .i64 (v1+1))+1))))))=(map d_N (set v0 (toNat (length p:Int)) (K_N.mk v1 (wrap .i64 (v1+1)) (o112_0 x0.f2 (wrap .i64 ((wrap .i64 (v1+1))+1)))))):=(by rw[setCell2At (i:=(0+(toNat (length p:Int)))) (j:=2) (row:=[(.i v1),(.i (wrap .i64 (v1+1))),(.own 1 (map d_i x0.f2))]) ym]; first | rfl |(simp[take_of_length_le,d_i,d_N,d_U,d_T,d_J,d_JL,d_b,d_JR,d_G,d_TL,d_LiE,d_NL,d_UL,d_y,d_LyE,d_LLyEE,ol112,byteRows_eq,ints_y]; done) |(simp[map_set,take_of_length_le,d_i,d_N,d_U,d_T,d_J,d_JL,d_b,d_JR,d_G,d_TL,d_LiE,d_NL,d_UL,d_y,d_LyE,d_LLyEE,ol112,byteRows_eq,ints_y]; done))
    have ih:=t83_0 (a0:=a0) (a1:=a1) hy0 hy1 y0 (p++ [x0]) (set v0 (toNat (length p:Int)) (K_N.mk v1 (wrap .i64 (v1+1)) (o112_0 x0.f2 (wrap .i64 ((wrap .i64 (v1+1))+1))))) (m112 x0.f2 (wrap .i64 ((wrap .i64 (v1+1))+1))) ye yq yD
    rw[pl1,← hw] at ih; rw[← hw]
    exact ly 70 ya (.f hc (.f f1 (.f f2 (.f (mz_ d_N Hv0) (.f f4 (.f trivial (.f f6 (.f f2 (.f f8 (.f f9 (.f trivial (.f f11 (.f f2 (.f f13 (.f f14 (.f (pureR_i x0.f2) (.h 8 (.b true) (.h 20 (.rowD (d_N x0)) (.h 21 (.norm (0,0,0) (map d_N (set v0 (toNat (length p:Int)) (K_N.mk v1 x0.f1 x0.f2)))) (.h 39 (.rowD [(.i v1),(.i x0.f1),(.own 1 (map d_i x0.f2))]) (.h 40 (.norm (0,0,0) (map d_N (set v0 (toNat (length p:Int)) (K_N.mk v1 (wrap .i64 (v1+1)) x0.f2)))) (.h 56 (.rowD [(.i v1),(.i (wrap .i64 (v1+1))),(.own 1 (map d_i x0.f2))]) (.rn 60 [((0,0,0),[2],1,(map d_i x0.f2))] [[([((0+(toNat (length p:Int))),2)],true)]] [true] [] (e112 (a0:=x0.f2) (a1:=(wrap .i64 ((wrap .i64 (v1+1))+1))) (by assumption)) (.f f17 (.f f18 (.f trivial (.h 63 (.norm (0,0,0) (map d_N (set v0 (toNat (length p:Int)) (K_N.mk v1 (wrap .i64 (v1+1)) (o112_0 x0.f2 (wrap .i64 ((wrap .i64 (v1+1))+1))))))) .nil))))))))))))))))))))))))))) ih
def post83_0 (n0:Nat):O83_0→Prop
  |.k0 w0 _ _ _=>length w0=n0
theorem z83_0 {a0:(List K_N)}:∀(y0:List K_N) (i:Int) (v0:List K_N) (v1:Int),post83_0 (length v0) (r83_0 a0 y0 i v0 v1)
  |[],i,v0,v1=>by
    first | trivial |(simp only[post83_0,length_nil,Nat.add_zero]; done) |(simp[post83_0]; done)
  |x0::y0,i,v0,v1=>by
    simp only[r83_0]
    have z:=z83_0 (a0:=a0) y0 (i+1) (set v0 (toNat i) (K_N.mk v1 (wrap .i64 (v1+1)) (o112_0 x0.f2 (wrap .i64 ((wrap .i64 (v1+1))+1))))) (m112 x0.f2 (wrap .i64 ((wrap .i64 (v1+1))+1)))
    rw[show (length v0)=(length (set v0 (toNat i) (K_N.mk v1 (wrap .i64 (v1+1)) (o112_0 x0.f2 (wrap .i64 ((wrap .i64 (v1+1))+1)))))) from by first | omega |(simp only[LN]; done) |(simp only[LN]; omega)]
    exact z
/-! loop.example/g00539/laws.markInS -/
def o83_0 (a0:(List K_N)) (a1:Int):List K_N:=
  (match r83_0 a0 a0 0 a0 a1 with | .k0 w0_0 w1_0 w2_0 w3_0=>w0_0)
def m83 (a0:(List K_N)) (a1:Int):Int:=
  (match r83_0 a0 a0 0 a0 a1 with | .k0 w0_0 w1_0 w2_0 w3_0=>w1_0)
theorem e83 {a0:(List K_N)} {a1:Int} (hy0:length a0*40≤140737488351232) (hy1:∀z∈a0,ok_N z):Ev F X (.call 83 [(.one (.ref ⟨(0,0,0),[],0,(length (map d_N a0))⟩)),(.one (.val (.int .i64 a1)))] [((0,0,0),⟨3,(map d_N a0),[]⟩)] [(map d_N (o83_0 a0 a1))] [(.one (.val (.int .i64 (m83 a0 a1))))]):=by
  unfold m83 o83_0
  cases h0:r83_0 a0 a0 0 a0 a1 with
  |k0 w0_0 w1_0 w2_0 w3_0=>
    try dsimp only
    have zh0:=z83_0 (a0:=a0) a0 0 a0 a1; rw[h0] at zh0; simp only[post83_0,length_map,length_set,length_append,length_replicate,length_cons,length_nil,Int.toNat_natCast] at zh0
    have f0:=Eq.refl (h83_0 a0 a1 0 a0 a1)
    exact cq [true] ya (.f f0 (.f (ev_ (e:=ex83_0) (g:=(fin83_0 a0 a1)) h0 (t83_0 (a0:=a0) (a1:=a1) (by assumption) (by assumption) a0 [] a0 a1 rfl yR (by rfl))) (.f (pureR_N w0_0) (.h 4 (.loop (h83_0 a0 a1 0 a0 a1) (.exit 0) ⟨[(0,(.one (.ref ⟨(0,0,0),[],0,(length (map d_N a0))⟩))),(1,(.oi w1_0)),(5,(.oi w2_0)),(9,(.one (.val (.bool w3_0))))],[((0,0,0),.live ⟨3,(map d_N w0_0),[]⟩)]⟩) .nil))))
theorem ow83_0 (a0:List K_N):∀(l p:List K_N) (v1:Int),(∀z∈l,ok_N z)→∃(q:List K_N) (w1:_) (w2:_) (w3:_),r83_0 a0 l (p.length:Int) (p++l) v1=.k0 (p++q) w1 w2 w3∧q.length=l.length∧∀z∈q,ok_N z
  |[],p,v1,_=>⟨[],v1,(p.length:Int),(decide ((p.length:Int) <((length (map d_N a0)):Int))),rfl,rfl,fun z h=>by cases h⟩
  |x0::l,p,v1,h=>by
    obtain⟨q,w1,w2,w3,e1,e2,e3⟩:=ow83_0 a0 l (p++ [(K_N.mk v1 (wrap .i64 (v1+1)) (o112_0 x0.f2 (wrap .i64 ((wrap .i64 (v1+1))+1))))]) (m112 x0.f2 (wrap .i64 ((wrap .i64 (v1+1))+1))) (fun z hz=>h z (List.mem_cons_of_mem _ hz))
    refine⟨(K_N.mk v1 (wrap .i64 (v1+1)) (o112_0 x0.f2 (wrap .i64 ((wrap .i64 (v1+1))+1))))::q,w1,w2,w3,?_,by simp[e2],?_⟩
    · have e:set (p++x0::l) (toNat (p.length:Int)) (K_N.mk v1 (wrap .i64 (v1+1)) (o112_0 x0.f2 (wrap .i64 ((wrap .i64 (v1+1))+1))))=(p++ [(K_N.mk v1 (wrap .i64 (v1+1)) (o112_0 x0.f2 (wrap .i64 ((wrap .i64 (v1+1))+1))))])++l:=by simp
      have e0:((p++ [(K_N.mk v1 (wrap .i64 (v1+1)) (o112_0 x0.f2 (wrap .i64 ((wrap .i64 (v1+1))+1))))]).length:Int)=(p.length:Int)+1:=by simp
      rw[e0] at e1
      simp only[r83_0]
      first |(rw[e,e1]; simp; done) |(simp only[e,e1]; simp; done)
    · intro z hz
      rcases List.mem_cons.1 hz with rfl | hz
      · have hx:=h x0 (List.mem_cons_self ..)
        simp only[ok_N] at hx⊢
        simp only[length_map,ol112] at hx⊢
        first | exact hx |(simp_all [ol112]; done) |(obtain⟨_,_⟩:=hx; refine⟨?_,?_⟩<;>simp_all [ol112]; done) | exact(by first | exact hx |(simpa using hx))
      · exact e3 z hz

theorem ov83_0 (a0:List K_N):∀(l p:List K_N) (v1:Int),∃(q:List K_N) (w1:_) (w2:_) (w3:_),r83_0 a0 l (p.length:Int) (p++l) v1=.k0 (p++q) w1 w2 w3∧q.length=l.length
  |[],p,v1=>⟨[],v1,(p.length:Int),(decide ((p.length:Int) <((length (map d_N a0)):Int))),rfl,rfl⟩
  |x0::l,p,v1=>by
    obtain⟨q,w1,w2,w3,e1,e2⟩:=ov83_0 a0 l (p++ [(K_N.mk v1 (wrap .i64 (v1+1)) (o112_0 x0.f2 (wrap .i64 ((wrap .i64 (v1+1))+1))))]) (m112 x0.f2 (wrap .i64 ((wrap .i64 (v1+1))+1)))
    refine⟨(K_N.mk v1 (wrap .i64 (v1+1)) (o112_0 x0.f2 (wrap .i64 ((wrap .i64 (v1+1))+1))))::q,w1,w2,w3,?_,by simp[e2]⟩
    · have e:set (p++x0::l) (toNat (p.length:Int)) (K_N.mk v1 (wrap .i64 (v1+1)) (o112_0 x0.f2 (wrap .i64 ((wrap .i64 (v1+1))+1))))=(p++ [(K_N.mk v1 (wrap .i64 (v1+1)) (o112_0 x0.f2 (wrap .i64 ((wrap .i64 (v1+1))+1))))])++l:=by simp
      have e0:((p++ [(K_N.mk v1 (wrap .i64 (v1+1)) (o112_0 x0.f2 (wrap .i64 ((wrap .i64 (v1+1))+1))))]).length:Int)=(p.length:Int)+1:=by simp
      rw[e0] at e1
      simp only[r83_0]
      first |(rw[e,e1]; simp; done) |(simp only[e,e1]; simp; done)
theorem ol83 (a:List K_N) (k:Int):(o83_0 a k).length=a.length:=by
  obtain⟨q,w1,w2,w3,e1,e2⟩:=ov83_0 a a [] k
  simp only[List.nil_append,length_nil] at e1
  rw[show ((0:Nat):Int)=0 from rfl] at e1
  unfold o83_0
  rw[e1]; exact e2
theorem oo83 (a:List K_N) (k:Int) (h:∀z∈a,ok_N z):∀z∈o83_0 a k,ok_N z:=by
  obtain⟨q,w1,w2,w3,e1,e2,e3⟩:=ow83_0 a a [] k h
  simp only[List.nil_append,length_nil] at e1
  rw[show ((0:Nat):Int)=0 from rfl] at e1
  unfold o83_0
  rw[e1]; exact e3
/-! loop 84_0 -/
inductive O84_0 where
  |k0 (w0:List K_U) (w1:Int) (w2:Int) (w3:Bool)
def r84_0 (a0:(List K_U)):List K_U→Int→List K_U→Int→O84_0
  |x0::y0,i,v0,v1=>
    (r84_0 a0 y0 (i+1) (set v0 (toNat i) (K_U.mk v1 (o112_0 x0.f1 (wrap .i64 (v1+1))))) (m112 x0.f1 (wrap .i64 (v1+1))))
  |[],i,v0,v1=>(O84_0.k0 v0 v1 i (decide (i <((length (map d_U a0)):Int))))
def h84_0 (a0:(List K_U)) (a1:Int) (i:Int) (v0:List K_U) (v1:Int):St:=⟨[(0,(.one (.ref ⟨(0,0,0),[],0,(length (map d_U a0))⟩))),(1,(.one (.val (.int .i64 v1)))),(5,(.one (.val (.int .i64 i))))],[((0,0,0),.live ⟨2,(map d_U v0),[]⟩)]⟩
def ex84_0:O84_0→VX.Exit
  |.k0 _ _ _ _=>(.exit 0)
def fin84_0 (a0:(List K_U)) (a1:Int):O84_0→St
  |.k0 w0 w1 w2 w3=>⟨[(0,(.one (.ref ⟨(0,0,0),[],0,(length (map d_U a0))⟩))),(1,(.one (.val (.int .i64 w1)))),(5,(.one (.val (.int .i64 w2)))),(9,(.one (.val (.bool w3))))],[((0,0,0),.live ⟨2,(map d_U w0),[]⟩)]⟩
theorem t84_0 {a0:(List K_U)} {a1:Int} (hy0:length a0*32≤140737488351232) (hy1:∀z∈a0,ok_U z):∀(y0:List K_U) (p:List K_U) (v0:List K_U) (v1:Int),p++y0=a0→length v0=(length (map d_U a0))→drop (length p) v0=y0→Ev F X (.code l84_0 (h84_0 a0 a1 (length p:Int) v0 v1) (ex84_0 (r84_0 a0 y0 (length p:Int) v0 v1)) (fin84_0 a0 a1 (r84_0 a0 y0 (length p:Int) v0 v1)))
  |[],p,v0,v1,hp0,hi0,hi1=>by
    have hc:=hcn d_U hp0
    have hj0:=hi0; try simp only[LN,Int.toNat_natCast] at hj0
    have hj1:=hi1; try simp only[LN,Int.toNat_natCast] at hj1
    exact lx 9 ya (.f (nt hc) (.h 8 (.b false) .nil)) rfl
  |x0::y0,p,v0,v1,hp0,hi0,hi1=>by
    have hc:=hcy d_U hp0
    have Hx0:=hxy hp0
    have Mx0_0:=hy1 x0 (List.mem_of_getElem? Hx0)
    have hlen:=hly hp0
    have hw:wrap .i64 ((length p:Int)+1)=(length p:Int)+1:=wrap64 yb
    have hj0:=hi0; try simp only[LN,Int.toNat_natCast] at hj0
    have hj1:=hi1; try simp only[LN,Int.toNat_natCast] at hj1
    have Hv0:v0[toNat (length p:Int)]?=some x0:=by rw[Int.toNat_natCast]; exact drop_at hi1
    simp only[r84_0]
    have f1:0+(length (map d_U a0))≤(length (map d_U v0)):=yu
    have f2:0≤(length p:Int)∧(length p:Int) <((length (map d_U a0)):Int):=yb
    have f4:(set (map d_U v0) (0+(toNat (length p:Int))) [(.i v1),(.own 1 (map d_i x0.f1))])=(map d_U (set v0 (toNat (length p:Int)) (K_U.mk v1 x0.f1))):=(by simp[take_of_length_le,d_i,d_U,ol112,ol83]; done)
    have f6:0+(length (map d_U a0))≤(length (map d_U (set v0 (toNat (length p:Int)) (K_U.mk v1 x0.f1)))):=yF
    have f8:(map d_U (set v0 (toNat (length p:Int)) (K_U.mk v1 x0.f1)))[(0+(toNat (length p:Int)))]?=some [(.i v1),(.own 1 (map d_i x0.f1))]:=ym
    have f9:nav 2 (map d_U (set v0 (toNat (length p:Int)) (K_U.mk v1 x0.f1))) [((0+(toNat (length p:Int))),1)]=some (1,(map d_i x0.f1)):=yz
    have f12:undirt [((0+(toNat (length p:Int))),1)] [([((0+(toNat (length p:Int))),1)],false)]=[([((0+(toNat (length p:Int))),1)],true)]:=(by simp[undirt])
    have f13:(setCell (setCell (map d_U (set v0 (toNat (length p:Int)) (K_U.mk v1 x0.f1))) [((0+(toNat (length p:Int))),1)] (.hole (lenAt ⟨2,(map d_U (set v0 (toNat (length p:Int)) (K_U.mk v1 x0.f1))),[]⟩ [((0+(toNat (length p:Int))),1)]))) [((0+(toNat (length p:Int))),1)] (.own 1 (map d_i (o112_0 x0.f1 (wrap .i64 (v1+1))))))=(map d_U (set v0 (toNat (length p:Int)) (K_U.mk v1 (o112_0 x0.f1 (wrap .i64 (v1+1)))))):=(by rw[setCell2At (i:=(0+(toNat (length p:Int)))) (j:=1) (row:=[(.i v1),(.own 1 (map d_i x0.f1))]) ym]; first | rfl |(simp[take_of_length_le,d_i,d_N,d_U,d_T,d_J,d_JL,d_b,d_JR,d_G,d_TL,d_LiE,d_NL,d_UL,d_y,d_LyE,d_LLyEE,ol112,ol83,byteRows_eq,ints_y]; done) |(simp[map_set,take_of_length_le,d_i,d_N,d_U,d_T,d_J,d_JL,d_b,d_JR,d_G,d_TL,d_LiE,d_NL,d_UL,d_y,d_LyE,d_LLyEE,ol112,ol83,byteRows_eq,ints_y]; done))
    have ih:=t84_0 (a0:=a0) (a1:=a1) hy0 hy1 y0 (p++ [x0]) (set v0 (toNat (length p:Int)) (K_U.mk v1 (o112_0 x0.f1 (wrap .i64 (v1+1))))) (m112 x0.f1 (wrap .i64 (v1+1))) ye yq yD
    rw[pl1,← hw] at ih; rw[← hw]
    exact ly 51 ya (.f hc (.f f1 (.f f2 (.f (mz_ d_U Hv0) (.f f4 (.f trivial (.f f6 (.f f2 (.f f8 (.f f9 (.f (pureR_i x0.f1) (.h 8 (.b true) (.h 20 (.rowD (d_U x0)) (.h 21 (.norm (0,0,0) (map d_U (set v0 (toNat (length p:Int)) (K_U.mk v1 x0.f1)))) (.h 37 (.rowD [(.i v1),(.own 1 (map d_i x0.f1))]) (.rn 41 [((0,0,0),[1],1,(map d_i x0.f1))] [[([((0+(toNat (length p:Int))),1)],true)]] [true] [] (e112 (a0:=x0.f1) (a1:=(wrap .i64 (v1+1))) (by assumption)) (.f f12 (.f f13 (.f trivial (.h 44 (.norm (0,0,0) (map d_U (set v0 (toNat (length p:Int)) (K_U.mk v1 (o112_0 x0.f1 (wrap .i64 (v1+1))))))) .nil)))))))))))))))))))) ih
def post84_0 (n0:Nat):O84_0→Prop
  |.k0 w0 _ _ _=>length w0=n0
theorem z84_0 {a0:(List K_U)}:∀(y0:List K_U) (i:Int) (v0:List K_U) (v1:Int),post84_0 (length v0) (r84_0 a0 y0 i v0 v1)
  |[],i,v0,v1=>by
    first | trivial |(simp only[post84_0,length_nil,Nat.add_zero]; done) |(simp[post84_0]; done)
  |x0::y0,i,v0,v1=>by
    simp only[r84_0]
    have z:=z84_0 (a0:=a0) y0 (i+1) (set v0 (toNat i) (K_U.mk v1 (o112_0 x0.f1 (wrap .i64 (v1+1))))) (m112 x0.f1 (wrap .i64 (v1+1)))
    rw[show (length v0)=(length (set v0 (toNat i) (K_U.mk v1 (o112_0 x0.f1 (wrap .i64 (v1+1)))))) from by first | omega |(simp only[LN]; done) |(simp only[LN]; omega)]
    exact z
/-! loop.example/g00539/laws.markOutS -/
def o84_0 (a0:(List K_U)) (a1:Int):List K_U:=
  (match r84_0 a0 a0 0 a0 a1 with | .k0 w0_0 w1_0 w2_0 w3_0=>w0_0)
def m84 (a0:(List K_U)) (a1:Int):Int:=
  (match r84_0 a0 a0 0 a0 a1 with | .k0 w0_0 w1_0 w2_0 w3_0=>w1_0)
theorem e84 {a0:(List K_U)} {a1:Int} (hy0:length a0*32≤140737488351232) (hy1:∀z∈a0,ok_U z):Ev F X (.call 84 [(.one (.ref ⟨(0,0,0),[],0,(length (map d_U a0))⟩)),(.one (.val (.int .i64 a1)))] [((0,0,0),⟨2,(map d_U a0),[]⟩)] [(map d_U (o84_0 a0 a1))] [(.one (.val (.int .i64 (m84 a0 a1))))]):=by
  unfold m84 o84_0
  cases h0:r84_0 a0 a0 0 a0 a1 with
  |k0 w0_0 w1_0 w2_0 w3_0=>
    try dsimp only
    have zh0:=z84_0 (a0:=a0) a0 0 a0 a1; rw[h0] at zh0; simp only[post84_0,length_map,length_set,length_append,length_replicate,length_cons,length_nil,Int.toNat_natCast] at zh0
    have f0:=Eq.refl (h84_0 a0 a1 0 a0 a1)
    exact cq [true] ya (.f f0 (.f (ev_ (e:=ex84_0) (g:=(fin84_0 a0 a1)) h0 (t84_0 (a0:=a0) (a1:=a1) (by assumption) (by assumption) a0 [] a0 a1 rfl yR (by rfl))) (.f (pureR_U w0_0) (.h 4 (.loop (h84_0 a0 a1 0 a0 a1) (.exit 0) ⟨[(0,(.one (.ref ⟨(0,0,0),[],0,(length (map d_U a0))⟩))),(1,(.oi w1_0)),(5,(.oi w2_0)),(9,(.one (.val (.bool w3_0))))],[((0,0,0),.live ⟨2,(map d_U w0_0),[]⟩)]⟩) .nil))))
theorem ow84_0 (a0:List K_U):∀(l p:List K_U) (v1:Int),(∀z∈l,ok_U z)→∃(q:List K_U) (w1:_) (w2:_) (w3:_),r84_0 a0 l (p.length:Int) (p++l) v1=.k0 (p++q) w1 w2 w3∧q.length=l.length∧∀z∈q,ok_U z
  |[],p,v1,_=>⟨[],v1,(p.length:Int),(decide ((p.length:Int) <((length (map d_U a0)):Int))),rfl,rfl,fun z h=>by cases h⟩
  |x0::l,p,v1,h=>by
    obtain⟨q,w1,w2,w3,e1,e2,e3⟩:=ow84_0 a0 l (p++ [(K_U.mk v1 (o112_0 x0.f1 (wrap .i64 (v1+1))))]) (m112 x0.f1 (wrap .i64 (v1+1))) (fun z hz=>h z (List.mem_cons_of_mem _ hz))
    refine⟨(K_U.mk v1 (o112_0 x0.f1 (wrap .i64 (v1+1))))::q,w1,w2,w3,?_,by simp[e2],?_⟩
    · have e:set (p++x0::l) (toNat (p.length:Int)) (K_U.mk v1 (o112_0 x0.f1 (wrap .i64 (v1+1))))=(p++ [(K_U.mk v1 (o112_0 x0.f1 (wrap .i64 (v1+1))))])++l:=by simp
      have e0:((p++ [(K_U.mk v1 (o112_0 x0.f1 (wrap .i64 (v1+1))))]).length:Int)=(p.length:Int)+1:=by simp
      rw[e0] at e1
      simp only[r84_0]
      first |(rw[e,e1]; simp; done) |(simp only[e,e1]; simp; done)
    · intro z hz
      rcases List.mem_cons.1 hz with rfl | hz
      · have hx:=h x0 (List.mem_cons_self ..)
        simp only[ok_U] at hx⊢
        simp only[length_map,ol112] at hx⊢
        first | exact hx |(simp_all [ol112]; done) |(obtain⟨_,_⟩:=hx; refine⟨?_,?_⟩<;>simp_all [ol112]; done) | exact(by first | exact hx |(simpa using hx))
      · exact e3 z hz

theorem ov84_0 (a0:List K_U):∀(l p:List K_U) (v1:Int),∃(q:List K_U) (w1:_) (w2:_) (w3:_),r84_0 a0 l (p.length:Int) (p++l) v1=.k0 (p++q) w1 w2 w3∧q.length=l.length
  |[],p,v1=>⟨[],v1,(p.length:Int),(decide ((p.length:Int) <((length (map d_U a0)):Int))),rfl,rfl⟩
  |x0::l,p,v1=>by
    obtain⟨q,w1,w2,w3,e1,e2⟩:=ov84_0 a0 l (p++ [(K_U.mk v1 (o112_0 x0.f1 (wrap .i64 (v1+1))))]) (m112 x0.f1 (wrap .i64 (v1+1)))
    refine⟨(K_U.mk v1 (o112_0 x0.f1 (wrap .i64 (v1+1))))::q,w1,w2,w3,?_,by simp[e2]⟩
    · have e:set (p++x0::l) (toNat (p.length:Int)) (K_U.mk v1 (o112_0 x0.f1 (wrap .i64 (v1+1))))=(p++ [(K_U.mk v1 (o112_0 x0.f1 (wrap .i64 (v1+1))))])++l:=by simp
      have e0:((p++ [(K_U.mk v1 (o112_0 x0.f1 (wrap .i64 (v1+1))))]).length:Int)=(p.length:Int)+1:=by simp
      rw[e0] at e1
      simp only[r84_0]
      first |(rw[e,e1]; simp; done) |(simp only[e,e1]; simp; done)
theorem ol84 (a:List K_U) (k:Int):(o84_0 a k).length=a.length:=by
  obtain⟨q,w1,w2,w3,e1,e2⟩:=ov84_0 a a [] k
  simp only[List.nil_append,length_nil] at e1
  rw[show ((0:Nat):Int)=0 from rfl] at e1
  unfold o84_0
  rw[e1]; exact e2
theorem oo84 (a:List K_U) (k:Int) (h:∀z∈a,ok_U z):∀z∈o84_0 a k,ok_U z:=by
  obtain⟨q,w1,w2,w3,e1,e2,e3⟩:=ow84_0 a a [] k h
  simp only[List.nil_append,length_nil] at e1
  rw[show ((0:Nat):Int)=0 from rfl] at e1
  unfold o84_0
  rw[e1]; exact e3
/-! loop 51_0 -/
inductive O51_0 where
  |k0 (w0:List K_T) (w1:Int) (w2:Int) (w3:Bool)
def r51_0 (a0:(List K_T)):List K_T→Int→List K_T→Int→O51_0
  |x0::y0,i,v0,v1=>
    (r51_0 a0 y0 (i+1) (set v0 (toNat i) (K_T.mk v1 (o83_0 x0.f1 (wrap .i64 (v1+1))) (o84_0 x0.f2 (m83 x0.f1 (wrap .i64 (v1+1)))))) (m84 x0.f2 (m83 x0.f1 (wrap .i64 (v1+1)))))
  |[],i,v0,v1=>(O51_0.k0 v0 v1 i (decide (i <((length (map d_T a0)):Int))))
def h51_0 (a0:(List K_T)) (a1:Int) (i:Int) (v0:List K_T) (v1:Int):St:=⟨[(0,(.one (.ref ⟨(0,0,0),[],0,(length (map d_T a0))⟩))),(1,(.one (.val (.int .i64 v1)))),(5,(.one (.val (.int .i64 i))))],[((0,0,0),.live ⟨3,(map d_T v0),[]⟩)]⟩
def ex51_0:O51_0→VX.Exit
  |.k0 _ _ _ _=>(.exit 0)
def fin51_0 (a0:(List K_T)) (a1:Int):O51_0→St
  |.k0 w0 w1 w2 w3=>⟨[(0,(.one (.ref ⟨(0,0,0),[],0,(length (map d_T a0))⟩))),(1,(.one (.val (.int .i64 w1)))),(5,(.one (.val (.int .i64 w2)))),(9,(.one (.val (.bool w3))))],[((0,0,0),.live ⟨3,(map d_T w0),[]⟩)]⟩
theorem t51_0 {a0:(List K_T)} {a1:Int} (hy0:length a0*56≤140737488351232) (hy1:∀z∈a0,ok_T z):∀(y0:List K_T) (p:List K_T) (v0:List K_T) (v1:Int),p++y0=a0→length v0=(length (map d_T a0))→drop (length p) v0=y0→Ev F X (.code l51_0 (h51_0 a0 a1 (length p:Int) v0 v1) (ex51_0 (r51_0 a0 y0 (length p:Int) v0 v1)) (fin51_0 a0 a1 (r51_0 a0 y0 (length p:Int) v0 v1)))
  |[],p,v0,v1,hp0,hi0,hi1=>by
    have hc:=hcn d_T hp0
    have hj0:=hi0; try simp only[LN,Int.toNat_natCast] at hj0
    have hj1:=hi1; try simp only[LN,Int.toNat_natCast] at hj1
    exact lx 9 ya (.f (nt hc) (.h 8 (.b false) .nil)) rfl
  |x0::y0,p,v0,v1,hp0,hi0,hi1=>by
    have hc:=hcy d_T hp0
    have Hx0:=hxy hp0
    obtain⟨Mx0_0,Mx0_1,Mx0_2,Mx0_3⟩:=hy1 x0 (List.mem_of_getElem? Hx0)
    have hlen:=hly hp0
    have hw:wrap .i64 ((length p:Int)+1)=(length p:Int)+1:=wrap64 yb
    have hj0:=hi0; try simp only[LN,Int.toNat_natCast] at hj0
    have hj1:=hi1; try simp only[LN,Int.toNat_natCast] at hj1
    have Hv0:v0[toNat (length p:Int)]?=some x0:=by rw[Int.toNat_natCast]; exact drop_at hi1
    simp only[r51_0]
    have f1:0+(length (map d_T a0))≤(length (map d_T v0)):=yu
    have f2:0≤(length p:Int)∧(length p:Int) <((length (map d_T a0)):Int):=yb
    have f4:(set (map d_T v0) (0+(toNat (length p:Int))) [(.i v1),(.own 3 (map d_N x0.f1)),(.own 2 (map d_U x0.f2))])=(map d_T (set v0 (toNat (length p:Int)) (K_T.mk v1 x0.f1 x0.f2))):=(by simp[take_of_length_le,d_N,d_U,d_T,ol112,ol83,ol84]; done)
    have f6:0+(length (map d_T a0))≤(length (map d_T (set v0 (toNat (length p:Int)) (K_T.mk v1 x0.f1 x0.f2)))):=yF
    have f8:(map d_T (set v0 (toNat (length p:Int)) (K_T.mk v1 x0.f1 x0.f2)))[(0+(toNat (length p:Int)))]?=some [(.i v1),(.own 3 (map d_N x0.f1)),(.own 2 (map d_U x0.f2))]:=ym
    have f9:nav 3 (map d_T (set v0 (toNat (length p:Int)) (K_T.mk v1 x0.f1 x0.f2))) [((0+(toNat (length p:Int))),1)]=some (3,(map d_N x0.f1)):=yz
    have f12:undirt [((0+(toNat (length p:Int))),1)] [([((0+(toNat (length p:Int))),1)],false)]=[([((0+(toNat (length p:Int))),1)],true)]:=(by simp[undirt])
    have f13:(setCell (setCell (map d_T (set v0 (toNat (length p:Int)) (K_T.mk v1 x0.f1 x0.f2))) [((0+(toNat (length p:Int))),1)] (.hole (lenAt ⟨3,(map d_T (set v0 (toNat (length p:Int)) (K_T.mk v1 x0.f1 x0.f2))),[]⟩ [((0+(toNat (length p:Int))),1)]))) [((0+(toNat (length p:Int))),1)] (.own 3 (map d_N (o83_0 x0.f1 (wrap .i64 (v1+1))))))=(map d_T (set v0 (toNat (length p:Int)) (K_T.mk v1 (o83_0 x0.f1 (wrap .i64 (v1+1))) x0.f2))):=(by rw[setCell2At (i:=(0+(toNat (length p:Int)))) (j:=1) (row:=[(.i v1),(.own 3 (map d_N x0.f1)),(.own 2 (map d_U x0.f2))]) ym]; first | rfl |(simp[take_of_length_le,d_i,d_N,d_U,d_T,d_J,d_JL,d_b,d_JR,d_G,d_TL,d_LiE,d_NL,d_UL,d_y,d_LyE,d_LLyEE,ol112,ol83,ol84,byteRows_eq,ints_y]; done) |(simp[map_set,take_of_length_le,d_i,d_N,d_U,d_T,d_J,d_JL,d_b,d_JR,d_G,d_TL,d_LiE,d_NL,d_UL,d_y,d_LyE,d_LLyEE,ol112,ol83,ol84,byteRows_eq,ints_y]; done))
    have f14:0+(length (map d_T a0))≤(length (map d_T (set v0 (toNat (length p:Int)) (K_T.mk v1 (o83_0 x0.f1 (wrap .i64 (v1+1))) x0.f2)))):=yF
    have f16:(map d_T (set v0 (toNat (length p:Int)) (K_T.mk v1 (o83_0 x0.f1 (wrap .i64 (v1+1))) x0.f2)))[(0+(toNat (length p:Int)))]?=some [(.i v1),(.own 3 (map d_N (o83_0 x0.f1 (wrap .i64 (v1+1))))),(.own 2 (map d_U x0.f2))]:=ym
    have f17:nav 3 (map d_T (set v0 (toNat (length p:Int)) (K_T.mk v1 (o83_0 x0.f1 (wrap .i64 (v1+1))) x0.f2))) [((0+(toNat (length p:Int))),2)]=some (2,(map d_U x0.f2)):=yz
    have f20:undirt [((0+(toNat (length p:Int))),2)] [([((0+(toNat (length p:Int))),2)],false)]=[([((0+(toNat (length p:Int))),2)],true)]:=(by simp[undirt])
    have f21:(setCell (setCell (map d_T (set v0 (toNat (length p:Int)) (K_T.mk v1 (o83_0 x0.f1 (wrap .i64 (v1+1))) x0.f2))) [((0+(toNat (length p:Int))),2)] (.hole (lenAt ⟨3,(map d_T (set v0 (toNat (length p:Int)) (K_T.mk v1 (o83_0 x0.f1 (wrap .i64 (v1+1))) x0.f2))),[]⟩ [((0+(toNat (length p:Int))),2)]))) [((0+(toNat (length p:Int))),2)] (.own 2 (map d_U (o84_0 x0.f2 (m83 x0.f1 (wrap .i64 (v1+1)))))))=(map d_T (set v0 (toNat (length p:Int)) (K_T.mk v1 (o83_0 x0.f1 (wrap .i64 (v1+1))) (o84_0 x0.f2 (m83 x0.f1 (wrap .i64 (v1+1))))))):=(by rw[setCell2At (i:=(0+(toNat (length p:Int)))) (j:=2) (row:=[(.i v1),(.own 3 (map d_N (o83_0 x0.f1 (wrap .i64 (v1+1))))),(.own 2 (map d_U x0.f2))]) ym]; first | rfl |(simp[take_of_length_le,d_i,d_N,d_U,d_T,d_J,d_JL,d_b,d_JR,d_G,d_TL,d_LiE,d_NL,d_UL,d_y,d_LyE,d_LLyEE,ol112,ol83,ol84,byteRows_eq,ints_y]; done) |(simp[map_set,take_of_length_le,d_i,d_N,d_U,d_T,d_J,d_JL,d_b,d_JR,d_G,d_TL,d_LiE,d_NL,d_UL,d_y,d_LyE,d_LLyEE,ol112,ol83,ol84,byteRows_eq,ints_y]; done))
    have ih:=t51_0 (a0:=a0) (a1:=a1) hy0 hy1 y0 (p++ [x0]) (set v0 (toNat (length p:Int)) (K_T.mk v1 (o83_0 x0.f1 (wrap .i64 (v1+1))) (o84_0 x0.f2 (m83 x0.f1 (wrap .i64 (v1+1)))))) (m84 x0.f2 (m83 x0.f1 (wrap .i64 (v1+1)))) ye yq yD
    rw[pl1,← hw] at ih; rw[← hw]
    exact ly 68 ya (.f hc (.f f1 (.f f2 (.f (mz_ d_T Hv0) (.f f4 (.f trivial (.f f6 (.f f2 (.f f8 (.f f9 (.f (pureR_N x0.f1) (.h 8 (.b true) (.h 20 (.rowD (d_T x0)) (.h 21 (.norm (0,0,0) (map d_T (set v0 (toNat (length p:Int)) (K_T.mk v1 x0.f1 x0.f2)))) (.h 37 (.rowD [(.i v1),(.own 3 (map d_N x0.f1)),(.own 2 (map d_U x0.f2))]) (.rn 41 [((0,0,0),[1],3,(map d_N x0.f1))] [[([((0+(toNat (length p:Int))),1)],true)]] [true] [] (e83 (a0:=x0.f1) (a1:=(wrap .i64 (v1+1))) ‹_› ‹_›) (.f f12 (.f f13 (.f f14 (.f f2 (.f f16 (.f f17 (.f (pureR_U x0.f2) (.h 44 (.norm (0,0,0) (map d_T (set v0 (toNat (length p:Int)) (K_T.mk v1 (o83_0 x0.f1 (wrap .i64 (v1+1))) x0.f2)))) (.h 54 (.rowD [(.i v1),(.own 3 (map d_N (o83_0 x0.f1 (wrap .i64 (v1+1))))),(.own 2 (map d_U x0.f2))]) (.rn 58 [((0,0,0),[2],2,(map d_U x0.f2))] [[([((0+(toNat (length p:Int))),2)],true)]] [true] [] (e84 (a0:=x0.f2) (a1:=(m83 x0.f1 (wrap .i64 (v1+1)))) ‹_› ‹_›) (.f f20 (.f f21 (.f trivial (.h 61 (.norm (0,0,0) (map d_T (set v0 (toNat (length p:Int)) (K_T.mk v1 (o83_0 x0.f1 (wrap .i64 (v1+1))) (o84_0 x0.f2 (m83 x0.f1 (wrap .i64 (v1+1)))))))) .nil)))))))))))))))))))))))))))))) ih
def post51_0 (n0:Nat):O51_0→Prop
  |.k0 w0 _ _ _=>length w0=n0
theorem z51_0 {a0:(List K_T)}:∀(y0:List K_T) (i:Int) (v0:List K_T) (v1:Int),post51_0 (length v0) (r51_0 a0 y0 i v0 v1)
  |[],i,v0,v1=>by
    first | trivial |(simp only[post51_0,length_nil,Nat.add_zero]; done) |(simp[post51_0]; done)
  |x0::y0,i,v0,v1=>by
    simp only[r51_0]
    have z:=z51_0 (a0:=a0) y0 (i+1) (set v0 (toNat i) (K_T.mk v1 (o83_0 x0.f1 (wrap .i64 (v1+1))) (o84_0 x0.f2 (m83 x0.f1 (wrap .i64 (v1+1)))))) (m84 x0.f2 (m83 x0.f1 (wrap .i64 (v1+1))))
    rw[show (length v0)=(length (set v0 (toNat i) (K_T.mk v1 (o83_0 x0.f1 (wrap .i64 (v1+1))) (o84_0 x0.f2 (m83 x0.f1 (wrap .i64 (v1+1))))))) from by first | omega |(simp only[LN]; done) |(simp only[LN]; omega)]
    exact z
/-! loop.example/g00539/laws.markTxS -/
def o51_0 (a0:(List K_T)) (a1:Int):List K_T:=
  (match r51_0 a0 a0 0 a0 a1 with | .k0 w0_0 w1_0 w2_0 w3_0=>w0_0)
def m51 (a0:(List K_T)) (a1:Int):Int:=
  (match r51_0 a0 a0 0 a0 a1 with | .k0 w0_0 w1_0 w2_0 w3_0=>w1_0)
theorem e51 {a0:(List K_T)} {a1:Int} (hy0:length a0*56≤140737488351232) (hy1:∀z∈a0,ok_T z):Ev F X (.call 51 [(.one (.ref ⟨(0,0,0),[],0,(length (map d_T a0))⟩)),(.one (.val (.int .i64 a1)))] [((0,0,0),⟨3,(map d_T a0),[]⟩)] [(map d_T (o51_0 a0 a1))] [(.one (.val (.int .i64 (m51 a0 a1))))]):=by
  unfold m51 o51_0
  cases h0:r51_0 a0 a0 0 a0 a1 with
  |k0 w0_0 w1_0 w2_0 w3_0=>
    try dsimp only
    have zh0:=z51_0 (a0:=a0) a0 0 a0 a1; rw[h0] at zh0; simp only[post51_0,length_map,length_set,length_append,length_replicate,length_cons,length_nil,Int.toNat_natCast] at zh0
    have f0:=Eq.refl (h51_0 a0 a1 0 a0 a1)
    exact cq [true] ya (.f f0 (.f (ev_ (e:=ex51_0) (g:=(fin51_0 a0 a1)) h0 (t51_0 (a0:=a0) (a1:=a1) (by assumption) (by assumption) a0 [] a0 a1 rfl yR (by rfl))) (.f (pureR_T w0_0) (.h 4 (.loop (h51_0 a0 a1 0 a0 a1) (.exit 0) ⟨[(0,(.one (.ref ⟨(0,0,0),[],0,(length (map d_T a0))⟩))),(1,(.oi w1_0)),(5,(.oi w2_0)),(9,(.one (.val (.bool w3_0))))],[((0,0,0),.live ⟨3,(map d_T w0_0),[]⟩)]⟩) .nil))))
theorem ow51_0 (a0:List K_T):∀(l p:List K_T) (v1:Int),(∀z∈l,ok_T z)→∃(q:List K_T) (w1:_) (w2:_) (w3:_),r51_0 a0 l (p.length:Int) (p++l) v1=.k0 (p++q) w1 w2 w3∧q.length=l.length∧∀z∈q,ok_T z
  |[],p,v1,_=>⟨[],v1,(p.length:Int),(decide ((p.length:Int) <((length (map d_T a0)):Int))),rfl,rfl,fun z h=>by cases h⟩
  |x0::l,p,v1,h=>by
    obtain⟨q,w1,w2,w3,e1,e2,e3⟩:=ow51_0 a0 l (p++ [(K_T.mk v1 (o83_0 x0.f1 (wrap .i64 (v1+1))) (o84_0 x0.f2 (m83 x0.f1 (wrap .i64 (v1+1)))))]) (m84 x0.f2 (m83 x0.f1 (wrap .i64 (v1+1)))) (fun z hz=>h z (List.mem_cons_of_mem _ hz))
    refine⟨(K_T.mk v1 (o83_0 x0.f1 (wrap .i64 (v1+1))) (o84_0 x0.f2 (m83 x0.f1 (wrap .i64 (v1+1)))))::q,w1,w2,w3,?_,by simp[e2],?_⟩
    · have e:set (p++x0::l) (toNat (p.length:Int)) (K_T.mk v1 (o83_0 x0.f1 (wrap .i64 (v1+1))) (o84_0 x0.f2 (m83 x0.f1 (wrap .i64 (v1+1)))))=(p++ [(K_T.mk v1 (o83_0 x0.f1 (wrap .i64 (v1+1))) (o84_0 x0.f2 (m83 x0.f1 (wrap .i64 (v1+1)))))])++l:=by simp
      have e0:((p++ [(K_T.mk v1 (o83_0 x0.f1 (wrap .i64 (v1+1))) (o84_0 x0.f2 (m83 x0.f1 (wrap .i64 (v1+1)))))]).length:Int)=(p.length:Int)+1:=by simp
      rw[e0] at e1
      simp only[r51_0]
      first |(rw[e,e1]; simp; done) |(simp only[e,e1]; simp; done)
    · intro z hz
      rcases List.mem_cons.1 hz with rfl | hz
      · have hx:=h x0 (List.mem_cons_self ..)
        simp only[ok_T] at hx⊢
        simp only[length_map,ol83,ol84,oo83,oo84] at hx⊢
        first | exact hx |(simp_all [ol83,ol84,oo83,oo84]; done) |(obtain⟨_,_⟩:=hx; refine⟨?_,?_⟩<;>simp_all [ol83,ol84,oo83,oo84]; done) | exact⟨(by exact hx.1),(by exact oo83 _ _ hx.2.1),(by exact hx.2.2.1),(by exact oo84 _ _ hx.2.2.2)⟩
      · exact e3 z hz

theorem ov51_0 (a0:List K_T):∀(l p:List K_T) (v1:Int),∃(q:List K_T) (w1:_) (w2:_) (w3:_),r51_0 a0 l (p.length:Int) (p++l) v1=.k0 (p++q) w1 w2 w3∧q.length=l.length
  |[],p,v1=>⟨[],v1,(p.length:Int),(decide ((p.length:Int) <((length (map d_T a0)):Int))),rfl,rfl⟩
  |x0::l,p,v1=>by
    obtain⟨q,w1,w2,w3,e1,e2⟩:=ov51_0 a0 l (p++ [(K_T.mk v1 (o83_0 x0.f1 (wrap .i64 (v1+1))) (o84_0 x0.f2 (m83 x0.f1 (wrap .i64 (v1+1)))))]) (m84 x0.f2 (m83 x0.f1 (wrap .i64 (v1+1))))
    refine⟨(K_T.mk v1 (o83_0 x0.f1 (wrap .i64 (v1+1))) (o84_0 x0.f2 (m83 x0.f1 (wrap .i64 (v1+1)))))::q,w1,w2,w3,?_,by simp[e2]⟩
    · have e:set (p++x0::l) (toNat (p.length:Int)) (K_T.mk v1 (o83_0 x0.f1 (wrap .i64 (v1+1))) (o84_0 x0.f2 (m83 x0.f1 (wrap .i64 (v1+1)))))=(p++ [(K_T.mk v1 (o83_0 x0.f1 (wrap .i64 (v1+1))) (o84_0 x0.f2 (m83 x0.f1 (wrap .i64 (v1+1)))))])++l:=by simp
      have e0:((p++ [(K_T.mk v1 (o83_0 x0.f1 (wrap .i64 (v1+1))) (o84_0 x0.f2 (m83 x0.f1 (wrap .i64 (v1+1)))))]).length:Int)=(p.length:Int)+1:=by simp
      rw[e0] at e1
      simp only[r51_0]
      first |(rw[e,e1]; simp; done) |(simp only[e,e1]; simp; done)
theorem ol51 (a:List K_T) (k:Int):(o51_0 a k).length=a.length:=by
  obtain⟨q,w1,w2,w3,e1,e2⟩:=ov51_0 a a [] k
  simp only[List.nil_append,length_nil] at e1
  rw[show ((0:Nat):Int)=0 from rfl] at e1
  unfold o51_0
  rw[e1]; exact e2
theorem oo51 (a:List K_T) (k:Int) (h:∀z∈a,ok_T z):∀z∈o51_0 a k,ok_T z:=by
  obtain⟨q,w1,w2,w3,e1,e2,e3⟩:=ow51_0 a a [] k h
  simp only[List.nil_append,length_nil] at e1
  rw[show ((0:Nat):Int)=0 from rfl] at e1
  unfold o51_0
  rw[e1]; exact e3
/-! loop.example/g00539/laws.markBlock -/
def o45_0 (a0:K_G) (a1:Int):List K_T:=
  (o51_0 a0.f4 a1)
def m45 (a0:K_G) (a1:Int):Int:=
  (m51 a0.f4 a1)
theorem e45 {a0:K_G} {a1:Int} (hy0:length a0.f4*56≤140737488351232) (hy1:∀z∈a0.f4,ok_T z):Ev F X (.call 45 [(.agg [(.val (.int .i64 a0.f0)),(.val (.int .i64 a0.f1)),(.val (.int .i64 a0.f2)),(.val (.int .i64 a0.f3)),(.ref ⟨(0,0,0),[],0,(length (map d_T a0.f4))⟩)]),(.one (.val (.int .i64 a1)))] [((0,0,0),⟨3,(map d_T a0.f4),[]⟩)] [(map d_T (o45_0 a0 a1))] [(.one (.val (.int .i64 (m45 a0 a1))))]):=by
  exact cq [true] ya (pe 0 (pe (length (map d_T a0.f4)) (.f (pureR_T a0.f4) (.r 11 [true] [] (e51 (a0:=a0.f4) (a1:=a1) ‹_› ‹_›) (.f (pureR_T (o51_0 a0.f4 a1)) .nil)))))
theorem ol45_0 (a:K_G) (k:Int):(o45_0 a k).length=length a.f4:=by
  unfold o45_0
  simp[ol51]
/-! loop.example/g00539/laws.markJob -/
def o12_0 (a0:K_J) (a1:Int):List K_T:=
  (o45_0 (K_G.mk a0.f1 a0.f2 a0.f3 a0.f4 a0.f5) a1)
def m12 (a0:K_J) (a1:Int):Int:=
  (m45 (K_G.mk a0.f1 a0.f2 a0.f3 a0.f4 a0.f5) a1)
theorem e12 {a0:K_J} {a1:Int} (hy0:length a0.f5*56≤140737488351232) (hy1:∀z∈a0.f5,ok_T z):Ev F X (.call 12 [(.agg [(.val (.int .i64 a0.f0)),(.val (.int .i64 a0.f1)),(.val (.int .i64 a0.f2)),(.val (.int .i64 a0.f3)),(.val (.int .i64 a0.f4)),(.ref ⟨(0,0,0),[],0,(length (map d_T a0.f5))⟩)]),(.one (.val (.int .i64 a1)))] [((0,0,0),⟨3,(map d_T a0.f5),[]⟩)] [(map d_T (o12_0 a0 a1))] [(.one (.val (.int .i64 (m12 a0 a1))))]):=by
  exact cq [true] ya (pe 0 (pe (length (map d_T a0.f5)) (.f (pureR_T a0.f5) (.r 11 [true] [] (e45 (a0:=(K_G.mk a0.f1 a0.f2 a0.f3 a0.f4 a0.f5)) (a1:=a1) ‹_› ‹_›) (.f (pureR_T (o45_0 (K_G.mk a0.f1 a0.f2 a0.f3 a0.f4 a0.f5) a1)) .nil)))))
theorem ol12_0 (a:K_J) (k:Int):(o12_0 a k).length=length a.f5:=by
  unfold o12_0
  simp[ol45_0]
/-! loop 15_0 -/
inductive O15_0 where
  |k0 (w0:Int) (w1:Int) (w2:Bool)
  |k1
def r15_0 (a0:(List K_J)):List K_J→Int→Int→O15_0
  |x0::y0,i,v0=>
    if(decide ((m6 x0 v0) < 0))=true then(O15_0.k1) else
    (r15_0 a0 y0 (i+1) (m6 x0 v0))
  |[],i,v0=>(O15_0.k0 v0 i (decide (i <((length (map b_J a0)):Int))))
def h15_0 (l0_0:Nat) (a0:(List K_J)) (a1:Int) (i:Int) (v0:Int):St:=⟨[(0,(.one (.bor l0_0 (map b_J a0)))),(1,(.one (.val (.int .i64 v0)))),(5,(.one (.val (.int .i64 i))))],[]⟩
def ex15_0:O15_0→VX.Exit
  |.k0 _ _ _=>(.exit 0)
  |.k1=>.ret
def fin15_0 (l0_0:Nat) (a0:(List K_J)) (a1:Int):O15_0→St
  |.k0 w0 w1 w2=>⟨[(0,(.one (.bor l0_0 (map b_J a0)))),(1,(.one (.val (.int .i64 w0)))),(5,(.one (.val (.int .i64 w1)))),(15,(.one (.val (.bool w2))))],[]⟩
  |.k1=>⟨[(4,(.one (.val (.int .i64 (-1)))))],[]⟩
theorem t15_0 {l0_0:Nat} {a0:(List K_J)} {a1:Int} (hy0:length a0*64≤140737488351232) (hy1:∀z∈a0,ok_J z):∀(y0:List K_J) (p:List K_J) (v0:Int),p++y0=a0→Ev F X (.code l15_0 (h15_0 l0_0 a0 a1 (length p:Int) v0) (ex15_0 (r15_0 a0 y0 (length p:Int) v0)) (fin15_0 l0_0 a0 a1 (r15_0 a0 y0 (length p:Int) v0)))
  |[],p,v0,hp0=>by
    have hc:=hcn b_J hp0
    exact lx 9 ya (.f (nt hc) (.h 8 (.b false) .nil)) rfl
  |x0::y0,p,v0,hp0=>by
    have hc:=hcy b_J hp0
    have Hx0:=hxy hp0
    obtain⟨Mx0_0,Mx0_1⟩:=hy1 x0 (List.mem_of_getElem? Hx0)
    have hlen:=hly hp0
    have hw:wrap .i64 ((length p:Int)+1)=(length p:Int)+1:=wrap64 yb
    simp only[r15_0]
    have f1:0≤(length p:Int):=yb
    have P1 {hs q} (r:PS F X hs q):=(PS.f hc (.f f1 (.f (mp_ b_J Hx0) (.h 8 (.b true) (.h 14 (.row (b_J x0)) (.r 20 [] [] (e6 (l0_5:=(l0_0+1)) (a0:=x0) (a1:=v0) ‹_› ‹_›) r))))))
    by_cases h_1:(decide ((m6 x0 v0) < 0))=true
    · try simp only[if_pos h_1]
      exact lx 30 ya (P1 (.f h_1 (.h 27 (.b true) .nil))) rfl
    · try simp only[if_neg h_1]
      have ih:=t15_0 (l0_0:=l0_0) (a0:=a0) (a1:=a1) hy0 hy1 y0 (p++ [x0]) (m6 x0 v0) ye
      rw[pl1,← hw] at ih; rw[← hw]
      exact ly 34 ya (P1 (.f (nt h_1) (.f trivial (.h 27 (.b false) .nil)))) ih
/-! loop.example/g00539/laws.szJobS -/
def m15 (a0:(List K_J)) (a1:Int):Int:=
  if(decide ((wrap .i64 (a1 - ((length (map b_J a0)):Int))) < 0))=true then(-1) else
  (match r15_0 a0 a0 0 (wrap .i64 (a1 - ((length (map b_J a0)):Int))) with | .k0 w0_1 w1_1 w2_1=>w0_1 | .k1=>(-1))
theorem e15 {l0_0:Nat} {a0:(List K_J)} {a1:Int} (hy0:length a0*64≤140737488351232) (hy1:∀z∈a0,ok_J z):Ev F X (.call 15 [(.one (.bor l0_0 (map b_J a0))),(.one (.val (.int .i64 a1)))] [] [] [(.one (.val (.int .i64 (m15 a0 a1))))]):=by
  unfold m15
  by_cases h0:(decide ((wrap .i64 (a1 - ((length (map b_J a0)):Int))) < 0))=true
  · try simp only[if_pos h0]
    exact cp ya (.f h0 (.h 16 (.b true) .nil))
  · try simp only[if_neg h0]
    cases h1:r15_0 a0 a0 0 (wrap .i64 (a1 - ((length (map b_J a0)):Int))) with
    |k0 w0_1 w1_1 w2_1=>
      try dsimp only
      have f1:=Eq.refl (h15_0 l0_0 a0 a1 0 (wrap .i64 (a1 - ((length (map b_J a0)):Int))))
      exact cp ya (.f (nt h0) (.f f1 (.f (ev_ (e:=ex15_0) (g:=(fin15_0 l0_0 a0 a1)) h1 (t15_0 (l0_0:=l0_0) (a0:=a0) (a1:=a1) (by assumption) (by assumption) a0 [] (wrap .i64 (a1 - ((length (map b_J a0)):Int))) rfl)) (.h 16 (.b false) (.h 19 (.loop (h15_0 l0_0 a0 a1 0 (wrap .i64 (a1 - ((length (map b_J a0)):Int)))) (.exit 0) ⟨[(0,(.one (.bor l0_0 (map b_J a0)))),(1,(.oi w0_1)),(5,(.oi w1_1)),(15,(.one (.val (.bool w2_1))))],[]⟩) .nil)))))
    |k1=>
      try dsimp only
      have f1:=Eq.refl (h15_0 l0_0 a0 a1 0 (wrap .i64 (a1 - ((length (map b_J a0)):Int))))
      exact cp ya (.f (nt h0) (.f f1 (.f (ev_ (e:=ex15_0) (g:=(fin15_0 l0_0 a0 a1)) h1 (t15_0 (l0_0:=l0_0) (a0:=a0) (a1:=a1) (by assumption) (by assumption) a0 [] (wrap .i64 (a1 - ((length (map b_J a0)):Int))) rfl)) (.h 16 (.b false) (.h 19 (.loop (h15_0 l0_0 a0 a1 0 (wrap .i64 (a1 - ((length (map b_J a0)):Int)))) .ret ⟨[(4,(.oi (-1)))],[]⟩) .nil)))))
/-! loop.example/g00539/spec.l1In -/
def m36 (a0:Int) (a1:Int) (a2:Int):Bool:=
  if(decide (a0≥a1))=true then(decide (a0≤a2)) else
  false
theorem e36 {a0:Int} {a1:Int} {a2:Int}:Ev F X (.call 36 [(.one (.val (.int .i64 a0))),(.one (.val (.int .i64 a1))),(.one (.val (.int .i64 a2)))] [] [] [(.one (.val (.bool (m36 a0 a1 a2))))]):=by
  unfold m36
  by_cases h0:(decide (a0≥a1))=true
  · try simp only[if_pos h0]
    exact cp ya (.f h0 (.f h0 (.f h0 (.f h0 (.h 10 (.b true) (.h 12 (.b true) (.h 14 (.b true) (.h 17 (.b true) .nil))))))))
  · try simp only[if_neg h0]
    exact cp ya (.f (nt h0) (.f (nt h0) (.f (nt h0) (.f (nt h0) (.h 10 (.b false) (.h 12 (.b false) (.h 14 (.b false) (.h 17 (.b false) .nil))))))))
theorem e65 {a0:Int}:Ev F X (.call 65 [(.one (.val (.int .i64 a0)))] [] [] [(.one (.val (.bool (m36 a0 0 2147483646))))]):=by
  exact cp ya (.r 5 [] [] (e36 (a0:=a0) (a1:=0) (a2:=2147483646)) .nil)
/-! loop.example/g00539/spec.l1Bits -/
def m66 (a0:Int):Bool:=
  if(m36 a0 1 1023)=true then(decide ((Int.tmod a0 256) > 0)) else
  false
theorem e66 {a0:Int}:Ev F X (.call 66 [(.one (.val (.int .i64 a0)))] [] [] [(.one (.val (.bool (m66 a0))))]):=by
  unfold m66
  by_cases h0:(m36 a0 1 1023)=true
  · try simp only[if_pos h0]
    have f3:(256:Int)≠0:=yb
    exact cp ya (.r 5 [] [] (e36 (a0:=a0) (a1:=1) (a2:=1023)) (.f h0 (.f h0 (.f f3 (.f h0 (.f h0 (.h 8 (.b true) (.h 10 (.b true) (.h 12 (.b true) (.h 15 (.b true) .nil))))))))))
  · try simp only[if_neg h0]
    exact cp ya (.r 5 [] [] (e36 (a0:=a0) (a1:=1) (a2:=1023)) (.f (nt h0) (.f (nt h0) (.f (nt h0) (.f (nt h0) (.h 8 (.b false) (.h 10 (.b false) (.h 12 (.b false) (.h 15 (.b false) .nil)))))))))
/-! loop 123_0 -/
inductive O123_0 where
  |k0 (w0:Int) (w1:Bool)
  |k1
def r123_0 (a0:(List Int)) (a1:Int) (a2:Int):List Int→Int→O123_0
  |x0::y0,i=>
    if(!(m36 x0 a1 a2))=true then(O123_0.k1) else
    (r123_0 a0 a1 a2 y0 (i+1))
  |[],i=>(O123_0.k0 i (decide (i <((length (map b_i a0)):Int))))
def h123_0 (l0_0:Nat) (a0:(List Int)) (a1:Int) (a2:Int) (i:Int) :St:=⟨[(0,(.one (.bor l0_0 (map b_i a0)))),(1,(.one (.val (.int .i64 a1)))),(2,(.one (.val (.int .i64 a2)))),(7,(.one (.val (.int .i64 i))))],[]⟩
def ex123_0:O123_0→VX.Exit
  |.k0 _ _=>(.exit 0)
  |.k1=>.ret
def fin123_0 (l0_0:Nat) (a0:(List Int)) (a1:Int) (a2:Int):O123_0→St
  |.k0 w0 w1=>⟨[(0,(.one (.bor l0_0 (map b_i a0)))),(1,(.one (.val (.int .i64 a1)))),(2,(.one (.val (.int .i64 a2)))),(7,(.one (.val (.int .i64 w0)))),(11,(.one (.val (.bool w1))))],[]⟩
  |.k1=>⟨[(6,(.one (.val (.bool false))))],[]⟩
theorem t123_0 {l0_0:Nat} {a0:(List Int)} {a1:Int} {a2:Int} (hy0:length a0*8≤140737488351232):∀(y0:List Int) (p:List Int),p++y0=a0→Ev F X (.code l123_0 (h123_0 l0_0 a0 a1 a2 (length p:Int)) (ex123_0 (r123_0 a0 a1 a2 y0 (length p:Int))) (fin123_0 l0_0 a0 a1 a2 (r123_0 a0 a1 a2 y0 (length p:Int))))
  |[],p,hp0=>by
    have hc:=hcn b_i hp0
    exact lx 9 ya (.f (nt hc) (.h 8 (.b false) .nil)) rfl
  |x0::y0,p,hp0=>by
    have hc:=hcy b_i hp0
    have Hx0:=hxy hp0
    have hlen:=hly hp0
    have hw:wrap .i64 ((length p:Int)+1)=(length p:Int)+1:=wrap64 yb
    simp only[r123_0]
    have f1:0≤(length p:Int):=yb
    have P1 {hs q} (r:PS F X hs q):=(PS.f hc (.f f1 (.f (mp_ b_i Hx0) (.h 8 (.b true) (.h 14 (.row [(.i x0)]) (.r 22 [] [] (e36 (a0:=x0) (a1:=a1) (a2:=a2)) r))))))
    by_cases h_1:(!(m36 x0 a1 a2))=true
    · try simp only[if_pos h_1]
      exact lx 28 ya (P1 (.f h_1 (.h 25 (.b true) .nil))) rfl
    · try simp only[if_neg h_1]
      have ih:=t123_0 (l0_0:=l0_0) (a0:=a0) (a1:=a1) (a2:=a2) hy0 y0 (p++ [x0]) ye
      rw[pl1,← hw] at ih; rw[← hw]
      exact ly 32 ya (P1 (.f (nt h_1) (.f trivial (.h 25 (.b false) .nil)))) ih
/-! loop.example/g00539/spec.l1All -/
def m123 (a0:(List Int)) (a1:Int) (a2:Int):Bool:=
  (match r123_0 a0 a1 a2 a0 0 with | .k0 w0_0 w1_0=>true | .k1=>false)
theorem e123 {l0_0:Nat} {a0:(List Int)} {a1:Int} {a2:Int} (hy0:length a0*8≤140737488351232):Ev F X (.call 123 [(.one (.bor l0_0 (map b_i a0))),(.one (.val (.int .i64 a1))),(.one (.val (.int .i64 a2)))] [] [] [(.one (.val (.bool (m123 a0 a1 a2))))]):=by
  unfold m123
  cases h0:r123_0 a0 a1 a2 a0 0 with
  |k0 w0_0 w1_0=>
    try dsimp only
    have f0:=Eq.refl (h123_0 l0_0 a0 a1 a2 0 )
    exact cp ya (.f f0 (.f (ev_ (e:=ex123_0) (g:=(fin123_0 l0_0 a0 a1 a2)) h0 (t123_0 (l0_0:=l0_0) (a0:=a0) (a1:=a1) (a2:=a2) (by assumption) a0 []  rfl)) (.h 4 (.loop (h123_0 l0_0 a0 a1 a2 0) (.exit 0) ⟨[(0,(.one (.bor l0_0 (map b_i a0)))),(1,(.oi a1)),(2,(.oi a2)),(7,(.oi w0_0)),(11,(.one (.val (.bool w1_0))))],[]⟩) .nil)))
  |k1=>
    try dsimp only
    have f0:=Eq.refl (h123_0 l0_0 a0 a1 a2 0 )
    exact cp ya (.f f0 (.f (ev_ (e:=ex123_0) (g:=(fin123_0 l0_0 a0 a1 a2)) h0 (t123_0 (l0_0:=l0_0) (a0:=a0) (a1:=a1) (a2:=a2) (by assumption) a0 []  rfl)) (.h 4 (.loop (h123_0 l0_0 a0 a1 a2 0) .ret ⟨[(6,(.one (.val (.bool false))))],[]⟩) .nil)))
/-! loop 96_0 -/
inductive O96_0 where
  |k0 (w0:Int) (w1:Bool)
  |k1
def r96_0 (a0:(List K_N)) (a1:Int):Nat→Int→O96_0
  |n+1,i=>
    if (((getD a0 (toNat i) (K_N.mk 0 0 [])).f0) == ((getD a0 (toNat a1) (K_N.mk 0 0 [])).f0)) = true then (if (((getD a0 (toNat i) (K_N.mk 0 0 [])).f1) == ((getD a0 (toNat a1) (K_N.mk 0 0 [])).f1)) = true then (O96_0.k1) else
      (r96_0 a0 a1 n (i+1))) else
    (r96_0 a0 a1 n (i+1))
  |0,i=>(O96_0.k0 i (decide (i < a1)))
def h96_0 (l0_0:Nat) (a0:(List K_N)) (a1:Int) (i:Int) :St:=⟨[(0,(.one (.bor l0_0 (map b_N a0)))),(1,(.one (.val (.int .i64 a1)))),(5,(.bptr l0_0 (b_N (getD a0 (toNat a1) (K_N.mk 0 0 []))))),(6,(.one (.val (.int .i64 i))))],[]⟩
def ex96_0:O96_0→VX.Exit
  |.k0 _ _=>(.exit 0)
  |.k1=>.ret
def fin96_0 (l0_0:Nat) (a0:(List K_N)) (a1:Int):O96_0→St
  |.k0 w0 w1=>⟨[(0,(.one (.bor l0_0 (map b_N a0)))),(1,(.one (.val (.int .i64 a1)))),(5,(.bptr l0_0 (b_N (getD a0 (toNat a1) (K_N.mk 0 0 []))))),(6,(.one (.val (.int .i64 w0)))),(38,(.one (.val (.bool w1))))],[]⟩
  |.k1=>⟨[(4,(.one (.val (.int .i64 6))))],[]⟩
theorem t96_0 {l0_0:Nat} {a0:(List K_N)} {a1:Int} (hy0:length a0*40≤140737488351232) (hy1:∀z∈a0,ok_N z) (hy2:0≤a1) (hy3:a1 <(length a0:Int)):∀(n:Nat) (i:Int),0≤i→n=toNat (a1 - i)→a1≤9223372036854775807→Ev F X (.code l96_0 (h96_0 l0_0 a0 a1 i) (ex96_0 (r96_0 a0 a1 n i)) (fin96_0 l0_0 a0 a1 (r96_0 a0 a1 n i)))
  |0,i,hn0,hn,hi0=>by
    have hc:¬(decide (i < a1))=true:=by
      simp only[decide_eq_true_eq]; omega
    exact lx 7 ya (.f (nt hc) (.h 6 (.b false) .nil)) rfl
  |n+1,i,hn0,hn,hi0=>by
    have hc:(decide (i < a1))=true:=by
      simp only[decide_eq_true_eq]; omega
    have hw:wrap .i64 (i+1)=i+1:=wrap64 yb
    have hj0:=hi0; try simp only[LN,Int.toNat_natCast] at hj0
    simp only[r96_0]
    have f1:0≤i:=‹_›
    have P1 {hs q} (r:PS F X hs q):=(PS.f hc (.f f1 (.f (mp_ b_N (getD_at a0 (toNat i) (K_N.mk 0 0 []) yb)) (.h 6 (.b true) (.h 12 (.row (b_N (getD a0 (toNat i) (K_N.mk 0 0 [])))) r)))))
    by_cases h_1:(((getD a0 (toNat i) (K_N.mk 0 0 [])).f0)==((getD a0 (toNat a1) (K_N.mk 0 0 [])).f0))=true
    · try simp only[if_pos h_1]
      have P2 {hs q} (r:PS F X hs q):=(P1 (.f h_1 (.f h_1 (.f h_1 (.f f1 (.f (mp_ b_N (getD_at a0 (toNat i) (K_N.mk 0 0 []) yb)) (.f h_1 (.f h_1 (.f h_1 (.f h_1 (.f h_1 (.f h_1 (.f h_1 (.f h_1 (.h 29 (.b true) (.h 31 (.b true) (.h 33 (.b true) (.h 34 (.row (b_N (getD a0 (toNat i) (K_N.mk 0 0 [])))) (.h 35 (.b true) (.h 37 (.b true) (.h 39 (.b true) (.h 41 (.b true) (.h 43 (.b true) (.h 45 (.b true) (.h 47 (.b true) (.h 50 (.b true) r))))))))))))))))))))))))))
      by_cases h_2:(((getD a0 (toNat i) (K_N.mk 0 0 [])).f1)==((getD a0 (toNat a1) (K_N.mk 0 0 [])).f1))=true
      · try simp only[if_pos h_2]
        exact lx 54 ya (P2 (.f h_2 (.h 51 (.b true) .nil))) rfl
      · try simp only[if_neg h_2]
        have ih:=t96_0 (l0_0:=l0_0) (a0:=a0) (a1:=a1) hy0 hy1 hy2 hy3 n (i+1) yb yb yb
        rw[← hw] at ih; rw[← hw]
        exact ly 58 ya (P2 (.f (nt h_2) (.f trivial (.h 51 (.b false) .nil)))) ih
    · try simp only[if_neg h_1]
      have ih:=t96_0 (l0_0:=l0_0) (a0:=a0) (a1:=a1) hy0 hy1 hy2 hy3 n (i+1) yb yb yb
      rw[← hw] at ih; rw[← hw]
      exact ly 58 ya (P1 (.f (nt h_1) (.f (nt h_1) (.f (nt h_1) (.f (nt h_1) (.f (nt h_1) (.f (nt h_1) (.f (nt h_1) (.f (nt h_1) (.f (nt h_1) (.f (nt h_1) (.f (nt h_1) (.f trivial (.h 29 (.b false) (.h 31 (.b false) (.h 33 (.b false) (.h 35 (.b false) (.h 37 (.b false) (.h 39 (.b false) (.h 41 (.b false) (.h 43 (.b false) (.h 45 (.b false) (.h 47 (.b false) (.h 50 (.b false) .nil)))))))))))))))))))))))) ih
/-! loop.example/g00539/spec.l3In -/
def m96 (a0:(List K_N)) (a1:Int):Int:=
  if(!(m36 ((getD a0 (toNat a1) (K_N.mk 0 0 [])).f0) 0 2147483646))=true then 3 else
  if(!(m36 ((getD a0 (toNat a1) (K_N.mk 0 0 [])).f1) 0 3))=true then 3 else
    if(decide (((length (map b_i ((getD a0 (toNat a1) (K_N.mk 0 0 [])).f2))):Int) > 8))=true then 2 else
      if(!(m123 ((getD a0 (toNat a1) (K_N.mk 0 0 [])).f2) 0 9999))=true then 3 else
        (match r96_0 a0 a1 (toNat a1) 0 with | .k0 w0_14 w1_14=>0 | .k1=>6)
theorem e96 {l0_0:Nat} {a0:(List K_N)} {a1:Int} (hy0:length a0*40≤140737488351232) (hy1:∀z∈a0,ok_N z) (hy2:0≤a1) (hy3:a1 <(length a0:Int)):Ev F X (.call 96 [(.one (.bor l0_0 (map b_N a0))),(.one (.val (.int .i64 a1)))] [] [] [(.one (.val (.int .i64 (m96 a0 a1))))]):=by
  unfold m96
  have f0:0≤a1:=‹_›
  have P0 {hs q} (r:PS F X hs q):=(PS.f f0 (.f (mp_ b_N (getD_at a0 (toNat a1) (K_N.mk 0 0 []) yb)) (.h 7 (.row (b_N (getD a0 (toNat a1) (K_N.mk 0 0 [])))) (.r 19 [] [] (e36 (a0:=((getD a0 (toNat a1) (K_N.mk 0 0 [])).f0)) (a1:=0) (a2:=2147483646)) r))))
  by_cases h0:(!(m36 ((getD a0 (toNat a1) (K_N.mk 0 0 [])).f0) 0 2147483646))=true
  · try simp only[if_pos h0]
    exact cp ya (P0 (.f h0 (.f h0 (.f h0 (.f h0 (.f h0 (.f h0 (.f h0 (.h 24 (.b true) (.h 26 (.b true) (.h 28 (.b true) (.h 30 (.b true) (.h 32 (.b true) (.h 34 (.b true) (.h 37 (.b true) .nil)))))))))))))))
  · try simp only[if_neg h0]
    have P1 {hs q} (r:PS F X hs q):=(P0 (.f (nt h0) (.f (nt h0) (.f (nt h0) (.f (nt h0) (.f (nt h0) (.h 24 (.b false) (.h 26 (.b false) (.h 28 (.b false) (.h 30 (.b false) (.h 32 (.b false) (.r 33 [] [] (e36 (a0:=((getD a0 (toNat a1) (K_N.mk 0 0 [])).f1)) (a1:=0) (a2:=3)) (.f (nt h0) (.f (nt h0) (.h 34 (.b false) (.h 37 (.b false) r))))))))))))))))
    by_cases h1:(!(m36 ((getD a0 (toNat a1) (K_N.mk 0 0 [])).f1) 0 3))=true
    · try simp only[if_pos h1]
      exact cp ya (P1 (.f h1 (.h 38 (.b true) .nil)))
    · try simp only[if_neg h1]
      have P2 {hs q} (r:PS F X hs q):=(P1 (.f (nt h1) (.h 38 (.b false) r)))
      by_cases h2:(decide (((length (map b_i ((getD a0 (toNat a1) (K_N.mk 0 0 [])).f2))):Int) > 8))=true
      · try simp only[if_pos h2]
        exact cp ya (P2 (.f h2 (.h 51 (.b true) .nil)))
      · try simp only[if_neg h2]
        have P3 {hs q} (r:PS F X hs q):=(P2 (.f (nt h2) (.h 51 (.b false) (.r 61 [] [] (e123 (l0_0:=(l0_0+1)) (a0:=((getD a0 (toNat a1) (K_N.mk 0 0 [])).f2)) (a1:=0) (a2:=9999) (by have q:=gos_N (l:=a0) (by first | assumption |(intro z hz; exact(by assumption:∀z∈_,os_N z) z (List.mem_of_mem_take hz))) (toNat a1) (K_N.mk 0 0 []) (by simp[os_N,ByteArray.size]); first | exact q | exact q.1 | exact q.2 | exact q.2.1 | exact q.2.2 | exact Nat.le_trans q yM | exact Nat.le_trans q.1 yM |(have q1:=q.1; simp only[length_map]; omega))) r))))
        by_cases h3:(!(m123 ((getD a0 (toNat a1) (K_N.mk 0 0 [])).f2) 0 9999))=true
        · try simp only[if_pos h3]
          exact cp ya (P3 (.f h3 (.h 64 (.b true) .nil)))
        · try simp only[if_neg h3]
          cases h4:r96_0 a0 a1 (toNat a1) 0 with
          |k0 w0_14 w1_14=>
            try dsimp only
            have f15:=Eq.refl (h96_0 l0_0 a0 a1 0 )
            exact cp ya (P3 (.f (nt h3) (.f f15 (.f (ev_ (e:=ex96_0) (g:=(fin96_0 l0_0 a0 a1)) h4 (t96_0 (l0_0:=l0_0) (a0:=a0) (a1:=a1) (by assumption) (by assumption) (by assumption) (by assumption) _ 0 yb yb yb)) (.h 64 (.b false) (.h 67 (.loop (h96_0 l0_0 a0 a1 0) (.exit 0) ⟨[(0,(.one (.bor l0_0 (map b_N a0)))),(1,(.oi a1)),(5,(.bptr l0_0 (b_N (getD a0 (toNat a1) (K_N.mk 0 0 []))))),(6,(.oi w0_14)),(38,(.one (.val (.bool w1_14))))],[]⟩) .nil))))))
          |k1=>
            try dsimp only
            have f15:=Eq.refl (h96_0 l0_0 a0 a1 0 )
            exact cp ya (P3 (.f (nt h3) (.f f15 (.f (ev_ (e:=ex96_0) (g:=(fin96_0 l0_0 a0 a1)) h4 (t96_0 (l0_0:=l0_0) (a0:=a0) (a1:=a1) (by assumption) (by assumption) (by assumption) (by assumption) _ 0 yb yb yb)) (.h 64 (.b false) (.h 67 (.loop (h96_0 l0_0 a0 a1 0) .ret ⟨[(4,(.oi 6))],[]⟩) .nil))))))
theorem inl96 {a:List K_N} {i:Int} (h:m96 a i=0):length (getD a (toNat i) (K_N.mk 0 0 [])).f2≤8:=by
  by_cases c:(decide (((length (map b_i ((getD a (toNat i) (K_N.mk 0 0 [])).f2))):Int) > 8))=true
  · unfold m96 at h
    simp only[if_pos c] at h
    (repeat' split at h)<;>exact absurd h yM
  · simp only[decide_eq_true_eq,length_map] at c; omega
theorem e124 {a0:Int}:Ev F X (.call 124 [(.one (.val (.int .i64 a0)))] [] [] [(.one (.val (.bool (m36 a0 0 1000000))))]):=by
  exact cp ya (.r 5 [] [] (e36 (a0:=a0) (a1:=0) (a2:=1000000)) .nil)
/-! loop.example/g00539/spec.l2Op -/
def m150 (a0:Int):Bool:=
  if(m36 a0 1 9)=true then true else
  (m36 a0 100 1099)
theorem e150 {a0:Int}:Ev F X (.call 150 [(.one (.val (.int .i64 a0)))] [] [] [(.one (.val (.bool (m150 a0))))]):=by
  unfold m150
  by_cases h0:(m36 a0 1 9)=true
  · try simp only[if_pos h0]
    exact cp ya (.r 5 [] [] (e36 (a0:=a0) (a1:=1) (a2:=9)) (.f h0 (.f h0 (.f h0 (.h 8 (.b true) (.h 10 (.b true) (.h 13 (.b true) .nil)))))))
  · try simp only[if_neg h0]
    exact cp ya (.r 5 [] [] (e36 (a0:=a0) (a1:=1) (a2:=9)) (.f (nt h0) (.f (nt h0) (.h 8 (.b false) (.h 10 (.b false) (.r 11 [] [] (e36 (a0:=a0) (a1:=100) (a2:=1099)) (.f (nt h0) (.h 13 (.b false) .nil))))))))
/-! loop 125_0 -/
inductive O125_0 where
  |k0 (w0:Int) (w1:Bool)
  |k1
def r125_0 (a0:(List Int)):List Int→Int→O125_0
  |x0::y0,i=>
    if(!(m150 x0))=true then(O125_0.k1) else
    (r125_0 a0 y0 (i+1))
  |[],i=>(O125_0.k0 i (decide (i <((length (map b_i a0)):Int))))
def h125_0 (l0_0:Nat) (a0:(List Int)) (i:Int) :St:=⟨[(0,(.one (.bor l0_0 (map b_i a0)))),(3,(.one (.val (.int .i64 i))))],[]⟩
def ex125_0:O125_0→VX.Exit
  |.k0 _ _=>(.exit 0)
  |.k1=>.ret
def fin125_0 (l0_0:Nat) (a0:(List Int)):O125_0→St
  |.k0 w0 w1=>⟨[(0,(.one (.bor l0_0 (map b_i a0)))),(3,(.one (.val (.int .i64 w0)))),(10,(.one (.val (.bool w1))))],[]⟩
  |.k1=>⟨[(2,(.one (.val (.int .i64 1))))],[]⟩
theorem t125_0 {l0_0:Nat} {a0:(List Int)} (hy0:length a0*8≤140737488351232):∀(y0:List Int) (p:List Int),p++y0=a0→Ev F X (.code l125_0 (h125_0 l0_0 a0 (length p:Int)) (ex125_0 (r125_0 a0 y0 (length p:Int))) (fin125_0 l0_0 a0 (r125_0 a0 y0 (length p:Int))))
  |[],p,hp0=>by
    have hc:=hcn b_i hp0
    exact lx 9 ya (.f (nt hc) (.h 8 (.b false) .nil)) rfl
  |x0::y0,p,hp0=>by
    have hc:=hcy b_i hp0
    have Hx0:=hxy hp0
    have hlen:=hly hp0
    have hw:wrap .i64 ((length p:Int)+1)=(length p:Int)+1:=wrap64 yb
    simp only[r125_0]
    have f1:0≤(length p:Int):=yb
    have P1 {hs q} (r:PS F X hs q):=(PS.f hc (.f f1 (.f (mp_ b_i Hx0) (.h 8 (.b true) (.h 14 (.row [(.i x0)]) (.r 18 [] [] (e150 (a0:=x0)) r))))))
    by_cases h_1:(!(m150 x0))=true
    · try simp only[if_pos h_1]
      exact lx 24 ya (P1 (.f h_1 (.h 21 (.b true) .nil))) rfl
    · try simp only[if_neg h_1]
      have ih:=t125_0 (l0_0:=l0_0) (a0:=a0) hy0 y0 (p++ [x0]) ye
      rw[pl1,← hw] at ih; rw[← hw]
      exact ly 28 ya (P1 (.f (nt h_1) (.f trivial (.h 21 (.b false) .nil)))) ih
/-! loop.example/g00539/spec.l2Fault -/
def m125 (a0:(List Int)):Int:=
  if(decide (((length (map b_i a0)):Int) > 12))=true then 2 else
  (match r125_0 a0 a0 0 with | .k0 w0_1 w1_1=>0 | .k1=>1)
theorem e125 {l0_0:Nat} {a0:(List Int)} (hy0:length a0*8≤140737488351232):Ev F X (.call 125 [(.one (.bor l0_0 (map b_i a0)))] [] [] [(.one (.val (.int .i64 (m125 a0))))]):=by
  unfold m125
  by_cases h0:(decide (((length (map b_i a0)):Int) > 12))=true
  · try simp only[if_pos h0]
    exact cp ya (.f h0 (.h 8 (.b true) .nil))
  · try simp only[if_neg h0]
    cases h1:r125_0 a0 a0 0 with
    |k0 w0_1 w1_1=>
      try dsimp only
      have f1:=Eq.refl (h125_0 l0_0 a0 0 )
      exact cp ya (.f (nt h0) (.f f1 (.f (ev_ (e:=ex125_0) (g:=(fin125_0 l0_0 a0)) h1 (t125_0 (l0_0:=l0_0) (a0:=a0) (by assumption) a0 []  rfl)) (.h 8 (.b false) (.h 11 (.loop (h125_0 l0_0 a0 0) (.exit 0) ⟨[(0,(.one (.bor l0_0 (map b_i a0)))),(3,(.oi w0_1)),(10,(.one (.val (.bool w1_1))))],[]⟩) .nil)))))
    |k1=>
      try dsimp only
      have f1:=Eq.refl (h125_0 l0_0 a0 0 )
      exact cp ya (.f (nt h0) (.f f1 (.f (ev_ (e:=ex125_0) (g:=(fin125_0 l0_0 a0)) h1 (t125_0 (l0_0:=l0_0) (a0:=a0) (by assumption) a0 []  rfl)) (.h 8 (.b false) (.h 11 (.loop (h125_0 l0_0 a0 0) .ret ⟨[(2,(.oi 1))],[]⟩) .nil)))))
theorem lk125 {a:List Int} (h:m125 a=0):length a≤12:=by
  by_cases c:(decide (((length (map b_i a)):Int) > 12))=true
  · unfold m125 at h
    simp only[if_pos c] at h
    exact absurd h yM
  · simp only[decide_eq_true_eq,length_map] at c; omega
/-! loop 97_0 -/
inductive O97_0 where
  |k0 (w0:Int) (w1:Int) (w2:Bool)
  |k1
  |k2 (w0:Int)
def r97_0 (a0:(List K_U)):List K_U→Int→Int→O97_0
  |x0::y0,i,v0=>
    if(!(m36 x0.f0 0 1000000))=true then(O97_0.k1) else
    if((m125 x0.f1) !=0)=true then(O97_0.k2 (m125 x0.f1)) else
      (r97_0 a0 y0 (i+1) (wrap .i64 (v0+x0.f0)))
  |[],i,v0=>(O97_0.k0 v0 i (decide (i <((length (map b_U a0)):Int))))
def h97_0 (l0_0:Nat) (a0:(List K_U)) (i:Int) (v0:Int):St:=⟨[(0,(.one (.bor l0_0 (map b_U a0)))),(3,(.one (.val (.int .i64 v0)))),(4,(.one (.val (.int .i64 i))))],[]⟩
def ex97_0:O97_0→VX.Exit
  |.k0 _ _ _=>(.exit 0)
  |.k1=>.ret
  |.k2 _=>.ret
def fin97_0 (l0_0:Nat) (a0:(List K_U)):O97_0→St
  |.k0 w0 w1 w2=>⟨[(0,(.one (.bor l0_0 (map b_U a0)))),(3,(.one (.val (.int .i64 w0)))),(4,(.one (.val (.int .i64 w1)))),(9,(.one (.val (.bool w2))))],[]⟩
  |.k1=>⟨[(2,(.one (.val (.int .i64 3))))],[]⟩
  |.k2 w0=>⟨[(2,(.one (.val (.int .i64 w0))))],[]⟩
theorem t97_0 {l0_0:Nat} {a0:(List K_U)} (hy0:length a0*32≤140737488351232) (hy1:∀z∈a0,ok_U z):∀(y0:List K_U) (p:List K_U) (v0:Int),p++y0=a0→Ev F X (.code l97_0 (h97_0 l0_0 a0 (length p:Int) v0) (ex97_0 (r97_0 a0 y0 (length p:Int) v0)) (fin97_0 l0_0 a0 (r97_0 a0 y0 (length p:Int) v0)))
  |[],p,v0,hp0=>by
    have hc:=hcn b_U hp0
    exact lx 9 ya (.f (nt hc) (.h 8 (.b false) .nil)) rfl
  |x0::y0,p,v0,hp0=>by
    have hc:=hcy b_U hp0
    have Hx0:=hxy hp0
    have Mx0_0:=hy1 x0 (List.mem_of_getElem? Hx0)
    have hlen:=hly hp0
    have hw:wrap .i64 ((length p:Int)+1)=(length p:Int)+1:=wrap64 yb
    simp only[r97_0]
    have f1:0≤(length p:Int):=yb
    have P1 {hs q} (r:PS F X hs q):=(PS.f hc (.f f1 (.f (mp_ b_U Hx0) (.h 8 (.b true) (.h 14 (.row (b_U x0)) (.r 20 [] [] (e124 (a0:=x0.f0)) r))))))
    by_cases h_1:(!(m36 x0.f0 0 1000000))=true
    · try simp only[if_pos h_1]
      exact lx 26 ya (P1 (.f h_1 (.h 23 (.b true) .nil))) rfl
    · try simp only[if_neg h_1]
      have P2 {hs q} (r:PS F X hs q):=(P1 (.f (nt h_1) (.f f1 (.f (mp_ b_U Hx0) (.h 23 (.b false) (.h 29 (.row (b_U x0)) (.r 35 [] [] (e125 (l0_0:=(l0_0+1)) (a0:=x0.f1) (by assumption)) r)))))))
      by_cases h_2:((m125 x0.f1) !=0)=true
      · try simp only[if_pos h_2]
        exact lx 47 ya (P2 (.f h_2 (.h 42 (.b true) .nil))) rfl
      · try simp only[if_neg h_2]
        have ih:=t97_0 (l0_0:=l0_0) (a0:=a0) hy0 hy1 y0 (p++ [x0]) (wrap .i64 (v0+x0.f0)) ye
        rw[pl1,← hw] at ih; rw[← hw]
        exact ly 65 ya (P2 (.f (nt h_2) (.f f1 (.f (mp_ b_U Hx0) (.f trivial (.f trivial (.h 42 (.b false) (.h 50 (.row (b_U x0)) .nil)))))))) ih
theorem lo97 {a:List K_U}:∀ {l:List K_U} {i v w:Int} {j b},r97_0 a l i v=.k0 w j b→∀x∈l,m125 x.f1=0
  |[],i,v,w,j,b,h,x,hx=>by cases hx
  |y::l,i,v,w,j,b,h,x,hx=>by
    simp only[r97_0] at h
    split at h
    · cases h
    · split at h
      · cases h
      · rename_i h1
        rcases List.mem_cons.1 hx with rfl | hx
        · simpa using h1
        · exact lo97 h x hx
theorem ne97 {a:List K_U}:∀(l:List K_U) (i v:Int),r97_0 a l i v≠.k2 0
  |[],i,v=>by simp only[r97_0]; intro h; cases h
  |y::l,i,v=>by
    simp only[r97_0]
    split
    · intro q; cases q
    · split
      · rename_i h; intro q; injection q with q; rw[q] at h; exact absurd h yM
      · exact ne97 l _ _
/-! loop.example/g00539/spec.l3Outs -/
def m97 (a0:(List K_U)):Int:=
  (match r97_0 a0 a0 0 0 with | .k0 w0_0 w1_0 w2_0=>(if(!(m36 w0_0 0 1000000))=true then 7 else 0) | .k1=>3 | .k2 w0_0=>w0_0)
theorem e97 {l0_0:Nat} {a0:(List K_U)} (hy0:length a0*32≤140737488351232) (hy1:∀z∈a0,ok_U z):Ev F X (.call 97 [(.one (.bor l0_0 (map b_U a0)))] [] [] [(.one (.val (.int .i64 (m97 a0))))]):=by
  unfold m97
  cases h0:r97_0 a0 a0 0 0 with
  |k0 w0_0 w1_0 w2_0=>
    try dsimp only
    have f0:=Eq.refl (h97_0 l0_0 a0 0 0)
    have P1 {hs q} (r:PS F X hs q):=(PS.f f0 (.f (ev_ (e:=ex97_0) (g:=(fin97_0 l0_0 a0)) h0 (t97_0 (l0_0:=l0_0) (a0:=a0) (by assumption) (by assumption) a0 [] 0 rfl)) (.h 6 (.loop (h97_0 l0_0 a0 0 0) (.exit 0) ⟨[(0,(.one (.bor l0_0 (map b_U a0)))),(3,(.oi w0_0)),(4,(.oi w1_0)),(9,(.one (.val (.bool w2_0))))],[]⟩) (.r 10 [] [] (e124 (a0:=w0_0)) r))))
    by_cases h1:(!(m36 w0_0 0 1000000))=true
    · try simp only[if_pos h1]
      exact cp ya (P1 (.f h1 (.h 13 (.b true) .nil)))
    · try simp only[if_neg h1]
      exact cp ya (P1 (.f (nt h1) (.h 13 (.b false) .nil)))
  |k1=>
    try dsimp only
    have f0:=Eq.refl (h97_0 l0_0 a0 0 0)
    exact cp ya (.f f0 (.f (ev_ (e:=ex97_0) (g:=(fin97_0 l0_0 a0)) h0 (t97_0 (l0_0:=l0_0) (a0:=a0) (by assumption) (by assumption) a0 [] 0 rfl)) (.h 6 (.loop (h97_0 l0_0 a0 0 0) .ret ⟨[(2,(.oi 3))],[]⟩) .nil)))
  |k2 w0_0=>
    try dsimp only
    have f0:=Eq.refl (h97_0 l0_0 a0 0 0)
    exact cp ya (.f f0 (.f (ev_ (e:=ex97_0) (g:=(fin97_0 l0_0 a0)) h0 (t97_0 (l0_0:=l0_0) (a0:=a0) (by assumption) (by assumption) a0 [] 0 rfl)) (.h 6 (.loop (h97_0 l0_0 a0 0 0) .ret ⟨[(2,(.oi w0_0))],[]⟩) .nil)))
/-! loop 67_0 -/
inductive O67_0 where
  |k0 (w0:Int) (w1:Bool)
  |k1 (w0:Int)
def r67_0 (a0:K_T):List K_N→Int→O67_0
  |x0::y0,i=>
    if((m96 a0.f1 i) !=0)=true then(O67_0.k1 (m96 a0.f1 i)) else
    (r67_0 a0 y0 (i+1))
  |[],i=>(O67_0.k0 i (decide (i <((length (map b_N a0.f1)):Int))))
def h67_0 (l0:Nat) (a0:K_T) (i:Int) :St:=⟨[(0,(.bptr l0 (b_T a0))),(3,(.one (.val (.int .i64 i))))],[]⟩
def ex67_0:O67_0→VX.Exit
  |.k0 _ _=>(.exit 0)
  |.k1 _=>.ret
def fin67_0 (l0:Nat) (a0:K_T):O67_0→St
  |.k0 w0 w1=>⟨[(0,(.bptr l0 (b_T a0))),(3,(.one (.val (.int .i64 w0)))),(39,(.one (.val (.bool w1))))],[]⟩
  |.k1 w0=>⟨[(2,(.one (.val (.int .i64 w0))))],[]⟩
theorem t67_0 {l0:Nat} {a0:K_T} (hy0:length a0.f1*40≤140737488351232) (hy1:∀z∈a0.f1,ok_N z) (hy2:length a0.f2*32≤140737488351232) (hy3:∀z∈a0.f2,ok_U z):∀(y0:List K_N) (p:List K_N),p++y0=a0.f1→Ev F X (.code l67_0 (h67_0 l0 a0 (length p:Int)) (ex67_0 (r67_0 a0 y0 (length p:Int))) (fin67_0 l0 a0 (r67_0 a0 y0 (length p:Int))))
  |[],p,hp0=>by
    have hc:=hcn b_N hp0
    exact lx 15 ya (.f (nt hc) (.h 14 (.b false) .nil)) rfl
  |x0::y0,p,hp0=>by
    have hc:=hcy b_N hp0
    have Hx0:=hxy hp0
    have Mx0_0:=hy1 x0 (List.mem_of_getElem? Hx0)
    have hlen:=hly hp0
    have hw:wrap .i64 ((length p:Int)+1)=(length p:Int)+1:=wrap64 yb
    simp only[r67_0]
    have P1 {hs q} (r:PS F X hs q):=(PS.f hc (.h 14 (.b true) (.r 26 [] [] (e96 (l0_0:=(l0+1)) (a0:=a0.f1) (a1:=(length p:Int)) ‹_› ‹_› yb yb) r)))
    by_cases h_1:((m96 a0.f1 (length p:Int)) !=0)=true
    · try simp only[if_pos h_1]
      exact lx 38 ya (P1 (.f h_1 (.h 33 (.b true) .nil))) rfl
    · try simp only[if_neg h_1]
      have ih:=t67_0 (l0:=l0) (a0:=a0) hy0 hy1 hy2 hy3 y0 (p++ [x0]) ye
      rw[pl1,← hw] at ih; rw[← hw]
      exact ly 40 ya (P1 (.f (nt h_1) (.f trivial (.h 33 (.b false) .nil)))) ih
theorem lf67 {a:K_T}:∀ {l:List K_N} {i:Int} {j b},r67_0 a l i=.k0 j b→∀k:Nat,k < l.length→m96 a.f1 (i+(k:Int))=0
  |[],i,j,b,h,k,hk=>by simp at hk
  |y::l,i,j,b,h,k,hk=>by
    simp only[r67_0] at h
    split at h
    · cases h
    · rename_i h1
      cases k with
      |zero=>simpa using h1
      |succ k=>
        have q:=lf67 h k (by simpa using hk)
        rw[← q]; congr 1; omega
theorem ne67 {a:K_T}:∀(l:List K_N) (i:Int),r67_0 a l i≠.k1 0
  |[],i=>by simp only[r67_0]; intro h; cases h
  |y::l,i=>by
    simp only[r67_0]
    split
    · rename_i h; intro q; injection q with q; rw[q] at h; exact absurd h yM
    · exact ne67 l _
/-! loop.example/g00539/spec.l3Fault -/
def m67 (a0:K_T):Int:=
  if(!(m36 a0.f0 0 65535))=true then 3 else
  if(decide (((length (map b_N a0.f1)):Int) > 4))=true then 2 else
    if(decide (((length (map b_U a0.f2)):Int) < 1))=true then 2 else
      if(decide (((length (map b_U a0.f2)):Int) > 4))=true then 2 else
        (match r67_0 a0 a0.f1 0 with | .k0 w0_17 w1_17=>(m97 a0.f2) | .k1 w0_17=>w0_17)
theorem e67 {l0:Nat} {a0:K_T} (hy0:length a0.f1*40≤140737488351232) (hy1:∀z∈a0.f1,ok_N z) (hy2:length a0.f2*32≤140737488351232) (hy3:∀z∈a0.f2,ok_U z):Ev F X (.call 67 [(.bptr l0 (b_T a0))] [] [] [(.one (.val (.int .i64 (m67 a0))))]):=by
  unfold m67
  have P0 {hs q} (r:PS F X hs q):=(PS.r 11 [] [] (e36 (a0:=a0.f0) (a1:=0) (a2:=65535)) r)
  by_cases h0:(!(m36 a0.f0 0 65535))=true
  · try simp only[if_pos h0]
    exact cp ya (P0 (.f h0 (.h 14 (.b true) .nil)))
  · try simp only[if_neg h0]
    have P1 {hs q} (r:PS F X hs q):=(P0 (.f (nt h0) (.h 14 (.b false) r)))
    by_cases h1:(decide (((length (map b_N a0.f1)):Int) > 4))=true
    · try simp only[if_pos h1]
      exact cp ya (P1 (.f h1 (.f h1 (.f h1 (.f h1 (.f h1 (.f h1 (.f h1 (.h 29 (.b true) (.h 31 (.b true) (.h 33 (.b true) (.h 35 (.b true) (.h 37 (.b true) (.h 39 (.b true) (.h 42 (.b true) .nil)))))))))))))))
    · try simp only[if_neg h1]
      have P2 {hs q} (r:PS F X hs q):=(P1 (.f (nt h1) (.f (nt h1) (.f (nt h1) (.f (nt h1) (.f (nt h1) (.f (nt h1) (.f (nt h1) (.h 29 (.b false) (.h 31 (.b false) (.h 33 (.b false) (.h 35 (.b false) (.h 37 (.b false) (.h 39 (.b false) (.h 42 (.b false) r)))))))))))))))
      by_cases h2:(decide (((length (map b_U a0.f2)):Int) < 1))=true
      · try simp only[if_pos h2]
        exact cp ya (P2 (.f h2 (.f h2 (.f h2 (.f h2 (.f h2 (.f h2 (.f h2 (.h 45 (.b true) (.h 47 (.b true) (.h 49 (.b true) (.h 51 (.b true) (.h 53 (.b true) (.h 55 (.b true) (.h 58 (.b true) .nil)))))))))))))))
      · try simp only[if_neg h2]
        have P3 {hs q} (r:PS F X hs q):=(P2 (.f (nt h2) (.f (nt h2) (.f (nt h2) (.f (nt h2) (.f (nt h2) (.f (nt h2) (.f (nt h2) (.h 45 (.b false) (.h 47 (.b false) (.h 49 (.b false) (.h 51 (.b false) (.h 53 (.b false) (.h 55 (.b false) (.h 58 (.b false) r)))))))))))))))
        by_cases h3:(decide (((length (map b_U a0.f2)):Int) > 4))=true
        · try simp only[if_pos h3]
          exact cp ya (P3 (.f h3 (.h 59 (.b true) .nil)))
        · try simp only[if_neg h3]
          cases h4:r67_0 a0 a0.f1 0 with
          |k0 w0_17 w1_17=>
            try dsimp only
            have f17:=Eq.refl (h67_0 l0 a0 0 )
            exact cp ya (P3 (.f (nt h3) (.f f17 (.f (ev_ (e:=ex67_0) (g:=(fin67_0 l0 a0)) h4 (t67_0 (l0:=l0) (a0:=a0) (by assumption) (by assumption) (by assumption) (by assumption) a0.f1 []  rfl)) (.h 59 (.b false) (.h 62 (.loop (h67_0 l0 a0 0) (.exit 0) ⟨[(0,(.bptr l0 (b_T a0))),(3,(.oi w0_17)),(39,(.one (.val (.bool w1_17))))],[]⟩) (.r 72 [] [] (e97 (l0_0:=(l0+1)) (a0:=a0.f2) ‹_› ‹_›) .nil)))))))
          |k1 w0_17=>
            try dsimp only
            have f17:=Eq.refl (h67_0 l0 a0 0 )
            exact cp ya (P3 (.f (nt h3) (.f f17 (.f (ev_ (e:=ex67_0) (g:=(fin67_0 l0 a0)) h4 (t67_0 (l0:=l0) (a0:=a0) (by assumption) (by assumption) (by assumption) (by assumption) a0.f1 []  rfl)) (.h 59 (.b false) (.h 62 (.loop (h67_0 l0 a0 0) .ret ⟨[(2,(.oi w0_17))],[]⟩) .nil))))))
theorem ft67 {a:K_T} (h:m67 a=0):SmT a:=by
  unfold m67 at h
  split at h
  · exact absurd h yM
  · split at h
    · exact absurd h yM
    · split at h
      · exact absurd h yM
      · split at h
        · exact absurd h yM
        · rename_i c1 c2 c3 c4
          simp only[decide_eq_true_eq,length_map] at c2 c4
          cases hr:r67_0 a a.f1 0 with
          |k1 w=>rw[hr] at h; simp only[] at h; subst h; exact absurd hr (ne67 _ _)
          |k0 j b=>
            rw[hr] at h; simp only[] at h
            refine⟨by omega,fun x hx=>?_,by omega,?_⟩
            · obtain⟨k,hk,e⟩:=List.getElem_of_mem hx
              have q:=inl96 (lf67 hr k hk)
              rw[show toNat (0+(k:Int))=k from by omega,getD,List.getElem?_eq_getElem hk,Option.getD_some,e] at q
              exact q
            · unfold m97 at h
              cases ho:r97_0 a.f2 a.f2 0 0 with
              |k0 w j b=>exact fun x hx=>lk125 (lo97 ho x hx)
              |k1=>rw[ho] at h; exact absurd h yM
              |k2 w=>rw[ho] at h; simp only[] at h; subst h; exact absurd ho (ne97 _ _ _)
/-! loop 68_0 -/
inductive O68_0 where
  |k0 (w0:Int) (w1:Bool)
  |k1
def r68_0 (a0:K_G):List K_T→Int→O68_0
  |x0::y0,i=>
    if(!((((length (map b_N x0.f1)):Int)==0)==(i==0)))=true then(O68_0.k1) else
    (r68_0 a0 y0 (i+1))
  |[],i=>(O68_0.k0 i (decide (i <((length (map b_T a0.f4)):Int))))
def h68_0 (l0:Nat) (a0:K_G) (i:Int) :St:=⟨[(0,(.bptr l0 (b_G a0))),(3,(.one (.val (.int .i64 i))))],[]⟩
def ex68_0:O68_0→VX.Exit
  |.k0 _ _=>(.exit 0)
  |.k1=>.ret
def fin68_0 (l0:Nat) (a0:K_G):O68_0→St
  |.k0 w0 w1=>⟨[(0,(.bptr l0 (b_G a0))),(3,(.one (.val (.int .i64 w0)))),(10,(.one (.val (.bool w1))))],[]⟩
  |.k1=>⟨[(2,(.one (.val (.bool false))))],[]⟩
theorem t68_0 {l0:Nat} {a0:K_G} (hy0:length a0.f4*56≤140737488351232) (hy1:∀z∈a0.f4,ok_T z):∀(y0:List K_T) (p:List K_T),p++y0=a0.f4→Ev F X (.code l68_0 (h68_0 l0 a0 (length p:Int)) (ex68_0 (r68_0 a0 y0 (length p:Int))) (fin68_0 l0 a0 (r68_0 a0 y0 (length p:Int))))
  |[],p,hp0=>by
    have hc:=hcn b_T hp0
    exact lx 15 ya (.f (nt hc) (.h 14 (.b false) .nil)) rfl
  |x0::y0,p,hp0=>by
    have hc:=hcy b_T hp0
    have Hx0:=hxy hp0
    obtain⟨Mx0_0,Mx0_1,Mx0_2,Mx0_3⟩:=hy1 x0 (List.mem_of_getElem? Hx0)
    have hlen:=hly hp0
    have hw:wrap .i64 ((length p:Int)+1)=(length p:Int)+1:=wrap64 yb
    simp only[r68_0]
    have f1:0≤(length p:Int):=yb
    have P1 {hs q} (r:PS F X hs q):=(PS.f hc (.f f1 (.f (mp_ b_T Hx0) (.h 14 (.b true) (.h 26 (.row (b_T x0)) r)))))
    by_cases h_1:(!((((length (map b_N x0.f1)):Int)==0)==((length p:Int)==0)))=true
    · try simp only[if_pos h_1]
      exact lx 44 ya (P1 (.f h_1 (.h 41 (.b true) .nil))) rfl
    · try simp only[if_neg h_1]
      have ih:=t68_0 (l0:=l0) (a0:=a0) hy0 hy1 y0 (p++ [x0]) ye
      rw[pl1,← hw] at ih; rw[← hw]
      exact ly 48 ya (P1 (.f (nt h_1) (.f trivial (.h 41 (.b false) .nil)))) ih
/-! loop.example/g00539/spec.l6Bases -/
def m68 (a0:K_G):Bool:=
  (match r68_0 a0 a0.f4 0 with | .k0 w0_0 w1_0=>true | .k1=>false)
theorem e68 {l0:Nat} {a0:K_G} (hy0:length a0.f4*56≤140737488351232) (hy1:∀z∈a0.f4,ok_T z):Ev F X (.call 68 [(.bptr l0 (b_G a0))] [] [] [(.one (.val (.bool (m68 a0))))]):=by
  unfold m68
  cases h0:r68_0 a0 a0.f4 0 with
  |k0 w0_0 w1_0=>
    try dsimp only
    have f0:=Eq.refl (h68_0 l0 a0 0 )
    exact cp ya (.f f0 (.f (ev_ (e:=ex68_0) (g:=(fin68_0 l0 a0)) h0 (t68_0 (l0:=l0) (a0:=a0) (by assumption) (by assumption) a0.f4 []  rfl)) (.h 4 (.loop (h68_0 l0 a0 0) (.exit 0) ⟨[(0,(.bptr l0 (b_G a0))),(3,(.oi w0_0)),(10,(.one (.val (.bool w1_0))))],[]⟩) .nil)))
  |k1=>
    try dsimp only
    have f0:=Eq.refl (h68_0 l0 a0 0 )
    exact cp ya (.f f0 (.f (ev_ (e:=ex68_0) (g:=(fin68_0 l0 a0)) h0 (t68_0 (l0:=l0) (a0:=a0) (by assumption) (by assumption) a0.f4 []  rfl)) (.h 4 (.loop (h68_0 l0 a0 0) .ret ⟨[(2,(.one (.val (.bool false))))],[]⟩) .nil)))
/-! loop 128_0 -/
inductive O128_0 where
  |k0 (w0:Int) (w1:Int) (w2:Bool)
def r128_0 (a0:(List Int)):List Int→Int→Int→O128_0
  |x0::y0,i,v0=>
    (r128_0 a0 y0 (i+1) (Int.tmod (wrap .i64 ((wrap .i64 ((wrap .i64 (v0*33))+(wrap .i64 (x0))))+1)) 2147483647))
  |[],i,v0=>(O128_0.k0 v0 i (decide (i <((length (map b_y a0)):Int))))
def h128_0 (l0_0:Nat) (a0:(List Int)) (i:Int) (v0:Int):St:=⟨[(0,(.one (.bor l0_0 (map b_y a0)))),(3,(.one (.val (.int .i64 v0)))),(4,(.one (.val (.int .i64 i))))],[]⟩
def ex128_0:O128_0→VX.Exit
  |.k0 _ _ _=>(.exit 0)
def fin128_0 (l0_0:Nat) (a0:(List Int)):O128_0→St
  |.k0 w0 w1 w2=>⟨[(0,(.one (.bor l0_0 (map b_y a0)))),(3,(.one (.val (.int .i64 w0)))),(4,(.one (.val (.int .i64 w1)))),(8,(.one (.val (.bool w2))))],[]⟩
theorem t128_0 {l0_0:Nat} {a0:(List Int)} (hy0:length a0*1≤140737488351232):∀(y0:List Int) (p:List Int) (v0:Int),p++y0=a0→Ev F X (.code l128_0 (h128_0 l0_0 a0 (length p:Int) v0) (ex128_0 (r128_0 a0 y0 (length p:Int) v0)) (fin128_0 l0_0 a0 (r128_0 a0 y0 (length p:Int) v0)))
  |[],p,v0,hp0=>by
    have hc:=hcn b_y hp0
    exact lx 9 ya (.f (nt hc) (.h 8 (.b false) .nil)) rfl
  |x0::y0,p,v0,hp0=>by
    have hc:=hcy b_y hp0
    have Hx0:=hxy hp0
    have hlen:=hly hp0
    have hw:wrap .i64 ((length p:Int)+1)=(length p:Int)+1:=wrap64 yb
    simp only[r128_0]
    have f1:0≤(length p:Int):=yb
    have f5:(2147483647:Int)≠0:=yb
    have ih:=t128_0 (l0_0:=l0_0) (a0:=a0) hy0 y0 (p++ [x0]) (Int.tmod (wrap .i64 ((wrap .i64 ((wrap .i64 (v0*33))+(wrap .i64 (x0))))+1)) 2147483647) ye
    rw[pl1,← hw] at ih; rw[← hw]
    exact ly 37 ya (.f hc (.f f1 (.f (mp_ b_y Hx0) (.f trivial (.f trivial (.f f5 (.f trivial (.h 8 (.b true) (.h 18 (.row [(.val (.int .u8 x0))]) .nil))))))))) ih
/-! loop.example/g00539/spec.l1Sum -/
def m128 (a0:(List Int)):Int:=
  (match r128_0 a0 a0 0 5381 with | .k0 w0_0 w1_0 w2_0=>w0_0)
theorem e128 {l0_0:Nat} {a0:(List Int)} (hy0:length a0*1≤140737488351232):Ev F X (.call 128 [(.one (.bor l0_0 (map b_y a0)))] [] [] [(.one (.val (.int .i64 (m128 a0))))]):=by
  unfold m128
  cases h0:r128_0 a0 a0 0 5381 with
  |k0 w0_0 w1_0 w2_0=>
    try dsimp only
    have f0:=Eq.refl (h128_0 l0_0 a0 0 5381)
    exact cp ya (.f f0 (.f (ev_ (e:=ex128_0) (g:=(fin128_0 l0_0 a0)) h0 (t128_0 (l0_0:=l0_0) (a0:=a0) (by assumption) a0 [] 5381 rfl)) (.h 6 (.loop (h128_0 l0_0 a0 0 5381) (.exit 0) ⟨[(0,(.one (.bor l0_0 (map b_y a0)))),(3,(.oi w0_0)),(4,(.oi w1_0)),(8,(.one (.val (.bool w2_0))))],[]⟩) .nil)))
/-! loop.example/g00539/spec.l1Four -/
def m145 (a0:Int):(List Int):=
  [(wrap .u8 ((Int.fdiv a0 (2 ^(min (toNat 24) (IntKind.bits .i64)))))),(wrap .u8 ((Int.fdiv a0 (2 ^(min (toNat 16) (IntKind.bits .i64)))))),(wrap .u8 ((Int.fdiv a0 (2 ^(min (toNat 8) (IntKind.bits .i64)))))),(wrap .u8 (a0))]
theorem e145 {a0:Int}:Ev F X (.call 145 [(.one (.val (.int .i64 a0)))] [] [] [(.one (.own 1 (map d_y (m145 a0))))]):=by
  have f0:0≤(24:Int):=yb
  have f1:0≤(16:Int):=yb
  have f2:0≤(8:Int):=yb
  have f5:pureR [[(.val (.int .u8 (wrap .u8 ((Int.fdiv a0 (2 ^(min (toNat 24) (IntKind.bits .i64))))))))],[(.val (.int .u8 (wrap .u8 ((Int.fdiv a0 (2 ^(min (toNat 16) (IntKind.bits .i64))))))))],[(.val (.int .u8 (wrap .u8 ((Int.fdiv a0 (2 ^(min (toNat 8) (IntKind.bits .i64))))))))],[(.val (.int .u8 (wrap .u8 (a0))))]]=true:=yi
  exact cp ya (.f f0 (.f f1 (.f f2 (pe 0 (pe 4 (.f f5 .nil))))))
theorem four_len (a:Int):length (m145 a)=4:=rfl
/-! loop 113_0 -/
inductive O113_0 where
  |k0 (w0:List Int) (w1:Int) (w2:Bool)
def r113_0 (a0:(List Int)):List Int→Int→List Int→O113_0
  |x0::y0,i,v0=>
    (r113_0 a0 y0 (i+1) (v0++(m145 x0)))
  |[],i,v0=>(O113_0.k0 v0 i (decide (i <((length (map b_i a0)):Int))))
def h113_0 (l0_0:Nat) (a0:(List Int)) (i:Int) (v0:List Int):St:=⟨[(0,(.one (.bor l0_0 (map b_i a0)))),(3,(.one (.ref ⟨(3,0,0),[],0,(length (map d_y v0))⟩))),(4,(.one (.val (.int .i64 i))))],[((3,0,0),.live ⟨1,(map d_y v0),[]⟩)]⟩
def ex113_0:O113_0→VX.Exit
  |.k0 _ _ _=>(.exit 0)
def fin113_0 (l0_0:Nat) (a0:(List Int)):O113_0→St
  |.k0 w0 w1 w2=>⟨[(0,(.one (.bor l0_0 (map b_i a0)))),(3,(.one (.ref ⟨(3,0,0),[],0,(length (map d_y w0))⟩))),(4,(.one (.val (.int .i64 w1)))),(9,(.one (.val (.bool w2))))],[((3,0,0),.live ⟨1,(map d_y w0),[]⟩)]⟩
theorem t113_0 {l0_0:Nat} {a0:(List Int)} (hy0:length a0≤1000):∀(y0:List Int) (p:List Int) (v0:List Int),p++y0=a0→length v0+4*length y0≤4000→Ev F X (.code l113_0 (h113_0 l0_0 a0 (length p:Int) v0) (ex113_0 (r113_0 a0 y0 (length p:Int) v0)) (fin113_0 l0_0 a0 (r113_0 a0 y0 (length p:Int) v0)))
  |[],p,v0,hp0,hi0=>by
    have hc:=hcn b_i hp0
    have hj0:=hi0; try simp only[LN,Int.toNat_natCast] at hj0
    exact lx 9 ya (.f (nt hc) (.h 8 (.b false) .nil)) rfl
  |x0::y0,p,v0,hp0,hi0=>by
    have hc:=hcy b_i hp0
    have Hx0:=hxy hp0
    have hlen:=hly hp0
    have hw:wrap .i64 ((length p:Int)+1)=(length p:Int)+1:=wrap64 yb
    have hj0:=hi0; try simp only[LN,Int.toNat_natCast] at hj0
    simp only[r113_0]
    have f1:0≤(length p:Int):=yb
    have f4:0+(length (map d_y v0))≤(length (map d_y v0)):=yb
    have f5:0+(length (map d_y (m145 x0)))≤(length (map d_y (m145 x0))):=yb
    have f6:((take (length (map d_y (m145 x0))) (drop 0 (map d_y (m145 x0)))).all fun x=>x.all copyable)=true:=(ct_y _ _ _)
    have f7:(length ((take (length (map d_y v0)) (drop 0 (map d_y v0)))++(take (length (map d_y (m145 x0))) (drop 0 (map d_y (m145 x0))))))*1≤70368744177664:=yN
    have f8:∀r∈((take (length (map d_y (m145 x0))) (drop 0 (map d_y (m145 x0)))):List (List D)),r.length=1:=yd
    have f9:((take (length (map d_y v0)) (drop 0 (map d_y v0)))++(take (length (map d_y (m145 x0))) (drop 0 (map d_y (m145 x0)))))=(map d_y (v0++(m145 x0))):=yn
    have st:=ch b113_0 (h113_0 l0_0 a0 (length p:Int) v0) ⟨[(0,(.one (.bor l0_0 (map b_i a0)))),(3,(.one (.ref ⟨(3,0,0),[],0,(length ((take (length (map d_y v0)) (drop 0 (map d_y v0)))++(take (length (map d_y (m145 x0))) (drop 0 (map d_y (m145 x0))))))⟩))),(4,(.oi (wrap .i64 ((length p:Int)+1))))],[((3,0,0),.live ⟨1,(map d_y (v0++(m145 x0))),[]⟩)]⟩ .normal 32 ya (.f hc (.f f1 (.f (mp_ b_i Hx0) (.h 8 (.b true) (.h 16 (.row [(.i x0)]) (.r 20 [] [] (e145 (a0:=x0)) (.f f4 (.f f5 (.f f6 (.f f7 (.f f8 (.f f9 (.f trivial (.h 22 (.b true) (.h 25 (.norm (3,0,0) (map d_y (v0++(m145 x0)))) .nil)))))))))))))))
    have ih:=t113_0 (l0_0:=l0_0) (a0:=a0) hy0 y0 (p++ [x0]) (v0++(m145 x0)) ye yN
    rw[pl1] at ih
    rw[show (⟨[(0,(.one (.bor l0_0 (map b_i a0)))),(3,(.one (.ref ⟨(3,0,0),[],0,(length ((take (length (map d_y v0)) (drop 0 (map d_y v0)))++(take (length (map d_y (m145 x0))) (drop 0 (map d_y (m145 x0))))))⟩))),(4,(.oi (wrap .i64 ((length p:Int)+1))))],[((3,0,0),.live ⟨1,(map d_y (v0++(m145 x0))),[]⟩)]⟩:St)=h113_0 l0_0 a0 ((length p:Int)+1) (v0++(m145 x0)) from(by unfold h113_0; simp[hw,take_of_length_le,d_y,ol112,ol83,ol84,ol51,ol45_0,ol12_0,four_len]; done)] at st
    exact .loopN st ih
theorem sl113 {a:List Int}:∀ {l:List Int} {i:Int} {v w:List Int} {j b},r113_0 a l i v=.k0 w j b→w.length=v.length+4*l.length
  |[],i,v,w,j,b,h=>by simp only[r113_0] at h; injection h with h; subst h; simp
  |x::l,i,v,w,j,b,h=>by
    simp only[r113_0] at h
    have q:=sl113 h
    simp only[length_append,length_cons,four_len] at q⊢; omega
/-! loop.example/g00539/spec.l1SumInts -/
def m113 (a0:(List Int)):Int:=
  (match r113_0 a0 a0 0 ([]) with | .k0 w0_0 w1_0 w2_0=>(m128 w0_0))
theorem e113 {l0_0:Nat} {a0:(List Int)} (hy0:length a0≤1000):Ev F X (.call 113 [(.one (.bor l0_0 (map b_i a0)))] [] [] [(.one (.val (.int .i64 (m113 a0))))]):=by
  unfold m113
  cases h0:r113_0 a0 a0 0 ([]) with
  |k0 w0_0 w1_0 w2_0=>
    try dsimp only
    have f0:=Eq.refl (h113_0 l0_0 a0 0 ([]))
    exact cp ya (.f f0 (.f (ev_ (e:=ex113_0) (g:=(fin113_0 l0_0 a0)) h0 (t113_0 (l0_0:=l0_0) (a0:=a0) (by assumption) a0 [] ([]) rfl yN)) (ln_y w0_0 (.h 8 (.loop (h113_0 l0_0 a0 0 ([])) (.exit 0) ⟨[(0,(.one (.bor l0_0 (map b_i a0)))),(3,(.one (.ref ⟨(3,0,0),[],0,(length (map d_y w0_0))⟩))),(4,(.oi w1_0)),(9,(.one (.val (.bool w2_0))))],[((3,0,0),.live ⟨1,(map d_y w0_0),[]⟩)]⟩) (.r 12 [] [(map b_y w0_0)] (e128 (l0_0:=0) (a0:=w0_0) (by have q:=sl113 ‹_›; simp only[length_nil] at q; omega)) .nil)))))
theorem e126 {a0:Int} {a1:Int}:Ev F X (.call 126 [(.one (.val (.int .i64 a0))),(.one (.val (.int .i64 a1)))] [] [] [(.one (.val (.int .i64 (m113 [a0,a1]))))]):=by
  have f0:2≤2:=yb
  have f1:fullR (take 2 (drop 0 [[(.i a0)],[(.i a1)]]))=true:=yL
  have f2:toBR (take 2 (drop 0 [[(.i a0)],[(.i a1)]]))=[[(.i a0)],[(.i a1)]]:=yL
  exact cp ya (.f f0 (.f f1 (.f f2 (.r 9 [] [[[(.i a0)],[(.i a1)]]] (e113 (l0_0:=0) (a0:=[a0,a1]) (by simp only[length_cons,length_nil]; omega)) .nil))))
/-! loop.example/g00539/spec.l4Mate -/
def m127 (a0:(List Int)) (a1:Int):Int:=
  if ((Int.tmod a1 2) == 1) = true then (if (decide ((wrap .i64 (a1 - 1)) ≥ ((length (map b_i a0)) : Int))) = true then (getD a0 (toNat a1) 0) else
    (getD a0 (toNat (wrap .i64 (a1 - 1))) 0)) else
  if(decide ((wrap .i64 (a1+1))≥((length (map b_i a0)):Int)))=true then(getD a0 (toNat a1) 0) else
    (getD a0 (toNat (wrap .i64 (a1+1))) 0)
theorem e127 {l0_0:Nat} {a0:(List Int)} {a1:Int} (hy0:0≤a1) (hy1:a1 <(length a0:Int)) (hy2:length a0≤1000):Ev F X (.call 127 [(.one (.bor l0_0 (map b_i a0))),(.one (.val (.int .i64 a1)))] [] [] [(.one (.val (.int .i64 (m127 a0 a1))))]):=by
  unfold m127
  have f1:(2:Int)≠0:=yb
  by_cases h0:((Int.tmod a1 2)==1)=true
  · try simp only[if_pos h0]
    by_cases h1:(decide ((wrap .i64 (a1 - 1))≥((length (map b_i a0)):Int)))=true
    · try simp only[if_pos h1]
      have f4:0≤a1:=‹_›
      exact cp ya (.f trivial (.f f1 (.f h0 (.f h1 (.f f4 (.f (mp_ b_i (getD_at a0 (toNat a1) 0 yb)) (.h 14 (.b true) (.h 29 (.b true) (.h 39 (.row [(.i (getD a0 (toNat a1) 0))]) .nil)))))))))
    · try simp only[if_neg h1]
      have f4:0≤(wrap .i64 (a1 - 1)):=(by have q:=md1 hy0 ‹_›; rw[wrap64 yb]; omega)
      exact cp ya (.f trivial (.f f1 (.f h0 (.f (nt h1) (.f f4 (.f (mp_ b_i (getD_at a0 (toNat (wrap .i64 (a1 - 1))) 0 (by have q:=md1 hy0 ‹_›; rw[wrap64 yb]; omega))) (.h 14 (.b true) (.h 29 (.b false) (.h 35 (.row [(.i (getD a0 (toNat (wrap .i64 (a1 - 1))) 0))]) .nil)))))))))
  · try simp only[if_neg h0]
    by_cases h1:(decide ((wrap .i64 (a1+1))≥((length (map b_i a0)):Int)))=true
    · try simp only[if_pos h1]
      have f4:0≤a1:=‹_›
      exact cp ya (.f trivial (.f f1 (.f (nt h0) (.f h1 (.f f4 (.f (mp_ b_i (getD_at a0 (toNat a1) 0 yb)) (.h 14 (.b false) (.h 23 (.b true) (.h 33 (.row [(.i (getD a0 (toNat a1) 0))]) .nil)))))))))
    · try simp only[if_neg h1]
      have f4:0≤(wrap .i64 (a1+1)):=yah
      exact cp ya (.f trivial (.f f1 (.f (nt h0) (.f (nt h1) (.f f4 (.f (mp_ b_i (getD_at a0 (toNat (wrap .i64 (a1+1))) 0 yai)) (.h 14 (.b false) (.h 23 (.b false) (.h 29 (.row [(.i (getD a0 (toNat (wrap .i64 (a1+1))) 0))]) .nil)))))))))
/-! loop 98_0 -/
inductive O98_0 where
  |k0 (w0:List Int) (w1:Int) (w2:Bool)
def r98_0 (a0:(List Int)):Nat→List Int→Int→O98_0
  |n+1,v0,v2=>
    if(decide (v2 <((length (map b_i a0)):Int)))=true then(r98_0 a0 n (v0++([(m113 [(getD a0 (toNat v2) 0),(m127 a0 v2)])])) (wrap .i64 (v2+2))) else
    (O98_0.k0 v0 v2 (decide (v2 <((length (map b_i a0)):Int))))
  |0,v0,v2=>(O98_0.k0 v0 v2 (decide (v2 <((length (map b_i a0)):Int))))
def h98_0 (l0_0:Nat) (a0:(List Int)) (v0:List Int) (v2:Int):St:=⟨[(0,(.one (.bor l0_0 (map b_i a0)))),(3,(.one (.ref ⟨(3,0,0),[],0,(length (map d_i v0))⟩))),(4,(.one (.val (.int .i64 v2))))],[((3,0,0),.live ⟨1,(map d_i v0),[]⟩)]⟩
def ex98_0:O98_0→VX.Exit
  |.k0 _ _ _=>(.exit 0)
def fin98_0 (l0_0:Nat) (a0:(List Int)):O98_0→St
  |.k0 w0 w1 w2=>⟨[(0,(.one (.bor l0_0 (map b_i a0)))),(3,(.one (.ref ⟨(3,0,0),[],0,(length (map d_i w0))⟩))),(4,(.one (.val (.int .i64 w1)))),(9,(.one (.val (.bool w2))))],[((3,0,0),.live ⟨1,(map d_i w0),[]⟩)]⟩
theorem t98_0 {l0_0:Nat} {a0:(List Int)} (hy0:length a0≤1000):∀(n:Nat) (v0:List Int) (v2:Int),0≤v2→v2≤(length a0:Int)+1→2*(length v0:Int)=v2→toNat ((length a0:Int) - v2)≤n→Ev F X (.code l98_0 (h98_0 l0_0 a0 v0 v2) (ex98_0 (r98_0 a0 n v0 v2)) (fin98_0 l0_0 a0 (r98_0 a0 n v0 v2)))
  |0,v0,v2,hi0,hi1,hi2,hn=>by
    have hc:¬(decide (v2 <((length (map b_i a0)):Int)))=true:=by first |(exact fuel64_zero hn) |(simp only[decide_eq_true_eq] at*; omega) |(simp at*; omega)
    exact lx 9 ya (.f (nt hc) (.h 8 (.b false) .nil)) rfl
  |n+1,v0,v2,hi0,hi1,hi2,hn=>by
    simp only[r98_0]
    by_cases h_0:(decide (v2 <((length (map b_i a0)):Int)))=true
    · try simp only[if_pos h_0]
      have f1:0≤v2:=‹_›
      have f5:0+(length (map d_i v0))≤(length (map d_i v0)):=yb
      have f6:1≤1:=yb
      have f7:((take 1 (drop 0 [[(.i (m113 [(getD a0 (toNat v2) 0),(m127 a0 v2)]))]])).all fun x=>x.all copyable)=true:=yL
      have f8:(length ((take (length (map d_i v0)) (drop 0 (map d_i v0)))++([[(.i (m113 [(getD a0 (toNat v2) 0),(m127 a0 v2)]))]]:List (List D))))*8≤70368744177664:=ys
      have f9:∀r∈([[(.i (m113 [(getD a0 (toNat v2) 0),(m127 a0 v2)]))]]:List (List D)),r.length=1:=(by unfold m113 m127;(repeat' split)<;>simp_all<;>omega)
      have f10:((take (length (map d_i v0)) (drop 0 (map d_i v0)))++([[(.i (m113 [(getD a0 (toNat v2) 0),(m127 a0 v2)]))]]:List (List D)))=(map d_i (v0++([(m113 [(getD a0 (toNat v2) 0),(m127 a0 v2)])]))):=yV
      have st:=ch b98_0 (h98_0 l0_0 a0 v0 v2) ⟨[(0,(.one (.bor l0_0 (map b_i a0)))),(3,(.one (.ref ⟨(3,0,0),[],0,(length ((take (length (map d_i v0)) (drop 0 (map d_i v0)))++([[(.i (m113 [(getD a0 (toNat v2) 0),(m127 a0 v2)]))]]:List (List D))))⟩))),(4,(.oi (wrap .i64 (v2+2))))],[((3,0,0),.live ⟨1,(map d_i (v0++([(m113 [(getD a0 (toNat v2) 0),(m127 a0 v2)])]))),[]⟩)]⟩ .normal 40 ya (.f h_0 (.f f1 (.f (mp_ b_i (getD_at a0 (toNat v2) 0 ys)) (.h 8 (.b true) (.h 16 (.row [(.i (getD a0 (toNat v2) 0))]) (.r 24 [] [] (e127 (l0_0:=(l0_0+1)) (a0:=a0) (a1:=v2) ‹_› ys ‹_›) (.r 26 [] [] (e126 (a0:=(getD a0 (toNat v2) 0)) (a1:=(m127 a0 v2))) (.f f5 (.f f6 (.f f7 (.f f8 (.f f9 (.f f10 (.f trivial (.h 30 (.b true) (.h 33 (.norm (3,0,0) (map d_i (v0++([(m113 [(getD a0 (toNat v2) 0),(m127 a0 v2)])])))) .nil))))))))))))))))
      have ih:=t98_0 (l0_0:=l0_0) (a0:=a0) hy0 n (v0++([(m113 [(getD a0 (toNat v2) 0),(m127 a0 v2)])])) (wrap .i64 (v2+2)) yh yh yh yh
      rw[show (⟨[(0,(.one (.bor l0_0 (map b_i a0)))),(3,(.one (.ref ⟨(3,0,0),[],0,(length ((take (length (map d_i v0)) (drop 0 (map d_i v0)))++([[(.i (m113 [(getD a0 (toNat v2) 0),(m127 a0 v2)]))]]:List (List D))))⟩))),(4,(.oi (wrap .i64 (v2+2))))],[((3,0,0),.live ⟨1,(map d_i (v0++([(m113 [(getD a0 (toNat v2) 0),(m127 a0 v2)])]))),[]⟩)]⟩:St)=h98_0 l0_0 a0 (v0++([(m113 [(getD a0 (toNat v2) 0),(m127 a0 v2)])])) (wrap .i64 (v2+2)) from(by unfold h98_0; simp[take_of_length_le,d_i,ol112,ol83,ol84,ol51,ol45_0,ol12_0,four_len]; done)] at st
      exact .loopN st ih
    · try simp only[if_neg h_0]
      exact lx 9 ya (.f (nt h_0) (.h 8 (.b false) .nil)) rfl
/-! loop 98_0,behind -/
def post98_0 (a0:(List Int)):O98_0→Prop
  |.k0 w0 _ _=>2*(length w0:Int)≤(length a0:Int)+1
theorem z98_0 {a0:(List Int)} (hy0:length a0≤1000):∀(n:Nat) (v0:List Int) (v2:Int),0≤v2→v2≤(length a0:Int)+1→2*(length v0:Int)=v2→post98_0 a0 (r98_0 a0 n v0 v2)
  |0,v0,v2,hi0,hi1,hi2=>by
    simp only[r98_0]
    first | trivial |(show _ ; simp only[post98_0]; omega) |(simp only[post98_0] at*; omega) |(simp only[decide_eq_true_eq,length_map,length_append,length_cons,length_nil] at*; rw[wrap64 yb]; omega) |(simp; done) |(simp only[decide_eq_true_eq] at*; omega)
  |n+1,v0,v2,hi0,hi1,hi2=>by
    simp only[r98_0]
    by_cases h_0:(decide (v2 <((length (map b_i a0)):Int)))=true
    · try simp only[if_pos h_0]
      exact z98_0 (a0:=a0) hy0 n (v0++([(m113 [(getD a0 (toNat v2) 0),(m127 a0 v2)])])) (wrap .i64 (v2+2)) yh yh yh
    · try simp only[if_neg h_0]
      first | trivial |(show _ ; simp only[post98_0]; omega) |(simp only[post98_0] at*; omega) |(simp only[decide_eq_true_eq,length_map,length_append,length_cons,length_nil] at*; rw[wrap64 yb]; omega) |(simp; done) |(simp only[decide_eq_true_eq] at*; omega)
/-! loop.example/g00539/spec.l4Above -/
def m98 (a0:(List Int)):(List Int):=
  (match r98_0 a0 (toNat ((length a0:Int) - 0)) ([]) 0 with | .k0 w0_0 w1_0 w2_0=>w0_0)
theorem e98 {l0_0:Nat} {a0:(List Int)} (hy0:length a0≤1000):Ev F X (.call 98 [(.one (.bor l0_0 (map b_i a0)))] [] [] [(.one (.own 1 (map d_i (m98 a0))))]):=by
  unfold m98
  cases h0:r98_0 a0 (toNat ((length a0:Int) - 0)) ([]) 0 with
  |k0 w0_0 w1_0 w2_0=>
    try dsimp only
    have zh0:=z98_0 (a0:=a0) (by assumption) (toNat ((length a0:Int) - 0)) ([]) 0 yb yb (by rfl); rw[h0] at zh0; simp only[post98_0] at zh0
    have f0:=Eq.refl (h98_0 l0_0 a0 ([]) 0)
    exact cp ya (.f f0 (.f (ev_ (e:=ex98_0) (g:=(fin98_0 l0_0 a0)) h0 (t98_0 (l0_0:=l0_0) (a0:=a0) (by assumption) (toNat ((length a0:Int) - 0)) ([]) 0 yb yb (by rfl) (Nat.le_refl _))) (pe 0 (pe (length (map d_i w0_0)) (.f (pureR_i w0_0) (.h 8 (.loop (h98_0 l0_0 a0 ([]) 0) (.exit 0) ⟨[(0,(.one (.bor l0_0 (map b_i a0)))),(3,(.one (.ref ⟨(3,0,0),[],0,(length (map d_i w0_0))⟩))),(4,(.oi w1_0)),(9,(.one (.val (.bool w2_0))))],[((3,0,0),.live ⟨1,(map d_i w0_0),[]⟩)]⟩) .nil))))))
theorem abl98 (a:List Int) (h:a.length≤1000):2*(m98 a).length≤a.length+1:=by
  have z:=z98_0 (a0:=a) h (toNat ((length a:Int) - 0)) [] 0 yb yb (by simp)
  show 2*(match r98_0 a (toNat ((length a:Int) - 0)) [] 0 with | .k0 w _ _=>w).length≤a.length+1
  revert z
  generalize r98_0 a (toNat ((length a:Int) - 0)) [] 0=r
  intro z
  cases r with
  |k0 w0 w1 w2=>simp only[post98_0] at z; show 2*w0.length≤_; omega
/-! loop 69_1 -/
inductive O69_1 where
  |k0 (w0:Int) (w1:Bool)
  |k1
def r69_1 (c0_69_1:List Int):Nat→Int→O69_1
  |n+1,v0=>
    if (decide ((wrap .i64 (v0 + 1)) < ((length (map d_i c0_69_1)) : Int))) = true then (if ((getD c0_69_1 (toNat v0) 0) == (getD c0_69_1 (toNat (wrap .i64 (v0 + 1))) 0)) = true then (O69_1.k1) else
      (r69_1 c0_69_1 n (wrap .i64 (v0+2)))) else
    (O69_1.k0 v0 (decide ((wrap .i64 (v0+1)) <((length (map d_i c0_69_1)):Int))))
  |0,v0=>(O69_1.k0 v0 (decide ((wrap .i64 (v0+1)) <((length (map d_i c0_69_1)):Int))))
def h69_1 (a0:(List Int)) (c0_69_1:List Int) (v0:Int):St:=⟨[(3,(.one (.ref ⟨(3,0,0),[],0,(length (map d_i c0_69_1))⟩))),(4,(.one (.val (.int .i64 v0))))],[((3,0,0),.live ⟨1,(map d_i c0_69_1),[]⟩)]⟩
def ex69_1:O69_1→VX.Exit
  |.k0 _ _=>(.exit 2)
  |.k1=>.ret
def fin69_1 (a0:(List Int)) (c0_69_1:List Int):O69_1→St
  |.k0 w0 w1=>⟨[(3,(.one (.ref ⟨(3,0,0),[],0,(length (map d_i c0_69_1))⟩))),(4,(.one (.val (.int .i64 w0)))),(13,(.one (.val (.bool w1))))],[((3,0,0),.live ⟨1,(map d_i c0_69_1),[]⟩)]⟩
  |.k1=>⟨[(2,(.one (.val (.bool true))))],[]⟩
theorem t69_1 {a0:(List Int)} {c0_69_1:List Int} (hy0:length c0_69_1≤140737488351232):∀(n:Nat) (v0:Int),0≤v0→v0≤(length c0_69_1:Int)+2→length c0_69_1≤1000→toNat ((length c0_69_1:Int) - v0)≤n→Ev F X (.code l69_1 (h69_1 a0 c0_69_1 v0) (ex69_1 (r69_1 c0_69_1 n v0)) (fin69_1 a0 c0_69_1 (r69_1 c0_69_1 n v0)))
  |0,v0,hi0,hi1,hi2,hn=>by
    have hc:¬(decide ((wrap .i64 (v0+1)) <((length (map d_i c0_69_1)):Int)))=true:=by first |(have e1:wrap .i64 (v0+1)=v0+1:=wrap64 yb; have e0:wrap .i64 (v0 - 1)=v0 - 1:=wrap64 yb; have e2:wrap .i64 (v0+2)=v0+2:=wrap64 yb; simp only[decide_eq_true_eq,length_map,e1,e0,e2]; omega) |(exact fuel64_zero hn) |(simp only[decide_eq_true_eq] at*; omega) |(simp at*; omega)
    exact lx 11 ya (.f trivial (.f (nt hc) (.h 10 (.b false) .nil))) rfl
  |n+1,v0,hi0,hi1,hi2,hn=>by
    simp only[r69_1]
    by_cases h_0:(decide ((wrap .i64 (v0+1)) <((length (map d_i c0_69_1)):Int)))=true
    · try simp only[if_pos h_0]
      have f2:0+(length (map d_i c0_69_1))≤(length (map d_i c0_69_1)):=yb
      have f3:0≤v0∧v0 <((length (map d_i c0_69_1)):Int):=yc
      have f7:0≤(wrap .i64 (v0+1))∧(wrap .i64 (v0+1)) <((length (map d_i c0_69_1)):Int):=yc
      have P1 {hs q} (r:PS F X hs q):=(PS.f trivial (.f h_0 (.f f2 (.f f3 (.f (mz_ d_i (getD_at c0_69_1 (toNat v0) 0 yc)) (.f trivial (.f f2 (.f f7 (.f (mz_ d_i (getD_at c0_69_1 (toNat (wrap .i64 (v0+1))) 0 yc)) (.h 10 (.b true) (.h 18 (.rowD [(.i (getD c0_69_1 (toNat v0) 0))]) (.h 28 (.rowD [(.i (getD c0_69_1 (toNat (wrap .i64 (v0+1))) 0))]) r))))))))))))
      by_cases h_1:((getD c0_69_1 (toNat v0) 0)==(getD c0_69_1 (toNat (wrap .i64 (v0+1))) 0))=true
      · try simp only[if_pos h_1]
        exact lx 34 ya (P1 (.f h_1 (.h 31 (.b true) .nil))) rfl
      · try simp only[if_neg h_1]
        have ih:=t69_1 (a0:=a0) (c0_69_1:=c0_69_1) hy0 n (wrap .i64 (v0+2)) yc yc (by assumption) yc
        exact ly 38 ya (P1 (.f (nt h_1) (.f trivial (.h 31 (.b false) .nil)))) ih
    · try simp only[if_neg h_0]
      exact lx 11 ya (.f trivial (.f (nt h_0) (.h 10 (.b false) .nil))) rfl
end Go.Proofs.YtmdocdnidilaiaaGreat.PutJob
