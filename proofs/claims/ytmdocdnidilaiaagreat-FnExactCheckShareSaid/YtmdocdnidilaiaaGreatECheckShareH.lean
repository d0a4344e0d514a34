/- What the functions compute. -/
import Derived.Test.YtmdocdnidilaiaaGreatECheckShareG
import Derived.KernelRfl
namespace Go.Proofs.YtmdocdnidilaiaaGreat.CheckShare
open Go Go.Proofs.YtmdocdnidilaiaaGreat.V
set_option linter.unusedVariables false
set_option linter.unusedSimpArgs false
set_option maxRecDepth 20000
open Go.IntKind (wrap)
open Int (toNat)
open List (length_replicate length_map length_set length_append length_cons length_nil length_take length_drop take_of_length_le map_take map_drop map_set append_assoc getElem?_map map length take drop getD set)
attribute [local simp] toBR_i fullR_i pureR_i lenB_i lenD_i fromBR_i copy_i toBR_N fullR_N pureR_N lenB_N lenD_N toBR_U fullR_U pureR_U lenB_U lenD_U toBR_T fullR_T pureR_T lenB_T lenD_T toBR_J fullR_J pureR_J lenB_J lenD_J toBR_JL fullR_JL pureR_JL lenB_JL lenD_JL toBR_KY fullR_KY pureR_KY lenB_KY lenD_KY fromBR_KY copy_KY toBR_LiiiiE fullR_LiiiiE pureR_LiiiiE lenB_LiiiiE lenD_LiiiiE toBR_b fullR_b pureR_b lenB_b lenD_b fromBR_b copy_b toBR_SR fullR_SR pureR_SR lenB_SR lenD_SR toBR_G fullR_G pureR_G lenB_G lenD_G toBR_TL fullR_TL pureR_TL lenB_TL lenD_TL toBR_LiE fullR_LiE pureR_LiE lenB_LiE lenD_LiE toBR_NL fullR_NL pureR_NL lenB_NL lenD_NL toBR_UL fullR_UL pureR_UL lenB_UL lenD_UL strInts_len byteRows_len toBR_y fullR_y pureR_y lenB_y lenD_y fromBR_y copy_y toBR_LyE fullR_LyE pureR_LyE lenB_LyE lenD_LyE toBR_LLyEE fullR_LLyEE pureR_LLyEE lenB_LLyEE lenD_LLyEE
def m57 (a0:(List K_KY)):Int:=
  if(decide (((length (map b_KY a0)):Int) > 40))=true then 2 else
  (match r57_0 a0 a0 0 with | .k0 w0_1 w1_1=>0 | .k1=>3 | .k2=>6)
theorem e57 {l0_0:Nat} {a0:(List K_KY)} (hy0:length a0*32≤140737488351232):Ev F X (.call 57 [(.one (.bor l0_0 (map b_KY a0)))] [] [] [(.one (.val (.int .i64 (m57 a0))))]):=by
  unfold m57
  by_cases h0:(decide (((length (map b_KY a0)):Int) > 40))=true
  · try simp only[if_pos h0]
    exact cp ya (.f h0 (.h 8 (.b true) .nil))
  · try simp only[if_neg h0]
    cases h1:r57_0 a0 a0 0 with
    |k0 w0_1 w1_1=>
      try dsimp only
      have f1:=Eq.refl (h57_0 l0_0 a0 0 )
      exact cp ya (.f (nt h0) (.f f1 (.f (ev_ (e:=ex57_0) (g:=(fin57_0 l0_0 a0)) h1 (t57_0 (l0_0:=l0_0) (a0:=a0) (by assumption) a0 []  rfl)) (.h 8 (.b false) (.h 15 (.loop (h57_0 l0_0 a0 0) (.exit 0) (fin57_0 l0_0 a0 (.k0 w0_1 w1_1))) .nil)))))
    |k1=>
      try dsimp only
      have f1:=Eq.refl (h57_0 l0_0 a0 0 )
      exact cp ya (.f (nt h0) (.f f1 (.f (ev_ (e:=ex57_0) (g:=(fin57_0 l0_0 a0)) h1 (t57_0 (l0_0:=l0_0) (a0:=a0) (by assumption) a0 []  rfl)) (.h 8 (.b false) (.h 15 (.loop (h57_0 l0_0 a0 0) .ret (fin57_0 l0_0 a0 (.k1))) .nil)))))
    |k2=>
      try dsimp only
      have f1:=Eq.refl (h57_0 l0_0 a0 0 )
      exact cp ya (.f (nt h0) (.f f1 (.f (ev_ (e:=ex57_0) (g:=(fin57_0 l0_0 a0)) h1 (t57_0 (l0_0:=l0_0) (a0:=a0) (by assumption) a0 []  rfl)) (.h 8 (.b false) (.h 15 (.loop (h57_0 l0_0 a0 0) .ret (fin57_0 l0_0 a0 (.k2))) .nil)))))
theorem e59 {a0:Int}:Ev F X (.call 59 [(.one (.val (.int .i64 a0)))] [] [] [(.one (.val (.bool (m41 a0 1 9999))))]):=by
  exact cp ya (.r 5 [] [] (e41 (a0:=a0) (a1:=1) (a2:=9999)) .nil)
theorem e156 {a0:List Int} {l0:Nat} (hy0:length a0*8≤70368744177664):Ev F X (.call 156 [(.one (.bor l0 (map b_i a0)))] [] [] [(.one (.own 1 (map d_i a0)))]):=by
  refine .ext (.inl ⟨rfl,rfl,?_⟩) rfl
  have e:fromBR l0 (map b_i a0)=map d_i a0:=by first | exact fromBR_i .. | simp[fromBR_i]
  refine⟨l0,_,rfl,by rw[e],by rw[e]; simpa using hy0,by rw[e]; exact lenD_i _,by rw[e]; first | exact pureR_i _ | simp[pureR_i]⟩
inductive O132_0 where
  |k0 (w0:List K_N) (w1:Int) (w2:Bool)
def r132_0 (a0:K_T):List K_N→Int→List K_N→O132_0
  |x0::y0,i,v0=>
    (r132_0 a0 y0 (i+1) (v0++([x0])))
  |[],i,v0=>(O132_0.k0 v0 i (decide (i <((length (map b_N a0.f1)):Int))))
def h132_0 (l0_1:Nat) (l0_2:Nat) (a0:K_T) (i:Int) (v0:List K_N):St:=⟨[(1,(.ptr ⟨(1,0,0),[],0,0,3⟩)),(2,(.ptr ⟨(2,0,0),[],0,0,3⟩)),(3,(.ptr ⟨(3,0,0),[],0,0,3⟩)),(12,(.one (.bor l0_1 (map b_N a0.f1)))),(13,(.one (.val (.int .i64 ((length (map b_N a0.f1)):Int))))),(14,(.one (.val (.int .i64 i))))],[((1,0,0),.live ⟨3,[[(.val (.int .i64 a0.f0)),(.bor l0_1 (map b_N a0.f1)),(.bor l0_2 (map b_U a0.f2))]],[]⟩),((2,0,0),.live ⟨3,[[(.val (.int .i64 0)),(.own 3 []),(.own 2 [])]],[]⟩),((3,0,0),.live ⟨3,[[(.val (.int .i64 a0.f0)),(.own 3 (map d_N v0)),(.own 2 [])]],[]⟩)]⟩
def ex132_0:O132_0→VX.Exit
  |.k0 _ _ _=>(.exit 0)
def fin132_0 (l0_1:Nat) (l0_2:Nat) (a0:K_T):O132_0→St
  |.k0 w0 w1 w2=>⟨[(1,(.ptr ⟨(1,0,0),[],0,0,3⟩)),(2,(.ptr ⟨(2,0,0),[],0,0,3⟩)),(3,(.ptr ⟨(3,0,0),[],0,0,3⟩)),(12,(.one (.bor l0_1 (map b_N a0.f1)))),(13,(.one (.val (.int .i64 ((length (map b_N a0.f1)):Int))))),(14,(.one (.val (.int .i64 w1)))),(15,(.one (.val (.bool w2))))],[((1,0,0),.live ⟨3,[[(.val (.int .i64 a0.f0)),(.bor l0_1 (map b_N a0.f1)),(.bor l0_2 (map b_U a0.f2))]],[]⟩),((2,0,0),.live ⟨3,[[(.val (.int .i64 0)),(.own 3 []),(.own 2 [])]],[]⟩),((3,0,0),.live ⟨3,[[(.val (.int .i64 a0.f0)),(.own 3 (map d_N w0)),(.own 2 [])]],[]⟩)]⟩
theorem t132_0 {l0_1:Nat} {l0_2:Nat} {a0:K_T} (hy0:length a0.f1*40≤140737488351232) (hy1:∀z∈a0.f1,ok_N z) (hy2:length a0.f2*32≤140737488351232) (hy3:∀z∈a0.f2,ok_U z) (hy4:SmT a0):∀(y0:List K_N) (p:List K_N) (v0:List K_N),p++y0=a0.f1→(length v0+length y0)*40≤70368744177664→Ev F X (.code l132_0 (h132_0 l0_1 l0_2 a0 (length p:Int) v0) (ex132_0 (r132_0 a0 y0 (length p:Int) v0)) (fin132_0 l0_1 l0_2 a0 (r132_0 a0 y0 (length p:Int) v0)))
  |[],p,v0,hp0,hi0=>by
    have hc:=hcn b_N hp0
    have hj0:=hi0; try simp only[LN,Int.toNat_natCast] at hj0
    exact lx 3 ya (.f (nt hc) (.h 2 (.b false) .nil)) rfl
  |x0::y0,p,v0,hp0,hi0=>by
    have hc:=hcy b_N hp0
    have Hx0:=hxy hp0
    have Mx0_0:=hy1 x0 (List.mem_of_getElem? Hx0)
    have hlen:=hly hp0
    have hw:wrap .i64 ((length p:Int)+1)=(length p:Int)+1:=wrap64 yb
    have hj0:=hi0; try simp only[LN,Int.toNat_natCast] at hj0
    simp only[r132_0]
    have f1:0≤(length p:Int):=yb
    have f3:Ev F X (.call 156 [(.one (.bor (l0_1+1) (map b_i x0.f2)))] [] [] [(.one (.own 1 (map d_i x0.f2)))]):=(e156 (a0:=x0.f2) (by have q:=hy4.2.1 x0 (List.mem_of_getElem? Hx0); omega))
    have f8:0+(length (map d_N v0))≤(length (map d_N v0)):=yb
    have f9:1≤1:=yb
    have f10:((take 1 (drop 0 [[(.i x0.f0),(.i x0.f1),(.own 1 (map d_i x0.f2))]])).all fun x=>x.all copyable)=false:=yE
    have f13:(length ((take (length (map d_N v0)) (drop 0 (map d_N v0)))++([[(.i x0.f0),(.i x0.f1),(.own 1 (map d_i x0.f2))]]:List (List D))))*40≤70368744177664:=yu
    have f14:∀r∈([[(.i x0.f0),(.i x0.f1),(.own 1 (map d_i x0.f2))]]:List (List D)),r.length=3:=yQ
    have f17:([[(.i a0.f0),(.own 3 ((take (length (map d_N v0)) (drop 0 (map d_N v0)))++([[(.i x0.f0),(.i x0.f1),(.own 1 (map d_i x0.f2))]]:List (List D)))),(.own 2 [])]]:List (List D))=[[(.i a0.f0),(.own 3 (map d_N (v0++([x0])))),(.own 2 [])]]:=(by simp[take_of_length_le,d_i,d_N,ol112,ol83,ol84,ol51,ol21,four_len,high4,high2]; done)
    have ih:=t132_0 (l0_1:=l0_1) (l0_2:=l0_2) (a0:=a0) hy0 hy1 hy2 hy3 hy4 y0 (p++ [x0]) (v0++([x0])) yd yo
    rw[pl1,← hw] at ih; rw[← hw]
    exact ly 40 ya (.f hc (.f f1 (.f (mp_ b_N Hx0) (.h 2 (.b true) (.h 4 (.row [(.i x0.f0),(.i x0.f1),(.sl (map b_i x0.f2))]) (.r 16 [] [] f3 (pe 0 (pe (length (map d_i x0.f2)) (pe 0 (pe (length (map d_i x0.f2)) (.f f8 (.f f9 (.f f10 (pe 0 (pe 1 (.f f13 (.f f14 (pe 0 (pe (length ((take (length (map d_N v0)) (drop 0 (map d_N v0)))++([[(.i x0.f0),(.i x0.f1),(.own 1 (map d_i x0.f2))]]:List (List D)))) (.f f17 (.f trivial (.h 30 (.b false) (.h 35 (.norm (3,0,0) [[(.i a0.f0),(.own 3 (map d_N (v0++([x0])))),(.own 2 [])]]) .nil))))))))))))))))))))))) ih
def post132_0 (n0:Nat):O132_0→Prop
  |.k0 w0 _ _=>length w0=n0
theorem z132_0 {a0:K_T}:∀(y0:List K_N) (i:Int) (v0:List K_N),post132_0 (length v0+length y0) (r132_0 a0 y0 i v0)
  |[],i,v0=>by
    first | trivial |(simp only[post132_0,length_nil,Nat.add_zero]; done) |(simp[post132_0]; done)
  |x0::y0,i,v0=>by
    simp only[r132_0]
    have z:=z132_0 (a0:=a0) y0 (i+1) (v0++([x0]))
    rw[show (length v0+length (x0::y0))=(length (v0++([x0]))+length y0) from by first | omega |(simp only[LN]; done) |(simp only[LN]; omega)]
    exact z
theorem cp132_0 (a:K_T):∀(l:List K_N) (i:Int) (v:List K_N),∃j b,r132_0 a l i v=.k0 (v++l) j b
  |[],i,v=>⟨_,_,by simp only[r132_0,List.append_nil]; rfl⟩
  |x::l,i,v=>by
    obtain⟨j,b,h⟩:=cp132_0 a l (i+1) (v++ [x])
    exact⟨j,b,by simp only[r132_0]; rw[h,append_assoc]; rfl⟩
inductive O132_1 where
  |k0 (w0:List K_U) (w1:Int) (w2:Bool)
def r132_1 (a0:K_T):List K_U→Int→List K_U→O132_1
  |x0::y0,i,v0=>
    (r132_1 a0 y0 (i+1) (v0++([x0])))
  |[],i,v0=>(O132_1.k0 v0 i (decide (i <((length (map b_U a0.f2)):Int))))
def h132_1 (l0_1:Nat) (l0_2:Nat) (a0:K_T) (c0_132_1:List K_N) (i:Int) (v0:List K_U):St:=⟨[(1,(.ptr ⟨(1,0,0),[],0,0,3⟩)),(2,(.ptr ⟨(2,0,0),[],0,0,3⟩)),(3,(.ptr ⟨(3,0,0),[],0,0,3⟩)),(30,(.one (.bor l0_2 (map b_U a0.f2)))),(31,(.one (.val (.int .i64 ((length (map b_U a0.f2)):Int))))),(32,(.one (.val (.int .i64 i))))],[((1,0,0),.live ⟨3,[[(.val (.int .i64 a0.f0)),(.bor l0_1 (map b_N a0.f1)),(.bor l0_2 (map b_U a0.f2))]],[]⟩),((2,0,0),.live ⟨3,[[(.val (.int .i64 0)),(.own 3 []),(.own 2 [])]],[]⟩),((3,0,0),.live ⟨3,[[(.val (.int .i64 a0.f0)),(.own 3 (map d_N c0_132_1)),(.own 2 (map d_U v0))]],[]⟩)]⟩
def ex132_1:O132_1→VX.Exit
  |.k0 _ _ _=>(.exit 2)
def fin132_1 (l0_1:Nat) (l0_2:Nat) (a0:K_T) (c0_132_1:List K_N):O132_1→St
  |.k0 w0 w1 w2=>⟨[(1,(.ptr ⟨(1,0,0),[],0,0,3⟩)),(2,(.ptr ⟨(2,0,0),[],0,0,3⟩)),(3,(.ptr ⟨(3,0,0),[],0,0,3⟩)),(30,(.one (.bor l0_2 (map b_U a0.f2)))),(31,(.one (.val (.int .i64 ((length (map b_U a0.f2)):Int))))),(32,(.one (.val (.int .i64 w1)))),(33,(.one (.val (.bool w2))))],[((1,0,0),.live ⟨3,[[(.val (.int .i64 a0.f0)),(.bor l0_1 (map b_N a0.f1)),(.bor l0_2 (map b_U a0.f2))]],[]⟩),((2,0,0),.live ⟨3,[[(.val (.int .i64 0)),(.own 3 []),(.own 2 [])]],[]⟩),((3,0,0),.live ⟨3,[[(.val (.int .i64 a0.f0)),(.own 3 (map d_N c0_132_1)),(.own 2 (map d_U w0))]],[]⟩)]⟩
theorem t132_1 {l0_1:Nat} {l0_2:Nat} {a0:K_T} {c0_132_1:List K_N} (hy0:length a0.f1*40≤140737488351232) (hy1:∀z∈a0.f1,ok_N z) (hy2:length a0.f2*32≤140737488351232) (hy3:∀z∈a0.f2,ok_U z) (hy4:SmT a0) (hy5:length c0_132_1≤140737488351232):∀(y0:List K_U) (p:List K_U) (v0:List K_U),p++y0=a0.f2→(length v0+length y0)*32≤70368744177664→Ev F X (.code l132_1 (h132_1 l0_1 l0_2 a0 c0_132_1 (length p:Int) v0) (ex132_1 (r132_1 a0 y0 (length p:Int) v0)) (fin132_1 l0_1 l0_2 a0 c0_132_1 (r132_1 a0 y0 (length p:Int) v0)))
  |[],p,v0,hp0,hi0=>by
    have hc:=hcn b_U hp0
    have hj0:=hi0; try simp only[LN,Int.toNat_natCast] at hj0
    exact lx 3 ya (.f (nt hc) (.h 2 (.b false) .nil)) rfl
  |x0::y0,p,v0,hp0,hi0=>by
    have hc:=hcy b_U hp0
    have Hx0:=hxy hp0
    have Mx0_0:=hy3 x0 (List.mem_of_getElem? Hx0)
    have hlen:=hly hp0
    have hw:wrap .i64 ((length p:Int)+1)=(length p:Int)+1:=wrap64 yb
    have hj0:=hi0; try simp only[LN,Int.toNat_natCast] at hj0
    simp only[r132_1]
    have f1:0≤(length p:Int):=yb
    have f3:Ev F X (.call 156 [(.one (.bor (l0_2+1) (map b_i x0.f1)))] [] [] [(.one (.own 1 (map d_i x0.f1)))]):=(e156 (a0:=x0.f1) (by have q:=hy4.2.2.2 x0 (List.mem_of_getElem? Hx0); omega))
    have f8:0+(length (map d_U v0))≤(length (map d_U v0)):=yb
    have f9:1≤1:=yb
    have f10:((take 1 (drop 0 [[(.i x0.f0),(.own 1 (map d_i x0.f1))]])).all fun x=>x.all copyable)=false:=yE
    have f13:(length ((take (length (map d_U v0)) (drop 0 (map d_U v0)))++([[(.i x0.f0),(.own 1 (map d_i x0.f1))]]:List (List D))))*32≤70368744177664:=yu
    have f14:∀r∈([[(.i x0.f0),(.own 1 (map d_i x0.f1))]]:List (List D)),r.length=2:=yQ
    have f17:([[(.i a0.f0),(.own 3 (map d_N c0_132_1)),(.own 2 ((take (length (map d_U v0)) (drop 0 (map d_U v0)))++([[(.i x0.f0),(.own 1 (map d_i x0.f1))]]:List (List D))))]]:List (List D))=[[(.i a0.f0),(.own 3 (map d_N c0_132_1)),(.own 2 (map d_U (v0++([x0]))))]]:=(by simp[take_of_length_le,d_i,d_N,d_U,ol112,ol83,ol84,ol51,ol21,four_len,high4,high2]; done)
    have ih:=t132_1 (l0_1:=l0_1) (l0_2:=l0_2) (a0:=a0) (c0_132_1:=c0_132_1) hy0 hy1 hy2 hy3 hy4 hy5 y0 (p++ [x0]) (v0++([x0])) yd yo
    rw[pl1,← hw] at ih; rw[← hw]
    exact ly 40 ya (.f hc (.f f1 (.f (mp_ b_U Hx0) (.h 2 (.b true) (.h 4 (.row [(.i x0.f0),(.sl (map b_i x0.f1))]) (.r 16 [] [] f3 (pe 0 (pe (length (map d_i x0.f1)) (pe 0 (pe (length (map d_i x0.f1)) (.f f8 (.f f9 (.f f10 (pe 0 (pe 1 (.f f13 (.f f14 (pe 0 (pe (length ((take (length (map d_U v0)) (drop 0 (map d_U v0)))++([[(.i x0.f0),(.own 1 (map d_i x0.f1))]]:List (List D)))) (.f f17 (.f trivial (.h 30 (.b false) (.h 35 (.norm (3,0,0) [[(.i a0.f0),(.own 3 (map d_N c0_132_1)),(.own 2 (map d_U (v0++([x0]))))]]) .nil))))))))))))))))))))))) ih
def post132_1 (n0:Nat):O132_1→Prop
  |.k0 w0 _ _=>length w0=n0
theorem z132_1 {a0:K_T}:∀(y0:List K_U) (i:Int) (v0:List K_U),post132_1 (length v0+length y0) (r132_1 a0 y0 i v0)
  |[],i,v0=>by
    first | trivial |(simp only[post132_1,length_nil,Nat.add_zero]; done) |(simp[post132_1]; done)
  |x0::y0,i,v0=>by
    simp only[r132_1]
    have z:=z132_1 (a0:=a0) y0 (i+1) (v0++([x0]))
    rw[show (length v0+length (x0::y0))=(length (v0++([x0]))+length y0) from by first | omega |(simp only[LN]; done) |(simp only[LN]; omega)]
    exact z
theorem cp132_1 (a:K_T):∀(l:List K_U) (i:Int) (v:List K_U),∃j b,r132_1 a l i v=.k0 (v++l) j b
  |[],i,v=>⟨_,_,by simp only[r132_1,List.append_nil]; rfl⟩
  |x::l,i,v=>by
    obtain⟨j,b,h⟩:=cp132_1 a l (i+1) (v++ [x])
    exact⟨j,b,by simp only[r132_1]; rw[h,append_assoc]; rfl⟩
def m132 (a0:K_T):K_T:=
  (match r132_0 a0 a0.f1 0 [] with | .k0 w0_0 w1_0 w2_0=>(match r132_1 a0 a0.f2 0 [] with | .k0 w0_1 w1_1 w2_1=>(K_T.mk a0.f0 w0_0 w0_1)))
theorem e132 {l0_1:Nat} {l0_2:Nat} {a0:K_T} (hy0:length a0.f1*40≤140737488351232) (hy1:∀z∈a0.f1,ok_N z) (hy2:length a0.f2*32≤140737488351232) (hy3:∀z∈a0.f2,ok_U z) (hy4:SmT a0):Ev F X (.call 132 [(.agg (k_T l0_1 l0_2 a0))] [] [] [(.agg (d_T (m132 a0)))]):=by
  unfold m132
  cases h0:r132_0 a0 a0.f1 0 [] with
  |k0 w0_0 w1_0 w2_0=>
    try dsimp only
    have zh0:=z132_0 (a0:=a0) a0.f1 0 []; rw[h0] at zh0; simp only[post132_0,length_map,length_set,length_append,length_replicate,length_cons,length_nil,Int.toNat_natCast] at zh0
    have f0:=Eq.refl (h132_0 l0_1 l0_2 a0 0 [])
    cases h1:r132_1 a0 a0.f2 0 [] with
    |k0 w0_1 w1_1 w2_1=>
      try dsimp only
      have zh1:=z132_1 (a0:=a0) a0.f2 0 []; rw[h1] at zh1; simp only[post132_1,length_map,length_set,length_append,length_replicate,length_cons,length_nil,Int.toNat_natCast] at zh1
      have f2:=Eq.refl (h132_1 l0_1 l0_2 a0 w0_0 0 [])
      exact cp ya (.f f0 (.f (ev_ (e:=ex132_0) (g:=(fin132_0 l0_1 l0_2 a0)) h0 (t132_0 (l0_1:=l0_1) (l0_2:=l0_2) (a0:=a0) (by assumption) (by assumption) (by assumption) (by assumption) (by assumption) a0.f1 [] [] rfl yV)) (.f f2 (.f (ev_ (e:=ex132_1) (g:=(fin132_1 l0_1 l0_2 a0 w0_0)) h1 (t132_1 (l0_1:=l0_1) (l0_2:=l0_2) (a0:=a0) (c0_132_1:=w0_0) (by assumption) (by assumption) (by assumption) (by assumption) (by assumption) yb a0.f2 [] [] rfl yV)) (pe 0 (pe (length (map d_N w0_0)) (pe 0 (pe (length (map d_U w0_1)) (.f (pureR_N w0_0) (.f (pureR_U w0_1) (.h 22 (.loop (h132_0 l0_1 l0_2 a0 0 []) (.exit 0) (fin132_0 l0_1 l0_2 a0 (.k0 w0_0 w1_0 w2_0))) (.h 31 (.loop (h132_1 l0_1 l0_2 a0 w0_0 0 []) (.exit 2) (fin132_1 l0_1 l0_2 a0 w0_0 (.k0 w0_1 w1_1 w2_1))) .nil))))))))))))
theorem q132 (a0:K_T) (hy0:length a0.f1*40≤140737488351232) (hy1:∀z∈a0.f1,ok_N z) (hy2:length a0.f2*32≤140737488351232) (hy3:∀z∈a0.f2,ok_U z) (hy4:SmT a0):(m132 a0)=a0:=by
  obtain⟨j,b,h⟩:=cp132_0 a0 a0.f1 0 []
  obtain⟨j2,b2,h2⟩:=cp132_1 a0 a0.f2 0 []
  unfold m132
  rw[h]
  simp only[]
  rw[h2]
  rfl
theorem g132 {l0_1:Nat} {l0_2:Nat} {a0:K_T} (hy0:length a0.f1*40≤140737488351232) (hy1:∀z∈a0.f1,ok_N z) (hy2:length a0.f2*32≤140737488351232) (hy3:∀z∈a0.f2,ok_U z) (hy4:SmT a0):Ev F X (.call 132 [(.agg (k_T l0_1 l0_2 a0))] [] [] [(.agg (d_T a0))]):=by
  have t:=e132 (l0_1:=l0_1) (l0_2:=l0_2) (a0:=a0) hy0 hy1 hy2 hy3 hy4
  rw[q132 a0 hy0 hy1 hy2 hy3 hy4] at t
  exact t
inductive O101_0 where
  |k0 (w0:List K_T) (w1:Int) (w2:Bool)
def r101_0 (a0:(List K_T)):List K_T→Int→List K_T→O101_0
  |x0::y0,i,v0=>
    (r101_0 a0 y0 (i+1) (v0++([x0])))
  |[],i,v0=>(O101_0.k0 v0 i (decide (i <((length (map b_T a0)):Int))))
def h101_0 (l0_0:Nat) (a0:(List K_T)) (i:Int) (v0:List K_T):St:=⟨[(3,(.one (.ref ⟨(3,0,0),[],0,(length (map d_T v0))⟩))),(7,(.one (.bor l0_0 (map b_T a0)))),(8,(.one (.val (.int .i64 ((length (map b_T a0)):Int))))),(9,(.one (.val (.int .i64 i))))],[((3,0,0),.live ⟨3,(map d_T v0),[]⟩)]⟩
def ex101_0:O101_0→VX.Exit
  |.k0 _ _ _=>(.exit 0)
def fin101_0 (l0_0:Nat) (a0:(List K_T)):O101_0→St
  |.k0 w0 w1 w2=>⟨[(3,(.one (.ref ⟨(3,0,0),[],0,(length (map d_T w0))⟩))),(7,(.one (.bor l0_0 (map b_T a0)))),(8,(.one (.val (.int .i64 ((length (map b_T a0)):Int))))),(9,(.one (.val (.int .i64 w1)))),(10,(.one (.val (.bool w2))))],[((3,0,0),.live ⟨3,(map d_T w0),[]⟩)]⟩
theorem t101_0 {l0_0:Nat} {a0:(List K_T)} (hy0:length a0*56≤140737488351232) (hy1:∀z∈a0,ok_T z) (hy2:length a0≤4) (hy3:∀z∈a0,SmT z):∀(y0:List K_T) (p:List K_T) (v0:List K_T),p++y0=a0→(length v0+length y0)*56≤70368744177664→Ev F X (.code l101_0 (h101_0 l0_0 a0 (length p:Int) v0) (ex101_0 (r101_0 a0 y0 (length p:Int) v0)) (fin101_0 l0_0 a0 (r101_0 a0 y0 (length p:Int) v0)))
  |[],p,v0,hp0,hi0=>by
    have hc:=hcn b_T hp0
    have hj0:=hi0; try simp only[LN,Int.toNat_natCast] at hj0
    exact lx 3 ya (.f (nt hc) (.h 2 (.b false) .nil)) rfl
  |x0::y0,p,v0,hp0,hi0=>by
    have hc:=hcy b_T hp0
    have Hx0:=hxy hp0
    obtain⟨Mx0_0,Mx0_1,Mx0_2,Mx0_3⟩:=hy1 x0 (List.mem_of_getElem? Hx0)
    have hlen:=hly hp0
    have hw:wrap .i64 ((length p:Int)+1)=(length p:Int)+1:=wrap64 yb
    have hj0:=hi0; try simp only[LN,Int.toNat_natCast] at hj0
    simp only[r101_0]
    have f1:0≤(length p:Int):=yb
    have f8:0+(length (map d_T v0))≤(length (map d_T v0)):=yb
    have f9:1≤1:=yb
    have f10:((take 1 (drop 0 [[(.i x0.f0),(.own 3 (map d_N x0.f1)),(.own 2 (map d_U x0.f2))]])).all fun x=>x.all copyable)=false:=yE
    have f13:(length ((take (length (map d_T v0)) (drop 0 (map d_T v0)))++([[(.i x0.f0),(.own 3 (map d_N x0.f1)),(.own 2 (map d_U x0.f2))]]:List (List D))))*56≤70368744177664:=yu
    have f14:∀r∈([[(.i x0.f0),(.own 3 (map d_N x0.f1)),(.own 2 (map d_U x0.f2))]]:List (List D)),r.length=3:=yQ
    have f15:((take (length (map d_T v0)) (drop 0 (map d_T v0)))++([[(.i x0.f0),(.own 3 (map d_N x0.f1)),(.own 2 (map d_U x0.f2))]]:List (List D)))=(map d_T (v0++([x0]))):=(by simp[take_of_length_le,d_N,d_U,d_T,ol112,ol83,ol84,ol51,ol21,four_len,high4,high2]; done)
    have st:=ch b101_0 (h101_0 l0_0 a0 (length p:Int) v0) ⟨[(3,(.one (.ref ⟨(3,0,0),[],0,(length ((take (length (map d_T v0)) (drop 0 (map d_T v0)))++([[(.i x0.f0),(.own 3 (map d_N x0.f1)),(.own 2 (map d_U x0.f2))]]:List (List D))))⟩))),(7,(.one (.bor l0_0 (map b_T a0)))),(8,(.oi ((length (map b_T a0)):Int))),(9,(.oi (wrap .i64 ((length p:Int)+1))))],[((3,0,0),.live ⟨3,(map d_T (v0++([x0]))),[]⟩)]⟩ .normal 28 ya (.f hc (.f f1 (.f (mp_ b_T Hx0) (.h 2 (.b true) (.h 4 (.row [(.i x0.f0),(.sl (map b_N x0.f1)),(.sl (map b_U x0.f2))]) (.r 16 [] [] (g132 (l0_1:=(l0_0+1)) (l0_2:=(l0_0+1)) (a0:=x0) yK yK yK yK (by exact hy3 x0 (List.mem_of_getElem? Hx0))) (pe 0 (pe (length (map d_N x0.f1)) (pe 0 (pe (length (map d_U x0.f2)) (.f f8 (.f f9 (.f f10 (pe 0 (pe 1 (.f f13 (.f f14 (.f f15 (.f trivial (.h 20 (.b false) (.h 23 (.norm (3,0,0) (map d_T (v0++([x0])))) .nil)))))))))))))))))))))
    have ih:=t101_0 (l0_0:=l0_0) (a0:=a0) hy0 hy1 hy2 hy3 y0 (p++ [x0]) (v0++([x0])) yd yo
    rw[pl1] at ih
    rw[show (⟨[(3,(.one (.ref ⟨(3,0,0),[],0,(length ((take (length (map d_T v0)) (drop 0 (map d_T v0)))++([[(.i x0.f0),(.own 3 (map d_N x0.f1)),(.own 2 (map d_U x0.f2))]]:List (List D))))⟩))),(7,(.one (.bor l0_0 (map b_T a0)))),(8,(.oi ((length (map b_T a0)):Int))),(9,(.oi (wrap .i64 ((length p:Int)+1))))],[((3,0,0),.live ⟨3,(map d_T (v0++([x0]))),[]⟩)]⟩:St)=h101_0 l0_0 a0 ((length p:Int)+1) (v0++([x0])) from(by unfold h101_0; simp[hw,take_of_length_le,d_N,d_U,d_T,ol112,ol83,ol84,ol51,ol21,four_len,high4,high2]; done)] at st
    exact .loopN st ih
def post101_0 (n0:Nat):O101_0→Prop
  |.k0 w0 _ _=>length w0=n0
theorem z101_0 {a0:(List K_T)}:∀(y0:List K_T) (i:Int) (v0:List K_T),post101_0 (length v0+length y0) (r101_0 a0 y0 i v0)
  |[],i,v0=>by
    first | trivial |(simp only[post101_0,length_nil,Nat.add_zero]; done) |(simp[post101_0]; done)
  |x0::y0,i,v0=>by
    simp only[r101_0]
    have z:=z101_0 (a0:=a0) y0 (i+1) (v0++([x0]))
    rw[show (length v0+length (x0::y0))=(length (v0++([x0]))+length y0) from by first | omega |(simp only[LN]; done) |(simp only[LN]; omega)]
    exact z
theorem cp101_0 (a:List K_T):∀(l:List K_T) (i:Int) (v:List K_T),∃j b,r101_0 a l i v=.k0 (v++l) j b
  |[],i,v=>⟨_,_,by simp only[r101_0,List.append_nil]; rfl⟩
  |x::l,i,v=>by
    obtain⟨j,b,h⟩:=cp101_0 a l (i+1) (v++ [x])
    exact⟨j,b,by simp only[r101_0]; rw[h,append_assoc]; rfl⟩
def m101 (a0:(List K_T)):(List K_T):=
  (match r101_0 a0 a0 0 ([]) with | .k0 w0_0 w1_0 w2_0=>w0_0)
theorem e101 {l0_0:Nat} {a0:(List K_T)} (hy0:length a0*56≤140737488351232) (hy1:∀z∈a0,ok_T z) (hy2:length a0≤4) (hy3:∀z∈a0,SmT z):Ev F X (.call 101 [(.one (.bor l0_0 (map b_T a0)))] [] [] [(.one (.own 3 (map d_T (m101 a0))))]):=by
  unfold m101
  cases h0:r101_0 a0 a0 0 ([]) with
  |k0 w0_0 w1_0 w2_0=>
    try dsimp only
    have zh0:=z101_0 (a0:=a0) a0 0 ([]); rw[h0] at zh0; simp only[post101_0,length_map,length_set,length_append,length_replicate,length_cons,length_nil,Int.toNat_natCast] at zh0
    have f0:=Eq.refl (h101_0 l0_0 a0 0 ([]))
    exact cp ya (.f f0 (.f (ev_ (e:=ex101_0) (g:=(fin101_0 l0_0 a0)) h0 (t101_0 (l0_0:=l0_0) (a0:=a0) (by assumption) (by assumption) (by assumption) (by assumption) a0 [] ([]) rfl yo)) (pe 0 (pe (length (map d_T w0_0)) (.f (pureR_T w0_0) (.h 12 (.loop (h101_0 l0_0 a0 0 ([])) (.exit 0) (fin101_0 l0_0 a0 (.k0 w0_0 w1_0 w2_0))) .nil))))))
theorem q101 (a0:(List K_T)) (hy0:length a0*56≤140737488351232) (hy1:∀z∈a0,ok_T z) (hy2:length a0≤4) (hy3:∀z∈a0,SmT z):(m101 a0)=a0:=by
  obtain⟨j,b,h⟩:=cp101_0 a0 a0 0 []
  unfold m101
  rw[h]
  rfl
theorem g101 {l0_0:Nat} {a0:(List K_T)} (hy0:length a0*56≤140737488351232) (hy1:∀z∈a0,ok_T z) (hy2:length a0≤4) (hy3:∀z∈a0,SmT z):Ev F X (.call 101 [(.one (.bor l0_0 (map b_T a0)))] [] [] [(.one (.own 3 (map d_T a0)))]):=by
  have t:=e101 (l0_0:=l0_0) (a0:=a0) hy0 hy1 hy2 hy3
  rw[q101 a0 hy0 hy1 hy2 hy3] at t
  exact t
theorem e73 {l0_4:Nat} {a0:K_G} (hy0:length a0.f4*56≤140737488351232) (hy1:∀z∈a0.f4,ok_T z) (hy2:length a0.f4≤4) (hy3:∀z∈a0.f4,SmT z):Ev F X (.call 73 [(.agg (k_G l0_4 a0))] [] [] [(.agg (d_G a0))]):=by
  exact cp ya (.r 9 [] [] (g101 (l0_0:=(l0_4+1)) (a0:=a0.f4) ‹_› ‹_› ‹_› ‹_›) (pe 0 (pe (length (map d_T a0.f4)) (pe 0 (pe (length (map d_T a0.f4)) (.f (pureR_T a0.f4) .nil))))))
def m42 (a0:K_J) (a1:Int) (a2:Int) (a3:Int):K_G:=
  (K_G.mk a0.f1 a2 a0.f3 a3 (set a0.f5 0 (K_T.mk ((getD a0.f5 0 (K_T.mk 0 [] [])).f0) ((getD a0.f5 0 (K_T.mk 0 [] [])).f1) (set ((getD a0.f5 0 (K_T.mk 0 [] [])).f2) 1 (K_U.mk ((getD ((getD a0.f5 0 (K_T.mk 0 [] [])).f2) 1 (K_U.mk 0 [])).f0) [(wrap .i64 (100+a1))])))))
theorem e42 {l0_5:Nat} {a0:K_J} {a1:Int} {a2:Int} {a3:Int} (hy0:length a0.f5*56≤140737488351232) (hy1:∀z∈a0.f5,ok_T z) (hy2:SmJ a0):Ev F X (.call 42 [(.agg (k_J l0_5 a0)),(.one (.val (.int .i64 a1))),(.one (.val (.int .i64 a2))),(.one (.val (.int .i64 a3)))] [] [] [(.agg (d_G (m42 a0 a1 a2 a3)))]):=by
  have f3:0+(length (map d_T a0.f5))≤(length (map d_T a0.f5)):=yb
  have f4:0≤(0:Int)∧(0:Int) <((length (map d_T a0.f5)):Int):=(by have q:=hy2.1; simp only[length_map]; omega)
  have f7:nav 5 [[(.i a0.f1),(.i a2),(.i a0.f3),(.i a3),(.own 3 (map d_T a0.f5))]] [(0,4),(0,2)]=some (2,(map d_U ((getD a0.f5 0 (K_T.mk 0 [] [])).f2))):=(by show nav 3 (map d_T a0.f5) [(0,2)]=_; simp only[nav];(rw[getElem?_map,getD_at a0.f5 0 (K_T.mk 0 [] []) (by first | exact True.intro | with_reducible rfl | with_reducible assumption | omega |(exact hy2.2.1) |(exact hy2.2.2.1) |(exact hy2.1) |(have q:=hy2.1; omega) |(have q:=hy2.2.2.2; omega) |(refine⟨by omega,?_⟩; have q:=hy2.1; omega) |(refine⟨by omega,?_⟩; have q:=hy2.2.2.2; simp only[length_map]; omega) |(have q:=hy2.1; simp only[length_map]; omega) |(have q:=hy2.2.2.2; simp only[length_map]; omega) |(simp only[decide_eq_true_eq] at*; omega) |(simp only[length_map]; omega) |(simp[ol112,ol83,ol84,ol51,ol21,four_len,high4,high2]; omega) |(simp[take_of_length_le,ol112,ol83,ol84,ol51,ol21,four_len,high4,high2]; done) | assumption | trivial |(simp[*,ol112,ol83,ol84,ol51,ol21,four_len,high4,high2,byteRows_eq,ints_y]; done))]); rfl)
  have f8:0+(length (map d_U ((getD a0.f5 0 (K_T.mk 0 [] [])).f2)))≤(length (map d_U ((getD a0.f5 0 (K_T.mk 0 [] [])).f2))):=yb
  have f9:0≤(1:Int)∧(1:Int) <((length (map d_U ((getD a0.f5 0 (K_T.mk 0 [] [])).f2))):Int):=yao
  have f14:([[(.i a0.f1),(.i a2),(.i a0.f3),(.i a3),(.own 3 (setNav (map d_T a0.f5) [(0,2)] (set (map d_U ((getD a0.f5 0 (K_T.mk 0 [] [])).f2)) 1 [(.i ((getD ((getD a0.f5 0 (K_T.mk 0 [] [])).f2) 1 (K_U.mk 0 [])).f0)),(.own 1 [[(.i (wrap .i64 (100+a1)))]])])))]]:List (List D))=[[(.i a0.f1),(.i a2),(.i a0.f3),(.i a3),(.own 3 (map d_T (set a0.f5 0 (K_T.mk ((getD a0.f5 0 (K_T.mk 0 [] [])).f0) ((getD a0.f5 0 (K_T.mk 0 [] [])).f1) (set ((getD a0.f5 0 (K_T.mk 0 [] [])).f2) 1 (K_U.mk ((getD ((getD a0.f5 0 (K_T.mk 0 [] [])).f2) 1 (K_U.mk 0 [])).f0) [(wrap .i64 (100+a1))]))))))]]:=(by rw[setNavAt (i:=0) (j:=2) (row:=(d_T (getD a0.f5 0 (K_T.mk 0 [] [])))) (by rw[getElem?_map,getD_at a0.f5 0 (K_T.mk 0 [] []) (by first | exact True.intro | with_reducible rfl | with_reducible assumption | omega |(exact hy2.2.1) |(exact hy2.2.2.1) |(exact hy2.1) |(have q:=hy2.1; omega) |(have q:=hy2.2.2.2; omega) |(refine⟨by omega,?_⟩; have q:=hy2.1; omega) |(refine⟨by omega,?_⟩; have q:=hy2.2.2.2; simp only[length_map]; omega) |(have q:=hy2.1; simp only[length_map]; omega) |(have q:=hy2.2.2.2; simp only[length_map]; omega) |(simp only[decide_eq_true_eq] at*; omega) |(simp only[length_map]; omega) |(simp[ol112,ol83,ol84,ol51,ol21,four_len,high4,high2]; omega) |(simp[take_of_length_le,ol112,ol83,ol84,ol51,ol21,four_len,high4,high2]; done) | assumption | trivial |(simp[*,ol112,ol83,ol84,ol51,ol21,four_len,high4,high2,byteRows_eq,ints_y]; done))]; rfl) (by rfl)]; first | rfl |(simp[take_of_length_le,d_i,d_N,d_U,d_T,d_J,d_JL,d_KY,d_LiiiiE,d_b,d_SR,d_G,d_TL,d_LiE,d_NL,d_UL,d_y,d_LyE,d_LLyEE,ol112,ol83,ol84,ol51,ol21,four_len,high4,high2,byteRows_eq,ints_y]; done) |(simp[map_set,take_of_length_le,d_i,d_N,d_U,d_T,d_J,d_JL,d_KY,d_LiiiiE,d_b,d_SR,d_G,d_TL,d_LiE,d_NL,d_UL,d_y,d_LyE,d_LLyEE,ol112,ol83,ol84,ol51,ol21,four_len,high4,high2,byteRows_eq,ints_y]; done))
  exact cp ya (.r 9 [] [] (e73 (l0_4:=(l0_5+1)) (a0:=(K_G.mk a0.f1 a0.f2 a0.f3 a0.f4 a0.f5)) ‹_› ‹_› (by exact hy2.2.1) (by exact hy2.2.2.1)) (pe 0 (pe (length (map d_T a0.f5)) (.f f3 (.f f4 (.f (mp_ d_T (getD_at a0.f5 0 (K_T.mk 0 [] []) (by exact hy2.1))) (.f trivial (.f f7 (.f f8 (.f f9 (pe 0 (pe 1 (.f f7 (.f (mp_ d_U (getD_at ((getD a0.f5 0 (K_T.mk 0 [] [])).f2) 1 (K_U.mk 0 []) (by have q:=hy2.2.2.2; omega))) (.f f14 (pe 0 (pe (length (map d_T (set a0.f5 0 (K_T.mk ((getD a0.f5 0 (K_T.mk 0 [] [])).f0) ((getD a0.f5 0 (K_T.mk 0 [] [])).f1) (set ((getD a0.f5 0 (K_T.mk 0 [] [])).f2) 1 (K_U.mk ((getD ((getD a0.f5 0 (K_T.mk 0 [] [])).f2) 1 (K_U.mk 0 [])).f0) [(wrap .i64 (100+a1))])))))) (.f (pureR_T (set a0.f5 0 (K_T.mk ((getD a0.f5 0 (K_T.mk 0 [] [])).f0) ((getD a0.f5 0 (K_T.mk 0 [] [])).f1) (set ((getD a0.f5 0 (K_T.mk 0 [] [])).f2) 1 (K_U.mk ((getD ((getD a0.f5 0 (K_T.mk 0 [] [])).f2) 1 (K_U.mk 0 [])).f0) [(wrap .i64 (100+a1))]))))) (.h 23 (.rowD (d_T (getD a0.f5 0 (K_T.mk 0 [] [])))) (.h 43 (.nav [((9,0,0),[4,2],2,(map d_U ((getD a0.f5 0 (K_T.mk 0 [] [])).f2)))] [] (.nop)) (.h 47 (.nav [((9,0,0),[4,2],2,(map d_U ((getD a0.f5 0 (K_T.mk 0 [] [])).f2)))] [] (.rowD (d_U (getD ((getD a0.f5 0 (K_T.mk 0 [] [])).f2) 1 (K_U.mk 0 []))))) (.h 48 (.norm (9,0,0) [[(.i a0.f1),(.i a2),(.i a0.f3),(.i a3),(.own 3 (map d_T (set a0.f5 0 (K_T.mk ((getD a0.f5 0 (K_T.mk 0 [] [])).f0) ((getD a0.f5 0 (K_T.mk 0 [] [])).f1) (set ((getD a0.f5 0 (K_T.mk 0 [] [])).f2) 1 (K_U.mk ((getD ((getD a0.f5 0 (K_T.mk 0 [] [])).f2) 1 (K_U.mk 0 [])).f0) [(wrap .i64 (100+a1))]))))))]]) .nil))))))))))))))))))))))
theorem ob42 {a0:K_J} {a1 a2 a3:Int} (h:SmJ a0):length (m42 a0 a1 a2 a3).f4≤4∧∀z∈(m42 a0 a1 a2 a3).f4,SmT z:=by
  obtain⟨h1,h2,h3,h4⟩:=h
  have hX : SmT (getD a0.f5 0 (K_T.mk 0 [] [])) := h3 _ (by
    cases e:a0.f5 with
    |nil=>rw[e] at h1; simp at h1
    |cons x l=>exact List.mem_cons_self ..)
  obtain⟨x1,x2,x3,x4⟩:=hX
  unfold m42
  refine⟨by simpa using h2,fun z hz=>?_⟩
  rcases List.mem_or_eq_of_mem_set hz with hz | rfl
  · exact h3 z hz
  · refine⟨x1,x2,by simpa using x3,fun x hx=>?_⟩
    rcases List.mem_or_eq_of_mem_set hx with hx | rfl
    · exact x4 x hx
    · simp
def m9 (a0:K_J) (a1:Int) (a2:Int) (a3:Int):K_J:=
  if((m40 [a0]) !=0)=true then(K_J.mk (m40 [a0]) 0 0 0 0 []) else
  if(!(m41 a1 0 999))=true then(K_J.mk 3 0 0 0 0 []) else
    if(!(m41 a2 1 99999))=true then(K_J.mk 3 0 0 0 0 []) else
      if(!(m41 a3 0 65535))=true then(K_J.mk 3 0 0 0 0 []) else
        if((m43 (m42 a0 a1 a2 a3)) !=0)=true then(K_J.mk (m43 (m42 a0 a1 a2 a3)) 0 0 0 0 []) else
          (K_J.mk 0 ((m42 a0 a1 a2 a3).f0) ((m42 a0 a1 a2 a3).f1) ((m42 a0 a1 a2 a3).f2) ((m42 a0 a1 a2 a3).f3) ((m42 a0 a1 a2 a3).f4))
theorem e9 {l0_5:Nat} {a0:K_J} {a1:Int} {a2:Int} {a3:Int} (hy0:length a0.f5*56≤140737488351232) (hy1:∀z∈a0.f5,ok_T z):Ev F X (.call 9 [(.agg (k_J l0_5 a0)),(.one (.val (.int .i64 a1))),(.one (.val (.int .i64 a2))),(.one (.val (.int .i64 a3)))] [] [] [(.agg (d_J (m9 a0 a1 a2 a3)))]):=by
  unfold m9
  have f0:1≤1:=yb
  have f1:fullR (take 1 (drop 0 [[(.i a0.f0),(.i a0.f1),(.i a0.f2),(.i a0.f3),(.i a0.f4),(.bor l0_5 (map b_T a0.f5))]]))=true:=yE
  have f2:toBR (take 1 (drop 0 [[(.i a0.f0),(.i a0.f1),(.i a0.f2),(.i a0.f3),(.i a0.f4),(.bor l0_5 (map b_T a0.f5))]]))=[(b_J a0)]:=yE
  have P0 {hs q} (r:PS F X hs q):=(PS.f f0 (.f f1 (.f f2 (.r 9 [] [[(b_J a0)]] (e40 (l0_0:=0) (a0:=[a0]) (by simp only[length_cons,length_nil]; omega) (by intro z hz; rw[List.mem_singleton] at hz; subst hz; exact⟨hy0,hy1⟩)) r))))
  by_cases h0:((m40 [a0]) !=0)=true
  · try simp only[if_pos h0]
    have f5:pureR []=true:=(by assumption)
    exact cp ya (P0 (.f h0 (.f f5 (.h 16 (.b true) .nil))))
  · try simp only[if_neg h0]
    have P1 {hs q} (r:PS F X hs q):=(P0 (.f (nt h0) (.h 16 (.b false) (.r 20 [] [] (e41 (a0:=a1) (a1:=0) (a2:=999)) r))))
    by_cases h1:(!(m41 a1 0 999))=true
    · try simp only[if_pos h1]
      have f10:pureR []=true:=(by assumption)
      exact cp ya (P1 (.f h1 (.f h1 (.f h1 (.f h1 (.f f10 (.h 25 (.b true) (.h 27 (.b true) (.h 29 (.b true) (.h 32 (.b true) .nil))))))))))
    · try simp only[if_neg h1]
      have P2 {hs q} (r:PS F X hs q):=(P1 (.f (nt h1) (.f (nt h1) (.h 25 (.b false) (.h 27 (.b false) (.r 28 [] [] (e41 (a0:=a2) (a1:=1) (a2:=99999)) (.f (nt h1) (.f (nt h1) (.h 29 (.b false) (.h 32 (.b false) r))))))))))
      by_cases h2:(!(m41 a2 1 99999))=true
      · try simp only[if_pos h2]
        have f15:pureR []=true:=(by assumption)
        exact cp ya (P2 (.f h2 (.f h2 (.f h2 (.f h2 (.f f15 (.h 35 (.b true) (.h 37 (.b true) (.h 39 (.b true) (.h 42 (.b true) .nil))))))))))
      · try simp only[if_neg h2]
        have P3 {hs q} (r:PS F X hs q):=(P2 (.f (nt h2) (.f (nt h2) (.h 35 (.b false) (.h 37 (.b false) (.r 38 [] [] (e41 (a0:=a3) (a1:=0) (a2:=65535)) (.f (nt h2) (.f (nt h2) (.h 39 (.b false) (.h 42 (.b false) r))))))))))
        by_cases h3:(!(m41 a3 0 65535))=true
        · try simp only[if_pos h3]
          have f17:pureR []=true:=(by assumption)
          exact cp ya (P3 (.f h3 (.f f17 (.h 43 (.b true) .nil))))
        · try simp only[if_neg h3]
          have P4 {hs q} (r:PS F X hs q):=(P3 (.f (nt h3) (.h 43 (.b false) (.r 53 [] [] (e42 (l0_5:=(l0_5+1)) (a0:=a0) (a1:=a1) (a2:=a2) (a3:=a3) ‹_› ‹_› (by have hj:SmJ a0:=(js40 (by simpa using h0)).2 a0 (List.mem_singleton.2 rfl); exact hj)) (pe 0 (pe (length (map d_T ((m42 a0 a1 a2 a3).f4))) (ln_T ((m42 a0 a1 a2 a3).f4) (.r 61 [] [(map b_T ((m42 a0 a1 a2 a3).f4))] (e43 (l0_4:=0) (a0:=(m42 a0 a1 a2 a3)) (by have hj:SmJ a0:=(js40 (by simpa using h0)).2 a0 (List.mem_singleton.2 rfl); have q:=(ob42 (a1:=a1) (a2:=a2) (a3:=a3) hj).1; omega) (by have hj:SmJ a0:=(js40 (by simpa using h0)).2 a0 (List.mem_singleton.2 rfl); exact fun z hz=>((ob42 (a1:=a1) (a2:=a2) (a3:=a3) hj).2 z hz).ok)) r))))))))
          by_cases h4:((m43 (m42 a0 a1 a2 a3)) !=0)=true
          · try simp only[if_pos h4]
            have f25:pureR []=true:=(by assumption)
            exact cp ya (P4 (.f h4 (.f f25 (.h 68 (.b true) .nil))))
          · try simp only[if_neg h4]
            exact cp ya (P4 (.f (nt h4) (pe 0 (pe (length (map d_T ((m42 a0 a1 a2 a3).f4))) (.f (pureR_T ((m42 a0 a1 a2 a3).f4)) (.h 68 (.b false) .nil))))))
theorem okm9 (a0:K_J) (a1:Int) (a2:Int) (a3:Int):ok_J (m9 a0 a1 a2 a3):=by
  by_cases h0:((m40 [a0]) !=0)=true
  · unfold m9; rw[if_pos h0]; simp[ok_N,ok_U,ok_T,ok_J,ok_JL,ok_LiiiiE,ok_SR,ok_G,ok_TL,ok_LiE,ok_NL,ok_UL,ok_LyE,ok_LLyEE]
  · have hj:SmJ a0:=(js40 (by simpa using h0)).2 a0 (List.mem_singleton.2 rfl)
    have q1:=(ob42 (a1:=a1) (a2:=a2) (a3:=a3) hj).1
    have q2:=fun z hz=>((ob42 (a1:=a1) (a2:=a2) (a3:=a3) hj).2 z hz).ok
    unfold m9; rw[if_neg h0]
    (repeat' split)<;>first | exact⟨by simp only[]; omega,q2⟩ | exact⟨by simp,fun z hz=>by cases hz⟩
theorem sb9 {a:K_J} {e t n:Int} (h:(m9 a e t n).f0=0):m43 (K_G.mk (m9 a e t n).f1 (m9 a e t n).f2 (m9 a e t n).f3 (m9 a e t n).f4 (m9 a e t n).f5)=0:=by
  unfold m9 at h⊢
  by_cases c0:((m40 [a]) !=0)=true
  · rw[if_pos c0] at h; simp only[] at h; rw[h] at c0; exact absurd c0 yG
  rw[if_neg c0] at h⊢
  by_cases c1:(!(m41 e 0 999))=true
  · rw[if_pos c1] at h; exact absurd h yG
  rw[if_neg c1] at h⊢
  by_cases c2:(!(m41 t 1 99999))=true
  · rw[if_pos c2] at h; exact absurd h yG
  rw[if_neg c2] at h⊢
  by_cases c3:(!(m41 n 0 65535))=true
  · rw[if_pos c3] at h; exact absurd h yG
  rw[if_neg c3] at h⊢
  by_cases c4:((m43 (m42 a e t n)) !=0)=true
  · rw[if_pos c4] at h; simp only[] at h; rw[h] at c4; exact absurd c4 yG
  rw[if_neg c4]
  exact nz0 c4
theorem e1011700 {l0_5:Nat} {a0:K_J} {l101000:Nat} {a101001:Int}:Ev F X (.call 117 [(.agg (k_J l0_5 a0)),(.bptr l101000 [(.val (.int .i64 a101001))])] [] [] [(.one (.val (.bool (a0.f0==a101001))))]):=by
  exact cp ya .nil
inductive O1011600_0 where
  |k0 (w0:Int) (w1:Bool)
  |k1 (w0:Int)
def r1011600_0 (a0:(List K_J)) (a2001:Int):List K_J→Int→O1011600_0
  |x0::y0,i=>
    if(x0.f0==a2001)=true then(O1011600_0.k1 i) else
    (r1011600_0 a0 a2001 y0 (i+1))
  |[],i=>(O1011600_0.k0 i (decide (i <((length (map b_J a0)):Int))))
def h1011600_0 (l0_0:Nat) (l2000:Nat) (a0:(List K_J)) (a2001:Int) (i:Int) :St:=⟨[(0,(.one (.bor l0_0 (map b_J a0)))),(1,(.clo 117 [] [(.bptr l2000 [(.val (.int .i64 a2001))])])),(7,(.one (.val (.int .i64 ((length (map b_J a0)):Int))))),(8,(.one (.val (.int .i64 i))))],[]⟩
def ex1011600_0:O1011600_0→VX.Exit
  |.k0 _ _=>(.exit 0)
  |.k1 _=>.ret
def fin1011600_0 (l0_0:Nat) (l2000:Nat) (a0:(List K_J)) (a2001:Int):O1011600_0→St
  |.k0 w0 w1=>⟨[(0,(.one (.bor l0_0 (map b_J a0)))),(1,(.clo 117 [] [(.bptr l2000 [(.val (.int .i64 a2001))])])),(7,(.one (.val (.int .i64 ((length (map b_J a0)):Int))))),(8,(.one (.val (.int .i64 w0)))),(9,(.one (.val (.bool w1))))],[]⟩
  |.k1 w0=>⟨[(4,(.one (.val (.int .i64 w0))))],[]⟩
theorem t1011600_0 {l0_0:Nat} {l2000:Nat} {a0:(List K_J)} {a2001:Int} (hy0:length a0*64≤140737488351232) (hy1:∀z∈a0,ok_J z):∀(y0:List K_J) (p:List K_J),p++y0=a0→Ev F X (.code l116_0 (h1011600_0 l0_0 l2000 a0 a2001 (length p:Int)) (ex1011600_0 (r1011600_0 a0 a2001 y0 (length p:Int))) (fin1011600_0 l0_0 l2000 a0 a2001 (r1011600_0 a0 a2001 y0 (length p:Int))))
  |[],p,hp0=>by
    have hc:=hcn b_J hp0
    exact lx 3 ya (.f (nt hc) (.h 2 (.b false) .nil)) rfl
  |x0::y0,p,hp0=>by
    have hc:=hcy b_J hp0
    have Hx0:=hxy hp0
    obtain⟨Mx0_0,Mx0_1⟩:=hy1 x0 (List.mem_of_getElem? Hx0)
    have hlen:=hly hp0
    have hw:wrap .i64 ((length p:Int)+1)=(length p:Int)+1:=wrap64 yb
    simp only[r1011600_0]
    have f1:0≤(length p:Int):=yb
    have P1 {hs q} (r:PS F X hs q):=(PS.f hc (.f f1 (.f (mp_ b_J Hx0) (.h 2 (.b true) (.h 14 (.row (b_J x0)) (.r 18 [] [] (e1011700 (l0_5:=(l0_0+1)) (l101000:=(l2000+1)) (a0:=x0) (a101001:=a2001)) r))))))
    by_cases h_1:(x0.f0==a2001)=true
    · try simp only[if_pos h_1]
      exact lx 24 ya (P1 (.f h_1 (.h 19 (.b true) .nil))) rfl
    · try simp only[if_neg h_1]
      have ih:=t1011600_0 (l0_0:=l0_0) (l2000:=l2000) (a0:=a0) (a2001:=a2001) hy0 hy1 y0 (p++ [x0]) yd
      rw[pl1,← hw] at ih; rw[← hw]
      exact ly 24 ya (P1 (.f (nt h_1) (.f trivial (.h 19 (.b false) .nil)))) ih
def m1011600 (a0:(List K_J)) (a2001:Int):Int:=
  (match r1011600_0 a0 a2001 a0 0 with | .k0 w0_0 w1_0=>(-1) | .k1 w0_0=>w0_0)
theorem e1011600 {l0_0:Nat} {a0:(List K_J)} {l2000:Nat} {a2001:Int} (hy0:length a0*64≤140737488351232) (hy1:∀z∈a0,ok_J z):Ev F X (.call 116 [(.one (.bor l0_0 (map b_J a0))),(.clo 117 [] [(.bptr l2000 [(.val (.int .i64 a2001))])])] [] [] [(.one (.val (.int .i64 (m1011600 a0 a2001))))]):=by
  unfold m1011600
  cases h0:r1011600_0 a0 a2001 a0 0 with
  |k0 w0_0 w1_0=>
    try dsimp only
    have f0:=Eq.refl (h1011600_0 l0_0 l2000 a0 a2001 0 )
    exact cp ya (.f f0 (.f (ev_ (e:=ex1011600_0) (g:=(fin1011600_0 l0_0 l2000 a0 a2001)) h0 (t1011600_0 (l0_0:=l0_0) (l2000:=l2000) (a0:=a0) (a2001:=a2001) (by assumption) (by assumption) a0 []  rfl)) (.h 8 (.loop (h1011600_0 l0_0 l2000 a0 a2001 0) (.exit 0) (fin1011600_0 l0_0 l2000 a0 a2001 (.k0 w0_0 w1_0))) .nil)))
  |k1 w0_0=>
    try dsimp only
    have f0:=Eq.refl (h1011600_0 l0_0 l2000 a0 a2001 0 )
    exact cp ya (.f f0 (.f (ev_ (e:=ex1011600_0) (g:=(fin1011600_0 l0_0 l2000 a0 a2001)) h0 (t1011600_0 (l0_0:=l0_0) (l2000:=l2000) (a0:=a0) (a2001:=a2001) (by assumption) (by assumption) a0 []  rfl)) (.h 8 (.loop (h1011600_0 l0_0 l2000 a0 a2001 0) .ret (fin1011600_0 l0_0 l2000 a0 a2001 (.k1 w0_0))) .nil)))
theorem ixr1011600_0 (a0:(List K_J)) (a2001:Int):∀(l:List K_J) (i:Int),(∃(w0:_) (w1:_),r1011600_0 a0 a2001 l i=.k0 w0 w1)∨(∃w,r1011600_0 a0 a2001 l i=.k1 w∧i≤w∧w < i+l.length)
  |[],i=>.inl ⟨i,(decide (i <((length (map b_J a0)):Int))),rfl⟩
  |x::l,i=>by
    have ih:=ixr1011600_0 a0 a2001 l (i+1)
    simp only[r1011600_0]
    (repeat' split)
    all_goals first
      |exact .inr ⟨i,rfl,by omega,by simp only[length_cons]; omega⟩
      | (rcases ih with ⟨w0, w1, h⟩ | ⟨w, h, h1, h2⟩
         · exact .inl ⟨w0,w1,h⟩
         · exact .inr ⟨w,h,by omega,by simp only[length_cons]; omega⟩)
theorem ix1011600 (a0:(List K_J)) (a2001:Int): -1≤m1011600 a0 a2001∧m1011600 a0 a2001 <(length a0:Int):=by
  unfold m1011600
  rcases ixr1011600_0 a0 a2001 a0 0 with⟨w0,w1,h⟩ |⟨w,h,h1,h2⟩<;>simp only[h]<;>omega
theorem e90 {l0_0:Nat} {a0:(List K_J)} {a1:Int} (hy0:length a0*64≤140737488351232) (hy1:∀z∈a0,ok_J z):Ev F X (.call 90 [(.one (.bor l0_0 (map b_J a0))),(.one (.val (.int .i64 a1)))] [] [] [(.one (.val (.int .i64 (m1011600 a0 a1))))]):=by
  have f0:fullL [(.i a1)]=true:=yE
  have f1:Ev F X (.call 116 [(.one (.bor (l0_0+1) (map b_J a0))),(.clo 117 [] [(.bptr 0 [(.i a1)])])] [] [] [(.oi (m1011600 a0 a1))]):=(e1011600 (a0:=a0) (a2001:=a1) ‹_› ‹_›)
  exact cp ya (.f f0 (.r 9 [] [] f1 .nil))
inductive O119_0 where
  |k0 (w0:List Int) (w1:Bool)
def r119_0 :Nat→List Int→O119_0
  |n+1,v0=>
    if(decide (((length (map d_i v0)):Int) > 1))=true then(r119_0 n (m107 v0)) else
    (O119_0.k0 v0 (decide (((length (map d_i v0)):Int) > 1)))
  |0,v0=>(O119_0.k0 v0 (decide (((length (map d_i v0)):Int) > 1)))
def h119_0 (a0:(List Int)) (v0:List Int):St:=⟨[(0,(.one (.ref ⟨(0,0,0),[],0,(length (map d_i v0))⟩)))],[((0,0,0),.live ⟨1,(map d_i v0),[]⟩)]⟩
def ex119_0:O119_0→VX.Exit
  |.k0 _ _=>(.exit 0)
def fin119_0 (a0:(List Int)):O119_0→St
  |.k0 w0 w1=>⟨[(0,(.one (.ref ⟨(0,0,0),[],0,(length (map d_i w0))⟩))),(5,(.one (.val (.bool w1))))],[((0,0,0),.live ⟨1,(map d_i w0),[]⟩)]⟩
theorem t119_0 {a0:(List Int)} (hy0:1≤length a0) (hy1:length a0≤1000):∀(n:Nat) (v0:List Int),1≤length v0→length v0≤1000→length v0≤n→Ev F X (.code l119_0 (h119_0 a0 v0) (ex119_0 (r119_0 n v0)) (fin119_0 a0 (r119_0 n v0)))
  |0,v0,hi0,hi1,hn=>by
    have hc:¬(decide (((length (map d_i v0)):Int) > 1))=true:=by first |(simp only[decide_eq_true_eq,length_map]; omega) |(exact fuel64_zero hn) |(simp only[decide_eq_true_eq] at*; omega) |(simp at*; omega)
    exact lx 7 ya (.f (nt hc) (.h 6 (.b false) .nil)) rfl
  |n+1,v0,hi0,hi1,hn=>by
    simp only[r119_0]
    by_cases h_0:(decide (((length (map d_i v0)):Int) > 1))=true
    · try simp only[if_pos h_0]
      have ih:=t119_0 (a0:=a0) hy0 hy1 n (m107 v0) yw yw yw
      exact ly 13 ya (.f h_0 (ln_i v0 (.h 6 (.b true) (.r 10 [] [(map b_i v0)] (e107 (l0_0:=0) (a0:=v0) ‹_›) (pe 0 (pe (length (map d_i (m107 v0))) .nil)))))) ih
    · try simp only[if_neg h_0]
      exact lx 7 ya (.f (nt h_0) (.h 6 (.b false) .nil)) rfl
def post119_0 (a0:(List Int)):O119_0→Prop
  |.k0 w0 _=>1≤length w0
theorem z119_0 {a0:(List Int)} (hy0:1≤length a0) (hy1:length a0≤1000):∀(n:Nat) (v0:List Int),1≤length v0→length v0≤1000→post119_0 a0 (r119_0 n v0)
  |0,v0,hi0,hi1=>by
    simp only[r119_0]
    first | trivial |(show _ ; simp only[post119_0]; omega) |(simp only[post119_0] at*; omega) |(have q:=abl107 v0 yb; have q2:=abu107 v0 yb; simp only[decide_eq_true_eq,length_map] at h_0; omega) |(have q:=abl107 v0 yb; have q2:=abu107 v0 yb; omega) |(simp only[decide_eq_true_eq] at*; omega)
  |n+1,v0,hi0,hi1=>by
    simp only[r119_0]
    by_cases h_0:(decide (((length (map d_i v0)):Int) > 1))=true
    · try simp only[if_pos h_0]
      exact z119_0 (a0:=a0) hy0 hy1 n (m107 v0) yw yw
    · try simp only[if_neg h_0]
      first | trivial |(show _ ; simp only[post119_0]; omega) |(simp only[post119_0] at*; omega) |(have q:=abl107 v0 yb; have q2:=abu107 v0 yb; simp only[decide_eq_true_eq,length_map] at h_0; omega) |(have q:=abl107 v0 yb; have q2:=abu107 v0 yb; omega) |(simp only[decide_eq_true_eq] at*; omega)
def m119 (a0:(List Int)):Int:=
  (match r119_0 (length a0) a0 with | .k0 w0_0 w1_0=>(getD w0_0 0 0))
theorem e119 {a0:(List Int)} (hy0:1≤length a0) (hy1:length a0≤1000):Ev F X (.call 119 [(.one (.ref ⟨(0,0,0),[],0,(length (map d_i a0))⟩))] [((0,0,0),⟨1,(map d_i a0),[]⟩)] [] [(.one (.val (.int .i64 (m119 a0))))]):=by
  unfold m119
  cases h0:r119_0 (length a0) a0 with
  |k0 w0_0 w1_0=>
    try dsimp only
    have zh0:=z119_0 (a0:=a0) (by assumption) (by assumption) (length a0) a0 yb yb; rw[h0] at zh0; simp only[post119_0] at zh0
    have f0:=Eq.refl (h119_0 a0 a0)
    have f2:0+(length (map d_i w0_0))≤(length (map d_i w0_0)):=yb
    have f3:0≤(0:Int)∧(0:Int) <((length (map d_i w0_0)):Int):=yl
    exact cq [] ya (.f f0 (.f (ev_ (e:=ex119_0) (g:=(fin119_0 a0)) h0 (t119_0 (a0:=a0) (by assumption) (by assumption) (length a0) a0 yb yb (Nat.le_refl _))) (.f f2 (.f f3 (.f (mp_ d_i (getD_at w0_0 0 0 yb)) (.h 2 (.loop (h119_0 a0 a0) (.exit 0) (fin119_0 a0 (.k0 w0_0 w1_0))) (.h 8 (.rowD [(.i (getD w0_0 0 0))]) .nil)))))))
def m91 (a0:K_G):Int:=
  (m118 [a0.f0,(m119 (m79 a0)),a0.f1,a0.f2,a0.f3])
theorem e91 {l0_4:Nat} {a0:K_G} (hy0:length a0.f4*56≤140737488351232) (hy1:∀z∈a0.f4,ok_T z) (hy2:1≤length a0.f4) (hy3:length a0.f4≤4) (hy4:∀z∈a0.f4,SmT z):Ev F X (.call 91 [(.agg (k_G l0_4 a0))] [] [] [(.one (.val (.int .i64 (m91 a0))))]):=by
  have f2:Ev F X (.call 119 [(.one (.ref ⟨(0,0,0),[],0,(length (map d_i (m79 a0)))⟩))] [((0,0,0),⟨1,(map d_i (m79 a0)),[]⟩)] [] [(.oi (m119 (m79 a0)))]):=(e119 (a0:=(m79 a0)) (by rw[ln79]; exact hy2) (by rw[ln79]; omega))
  have f3:5≤5:=yb
  have f4:fullR (take 5 (drop 0 [[(.i a0.f0)],[(.i (m119 (m79 a0)))],[(.i a0.f1)],[(.i a0.f2)],[(.i a0.f3)]]))=true:=yE
  have f5:toBR (take 5 (drop 0 [[(.i a0.f0)],[(.i (m119 (m79 a0)))],[(.i a0.f1)],[(.i a0.f2)],[(.i a0.f3)]]))=[[(.i a0.f0)],[(.i (m119 (m79 a0)))],[(.i a0.f1)],[(.i a0.f2)],[(.i a0.f3)]]:=yE
  exact cp ya (.r 11 [] [] (e79 (l0_4:=(l0_4+1)) (a0:=a0) ‹_› ‹_› ‹_› ‹_›) (.f (pureR_i (m79 a0)) (.r 13 [true] [] f2 (.f f3 (.f f4 (.f f5 (.r 29 [] [[[(.i a0.f0)],[(.i (m119 (m79 a0)))],[(.i a0.f1)],[(.i a0.f2)],[(.i a0.f3)]]] (e118 (l0_0:=0) (a0:=[a0.f0,(m119 (m79 a0)),a0.f1,a0.f2,a0.f3]) (by simp; done)) .nil)))))))
def m92 (a0:Int):Int:=
  (wrap .i64 ((wrap .i64 ((wrap .i64 ((Int.tmod a0 256)+1))*2 ^(min (toNat (wrap .i64 (7*(wrap .i64 (Int.tdiv a0 256))))) (IntKind.bits .i64)))) - 1))
theorem e92 {a0:Int} (hy0:1≤a0) (hy1:a0≤1023):Ev F X (.call 92 [(.one (.val (.int .i64 a0)))] [] [] [(.one (.val (.int .i64 (m92 a0))))]):=by
  have f0:(256:Int)≠0:=yb
  have f3:0≤(wrap .i64 (7*(wrap .i64 (Int.tdiv a0 256)))):=(by have e:=Int.tdiv_eq_ediv_of_nonneg (a:=a0) (b:=256) yb; have e1:wrap .i64 (Int.tdiv a0 256)=a0 / 256:=(by rw[e]; exact wrap64 yb); rw[e1,wrap64 yb]; omega)
  exact cp ya (.f f0 (.f trivial (.f f0 (.f f3 .nil))))
theorem e93 {a0:List K_KY} {l0:Nat} (hy0:length a0*32≤70368744177664):Ev F X (.call 93 [(.one (.bor l0 (map b_KY a0)))] [] [] [(.one (.own 4 (map d_KY a0)))]):=by
  refine .ext (.inr ⟨rfl,rfl,?_⟩) rfl
  have e:fromBR l0 (map b_KY a0)=map d_KY a0:=by first | exact fromBR_KY .. | simp[fromBR_KY]
  refine⟨l0,_,rfl,by rw[e],by rw[e]; simpa using hy0,by rw[e]; exact lenD_KY _,by rw[e]; first | exact pureR_KY _ | simp[pureR_KY]⟩
def m60 (a0:(List K_J)) (a1:(List K_KY)) (a2:K_KY) (a3:Int):K_SR:=
  if(decide ((m1011600 a0 a2.f0) < 0))=true then(K_SR.mk 4 false 0 0 0 0 [] []) else
  if(!(m41 a2.f2 ((getD a0 (toNat (m1011600 a0 a2.f0)) (K_J.mk 0 0 0 0 0 [])).f2) (wrap .i64 (((getD a0 (toNat (m1011600 a0 a2.f0)) (K_J.mk 0 0 0 0 0 [])).f2)+60))))=true then(K_SR.mk 9 false 0 0 0 0 [] []) else
    if(decide ((m115 a1 a2)≥0))=true then(K_SR.mk 6 false 0 0 0 0 [] []) else
      if(((m9 (getD a0 (toNat (m1011600 a0 a2.f0)) (K_J.mk 0 0 0 0 0 [])) a2.f1 a2.f2 a2.f3).f0) !=0)=true then(K_SR.mk ((m9 (getD a0 (toNat (m1011600 a0 a2.f0)) (K_J.mk 0 0 0 0 0 [])) a2.f1 a2.f2 a2.f3).f0) false 0 0 0 0 [] []) else
        if(decide ((m91 (K_G.mk ((m9 (getD a0 (toNat (m1011600 a0 a2.f0)) (K_J.mk 0 0 0 0 0 [])) a2.f1 a2.f2 a2.f3).f1) ((m9 (getD a0 (toNat (m1011600 a0 a2.f0)) (K_J.mk 0 0 0 0 0 [])) a2.f1 a2.f2 a2.f3).f2) ((m9 (getD a0 (toNat (m1011600 a0 a2.f0)) (K_J.mk 0 0 0 0 0 [])) a2.f1 a2.f2 a2.f3).f3) ((m9 (getD a0 (toNat (m1011600 a0 a2.f0)) (K_J.mk 0 0 0 0 0 [])) a2.f1 a2.f2 a2.f3).f4) ((m9 (getD a0 (toNat (m1011600 a0 a2.f0)) (K_J.mk 0 0 0 0 0 [])) a2.f1 a2.f2 a2.f3).f5))) >(wrap .i64 (Int.tdiv 2147483646 a3))))=true then(K_SR.mk 8 false 0 0 0 0 [] []) else
          if(decide (((length (map b_KY a1)):Int)≥40))=true then(K_SR.mk 10 false 0 0 0 0 [] []) else
            (K_SR.mk 0 (decide ((m91 (K_G.mk ((m9 (getD a0 (toNat (m1011600 a0 a2.f0)) (K_J.mk 0 0 0 0 0 [])) a2.f1 a2.f2 a2.f3).f1) ((m9 (getD a0 (toNat (m1011600 a0 a2.f0)) (K_J.mk 0 0 0 0 0 [])) a2.f1 a2.f2 a2.f3).f2) ((m9 (getD a0 (toNat (m1011600 a0 a2.f0)) (K_J.mk 0 0 0 0 0 [])) a2.f1 a2.f2 a2.f3).f3) ((m9 (getD a0 (toNat (m1011600 a0 a2.f0)) (K_J.mk 0 0 0 0 0 [])) a2.f1 a2.f2 a2.f3).f4) ((m9 (getD a0 (toNat (m1011600 a0 a2.f0)) (K_J.mk 0 0 0 0 0 [])) a2.f1 a2.f2 a2.f3).f5)))≤(m92 ((m9 (getD a0 (toNat (m1011600 a0 a2.f0)) (K_J.mk 0 0 0 0 0 [])) a2.f1 a2.f2 a2.f3).f3)))) ((m9 (getD a0 (toNat (m1011600 a0 a2.f0)) (K_J.mk 0 0 0 0 0 [])) a2.f1 a2.f2 a2.f3).f1) ((m9 (getD a0 (toNat (m1011600 a0 a2.f0)) (K_J.mk 0 0 0 0 0 [])) a2.f1 a2.f2 a2.f3).f2) ((m9 (getD a0 (toNat (m1011600 a0 a2.f0)) (K_J.mk 0 0 0 0 0 [])) a2.f1 a2.f2 a2.f3).f3) ((m9 (getD a0 (toNat (m1011600 a0 a2.f0)) (K_J.mk 0 0 0 0 0 [])) a2.f1 a2.f2 a2.f3).f4) ((m9 (getD a0 (toNat (m1011600 a0 a2.f0)) (K_J.mk 0 0 0 0 0 [])) a2.f1 a2.f2 a2.f3).f5) (a1++([a2])))
theorem e60 {l0_0:Nat} {a0:(List K_J)} {l1_0:Nat} {a1:(List K_KY)} {a2:K_KY} {a3:Int} (hy0:length a0*64≤140737488351232) (hy1:∀z∈a0,ok_J z) (hy2:length a1*32≤140737488351232) (hy3:1≤a3):Ev F X (.call 60 [(.one (.bor l0_0 (map b_J a0))),(.one (.bor l1_0 (map b_KY a1))),(.agg [(.val (.int .i64 a2.f0)),(.val (.int .i64 a2.f1)),(.val (.int .i64 a2.f2)),(.val (.int .i64 a2.f3))]),(.one (.val (.int .i64 a3)))] [] [] [(.agg (d_SR (m60 a0 a1 a2 a3)))]):=by
  unfold m60
  have P0 {hs q} (r:PS F X hs q):=(PS.r 11 [] [] (e90 (l0_0:=(l0_0+1)) (a0:=a0) (a1:=a2.f0) ‹_› ‹_›) r)
  by_cases h0:(decide ((m1011600 a0 a2.f0) < 0))=true
  · try simp only[if_pos h0]
    have f2:pureR []=true:=yE
    exact cp ya (P0 (.f h0 (.f f2 (.f f2 (.h 18 (.b true) .nil)))))
  · try simp only[if_neg h0]
    have f2:0≤(m1011600 a0 a2.f0):=yU
    have P1 {hs q} (r:PS F X hs q):=(P0 (.f (nt h0) (.f f2 (.f (mp_ b_J (getD_at a0 (toNat (m1011600 a0 a2.f0)) (K_J.mk 0 0 0 0 0 []) yaj)) (.f trivial (.h 18 (.b false) (.h 24 (.row (b_J (getD a0 (toNat (m1011600 a0 a2.f0)) (K_J.mk 0 0 0 0 0 [])))) (.r 44 [] [] (e41 (a0:=a2.f2) (a1:=((getD a0 (toNat (m1011600 a0 a2.f0)) (K_J.mk 0 0 0 0 0 [])).f2)) (a2:=(wrap .i64 (((getD a0 (toNat (m1011600 a0 a2.f0)) (K_J.mk 0 0 0 0 0 [])).f2)+60)))) r))))))))
    by_cases h1:(!(m41 a2.f2 ((getD a0 (toNat (m1011600 a0 a2.f0)) (K_J.mk 0 0 0 0 0 [])).f2) (wrap .i64 (((getD a0 (toNat (m1011600 a0 a2.f0)) (K_J.mk 0 0 0 0 0 [])).f2)+60))))=true
    · try simp only[if_pos h1]
      have f7:pureR []=true:=yE
      exact cp ya (P1 (.f h1 (.f f7 (.f f7 (.h 49 (.b true) .nil)))))
    · try simp only[if_neg h1]
      have P2 {hs q} (r:PS F X hs q):=(P1 (.f (nt h1) (.h 49 (.b false) (.r 55 [] [] (e89 (l0_0:=(l1_0+1)) (a0:=a1) (a1:=a2) ‹_›) r))))
      by_cases h2:(decide ((m115 a1 a2)≥0))=true
      · try simp only[if_pos h2]
        have f9:pureR []=true:=yE
        exact cp ya (P2 (.f h2 (.f f9 (.f f9 (.h 58 (.b true) .nil)))))
      · try simp only[if_neg h2]
        have P3 {hs q} (r:PS F X hs q):=(P2 (.f (nt h2) (.f f2 (.f (mp_ b_J (getD_at a0 (toNat (m1011600 a0 a2.f0)) (K_J.mk 0 0 0 0 0 []) yaj)) (.h 58 (.b false) (.h 64 (.row (b_J (getD a0 (toNat (m1011600 a0 a2.f0)) (K_J.mk 0 0 0 0 0 [])))) (.r 80 [] [] (e9 (l0_5:=(l0_0+1)) (a0:=(getD a0 (toNat (m1011600 a0 a2.f0)) (K_J.mk 0 0 0 0 0 []))) (a1:=a2.f1) (a2:=a2.f2) (a3:=a2.f3) yr yr) (pe 0 (pe (length (map d_T ((m9 (getD a0 (toNat (m1011600 a0 a2.f0)) (K_J.mk 0 0 0 0 0 [])) a2.f1 a2.f2 a2.f3).f5))) r)))))))))
        by_cases h3:(((m9 (getD a0 (toNat (m1011600 a0 a2.f0)) (K_J.mk 0 0 0 0 0 [])) a2.f1 a2.f2 a2.f3).f0) !=0)=true
        · try simp only[if_pos h3]
          have f15:pureR []=true:=yE
          exact cp ya (P3 (.f h3 (.f f15 (.f f15 (.h 91 (.b true) .nil)))))
        · try simp only[if_neg h3]
          have f19:a3≠0:=yb
          have P4 {hs q} (r:PS F X hs q):=(P3 (.f (nt h3) (ln_T ((m9 (getD a0 (toNat (m1011600 a0 a2.f0)) (K_J.mk 0 0 0 0 0 [])) a2.f1 a2.f2 a2.f3).f5) (.h 91 (.b false) (.r 97 [] [(map b_T ((m9 (getD a0 (toNat (m1011600 a0 a2.f0)) (K_J.mk 0 0 0 0 0 [])) a2.f1 a2.f2 a2.f3).f5))] (e91 (l0_4:=0) (a0:=(K_G.mk ((m9 (getD a0 (toNat (m1011600 a0 a2.f0)) (K_J.mk 0 0 0 0 0 [])) a2.f1 a2.f2 a2.f3).f1) ((m9 (getD a0 (toNat (m1011600 a0 a2.f0)) (K_J.mk 0 0 0 0 0 [])) a2.f1 a2.f2 a2.f3).f2) ((m9 (getD a0 (toNat (m1011600 a0 a2.f0)) (K_J.mk 0 0 0 0 0 [])) a2.f1 a2.f2 a2.f3).f3) ((m9 (getD a0 (toNat (m1011600 a0 a2.f0)) (K_J.mk 0 0 0 0 0 [])) a2.f1 a2.f2 a2.f3).f4) ((m9 (getD a0 (toNat (m1011600 a0 a2.f0)) (K_J.mk 0 0 0 0 0 [])) a2.f1 a2.f2 a2.f3).f5))) (by have q:=bs43 (sb9 (nz0 h3)); have q1:=q.2.1; omega) (by have q:=bs43 (sb9 (nz0 h3)); with_reducible exact fun z hz=>(q.2.2 z hz).ok) (by have q:=bs43 (sb9 (nz0 h3)); with_reducible exact q.1) (by have q:=bs43 (sb9 (nz0 h3)); with_reducible exact q.2.1) (by have q:=bs43 (sb9 (nz0 h3)); with_reducible exact q.2.2)) (.f f19 r))))))
          by_cases h4:(decide ((m91 (K_G.mk ((m9 (getD a0 (toNat (m1011600 a0 a2.f0)) (K_J.mk 0 0 0 0 0 [])) a2.f1 a2.f2 a2.f3).f1) ((m9 (getD a0 (toNat (m1011600 a0 a2.f0)) (K_J.mk 0 0 0 0 0 [])) a2.f1 a2.f2 a2.f3).f2) ((m9 (getD a0 (toNat (m1011600 a0 a2.f0)) (K_J.mk 0 0 0 0 0 [])) a2.f1 a2.f2 a2.f3).f3) ((m9 (getD a0 (toNat (m1011600 a0 a2.f0)) (K_J.mk 0 0 0 0 0 [])) a2.f1 a2.f2 a2.f3).f4) ((m9 (getD a0 (toNat (m1011600 a0 a2.f0)) (K_J.mk 0 0 0 0 0 [])) a2.f1 a2.f2 a2.f3).f5))) >(wrap .i64 (Int.tdiv 2147483646 a3))))=true
          · try simp only[if_pos h4]
            have f21:pureR []=true:=yE
            exact cp ya (P4 (.f h4 (.f f21 (.f f21 (.h 110 (.b true) .nil)))))
          · try simp only[if_neg h4]
            by_cases h5:(decide (((length (map b_KY a1)):Int)≥40))=true
            · try simp only[if_pos h5]
              have f22:pureR []=true:=yE
              exact cp ya (P4 (.f (nt h4) (.f h5 (.f f22 (.f f22 (.h 110 (.b false) (.h 119 (.b true) .nil)))))))
            · try simp only[if_neg h5]
              have f23:Ev F X (.call 93 [(.one (.bor (l1_0+1) (map b_KY a1)))] [] [] [(.one (.own 4 (map d_KY a1)))]):=(e93 (a0:=a1) yU)
              have f24:0+(length (map d_KY a1))≤(length (map d_KY a1)):=yb
              have f25:1≤1:=yb
              have f26:((take 1 (drop 0 [[(.i a2.f0),(.i a2.f1),(.i a2.f2),(.i a2.f3)]])).all fun x=>x.all copyable)=true:=yap
              have f27:(length ((take (length (map d_KY a1)) (drop 0 (map d_KY a1)))++([[(.i a2.f0),(.i a2.f1),(.i a2.f2),(.i a2.f3)]]:List (List D))))*32≤70368744177664:=yF
              have f28:∀r∈([[(.i a2.f0),(.i a2.f1),(.i a2.f2),(.i a2.f3)]]:List (List D)),r.length=4:=yQ
              have f33:([[(.i 0),(.val (.bool (decide ((m91 (K_G.mk ((m9 (getD a0 (toNat (m1011600 a0 a2.f0)) (K_J.mk 0 0 0 0 0 [])) a2.f1 a2.f2 a2.f3).f1) ((m9 (getD a0 (toNat (m1011600 a0 a2.f0)) (K_J.mk 0 0 0 0 0 [])) a2.f1 a2.f2 a2.f3).f2) ((m9 (getD a0 (toNat (m1011600 a0 a2.f0)) (K_J.mk 0 0 0 0 0 [])) a2.f1 a2.f2 a2.f3).f3) ((m9 (getD a0 (toNat (m1011600 a0 a2.f0)) (K_J.mk 0 0 0 0 0 [])) a2.f1 a2.f2 a2.f3).f4) ((m9 (getD a0 (toNat (m1011600 a0 a2.f0)) (K_J.mk 0 0 0 0 0 [])) a2.f1 a2.f2 a2.f3).f5)))≤(m92 ((m9 (getD a0 (toNat (m1011600 a0 a2.f0)) (K_J.mk 0 0 0 0 0 [])) a2.f1 a2.f2 a2.f3).f3)))))),(.i ((m9 (getD a0 (toNat (m1011600 a0 a2.f0)) (K_J.mk 0 0 0 0 0 [])) a2.f1 a2.f2 a2.f3).f1)),(.i ((m9 (getD a0 (toNat (m1011600 a0 a2.f0)) (K_J.mk 0 0 0 0 0 [])) a2.f1 a2.f2 a2.f3).f2)),(.i ((m9 (getD a0 (toNat (m1011600 a0 a2.f0)) (K_J.mk 0 0 0 0 0 [])) a2.f1 a2.f2 a2.f3).f3)),(.i ((m9 (getD a0 (toNat (m1011600 a0 a2.f0)) (K_J.mk 0 0 0 0 0 [])) a2.f1 a2.f2 a2.f3).f4)),(.own 3 (map d_T ((m9 (getD a0 (toNat (m1011600 a0 a2.f0)) (K_J.mk 0 0 0 0 0 [])) a2.f1 a2.f2 a2.f3).f5))),(.own 4 ((take (length (map d_KY a1)) (drop 0 (map d_KY a1)))++([[(.i a2.f0),(.i a2.f1),(.i a2.f2),(.i a2.f3)]]:List (List D))))]]:List (List D))=[[(.i 0),(.val (.bool (decide ((m91 (K_G.mk ((m9 (getD a0 (toNat (m1011600 a0 a2.f0)) (K_J.mk 0 0 0 0 0 [])) a2.f1 a2.f2 a2.f3).f1) ((m9 (getD a0 (toNat (m1011600 a0 a2.f0)) (K_J.mk 0 0 0 0 0 [])) a2.f1 a2.f2 a2.f3).f2) ((m9 (getD a0 (toNat (m1011600 a0 a2.f0)) (K_J.mk 0 0 0 0 0 [])) a2.f1 a2.f2 a2.f3).f3) ((m9 (getD a0 (toNat (m1011600 a0 a2.f0)) (K_J.mk 0 0 0 0 0 [])) a2.f1 a2.f2 a2.f3).f4) ((m9 (getD a0 (toNat (m1011600 a0 a2.f0)) (K_J.mk 0 0 0 0 0 [])) a2.f1 a2.f2 a2.f3).f5)))≤(m92 ((m9 (getD a0 (toNat (m1011600 a0 a2.f0)) (K_J.mk 0 0 0 0 0 [])) a2.f1 a2.f2 a2.f3).f3)))))),(.i ((m9 (getD a0 (toNat (m1011600 a0 a2.f0)) (K_J.mk 0 0 0 0 0 [])) a2.f1 a2.f2 a2.f3).f1)),(.i ((m9 (getD a0 (toNat (m1011600 a0 a2.f0)) (K_J.mk 0 0 0 0 0 [])) a2.f1 a2.f2 a2.f3).f2)),(.i ((m9 (getD a0 (toNat (m1011600 a0 a2.f0)) (K_J.mk 0 0 0 0 0 [])) a2.f1 a2.f2 a2.f3).f3)),(.i ((m9 (getD a0 (toNat (m1011600 a0 a2.f0)) (K_J.mk 0 0 0 0 0 [])) a2.f1 a2.f2 a2.f3).f4)),(.own 3 (map d_T ((m9 (getD a0 (toNat (m1011600 a0 a2.f0)) (K_J.mk 0 0 0 0 0 [])) a2.f1 a2.f2 a2.f3).f5))),(.own 4 (map d_KY (a1++([a2]))))]]:=(by simp[take_of_length_le,d_T,d_KY,ol112,ol83,ol84,ol51,ol21,four_len,high4,high2]; done)
              exact cp ya (P4 (.f (nt h4) (.f (nt h5) (.h 110 (.b false) (.h 119 (.b false) (.r 129 [] [] (e92 (a0:=((m9 (getD a0 (toNat (m1011600 a0 a2.f0)) (K_J.mk 0 0 0 0 0 [])) a2.f1 a2.f2 a2.f3).f3)) (by have q:=bt43 (sb9 (nz0 h3)); with_reducible exact q.1) (by have q:=bt43 (sb9 (nz0 h3)); with_reducible exact q.2)) (.r 139 [] [] f23 (.f f24 (.f f25 (.f f26 (.f f27 (.f f28 (pe 0 (pe (length (map d_T ((m9 (getD a0 (toNat (m1011600 a0 a2.f0)) (K_J.mk 0 0 0 0 0 [])) a2.f1 a2.f2 a2.f3).f5))) (pe 0 (pe (length ((take (length (map d_KY a1)) (drop 0 (map d_KY a1)))++([[(.i a2.f0),(.i a2.f1),(.i a2.f2),(.i a2.f3)]]:List (List D)))) (.f f33 (.f (pureR_T ((m9 (getD a0 (toNat (m1011600 a0 a2.f0)) (K_J.mk 0 0 0 0 0 [])) a2.f1 a2.f2 a2.f3).f5)) (.f (pureR_KY (a1++([a2]))) (.h 145 (.b true) (.h 150 (.norm (8,0,0) [[(.i 0),(.val (.bool (decide ((m91 (K_G.mk ((m9 (getD a0 (toNat (m1011600 a0 a2.f0)) (K_J.mk 0 0 0 0 0 [])) a2.f1 a2.f2 a2.f3).f1) ((m9 (getD a0 (toNat (m1011600 a0 a2.f0)) (K_J.mk 0 0 0 0 0 [])) a2.f1 a2.f2 a2.f3).f2) ((m9 (getD a0 (toNat (m1011600 a0 a2.f0)) (K_J.mk 0 0 0 0 0 [])) a2.f1 a2.f2 a2.f3).f3) ((m9 (getD a0 (toNat (m1011600 a0 a2.f0)) (K_J.mk 0 0 0 0 0 [])) a2.f1 a2.f2 a2.f3).f4) ((m9 (getD a0 (toNat (m1011600 a0 a2.f0)) (K_J.mk 0 0 0 0 0 [])) a2.f1 a2.f2 a2.f3).f5)))≤(m92 ((m9 (getD a0 (toNat (m1011600 a0 a2.f0)) (K_J.mk 0 0 0 0 0 [])) a2.f1 a2.f2 a2.f3).f3)))))),(.i ((m9 (getD a0 (toNat (m1011600 a0 a2.f0)) (K_J.mk 0 0 0 0 0 [])) a2.f1 a2.f2 a2.f3).f1)),(.i ((m9 (getD a0 (toNat (m1011600 a0 a2.f0)) (K_J.mk 0 0 0 0 0 [])) a2.f1 a2.f2 a2.f3).f2)),(.i ((m9 (getD a0 (toNat (m1011600 a0 a2.f0)) (K_J.mk 0 0 0 0 0 [])) a2.f1 a2.f2 a2.f3).f3)),(.i ((m9 (getD a0 (toNat (m1011600 a0 a2.f0)) (K_J.mk 0 0 0 0 0 [])) a2.f1 a2.f2 a2.f3).f4)),(.own 3 (map d_T ((m9 (getD a0 (toNat (m1011600 a0 a2.f0)) (K_J.mk 0 0 0 0 0 [])) a2.f1 a2.f2 a2.f3).f5))),(.own 4 (map d_KY (a1++([a2]))))]]) .nil)))))))))))))))))))))
theorem okm60 (a0:(List K_J)) (a1:(List K_KY)) (a2:K_KY) (a3:Int):ok_SR (m60 a0 a1 a2 a3):=by
  unfold m60
  (repeat' split)<;>first
    |exact⟨by simp,fun z hz=>(by cases hz),by simp⟩
    |exact⟨(okm9 _ _ _ _).1,(okm9 _ _ _ _).2,by simp only[decide_eq_true_eq,length_map,length_append,length_cons,length_nil] at*; omega⟩
def m28 (a0:(List K_J)) (a1:(List K_KY)) (a2:K_KY) (a3:Int):K_SR:=
  if((m40 a0) !=0)=true then(K_SR.mk (m40 a0) false 0 0 0 0 [] []) else
  if((m57 a1) !=0)=true then(K_SR.mk (m57 a1) false 0 0 0 0 [] []) else
    if(!(m58 a2))=true then(K_SR.mk 3 false 0 0 0 0 [] []) else
      if(!(m41 a3 1 9999))=true then(K_SR.mk 3 false 0 0 0 0 [] []) else
        (m60 a0 a1 a2 a3)
theorem e28 {l0_0:Nat} {a0:(List K_J)} {l1_0:Nat} {a1:(List K_KY)} {a2:K_KY} {a3:Int} (hy0:length a0*64≤140737488351232) (hy1:∀z∈a0,ok_J z) (hy2:length a1*32≤140737488351232):Ev F X (.call 28 [(.one (.bor l0_0 (map b_J a0))),(.one (.bor l1_0 (map b_KY a1))),(.agg [(.val (.int .i64 a2.f0)),(.val (.int .i64 a2.f1)),(.val (.int .i64 a2.f2)),(.val (.int .i64 a2.f3))]),(.one (.val (.int .i64 a3)))] [] [] [(.agg (d_SR (m28 a0 a1 a2 a3)))]):=by
  unfold m28
  have P0 {hs q} (r:PS F X hs q):=(PS.r 7 [] [] (e40 (l0_0:=(l0_0+1)) (a0:=a0) ‹_› ‹_›) r)
  by_cases h0:((m40 a0) !=0)=true
  · try simp only[if_pos h0]
    have f2:pureR []=true:=yE
    exact cp ya (P0 (.f h0 (.f f2 (.f f2 (.h 14 (.b true) .nil)))))
  · try simp only[if_neg h0]
    have P1 {hs q} (r:PS F X hs q):=(P0 (.f (nt h0) (.h 14 (.b false) (.r 18 [] [] (e57 (l0_0:=(l1_0+1)) (a0:=a1) ‹_›) r))))
    by_cases h1:((m57 a1) !=0)=true
    · try simp only[if_pos h1]
      have f4:pureR []=true:=yE
      exact cp ya (P1 (.f h1 (.f f4 (.f f4 (.h 25 (.b true) .nil)))))
    · try simp only[if_neg h1]
      have P2 {hs q} (r:PS F X hs q):=(P1 (.f (nt h1) (.h 25 (.b false) (.r 29 [] [] (e58 (a0:=a2)) r))))
      by_cases h2:(!(m58 a2))=true
      · try simp only[if_pos h2]
        have f9:pureR []=true:=yE
        exact cp ya (P2 (.f h2 (.f h2 (.f h2 (.f h2 (.f f9 (.f f9 (.h 34 (.b true) (.h 36 (.b true) (.h 38 (.b true) (.h 41 (.b true) .nil)))))))))))
      · try simp only[if_neg h2]
        have P3 {hs q} (r:PS F X hs q):=(P2 (.f (nt h2) (.f (nt h2) (.h 34 (.b false) (.h 36 (.b false) (.r 37 [] [] (e59 (a0:=a3)) (.f (nt h2) (.f (nt h2) (.h 38 (.b false) (.h 41 (.b false) r))))))))))
        by_cases h3:(!(m41 a3 1 9999))=true
        · try simp only[if_pos h3]
          have f11:pureR []=true:=yE
          exact cp ya (P3 (.f h3 (.f f11 (.f f11 (.h 42 (.b true) .nil)))))
        · try simp only[if_neg h3]
          exact cp ya (P3 (.f (nt h3) (.h 42 (.b false) (.r 52 [] [] (e60 (l0_0:=(l0_0+1)) (l1_0:=(l1_0+1)) (a0:=a0) (a1:=a1) (a2:=a2) (a3:=a3) ‹_› ‹_› ‹_› (by exact(jn41 ‹_›).1)) (pe 0 (pe (length (map d_T ((m60 a0 a1 a2 a3).f6))) (pe 0 (pe (length (map d_KY ((m60 a0 a1 a2 a3).f7))) (.f (pureR_T ((m60 a0 a1 a2 a3).f6)) (.f (pureR_KY ((m60 a0 a1 a2 a3).f7)) .nil))))))))))
theorem okm28 (a0:(List K_J)) (a1:(List K_KY)) (a2:K_KY) (a3:Int):ok_SR (m28 a0 a1 a2 a3):=by
  unfold m28
  (repeat' split)<;>first
    |exact⟨by simp,fun z hz=>(by cases hz),by simp⟩
    |exact okm60 _ _ _ _
def m61 (a0:K_KY) (a1:K_KY):Bool:=
  if(a0.f0 !=a1.f0)=true then false else
  if(a0.f1 !=a1.f1)=true then false else
    if(a0.f2 !=a1.f2)=true then false else
      if(a0.f3 !=a1.f3)=true then false else
        true
theorem e61 {a0:K_KY} {a1:K_KY}:Ev F X (.call 61 [(.agg [(.val (.int .i64 a0.f0)),(.val (.int .i64 a0.f1)),(.val (.int .i64 a0.f2)),(.val (.int .i64 a0.f3))]),(.agg [(.val (.int .i64 a1.f0)),(.val (.int .i64 a1.f1)),(.val (.int .i64 a1.f2)),(.val (.int .i64 a1.f3))])] [] [] [(.one (.val (.bool (m61 a0 a1))))]):=by
  unfold m61
  by_cases h0:(a0.f0 !=a1.f0)=true
  · try simp only[if_pos h0]
    exact cp ya (.f h0 (.h 16 (.b true) .nil))
  · try simp only[if_neg h0]
    have P1 {hs q} (r:PS F X hs q):=(PS.f (nt h0) (.h 16 (.b false) r))
    by_cases h1:(a0.f1 !=a1.f1)=true
    · try simp only[if_pos h1]
      exact cp ya (P1 (.f h1 (.h 27 (.b true) .nil)))
    · try simp only[if_neg h1]
      by_cases h2:(a0.f2 !=a1.f2)=true
      · try simp only[if_pos h2]
        exact cp ya (P1 (.f (nt h1) (.f h2 (.h 27 (.b false) (.h 38 (.b true) .nil)))))
      · try simp only[if_neg h2]
        by_cases h3:(a0.f3 !=a1.f3)=true
        · try simp only[if_pos h3]
          exact cp ya (P1 (.f (nt h1) (.f (nt h2) (.f h3 (.h 27 (.b false) (.h 38 (.b false) (.h 49 (.b true) .nil)))))))
        · try simp only[if_neg h3]
          exact cp ya (P1 (.f (nt h1) (.f (nt h2) (.f (nt h3) (.h 27 (.b false) (.h 38 (.b false) (.h 49 (.b false) .nil)))))))
open Classical in
theorem eqd61 (a b:K_KY):m61 a b=decide (a=b):=by
  rw[Bool.eq_iff_iff,decide_eq_true_eq]
  constructor
  · intro h
    unfold m61 at h
    cases a; cases b
    (repeat' split at h)<;>simp_all [ba_eq]
  · rintro rfl
    simp[m61,ba_eq]
inductive O30_0 where
  |k0 (w0:Int) (w1:Bool)
  |k1
def r30_0 (a0:(List K_KY)):List K_KY→List K_KY→Int→O30_0
  |x0::y0,x1::y1,i=>
    if(!(m61 x0 x1))=true then(O30_0.k1) else
    (r30_0 a0 y0 y1 (i+1))
  |_,_,i=>(O30_0.k0 i (decide (i <((length (map b_KY a0)):Int))))
def h30_0 (l0_0:Nat) (l1_0:Nat) (a0:(List K_KY)) (a1:(List K_KY)) (i:Int) :St:=⟨[(0,(.one (.bor l0_0 (map b_KY a0)))),(1,(.one (.bor l1_0 (map b_KY a1)))),(5,(.one (.val (.int .i64 i))))],[]⟩
def ex30_0:O30_0→VX.Exit
  |.k0 _ _=>(.exit 0)
  |.k1=>.ret
def fin30_0 (l0_0:Nat) (l1_0:Nat) (a0:(List K_KY)) (a1:(List K_KY)):O30_0→St
  |.k0 w0 w1=>⟨[(0,(.one (.bor l0_0 (map b_KY a0)))),(1,(.one (.bor l1_0 (map b_KY a1)))),(5,(.one (.val (.int .i64 w0)))),(14,(.one (.val (.bool w1))))],[]⟩
  |.k1=>⟨[(4,(.one (.val (.bool false))))],[]⟩
theorem t30_0 {l0_0:Nat} {l1_0:Nat} {a0:(List K_KY)} {a1:(List K_KY)} (hy0:length a0*32≤140737488351232) (hy1:length a1*32≤140737488351232):∀(y0:List K_KY) (y1:List K_KY) (p:List K_KY) (p_1:List K_KY),p++y0=a0→p_1++y1=a1→length p=length p_1→length y0=length y1→Ev F X (.code l30_0 (h30_0 l0_0 l1_0 a0 a1 (length p:Int)) (ex30_0 (r30_0 a0 y0 y1 (length p:Int))) (fin30_0 l0_0 l1_0 a0 a1 (r30_0 a0 y0 y1 (length p:Int))))
  |[],[],p,p_1,hp0,hp1,hq1,hl1=>by
    have hc:=hcn b_KY hp0
    exact lx 9 ya (.f (nt hc) (.h 8 (.b false) .nil)) rfl
  |x0::y0,x1::y1,p,p_1,hp0,hp1,hq1,hl1=>by
    have hc:=hcy b_KY hp0
    have Hx0:=hxy hp0
    have Hx1:(a1)[toNat (length p:Int)]?=some x1:=by
      rw[← hp1,hq1,Int.toNat_natCast]; simp
    have hlen:=hly hp0
    have hw:wrap .i64 ((length p:Int)+1)=(length p:Int)+1:=wrap64 yb
    simp only[r30_0]
    have f1:0≤(length p:Int):=yb
    have P1 {hs q} (r:PS F X hs q):=(PS.f hc (.f f1 (.f (mp_ b_KY Hx0) (.f f1 (.f (mp_ b_KY Hx1) (.h 8 (.b true) (.h 14 (.row (b_KY x0)) (.h 22 (.row (b_KY x1)) (.r 26 [] [] (e61 (a0:=x0) (a1:=x1)) r)))))))))
    by_cases h_1:(!(m61 x0 x1))=true
    · try simp only[if_pos h_1]
      exact lx 32 ya (P1 (.f h_1 (.h 29 (.b true) .nil))) rfl
    · try simp only[if_neg h_1]
      have ih:=t30_0 (l0_0:=l0_0) (l1_0:=l1_0) (a0:=a0) (a1:=a1) hy0 hy1 y0 y1 (p++ [x0]) (p_1++ [x1]) yd yac yo yad
      rw[pl1,← hw] at ih; rw[← hw]
      exact ly 36 ya (P1 (.f (nt h_1) (.f trivial (.h 29 (.b false) .nil)))) ih
def m30 (a0:(List K_KY)) (a1:(List K_KY)):Bool:=
  if(((length (map b_KY a0)):Int) !=((length (map b_KY a1)):Int))=true then false else
  (match r30_0 a0 a0 a1 0 with | .k0 w0_1 w1_1=>true | .k1=>false)
theorem e30 {l0_0:Nat} {a0:(List K_KY)} {l1_0:Nat} {a1:(List K_KY)} (hy0:length a0*32≤140737488351232) (hy1:length a1*32≤140737488351232):Ev F X (.call 30 [(.one (.bor l0_0 (map b_KY a0))),(.one (.bor l1_0 (map b_KY a1)))] [] [] [(.one (.val (.bool (m30 a0 a1))))]):=by
  unfold m30
  by_cases h0:(((length (map b_KY a0)):Int) !=((length (map b_KY a1)):Int))=true
  · try simp only[if_pos h0]
    exact cp ya (.f h0 (.h 12 (.b true) .nil))
  · try simp only[if_neg h0]
    cases h1:r30_0 a0 a0 a1 0 with
    |k0 w0_1 w1_1=>
      try dsimp only
      have f1:=Eq.refl (h30_0 l0_0 l1_0 a0 a1 0 )
      exact cp ya (.f (nt h0) (.f f1 (.f (ev_ (e:=ex30_0) (g:=(fin30_0 l0_0 l1_0 a0 a1)) h1 (t30_0 (l0_0:=l0_0) (l1_0:=l1_0) (a0:=a0) (a1:=a1) (by assumption) (by assumption) a0 a1 [] []  rfl rfl rfl yX)) (.h 12 (.b false) (.h 15 (.loop (h30_0 l0_0 l1_0 a0 a1 0) (.exit 0) (fin30_0 l0_0 l1_0 a0 a1 (.k0 w0_1 w1_1))) .nil)))))
    |k1=>
      try dsimp only
      have f1:=Eq.refl (h30_0 l0_0 l1_0 a0 a1 0 )
      exact cp ya (.f (nt h0) (.f f1 (.f (ev_ (e:=ex30_0) (g:=(fin30_0 l0_0 l1_0 a0 a1)) h1 (t30_0 (l0_0:=l0_0) (l1_0:=l1_0) (a0:=a0) (a1:=a1) (by assumption) (by assumption) a0 a1 [] []  rfl rfl rfl yX)) (.h 12 (.b false) (.h 15 (.loop (h30_0 l0_0 l1_0 a0 a1 0) .ret (fin30_0 l0_0 l1_0 a0 a1 (.k1))) .nil)))))
theorem eqr30_0 (a0:(List K_KY)):∀(l m:List K_KY) (i:Int),l.length=m.length→(r30_0 a0 l m i=.k1∧l≠m)∨(∃w0 w1,r30_0 a0 l m i=.k0 w0 w1∧l=m)
  |[],[],i,_=>.inr ⟨_,_,rfl,rfl⟩
  |[],_::_,i,h=>by simp at h
  |_::_,[],i,h=>by simp at h
  |x::l,y::m,i,h=>by
    have ih:=eqr30_0 a0 l m (i+1) yab
    by_cases hxy:x=y
    · subst hxy
      have e:r30_0 a0 (x::l) (x::m) i=r30_0 a0 l m (i+1):=by simp[r30_0,ba_eq,eqd61]
      rw[e]
      rcases ih with⟨h1,h2⟩ |⟨w0,w1,h1,h2⟩
      · exact .inl ⟨h1,by simp[h2]⟩
      · exact .inr ⟨_,_,h1,by rw[h2]⟩
    · have e:r30_0 a0 (x::l) (y::m) i=.k1:=by
        simp only[r30_0]
        first
          |((repeat' split)<;>simp_all [ba_eq,eqd61]; done)
          |(cases x; cases y;(repeat' split)<;>simp_all [ba_eq,eqd61])
      exact .inl ⟨e,by simp[hxy]⟩
open Classical in
theorem eqd30 (a b:(List K_KY)):m30 a b=decide (a=b):=by
  rw[Bool.eq_iff_iff,decide_eq_true_eq]
  unfold m30
  by_cases hl:length a=length b
  · rcases eqr30_0 a a b 0 hl with⟨h1,h2⟩ |⟨w0,w1,h1,h2⟩
    · simp only[h1,length_map,hl]
      first
        |(simp[h2,ba_eq,eqd61]; done)
        |(cases a; cases b; simp_all [ba_eq,eqd61]; done)
        |(cases a; cases b;(repeat' split)<;>simp_all [ba_eq,eqd61])
    · simp only[h1,length_map,hl]
      first
        |(simp[h2,ba_eq,eqd61]; done)
        |(cases a; cases b; simp_all [ba_eq,eqd61]; done)
        |(cases a; cases b;(repeat' split)<;>simp_all [ba_eq,eqd61])
  · have hn:a≠b:=by rintro rfl; exact hl rfl
    simp only[length_map]
    first
      |(simp[hn,hl,ba_eq,eqd61]; done)
      |((repeat' split)<;>simp_all [ba_eq,eqd61]; done)
      |(simp[hn]; omega)
def m29 (a0:K_SR) (a1:K_SR):Bool:=
  if(a0.f0 !=a1.f0)=true then false else
  if(!(a0.f1==a1.f1))=true then false else
    if(!(m44 (K_G.mk a0.f2 a0.f3 a0.f4 a0.f5 a0.f6) (K_G.mk a1.f2 a1.f3 a1.f4 a1.f5 a1.f6)))=true then false else
      if(!(m30 a0.f7 a1.f7))=true then false else
        true
theorem e29 {l0_6:Nat} {l0_7:Nat} {a0:K_SR} {l1_6:Nat} {l1_7:Nat} {a1:K_SR} (hy0:length a0.f6*56≤140737488351232) (hy1:∀z∈a0.f6,ok_T z) (hy2:length a0.f7*32≤140737488351232) (hy3:length a1.f6*56≤140737488351232) (hy4:∀z∈a1.f6,ok_T z) (hy5:length a1.f7*32≤140737488351232):Ev F X (.call 29 [(.agg (k_SR l0_6 l0_7 a0)),(.agg (k_SR l1_6 l1_7 a1))] [] [] [(.one (.val (.bool (m29 a0 a1))))]):=by
  unfold m29
  by_cases h0:(a0.f0 !=a1.f0)=true
  · try simp only[if_pos h0]
    exact cp ya (.f h0 (.h 16 (.b true) .nil))
  · try simp only[if_neg h0]
    have P1 {hs q} (r:PS F X hs q):=(PS.f (nt h0) (.h 16 (.b false) r))
    by_cases h1:(!(a0.f1==a1.f1))=true
    · try simp only[if_pos h1]
      exact cp ya (P1 (.f h1 (.h 27 (.b true) .nil)))
    · try simp only[if_neg h1]
      have P2 {hs q} (r:PS F X hs q):=(P1 (.f (nt h1) (.h 27 (.b false) (.r 37 [] [] (e44 (l0_4:=(l0_6+1)) (l1_4:=(l1_6+1)) (a0:=(K_G.mk a0.f2 a0.f3 a0.f4 a0.f5 a0.f6)) (a1:=(K_G.mk a1.f2 a1.f3 a1.f4 a1.f5 a1.f6)) ‹_› ‹_› ‹_› ‹_›) r))))
      by_cases h2:(!(m44 (K_G.mk a0.f2 a0.f3 a0.f4 a0.f5 a0.f6) (K_G.mk a1.f2 a1.f3 a1.f4 a1.f5 a1.f6)))=true
      · try simp only[if_pos h2]
        exact cp ya (P2 (.f h2 (.h 40 (.b true) .nil)))
      · try simp only[if_neg h2]
        have P3 {hs q} (r:PS F X hs q):=(P2 (.f (nt h2) (.h 40 (.b false) (.r 50 [] [] (e30 (l0_0:=(l0_7+1)) (l1_0:=(l1_7+1)) (a0:=a0.f7) (a1:=a1.f7) ‹_› ‹_›) r))))
        by_cases h3:(!(m30 a0.f7 a1.f7))=true
        · try simp only[if_pos h3]
          exact cp ya (P3 (.f h3 (.h 53 (.b true) .nil)))
        · try simp only[if_neg h3]
          exact cp ya (P3 (.f (nt h3) (.h 53 (.b false) .nil)))
open Classical in
theorem eqd29 (a b:K_SR):m29 a b=decide (a=b):=by
  rw[Bool.eq_iff_iff,decide_eq_true_eq]
  constructor
  · intro h
    unfold m29 at h
    cases a; cases b
    (repeat' split at h)<;>simp_all [ba_eq,eqd30,eqd44]
  · rintro rfl
    simp[m29,ba_eq,eqd30,eqd44]
end Go.Proofs.YtmdocdnidilaiaaGreat.CheckShare
