/- What the functions compute. -/
import Derived.Test.YtmdocdnidilaiaaGreatEShareBlockE
import Derived.KernelRfl
namespace Go.Proofs.YtmdocdnidilaiaaGreat.ShareBlock
open Go Go.Proofs.YtmdocdnidilaiaaGreat.V
set_option linter.unusedVariables false
set_option linter.unusedSimpArgs false
set_option maxRecDepth 20000
open Go.IntKind (wrap)
open Int (toNat)
open List (length_replicate length_map length_set length_append length_cons length_nil length_take length_drop take_of_length_le map_take map_drop map_set append_assoc getElem?_map map length take drop getD set)
attribute [local simp] toBR_i fullR_i pureR_i lenB_i lenD_i fromBR_i copy_i toBR_N fullR_N pureR_N lenB_N lenD_N toBR_U fullR_U pureR_U lenB_U lenD_U toBR_T fullR_T pureR_T lenB_T lenD_T toBR_J fullR_J pureR_J lenB_J lenD_J toBR_b fullR_b pureR_b lenB_b lenD_b fromBR_b copy_b toBR_G fullR_G pureR_G lenB_G lenD_G toBR_JL fullR_JL pureR_JL lenB_JL lenD_JL toBR_TL fullR_TL pureR_TL lenB_TL lenD_TL toBR_LiE fullR_LiE pureR_LiE lenB_LiE lenD_LiE toBR_NL fullR_NL pureR_NL lenB_NL lenD_NL toBR_UL fullR_UL pureR_UL lenB_UL lenD_UL strInts_len byteRows_len toBR_y fullR_y pureR_y lenB_y lenD_y fromBR_y copy_y toBR_LyE fullR_LyE pureR_LyE lenB_LyE lenD_LyE toBR_LLyEE fullR_LLyEE pureR_LLyEE lenB_LLyEE lenD_LLyEE
/-! loop 132_1 -/
inductive O132_1 where
  |k0 (w0:List K_U) (w1:Int) (w2:Bool)
def r132_1 (a0:K_T):List K_U→Int→List K_U→O132_1
  |x0::y0,i,v0=>
    (r132_1 a0 y0 (i+1) (v0++([x0])))
  |[],i,v0=>(O132_1.k0 v0 i (decide (i <((length (map b_U a0.f2)):Int))))
def h132_1 (l0_1:Nat) (l0_2:Nat) (a0:K_T) (c0_132_1:List K_N) (i:Int) (v0:List K_U):St:=⟨[(1,(.ptr ⟨(1,0,0),[],0,0,3⟩)),(2,(.ptr ⟨(2,0,0),[],0,0,3⟩)),(3,(.ptr ⟨(3,0,0),[],0,0,3⟩)),(30,(.one (.bor l0_2 (map b_U a0.f2)))),(31,(.one (.val (.int .i64 ((length (map b_U a0.f2)):Int))))),(32,(.one (.val (.int .i64 i))))],[((1,0,0),.live ⟨3,[[(.val (.int .i64 a0.f0)),(.bor l0_1 (map b_N a0.f1)),(.bor l0_2 (map b_U a0.f2))]],[]⟩),((2,0,0),.live ⟨3,[[(.val (.int .i64 0)),(.own 3 []),(.own 2 [])]],[]⟩),((3,0,0),.live ⟨3,[[(.val (.int .i64 a0.f0)),(.own 3 (map d_N c0_132_1)),(.own 2 (map d_U v0))]],[]⟩)]⟩
def ex132_1:O132_1→VX.Exit
  |.k0 _ _ _=>(.exit 2)
def fin132_1 (l0_1:Nat) (l0_2:Nat) (a0:K_T) (c0_132_1:List K_N):O132_1→St
  |.k0 w0 w1 w2=>⟨[(1,(.ptr ⟨(1,0,0),[],0,0,3⟩)),(2,(.ptr ⟨(2,0,0),[],0,0,3⟩)),(3,(.ptr ⟨(3,0,0),[],0,0,3⟩)),(30,(.one (.bor l0_2 (map b_U a0.f2)))),(31,(.one (.val (.int .i64 ((length (map b_U a0.f2)):Int))))),(32,(.one (.val (.int .i64 w1)))),(33,(.one (.val (.bool w2))))],[((1,0,0),.live ⟨3,[[(.val (.int .i64 a0.f0)),(.bor l0_1 (map b_N a0.f1)),(.bor l0_2 (map b_U a0.f2))]],[]⟩),((2,0,0),.live ⟨3,[[(.val (.int .i64 0)),(.own 3 []),(.own 2 [])]],[]⟩),((3,0,0),.live ⟨3,[[(.val (.int .i64 a0.f0)),(.own 3 (map d_N c0_132_1)),(.own 2 (map d_U w0))]],[]⟩)]⟩
theorem t132_1 {l0_1:Nat} {l0_2:Nat} {a0:K_T} {c0_132_1:List K_N} (hy0:length a0.f1*40≤140737488351232) (hy1:∀z∈a0.f1,ok_N z) (hy2:length a0.f2*32≤140737488351232) (hy3:∀z∈a0.f2,ok_U z) (hy4:SmT a0) (hy5:length c0_132_1≤140737488351232):∀(y0:List K_U) (p:List K_U) (v0:List K_U),p++y0=a0.f2→(length v0+length y0)*32≤70368744177664→Ev F X (.code l132_1 (h132_1 l0_1 l0_2 a0 c0_132_1 (length p:Int) v0) (ex132_1 (r132_1 a0 y0 (length p:Int) v0)) (fin132_1 l0_1 l0_2 a0 c0_132_1 (r132_1 a0 y0 (length p:Int) v0)))
  |[],p,v0,hp0,hi0=>by
    have hc:¬(decide ((length p:Int) <((length (map b_U a0.f2)):Int)))=true:=by
      rw[← hp0]; simp only[LN,decide_eq_true_eq]; omega
    have hj0:=hi0; try simp only[LN,Int.toNat_natCast] at hj0
    have st:=ch b132_1 (h132_1 l0_1 l0_2 a0 c0_132_1 (length p:Int) v0) ⟨[(1,(.ptr ⟨(1,0,0),[],0,0,3⟩)),(2,(.ptr ⟨(2,0,0),[],0,0,3⟩)),(3,(.ptr ⟨(3,0,0),[],0,0,3⟩)),(30,(.one (.bor l0_2 (map b_U a0.f2)))),(31,(.oi ((length (map b_U a0.f2)):Int))),(32,(.oi (length p:Int))),(33,(.one (.val (.bool (decide ((length p:Int) <((length (map b_U a0.f2)):Int)))))))],[((1,0,0),.live ⟨3,[[(.i a0.f0),(.bor l0_1 (map b_N a0.f1)),(.bor l0_2 (map b_U a0.f2))]],[]⟩),((2,0,0),.live ⟨3,[[(.i 0),(.own 3 []),(.own 2 [])]],[]⟩),((3,0,0),.live ⟨3,[[(.i a0.f0),(.own 3 (map d_N c0_132_1)),(.own 2 (map d_U v0))]],[]⟩)]⟩ (.exit 2) 3 (by kernel_rfl) (.f (nt hc) (.h 2 (.b false) .nil))
    rw[show (⟨[(1,(.ptr ⟨(1,0,0),[],0,0,3⟩)),(2,(.ptr ⟨(2,0,0),[],0,0,3⟩)),(3,(.ptr ⟨(3,0,0),[],0,0,3⟩)),(30,(.one (.bor l0_2 (map b_U a0.f2)))),(31,(.oi ((length (map b_U a0.f2)):Int))),(32,(.oi (length p:Int))),(33,(.one (.val (.bool (decide ((length p:Int) <((length (map b_U a0.f2)):Int)))))))],[((1,0,0),.live ⟨3,[[(.i a0.f0),(.bor l0_1 (map b_N a0.f1)),(.bor l0_2 (map b_U a0.f2))]],[]⟩),((2,0,0),.live ⟨3,[[(.i 0),(.own 3 []),(.own 2 [])]],[]⟩),((3,0,0),.live ⟨3,[[(.i a0.f0),(.own 3 (map d_N c0_132_1)),(.own 2 (map d_U v0))]],[]⟩)]⟩:St)=fin132_1 l0_1 l0_2 a0 c0_132_1 (.k0 v0 (length p:Int) (decide ((length p:Int) <((length (map b_U a0.f2)):Int)))) from(by rfl)] at st
    exact .loopX st (show ((.exit 2):VX.Exit)≠.normal from by simp)
  |x0::y0,p,v0,hp0,hi0=>by
    have hc:(decide ((length p:Int) <((length (map b_U a0.f2)):Int)))=true:=by
      rw[← hp0]; simp only[LN,decide_eq_true_eq]; omega
    have Hx0:(a0.f2)[toNat (length p:Int)]?=some x0:=by
      rw[← hp0,Int.toNat_natCast]; simp
    have Mx0_0:=hy3 x0 (List.mem_of_getElem? Hx0)
    have hlen:length (a0.f2)=length p+length y0+1:=by rw[← hp0]; simp; omega
    have hw:wrap .i64 ((length p:Int)+1)=(length p:Int)+1:=wrap64 (by omega)
    have hj0:=hi0; try simp only[LN,Int.toNat_natCast] at hj0
    simp only[r132_1]
    have f1:0≤(length p:Int):=(by omega)
    have f3:Ev F X (.call 156 [(.one (.bor (l0_2+1) (map b_i x0.f1)))] [] [] [(.one (.own 1 (map d_i x0.f1)))]):=(e156 (a0:=x0.f1) (by have q:=hy4.2.2.2 x0 (List.mem_of_getElem? Hx0); omega))
    have f8:0+(length (map d_U v0))≤(length (map d_U v0)):=(by omega)
    have f9:1≤1:=(by omega)
    have f10:((take 1 (drop 0 [[(.i x0.f0),(.own 1 (map d_i x0.f1))]])).all fun x=>x.all copyable)=false:=(by trivial)
    have f13:(length ((take (length (map d_U v0)) (drop 0 (map d_U v0)))++([[(.i x0.f0),(.own 1 (map d_i x0.f1))]]:List (List D))))*32≤70368744177664:=(by simp only[length_map,length_append,length_cons,length_nil,length_take,length_drop]; omega)
    have f14:∀r∈([[(.i x0.f0),(.own 1 (map d_i x0.f1))]]:List (List D)),r.length=2:=(by simp[four_len,high4,high2]; done)
    have f17:([[(.i a0.f0),(.own 3 (map d_N c0_132_1)),(.own 2 ((take (length (map d_U v0)) (drop 0 (map d_U v0)))++([[(.i x0.f0),(.own 1 (map d_i x0.f1))]]:List (List D))))]]:List (List D))=[[(.i a0.f0),(.own 3 (map d_N c0_132_1)),(.own 2 (map d_U (v0++([x0]))))]]:=(by simp[take_of_length_le,d_i,d_N,d_U,four_len,high4,high2]; done)
    have st:=ch b132_1 (h132_1 l0_1 l0_2 a0 c0_132_1 (length p:Int) v0) ⟨[(1,(.ptr ⟨(1,0,0),[],0,0,3⟩)),(2,(.ptr ⟨(2,0,0),[],0,0,3⟩)),(3,(.ptr ⟨(3,0,0),[],0,0,3⟩)),(30,(.one (.bor l0_2 (map b_U a0.f2)))),(31,(.oi ((length (map b_U a0.f2)):Int))),(32,(.oi (wrap .i64 ((length p:Int)+1))))],[((1,0,0),.live ⟨3,[[(.i a0.f0),(.bor l0_1 (map b_N a0.f1)),(.bor l0_2 (map b_U a0.f2))]],[]⟩),((2,0,0),.live ⟨3,[[(.i 0),(.own 3 []),(.own 2 [])]],[]⟩),((3,0,0),.live ⟨3,[[(.i a0.f0),(.own 3 (map d_N c0_132_1)),(.own 2 (map d_U (v0++([x0]))))]],[]⟩)]⟩ .normal 40 (by kernel_rfl) (.f hc (.f f1 (.f (mp_ b_U Hx0) (.h 2 (.b true) (.h 4 (.row [(.i x0.f0),(.sl (map b_i x0.f1))]) (.r 16 [] [] f3 (pe 0 (pe (length (map d_i x0.f1)) (pe 0 (pe (length (map d_i x0.f1)) (.f f8 (.f f9 (.f f10 (pe 0 (pe 1 (.f f13 (.f f14 (pe 0 (pe (length ((take (length (map d_U v0)) (drop 0 (map d_U v0)))++([[(.i x0.f0),(.own 1 (map d_i x0.f1))]]:List (List D)))) (.f f17 (.f trivial (.h 30 (.b false) (.h 35 (.norm (3,0,0) [[(.i a0.f0),(.own 3 (map d_N c0_132_1)),(.own 2 (map d_U (v0++([x0]))))]]) .nil)))))))))))))))))))))))
    have ih:=t132_1 (l0_1:=l0_1) (l0_2:=l0_2) (a0:=a0) (c0_132_1:=c0_132_1) hy0 hy1 hy2 hy3 hy4 hy5 y0 (p++ [x0]) (v0++([x0])) (by rw[append_assoc]; exact hp0) (by simp only[LN]; omega)
    rw[show ((p++ [x0]).length:Int)=(p.length:Int)+1 from by simp] at ih
    rw[show (⟨[(1,(.ptr ⟨(1,0,0),[],0,0,3⟩)),(2,(.ptr ⟨(2,0,0),[],0,0,3⟩)),(3,(.ptr ⟨(3,0,0),[],0,0,3⟩)),(30,(.one (.bor l0_2 (map b_U a0.f2)))),(31,(.oi ((length (map b_U a0.f2)):Int))),(32,(.oi (wrap .i64 ((length p:Int)+1))))],[((1,0,0),.live ⟨3,[[(.i a0.f0),(.bor l0_1 (map b_N a0.f1)),(.bor l0_2 (map b_U a0.f2))]],[]⟩),((2,0,0),.live ⟨3,[[(.i 0),(.own 3 []),(.own 2 [])]],[]⟩),((3,0,0),.live ⟨3,[[(.i a0.f0),(.own 3 (map d_N c0_132_1)),(.own 2 (map d_U (v0++([x0]))))]],[]⟩)]⟩:St)=h132_1 l0_1 l0_2 a0 c0_132_1 ((length p:Int)+1) (v0++([x0])) from(by unfold h132_1; simp only[hw]; done)] at st
    exact .loopN st ih
def post132_1 (n0:Nat):O132_1→Prop
  |.k0 w0 _ _=>length w0=n0
theorem z132_1 {a0:K_T}:∀(y0:List K_U) (i:Int) (v0:List K_U),post132_1 (length v0+length y0) (r132_1 a0 y0 i v0)
  |[],i,v0=>by
    first | trivial |(simp only[post132_1,length_nil,Nat.add_zero]; done) |(simp[post132_1]; done)
  |x0::y0,i,v0=>by
    simp only[r132_1]
    have z:=z132_1 (a0:=a0) y0 (i+1) (v0++([x0]))
    rw[show (length v0+length (x0::y0))=(length (v0++([x0]))+length y0) from by first | omega |(simp only[LN]; done) |(simp only[LN]; omega)]
    exact z
theorem cp132_1 (a:K_T):∀(l:List K_U) (i:Int) (v:List K_U),∃j b,r132_1 a l i v=.k0 (v++l) j b
  |[],i,v=>⟨_,_,by simp only[r132_1,List.append_nil]; rfl⟩
  |x::l,i,v=>by
    obtain⟨j,b,h⟩:=cp132_1 a l (i+1) (v++ [x])
    exact⟨j,b,by simp only[r132_1]; rw[h,append_assoc]; rfl⟩
/-! loop.example/g00539/impl.cloneTx -/
def m132 (a0:K_T):K_T:=
  (match r132_0 a0 a0.f1 0 [] with | .k0 w0_0 w1_0 w2_0=>(match r132_1 a0 a0.f2 0 [] with | .k0 w0_1 w1_1 w2_1=>(K_T.mk a0.f0 w0_0 w0_1)))
theorem e132 {l0_1:Nat} {l0_2:Nat} {a0:K_T} (hy0:length a0.f1*40≤140737488351232) (hy1:∀z∈a0.f1,ok_N z) (hy2:length a0.f2*32≤140737488351232) (hy3:∀z∈a0.f2,ok_U z) (hy4:SmT a0):Ev F X (.call 132 [(.agg (k_T l0_1 l0_2 a0))] [] [] [(.agg (d_T (m132 a0)))]):=by
  unfold m132
  cases h0:r132_0 a0 a0.f1 0 [] with
  |k0 w0_0 w1_0 w2_0=>
    try dsimp only
    have zh0:=z132_0 (a0:=a0) a0.f1 0 []; rw[h0] at zh0; simp only[post132_0,length_map,length_set,length_append,length_replicate,length_cons,length_nil,Int.toNat_natCast] at zh0
    have f0:(⟨[(1,(.ptr ⟨(1,0,0),[],0,0,3⟩)),(2,(.ptr ⟨(2,0,0),[],0,0,3⟩)),(3,(.ptr ⟨(3,0,0),[],0,0,3⟩)),(12,(.one (.bor l0_1 (map b_N a0.f1)))),(13,(.oi ((length (map b_N a0.f1)):Int))),(14,(.oi 0))],[((1,0,0),.live ⟨3,[[(.i a0.f0),(.bor l0_1 (map b_N a0.f1)),(.bor l0_2 (map b_U a0.f2))]],[]⟩),((2,0,0),.live ⟨3,[[(.i 0),(.own 3 []),(.own 2 [])]],[]⟩),((3,0,0),.live ⟨3,[[(.i a0.f0),(.own 3 []),(.own 2 [])]],[]⟩)]⟩:St)=h132_0 l0_1 l0_2 a0 0 []:=yf
    cases h1:r132_1 a0 a0.f2 0 [] with
    |k0 w0_1 w1_1 w2_1=>
      try dsimp only
      have zh1:=z132_1 (a0:=a0) a0.f2 0 []; rw[h1] at zh1; simp only[post132_1,length_map,length_set,length_append,length_replicate,length_cons,length_nil,Int.toNat_natCast] at zh1
      have f2:(⟨[(1,(.ptr ⟨(1,0,0),[],0,0,3⟩)),(2,(.ptr ⟨(2,0,0),[],0,0,3⟩)),(3,(.ptr ⟨(3,0,0),[],0,0,3⟩)),(30,(.one (.bor l0_2 (map b_U a0.f2)))),(31,(.oi ((length (map b_U a0.f2)):Int))),(32,(.oi 0))],[((1,0,0),.live ⟨3,[[(.i a0.f0),(.bor l0_1 (map b_N a0.f1)),(.bor l0_2 (map b_U a0.f2))]],[]⟩),((2,0,0),.live ⟨3,[[(.i 0),(.own 3 []),(.own 2 [])]],[]⟩),((3,0,0),.live ⟨3,[[(.i a0.f0),(.own 3 (map d_N w0_0)),(.own 2 [])]],[]⟩)]⟩:St)=h132_1 l0_1 l0_2 a0 w0_0 0 []:=yf
      exact cp ya (.f f0 (.f (ev_ (e:=ex132_0) (g:=(fin132_0 l0_1 l0_2 a0)) h0 (t132_0 (l0_1:=l0_1) (l0_2:=l0_2) (a0:=a0) (by assumption) (by assumption) (by assumption) (by assumption) (by assumption) a0.f1 [] [] rfl yI)) (.f f2 (.f (ev_ (e:=ex132_1) (g:=(fin132_1 l0_1 l0_2 a0 w0_0)) h1 (t132_1 (l0_1:=l0_1) (l0_2:=l0_2) (a0:=a0) (c0_132_1:=w0_0) (by assumption) (by assumption) (by assumption) (by assumption) (by assumption) yc a0.f2 [] [] rfl yI)) (pe 0 (pe (length (map d_N w0_0)) (pe 0 (pe (length (map d_U w0_1)) (.f (pureR_N w0_0) (.f (pureR_U w0_1) (.h 22 (.loop (h132_0 l0_1 l0_2 a0 0 []) (.exit 0) ⟨[(1,(.ptr ⟨(1,0,0),[],0,0,3⟩)),(2,(.ptr ⟨(2,0,0),[],0,0,3⟩)),(3,(.ptr ⟨(3,0,0),[],0,0,3⟩)),(12,(.one (.bor l0_1 (map b_N a0.f1)))),(13,(.oi ((length (map b_N a0.f1)):Int))),(14,(.oi w1_0)),(15,(.one (.val (.bool w2_0))))],[((1,0,0),.live ⟨3,[[(.i a0.f0),(.bor l0_1 (map b_N a0.f1)),(.bor l0_2 (map b_U a0.f2))]],[]⟩),((2,0,0),.live ⟨3,[[(.i 0),(.own 3 []),(.own 2 [])]],[]⟩),((3,0,0),.live ⟨3,[[(.i a0.f0),(.own 3 (map d_N w0_0)),(.own 2 [])]],[]⟩)]⟩) (.h 31 (.loop (h132_1 l0_1 l0_2 a0 w0_0 0 []) (.exit 2) ⟨[(1,(.ptr ⟨(1,0,0),[],0,0,3⟩)),(2,(.ptr ⟨(2,0,0),[],0,0,3⟩)),(3,(.ptr ⟨(3,0,0),[],0,0,3⟩)),(30,(.one (.bor l0_2 (map b_U a0.f2)))),(31,(.oi ((length (map b_U a0.f2)):Int))),(32,(.oi w1_1)),(33,(.one (.val (.bool w2_1))))],[((1,0,0),.live ⟨3,[[(.i a0.f0),(.bor l0_1 (map b_N a0.f1)),(.bor l0_2 (map b_U a0.f2))]],[]⟩),((2,0,0),.live ⟨3,[[(.i 0),(.own 3 []),(.own 2 [])]],[]⟩),((3,0,0),.live ⟨3,[[(.i a0.f0),(.own 3 (map d_N w0_0)),(.own 2 (map d_U w0_1))]],[]⟩)]⟩) .nil))))))))))))
theorem q132 (a0:K_T) (hy0:length a0.f1*40≤140737488351232) (hy1:∀z∈a0.f1,ok_N z) (hy2:length a0.f2*32≤140737488351232) (hy3:∀z∈a0.f2,ok_U z) (hy4:SmT a0):(m132 a0)=a0:=by
  obtain⟨j,b,h⟩:=cp132_0 a0 a0.f1 0 []
  obtain⟨j2,b2,h2⟩:=cp132_1 a0 a0.f2 0 []
  unfold m132
  rw[h]
  simp only[]
  rw[h2]
  rfl
theorem g132 {l0_1:Nat} {l0_2:Nat} {a0:K_T} (hy0:length a0.f1*40≤140737488351232) (hy1:∀z∈a0.f1,ok_N z) (hy2:length a0.f2*32≤140737488351232) (hy3:∀z∈a0.f2,ok_U z) (hy4:SmT a0):Ev F X (.call 132 [(.agg (k_T l0_1 l0_2 a0))] [] [] [(.agg (d_T a0))]):=by
  have t:=e132 (l0_1:=l0_1) (l0_2:=l0_2) (a0:=a0) hy0 hy1 hy2 hy3 hy4
  rw[q132 a0 hy0 hy1 hy2 hy3 hy4] at t
  exact t
/-! loop 101_0 -/
inductive O101_0 where
  |k0 (w0:List K_T) (w1:Int) (w2:Bool)
def r101_0 (a0:(List K_T)):List K_T→Int→List K_T→O101_0
  |x0::y0,i,v0=>
    (r101_0 a0 y0 (i+1) (v0++([x0])))
  |[],i,v0=>(O101_0.k0 v0 i (decide (i <((length (map b_T a0)):Int))))
def h101_0 (l0_0:Nat) (a0:(List K_T)) (i:Int) (v0:List K_T):St:=⟨[(3,(.one (.ref ⟨(3,0,0),[],0,(length (map d_T v0))⟩))),(7,(.one (.bor l0_0 (map b_T a0)))),(8,(.one (.val (.int .i64 ((length (map b_T a0)):Int))))),(9,(.one (.val (.int .i64 i))))],[((3,0,0),.live ⟨3,(map d_T v0),[]⟩)]⟩
def ex101_0:O101_0→VX.Exit
  |.k0 _ _ _=>(.exit 0)
def fin101_0 (l0_0:Nat) (a0:(List K_T)):O101_0→St
  |.k0 w0 w1 w2=>⟨[(3,(.one (.ref ⟨(3,0,0),[],0,(length (map d_T w0))⟩))),(7,(.one (.bor l0_0 (map b_T a0)))),(8,(.one (.val (.int .i64 ((length (map b_T a0)):Int))))),(9,(.one (.val (.int .i64 w1)))),(10,(.one (.val (.bool w2))))],[((3,0,0),.live ⟨3,(map d_T w0),[]⟩)]⟩
theorem t101_0 {l0_0:Nat} {a0:(List K_T)} (hy0:length a0*56≤140737488351232) (hy1:∀z∈a0,ok_T z) (hy2:length a0≤4) (hy3:∀z∈a0,SmT z):∀(y0:List K_T) (p:List K_T) (v0:List K_T),p++y0=a0→(length v0+length y0)*56≤70368744177664→Ev F X (.code l101_0 (h101_0 l0_0 a0 (length p:Int) v0) (ex101_0 (r101_0 a0 y0 (length p:Int) v0)) (fin101_0 l0_0 a0 (r101_0 a0 y0 (length p:Int) v0)))
  |[],p,v0,hp0,hi0=>by
    have hc:¬(decide ((length p:Int) <((length (map b_T a0)):Int)))=true:=by
      rw[← hp0]; simp only[LN,decide_eq_true_eq]; omega
    have hj0:=hi0; try simp only[LN,Int.toNat_natCast] at hj0
    have st:=ch b101_0 (h101_0 l0_0 a0 (length p:Int) v0) ⟨[(3,(.one (.ref ⟨(3,0,0),[],0,(length (map d_T v0))⟩))),(7,(.one (.bor l0_0 (map b_T a0)))),(8,(.oi ((length (map b_T a0)):Int))),(9,(.oi (length p:Int))),(10,(.one (.val (.bool (decide ((length p:Int) <((length (map b_T a0)):Int)))))))],[((3,0,0),.live ⟨3,(map d_T v0),[]⟩)]⟩ (.exit 0) 3 (by kernel_rfl) (.f (nt hc) (.h 2 (.b false) .nil))
    rw[show (⟨[(3,(.one (.ref ⟨(3,0,0),[],0,(length (map d_T v0))⟩))),(7,(.one (.bor l0_0 (map b_T a0)))),(8,(.oi ((length (map b_T a0)):Int))),(9,(.oi (length p:Int))),(10,(.one (.val (.bool (decide ((length p:Int) <((length (map b_T a0)):Int)))))))],[((3,0,0),.live ⟨3,(map d_T v0),[]⟩)]⟩:St)=fin101_0 l0_0 a0 (.k0 v0 (length p:Int) (decide ((length p:Int) <((length (map b_T a0)):Int)))) from(by rfl)] at st
    exact .loopX st (show ((.exit 0):VX.Exit)≠.normal from by simp)
  |x0::y0,p,v0,hp0,hi0=>by
    have hc:(decide ((length p:Int) <((length (map b_T a0)):Int)))=true:=by
      rw[← hp0]; simp only[LN,decide_eq_true_eq]; omega
    have Hx0:(a0)[toNat (length p:Int)]?=some x0:=by
      rw[← hp0,Int.toNat_natCast]; simp
    obtain⟨Mx0_0,Mx0_1,Mx0_2,Mx0_3⟩:=hy1 x0 (List.mem_of_getElem? Hx0)
    have hlen:length (a0)=length p+length y0+1:=by rw[← hp0]; simp; omega
    have hw:wrap .i64 ((length p:Int)+1)=(length p:Int)+1:=wrap64 (by omega)
    have hj0:=hi0; try simp only[LN,Int.toNat_natCast] at hj0
    simp only[r101_0]
    have f1:0≤(length p:Int):=(by omega)
    have f8:0+(length (map d_T v0))≤(length (map d_T v0)):=(by omega)
    have f9:1≤1:=(by omega)
    have f10:((take 1 (drop 0 [[(.i x0.f0),(.own 3 (map d_N x0.f1)),(.own 2 (map d_U x0.f2))]])).all fun x=>x.all copyable)=false:=(by trivial)
    have f13:(length ((take (length (map d_T v0)) (drop 0 (map d_T v0)))++([[(.i x0.f0),(.own 3 (map d_N x0.f1)),(.own 2 (map d_U x0.f2))]]:List (List D))))*56≤70368744177664:=(by simp only[length_map,length_append,length_cons,length_nil,length_take,length_drop]; omega)
    have f14:∀r∈([[(.i x0.f0),(.own 3 (map d_N x0.f1)),(.own 2 (map d_U x0.f2))]]:List (List D)),r.length=3:=(by simp[four_len,high4,high2]; done)
    have f15:((take (length (map d_T v0)) (drop 0 (map d_T v0)))++([[(.i x0.f0),(.own 3 (map d_N x0.f1)),(.own 2 (map d_U x0.f2))]]:List (List D)))=(map d_T (v0++([x0]))):=(by simp[take_of_length_le,d_N,d_U,d_T,four_len,high4,high2]; done)
    have st:=ch b101_0 (h101_0 l0_0 a0 (length p:Int) v0) ⟨[(3,(.one (.ref ⟨(3,0,0),[],0,(length ((take (length (map d_T v0)) (drop 0 (map d_T v0)))++([[(.i x0.f0),(.own 3 (map d_N x0.f1)),(.own 2 (map d_U x0.f2))]]:List (List D))))⟩))),(7,(.one (.bor l0_0 (map b_T a0)))),(8,(.oi ((length (map b_T a0)):Int))),(9,(.oi (wrap .i64 ((length p:Int)+1))))],[((3,0,0),.live ⟨3,(map d_T (v0++([x0]))),[]⟩)]⟩ .normal 28 (by kernel_rfl) (.f hc (.f f1 (.f (mp_ b_T Hx0) (.h 2 (.b true) (.h 4 (.row [(.i x0.f0),(.sl (map b_N x0.f1)),(.sl (map b_U x0.f2))]) (.r 16 [] [] (g132 (l0_1:=(l0_0+1)) (l0_2:=(l0_0+1)) (a0:=x0) (by with_reducible assumption) (by with_reducible assumption) (by with_reducible assumption) (by with_reducible assumption) (by exact hy3 x0 (List.mem_of_getElem? Hx0))) (pe 0 (pe (length (map d_N x0.f1)) (pe 0 (pe (length (map d_U x0.f2)) (.f f8 (.f f9 (.f f10 (pe 0 (pe 1 (.f f13 (.f f14 (.f f15 (.f trivial (.h 20 (.b false) (.h 23 (.norm (3,0,0) (map d_T (v0++([x0])))) .nil)))))))))))))))))))))
    have ih:=t101_0 (l0_0:=l0_0) (a0:=a0) hy0 hy1 hy2 hy3 y0 (p++ [x0]) (v0++([x0])) (by rw[append_assoc]; exact hp0) (by simp only[LN]; omega)
    rw[show ((p++ [x0]).length:Int)=(p.length:Int)+1 from by simp] at ih
    rw[show (⟨[(3,(.one (.ref ⟨(3,0,0),[],0,(length ((take (length (map d_T v0)) (drop 0 (map d_T v0)))++([[(.i x0.f0),(.own 3 (map d_N x0.f1)),(.own 2 (map d_U x0.f2))]]:List (List D))))⟩))),(7,(.one (.bor l0_0 (map b_T a0)))),(8,(.oi ((length (map b_T a0)):Int))),(9,(.oi (wrap .i64 ((length p:Int)+1))))],[((3,0,0),.live ⟨3,(map d_T (v0++([x0]))),[]⟩)]⟩:St)=h101_0 l0_0 a0 ((length p:Int)+1) (v0++([x0])) from(by unfold h101_0; simp[hw,take_of_length_le,d_N,d_U,d_T,four_len,high4,high2]; done)] at st
    exact .loopN st ih
def post101_0 (n0:Nat):O101_0→Prop
  |.k0 w0 _ _=>length w0=n0
theorem z101_0 {a0:(List K_T)}:∀(y0:List K_T) (i:Int) (v0:List K_T),post101_0 (length v0+length y0) (r101_0 a0 y0 i v0)
  |[],i,v0=>by
    first | trivial |(simp only[post101_0,length_nil,Nat.add_zero]; done) |(simp[post101_0]; done)
  |x0::y0,i,v0=>by
    simp only[r101_0]
    have z:=z101_0 (a0:=a0) y0 (i+1) (v0++([x0]))
    rw[show (length v0+length (x0::y0))=(length (v0++([x0]))+length y0) from by first | omega |(simp only[LN]; done) |(simp only[LN]; omega)]
    exact z
theorem cp101_0 (a:List K_T):∀(l:List K_T) (i:Int) (v:List K_T),∃j b,r101_0 a l i v=.k0 (v++l) j b
  |[],i,v=>⟨_,_,by simp only[r101_0,List.append_nil]; rfl⟩
  |x::l,i,v=>by
    obtain⟨j,b,h⟩:=cp101_0 a l (i+1) (v++ [x])
    exact⟨j,b,by simp only[r101_0]; rw[h,append_assoc]; rfl⟩
/-! loop.example/g00539/impl.cloneTxs -/
def m101 (a0:(List K_T)):(List K_T):=
  (match r101_0 a0 a0 0 ([]) with | .k0 w0_0 w1_0 w2_0=>w0_0)
theorem e101 {l0_0:Nat} {a0:(List K_T)} (hy0:length a0*56≤140737488351232) (hy1:∀z∈a0,ok_T z) (hy2:length a0≤4) (hy3:∀z∈a0,SmT z):Ev F X (.call 101 [(.one (.bor l0_0 (map b_T a0)))] [] [] [(.one (.own 3 (map d_T (m101 a0))))]):=by
  unfold m101
  cases h0:r101_0 a0 a0 0 ([]) with
  |k0 w0_0 w1_0 w2_0=>
    try dsimp only
    have zh0:=z101_0 (a0:=a0) a0 0 ([]); rw[h0] at zh0; simp only[post101_0,length_map,length_set,length_append,length_replicate,length_cons,length_nil,Int.toNat_natCast] at zh0
    have f0:(⟨[(3,(.one (.ref ⟨(3,0,0),[],0,0⟩))),(7,(.one (.bor l0_0 (map b_T a0)))),(8,(.oi ((length (map b_T a0)):Int))),(9,(.oi 0))],[((3,0,0),.live ⟨3,[],[]⟩)]⟩:St)=h101_0 l0_0 a0 0 ([]):=yf
    exact cp ya (.f f0 (.f (ev_ (e:=ex101_0) (g:=(fin101_0 l0_0 a0)) h0 (t101_0 (l0_0:=l0_0) (a0:=a0) (by assumption) (by assumption) (by assumption) (by assumption) a0 [] ([]) rfl yp)) (pe 0 (pe (length (map d_T w0_0)) (.f (pureR_T w0_0) (.h 12 (.loop (h101_0 l0_0 a0 0 ([])) (.exit 0) ⟨[(3,(.one (.ref ⟨(3,0,0),[],0,(length (map d_T w0_0))⟩))),(7,(.one (.bor l0_0 (map b_T a0)))),(8,(.oi ((length (map b_T a0)):Int))),(9,(.oi w1_0)),(10,(.one (.val (.bool w2_0))))],[((3,0,0),.live ⟨3,(map d_T w0_0),[]⟩)]⟩) .nil))))))
theorem q101 (a0:(List K_T)) (hy0:length a0*56≤140737488351232) (hy1:∀z∈a0,ok_T z) (hy2:length a0≤4) (hy3:∀z∈a0,SmT z):(m101 a0)=a0:=by
  obtain⟨j,b,h⟩:=cp101_0 a0 a0 0 []
  unfold m101
  rw[h]
  rfl
theorem g101 {l0_0:Nat} {a0:(List K_T)} (hy0:length a0*56≤140737488351232) (hy1:∀z∈a0,ok_T z) (hy2:length a0≤4) (hy3:∀z∈a0,SmT z):Ev F X (.call 101 [(.one (.bor l0_0 (map b_T a0)))] [] [] [(.one (.own 3 (map d_T a0)))]):=by
  have t:=e101 (l0_0:=l0_0) (a0:=a0) hy0 hy1 hy2 hy3
  rw[q101 a0 hy0 hy1 hy2 hy3] at t
  exact t
theorem e73 {l0_4:Nat} {a0:K_G} (hy0:length a0.f4*56≤140737488351232) (hy1:∀z∈a0.f4,ok_T z) (hy2:length a0.f4≤4) (hy3:∀z∈a0.f4,SmT z):Ev F X (.call 73 [(.agg (k_G l0_4 a0))] [] [] [(.agg (d_G a0))]):=by
  exact cp ya (.r 9 [] [] (g101 (l0_0:=(l0_4+1)) (a0:=a0.f4) ‹_› ‹_› ‹_› ‹_›) (pe 0 (pe (length (map d_T a0.f4)) (pe 0 (pe (length (map d_T a0.f4)) (.f (pureR_T a0.f4) .nil))))))
/-! loop.example/g00539/impl.shareBlock -/
def m42 (a0:K_J) (a1:Int) (a2:Int) (a3:Int):K_G:=
  (K_G.mk a0.f1 a2 a0.f3 a3 (set a0.f5 0 (K_T.mk ((getD a0.f5 0 (K_T.mk 0 [] [])).f0) ((getD a0.f5 0 (K_T.mk 0 [] [])).f1) (set ((getD a0.f5 0 (K_T.mk 0 [] [])).f2) 1 (K_U.mk ((getD ((getD a0.f5 0 (K_T.mk 0 [] [])).f2) 1 (K_U.mk 0 [])).f0) [(wrap .i64 (100+a1))])))))
theorem e42 {l0_5:Nat} {a0:K_J} {a1:Int} {a2:Int} {a3:Int} (hy0:length a0.f5*56≤140737488351232) (hy1:∀z∈a0.f5,ok_T z) (hy2:SmJ a0):Ev F X (.call 42 [(.agg (k_J l0_5 a0)),(.one (.val (.int .i64 a1))),(.one (.val (.int .i64 a2))),(.one (.val (.int .i64 a3)))] [] [] [(.agg (d_G (m42 a0 a1 a2 a3)))]):=by
  have f3:0+(length (map d_T a0.f5))≤(length (map d_T a0.f5)):=yc
  have f4:0≤(0:Int)∧(0:Int) <((length (map d_T a0.f5)):Int):=(by have q:=hy2.1; simp only[length_map]; omega)
  have f7:nav 5 [[(.i a0.f1),(.i a2),(.i a0.f3),(.i a3),(.own 3 (map d_T a0.f5))]] [(0,4),(0,2)]=some (2,(map d_U ((getD a0.f5 0 (K_T.mk 0 [] [])).f2))):=(by show nav 3 (map d_T a0.f5) [(0,2)]=_; simp only[nav];(rw[getElem?_map,getD_at a0.f5 0 (K_T.mk 0 [] []) (by first | exact True.intro | with_reducible rfl | with_reducible assumption | omega |(exact hy2.2.1) |(exact hy2.2.2.1) |(exact hy2.1) |(have q:=hy2.1; omega) |(have q:=hy2.2.2.2; omega) |(refine⟨by omega,?_⟩; have q:=hy2.1; omega) |(refine⟨by omega,?_⟩; have q:=hy2.2.2.2; simp only[length_map]; omega) |(have q:=hy2.1; simp only[length_map]; omega) |(have q:=hy2.2.2.2; simp only[length_map]; omega) |(simp only[decide_eq_true_eq] at*; omega) |(simp only[length_map]; omega) |(simp[four_len,high4,high2]; omega) |(simp[take_of_length_le,four_len,high4,high2]; done) | assumption | trivial |(simp[*,four_len,high4,high2,byteRows_eq,ints_y]; done))]); rfl)
  have f8:0+(length (map d_U ((getD a0.f5 0 (K_T.mk 0 [] [])).f2)))≤(length (map d_U ((getD a0.f5 0 (K_T.mk 0 [] [])).f2))):=yc
  have f9:0≤(1:Int)∧(1:Int) <((length (map d_U ((getD a0.f5 0 (K_T.mk 0 [] [])).f2))):Int):=yX
  have f14:([[(.i a0.f1),(.i a2),(.i a0.f3),(.i a3),(.own 3 (setNav (map d_T a0.f5) [(0,2)] (set (map d_U ((getD a0.f5 0 (K_T.mk 0 [] [])).f2)) 1 [(.i ((getD ((getD a0.f5 0 (K_T.mk 0 [] [])).f2) 1 (K_U.mk 0 [])).f0)),(.own 1 [[(.i (wrap .i64 (100+a1)))]])])))]]:List (List D))=[[(.i a0.f1),(.i a2),(.i a0.f3),(.i a3),(.own 3 (map d_T (set a0.f5 0 (K_T.mk ((getD a0.f5 0 (K_T.mk 0 [] [])).f0) ((getD a0.f5 0 (K_T.mk 0 [] [])).f1) (set ((getD a0.f5 0 (K_T.mk 0 [] [])).f2) 1 (K_U.mk ((getD ((getD a0.f5 0 (K_T.mk 0 [] [])).f2) 1 (K_U.mk 0 [])).f0) [(wrap .i64 (100+a1))]))))))]]:=(by rw[setNavAt (i:=0) (j:=2) (row:=(d_T (getD a0.f5 0 (K_T.mk 0 [] [])))) (by rw[getElem?_map,getD_at a0.f5 0 (K_T.mk 0 [] []) (by first | exact True.intro | with_reducible rfl | with_reducible assumption | omega |(exact hy2.2.1) |(exact hy2.2.2.1) |(exact hy2.1) |(have q:=hy2.1; omega) |(have q:=hy2.2.2.2; omega) |(refine⟨by omega,?_⟩; have q:=hy2.1; omega) |(refine⟨by omega,?_⟩; have q:=hy2.2.2.2; simp only[length_map]; omega) |(have q:=hy2.1; simp only[length_map]; omega) |(have q:=hy2.2.2.2; simp only[length_map]; omega) |(simp only[decide_eq_true_eq] at*; omega) |(simp only[length_map]; omega) |(simp[four_len,high4,high2]; omega) |(simp[take_of_length_le,four_len,high4,high2]; done) | assumption | trivial |(simp[*,four_len,high4,high2,byteRows_eq,ints_y]; done))]; rfl) yf]; first | rfl |(simp[take_of_length_le,d_i,d_N,d_U,d_T,d_J,d_b,d_G,d_JL,d_TL,d_LiE,d_NL,d_UL,d_y,d_LyE,d_LLyEE,four_len,high4,high2,byteRows_eq,ints_y]; done) |(simp[map_set,take_of_length_le,d_i,d_N,d_U,d_T,d_J,d_b,d_G,d_JL,d_TL,d_LiE,d_NL,d_UL,d_y,d_LyE,d_LLyEE,four_len,high4,high2,byteRows_eq,ints_y]; done))
  exact cp ya (.r 9 [] [] (e73 (l0_4:=(l0_5+1)) (a0:=(K_G.mk a0.f1 a0.f2 a0.f3 a0.f4 a0.f5)) ‹_› ‹_› (by exact hy2.2.1) (by exact hy2.2.2.1)) (pe 0 (pe (length (map d_T a0.f5)) (.f f3 (.f f4 (.f (mp_ d_T (getD_at a0.f5 0 (K_T.mk 0 [] []) (by exact hy2.1))) (.f trivial (.f f7 (.f f8 (.f f9 (pe 0 (pe 1 (.f f7 (.f (mp_ d_U (getD_at ((getD a0.f5 0 (K_T.mk 0 [] [])).f2) 1 (K_U.mk 0 []) (by have q:=hy2.2.2.2; omega))) (.f f14 (pe 0 (pe (length (map d_T (set a0.f5 0 (K_T.mk ((getD a0.f5 0 (K_T.mk 0 [] [])).f0) ((getD a0.f5 0 (K_T.mk 0 [] [])).f1) (set ((getD a0.f5 0 (K_T.mk 0 [] [])).f2) 1 (K_U.mk ((getD ((getD a0.f5 0 (K_T.mk 0 [] [])).f2) 1 (K_U.mk 0 [])).f0) [(wrap .i64 (100+a1))])))))) (.f (pureR_T (set a0.f5 0 (K_T.mk ((getD a0.f5 0 (K_T.mk 0 [] [])).f0) ((getD a0.f5 0 (K_T.mk 0 [] [])).f1) (set ((getD a0.f5 0 (K_T.mk 0 [] [])).f2) 1 (K_U.mk ((getD ((getD a0.f5 0 (K_T.mk 0 [] [])).f2) 1 (K_U.mk 0 [])).f0) [(wrap .i64 (100+a1))]))))) (.h 23 (.rowD (d_T (getD a0.f5 0 (K_T.mk 0 [] [])))) (.h 43 (.nav [((9,0,0),[4,2],2,(map d_U ((getD a0.f5 0 (K_T.mk 0 [] [])).f2)))] [] (.nop)) (.h 47 (.nav [((9,0,0),[4,2],2,(map d_U ((getD a0.f5 0 (K_T.mk 0 [] [])).f2)))] [] (.rowD (d_U (getD ((getD a0.f5 0 (K_T.mk 0 [] [])).f2) 1 (K_U.mk 0 []))))) (.h 48 (.norm (9,0,0) [[(.i a0.f1),(.i a2),(.i a0.f3),(.i a3),(.own 3 (map d_T (set a0.f5 0 (K_T.mk ((getD a0.f5 0 (K_T.mk 0 [] [])).f0) ((getD a0.f5 0 (K_T.mk 0 [] [])).f1) (set ((getD a0.f5 0 (K_T.mk 0 [] [])).f2) 1 (K_U.mk ((getD ((getD a0.f5 0 (K_T.mk 0 [] [])).f2) 1 (K_U.mk 0 [])).f0) [(wrap .i64 (100+a1))]))))))]]) .nil))))))))))))))))))))))
theorem ob42 {a0:K_J} {a1 a2 a3:Int} (h:SmJ a0):length (m42 a0 a1 a2 a3).f4≤4∧∀z∈(m42 a0 a1 a2 a3).f4,SmT z:=by
  obtain⟨h1,h2,h3,h4⟩:=h
  have hX : SmT (getD a0.f5 0 (K_T.mk 0 [] [])) := h3 _ (by
    cases e:a0.f5 with
    |nil=>rw[e] at h1; simp at h1
    |cons x l=>exact List.mem_cons_self ..)
  obtain⟨x1,x2,x3,x4⟩:=hX
  unfold m42
  refine⟨by simpa using h2,fun z hz=>?_⟩
  rcases List.mem_or_eq_of_mem_set hz with hz | rfl
  · exact h3 z hz
  · refine⟨x1,x2,by simpa using x3,fun x hx=>?_⟩
    rcases List.mem_or_eq_of_mem_set hx with hx | rfl
    · exact x4 x hx
    · simp
/-! loop.example/g00539/impl.ShareBlock -/
def m9 (a0:K_J) (a1:Int) (a2:Int) (a3:Int):K_J:=
  if((m40 [a0]) !=0)=true then(K_J.mk (m40 [a0]) 0 0 0 0 []) else
  if(!(m41 a1 0 999))=true then(K_J.mk 3 0 0 0 0 []) else
    if(!(m41 a2 1 99999))=true then(K_J.mk 3 0 0 0 0 []) else
      if(!(m41 a3 0 65535))=true then(K_J.mk 3 0 0 0 0 []) else
        if((m43 (m42 a0 a1 a2 a3)) !=0)=true then(K_J.mk (m43 (m42 a0 a1 a2 a3)) 0 0 0 0 []) else
          (K_J.mk 0 ((m42 a0 a1 a2 a3).f0) ((m42 a0 a1 a2 a3).f1) ((m42 a0 a1 a2 a3).f2) ((m42 a0 a1 a2 a3).f3) ((m42 a0 a1 a2 a3).f4))
theorem e9 {l0_5:Nat} {a0:K_J} {a1:Int} {a2:Int} {a3:Int} (hy0:length a0.f5*56≤140737488351232) (hy1:∀z∈a0.f5,ok_T z):Ev F X (.call 9 [(.agg (k_J l0_5 a0)),(.one (.val (.int .i64 a1))),(.one (.val (.int .i64 a2))),(.one (.val (.int .i64 a3)))] [] [] [(.agg (d_J (m9 a0 a1 a2 a3)))]):=by
  unfold m9
  have f0:1≤1:=yc
  have f1:fullR (take 1 (drop 0 [[(.i a0.f0),(.i a0.f1),(.i a0.f2),(.i a0.f3),(.i a0.f4),(.bor l0_5 (map b_T a0.f5))]]))=true:=yJ
  have f2:toBR (take 1 (drop 0 [[(.i a0.f0),(.i a0.f1),(.i a0.f2),(.i a0.f3),(.i a0.f4),(.bor l0_5 (map b_T a0.f5))]]))=[(b_J a0)]:=yJ
  have P0 {hs q} (r:PS F X hs q):=(PS.f f0 (.f f1 (.f f2 (.r 9 [] [[(b_J a0)]] (e40 (l0_0:=0) (a0:=[a0]) (by simp only[length_cons,length_nil]; omega) (by intro z hz; rw[List.mem_singleton] at hz; subst hz; exact⟨hy0,hy1⟩)) r))))
  by_cases h0:((m40 [a0]) !=0)=true
  · try simp only[if_pos h0]
    have f5:pureR []=true:=(by assumption)
    exact cp ya (P0 (.f h0 (.f f5 (.h 16 (.b true) .nil))))
  · try simp only[if_neg h0]
    have P1 {hs q} (r:PS F X hs q):=(P0 (.f (nt h0) (.h 16 (.b false) (.r 20 [] [] (e41 (a0:=a1) (a1:=0) (a2:=999)) r))))
    by_cases h1:(!(m41 a1 0 999))=true
    · try simp only[if_pos h1]
      have f10:pureR []=true:=(by assumption)
      exact cp ya (P1 (.f h1 (.f h1 (.f h1 (.f h1 (.f f10 (.h 25 (.b true) (.h 27 (.b true) (.h 29 (.b true) (.h 32 (.b true) .nil))))))))))
    · try simp only[if_neg h1]
      have P2 {hs q} (r:PS F X hs q):=(P1 (.f (nt h1) (.f (nt h1) (.h 25 (.b false) (.h 27 (.b false) (.r 28 [] [] (e41 (a0:=a2) (a1:=1) (a2:=99999)) (.f (nt h1) (.f (nt h1) (.h 29 (.b false) (.h 32 (.b false) r))))))))))
      by_cases h2:(!(m41 a2 1 99999))=true
      · try simp only[if_pos h2]
        have f15:pureR []=true:=(by assumption)
        exact cp ya (P2 (.f h2 (.f h2 (.f h2 (.f h2 (.f f15 (.h 35 (.b true) (.h 37 (.b true) (.h 39 (.b true) (.h 42 (.b true) .nil))))))))))
      · try simp only[if_neg h2]
        have P3 {hs q} (r:PS F X hs q):=(P2 (.f (nt h2) (.f (nt h2) (.h 35 (.b false) (.h 37 (.b false) (.r 38 [] [] (e41 (a0:=a3) (a1:=0) (a2:=65535)) (.f (nt h2) (.f (nt h2) (.h 39 (.b false) (.h 42 (.b false) r))))))))))
        by_cases h3:(!(m41 a3 0 65535))=true
        · try simp only[if_pos h3]
          have f17:pureR []=true:=(by assumption)
          exact cp ya (P3 (.f h3 (.f f17 (.h 43 (.b true) .nil))))
        · try simp only[if_neg h3]
          have P4 {hs q} (r:PS F X hs q):=(P3 (.f (nt h3) (.h 43 (.b false) (.r 53 [] [] (e42 (l0_5:=(l0_5+1)) (a0:=a0) (a1:=a1) (a2:=a2) (a3:=a3) ‹_› ‹_› (by have hj:SmJ a0:=(js40 (by simpa using h0)).2 a0 (List.mem_singleton.2 rfl); exact hj)) (pe 0 (pe (length (map d_T ((m42 a0 a1 a2 a3).f4))) (ln_T ((m42 a0 a1 a2 a3).f4) (.r 61 [] [(map b_T ((m42 a0 a1 a2 a3).f4))] (e43 (l0_4:=0) (a0:=(m42 a0 a1 a2 a3)) (by have hj:SmJ a0:=(js40 (by simpa using h0)).2 a0 (List.mem_singleton.2 rfl); have q:=(ob42 (a1:=a1) (a2:=a2) (a3:=a3) hj).1; omega) (by have hj:SmJ a0:=(js40 (by simpa using h0)).2 a0 (List.mem_singleton.2 rfl); exact fun z hz=>((ob42 (a1:=a1) (a2:=a2) (a3:=a3) hj).2 z hz).ok)) r))))))))
          by_cases h4:((m43 (m42 a0 a1 a2 a3)) !=0)=true
          · try simp only[if_pos h4]
            have f25:pureR []=true:=(by assumption)
            exact cp ya (P4 (.f h4 (.f f25 (.h 68 (.b true) .nil))))
          · try simp only[if_neg h4]
            exact cp ya (P4 (.f (nt h4) (pe 0 (pe (length (map d_T ((m42 a0 a1 a2 a3).f4))) (.f (pureR_T ((m42 a0 a1 a2 a3).f4)) (.h 68 (.b false) .nil))))))
theorem okm9 (a0:K_J) (a1:Int) (a2:Int) (a3:Int):ok_J (m9 a0 a1 a2 a3):=by
  by_cases h0:((m40 [a0]) !=0)=true
  · unfold m9; rw[if_pos h0]; simp[ok_N,ok_U,ok_T,ok_J,ok_G,ok_JL,ok_TL,ok_LiE,ok_NL,ok_UL,ok_LyE,ok_LLyEE]
  · have hj:SmJ a0:=(js40 (by simpa using h0)).2 a0 (List.mem_singleton.2 rfl)
    have q1:=(ob42 (a1:=a1) (a2:=a2) (a3:=a3) hj).1
    have q2:=fun z hz=>((ob42 (a1:=a1) (a2:=a2) (a3:=a3) hj).2 z hz).ok
    unfold m9; rw[if_neg h0]
    (repeat' split)<;>first | exact⟨by simp only[]; omega,q2⟩ | exact⟨by simp,fun z hz=>by cases hz⟩
/-! loop 169_0 -/
inductive O169_0 where
  |k0 (w0:Int) (w1:Bool)
  |k1
def r169_0 (a0:(List Int)):List Int→List Int→Int→O169_0
  |x0::y0,x1::y1,i=>
    if(x0 !=x1)=true then(O169_0.k1) else
    (r169_0 a0 y0 y1 (i+1))
  |_,_,i=>(O169_0.k0 i (decide (i <((length (map b_i a0)):Int))))
def h169_0 (l0_0:Nat) (l1_0:Nat) (a0:(List Int)) (a1:(List Int)) (i:Int) :St:=⟨[(0,(.one (.bor l0_0 (map b_i a0)))),(1,(.one (.bor l1_0 (map b_i a1)))),(5,(.one (.val (.int .i64 i))))],[]⟩
def ex169_0:O169_0→VX.Exit
  |.k0 _ _=>(.exit 0)
  |.k1=>.ret
def fin169_0 (l0_0:Nat) (l1_0:Nat) (a0:(List Int)) (a1:(List Int)):O169_0→St
  |.k0 w0 w1=>⟨[(0,(.one (.bor l0_0 (map b_i a0)))),(1,(.one (.bor l1_0 (map b_i a1)))),(5,(.one (.val (.int .i64 w0)))),(14,(.one (.val (.bool w1))))],[]⟩
  |.k1=>⟨[(4,(.one (.val (.bool false))))],[]⟩
theorem t169_0 {l0_0:Nat} {l1_0:Nat} {a0:(List Int)} {a1:(List Int)} (hy0:length a0*8≤140737488351232) (hy1:length a1*8≤140737488351232):∀(y0:List Int) (y1:List Int) (p:List Int) (p_1:List Int),p++y0=a0→p_1++y1=a1→length p=length p_1→length y0=length y1→Ev F X (.code l169_0 (h169_0 l0_0 l1_0 a0 a1 (length p:Int)) (ex169_0 (r169_0 a0 y0 y1 (length p:Int))) (fin169_0 l0_0 l1_0 a0 a1 (r169_0 a0 y0 y1 (length p:Int))))
  |[],[],p,p_1,hp0,hp1,hq1,hl1=>by
    have hc:¬(decide ((length p:Int) <((length (map b_i a0)):Int)))=true:=by
      rw[← hp0]; simp only[LN,decide_eq_true_eq]; omega
    have st:=ch b169_0 (h169_0 l0_0 l1_0 a0 a1 (length p:Int)) ⟨[(0,(.one (.bor l0_0 (map b_i a0)))),(1,(.one (.bor l1_0 (map b_i a1)))),(5,(.oi (length p:Int))),(14,(.one (.val (.bool (decide ((length p:Int) <((length (map b_i a0)):Int)))))))],[]⟩ (.exit 0) 9 (by kernel_rfl) (.f (nt hc) (.h 8 (.b false) .nil))
    rw[show (⟨[(0,(.one (.bor l0_0 (map b_i a0)))),(1,(.one (.bor l1_0 (map b_i a1)))),(5,(.oi (length p:Int))),(14,(.one (.val (.bool (decide ((length p:Int) <((length (map b_i a0)):Int)))))))],[]⟩:St)=fin169_0 l0_0 l1_0 a0 a1 (.k0 (length p:Int) (decide ((length p:Int) <((length (map b_i a0)):Int)))) from(by rfl)] at st
    exact .loopX st (show ((.exit 0):VX.Exit)≠.normal from by simp)
  |x0::y0,x1::y1,p,p_1,hp0,hp1,hq1,hl1=>by
    have hc:(decide ((length p:Int) <((length (map b_i a0)):Int)))=true:=by
      rw[← hp0]; simp only[LN,decide_eq_true_eq]; omega
    have Hx0:(a0)[toNat (length p:Int)]?=some x0:=by
      rw[← hp0,Int.toNat_natCast]; simp
    have Hx1:(a1)[toNat (length p:Int)]?=some x1:=by
      rw[← hp1,hq1,Int.toNat_natCast]; simp
    have hlen:length (a0)=length p+length y0+1:=by rw[← hp0]; simp; omega
    have hw:wrap .i64 ((length p:Int)+1)=(length p:Int)+1:=wrap64 (by omega)
    simp only[r169_0]
    have f1:0≤(length p:Int):=(by omega)
    have P1 {hs q} (r:PS F X hs q):=(PS.f hc (.f f1 (.f (mp_ b_i Hx0) (.f f1 (.f (mp_ b_i Hx1) (.h 8 (.b true) (.h 14 (.row [(.i x0)]) (.h 22 (.row [(.i x1)]) r))))))))
    by_cases h_1:(x0 !=x1)=true
    · try simp only[if_pos h_1]
      have st:=ch b169_0 (h169_0 l0_0 l1_0 a0 a1 (length p:Int)) ⟨[(4,(.one (.val (.bool false))))],[]⟩ .ret 30 (by kernel_rfl) (P1 (.f h_1 (.h 27 (.b true) .nil)))
      rw[show (⟨[(4,(.one (.val (.bool false))))],[]⟩:St)=fin169_0 l0_0 l1_0 a0 a1 (.k1) from(by rfl)] at st
      exact .loopX st (show (.ret:VX.Exit)≠.normal from by simp)
    · try simp only[if_neg h_1]
      have st:=ch b169_0 (h169_0 l0_0 l1_0 a0 a1 (length p:Int)) ⟨[(0,(.one (.bor l0_0 (map b_i a0)))),(1,(.one (.bor l1_0 (map b_i a1)))),(5,(.oi (wrap .i64 ((length p:Int)+1))))],[]⟩ .normal 34 (by kernel_rfl) (P1 (.f (nt h_1) (.f trivial (.h 27 (.b false) .nil))))
      have ih:=t169_0 (l0_0:=l0_0) (l1_0:=l1_0) (a0:=a0) (a1:=a1) hy0 hy1 y0 y1 (p++ [x0]) (p_1++ [x1]) (by rw[append_assoc]; exact hp0) (by rw[append_assoc]; exact hp1) (by simp only[LN]; omega) (by simp only[LN] at hl1; omega)
      rw[show ((p++ [x0]).length:Int)=(p.length:Int)+1 from by simp] at ih
      rw[show (⟨[(0,(.one (.bor l0_0 (map b_i a0)))),(1,(.one (.bor l1_0 (map b_i a1)))),(5,(.oi (wrap .i64 ((length p:Int)+1))))],[]⟩:St)=h169_0 l0_0 l1_0 a0 a1 ((length p:Int)+1)  from(by unfold h169_0; simp only[hw]; done)] at st
      exact .loopN st ih
/-! loop.example/g00539/laws.eqInt64S -/
def m169 (a0:(List Int)) (a1:(List Int)):Bool:=
  if(((length (map b_i a0)):Int) !=((length (map b_i a1)):Int))=true then false else
  (match r169_0 a0 a0 a1 0 with | .k0 w0_1 w1_1=>true | .k1=>false)
theorem e169 {l0_0:Nat} {a0:(List Int)} {l1_0:Nat} {a1:(List Int)} (hy0:length a0*8≤140737488351232) (hy1:length a1*8≤140737488351232):Ev F X (.call 169 [(.one (.bor l0_0 (map b_i a0))),(.one (.bor l1_0 (map b_i a1)))] [] [] [(.one (.val (.bool (m169 a0 a1))))]):=by
  unfold m169
  by_cases h0:(((length (map b_i a0)):Int) !=((length (map b_i a1)):Int))=true
  · try simp only[if_pos h0]
    exact cp ya (.f h0 (.h 12 (.b true) .nil))
  · try simp only[if_neg h0]
    cases h1:r169_0 a0 a0 a1 0 with
    |k0 w0_1 w1_1=>
      try dsimp only
      have f1:(⟨[(0,(.one (.bor l0_0 (map b_i a0)))),(1,(.one (.bor l1_0 (map b_i a1)))),(5,(.oi 0))],[]⟩:St)=h169_0 l0_0 l1_0 a0 a1 0 :=yf
      exact cp ya (.f (nt h0) (.f f1 (.f (ev_ (e:=ex169_0) (g:=(fin169_0 l0_0 l1_0 a0 a1)) h1 (t169_0 (l0_0:=l0_0) (l1_0:=l1_0) (a0:=a0) (a1:=a1) (by assumption) (by assumption) a0 a1 [] []  rfl rfl rfl yT)) (.h 12 (.b false) (.h 15 (.loop (h169_0 l0_0 l1_0 a0 a1 0) (.exit 0) ⟨[(0,(.one (.bor l0_0 (map b_i a0)))),(1,(.one (.bor l1_0 (map b_i a1)))),(5,(.oi w0_1)),(14,(.one (.val (.bool w1_1))))],[]⟩) .nil)))))
    |k1=>
      try dsimp only
      have f1:(⟨[(0,(.one (.bor l0_0 (map b_i a0)))),(1,(.one (.bor l1_0 (map b_i a1)))),(5,(.oi 0))],[]⟩:St)=h169_0 l0_0 l1_0 a0 a1 0 :=yf
      exact cp ya (.f (nt h0) (.f f1 (.f (ev_ (e:=ex169_0) (g:=(fin169_0 l0_0 l1_0 a0 a1)) h1 (t169_0 (l0_0:=l0_0) (l1_0:=l1_0) (a0:=a0) (a1:=a1) (by assumption) (by assumption) a0 a1 [] []  rfl rfl rfl yT)) (.h 12 (.b false) (.h 15 (.loop (h169_0 l0_0 l1_0 a0 a1 0) .ret ⟨[(4,(.one (.val (.bool false))))],[]⟩) .nil)))))
theorem eqr169_0 (a0:(List Int)):∀(l m:List Int) (i:Int),l.length=m.length→(r169_0 a0 l m i=.k1∧l≠m)∨(∃w0 w1,r169_0 a0 l m i=.k0 w0 w1∧l=m)
  |[],[],i,_=>.inr ⟨_,_,rfl,rfl⟩
  |[],_::_,i,h=>by simp at h
  |_::_,[],i,h=>by simp at h
  |x::l,y::m,i,h=>by
    have ih:=eqr169_0 a0 l m (i+1) yZ
    by_cases hxy:x=y
    · subst hxy
      have e:r169_0 a0 (x::l) (x::m) i=r169_0 a0 l m (i+1):=by simp[r169_0,ba_eq]
      rw[e]
      rcases ih with⟨h1,h2⟩ |⟨w0,w1,h1,h2⟩
      · exact .inl ⟨h1,by simp[h2]⟩
      · exact .inr ⟨_,_,h1,by rw[h2]⟩
    · have e:r169_0 a0 (x::l) (y::m) i=.k1:=by
        simp only[r169_0]
        first
          |((repeat' split)<;>simp_all [ba_eq]; done)
          |(cases x; cases y;(repeat' split)<;>simp_all [ba_eq])
      exact .inl ⟨e,by simp[hxy]⟩
open Classical in
theorem eqd169 (a b:(List Int)):m169 a b=decide (a=b):=by
  rw[Bool.eq_iff_iff,decide_eq_true_eq]
  unfold m169
  by_cases hl:length a=length b
  · rcases eqr169_0 a a b 0 hl with⟨h1,h2⟩ |⟨w0,w1,h1,h2⟩
    · simp only[h1,length_map,hl]
      first
        |(simp[h2,ba_eq]; done)
        |(cases a; cases b; simp_all [ba_eq]; done)
        |(cases a; cases b;(repeat' split)<;>simp_all [ba_eq])
    · simp only[h1,length_map,hl]
      first
        |(simp[h2,ba_eq]; done)
        |(cases a; cases b; simp_all [ba_eq]; done)
        |(cases a; cases b;(repeat' split)<;>simp_all [ba_eq])
  · have hn:a≠b:=by rintro rfl; exact hl rfl
    simp only[length_map]
    first
      |(simp[hn,hl,ba_eq]; done)
      |((repeat' split)<;>simp_all [ba_eq]; done)
      |(simp[hn]; omega)
/-! loop.example/g00539/laws.eqIn -/
def m164 (a0:K_N) (a1:K_N):Bool:=
  if(a0.f0 !=a1.f0)=true then false else
  if(a0.f1 !=a1.f1)=true then false else
    if(!(m169 a0.f2 a1.f2))=true then false else
      true
theorem e164 {l0_2:Nat} {a0:K_N} {l1_2:Nat} {a1:K_N} (hy0:length a0.f2*8≤140737488351232) (hy1:length a1.f2*8≤140737488351232):Ev F X (.call 164 [(.agg (k_N l0_2 a0)),(.agg (k_N l1_2 a1))] [] [] [(.one (.val (.bool (m164 a0 a1))))]):=by
  unfold m164
  by_cases h0:(a0.f0 !=a1.f0)=true
  · try simp only[if_pos h0]
    exact cp ya (.f h0 (.h 16 (.b true) .nil))
  · try simp only[if_neg h0]
    by_cases h1:(a0.f1 !=a1.f1)=true
    · try simp only[if_pos h1]
      exact cp ya (.f (nt h0) (.f h1 (.h 16 (.b false) (.h 27 (.b true) .nil))))
    · try simp only[if_neg h1]
      have P2 {hs q} (r:PS F X hs q):=(PS.f (nt h0) (.f (nt h1) (.h 16 (.b false) (.h 27 (.b false) (.r 37 [] [] (e169 (l0_0:=(l0_2+1)) (l1_0:=(l1_2+1)) (a0:=a0.f2) (a1:=a1.f2) ‹_› ‹_›) r)))))
      by_cases h2:(!(m169 a0.f2 a1.f2))=true
      · try simp only[if_pos h2]
        exact cp ya (P2 (.f h2 (.h 40 (.b true) .nil)))
      · try simp only[if_neg h2]
        exact cp ya (P2 (.f (nt h2) (.h 40 (.b false) .nil)))
open Classical in
theorem eqd164 (a b:K_N):m164 a b=decide (a=b):=by
  rw[Bool.eq_iff_iff,decide_eq_true_eq]
  constructor
  · intro h
    unfold m164 at h
    cases a; cases b
    (repeat' split at h)<;>simp_all [ba_eq,eqd169]
  · rintro rfl
    simp[m164,ba_eq,eqd169]
/-! loop 142_0 -/
inductive O142_0 where
  |k0 (w0:Int) (w1:Bool)
  |k1
def r142_0 (a0:(List K_N)):List K_N→List K_N→Int→O142_0
  |x0::y0,x1::y1,i=>
    if(!(m164 x0 x1))=true then(O142_0.k1) else
    (r142_0 a0 y0 y1 (i+1))
  |_,_,i=>(O142_0.k0 i (decide (i <((length (map b_N a0)):Int))))
def h142_0 (l0_0:Nat) (l1_0:Nat) (a0:(List K_N)) (a1:(List K_N)) (i:Int) :St:=⟨[(0,(.one (.bor l0_0 (map b_N a0)))),(1,(.one (.bor l1_0 (map b_N a1)))),(5,(.one (.val (.int .i64 i))))],[]⟩
def ex142_0:O142_0→VX.Exit
  |.k0 _ _=>(.exit 0)
  |.k1=>.ret
def fin142_0 (l0_0:Nat) (l1_0:Nat) (a0:(List K_N)) (a1:(List K_N)):O142_0→St
  |.k0 w0 w1=>⟨[(0,(.one (.bor l0_0 (map b_N a0)))),(1,(.one (.bor l1_0 (map b_N a1)))),(5,(.one (.val (.int .i64 w0)))),(14,(.one (.val (.bool w1))))],[]⟩
  |.k1=>⟨[(4,(.one (.val (.bool false))))],[]⟩
theorem t142_0 {l0_0:Nat} {l1_0:Nat} {a0:(List K_N)} {a1:(List K_N)} (hy0:length a0*40≤140737488351232) (hy1:∀z∈a0,ok_N z) (hy2:length a1*40≤140737488351232) (hy3:∀z∈a1,ok_N z):∀(y0:List K_N) (y1:List K_N) (p:List K_N) (p_1:List K_N),p++y0=a0→p_1++y1=a1→length p=length p_1→length y0=length y1→Ev F X (.code l142_0 (h142_0 l0_0 l1_0 a0 a1 (length p:Int)) (ex142_0 (r142_0 a0 y0 y1 (length p:Int))) (fin142_0 l0_0 l1_0 a0 a1 (r142_0 a0 y0 y1 (length p:Int))))
  |[],[],p,p_1,hp0,hp1,hq1,hl1=>by
    have hc:¬(decide ((length p:Int) <((length (map b_N a0)):Int)))=true:=by
      rw[← hp0]; simp only[LN,decide_eq_true_eq]; omega
    have st:=ch b142_0 (h142_0 l0_0 l1_0 a0 a1 (length p:Int)) ⟨[(0,(.one (.bor l0_0 (map b_N a0)))),(1,(.one (.bor l1_0 (map b_N a1)))),(5,(.oi (length p:Int))),(14,(.one (.val (.bool (decide ((length p:Int) <((length (map b_N a0)):Int)))))))],[]⟩ (.exit 0) 9 (by kernel_rfl) (.f (nt hc) (.h 8 (.b false) .nil))
    rw[show (⟨[(0,(.one (.bor l0_0 (map b_N a0)))),(1,(.one (.bor l1_0 (map b_N a1)))),(5,(.oi (length p:Int))),(14,(.one (.val (.bool (decide ((length p:Int) <((length (map b_N a0)):Int)))))))],[]⟩:St)=fin142_0 l0_0 l1_0 a0 a1 (.k0 (length p:Int) (decide ((length p:Int) <((length (map b_N a0)):Int)))) from(by rfl)] at st
    exact .loopX st (show ((.exit 0):VX.Exit)≠.normal from by simp)
  |x0::y0,x1::y1,p,p_1,hp0,hp1,hq1,hl1=>by
    have hc:(decide ((length p:Int) <((length (map b_N a0)):Int)))=true:=by
      rw[← hp0]; simp only[LN,decide_eq_true_eq]; omega
    have Hx0:(a0)[toNat (length p:Int)]?=some x0:=by
      rw[← hp0,Int.toNat_natCast]; simp
    have Hx1:(a1)[toNat (length p:Int)]?=some x1:=by
      rw[← hp1,hq1,Int.toNat_natCast]; simp
    have Mx0_0:=hy1 x0 (List.mem_of_getElem? Hx0)
    have Mx1_0:=hy3 x1 (List.mem_of_getElem? Hx1)
    have hlen:length (a0)=length p+length y0+1:=by rw[← hp0]; simp; omega
    have hw:wrap .i64 ((length p:Int)+1)=(length p:Int)+1:=wrap64 (by omega)
    simp only[r142_0]
    have f1:0≤(length p:Int):=(by omega)
    have P1 {hs q} (r:PS F X hs q):=(PS.f hc (.f f1 (.f (mp_ b_N Hx0) (.f f1 (.f (mp_ b_N Hx1) (.h 8 (.b true) (.h 14 (.row (b_N x0)) (.h 22 (.row (b_N x1)) (.r 26 [] [] (e164 (l0_2:=(l0_0+1)) (l1_2:=(l1_0+1)) (a0:=x0) (a1:=x1) (by assumption) (by assumption)) r)))))))))
    by_cases h_1:(!(m164 x0 x1))=true
    · try simp only[if_pos h_1]
      have st:=ch b142_0 (h142_0 l0_0 l1_0 a0 a1 (length p:Int)) ⟨[(4,(.one (.val (.bool false))))],[]⟩ .ret 32 (by kernel_rfl) (P1 (.f h_1 (.h 29 (.b true) .nil)))
      rw[show (⟨[(4,(.one (.val (.bool false))))],[]⟩:St)=fin142_0 l0_0 l1_0 a0 a1 (.k1) from(by rfl)] at st
      exact .loopX st (show (.ret:VX.Exit)≠.normal from by simp)
    · try simp only[if_neg h_1]
      have st:=ch b142_0 (h142_0 l0_0 l1_0 a0 a1 (length p:Int)) ⟨[(0,(.one (.bor l0_0 (map b_N a0)))),(1,(.one (.bor l1_0 (map b_N a1)))),(5,(.oi (wrap .i64 ((length p:Int)+1))))],[]⟩ .normal 36 (by kernel_rfl) (P1 (.f (nt h_1) (.f trivial (.h 29 (.b false) .nil))))
      have ih:=t142_0 (l0_0:=l0_0) (l1_0:=l1_0) (a0:=a0) (a1:=a1) hy0 hy1 hy2 hy3 y0 y1 (p++ [x0]) (p_1++ [x1]) (by rw[append_assoc]; exact hp0) (by rw[append_assoc]; exact hp1) (by simp only[LN]; omega) (by simp only[LN] at hl1; omega)
      rw[show ((p++ [x0]).length:Int)=(p.length:Int)+1 from by simp] at ih
      rw[show (⟨[(0,(.one (.bor l0_0 (map b_N a0)))),(1,(.one (.bor l1_0 (map b_N a1)))),(5,(.oi (wrap .i64 ((length p:Int)+1))))],[]⟩:St)=h142_0 l0_0 l1_0 a0 a1 ((length p:Int)+1)  from(by unfold h142_0; simp only[hw]; done)] at st
      exact .loopN st ih
/-! loop.example/g00539/laws.eqInS -/
def m142 (a0:(List K_N)) (a1:(List K_N)):Bool:=
  if(((length (map b_N a0)):Int) !=((length (map b_N a1)):Int))=true then false else
  (match r142_0 a0 a0 a1 0 with | .k0 w0_1 w1_1=>true | .k1=>false)
theorem e142 {l0_0:Nat} {a0:(List K_N)} {l1_0:Nat} {a1:(List K_N)} (hy0:length a0*40≤140737488351232) (hy1:∀z∈a0,ok_N z) (hy2:length a1*40≤140737488351232) (hy3:∀z∈a1,ok_N z):Ev F X (.call 142 [(.one (.bor l0_0 (map b_N a0))),(.one (.bor l1_0 (map b_N a1)))] [] [] [(.one (.val (.bool (m142 a0 a1))))]):=by
  unfold m142
  by_cases h0:(((length (map b_N a0)):Int) !=((length (map b_N a1)):Int))=true
  · try simp only[if_pos h0]
    exact cp ya (.f h0 (.h 12 (.b true) .nil))
  · try simp only[if_neg h0]
    cases h1:r142_0 a0 a0 a1 0 with
    |k0 w0_1 w1_1=>
      try dsimp only
      have f1:(⟨[(0,(.one (.bor l0_0 (map b_N a0)))),(1,(.one (.bor l1_0 (map b_N a1)))),(5,(.oi 0))],[]⟩:St)=h142_0 l0_0 l1_0 a0 a1 0 :=yf
      exact cp ya (.f (nt h0) (.f f1 (.f (ev_ (e:=ex142_0) (g:=(fin142_0 l0_0 l1_0 a0 a1)) h1 (t142_0 (l0_0:=l0_0) (l1_0:=l1_0) (a0:=a0) (a1:=a1) (by assumption) (by assumption) (by assumption) (by assumption) a0 a1 [] []  rfl rfl rfl yT)) (.h 12 (.b false) (.h 15 (.loop (h142_0 l0_0 l1_0 a0 a1 0) (.exit 0) ⟨[(0,(.one (.bor l0_0 (map b_N a0)))),(1,(.one (.bor l1_0 (map b_N a1)))),(5,(.oi w0_1)),(14,(.one (.val (.bool w1_1))))],[]⟩) .nil)))))
    |k1=>
      try dsimp only
      have f1:(⟨[(0,(.one (.bor l0_0 (map b_N a0)))),(1,(.one (.bor l1_0 (map b_N a1)))),(5,(.oi 0))],[]⟩:St)=h142_0 l0_0 l1_0 a0 a1 0 :=yf
      exact cp ya (.f (nt h0) (.f f1 (.f (ev_ (e:=ex142_0) (g:=(fin142_0 l0_0 l1_0 a0 a1)) h1 (t142_0 (l0_0:=l0_0) (l1_0:=l1_0) (a0:=a0) (a1:=a1) (by assumption) (by assumption) (by assumption) (by assumption) a0 a1 [] []  rfl rfl rfl yT)) (.h 12 (.b false) (.h 15 (.loop (h142_0 l0_0 l1_0 a0 a1 0) .ret ⟨[(4,(.one (.val (.bool false))))],[]⟩) .nil)))))
theorem eqr142_0 (a0:(List K_N)):∀(l m:List K_N) (i:Int),l.length=m.length→(r142_0 a0 l m i=.k1∧l≠m)∨(∃w0 w1,r142_0 a0 l m i=.k0 w0 w1∧l=m)
  |[],[],i,_=>.inr ⟨_,_,rfl,rfl⟩
  |[],_::_,i,h=>by simp at h
  |_::_,[],i,h=>by simp at h
  |x::l,y::m,i,h=>by
    have ih:=eqr142_0 a0 l m (i+1) yZ
    by_cases hxy:x=y
    · subst hxy
      have e:r142_0 a0 (x::l) (x::m) i=r142_0 a0 l m (i+1):=by simp[r142_0,ba_eq,eqd164]
      rw[e]
      rcases ih with⟨h1,h2⟩ |⟨w0,w1,h1,h2⟩
      · exact .inl ⟨h1,by simp[h2]⟩
      · exact .inr ⟨_,_,h1,by rw[h2]⟩
    · have e:r142_0 a0 (x::l) (y::m) i=.k1:=by
        simp only[r142_0]
        first
          |((repeat' split)<;>simp_all [ba_eq,eqd164]; done)
          |(cases x; cases y;(repeat' split)<;>simp_all [ba_eq,eqd164])
      exact .inl ⟨e,by simp[hxy]⟩
open Classical in
theorem eqd142 (a b:(List K_N)):m142 a b=decide (a=b):=by
  rw[Bool.eq_iff_iff,decide_eq_true_eq]
  unfold m142
  by_cases hl:length a=length b
  · rcases eqr142_0 a a b 0 hl with⟨h1,h2⟩ |⟨w0,w1,h1,h2⟩
    · simp only[h1,length_map,hl]
      first
        |(simp[h2,ba_eq,eqd164]; done)
        |(cases a; cases b; simp_all [ba_eq,eqd164]; done)
        |(cases a; cases b;(repeat' split)<;>simp_all [ba_eq,eqd164])
    · simp only[h1,length_map,hl]
      first
        |(simp[h2,ba_eq,eqd164]; done)
        |(cases a; cases b; simp_all [ba_eq,eqd164]; done)
        |(cases a; cases b;(repeat' split)<;>simp_all [ba_eq,eqd164])
  · have hn:a≠b:=by rintro rfl; exact hl rfl
    simp only[length_map]
    first
      |(simp[hn,hl,ba_eq,eqd164]; done)
      |((repeat' split)<;>simp_all [ba_eq,eqd164]; done)
      |(simp[hn]; omega)
/-! loop.example/g00539/laws.eqOut -/
def m165 (a0:K_U) (a1:K_U):Bool:=
  if(a0.f0 !=a1.f0)=true then false else
  if(!(m169 a0.f1 a1.f1))=true then false else
    true
theorem e165 {l0_1:Nat} {a0:K_U} {l1_1:Nat} {a1:K_U} (hy0:length a0.f1*8≤140737488351232) (hy1:length a1.f1*8≤140737488351232):Ev F X (.call 165 [(.agg (k_U l0_1 a0)),(.agg (k_U l1_1 a1))] [] [] [(.one (.val (.bool (m165 a0 a1))))]):=by
  unfold m165
  by_cases h0:(a0.f0 !=a1.f0)=true
  · try simp only[if_pos h0]
    exact cp ya (.f h0 (.h 16 (.b true) .nil))
  · try simp only[if_neg h0]
    have P1 {hs q} (r:PS F X hs q):=(PS.f (nt h0) (.h 16 (.b false) (.r 26 [] [] (e169 (l0_0:=(l0_1+1)) (l1_0:=(l1_1+1)) (a0:=a0.f1) (a1:=a1.f1) ‹_› ‹_›) r)))
    by_cases h1:(!(m169 a0.f1 a1.f1))=true
    · try simp only[if_pos h1]
      exact cp ya (P1 (.f h1 (.h 29 (.b true) .nil)))
    · try simp only[if_neg h1]
      exact cp ya (P1 (.f (nt h1) (.h 29 (.b false) .nil)))
open Classical in
theorem eqd165 (a b:K_U):m165 a b=decide (a=b):=by
  rw[Bool.eq_iff_iff,decide_eq_true_eq]
  constructor
  · intro h
    unfold m165 at h
    cases a; cases b
    (repeat' split at h)<;>simp_all [ba_eq,eqd169]
  · rintro rfl
    simp[m165,ba_eq,eqd169]
/-! loop 143_0 -/
inductive O143_0 where
  |k0 (w0:Int) (w1:Bool)
  |k1
def r143_0 (a0:(List K_U)):List K_U→List K_U→Int→O143_0
  |x0::y0,x1::y1,i=>
    if(!(m165 x0 x1))=true then(O143_0.k1) else
    (r143_0 a0 y0 y1 (i+1))
  |_,_,i=>(O143_0.k0 i (decide (i <((length (map b_U a0)):Int))))
def h143_0 (l0_0:Nat) (l1_0:Nat) (a0:(List K_U)) (a1:(List K_U)) (i:Int) :St:=⟨[(0,(.one (.bor l0_0 (map b_U a0)))),(1,(.one (.bor l1_0 (map b_U a1)))),(5,(.one (.val (.int .i64 i))))],[]⟩
def ex143_0:O143_0→VX.Exit
  |.k0 _ _=>(.exit 0)
  |.k1=>.ret
def fin143_0 (l0_0:Nat) (l1_0:Nat) (a0:(List K_U)) (a1:(List K_U)):O143_0→St
  |.k0 w0 w1=>⟨[(0,(.one (.bor l0_0 (map b_U a0)))),(1,(.one (.bor l1_0 (map b_U a1)))),(5,(.one (.val (.int .i64 w0)))),(14,(.one (.val (.bool w1))))],[]⟩
  |.k1=>⟨[(4,(.one (.val (.bool false))))],[]⟩
theorem t143_0 {l0_0:Nat} {l1_0:Nat} {a0:(List K_U)} {a1:(List K_U)} (hy0:length a0*32≤140737488351232) (hy1:∀z∈a0,ok_U z) (hy2:length a1*32≤140737488351232) (hy3:∀z∈a1,ok_U z):∀(y0:List K_U) (y1:List K_U) (p:List K_U) (p_1:List K_U),p++y0=a0→p_1++y1=a1→length p=length p_1→length y0=length y1→Ev F X (.code l143_0 (h143_0 l0_0 l1_0 a0 a1 (length p:Int)) (ex143_0 (r143_0 a0 y0 y1 (length p:Int))) (fin143_0 l0_0 l1_0 a0 a1 (r143_0 a0 y0 y1 (length p:Int))))
  |[],[],p,p_1,hp0,hp1,hq1,hl1=>by
    have hc:¬(decide ((length p:Int) <((length (map b_U a0)):Int)))=true:=by
      rw[← hp0]; simp only[LN,decide_eq_true_eq]; omega
    have st:=ch b143_0 (h143_0 l0_0 l1_0 a0 a1 (length p:Int)) ⟨[(0,(.one (.bor l0_0 (map b_U a0)))),(1,(.one (.bor l1_0 (map b_U a1)))),(5,(.oi (length p:Int))),(14,(.one (.val (.bool (decide ((length p:Int) <((length (map b_U a0)):Int)))))))],[]⟩ (.exit 0) 9 (by kernel_rfl) (.f (nt hc) (.h 8 (.b false) .nil))
    rw[show (⟨[(0,(.one (.bor l0_0 (map b_U a0)))),(1,(.one (.bor l1_0 (map b_U a1)))),(5,(.oi (length p:Int))),(14,(.one (.val (.bool (decide ((length p:Int) <((length (map b_U a0)):Int)))))))],[]⟩:St)=fin143_0 l0_0 l1_0 a0 a1 (.k0 (length p:Int) (decide ((length p:Int) <((length (map b_U a0)):Int)))) from(by rfl)] at st
    exact .loopX st (show ((.exit 0):VX.Exit)≠.normal from by simp)
  |x0::y0,x1::y1,p,p_1,hp0,hp1,hq1,hl1=>by
    have hc:(decide ((length p:Int) <((length (map b_U a0)):Int)))=true:=by
      rw[← hp0]; simp only[LN,decide_eq_true_eq]; omega
    have Hx0:(a0)[toNat (length p:Int)]?=some x0:=by
      rw[← hp0,Int.toNat_natCast]; simp
    have Hx1:(a1)[toNat (length p:Int)]?=some x1:=by
      rw[← hp1,hq1,Int.toNat_natCast]; simp
    have Mx0_0:=hy1 x0 (List.mem_of_getElem? Hx0)
    have Mx1_0:=hy3 x1 (List.mem_of_getElem? Hx1)
    have hlen:length (a0)=length p+length y0+1:=by rw[← hp0]; simp; omega
    have hw:wrap .i64 ((length p:Int)+1)=(length p:Int)+1:=wrap64 (by omega)
    simp only[r143_0]
    have f1:0≤(length p:Int):=(by omega)
    have P1 {hs q} (r:PS F X hs q):=(PS.f hc (.f f1 (.f (mp_ b_U Hx0) (.f f1 (.f (mp_ b_U Hx1) (.h 8 (.b true) (.h 14 (.row (b_U x0)) (.h 22 (.row (b_U x1)) (.r 26 [] [] (e165 (l0_1:=(l0_0+1)) (l1_1:=(l1_0+1)) (a0:=x0) (a1:=x1) (by assumption) (by assumption)) r)))))))))
    by_cases h_1:(!(m165 x0 x1))=true
    · try simp only[if_pos h_1]
      have st:=ch b143_0 (h143_0 l0_0 l1_0 a0 a1 (length p:Int)) ⟨[(4,(.one (.val (.bool false))))],[]⟩ .ret 32 (by kernel_rfl) (P1 (.f h_1 (.h 29 (.b true) .nil)))
      rw[show (⟨[(4,(.one (.val (.bool false))))],[]⟩:St)=fin143_0 l0_0 l1_0 a0 a1 (.k1) from(by rfl)] at st
      exact .loopX st (show (.ret:VX.Exit)≠.normal from by simp)
    · try simp only[if_neg h_1]
      have st:=ch b143_0 (h143_0 l0_0 l1_0 a0 a1 (length p:Int)) ⟨[(0,(.one (.bor l0_0 (map b_U a0)))),(1,(.one (.bor l1_0 (map b_U a1)))),(5,(.oi (wrap .i64 ((length p:Int)+1))))],[]⟩ .normal 36 (by kernel_rfl) (P1 (.f (nt h_1) (.f trivial (.h 29 (.b false) .nil))))
      have ih:=t143_0 (l0_0:=l0_0) (l1_0:=l1_0) (a0:=a0) (a1:=a1) hy0 hy1 hy2 hy3 y0 y1 (p++ [x0]) (p_1++ [x1]) (by rw[append_assoc]; exact hp0) (by rw[append_assoc]; exact hp1) (by simp only[LN]; omega) (by simp only[LN] at hl1; omega)
      rw[show ((p++ [x0]).length:Int)=(p.length:Int)+1 from by simp] at ih
      rw[show (⟨[(0,(.one (.bor l0_0 (map b_U a0)))),(1,(.one (.bor l1_0 (map b_U a1)))),(5,(.oi (wrap .i64 ((length p:Int)+1))))],[]⟩:St)=h143_0 l0_0 l1_0 a0 a1 ((length p:Int)+1)  from(by unfold h143_0; simp only[hw]; done)] at st
      exact .loopN st ih
/-! loop.example/g00539/laws.eqOutS -/
def m143 (a0:(List K_U)) (a1:(List K_U)):Bool:=
  if(((length (map b_U a0)):Int) !=((length (map b_U a1)):Int))=true then false else
  (match r143_0 a0 a0 a1 0 with | .k0 w0_1 w1_1=>true | .k1=>false)
theorem e143 {l0_0:Nat} {a0:(List K_U)} {l1_0:Nat} {a1:(List K_U)} (hy0:length a0*32≤140737488351232) (hy1:∀z∈a0,ok_U z) (hy2:length a1*32≤140737488351232) (hy3:∀z∈a1,ok_U z):Ev F X (.call 143 [(.one (.bor l0_0 (map b_U a0))),(.one (.bor l1_0 (map b_U a1)))] [] [] [(.one (.val (.bool (m143 a0 a1))))]):=by
  unfold m143
  by_cases h0:(((length (map b_U a0)):Int) !=((length (map b_U a1)):Int))=true
  · try simp only[if_pos h0]
    exact cp ya (.f h0 (.h 12 (.b true) .nil))
  · try simp only[if_neg h0]
    cases h1:r143_0 a0 a0 a1 0 with
    |k0 w0_1 w1_1=>
      try dsimp only
      have f1:(⟨[(0,(.one (.bor l0_0 (map b_U a0)))),(1,(.one (.bor l1_0 (map b_U a1)))),(5,(.oi 0))],[]⟩:St)=h143_0 l0_0 l1_0 a0 a1 0 :=yf
      exact cp ya (.f (nt h0) (.f f1 (.f (ev_ (e:=ex143_0) (g:=(fin143_0 l0_0 l1_0 a0 a1)) h1 (t143_0 (l0_0:=l0_0) (l1_0:=l1_0) (a0:=a0) (a1:=a1) (by assumption) (by assumption) (by assumption) (by assumption) a0 a1 [] []  rfl rfl rfl yT)) (.h 12 (.b false) (.h 15 (.loop (h143_0 l0_0 l1_0 a0 a1 0) (.exit 0) ⟨[(0,(.one (.bor l0_0 (map b_U a0)))),(1,(.one (.bor l1_0 (map b_U a1)))),(5,(.oi w0_1)),(14,(.one (.val (.bool w1_1))))],[]⟩) .nil)))))
    |k1=>
      try dsimp only
      have f1:(⟨[(0,(.one (.bor l0_0 (map b_U a0)))),(1,(.one (.bor l1_0 (map b_U a1)))),(5,(.oi 0))],[]⟩:St)=h143_0 l0_0 l1_0 a0 a1 0 :=yf
      exact cp ya (.f (nt h0) (.f f1 (.f (ev_ (e:=ex143_0) (g:=(fin143_0 l0_0 l1_0 a0 a1)) h1 (t143_0 (l0_0:=l0_0) (l1_0:=l1_0) (a0:=a0) (a1:=a1) (by assumption) (by assumption) (by assumption) (by assumption) a0 a1 [] []  rfl rfl rfl yT)) (.h 12 (.b false) (.h 15 (.loop (h143_0 l0_0 l1_0 a0 a1 0) .ret ⟨[(4,(.one (.val (.bool false))))],[]⟩) .nil)))))
theorem eqr143_0 (a0:(List K_U)):∀(l m:List K_U) (i:Int),l.length=m.length→(r143_0 a0 l m i=.k1∧l≠m)∨(∃w0 w1,r143_0 a0 l m i=.k0 w0 w1∧l=m)
  |[],[],i,_=>.inr ⟨_,_,rfl,rfl⟩
  |[],_::_,i,h=>by simp at h
  |_::_,[],i,h=>by simp at h
  |x::l,y::m,i,h=>by
    have ih:=eqr143_0 a0 l m (i+1) yZ
    by_cases hxy:x=y
    · subst hxy
      have e:r143_0 a0 (x::l) (x::m) i=r143_0 a0 l m (i+1):=by simp[r143_0,ba_eq,eqd165]
      rw[e]
      rcases ih with⟨h1,h2⟩ |⟨w0,w1,h1,h2⟩
      · exact .inl ⟨h1,by simp[h2]⟩
      · exact .inr ⟨_,_,h1,by rw[h2]⟩
    · have e:r143_0 a0 (x::l) (y::m) i=.k1:=by
        simp only[r143_0]
        first
          |((repeat' split)<;>simp_all [ba_eq,eqd165]; done)
          |(cases x; cases y;(repeat' split)<;>simp_all [ba_eq,eqd165])
      exact .inl ⟨e,by simp[hxy]⟩
open Classical in
theorem eqd143 (a b:(List K_U)):m143 a b=decide (a=b):=by
  rw[Bool.eq_iff_iff,decide_eq_true_eq]
  unfold m143
  by_cases hl:length a=length b
  · rcases eqr143_0 a a b 0 hl with⟨h1,h2⟩ |⟨w0,w1,h1,h2⟩
    · simp only[h1,length_map,hl]
      first
        |(simp[h2,ba_eq,eqd165]; done)
        |(cases a; cases b; simp_all [ba_eq,eqd165]; done)
        |(cases a; cases b;(repeat' split)<;>simp_all [ba_eq,eqd165])
    · simp only[h1,length_map,hl]
      first
        |(simp[h2,ba_eq,eqd165]; done)
        |(cases a; cases b; simp_all [ba_eq,eqd165]; done)
        |(cases a; cases b;(repeat' split)<;>simp_all [ba_eq,eqd165])
  · have hn:a≠b:=by rintro rfl; exact hl rfl
    simp only[length_map]
    first
      |(simp[hn,hl,ba_eq,eqd165]; done)
      |((repeat' split)<;>simp_all [ba_eq,eqd165]; done)
      |(simp[hn]; omega)
/-! loop.example/g00539/laws.eqTx -/
def m109 (a0:K_T) (a1:K_T):Bool:=
  if(a0.f0 !=a1.f0)=true then false else
  if(!(m142 a0.f1 a1.f1))=true then false else
    if(!(m143 a0.f2 a1.f2))=true then false else
      true
theorem e109 {l0_1:Nat} {l0_2:Nat} {a0:K_T} {l1_1:Nat} {l1_2:Nat} {a1:K_T} (hy0:length a0.f1*40≤140737488351232) (hy1:∀z∈a0.f1,ok_N z) (hy2:length a0.f2*32≤140737488351232) (hy3:∀z∈a0.f2,ok_U z) (hy4:length a1.f1*40≤140737488351232) (hy5:∀z∈a1.f1,ok_N z) (hy6:length a1.f2*32≤140737488351232) (hy7:∀z∈a1.f2,ok_U z):Ev F X (.call 109 [(.agg (k_T l0_1 l0_2 a0)),(.agg (k_T l1_1 l1_2 a1))] [] [] [(.one (.val (.bool (m109 a0 a1))))]):=by
  unfold m109
  by_cases h0:(a0.f0 !=a1.f0)=true
  · try simp only[if_pos h0]
    exact cp ya (.f h0 (.h 16 (.b true) .nil))
  · try simp only[if_neg h0]
    have P1 {hs q} (r:PS F X hs q):=(PS.f (nt h0) (.h 16 (.b false) (.r 26 [] [] (e142 (l0_0:=(l0_1+1)) (l1_0:=(l1_1+1)) (a0:=a0.f1) (a1:=a1.f1) ‹_› ‹_› ‹_› ‹_›) r)))
    by_cases h1:(!(m142 a0.f1 a1.f1))=true
    · try simp only[if_pos h1]
      exact cp ya (P1 (.f h1 (.h 29 (.b true) .nil)))
    · try simp only[if_neg h1]
      have P2 {hs q} (r:PS F X hs q):=(P1 (.f (nt h1) (.h 29 (.b false) (.r 39 [] [] (e143 (l0_0:=(l0_2+1)) (l1_0:=(l1_2+1)) (a0:=a0.f2) (a1:=a1.f2) ‹_› ‹_› ‹_› ‹_›) r))))
      by_cases h2:(!(m143 a0.f2 a1.f2))=true
      · try simp only[if_pos h2]
        exact cp ya (P2 (.f h2 (.h 42 (.b true) .nil)))
      · try simp only[if_neg h2]
        exact cp ya (P2 (.f (nt h2) (.h 42 (.b false) .nil)))
open Classical in
theorem eqd109 (a b:K_T):m109 a b=decide (a=b):=by
  rw[Bool.eq_iff_iff,decide_eq_true_eq]
  constructor
  · intro h
    unfold m109 at h
    cases a; cases b
    (repeat' split at h)<;>simp_all [ba_eq,eqd142,eqd143]
  · rintro rfl
    simp[m109,ba_eq,eqd142,eqd143]
/-! loop 80_0 -/
inductive O80_0 where
  |k0 (w0:Int) (w1:Bool)
  |k1
def r80_0 (a0:(List K_T)):List K_T→List K_T→Int→O80_0
  |x0::y0,x1::y1,i=>
    if(!(m109 x0 x1))=true then(O80_0.k1) else
    (r80_0 a0 y0 y1 (i+1))
  |_,_,i=>(O80_0.k0 i (decide (i <((length (map b_T a0)):Int))))
def h80_0 (l0_0:Nat) (l1_0:Nat) (a0:(List K_T)) (a1:(List K_T)) (i:Int) :St:=⟨[(0,(.one (.bor l0_0 (map b_T a0)))),(1,(.one (.bor l1_0 (map b_T a1)))),(5,(.one (.val (.int .i64 i))))],[]⟩
def ex80_0:O80_0→VX.Exit
  |.k0 _ _=>(.exit 0)
  |.k1=>.ret
def fin80_0 (l0_0:Nat) (l1_0:Nat) (a0:(List K_T)) (a1:(List K_T)):O80_0→St
  |.k0 w0 w1=>⟨[(0,(.one (.bor l0_0 (map b_T a0)))),(1,(.one (.bor l1_0 (map b_T a1)))),(5,(.one (.val (.int .i64 w0)))),(14,(.one (.val (.bool w1))))],[]⟩
  |.k1=>⟨[(4,(.one (.val (.bool false))))],[]⟩
theorem t80_0 {l0_0:Nat} {l1_0:Nat} {a0:(List K_T)} {a1:(List K_T)} (hy0:length a0*56≤140737488351232) (hy1:∀z∈a0,ok_T z) (hy2:length a1*56≤140737488351232) (hy3:∀z∈a1,ok_T z):∀(y0:List K_T) (y1:List K_T) (p:List K_T) (p_1:List K_T),p++y0=a0→p_1++y1=a1→length p=length p_1→length y0=length y1→Ev F X (.code l80_0 (h80_0 l0_0 l1_0 a0 a1 (length p:Int)) (ex80_0 (r80_0 a0 y0 y1 (length p:Int))) (fin80_0 l0_0 l1_0 a0 a1 (r80_0 a0 y0 y1 (length p:Int))))
  |[],[],p,p_1,hp0,hp1,hq1,hl1=>by
    have hc:¬(decide ((length p:Int) <((length (map b_T a0)):Int)))=true:=by
      rw[← hp0]; simp only[LN,decide_eq_true_eq]; omega
    have st:=ch b80_0 (h80_0 l0_0 l1_0 a0 a1 (length p:Int)) ⟨[(0,(.one (.bor l0_0 (map b_T a0)))),(1,(.one (.bor l1_0 (map b_T a1)))),(5,(.oi (length p:Int))),(14,(.one (.val (.bool (decide ((length p:Int) <((length (map b_T a0)):Int)))))))],[]⟩ (.exit 0) 9 (by kernel_rfl) (.f (nt hc) (.h 8 (.b false) .nil))
    rw[show (⟨[(0,(.one (.bor l0_0 (map b_T a0)))),(1,(.one (.bor l1_0 (map b_T a1)))),(5,(.oi (length p:Int))),(14,(.one (.val (.bool (decide ((length p:Int) <((length (map b_T a0)):Int)))))))],[]⟩:St)=fin80_0 l0_0 l1_0 a0 a1 (.k0 (length p:Int) (decide ((length p:Int) <((length (map b_T a0)):Int)))) from(by rfl)] at st
    exact .loopX st (show ((.exit 0):VX.Exit)≠.normal from by simp)
  |x0::y0,x1::y1,p,p_1,hp0,hp1,hq1,hl1=>by
    have hc:(decide ((length p:Int) <((length (map b_T a0)):Int)))=true:=by
      rw[← hp0]; simp only[LN,decide_eq_true_eq]; omega
    have Hx0:(a0)[toNat (length p:Int)]?=some x0:=by
      rw[← hp0,Int.toNat_natCast]; simp
    have Hx1:(a1)[toNat (length p:Int)]?=some x1:=by
      rw[← hp1,hq1,Int.toNat_natCast]; simp
    obtain⟨Mx0_0,Mx0_1,Mx0_2,Mx0_3⟩:=hy1 x0 (List.mem_of_getElem? Hx0)
    obtain⟨Mx1_0,Mx1_1,Mx1_2,Mx1_3⟩:=hy3 x1 (List.mem_of_getElem? Hx1)
    have hlen:length (a0)=length p+length y0+1:=by rw[← hp0]; simp; omega
    have hw:wrap .i64 ((length p:Int)+1)=(length p:Int)+1:=wrap64 (by omega)
    simp only[r80_0]
    have f1:0≤(length p:Int):=(by omega)
    have P1 {hs q} (r:PS F X hs q):=(PS.f hc (.f f1 (.f (mp_ b_T Hx0) (.f f1 (.f (mp_ b_T Hx1) (.h 8 (.b true) (.h 14 (.row (b_T x0)) (.h 22 (.row (b_T x1)) (.r 26 [] [] (e109 (l0_1:=(l0_0+1)) (l0_2:=(l0_0+1)) (l1_1:=(l1_0+1)) (l1_2:=(l1_0+1)) (a0:=x0) (a1:=x1) ‹_› ‹_› ‹_› ‹_› ‹_› ‹_› ‹_› ‹_›) r)))))))))
    by_cases h_1:(!(m109 x0 x1))=true
    · try simp only[if_pos h_1]
      have st:=ch b80_0 (h80_0 l0_0 l1_0 a0 a1 (length p:Int)) ⟨[(4,(.one (.val (.bool false))))],[]⟩ .ret 32 (by kernel_rfl) (P1 (.f h_1 (.h 29 (.b true) .nil)))
      rw[show (⟨[(4,(.one (.val (.bool false))))],[]⟩:St)=fin80_0 l0_0 l1_0 a0 a1 (.k1) from(by rfl)] at st
      exact .loopX st (show (.ret:VX.Exit)≠.normal from by simp)
    · try simp only[if_neg h_1]
      have st:=ch b80_0 (h80_0 l0_0 l1_0 a0 a1 (length p:Int)) ⟨[(0,(.one (.bor l0_0 (map b_T a0)))),(1,(.one (.bor l1_0 (map b_T a1)))),(5,(.oi (wrap .i64 ((length p:Int)+1))))],[]⟩ .normal 36 (by kernel_rfl) (P1 (.f (nt h_1) (.f trivial (.h 29 (.b false) .nil))))
      have ih:=t80_0 (l0_0:=l0_0) (l1_0:=l1_0) (a0:=a0) (a1:=a1) hy0 hy1 hy2 hy3 y0 y1 (p++ [x0]) (p_1++ [x1]) (by rw[append_assoc]; exact hp0) (by rw[append_assoc]; exact hp1) (by simp only[LN]; omega) (by simp only[LN] at hl1; omega)
      rw[show ((p++ [x0]).length:Int)=(p.length:Int)+1 from by simp] at ih
      rw[show (⟨[(0,(.one (.bor l0_0 (map b_T a0)))),(1,(.one (.bor l1_0 (map b_T a1)))),(5,(.oi (wrap .i64 ((length p:Int)+1))))],[]⟩:St)=h80_0 l0_0 l1_0 a0 a1 ((length p:Int)+1)  from(by unfold h80_0; simp only[hw]; done)] at st
      exact .loopN st ih
/-! loop.example/g00539/laws.eqTxS -/
def m80 (a0:(List K_T)) (a1:(List K_T)):Bool:=
  if(((length (map b_T a0)):Int) !=((length (map b_T a1)):Int))=true then false else
  (match r80_0 a0 a0 a1 0 with | .k0 w0_1 w1_1=>true | .k1=>false)
theorem e80 {l0_0:Nat} {a0:(List K_T)} {l1_0:Nat} {a1:(List K_T)} (hy0:length a0*56≤140737488351232) (hy1:∀z∈a0,ok_T z) (hy2:length a1*56≤140737488351232) (hy3:∀z∈a1,ok_T z):Ev F X (.call 80 [(.one (.bor l0_0 (map b_T a0))),(.one (.bor l1_0 (map b_T a1)))] [] [] [(.one (.val (.bool (m80 a0 a1))))]):=by
  unfold m80
  by_cases h0:(((length (map b_T a0)):Int) !=((length (map b_T a1)):Int))=true
  · try simp only[if_pos h0]
    exact cp ya (.f h0 (.h 12 (.b true) .nil))
  · try simp only[if_neg h0]
    cases h1:r80_0 a0 a0 a1 0 with
    |k0 w0_1 w1_1=>
      try dsimp only
      have f1:(⟨[(0,(.one (.bor l0_0 (map b_T a0)))),(1,(.one (.bor l1_0 (map b_T a1)))),(5,(.oi 0))],[]⟩:St)=h80_0 l0_0 l1_0 a0 a1 0 :=yf
      exact cp ya (.f (nt h0) (.f f1 (.f (ev_ (e:=ex80_0) (g:=(fin80_0 l0_0 l1_0 a0 a1)) h1 (t80_0 (l0_0:=l0_0) (l1_0:=l1_0) (a0:=a0) (a1:=a1) (by assumption) (by assumption) (by assumption) (by assumption) a0 a1 [] []  rfl rfl rfl yT)) (.h 12 (.b false) (.h 15 (.loop (h80_0 l0_0 l1_0 a0 a1 0) (.exit 0) ⟨[(0,(.one (.bor l0_0 (map b_T a0)))),(1,(.one (.bor l1_0 (map b_T a1)))),(5,(.oi w0_1)),(14,(.one (.val (.bool w1_1))))],[]⟩) .nil)))))
    |k1=>
      try dsimp only
      have f1:(⟨[(0,(.one (.bor l0_0 (map b_T a0)))),(1,(.one (.bor l1_0 (map b_T a1)))),(5,(.oi 0))],[]⟩:St)=h80_0 l0_0 l1_0 a0 a1 0 :=yf
      exact cp ya (.f (nt h0) (.f f1 (.f (ev_ (e:=ex80_0) (g:=(fin80_0 l0_0 l1_0 a0 a1)) h1 (t80_0 (l0_0:=l0_0) (l1_0:=l1_0) (a0:=a0) (a1:=a1) (by assumption) (by assumption) (by assumption) (by assumption) a0 a1 [] []  rfl rfl rfl yT)) (.h 12 (.b false) (.h 15 (.loop (h80_0 l0_0 l1_0 a0 a1 0) .ret ⟨[(4,(.one (.val (.bool false))))],[]⟩) .nil)))))
theorem eqr80_0 (a0:(List K_T)):∀(l m:List K_T) (i:Int),l.length=m.length→(r80_0 a0 l m i=.k1∧l≠m)∨(∃w0 w1,r80_0 a0 l m i=.k0 w0 w1∧l=m)
  |[],[],i,_=>.inr ⟨_,_,rfl,rfl⟩
  |[],_::_,i,h=>by simp at h
  |_::_,[],i,h=>by simp at h
  |x::l,y::m,i,h=>by
    have ih:=eqr80_0 a0 l m (i+1) yZ
    by_cases hxy:x=y
    · subst hxy
      have e:r80_0 a0 (x::l) (x::m) i=r80_0 a0 l m (i+1):=by simp[r80_0,ba_eq,eqd109]
      rw[e]
      rcases ih with⟨h1,h2⟩ |⟨w0,w1,h1,h2⟩
      · exact .inl ⟨h1,by simp[h2]⟩
      · exact .inr ⟨_,_,h1,by rw[h2]⟩
    · have e:r80_0 a0 (x::l) (y::m) i=.k1:=by
        simp only[r80_0]
        first
          |((repeat' split)<;>simp_all [ba_eq,eqd109]; done)
          |(cases x; cases y;(repeat' split)<;>simp_all [ba_eq,eqd109])
      exact .inl ⟨e,by simp[hxy]⟩
open Classical in
theorem eqd80 (a b:(List K_T)):m80 a b=decide (a=b):=by
  rw[Bool.eq_iff_iff,decide_eq_true_eq]
  unfold m80
  by_cases hl:length a=length b
  · rcases eqr80_0 a a b 0 hl with⟨h1,h2⟩ |⟨w0,w1,h1,h2⟩
    · simp only[h1,length_map,hl]
      first
        |(simp[h2,ba_eq,eqd109]; done)
        |(cases a; cases b; simp_all [ba_eq,eqd109]; done)
        |(cases a; cases b;(repeat' split)<;>simp_all [ba_eq,eqd109])
    · simp only[h1,length_map,hl]
      first
        |(simp[h2,ba_eq,eqd109]; done)
        |(cases a; cases b; simp_all [ba_eq,eqd109]; done)
        |(cases a; cases b;(repeat' split)<;>simp_all [ba_eq,eqd109])
  · have hn:a≠b:=by rintro rfl; exact hl rfl
    simp only[length_map]
    first
      |(simp[hn,hl,ba_eq,eqd109]; done)
      |((repeat' split)<;>simp_all [ba_eq,eqd109]; done)
      |(simp[hn]; omega)
/-! loop.example/g00539/laws.eqBlock -/
def m44 (a0:K_G) (a1:K_G):Bool:=
  if(a0.f0 !=a1.f0)=true then false else
  if(a0.f1 !=a1.f1)=true then false else
    if(a0.f2 !=a1.f2)=true then false else
      if(a0.f3 !=a1.f3)=true then false else
        if(!(m80 a0.f4 a1.f4))=true then false else
          true
theorem e44 {l0_4:Nat} {a0:K_G} {l1_4:Nat} {a1:K_G} (hy0:length a0.f4*56≤140737488351232) (hy1:∀z∈a0.f4,ok_T z) (hy2:length a1.f4*56≤140737488351232) (hy3:∀z∈a1.f4,ok_T z):Ev F X (.call 44 [(.agg (k_G l0_4 a0)),(.agg (k_G l1_4 a1))] [] [] [(.one (.val (.bool (m44 a0 a1))))]):=by
  unfold m44
  by_cases h0:(a0.f0 !=a1.f0)=true
  · try simp only[if_pos h0]
    exact cp ya (.f h0 (.h 16 (.b true) .nil))
  · try simp only[if_neg h0]
    have P1 {hs q} (r:PS F X hs q):=(PS.f (nt h0) (.h 16 (.b false) r))
    by_cases h1:(a0.f1 !=a1.f1)=true
    · try simp only[if_pos h1]
      exact cp ya (P1 (.f h1 (.h 27 (.b true) .nil)))
    · try simp only[if_neg h1]
      have P2 {hs q} (r:PS F X hs q):=(P1 (.f (nt h1) (.h 27 (.b false) r)))
      by_cases h2:(a0.f2 !=a1.f2)=true
      · try simp only[if_pos h2]
        exact cp ya (P2 (.f h2 (.h 38 (.b true) .nil)))
      · try simp only[if_neg h2]
        by_cases h3:(a0.f3 !=a1.f3)=true
        · try simp only[if_pos h3]
          exact cp ya (P2 (.f (nt h2) (.f h3 (.h 38 (.b false) (.h 49 (.b true) .nil)))))
        · try simp only[if_neg h3]
          have P4 {hs q} (r:PS F X hs q):=(P2 (.f (nt h2) (.f (nt h3) (.h 38 (.b false) (.h 49 (.b false) (.r 59 [] [] (e80 (l0_0:=(l0_4+1)) (l1_0:=(l1_4+1)) (a0:=a0.f4) (a1:=a1.f4) ‹_› ‹_› ‹_› ‹_›) r))))))
          by_cases h4:(!(m80 a0.f4 a1.f4))=true
          · try simp only[if_pos h4]
            exact cp ya (P4 (.f h4 (.h 62 (.b true) .nil)))
          · try simp only[if_neg h4]
            exact cp ya (P4 (.f (nt h4) (.h 62 (.b false) .nil)))
open Classical in
theorem eqd44 (a b:K_G):m44 a b=decide (a=b):=by
  rw[Bool.eq_iff_iff,decide_eq_true_eq]
  constructor
  · intro h
    unfold m44 at h
    cases a; cases b
    (repeat' split at h)<;>simp_all [ba_eq,eqd80]
  · rintro rfl
    simp[m44,ba_eq,eqd80]
/-! loop.example/g00539/laws.eqBlockResult -/
def m10 (a0:K_J) (a1:K_J):Bool:=
  if(a0.f0 !=a1.f0)=true then false else
  if(!(m44 (K_G.mk a0.f1 a0.f2 a0.f3 a0.f4 a0.f5) (K_G.mk a1.f1 a1.f2 a1.f3 a1.f4 a1.f5)))=true then false else
    true
theorem e10 {l0_5:Nat} {a0:K_J} {l1_5:Nat} {a1:K_J} (hy0:length a0.f5*56≤140737488351232) (hy1:∀z∈a0.f5,ok_T z) (hy2:length a1.f5*56≤140737488351232) (hy3:∀z∈a1.f5,ok_T z):Ev F X (.call 10 [(.agg (k_J l0_5 a0)),(.agg (k_J l1_5 a1))] [] [] [(.one (.val (.bool (m10 a0 a1))))]):=by
  unfold m10
  by_cases h0:(a0.f0 !=a1.f0)=true
  · try simp only[if_pos h0]
    exact cp ya (.f h0 (.h 16 (.b true) .nil))
  · try simp only[if_neg h0]
    have P1 {hs q} (r:PS F X hs q):=(PS.f (nt h0) (.h 16 (.b false) (.r 26 [] [] (e44 (l0_4:=(l0_5+1)) (l1_4:=(l1_5+1)) (a0:=(K_G.mk a0.f1 a0.f2 a0.f3 a0.f4 a0.f5)) (a1:=(K_G.mk a1.f1 a1.f2 a1.f3 a1.f4 a1.f5)) ‹_› ‹_› ‹_› ‹_›) r)))
    by_cases h1:(!(m44 (K_G.mk a0.f1 a0.f2 a0.f3 a0.f4 a0.f5) (K_G.mk a1.f1 a1.f2 a1.f3 a1.f4 a1.f5)))=true
    · try simp only[if_pos h1]
      exact cp ya (P1 (.f h1 (.h 29 (.b true) .nil)))
    · try simp only[if_neg h1]
      exact cp ya (P1 (.f (nt h1) (.h 29 (.b false) .nil)))
open Classical in
theorem eqd10 (a b:K_J):m10 a b=decide (a=b):=by
  rw[Bool.eq_iff_iff,decide_eq_true_eq]
  constructor
  · intro h
    unfold m10 at h
    cases a; cases b
    (repeat' split at h)<;>simp_all [ba_eq,eqd44]
  · rintro rfl
    simp[m10,ba_eq,eqd44]
/-! loop.example/g00539/laws.eqJob -/
def m11 (a0:K_J) (a1:K_J):Bool:=
  if(a0.f0 !=a1.f0)=true then false else
  if(!(m44 (K_G.mk a0.f1 a0.f2 a0.f3 a0.f4 a0.f5) (K_G.mk a1.f1 a1.f2 a1.f3 a1.f4 a1.f5)))=true then false else
    true
theorem e11 {l0_5:Nat} {a0:K_J} {l1_5:Nat} {a1:K_J} (hy0:length a0.f5*56≤140737488351232) (hy1:∀z∈a0.f5,ok_T z) (hy2:length a1.f5*56≤140737488351232) (hy3:∀z∈a1.f5,ok_T z):Ev F X (.call 11 [(.agg (k_J l0_5 a0)),(.agg (k_J l1_5 a1))] [] [] [(.one (.val (.bool (m11 a0 a1))))]):=by
  unfold m11
  by_cases h0:(a0.f0 !=a1.f0)=true
  · try simp only[if_pos h0]
    exact cp ya (.f h0 (.h 16 (.b true) .nil))
  · try simp only[if_neg h0]
    have P1 {hs q} (r:PS F X hs q):=(PS.f (nt h0) (.h 16 (.b false) (.r 26 [] [] (e44 (l0_4:=(l0_5+1)) (l1_4:=(l1_5+1)) (a0:=(K_G.mk a0.f1 a0.f2 a0.f3 a0.f4 a0.f5)) (a1:=(K_G.mk a1.f1 a1.f2 a1.f3 a1.f4 a1.f5)) ‹_› ‹_› ‹_› ‹_›) r)))
    by_cases h1:(!(m44 (K_G.mk a0.f1 a0.f2 a0.f3 a0.f4 a0.f5) (K_G.mk a1.f1 a1.f2 a1.f3 a1.f4 a1.f5)))=true
    · try simp only[if_pos h1]
      exact cp ya (P1 (.f h1 (.h 29 (.b true) .nil)))
    · try simp only[if_neg h1]
      exact cp ya (P1 (.f (nt h1) (.h 29 (.b false) .nil)))
open Classical in
theorem eqd11 (a b:K_J):m11 a b=decide (a=b):=by
  rw[Bool.eq_iff_iff,decide_eq_true_eq]
  constructor
  · intro h
    unfold m11 at h
    cases a; cases b
    (repeat' split at h)<;>simp_all [ba_eq,eqd44]
  · rintro rfl
    simp[m11,ba_eq,eqd44]
/-! loop 112_0 -/
inductive O112_0 where
  |k0 (w0:List Int) (w1:Int) (w2:Int) (w3:Bool)
def r112_0 (a0:(List Int)):List Int→Int→List Int→Int→O112_0
  |x0::y0,i,v0,v1=>
    (r112_0 a0 y0 (i+1) (set v0 (toNat i) v1) (wrap .i64 (v1+1)))
  |[],i,v0,v1=>(O112_0.k0 v0 v1 i (decide (i <((length (map d_i a0)):Int))))
def h112_0 (a0:(List Int)) (a1:Int) (i:Int) (v0:List Int) (v1:Int):St:=⟨[(0,(.one (.ref ⟨(0,0,0),[],0,(length (map d_i a0))⟩))),(1,(.one (.val (.int .i64 v1)))),(5,(.one (.val (.int .i64 i))))],[((0,0,0),.live ⟨1,(map d_i v0),[]⟩)]⟩
def ex112_0:O112_0→VX.Exit
  |.k0 _ _ _ _=>(.exit 0)
def fin112_0 (a0:(List Int)) (a1:Int):O112_0→St
  |.k0 w0 w1 w2 w3=>⟨[(0,(.one (.ref ⟨(0,0,0),[],0,(length (map d_i a0))⟩))),(1,(.one (.val (.int .i64 w1)))),(5,(.one (.val (.int .i64 w2)))),(9,(.one (.val (.bool w3))))],[((0,0,0),.live ⟨1,(map d_i w0),[]⟩)]⟩
theorem t112_0 {a0:(List Int)} {a1:Int} (hy0:length a0*8≤140737488351232):∀(y0:List Int) (p:List Int) (v0:List Int) (v1:Int),p++y0=a0→length v0=(length (map d_i a0))→drop (length p) v0=y0→Ev F X (.code l112_0 (h112_0 a0 a1 (length p:Int) v0 v1) (ex112_0 (r112_0 a0 y0 (length p:Int) v0 v1)) (fin112_0 a0 a1 (r112_0 a0 y0 (length p:Int) v0 v1)))
  |[],p,v0,v1,hp0,hi0,hi1=>by
    have hc:¬(decide ((length p:Int) <((length (map d_i a0)):Int)))=true:=by
      rw[← hp0]; simp only[LN,decide_eq_true_eq]; omega
    have hj0:=hi0; try simp only[LN,Int.toNat_natCast] at hj0
    have hj1:=hi1; try simp only[LN,Int.toNat_natCast] at hj1
    have st:=ch b112_0 (h112_0 a0 a1 (length p:Int) v0 v1) ⟨[(0,(.one (.ref ⟨(0,0,0),[],0,(length (map d_i a0))⟩))),(1,(.oi v1)),(5,(.oi (length p:Int))),(9,(.one (.val (.bool (decide ((length p:Int) <((length (map d_i a0)):Int)))))))],[((0,0,0),.live ⟨1,(map d_i v0),[]⟩)]⟩ (.exit 0) 9 (by kernel_rfl) (.f (nt hc) (.h 8 (.b false) .nil))
    rw[show (⟨[(0,(.one (.ref ⟨(0,0,0),[],0,(length (map d_i a0))⟩))),(1,(.oi v1)),(5,(.oi (length p:Int))),(9,(.one (.val (.bool (decide ((length p:Int) <((length (map d_i a0)):Int)))))))],[((0,0,0),.live ⟨1,(map d_i v0),[]⟩)]⟩:St)=fin112_0 a0 a1 (.k0 v0 v1 (length p:Int) (decide ((length p:Int) <((length (map d_i a0)):Int)))) from(by rfl)] at st
    exact .loopX st (show ((.exit 0):VX.Exit)≠.normal from by simp)
  |x0::y0,p,v0,v1,hp0,hi0,hi1=>by
    have hc:(decide ((length p:Int) <((length (map d_i a0)):Int)))=true:=by
      rw[← hp0]; simp only[LN,decide_eq_true_eq]; omega
    have Hx0:(a0)[toNat (length p:Int)]?=some x0:=by
      rw[← hp0,Int.toNat_natCast]; simp
    have hlen:length (a0)=length p+length y0+1:=by rw[← hp0]; simp; omega
    have hw:wrap .i64 ((length p:Int)+1)=(length p:Int)+1:=wrap64 (by omega)
    have hj0:=hi0; try simp only[LN,Int.toNat_natCast] at hj0
    have hj1:=hi1; try simp only[LN,Int.toNat_natCast] at hj1
    have Hv0:v0[toNat (length p:Int)]?=some x0:=by rw[Int.toNat_natCast]; exact drop_at hi1
    simp only[r112_0]
    have f1:0+(length (map d_i a0))≤(length (map d_i v0)):=(by simp only[length_map]; omega)
    have f2:0≤(length p:Int)∧(length p:Int) <((length (map d_i a0)):Int):=(by omega)
    have f4:(set (map d_i v0) (0+(toNat (length p:Int))) [(.i v1)])=(map d_i (set v0 (toNat (length p:Int)) v1)):=(by simp[take_of_length_le,d_i,four_len,high4,high2]; done)
    have st:=ch b112_0 (h112_0 a0 a1 (length p:Int) v0 v1) ⟨[(0,(.one (.ref ⟨(0,0,0),[],0,(length (map d_i a0))⟩))),(1,(.oi (wrap .i64 (v1+1)))),(5,(.oi (wrap .i64 ((length p:Int)+1))))],[((0,0,0),.live ⟨1,(map d_i (set v0 (toNat (length p:Int)) v1)),[]⟩)]⟩ .normal 32 (by kernel_rfl) (.f hc (.f f1 (.f f2 (.f (mz_ d_i Hv0) (.f f4 (.f trivial (.f trivial (.h 8 (.b true) (.h 18 (.rowD [(.i x0)]) (.h 19 (.norm (0,0,0) (map d_i (set v0 (toNat (length p:Int)) v1))) .nil))))))))))
    have ih:=t112_0 (a0:=a0) (a1:=a1) hy0 y0 (p++ [x0]) (set v0 (toNat (length p:Int)) v1) (wrap .i64 (v1+1)) (by rw[append_assoc]; exact hp0) (by simp only[LN]; omega) (by simp only[LN,Int.toNat_natCast]; first | exact drop_set_next hi1 _ | exact drop_next hi1)
    rw[show ((p++ [x0]).length:Int)=(p.length:Int)+1 from by simp] at ih
    rw[show (⟨[(0,(.one (.ref ⟨(0,0,0),[],0,(length (map d_i a0))⟩))),(1,(.oi (wrap .i64 (v1+1)))),(5,(.oi (wrap .i64 ((length p:Int)+1))))],[((0,0,0),.live ⟨1,(map d_i (set v0 (toNat (length p:Int)) v1)),[]⟩)]⟩:St)=h112_0 a0 a1 ((length p:Int)+1) (set v0 (toNat (length p:Int)) v1) (wrap .i64 (v1+1)) from(by unfold h112_0; simp only[hw]; done)] at st
    exact .loopN st ih
def post112_0 (n0:Nat):O112_0→Prop
  |.k0 w0 _ _ _=>length w0=n0
theorem z112_0 {a0:(List Int)}:∀(y0:List Int) (i:Int) (v0:List Int) (v1:Int),post112_0 (length v0) (r112_0 a0 y0 i v0 v1)
  |[],i,v0,v1=>by
    first | trivial |(simp only[post112_0,length_nil,Nat.add_zero]; done) |(simp[post112_0]; done)
  |x0::y0,i,v0,v1=>by
    simp only[r112_0]
    have z:=z112_0 (a0:=a0) y0 (i+1) (set v0 (toNat i) v1) (wrap .i64 (v1+1))
    rw[show (length v0)=(length (set v0 (toNat i) v1)) from by first | omega |(simp only[LN]; done) |(simp only[LN]; omega)]
    exact z
/-! loop.example/g00539/laws.markInt64S -/
def o112_0 (a0:(List Int)) (a1:Int):List Int:=
  (match r112_0 a0 a0 0 a0 a1 with | .k0 w0_0 w1_0 w2_0 w3_0=>w0_0)
def m112 (a0:(List Int)) (a1:Int):Int:=
  (match r112_0 a0 a0 0 a0 a1 with | .k0 w0_0 w1_0 w2_0 w3_0=>w1_0)
theorem e112 {a0:(List Int)} {a1:Int} (hy0:length a0*8≤140737488351232):Ev F X (.call 112 [(.one (.ref ⟨(0,0,0),[],0,(length (map d_i a0))⟩)),(.one (.val (.int .i64 a1)))] [((0,0,0),⟨1,(map d_i a0),[]⟩)] [(map d_i (o112_0 a0 a1))] [(.one (.val (.int .i64 (m112 a0 a1))))]):=by
  unfold m112 o112_0
  cases h0:r112_0 a0 a0 0 a0 a1 with
  |k0 w0_0 w1_0 w2_0 w3_0=>
    try dsimp only
    have zh0:=z112_0 (a0:=a0) a0 0 a0 a1; rw[h0] at zh0; simp only[post112_0,length_map,length_set,length_append,length_replicate,length_cons,length_nil,Int.toNat_natCast] at zh0
    have f0:(⟨[(0,(.one (.ref ⟨(0,0,0),[],0,(length (map d_i a0))⟩))),(1,(.oi a1)),(5,(.oi 0))],[((0,0,0),.live ⟨1,(map d_i a0),[]⟩)]⟩:St)=h112_0 a0 a1 0 a0 a1:=yf
    exact cq [true] ya (.f f0 (.f (ev_ (e:=ex112_0) (g:=(fin112_0 a0 a1)) h0 (t112_0 (a0:=a0) (a1:=a1) (by assumption) a0 [] a0 a1 rfl yK yf)) (.f (pureR_i w0_0) (.h 4 (.loop (h112_0 a0 a1 0 a0 a1) (.exit 0) ⟨[(0,(.one (.ref ⟨(0,0,0),[],0,(length (map d_i a0))⟩))),(1,(.oi w1_0)),(5,(.oi w2_0)),(9,(.one (.val (.bool w3_0))))],[((0,0,0),.live ⟨1,(map d_i w0_0),[]⟩)]⟩) .nil))))
theorem ow112_0 (a0:List Int):∀(l p:List Int) (v1:Int),∃(q:List Int) (w1:_) (w2:_) (w3:_),r112_0 a0 l (p.length:Int) (p++l) v1=.k0 (p++q) w1 w2 w3∧q.length=l.length
  |[],p,v1=>⟨[],v1,(p.length:Int),(decide ((p.length:Int) <((length (map d_i a0)):Int))),rfl,rfl⟩
  |x0::l,p,v1=>by
    obtain⟨q,w1,w2,w3,e1,e2⟩:=ow112_0 a0 l (p++ [v1]) (wrap .i64 (v1+1))
    refine⟨v1::q,w1,w2,w3,?_,by simp[e2]⟩
    · have e:set (p++x0::l) (toNat (p.length:Int)) v1=(p++ [v1])++l:=by simp
      have e0:((p++ [v1]).length:Int)=(p.length:Int)+1:=by simp
      rw[e0] at e1
      simp only[r112_0]
      first |(rw[e,e1]; simp; done) |(simp only[e,e1]; simp; done)

theorem ol112 (a:List Int) (k:Int):(o112_0 a k).length=a.length:=by
  obtain⟨q,w1,w2,w3,e1,e2⟩:=ow112_0 a a [] k
  simp only[List.nil_append,length_nil] at e1
  rw[show ((0:Nat):Int)=0 from rfl] at e1
  unfold o112_0
  rw[e1]; exact e2
/-! loop 83_0 -/
inductive O83_0 where
  |k0 (w0:List K_N) (w1:Int) (w2:Int) (w3:Bool)
def r83_0 (a0:(List K_N)):List K_N→Int→List K_N→Int→O83_0
  |x0::y0,i,v0,v1=>
    (r83_0 a0 y0 (i+1) (set v0 (toNat i) (K_N.mk v1 (wrap .i64 (v1+1)) (o112_0 x0.f2 (wrap .i64 ((wrap .i64 (v1+1))+1))))) (m112 x0.f2 (wrap .i64 ((wrap .i64 (v1+1))+1))))
  |[],i,v0,v1=>(O83_0.k0 v0 v1 i (decide (i <((length (map d_N a0)):Int))))
def h83_0 (a0:(List K_N)) (a1:Int) (i:Int) (v0:List K_N) (v1:Int):St:=⟨[(0,(.one (.ref ⟨(0,0,0),[],0,(length (map d_N a0))⟩))),(1,(.one (.val (.int .i64 v1)))),(5,(.one (.val (.int .i64 i))))],[((0,0,0),.live ⟨3,(map d_N v0),[]⟩)]⟩
def ex83_0:O83_0→VX.Exit
  |.k0 _ _ _ _=>(.exit 0)
def fin83_0 (a0:(List K_N)) (a1:Int):O83_0→St
  |.k0 w0 w1 w2 w3=>⟨[(0,(.one (.ref ⟨(0,0,0),[],0,(length (map d_N a0))⟩))),(1,(.one (.val (.int .i64 w1)))),(5,(.one (.val (.int .i64 w2)))),(9,(.one (.val (.bool w3))))],[((0,0,0),.live ⟨3,(map d_N w0),[]⟩)]⟩
theorem t83_0 {a0:(List K_N)} {a1:Int} (hy0:length a0*40≤140737488351232) (hy1:∀z∈a0,ok_N z):∀(y0:List K_N) (p:List K_N) (v0:List K_N) (v1:Int),p++y0=a0→length v0=(length (map d_N a0))→drop (length p) v0=y0→Ev F X (.code l83_0 (h83_0 a0 a1 (length p:Int) v0 v1) (ex83_0 (r83_0 a0 y0 (length p:Int) v0 v1)) (fin83_0 a0 a1 (r83_0 a0 y0 (length p:Int) v0 v1)))
  |[],p,v0,v1,hp0,hi0,hi1=>by
    have hc:¬(decide ((length p:Int) <((length (map d_N a0)):Int)))=true:=by
      rw[← hp0]; simp only[LN,decide_eq_true_eq]; omega
    have hj0:=hi0; try simp only[LN,Int.toNat_natCast] at hj0
    have hj1:=hi1; try simp only[LN,Int.toNat_natCast] at hj1
    have st:=ch b83_0 (h83_0 a0 a1 (length p:Int) v0 v1) ⟨[(0,(.one (.ref ⟨(0,0,0),[],0,(length (map d_N a0))⟩))),(1,(.oi v1)),(5,(.oi (length p:Int))),(9,(.one (.val (.bool (decide ((length p:Int) <((length (map d_N a0)):Int)))))))],[((0,0,0),.live ⟨3,(map d_N v0),[]⟩)]⟩ (.exit 0) 9 (by kernel_rfl) (.f (nt hc) (.h 8 (.b false) .nil))
    rw[show (⟨[(0,(.one (.ref ⟨(0,0,0),[],0,(length (map d_N a0))⟩))),(1,(.oi v1)),(5,(.oi (length p:Int))),(9,(.one (.val (.bool (decide ((length p:Int) <((length (map d_N a0)):Int)))))))],[((0,0,0),.live ⟨3,(map d_N v0),[]⟩)]⟩:St)=fin83_0 a0 a1 (.k0 v0 v1 (length p:Int) (decide ((length p:Int) <((length (map d_N a0)):Int)))) from(by rfl)] at st
    exact .loopX st (show ((.exit 0):VX.Exit)≠.normal from by simp)
  |x0::y0,p,v0,v1,hp0,hi0,hi1=>by
    have hc:(decide ((length p:Int) <((length (map d_N a0)):Int)))=true:=by
      rw[← hp0]; simp only[LN,decide_eq_true_eq]; omega
    have Hx0:(a0)[toNat (length p:Int)]?=some x0:=by
      rw[← hp0,Int.toNat_natCast]; simp
    have Mx0_0:=hy1 x0 (List.mem_of_getElem? Hx0)
    have hlen:length (a0)=length p+length y0+1:=by rw[← hp0]; simp; omega
    have hw:wrap .i64 ((length p:Int)+1)=(length p:Int)+1:=wrap64 (by omega)
    have hj0:=hi0; try simp only[LN,Int.toNat_natCast] at hj0
    have hj1:=hi1; try simp only[LN,Int.toNat_natCast] at hj1
    have Hv0:v0[toNat (length p:Int)]?=some x0:=by rw[Int.toNat_natCast]; exact drop_at hi1
    simp only[r83_0]
    have f1:0+(length (map d_N a0))≤(length (map d_N v0)):=(by simp only[length_map]; omega)
    have f2:0≤(length p:Int)∧(length p:Int) <((length (map d_N a0)):Int):=(by omega)
    have f4:(set (map d_N v0) (0+(toNat (length p:Int))) [(.i v1),(.i x0.f1),(.own 1 (map d_i x0.f2))])=(map d_N (set v0 (toNat (length p:Int)) (K_N.mk v1 x0.f1 x0.f2))):=(by simp[take_of_length_le,d_i,d_N,four_len,high4,high2,ol112]; done)
    have f6:0+(length (map d_N a0))≤(length (map d_N (set v0 (toNat (length p:Int)) (K_N.mk v1 x0.f1 x0.f2)))):=(by simp only[length_map,length_set]; omega)
    have f8:(map d_N (set v0 (toNat (length p:Int)) (K_N.mk v1 x0.f1 x0.f2)))[(0+(toNat (length p:Int)))]?=some [(.i v1),(.i x0.f1),(.own 1 (map d_i x0.f2))]:=(by rw[Nat.zero_add,map_set,List.getElem?_set_self (by simp only[length_map]; omega)]; rfl)
    have f9:(set (map d_N (set v0 (toNat (length p:Int)) (K_N.mk v1 x0.f1 x0.f2))) (0+(toNat (length p:Int))) [(.i v1),(.i (wrap .i64 (v1+1))),(.own 1 (map d_i x0.f2))])=(map d_N (set v0 (toNat (length p:Int)) (K_N.mk v1 (wrap .i64 (v1+1)) x0.f2))):=(by simp[take_of_length_le,d_i,d_N,four_len,high4,high2,ol112]; done)
    have f11:0+(length (map d_N a0))≤(length (map d_N (set v0 (toNat (length p:Int)) (K_N.mk v1 (wrap .i64 (v1+1)) x0.f2)))):=(by simp only[length_map,length_set]; omega)
    have f13:(map d_N (set v0 (toNat (length p:Int)) (K_N.mk v1 (wrap .i64 (v1+1)) x0.f2)))[(0+(toNat (length p:Int)))]?=some [(.i v1),(.i (wrap .i64 (v1+1))),(.own 1 (map d_i x0.f2))]:=(by rw[Nat.zero_add,map_set,List.getElem?_set_self (by simp only[length_map]; omega)]; rfl)
    have f14:nav 3 (map d_N (set v0 (toNat (length p:Int)) (K_N.mk v1 (wrap .i64 (v1+1)) x0.f2))) [((0+(toNat (length p:Int))),2)]=some (1,(map d_i x0.f2)):=(by simp only[nav];(rw[Nat.zero_add,map_set,List.getElem?_set_self (by simp only[length_map]; omega)]); rfl)
    have f17:undirt [((0+(toNat (length p:Int))),2)] [([((0+(toNat (length p:Int))),2)],false)]=[([((0+(toNat (length p:Int))),2)],true)]:=(by simp[undirt])
    have f18:(setCell (setCell (map d_N (set v0 (toNat (length p:Int)) (K_N.mk v1 (wrap .i64 (v1+1)) x0.f2))) [((0+(toNat (length p:Int))),2)] (.hole (lenAt ⟨3,(map d_N (set v0 (toNat (length p:Int)) (K_N.mk v1 (wrap .i64 (v1+1)) x0.f2))),[]⟩ [((0+(toNat (length p:Int))),2)]))) [((0+(toNat (length p:Int))),2)] (.own 1 (map d_i (o112_0 x0.f2 (wrap .i64 ((wrap .i64 (v1+1))+1))))))=(map d_N (set v0 (toNat (length p:Int)) (K_N.mk v1 (wrap .i64 (v1+1)) (o112_0 x0.f2 (wrap .i64 ((wrap .i64 (v1+1))+1)))))):=(by rw[setCell2At (i:=(0+(toNat (length p:Int)))) (j:=2) (row:=[(.i v1),(.i (wrap .i64 (v1+1))),(.own 1 (map d_i x0.f2))]) (by rw[Nat.zero_add,map_set,List.getElem?_set_self (by simp only[length_map]; omega)]; rfl)]; first | rfl |(simp[take_of_length_le,d_i,d_N,d_U,d_T,d_J,d_b,d_G,d_JL,d_TL,d_LiE,d_NL,d_UL,d_y,d_LyE,d_LLyEE,four_len,high4,high2,ol112,byteRows_eq,ints_y]; done) |(simp[map_set,take_of_length_le,d_i,d_N,d_U,d_T,d_J,d_b,d_G,d_JL,d_TL,d_LiE,d_NL,d_UL,d_y,d_LyE,d_LLyEE,four_len,high4,high2,ol112,byteRows_eq,ints_y]; done))
    have st:=ch b83_0 (h83_0 a0 a1 (length p:Int) v0 v1) ⟨[(0,(.one (.ref ⟨(0,0,0),[],0,(length (map d_N a0))⟩))),(1,(.oi (m112 x0.f2 (wrap .i64 ((wrap .i64 (v1+1))+1))))),(5,(.oi (wrap .i64 ((length p:Int)+1))))],[((0,0,0),.live ⟨3,(map d_N (set v0 (toNat (length p:Int)) (K_N.mk v1 (wrap .i64 (v1+1)) (o112_0 x0.f2 (wrap .i64 ((wrap .i64 (v1+1))+1)))))),[]⟩)]⟩ .normal 70 (by kernel_rfl) (.f hc (.f f1 (.f f2 (.f (mz_ d_N Hv0) (.f f4 (.f trivial (.f f6 (.f f2 (.f f8 (.f f9 (.f trivial (.f f11 (.f f2 (.f f13 (.f f14 (.f (pureR_i x0.f2) (.h 8 (.b true) (.h 20 (.rowD (d_N x0)) (.h 21 (.norm (0,0,0) (map d_N (set v0 (toNat (length p:Int)) (K_N.mk v1 x0.f1 x0.f2)))) (.h 39 (.rowD [(.i v1),(.i x0.f1),(.own 1 (map d_i x0.f2))]) (.h 40 (.norm (0,0,0) (map d_N (set v0 (toNat (length p:Int)) (K_N.mk v1 (wrap .i64 (v1+1)) x0.f2)))) (.h 56 (.rowD [(.i v1),(.i (wrap .i64 (v1+1))),(.own 1 (map d_i x0.f2))]) (.rn 60 [((0,0,0),[2],1,(map d_i x0.f2))] [[([((0+(toNat (length p:Int))),2)],true)]] [true] [] (e112 (a0:=x0.f2) (a1:=(wrap .i64 ((wrap .i64 (v1+1))+1))) (by assumption)) (.f f17 (.f f18 (.f trivial (.h 63 (.norm (0,0,0) (map d_N (set v0 (toNat (length p:Int)) (K_N.mk v1 (wrap .i64 (v1+1)) (o112_0 x0.f2 (wrap .i64 ((wrap .i64 (v1+1))+1))))))) .nil)))))))))))))))))))))))))))
    have ih:=t83_0 (a0:=a0) (a1:=a1) hy0 hy1 y0 (p++ [x0]) (set v0 (toNat (length p:Int)) (K_N.mk v1 (wrap .i64 (v1+1)) (o112_0 x0.f2 (wrap .i64 ((wrap .i64 (v1+1))+1))))) (m112 x0.f2 (wrap .i64 ((wrap .i64 (v1+1))+1))) (by rw[append_assoc]; exact hp0) (by simp only[LN]; omega) (by simp only[LN,Int.toNat_natCast]; first | exact drop_set_next hi1 _ | exact drop_next hi1)
    rw[show ((p++ [x0]).length:Int)=(p.length:Int)+1 from by simp] at ih
    rw[show (⟨[(0,(.one (.ref ⟨(0,0,0),[],0,(length (map d_N a0))⟩))),(1,(.oi (m112 x0.f2 (wrap .i64 ((wrap .i64 (v1+1))+1))))),(5,(.oi (wrap .i64 ((length p:Int)+1))))],[((0,0,0),.live ⟨3,(map d_N (set v0 (toNat (length p:Int)) (K_N.mk v1 (wrap .i64 (v1+1)) (o112_0 x0.f2 (wrap .i64 ((wrap .i64 (v1+1))+1)))))),[]⟩)]⟩:St)=h83_0 a0 a1 ((length p:Int)+1) (set v0 (toNat (length p:Int)) (K_N.mk v1 (wrap .i64 (v1+1)) (o112_0 x0.f2 (wrap .i64 ((wrap .i64 (v1+1))+1))))) (m112 x0.f2 (wrap .i64 ((wrap .i64 (v1+1))+1))) from(by unfold h83_0; simp only[hw]; done)] at st
    exact .loopN st ih
def post83_0 (n0:Nat):O83_0→Prop
  |.k0 w0 _ _ _=>length w0=n0
theorem z83_0 {a0:(List K_N)}:∀(y0:List K_N) (i:Int) (v0:List K_N) (v1:Int),post83_0 (length v0) (r83_0 a0 y0 i v0 v1)
  |[],i,v0,v1=>by
    first | trivial |(simp only[post83_0,length_nil,Nat.add_zero]; done) |(simp[post83_0]; done)
  |x0::y0,i,v0,v1=>by
    simp only[r83_0]
    have z:=z83_0 (a0:=a0) y0 (i+1) (set v0 (toNat i) (K_N.mk v1 (wrap .i64 (v1+1)) (o112_0 x0.f2 (wrap .i64 ((wrap .i64 (v1+1))+1))))) (m112 x0.f2 (wrap .i64 ((wrap .i64 (v1+1))+1)))
    rw[show (length v0)=(length (set v0 (toNat i) (K_N.mk v1 (wrap .i64 (v1+1)) (o112_0 x0.f2 (wrap .i64 ((wrap .i64 (v1+1))+1)))))) from by first | omega |(simp only[LN]; done) |(simp only[LN]; omega)]
    exact z
/-! loop.example/g00539/laws.markInS -/
def o83_0 (a0:(List K_N)) (a1:Int):List K_N:=
  (match r83_0 a0 a0 0 a0 a1 with | .k0 w0_0 w1_0 w2_0 w3_0=>w0_0)
def m83 (a0:(List K_N)) (a1:Int):Int:=
  (match r83_0 a0 a0 0 a0 a1 with | .k0 w0_0 w1_0 w2_0 w3_0=>w1_0)
theorem e83 {a0:(List K_N)} {a1:Int} (hy0:length a0*40≤140737488351232) (hy1:∀z∈a0,ok_N z):Ev F X (.call 83 [(.one (.ref ⟨(0,0,0),[],0,(length (map d_N a0))⟩)),(.one (.val (.int .i64 a1)))] [((0,0,0),⟨3,(map d_N a0),[]⟩)] [(map d_N (o83_0 a0 a1))] [(.one (.val (.int .i64 (m83 a0 a1))))]):=by
  unfold m83 o83_0
  cases h0:r83_0 a0 a0 0 a0 a1 with
  |k0 w0_0 w1_0 w2_0 w3_0=>
    try dsimp only
    have zh0:=z83_0 (a0:=a0) a0 0 a0 a1; rw[h0] at zh0; simp only[post83_0,length_map,length_set,length_append,length_replicate,length_cons,length_nil,Int.toNat_natCast] at zh0
    have f0:(⟨[(0,(.one (.ref ⟨(0,0,0),[],0,(length (map d_N a0))⟩))),(1,(.oi a1)),(5,(.oi 0))],[((0,0,0),.live ⟨3,(map d_N a0),[]⟩)]⟩:St)=h83_0 a0 a1 0 a0 a1:=yf
    exact cq [true] ya (.f f0 (.f (ev_ (e:=ex83_0) (g:=(fin83_0 a0 a1)) h0 (t83_0 (a0:=a0) (a1:=a1) (by assumption) (by assumption) a0 [] a0 a1 rfl yK yf)) (.f (pureR_N w0_0) (.h 4 (.loop (h83_0 a0 a1 0 a0 a1) (.exit 0) ⟨[(0,(.one (.ref ⟨(0,0,0),[],0,(length (map d_N a0))⟩))),(1,(.oi w1_0)),(5,(.oi w2_0)),(9,(.one (.val (.bool w3_0))))],[((0,0,0),.live ⟨3,(map d_N w0_0),[]⟩)]⟩) .nil))))
theorem ow83_0 (a0:List K_N):∀(l p:List K_N) (v1:Int),(∀z∈l,ok_N z)→∃(q:List K_N) (w1:_) (w2:_) (w3:_),r83_0 a0 l (p.length:Int) (p++l) v1=.k0 (p++q) w1 w2 w3∧q.length=l.length∧∀z∈q,ok_N z
  |[],p,v1,_=>⟨[],v1,(p.length:Int),(decide ((p.length:Int) <((length (map d_N a0)):Int))),rfl,rfl,fun z h=>by cases h⟩
  |x0::l,p,v1,h=>by
    obtain⟨q,w1,w2,w3,e1,e2,e3⟩:=ow83_0 a0 l (p++ [(K_N.mk v1 (wrap .i64 (v1+1)) (o112_0 x0.f2 (wrap .i64 ((wrap .i64 (v1+1))+1))))]) (m112 x0.f2 (wrap .i64 ((wrap .i64 (v1+1))+1))) (fun z hz=>h z (List.mem_cons_of_mem _ hz))
    refine⟨(K_N.mk v1 (wrap .i64 (v1+1)) (o112_0 x0.f2 (wrap .i64 ((wrap .i64 (v1+1))+1))))::q,w1,w2,w3,?_,by simp[e2],?_⟩
    · have e:set (p++x0::l) (toNat (p.length:Int)) (K_N.mk v1 (wrap .i64 (v1+1)) (o112_0 x0.f2 (wrap .i64 ((wrap .i64 (v1+1))+1))))=(p++ [(K_N.mk v1 (wrap .i64 (v1+1)) (o112_0 x0.f2 (wrap .i64 ((wrap .i64 (v1+1))+1))))])++l:=by simp
      have e0:((p++ [(K_N.mk v1 (wrap .i64 (v1+1)) (o112_0 x0.f2 (wrap .i64 ((wrap .i64 (v1+1))+1))))]).length:Int)=(p.length:Int)+1:=by simp
      rw[e0] at e1
      simp only[r83_0]
      first |(rw[e,e1]; simp; done) |(simp only[e,e1]; simp; done)
    · intro z hz
      rcases List.mem_cons.1 hz with rfl | hz
      · have hx:=h x0 (List.mem_cons_self ..)
        simp only[ok_N] at hx⊢
        simp only[length_map,ol112] at hx⊢
        first | exact hx |(simp_all [ol112]; done) |(obtain⟨_,_⟩:=hx; refine⟨?_,?_⟩<;>simp_all [ol112]; done) | exact(by first | exact hx |(simpa using hx))
      · exact e3 z hz

theorem ov83_0 (a0:List K_N):∀(l p:List K_N) (v1:Int),∃(q:List K_N) (w1:_) (w2:_) (w3:_),r83_0 a0 l (p.length:Int) (p++l) v1=.k0 (p++q) w1 w2 w3∧q.length=l.length
  |[],p,v1=>⟨[],v1,(p.length:Int),(decide ((p.length:Int) <((length (map d_N a0)):Int))),rfl,rfl⟩
  |x0::l,p,v1=>by
    obtain⟨q,w1,w2,w3,e1,e2⟩:=ov83_0 a0 l (p++ [(K_N.mk v1 (wrap .i64 (v1+1)) (o112_0 x0.f2 (wrap .i64 ((wrap .i64 (v1+1))+1))))]) (m112 x0.f2 (wrap .i64 ((wrap .i64 (v1+1))+1)))
    refine⟨(K_N.mk v1 (wrap .i64 (v1+1)) (o112_0 x0.f2 (wrap .i64 ((wrap .i64 (v1+1))+1))))::q,w1,w2,w3,?_,by simp[e2]⟩
    · have e:set (p++x0::l) (toNat (p.length:Int)) (K_N.mk v1 (wrap .i64 (v1+1)) (o112_0 x0.f2 (wrap .i64 ((wrap .i64 (v1+1))+1))))=(p++ [(K_N.mk v1 (wrap .i64 (v1+1)) (o112_0 x0.f2 (wrap .i64 ((wrap .i64 (v1+1))+1))))])++l:=by simp
      have e0:((p++ [(K_N.mk v1 (wrap .i64 (v1+1)) (o112_0 x0.f2 (wrap .i64 ((wrap .i64 (v1+1))+1))))]).length:Int)=(p.length:Int)+1:=by simp
      rw[e0] at e1
      simp only[r83_0]
      first |(rw[e,e1]; simp; done) |(simp only[e,e1]; simp; done)
theorem ol83 (a:List K_N) (k:Int):(o83_0 a k).length=a.length:=by
  obtain⟨q,w1,w2,w3,e1,e2⟩:=ov83_0 a a [] k
  simp only[List.nil_append,length_nil] at e1
  rw[show ((0:Nat):Int)=0 from rfl] at e1
  unfold o83_0
  rw[e1]; exact e2
theorem oo83 (a:List K_N) (k:Int) (h:∀z∈a,ok_N z):∀z∈o83_0 a k,ok_N z:=by
  obtain⟨q,w1,w2,w3,e1,e2,e3⟩:=ow83_0 a a [] k h
  simp only[List.nil_append,length_nil] at e1
  rw[show ((0:Nat):Int)=0 from rfl] at e1
  unfold o83_0
  rw[e1]; exact e3
/-! loop 84_0 -/
inductive O84_0 where
  |k0 (w0:List K_U) (w1:Int) (w2:Int) (w3:Bool)
def r84_0 (a0:(List K_U)):List K_U→Int→List K_U→Int→O84_0
  |x0::y0,i,v0,v1=>
    (r84_0 a0 y0 (i+1) (set v0 (toNat i) (K_U.mk v1 (o112_0 x0.f1 (wrap .i64 (v1+1))))) (m112 x0.f1 (wrap .i64 (v1+1))))
  |[],i,v0,v1=>(O84_0.k0 v0 v1 i (decide (i <((length (map d_U a0)):Int))))
def h84_0 (a0:(List K_U)) (a1:Int) (i:Int) (v0:List K_U) (v1:Int):St:=⟨[(0,(.one (.ref ⟨(0,0,0),[],0,(length (map d_U a0))⟩))),(1,(.one (.val (.int .i64 v1)))),(5,(.one (.val (.int .i64 i))))],[((0,0,0),.live ⟨2,(map d_U v0),[]⟩)]⟩
def ex84_0:O84_0→VX.Exit
  |.k0 _ _ _ _=>(.exit 0)
def fin84_0 (a0:(List K_U)) (a1:Int):O84_0→St
  |.k0 w0 w1 w2 w3=>⟨[(0,(.one (.ref ⟨(0,0,0),[],0,(length (map d_U a0))⟩))),(1,(.one (.val (.int .i64 w1)))),(5,(.one (.val (.int .i64 w2)))),(9,(.one (.val (.bool w3))))],[((0,0,0),.live ⟨2,(map d_U w0),[]⟩)]⟩
theorem t84_0 {a0:(List K_U)} {a1:Int} (hy0:length a0*32≤140737488351232) (hy1:∀z∈a0,ok_U z):∀(y0:List K_U) (p:List K_U) (v0:List K_U) (v1:Int),p++y0=a0→length v0=(length (map d_U a0))→drop (length p) v0=y0→Ev F X (.code l84_0 (h84_0 a0 a1 (length p:Int) v0 v1) (ex84_0 (r84_0 a0 y0 (length p:Int) v0 v1)) (fin84_0 a0 a1 (r84_0 a0 y0 (length p:Int) v0 v1)))
  |[],p,v0,v1,hp0,hi0,hi1=>by
    have hc:¬(decide ((length p:Int) <((length (map d_U a0)):Int)))=true:=by
      rw[← hp0]; simp only[LN,decide_eq_true_eq]; omega
    have hj0:=hi0; try simp only[LN,Int.toNat_natCast] at hj0
    have hj1:=hi1; try simp only[LN,Int.toNat_natCast] at hj1
    have st:=ch b84_0 (h84_0 a0 a1 (length p:Int) v0 v1) ⟨[(0,(.one (.ref ⟨(0,0,0),[],0,(length (map d_U a0))⟩))),(1,(.oi v1)),(5,(.oi (length p:Int))),(9,(.one (.val (.bool (decide ((length p:Int) <((length (map d_U a0)):Int)))))))],[((0,0,0),.live ⟨2,(map d_U v0),[]⟩)]⟩ (.exit 0) 9 (by kernel_rfl) (.f (nt hc) (.h 8 (.b false) .nil))
    rw[show (⟨[(0,(.one (.ref ⟨(0,0,0),[],0,(length (map d_U a0))⟩))),(1,(.oi v1)),(5,(.oi (length p:Int))),(9,(.one (.val (.bool (decide ((length p:Int) <((length (map d_U a0)):Int)))))))],[((0,0,0),.live ⟨2,(map d_U v0),[]⟩)]⟩:St)=fin84_0 a0 a1 (.k0 v0 v1 (length p:Int) (decide ((length p:Int) <((length (map d_U a0)):Int)))) from(by rfl)] at st
    exact .loopX st (show ((.exit 0):VX.Exit)≠.normal from by simp)
  |x0::y0,p,v0,v1,hp0,hi0,hi1=>by
    have hc:(decide ((length p:Int) <((length (map d_U a0)):Int)))=true:=by
      rw[← hp0]; simp only[LN,decide_eq_true_eq]; omega
    have Hx0:(a0)[toNat (length p:Int)]?=some x0:=by
      rw[← hp0,Int.toNat_natCast]; simp
    have Mx0_0:=hy1 x0 (List.mem_of_getElem? Hx0)
    have hlen:length (a0)=length p+length y0+1:=by rw[← hp0]; simp; omega
    have hw:wrap .i64 ((length p:Int)+1)=(length p:Int)+1:=wrap64 (by omega)
    have hj0:=hi0; try simp only[LN,Int.toNat_natCast] at hj0
    have hj1:=hi1; try simp only[LN,Int.toNat_natCast] at hj1
    have Hv0:v0[toNat (length p:Int)]?=some x0:=by rw[Int.toNat_natCast]; exact drop_at hi1
    simp only[r84_0]
    have f1:0+(length (map d_U a0))≤(length (map d_U v0)):=(by simp only[length_map]; omega)
    have f2:0≤(length p:Int)∧(length p:Int) <((length (map d_U a0)):Int):=(by omega)
    have f4:(set (map d_U v0) (0+(toNat (length p:Int))) [(.i v1),(.own 1 (map d_i x0.f1))])=(map d_U (set v0 (toNat (length p:Int)) (K_U.mk v1 x0.f1))):=(by simp[take_of_length_le,d_i,d_U,four_len,high4,high2,ol112,ol83]; done)
    have f6:0+(length (map d_U a0))≤(length (map d_U (set v0 (toNat (length p:Int)) (K_U.mk v1 x0.f1)))):=(by simp only[length_map,length_set]; omega)
    have f8:(map d_U (set v0 (toNat (length p:Int)) (K_U.mk v1 x0.f1)))[(0+(toNat (length p:Int)))]?=some [(.i v1),(.own 1 (map d_i x0.f1))]:=(by rw[Nat.zero_add,map_set,List.getElem?_set_self (by simp only[length_map]; omega)]; rfl)
    have f9:nav 2 (map d_U (set v0 (toNat (length p:Int)) (K_U.mk v1 x0.f1))) [((0+(toNat (length p:Int))),1)]=some (1,(map d_i x0.f1)):=(by simp only[nav];(rw[Nat.zero_add,map_set,List.getElem?_set_self (by simp only[length_map]; omega)]); rfl)
    have f12:undirt [((0+(toNat (length p:Int))),1)] [([((0+(toNat (length p:Int))),1)],false)]=[([((0+(toNat (length p:Int))),1)],true)]:=(by simp[undirt])
    have f13:(setCell (setCell (map d_U (set v0 (toNat (length p:Int)) (K_U.mk v1 x0.f1))) [((0+(toNat (length p:Int))),1)] (.hole (lenAt ⟨2,(map d_U (set v0 (toNat (length p:Int)) (K_U.mk v1 x0.f1))),[]⟩ [((0+(toNat (length p:Int))),1)]))) [((0+(toNat (length p:Int))),1)] (.own 1 (map d_i (o112_0 x0.f1 (wrap .i64 (v1+1))))))=(map d_U (set v0 (toNat (length p:Int)) (K_U.mk v1 (o112_0 x0.f1 (wrap .i64 (v1+1)))))):=(by rw[setCell2At (i:=(0+(toNat (length p:Int)))) (j:=1) (row:=[(.i v1),(.own 1 (map d_i x0.f1))]) (by rw[Nat.zero_add,map_set,List.getElem?_set_self (by simp only[length_map]; omega)]; rfl)]; first | rfl |(simp[take_of_length_le,d_i,d_N,d_U,d_T,d_J,d_b,d_G,d_JL,d_TL,d_LiE,d_NL,d_UL,d_y,d_LyE,d_LLyEE,four_len,high4,high2,ol112,ol83,byteRows_eq,ints_y]; done) |(simp[map_set,take_of_length_le,d_i,d_N,d_U,d_T,d_J,d_b,d_G,d_JL,d_TL,d_LiE,d_NL,d_UL,d_y,d_LyE,d_LLyEE,four_len,high4,high2,ol112,ol83,byteRows_eq,ints_y]; done))
    have st:=ch b84_0 (h84_0 a0 a1 (length p:Int) v0 v1) ⟨[(0,(.one (.ref ⟨(0,0,0),[],0,(length (map d_U a0))⟩))),(1,(.oi (m112 x0.f1 (wrap .i64 (v1+1))))),(5,(.oi (wrap .i64 ((length p:Int)+1))))],[((0,0,0),.live ⟨2,(map d_U (set v0 (toNat (length p:Int)) (K_U.mk v1 (o112_0 x0.f1 (wrap .i64 (v1+1)))))),[]⟩)]⟩ .normal 51 (by kernel_rfl) (.f hc (.f f1 (.f f2 (.f (mz_ d_U Hv0) (.f f4 (.f trivial (.f f6 (.f f2 (.f f8 (.f f9 (.f (pureR_i x0.f1) (.h 8 (.b true) (.h 20 (.rowD (d_U x0)) (.h 21 (.norm (0,0,0) (map d_U (set v0 (toNat (length p:Int)) (K_U.mk v1 x0.f1)))) (.h 37 (.rowD [(.i v1),(.own 1 (map d_i x0.f1))]) (.rn 41 [((0,0,0),[1],1,(map d_i x0.f1))] [[([((0+(toNat (length p:Int))),1)],true)]] [true] [] (e112 (a0:=x0.f1) (a1:=(wrap .i64 (v1+1))) (by assumption)) (.f f12 (.f f13 (.f trivial (.h 44 (.norm (0,0,0) (map d_U (set v0 (toNat (length p:Int)) (K_U.mk v1 (o112_0 x0.f1 (wrap .i64 (v1+1))))))) .nil))))))))))))))))))))
    have ih:=t84_0 (a0:=a0) (a1:=a1) hy0 hy1 y0 (p++ [x0]) (set v0 (toNat (length p:Int)) (K_U.mk v1 (o112_0 x0.f1 (wrap .i64 (v1+1))))) (m112 x0.f1 (wrap .i64 (v1+1))) (by rw[append_assoc]; exact hp0) (by simp only[LN]; omega) (by simp only[LN,Int.toNat_natCast]; first | exact drop_set_next hi1 _ | exact drop_next hi1)
    rw[show ((p++ [x0]).length:Int)=(p.length:Int)+1 from by simp] at ih
    rw[show (⟨[(0,(.one (.ref ⟨(0,0,0),[],0,(length (map d_U a0))⟩))),(1,(.oi (m112 x0.f1 (wrap .i64 (v1+1))))),(5,(.oi (wrap .i64 ((length p:Int)+1))))],[((0,0,0),.live ⟨2,(map d_U (set v0 (toNat (length p:Int)) (K_U.mk v1 (o112_0 x0.f1 (wrap .i64 (v1+1)))))),[]⟩)]⟩:St)=h84_0 a0 a1 ((length p:Int)+1) (set v0 (toNat (length p:Int)) (K_U.mk v1 (o112_0 x0.f1 (wrap .i64 (v1+1))))) (m112 x0.f1 (wrap .i64 (v1+1))) from(by unfold h84_0; simp only[hw]; done)] at st
    exact .loopN st ih
def post84_0 (n0:Nat):O84_0→Prop
  |.k0 w0 _ _ _=>length w0=n0
theorem z84_0 {a0:(List K_U)}:∀(y0:List K_U) (i:Int) (v0:List K_U) (v1:Int),post84_0 (length v0) (r84_0 a0 y0 i v0 v1)
  |[],i,v0,v1=>by
    first | trivial |(simp only[post84_0,length_nil,Nat.add_zero]; done) |(simp[post84_0]; done)
  |x0::y0,i,v0,v1=>by
    simp only[r84_0]
    have z:=z84_0 (a0:=a0) y0 (i+1) (set v0 (toNat i) (K_U.mk v1 (o112_0 x0.f1 (wrap .i64 (v1+1))))) (m112 x0.f1 (wrap .i64 (v1+1)))
    rw[show (length v0)=(length (set v0 (toNat i) (K_U.mk v1 (o112_0 x0.f1 (wrap .i64 (v1+1)))))) from by first | omega |(simp only[LN]; done) |(simp only[LN]; omega)]
    exact z
/-! loop.example/g00539/laws.markOutS -/
def o84_0 (a0:(List K_U)) (a1:Int):List K_U:=
  (match r84_0 a0 a0 0 a0 a1 with | .k0 w0_0 w1_0 w2_0 w3_0=>w0_0)
def m84 (a0:(List K_U)) (a1:Int):Int:=
  (match r84_0 a0 a0 0 a0 a1 with | .k0 w0_0 w1_0 w2_0 w3_0=>w1_0)
theorem e84 {a0:(List K_U)} {a1:Int} (hy0:length a0*32≤140737488351232) (hy1:∀z∈a0,ok_U z):Ev F X (.call 84 [(.one (.ref ⟨(0,0,0),[],0,(length (map d_U a0))⟩)),(.one (.val (.int .i64 a1)))] [((0,0,0),⟨2,(map d_U a0),[]⟩)] [(map d_U (o84_0 a0 a1))] [(.one (.val (.int .i64 (m84 a0 a1))))]):=by
  unfold m84 o84_0
  cases h0:r84_0 a0 a0 0 a0 a1 with
  |k0 w0_0 w1_0 w2_0 w3_0=>
    try dsimp only
    have zh0:=z84_0 (a0:=a0) a0 0 a0 a1; rw[h0] at zh0; simp only[post84_0,length_map,length_set,length_append,length_replicate,length_cons,length_nil,Int.toNat_natCast] at zh0
    have f0:(⟨[(0,(.one (.ref ⟨(0,0,0),[],0,(length (map d_U a0))⟩))),(1,(.oi a1)),(5,(.oi 0))],[((0,0,0),.live ⟨2,(map d_U a0),[]⟩)]⟩:St)=h84_0 a0 a1 0 a0 a1:=yf
    exact cq [true] ya (.f f0 (.f (ev_ (e:=ex84_0) (g:=(fin84_0 a0 a1)) h0 (t84_0 (a0:=a0) (a1:=a1) (by assumption) (by assumption) a0 [] a0 a1 rfl yK yf)) (.f (pureR_U w0_0) (.h 4 (.loop (h84_0 a0 a1 0 a0 a1) (.exit 0) ⟨[(0,(.one (.ref ⟨(0,0,0),[],0,(length (map d_U a0))⟩))),(1,(.oi w1_0)),(5,(.oi w2_0)),(9,(.one (.val (.bool w3_0))))],[((0,0,0),.live ⟨2,(map d_U w0_0),[]⟩)]⟩) .nil))))
theorem ow84_0 (a0:List K_U):∀(l p:List K_U) (v1:Int),(∀z∈l,ok_U z)→∃(q:List K_U) (w1:_) (w2:_) (w3:_),r84_0 a0 l (p.length:Int) (p++l) v1=.k0 (p++q) w1 w2 w3∧q.length=l.length∧∀z∈q,ok_U z
  |[],p,v1,_=>⟨[],v1,(p.length:Int),(decide ((p.length:Int) <((length (map d_U a0)):Int))),rfl,rfl,fun z h=>by cases h⟩
  |x0::l,p,v1,h=>by
    obtain⟨q,w1,w2,w3,e1,e2,e3⟩:=ow84_0 a0 l (p++ [(K_U.mk v1 (o112_0 x0.f1 (wrap .i64 (v1+1))))]) (m112 x0.f1 (wrap .i64 (v1+1))) (fun z hz=>h z (List.mem_cons_of_mem _ hz))
    refine⟨(K_U.mk v1 (o112_0 x0.f1 (wrap .i64 (v1+1))))::q,w1,w2,w3,?_,by simp[e2],?_⟩
    · have e:set (p++x0::l) (toNat (p.length:Int)) (K_U.mk v1 (o112_0 x0.f1 (wrap .i64 (v1+1))))=(p++ [(K_U.mk v1 (o112_0 x0.f1 (wrap .i64 (v1+1))))])++l:=by simp
      have e0:((p++ [(K_U.mk v1 (o112_0 x0.f1 (wrap .i64 (v1+1))))]).length:Int)=(p.length:Int)+1:=by simp
      rw[e0] at e1
      simp only[r84_0]
      first |(rw[e,e1]; simp; done) |(simp only[e,e1]; simp; done)
    · intro z hz
      rcases List.mem_cons.1 hz with rfl | hz
      · have hx:=h x0 (List.mem_cons_self ..)
        simp only[ok_U] at hx⊢
        simp only[length_map,ol112] at hx⊢
        first | exact hx |(simp_all [ol112]; done) |(obtain⟨_,_⟩:=hx; refine⟨?_,?_⟩<;>simp_all [ol112]; done) | exact(by first | exact hx |(simpa using hx))
      · exact e3 z hz

theorem ov84_0 (a0:List K_U):∀(l p:List K_U) (v1:Int),∃(q:List K_U) (w1:_) (w2:_) (w3:_),r84_0 a0 l (p.length:Int) (p++l) v1=.k0 (p++q) w1 w2 w3∧q.length=l.length
  |[],p,v1=>⟨[],v1,(p.length:Int),(decide ((p.length:Int) <((length (map d_U a0)):Int))),rfl,rfl⟩
  |x0::l,p,v1=>by
    obtain⟨q,w1,w2,w3,e1,e2⟩:=ov84_0 a0 l (p++ [(K_U.mk v1 (o112_0 x0.f1 (wrap .i64 (v1+1))))]) (m112 x0.f1 (wrap .i64 (v1+1)))
    refine⟨(K_U.mk v1 (o112_0 x0.f1 (wrap .i64 (v1+1))))::q,w1,w2,w3,?_,by simp[e2]⟩
    · have e:set (p++x0::l) (toNat (p.length:Int)) (K_U.mk v1 (o112_0 x0.f1 (wrap .i64 (v1+1))))=(p++ [(K_U.mk v1 (o112_0 x0.f1 (wrap .i64 (v1+1))))])++l:=by simp
      have e0:((p++ [(K_U.mk v1 (o112_0 x0.f1 (wrap .i64 (v1+1))))]).length:Int)=(p.length:Int)+1:=by simp
      rw[e0] at e1
      simp only[r84_0]
      first |(rw[e,e1]; simp; done) |(simp only[e,e1]; simp; done)
theorem ol84 (a:List K_U) (k:Int):(o84_0 a k).length=a.length:=by
  obtain⟨q,w1,w2,w3,e1,e2⟩:=ov84_0 a a [] k
  simp only[List.nil_append,length_nil] at e1
  rw[show ((0:Nat):Int)=0 from rfl] at e1
  unfold o84_0
  rw[e1]; exact e2
theorem oo84 (a:List K_U) (k:Int) (h:∀z∈a,ok_U z):∀z∈o84_0 a k,ok_U z:=by
  obtain⟨q,w1,w2,w3,e1,e2,e3⟩:=ow84_0 a a [] k h
  simp only[List.nil_append,length_nil] at e1
  rw[show ((0:Nat):Int)=0 from rfl] at e1
  unfold o84_0
  rw[e1]; exact e3
/-! loop 51_0 -/
inductive O51_0 where
  |k0 (w0:List K_T) (w1:Int) (w2:Int) (w3:Bool)
def r51_0 (a0:(List K_T)):List K_T→Int→List K_T→Int→O51_0
  |x0::y0,i,v0,v1=>
    (r51_0 a0 y0 (i+1) (set v0 (toNat i) (K_T.mk v1 (o83_0 x0.f1 (wrap .i64 (v1+1))) (o84_0 x0.f2 (m83 x0.f1 (wrap .i64 (v1+1)))))) (m84 x0.f2 (m83 x0.f1 (wrap .i64 (v1+1)))))
  |[],i,v0,v1=>(O51_0.k0 v0 v1 i (decide (i <((length (map d_T a0)):Int))))
def h51_0 (a0:(List K_T)) (a1:Int) (i:Int) (v0:List K_T) (v1:Int):St:=⟨[(0,(.one (.ref ⟨(0,0,0),[],0,(length (map d_T a0))⟩))),(1,(.one (.val (.int .i64 v1)))),(5,(.one (.val (.int .i64 i))))],[((0,0,0),.live ⟨3,(map d_T v0),[]⟩)]⟩
def ex51_0:O51_0→VX.Exit
  |.k0 _ _ _ _=>(.exit 0)
def fin51_0 (a0:(List K_T)) (a1:Int):O51_0→St
  |.k0 w0 w1 w2 w3=>⟨[(0,(.one (.ref ⟨(0,0,0),[],0,(length (map d_T a0))⟩))),(1,(.one (.val (.int .i64 w1)))),(5,(.one (.val (.int .i64 w2)))),(9,(.one (.val (.bool w3))))],[((0,0,0),.live ⟨3,(map d_T w0),[]⟩)]⟩
theorem t51_0 {a0:(List K_T)} {a1:Int} (hy0:length a0*56≤140737488351232) (hy1:∀z∈a0,ok_T z):∀(y0:List K_T) (p:List K_T) (v0:List K_T) (v1:Int),p++y0=a0→length v0=(length (map d_T a0))→drop (length p) v0=y0→Ev F X (.code l51_0 (h51_0 a0 a1 (length p:Int) v0 v1) (ex51_0 (r51_0 a0 y0 (length p:Int) v0 v1)) (fin51_0 a0 a1 (r51_0 a0 y0 (length p:Int) v0 v1)))
  |[],p,v0,v1,hp0,hi0,hi1=>by
    have hc:¬(decide ((length p:Int) <((length (map d_T a0)):Int)))=true:=by
      rw[← hp0]; simp only[LN,decide_eq_true_eq]; omega
    have hj0:=hi0; try simp only[LN,Int.toNat_natCast] at hj0
    have hj1:=hi1; try simp only[LN,Int.toNat_natCast] at hj1
    have st:=ch b51_0 (h51_0 a0 a1 (length p:Int) v0 v1) ⟨[(0,(.one (.ref ⟨(0,0,0),[],0,(length (map d_T a0))⟩))),(1,(.oi v1)),(5,(.oi (length p:Int))),(9,(.one (.val (.bool (decide ((length p:Int) <((length (map d_T a0)):Int)))))))],[((0,0,0),.live ⟨3,(map d_T v0),[]⟩)]⟩ (.exit 0) 9 (by kernel_rfl) (.f (nt hc) (.h 8 (.b false) .nil))
    rw[show (⟨[(0,(.one (.ref ⟨(0,0,0),[],0,(length (map d_T a0))⟩))),(1,(.oi v1)),(5,(.oi (length p:Int))),(9,(.one (.val (.bool (decide ((length p:Int) <((length (map d_T a0)):Int)))))))],[((0,0,0),.live ⟨3,(map d_T v0),[]⟩)]⟩:St)=fin51_0 a0 a1 (.k0 v0 v1 (length p:Int) (decide ((length p:Int) <((length (map d_T a0)):Int)))) from(by rfl)] at st
    exact .loopX st (show ((.exit 0):VX.Exit)≠.normal from by simp)
  |x0::y0,p,v0,v1,hp0,hi0,hi1=>by
    have hc:(decide ((length p:Int) <((length (map d_T a0)):Int)))=true:=by
      rw[← hp0]; simp only[LN,decide_eq_true_eq]; omega
    have Hx0:(a0)[toNat (length p:Int)]?=some x0:=by
      rw[← hp0,Int.toNat_natCast]; simp
    obtain⟨Mx0_0,Mx0_1,Mx0_2,Mx0_3⟩:=hy1 x0 (List.mem_of_getElem? Hx0)
    have hlen:length (a0)=length p+length y0+1:=by rw[← hp0]; simp; omega
    have hw:wrap .i64 ((length p:Int)+1)=(length p:Int)+1:=wrap64 (by omega)
    have hj0:=hi0; try simp only[LN,Int.toNat_natCast] at hj0
    have hj1:=hi1; try simp only[LN,Int.toNat_natCast] at hj1
    have Hv0:v0[toNat (length p:Int)]?=some x0:=by rw[Int.toNat_natCast]; exact drop_at hi1
    simp only[r51_0]
    have f1:0+(length (map d_T a0))≤(length (map d_T v0)):=(by simp only[length_map]; omega)
    have f2:0≤(length p:Int)∧(length p:Int) <((length (map d_T a0)):Int):=(by omega)
    have f4:(set (map d_T v0) (0+(toNat (length p:Int))) [(.i v1),(.own 3 (map d_N x0.f1)),(.own 2 (map d_U x0.f2))])=(map d_T (set v0 (toNat (length p:Int)) (K_T.mk v1 x0.f1 x0.f2))):=(by simp[take_of_length_le,d_N,d_U,d_T,four_len,high4,high2,ol112,ol83,ol84]; done)
    have f6:0+(length (map d_T a0))≤(length (map d_T (set v0 (toNat (length p:Int)) (K_T.mk v1 x0.f1 x0.f2)))):=(by simp only[length_map,length_set]; omega)
    have f8:(map d_T (set v0 (toNat (length p:Int)) (K_T.mk v1 x0.f1 x0.f2)))[(0+(toNat (length p:Int)))]?=some [(.i v1),(.own 3 (map d_N x0.f1)),(.own 2 (map d_U x0.f2))]:=(by rw[Nat.zero_add,map_set,List.getElem?_set_self (by simp only[length_map]; omega)]; rfl)
    have f9:nav 3 (map d_T (set v0 (toNat (length p:Int)) (K_T.mk v1 x0.f1 x0.f2))) [((0+(toNat (length p:Int))),1)]=some (3,(map d_N x0.f1)):=(by simp only[nav];(rw[Nat.zero_add,map_set,List.getElem?_set_self (by simp only[length_map]; omega)]); rfl)
    have f12:undirt [((0+(toNat (length p:Int))),1)] [([((0+(toNat (length p:Int))),1)],false)]=[([((0+(toNat (length p:Int))),1)],true)]:=(by simp[undirt])
    have f13:(setCell (setCell (map d_T (set v0 (toNat (length p:Int)) (K_T.mk v1 x0.f1 x0.f2))) [((0+(toNat (length p:Int))),1)] (.hole (lenAt ⟨3,(map d_T (set v0 (toNat (length p:Int)) (K_T.mk v1 x0.f1 x0.f2))),[]⟩ [((0+(toNat (length p:Int))),1)]))) [((0+(toNat (length p:Int))),1)] (.own 3 (map d_N (o83_0 x0.f1 (wrap .i64 (v1+1))))))=(map d_T (set v0 (toNat (length p:Int)) (K_T.mk v1 (o83_0 x0.f1 (wrap .i64 (v1+1))) x0.f2))):=(by rw[setCell2At (i:=(0+(toNat (length p:Int)))) (j:=1) (row:=[(.i v1),(.own 3 (map d_N x0.f1)),(.own 2 (map d_U x0.f2))]) (by rw[Nat.zero_add,map_set,List.getElem?_set_self (by simp only[length_map]; omega)]; rfl)]; first | rfl |(simp[take_of_length_le,d_i,d_N,d_U,d_T,d_J,d_b,d_G,d_JL,d_TL,d_LiE,d_NL,d_UL,d_y,d_LyE,d_LLyEE,four_len,high4,high2,ol112,ol83,ol84,byteRows_eq,ints_y]; done) |(simp[map_set,take_of_length_le,d_i,d_N,d_U,d_T,d_J,d_b,d_G,d_JL,d_TL,d_LiE,d_NL,d_UL,d_y,d_LyE,d_LLyEE,four_len,high4,high2,ol112,ol83,ol84,byteRows_eq,ints_y]; done))
    have f14:0+(length (map d_T a0))≤(length (map d_T (set v0 (toNat (length p:Int)) (K_T.mk v1 (o83_0 x0.f1 (wrap .i64 (v1+1))) x0.f2)))):=(by simp only[length_map,length_set]; omega)
    have f16:(map d_T (set v0 (toNat (length p:Int)) (K_T.mk v1 (o83_0 x0.f1 (wrap .i64 (v1+1))) x0.f2)))[(0+(toNat (length p:Int)))]?=some [(.i v1),(.own 3 (map d_N (o83_0 x0.f1 (wrap .i64 (v1+1))))),(.own 2 (map d_U x0.f2))]:=(by rw[Nat.zero_add,map_set,List.getElem?_set_self (by simp only[length_map]; omega)]; rfl)
    have f17:nav 3 (map d_T (set v0 (toNat (length p:Int)) (K_T.mk v1 (o83_0 x0.f1 (wrap .i64 (v1+1))) x0.f2))) [((0+(toNat (length p:Int))),2)]=some (2,(map d_U x0.f2)):=(by simp only[nav];(rw[Nat.zero_add,map_set,List.getElem?_set_self (by simp only[length_map]; omega)]); rfl)
    have f20:undirt [((0+(toNat (length p:Int))),2)] [([((0+(toNat (length p:Int))),2)],false)]=[([((0+(toNat (length p:Int))),2)],true)]:=(by simp[undirt])
    have f21:(setCell (setCell (map d_T (set v0 (toNat (length p:Int)) (K_T.mk v1 (o83_0 x0.f1 (wrap .i64 (v1+1))) x0.f2))) [((0+(toNat (length p:Int))),2)] (.hole (lenAt ⟨3,(map d_T (set v0 (toNat (length p:Int)) (K_T.mk v1 (o83_0 x0.f1 (wrap .i64 (v1+1))) x0.f2))),[]⟩ [((0+(toNat (length p:Int))),2)]))) [((0+(toNat (length p:Int))),2)] (.own 2 (map d_U (o84_0 x0.f2 (m83 x0.f1 (wrap .i64 (v1+1)))))))=(map d_T (set v0 (toNat (length p:Int)) (K_T.mk v1 (o83_0 x0.f1 (wrap .i64 (v1+1))) (o84_0 x0.f2 (m83 x0.f1 (wrap .i64 (v1+1))))))):=(by rw[setCell2At (i:=(0+(toNat (length p:Int)))) (j:=2) (row:=[(.i v1),(.own 3 (map d_N (o83_0 x0.f1 (wrap .i64 (v1+1))))),(.own 2 (map d_U x0.f2))]) (by rw[Nat.zero_add,map_set,List.getElem?_set_self (by simp only[length_map]; omega)]; rfl)]; first | rfl |(simp[take_of_length_le,d_i,d_N,d_U,d_T,d_J,d_b,d_G,d_JL,d_TL,d_LiE,d_NL,d_UL,d_y,d_LyE,d_LLyEE,four_len,high4,high2,ol112,ol83,ol84,byteRows_eq,ints_y]; done) |(simp[map_set,take_of_length_le,d_i,d_N,d_U,d_T,d_J,d_b,d_G,d_JL,d_TL,d_LiE,d_NL,d_UL,d_y,d_LyE,d_LLyEE,four_len,high4,high2,ol112,ol83,ol84,byteRows_eq,ints_y]; done))
    have st:=ch b51_0 (h51_0 a0 a1 (length p:Int) v0 v1) ⟨[(0,(.one (.ref ⟨(0,0,0),[],0,(length (map d_T a0))⟩))),(1,(.oi (m84 x0.f2 (m83 x0.f1 (wrap .i64 (v1+1)))))),(5,(.oi (wrap .i64 ((length p:Int)+1))))],[((0,0,0),.live ⟨3,(map d_T (set v0 (toNat (length p:Int)) (K_T.mk v1 (o83_0 x0.f1 (wrap .i64 (v1+1))) (o84_0 x0.f2 (m83 x0.f1 (wrap .i64 (v1+1))))))),[]⟩)]⟩ .normal 68 (by kernel_rfl) (.f hc (.f f1 (.f f2 (.f (mz_ d_T Hv0) (.f f4 (.f trivial (.f f6 (.f f2 (.f f8 (.f f9 (.f (pureR_N x0.f1) (.h 8 (.b true) (.h 20 (.rowD (d_T x0)) (.h 21 (.norm (0,0,0) (map d_T (set v0 (toNat (length p:Int)) (K_T.mk v1 x0.f1 x0.f2)))) (.h 37 (.rowD [(.i v1),(.own 3 (map d_N x0.f1)),(.own 2 (map d_U x0.f2))]) (.rn 41 [((0,0,0),[1],3,(map d_N x0.f1))] [[([((0+(toNat (length p:Int))),1)],true)]] [true] [] (e83 (a0:=x0.f1) (a1:=(wrap .i64 (v1+1))) ‹_› ‹_›) (.f f12 (.f f13 (.f f14 (.f f2 (.f f16 (.f f17 (.f (pureR_U x0.f2) (.h 44 (.norm (0,0,0) (map d_T (set v0 (toNat (length p:Int)) (K_T.mk v1 (o83_0 x0.f1 (wrap .i64 (v1+1))) x0.f2)))) (.h 54 (.rowD [(.i v1),(.own 3 (map d_N (o83_0 x0.f1 (wrap .i64 (v1+1))))),(.own 2 (map d_U x0.f2))]) (.rn 58 [((0,0,0),[2],2,(map d_U x0.f2))] [[([((0+(toNat (length p:Int))),2)],true)]] [true] [] (e84 (a0:=x0.f2) (a1:=(m83 x0.f1 (wrap .i64 (v1+1)))) ‹_› ‹_›) (.f f20 (.f f21 (.f trivial (.h 61 (.norm (0,0,0) (map d_T (set v0 (toNat (length p:Int)) (K_T.mk v1 (o83_0 x0.f1 (wrap .i64 (v1+1))) (o84_0 x0.f2 (m83 x0.f1 (wrap .i64 (v1+1)))))))) .nil))))))))))))))))))))))))))))))
    have ih:=t51_0 (a0:=a0) (a1:=a1) hy0 hy1 y0 (p++ [x0]) (set v0 (toNat (length p:Int)) (K_T.mk v1 (o83_0 x0.f1 (wrap .i64 (v1+1))) (o84_0 x0.f2 (m83 x0.f1 (wrap .i64 (v1+1)))))) (m84 x0.f2 (m83 x0.f1 (wrap .i64 (v1+1)))) (by rw[append_assoc]; exact hp0) (by simp only[LN]; omega) (by simp only[LN,Int.toNat_natCast]; first | exact drop_set_next hi1 _ | exact drop_next hi1)
    rw[show ((p++ [x0]).length:Int)=(p.length:Int)+1 from by simp] at ih
    rw[show (⟨[(0,(.one (.ref ⟨(0,0,0),[],0,(length (map d_T a0))⟩))),(1,(.oi (m84 x0.f2 (m83 x0.f1 (wrap .i64 (v1+1)))))),(5,(.oi (wrap .i64 ((length p:Int)+1))))],[((0,0,0),.live ⟨3,(map d_T (set v0 (toNat (length p:Int)) (K_T.mk v1 (o83_0 x0.f1 (wrap .i64 (v1+1))) (o84_0 x0.f2 (m83 x0.f1 (wrap .i64 (v1+1))))))),[]⟩)]⟩:St)=h51_0 a0 a1 ((length p:Int)+1) (set v0 (toNat (length p:Int)) (K_T.mk v1 (o83_0 x0.f1 (wrap .i64 (v1+1))) (o84_0 x0.f2 (m83 x0.f1 (wrap .i64 (v1+1)))))) (m84 x0.f2 (m83 x0.f1 (wrap .i64 (v1+1)))) from(by unfold h51_0; simp only[hw]; done)] at st
    exact .loopN st ih
def post51_0 (n0:Nat):O51_0→Prop
  |.k0 w0 _ _ _=>length w0=n0
theorem z51_0 {a0:(List K_T)}:∀(y0:List K_T) (i:Int) (v0:List K_T) (v1:Int),post51_0 (length v0) (r51_0 a0 y0 i v0 v1)
  |[],i,v0,v1=>by
    first | trivial |(simp only[post51_0,length_nil,Nat.add_zero]; done) |(simp[post51_0]; done)
  |x0::y0,i,v0,v1=>by
    simp only[r51_0]
    have z:=z51_0 (a0:=a0) y0 (i+1) (set v0 (toNat i) (K_T.mk v1 (o83_0 x0.f1 (wrap .i64 (v1+1))) (o84_0 x0.f2 (m83 x0.f1 (wrap .i64 (v1+1)))))) (m84 x0.f2 (m83 x0.f1 (wrap .i64 (v1+1))))
    rw[show (length v0)=(length (set v0 (toNat i) (K_T.mk v1 (o83_0 x0.f1 (wrap .i64 (v1+1))) (o84_0 x0.f2 (m83 x0.f1 (wrap .i64 (v1+1))))))) from by first | omega |(simp only[LN]; done) |(simp only[LN]; omega)]
    exact z
/-! loop.example/g00539/laws.markTxS -/
def o51_0 (a0:(List K_T)) (a1:Int):List K_T:=
  (match r51_0 a0 a0 0 a0 a1 with | .k0 w0_0 w1_0 w2_0 w3_0=>w0_0)
def m51 (a0:(List K_T)) (a1:Int):Int:=
  (match r51_0 a0 a0 0 a0 a1 with | .k0 w0_0 w1_0 w2_0 w3_0=>w1_0)
theorem e51 {a0:(List K_T)} {a1:Int} (hy0:length a0*56≤140737488351232) (hy1:∀z∈a0,ok_T z):Ev F X (.call 51 [(.one (.ref ⟨(0,0,0),[],0,(length (map d_T a0))⟩)),(.one (.val (.int .i64 a1)))] [((0,0,0),⟨3,(map d_T a0),[]⟩)] [(map d_T (o51_0 a0 a1))] [(.one (.val (.int .i64 (m51 a0 a1))))]):=by
  unfold m51 o51_0
  cases h0:r51_0 a0 a0 0 a0 a1 with
  |k0 w0_0 w1_0 w2_0 w3_0=>
    try dsimp only
    have zh0:=z51_0 (a0:=a0) a0 0 a0 a1; rw[h0] at zh0; simp only[post51_0,length_map,length_set,length_append,length_replicate,length_cons,length_nil,Int.toNat_natCast] at zh0
    have f0:(⟨[(0,(.one (.ref ⟨(0,0,0),[],0,(length (map d_T a0))⟩))),(1,(.oi a1)),(5,(.oi 0))],[((0,0,0),.live ⟨3,(map d_T a0),[]⟩)]⟩:St)=h51_0 a0 a1 0 a0 a1:=yf
    exact cq [true] ya (.f f0 (.f (ev_ (e:=ex51_0) (g:=(fin51_0 a0 a1)) h0 (t51_0 (a0:=a0) (a1:=a1) (by assumption) (by assumption) a0 [] a0 a1 rfl yK yf)) (.f (pureR_T w0_0) (.h 4 (.loop (h51_0 a0 a1 0 a0 a1) (.exit 0) ⟨[(0,(.one (.ref ⟨(0,0,0),[],0,(length (map d_T a0))⟩))),(1,(.oi w1_0)),(5,(.oi w2_0)),(9,(.one (.val (.bool w3_0))))],[((0,0,0),.live ⟨3,(map d_T w0_0),[]⟩)]⟩) .nil))))
theorem ow51_0 (a0:List K_T):∀(l p:List K_T) (v1:Int),(∀z∈l,ok_T z)→∃(q:List K_T) (w1:_) (w2:_) (w3:_),r51_0 a0 l (p.length:Int) (p++l) v1=.k0 (p++q) w1 w2 w3∧q.length=l.length∧∀z∈q,ok_T z
  |[],p,v1,_=>⟨[],v1,(p.length:Int),(decide ((p.length:Int) <((length (map d_T a0)):Int))),rfl,rfl,fun z h=>by cases h⟩
  |x0::l,p,v1,h=>by
    obtain⟨q,w1,w2,w3,e1,e2,e3⟩:=ow51_0 a0 l (p++ [(K_T.mk v1 (o83_0 x0.f1 (wrap .i64 (v1+1))) (o84_0 x0.f2 (m83 x0.f1 (wrap .i64 (v1+1)))))]) (m84 x0.f2 (m83 x0.f1 (wrap .i64 (v1+1)))) (fun z hz=>h z (List.mem_cons_of_mem _ hz))
    refine⟨(K_T.mk v1 (o83_0 x0.f1 (wrap .i64 (v1+1))) (o84_0 x0.f2 (m83 x0.f1 (wrap .i64 (v1+1)))))::q,w1,w2,w3,?_,by simp[e2],?_⟩
    · have e:set (p++x0::l) (toNat (p.length:Int)) (K_T.mk v1 (o83_0 x0.f1 (wrap .i64 (v1+1))) (o84_0 x0.f2 (m83 x0.f1 (wrap .i64 (v1+1)))))=(p++ [(K_T.mk v1 (o83_0 x0.f1 (wrap .i64 (v1+1))) (o84_0 x0.f2 (m83 x0.f1 (wrap .i64 (v1+1)))))])++l:=by simp
      have e0:((p++ [(K_T.mk v1 (o83_0 x0.f1 (wrap .i64 (v1+1))) (o84_0 x0.f2 (m83 x0.f1 (wrap .i64 (v1+1)))))]).length:Int)=(p.length:Int)+1:=by simp
      rw[e0] at e1
      simp only[r51_0]
      first |(rw[e,e1]; simp; done) |(simp only[e,e1]; simp; done)
    · intro z hz
      rcases List.mem_cons.1 hz with rfl | hz
      · have hx:=h x0 (List.mem_cons_self ..)
        simp only[ok_T] at hx⊢
        simp only[length_map,ol83,ol84,oo83,oo84] at hx⊢
        first | exact hx |(simp_all [ol83,ol84,oo83,oo84]; done) |(obtain⟨_,_⟩:=hx; refine⟨?_,?_⟩<;>simp_all [ol83,ol84,oo83,oo84]; done) | exact⟨(by exact hx.1),(by exact oo83 _ _ hx.2.1),(by exact hx.2.2.1),(by exact oo84 _ _ hx.2.2.2)⟩
      · exact e3 z hz

theorem ov51_0 (a0:List K_T):∀(l p:List K_T) (v1:Int),∃(q:List K_T) (w1:_) (w2:_) (w3:_),r51_0 a0 l (p.length:Int) (p++l) v1=.k0 (p++q) w1 w2 w3∧q.length=l.length
  |[],p,v1=>⟨[],v1,(p.length:Int),(decide ((p.length:Int) <((length (map d_T a0)):Int))),rfl,rfl⟩
  |x0::l,p,v1=>by
    obtain⟨q,w1,w2,w3,e1,e2⟩:=ov51_0 a0 l (p++ [(K_T.mk v1 (o83_0 x0.f1 (wrap .i64 (v1+1))) (o84_0 x0.f2 (m83 x0.f1 (wrap .i64 (v1+1)))))]) (m84 x0.f2 (m83 x0.f1 (wrap .i64 (v1+1))))
    refine⟨(K_T.mk v1 (o83_0 x0.f1 (wrap .i64 (v1+1))) (o84_0 x0.f2 (m83 x0.f1 (wrap .i64 (v1+1)))))::q,w1,w2,w3,?_,by simp[e2]⟩
    · have e:set (p++x0::l) (toNat (p.length:Int)) (K_T.mk v1 (o83_0 x0.f1 (wrap .i64 (v1+1))) (o84_0 x0.f2 (m83 x0.f1 (wrap .i64 (v1+1)))))=(p++ [(K_T.mk v1 (o83_0 x0.f1 (wrap .i64 (v1+1))) (o84_0 x0.f2 (m83 x0.f1 (wrap .i64 (v1+1)))))])++l:=by simp
      have e0:((p++ [(K_T.mk v1 (o83_0 x0.f1 (wrap .i64 (v1+1))) (o84_0 x0.f2 (m83 x0.f1 (wrap .i64 (v1+1)))))]).length:Int)=(p.length:Int)+1:=by simp
      rw[e0] at e1
      simp only[r51_0]
      first |(rw[e,e1]; simp; done) |(simp only[e,e1]; simp; done)
theorem ol51 (a:List K_T) (k:Int):(o51_0 a k).length=a.length:=by
  obtain⟨q,w1,w2,w3,e1,e2⟩:=ov51_0 a a [] k
  simp only[List.nil_append,length_nil] at e1
  rw[show ((0:Nat):Int)=0 from rfl] at e1
  unfold o51_0
  rw[e1]; exact e2
theorem oo51 (a:List K_T) (k:Int) (h:∀z∈a,ok_T z):∀z∈o51_0 a k,ok_T z:=by
  obtain⟨q,w1,w2,w3,e1,e2,e3⟩:=ow51_0 a a [] k h
  simp only[List.nil_append,length_nil] at e1
  rw[show ((0:Nat):Int)=0 from rfl] at e1
  unfold o51_0
  rw[e1]; exact e3
/-! loop.example/g00539/laws.markBlock -/
def o45_0 (a0:K_G) (a1:Int):List K_T:=
  (o51_0 a0.f4 a1)
def m45 (a0:K_G) (a1:Int):Int:=
  (m51 a0.f4 a1)
theorem e45 {a0:K_G} {a1:Int} (hy0:length a0.f4*56≤140737488351232) (hy1:∀z∈a0.f4,ok_T z):Ev F X (.call 45 [(.agg [(.val (.int .i64 a0.f0)),(.val (.int .i64 a0.f1)),(.val (.int .i64 a0.f2)),(.val (.int .i64 a0.f3)),(.ref ⟨(0,0,0),[],0,(length (map d_T a0.f4))⟩)]),(.one (.val (.int .i64 a1)))] [((0,0,0),⟨3,(map d_T a0.f4),[]⟩)] [(map d_T (o45_0 a0 a1))] [(.one (.val (.int .i64 (m45 a0 a1))))]):=by
  exact cq [true] ya (pe 0 (pe (length (map d_T a0.f4)) (.f (pureR_T a0.f4) (.r 11 [true] [] (e51 (a0:=a0.f4) (a1:=a1) ‹_› ‹_›) (.f (pureR_T (o51_0 a0.f4 a1)) .nil)))))
theorem ol45_0 (a:K_G) (k:Int):(o45_0 a k).length=length a.f4:=by
  unfold o45_0
  simp[ol51]
/-! loop.example/g00539/laws.markJob -/
def o12_0 (a0:K_J) (a1:Int):List K_T:=
  (o45_0 (K_G.mk a0.f1 a0.f2 a0.f3 a0.f4 a0.f5) a1)
def m12 (a0:K_J) (a1:Int):Int:=
  (m45 (K_G.mk a0.f1 a0.f2 a0.f3 a0.f4 a0.f5) a1)
theorem e12 {a0:K_J} {a1:Int} (hy0:length a0.f5*56≤140737488351232) (hy1:∀z∈a0.f5,ok_T z):Ev F X (.call 12 [(.agg [(.val (.int .i64 a0.f0)),(.val (.int .i64 a0.f1)),(.val (.int .i64 a0.f2)),(.val (.int .i64 a0.f3)),(.val (.int .i64 a0.f4)),(.ref ⟨(0,0,0),[],0,(length (map d_T a0.f5))⟩)]),(.one (.val (.int .i64 a1)))] [((0,0,0),⟨3,(map d_T a0.f5),[]⟩)] [(map d_T (o12_0 a0 a1))] [(.one (.val (.int .i64 (m12 a0 a1))))]):=by
  exact cq [true] ya (pe 0 (pe (length (map d_T a0.f5)) (.f (pureR_T a0.f5) (.r 11 [true] [] (e45 (a0:=(K_G.mk a0.f1 a0.f2 a0.f3 a0.f4 a0.f5)) (a1:=a1) ‹_› ‹_›) (.f (pureR_T (o45_0 (K_G.mk a0.f1 a0.f2 a0.f3 a0.f4 a0.f5) a1)) .nil)))))
/-! loop.example/g00539/laws.markBlockResult -/
def o13_0 (a0:K_J) (a1:Int):List K_T:=
  (o45_0 (K_G.mk a0.f1 a0.f2 a0.f3 a0.f4 a0.f5) a1)
def m13 (a0:K_J) (a1:Int):Int:=
  (m45 (K_G.mk a0.f1 a0.f2 a0.f3 a0.f4 a0.f5) a1)
theorem e13 {a0:K_J} {a1:Int} (hy0:length a0.f5*56≤140737488351232) (hy1:∀z∈a0.f5,ok_T z):Ev F X (.call 13 [(.agg [(.val (.int .i64 a0.f0)),(.val (.int .i64 a0.f1)),(.val (.int .i64 a0.f2)),(.val (.int .i64 a0.f3)),(.val (.int .i64 a0.f4)),(.ref ⟨(0,0,0),[],0,(length (map d_T a0.f5))⟩)]),(.one (.val (.int .i64 a1)))] [((0,0,0),⟨3,(map d_T a0.f5),[]⟩)] [(map d_T (o13_0 a0 a1))] [(.one (.val (.int .i64 (m13 a0 a1))))]):=by
  exact cq [true] ya (pe 0 (pe (length (map d_T a0.f5)) (.f (pureR_T a0.f5) (.r 11 [true] [] (e45 (a0:=(K_G.mk a0.f1 a0.f2 a0.f3 a0.f4 a0.f5)) (a1:=a1) ‹_› ‹_›) (.f (pureR_T (o45_0 (K_G.mk a0.f1 a0.f2 a0.f3 a0.f4 a0.f5) a1)) .nil)))))
theorem ol13_0 (a:K_J) (k:Int):(o13_0 a k).length=length a.f5:=by
  unfold o13_0
  simp[ol45_0]
end Go.Proofs.YtmdocdnidilaiaaGreat.ShareBlock
