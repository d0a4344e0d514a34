/- What the functions compute. -/
import Derived.Test.YtmdocdnidilaiaaGreatEShareBlockB
import Derived.KernelRfl
namespace Go.Proofs.YtmdocdnidilaiaaGreat.ShareBlock
open Go Go.Proofs.YtmdocdnidilaiaaGreat.V
set_option linter.unusedVariables false
set_option linter.unusedSimpArgs false
set_option maxRecDepth 20000
open Go.IntKind (wrap)
open Int (toNat)
open List (length_replicate length_map length_set length_append length_cons length_nil length_take length_drop take_of_length_le map_take map_drop map_set append_assoc getElem?_map map length take drop getD set)
attribute [local simp] toBR_i fullR_i pureR_i lenB_i lenD_i fromBR_i copy_i toBR_N fullR_N pureR_N lenB_N lenD_N toBR_U fullR_U pureR_U lenB_U lenD_U toBR_T fullR_T pureR_T lenB_T lenD_T toBR_J fullR_J pureR_J lenB_J lenD_J toBR_b fullR_b pureR_b lenB_b lenD_b fromBR_b copy_b toBR_G fullR_G pureR_G lenB_G lenD_G toBR_JL fullR_JL pureR_JL lenB_JL lenD_JL toBR_TL fullR_TL pureR_TL lenB_TL lenD_TL toBR_LiE fullR_LiE pureR_LiE lenB_LiE lenD_LiE toBR_NL fullR_NL pureR_NL lenB_NL lenD_NL toBR_UL fullR_UL pureR_UL lenB_UL lenD_UL strInts_len byteRows_len toBR_y fullR_y pureR_y lenB_y lenD_y fromBR_y copy_y toBR_LyE fullR_LyE pureR_LyE lenB_LyE lenD_LyE toBR_LLyEE fullR_LLyEE pureR_LLyEE lenB_LLyEE lenD_LLyEE
/-! loop 122_1 -/
inductive O122_1 where
  |k0 (w0:List K_U) (w1:Int) (w2:Bool)
def r122_1 (a0:K_T):List K_U→Int→List K_U→O122_1
  |x0::y0,i,v0=>
    (r122_1 a0 y0 (i+1) (v0++([x0])))
  |[],i,v0=>(O122_1.k0 v0 i (decide (i <((length (map b_U a0.f2)):Int))))
def h122_1 (l0_1:Nat) (l0_2:Nat) (a0:K_T) (c0_122_1:List K_N) (i:Int) (v0:List K_U):St:=⟨[(1,(.ptr ⟨(1,0,0),[],0,0,3⟩)),(2,(.ptr ⟨(2,0,0),[],0,0,3⟩)),(3,(.ptr ⟨(3,0,0),[],0,0,3⟩)),(5,(.one (.val (.int .i64 i))))],[((1,0,0),.live ⟨3,[[(.val (.int .i64 a0.f0)),(.bor l0_1 (map b_N a0.f1)),(.bor l0_2 (map b_U a0.f2))]],[]⟩),((2,0,0),.live ⟨3,[[(.val (.int .i64 0)),(.own 3 []),(.own 2 [])]],[]⟩),((3,0,0),.live ⟨3,[[(.val (.int .i64 a0.f0)),(.own 3 (map d_N c0_122_1)),(.own 2 (map d_U v0))]],[]⟩)]⟩
def ex122_1:O122_1→VX.Exit
  |.k0 _ _ _=>(.exit 2)
def fin122_1 (l0_1:Nat) (l0_2:Nat) (a0:K_T) (c0_122_1:List K_N):O122_1→St
  |.k0 w0 w1 w2=>⟨[(1,(.ptr ⟨(1,0,0),[],0,0,3⟩)),(2,(.ptr ⟨(2,0,0),[],0,0,3⟩)),(3,(.ptr ⟨(3,0,0),[],0,0,3⟩)),(5,(.one (.val (.int .i64 w1)))),(45,(.one (.val (.bool w2))))],[((1,0,0),.live ⟨3,[[(.val (.int .i64 a0.f0)),(.bor l0_1 (map b_N a0.f1)),(.bor l0_2 (map b_U a0.f2))]],[]⟩),((2,0,0),.live ⟨3,[[(.val (.int .i64 0)),(.own 3 []),(.own 2 [])]],[]⟩),((3,0,0),.live ⟨3,[[(.val (.int .i64 a0.f0)),(.own 3 (map d_N c0_122_1)),(.own 2 (map d_U w0))]],[]⟩)]⟩
theorem t122_1 {l0_1:Nat} {l0_2:Nat} {a0:K_T} {c0_122_1:List K_N} (hy0:length a0.f1*40≤140737488351232) (hy1:∀z∈a0.f1,ok_N z) (hy2:length a0.f2*32≤140737488351232) (hy3:∀z∈a0.f2,ok_U z) (hy4:SmT a0) (hy5:length c0_122_1≤140737488351232):∀(y0:List K_U) (p:List K_U) (v0:List K_U),p++y0=a0.f2→(length v0+length y0)*32≤70368744177664→Ev F X (.code l122_1 (h122_1 l0_1 l0_2 a0 c0_122_1 (length p:Int) v0) (ex122_1 (r122_1 a0 y0 (length p:Int) v0)) (fin122_1 l0_1 l0_2 a0 c0_122_1 (r122_1 a0 y0 (length p:Int) v0)))
  |[],p,v0,hp0,hi0=>by
    have hc:¬(decide ((length p:Int) <((length (map b_U a0.f2)):Int)))=true:=by
      rw[← hp0]; simp only[LN,decide_eq_true_eq]; omega
    have hj0:=hi0; try simp only[LN,Int.toNat_natCast] at hj0
    have st:=ch b122_1 (h122_1 l0_1 l0_2 a0 c0_122_1 (length p:Int) v0) ⟨[(1,(.ptr ⟨(1,0,0),[],0,0,3⟩)),(2,(.ptr ⟨(2,0,0),[],0,0,3⟩)),(3,(.ptr ⟨(3,0,0),[],0,0,3⟩)),(5,(.oi (length p:Int))),(45,(.one (.val (.bool (decide ((length p:Int) <((length (map b_U a0.f2)):Int)))))))],[((1,0,0),.live ⟨3,[[(.i a0.f0),(.bor l0_1 (map b_N a0.f1)),(.bor l0_2 (map b_U a0.f2))]],[]⟩),((2,0,0),.live ⟨3,[[(.i 0),(.own 3 []),(.own 2 [])]],[]⟩),((3,0,0),.live ⟨3,[[(.i a0.f0),(.own 3 (map d_N c0_122_1)),(.own 2 (map d_U v0))]],[]⟩)]⟩ (.exit 2) 11 (by kernel_rfl) (.f (nt hc) (.h 10 (.b false) .nil))
    rw[show (⟨[(1,(.ptr ⟨(1,0,0),[],0,0,3⟩)),(2,(.ptr ⟨(2,0,0),[],0,0,3⟩)),(3,(.ptr ⟨(3,0,0),[],0,0,3⟩)),(5,(.oi (length p:Int))),(45,(.one (.val (.bool (decide ((length p:Int) <((length (map b_U a0.f2)):Int)))))))],[((1,0,0),.live ⟨3,[[(.i a0.f0),(.bor l0_1 (map b_N a0.f1)),(.bor l0_2 (map b_U a0.f2))]],[]⟩),((2,0,0),.live ⟨3,[[(.i 0),(.own 3 []),(.own 2 [])]],[]⟩),((3,0,0),.live ⟨3,[[(.i a0.f0),(.own 3 (map d_N c0_122_1)),(.own 2 (map d_U v0))]],[]⟩)]⟩:St)=fin122_1 l0_1 l0_2 a0 c0_122_1 (.k0 v0 (length p:Int) (decide ((length p:Int) <((length (map b_U a0.f2)):Int)))) from(by rfl)] at st
    exact .loopX st (show ((.exit 2):VX.Exit)≠.normal from by simp)
  |x0::y0,p,v0,hp0,hi0=>by
    have hc:(decide ((length p:Int) <((length (map b_U a0.f2)):Int)))=true:=by
      rw[← hp0]; simp only[LN,decide_eq_true_eq]; omega
    have Hx0:(a0.f2)[toNat (length p:Int)]?=some x0:=by
      rw[← hp0,Int.toNat_natCast]; simp
    have Mx0_0:=hy3 x0 (List.mem_of_getElem? Hx0)
    have hlen:length (a0.f2)=length p+length y0+1:=by rw[← hp0]; simp; omega
    have hw:wrap .i64 ((length p:Int)+1)=(length p:Int)+1:=wrap64 (by omega)
    have hj0:=hi0; try simp only[LN,Int.toNat_natCast] at hj0
    simp only[r122_1]
    have f1:0≤(length p:Int):=(by omega)
    have f8:0+(length (map d_U v0))≤(length (map d_U v0)):=(by omega)
    have f9:1≤1:=(by omega)
    have f10:((take 1 (drop 0 [[(.i x0.f0),(.own 1 (map d_i x0.f1))]])).all fun x=>x.all copyable)=false:=(by trivial)
    have f13:(length ((take (length (map d_U v0)) (drop 0 (map d_U v0)))++([[(.i x0.f0),(.own 1 (map d_i x0.f1))]]:List (List D))))*32≤70368744177664:=(by simp only[length_map,length_append,length_cons,length_nil,length_take,length_drop]; omega)
    have f14:∀r∈([[(.i x0.f0),(.own 1 (map d_i x0.f1))]]:List (List D)),r.length=2:=(by simp[four_len]; done)
    have f17:([[(.i a0.f0),(.own 3 (map d_N c0_122_1)),(.own 2 ((take (length (map d_U v0)) (drop 0 (map d_U v0)))++([[(.i x0.f0),(.own 1 (map d_i x0.f1))]]:List (List D))))]]:List (List D))=[[(.i a0.f0),(.own 3 (map d_N c0_122_1)),(.own 2 (map d_U (v0++([x0]))))]]:=(by simp[take_of_length_le,d_i,d_N,d_U,four_len]; done)
    have st:=ch b122_1 (h122_1 l0_1 l0_2 a0 c0_122_1 (length p:Int) v0) ⟨[(1,(.ptr ⟨(1,0,0),[],0,0,3⟩)),(2,(.ptr ⟨(2,0,0),[],0,0,3⟩)),(3,(.ptr ⟨(3,0,0),[],0,0,3⟩)),(5,(.oi (wrap .i64 ((length p:Int)+1))))],[((1,0,0),.live ⟨3,[[(.i a0.f0),(.bor l0_1 (map b_N a0.f1)),(.bor l0_2 (map b_U a0.f2))]],[]⟩),((2,0,0),.live ⟨3,[[(.i 0),(.own 3 []),(.own 2 [])]],[]⟩),((3,0,0),.live ⟨3,[[(.i a0.f0),(.own 3 (map d_N c0_122_1)),(.own 2 (map d_U (v0++([x0]))))]],[]⟩)]⟩ .normal 58 (by kernel_rfl) (.f hc (.f f1 (.f (mp_ b_U Hx0) (.f f1 (.f (mp_ b_U Hx0) (.h 10 (.b true) (.h 22 (.row [(.i x0.f0),(.sl (map b_i x0.f1))]) (.h 34 (.row [(.i x0.f0),(.sl (map b_i x0.f1))]) (.r 40 [] [] (e149 (l0_0:=(l0_2+1)) (a0:=x0.f1) (by have q:=hy4.2.2.2 x0 (List.mem_of_getElem? Hx0); omega)) (pe 0 (pe (length (map d_i x0.f1)) (.f f8 (.f f9 (.f f10 (pe 0 (pe 1 (.f f13 (.f f14 (pe 0 (pe (length ((take (length (map d_U v0)) (drop 0 (map d_U v0)))++([[(.i x0.f0),(.own 1 (map d_i x0.f1))]]:List (List D)))) (.f f17 (.f trivial (.h 46 (.b false) (.h 51 (.norm (3,0,0) [[(.i a0.f0),(.own 3 (map d_N c0_122_1)),(.own 2 (map d_U (v0++([x0]))))]]) .nil))))))))))))))))))))))))
    have ih:=t122_1 (l0_1:=l0_1) (l0_2:=l0_2) (a0:=a0) (c0_122_1:=c0_122_1) hy0 hy1 hy2 hy3 hy4 hy5 y0 (p++ [x0]) (v0++([x0])) (by rw[append_assoc]; exact hp0) (by simp only[LN]; omega)
    rw[show ((p++ [x0]).length:Int)=(p.length:Int)+1 from by simp] at ih
    rw[show (⟨[(1,(.ptr ⟨(1,0,0),[],0,0,3⟩)),(2,(.ptr ⟨(2,0,0),[],0,0,3⟩)),(3,(.ptr ⟨(3,0,0),[],0,0,3⟩)),(5,(.oi (wrap .i64 ((length p:Int)+1))))],[((1,0,0),.live ⟨3,[[(.i a0.f0),(.bor l0_1 (map b_N a0.f1)),(.bor l0_2 (map b_U a0.f2))]],[]⟩),((2,0,0),.live ⟨3,[[(.i 0),(.own 3 []),(.own 2 [])]],[]⟩),((3,0,0),.live ⟨3,[[(.i a0.f0),(.own 3 (map d_N c0_122_1)),(.own 2 (map d_U (v0++([x0]))))]],[]⟩)]⟩:St)=h122_1 l0_1 l0_2 a0 c0_122_1 ((length p:Int)+1) (v0++([x0])) from(by unfold h122_1; simp only[hw]; done)] at st
    exact .loopN st ih
def post122_1 (n0:Nat):O122_1→Prop
  |.k0 w0 _ _=>length w0=n0
theorem z122_1 {a0:K_T}:∀(y0:List K_U) (i:Int) (v0:List K_U),post122_1 (length v0+length y0) (r122_1 a0 y0 i v0)
  |[],i,v0=>by
    first | trivial |(simp only[post122_1,length_nil,Nat.add_zero]; done) |(simp[post122_1]; done)
  |x0::y0,i,v0=>by
    simp only[r122_1]
    have z:=z122_1 (a0:=a0) y0 (i+1) (v0++([x0]))
    rw[show (length v0+length (x0::y0))=(length (v0++([x0]))+length y0) from by first | omega |(simp only[LN]; done) |(simp only[LN]; omega)]
    exact z
theorem cp122_1 (a:K_T):∀(l:List K_U) (i:Int) (v:List K_U),∃j b,r122_1 a l i v=.k0 (v++l) j b
  |[],i,v=>⟨_,_,by simp only[r122_1,List.append_nil]; rfl⟩
  |x::l,i,v=>by
    obtain⟨j,b,h⟩:=cp122_1 a l (i+1) (v++ [x])
    exact⟨j,b,by simp only[r122_1]; rw[h,append_assoc]; rfl⟩
/-! loop.example/g00539/spec.l3Copy -/
def m122 (a0:K_T):K_T:=
  (match r122_0 a0 a0.f1 0 [] with | .k0 w0_0 w1_0 w2_0=>(match r122_1 a0 a0.f2 0 [] with | .k0 w0_1 w1_1 w2_1=>(K_T.mk a0.f0 w0_0 w0_1)))
theorem e122 {l0_1:Nat} {l0_2:Nat} {a0:K_T} (hy0:length a0.f1*40≤140737488351232) (hy1:∀z∈a0.f1,ok_N z) (hy2:length a0.f2*32≤140737488351232) (hy3:∀z∈a0.f2,ok_U z) (hy4:SmT a0):Ev F X (.call 122 [(.agg (k_T l0_1 l0_2 a0))] [] [] [(.agg (d_T (m122 a0)))]):=by
  unfold m122
  cases h0:r122_0 a0 a0.f1 0 [] with
  |k0 w0_0 w1_0 w2_0=>
    try dsimp only
    have zh0:=z122_0 (a0:=a0) a0.f1 0 []; rw[h0] at zh0; simp only[post122_0,length_map,length_set,length_append,length_replicate,length_cons,length_nil,Int.toNat_natCast] at zh0
    have f0:(⟨[(1,(.ptr ⟨(1,0,0),[],0,0,3⟩)),(2,(.ptr ⟨(2,0,0),[],0,0,3⟩)),(3,(.ptr ⟨(3,0,0),[],0,0,3⟩)),(4,(.oi 0))],[((1,0,0),.live ⟨3,[[(.i a0.f0),(.bor l0_1 (map b_N a0.f1)),(.bor l0_2 (map b_U a0.f2))]],[]⟩),((2,0,0),.live ⟨3,[[(.i 0),(.own 3 []),(.own 2 [])]],[]⟩),((3,0,0),.live ⟨3,[[(.i a0.f0),(.own 3 []),(.own 2 [])]],[]⟩)]⟩:St)=h122_0 l0_1 l0_2 a0 0 []:=yf
    cases h1:r122_1 a0 a0.f2 0 [] with
    |k0 w0_1 w1_1 w2_1=>
      try dsimp only
      have zh1:=z122_1 (a0:=a0) a0.f2 0 []; rw[h1] at zh1; simp only[post122_1,length_map,length_set,length_append,length_replicate,length_cons,length_nil,Int.toNat_natCast] at zh1
      have f2:(⟨[(1,(.ptr ⟨(1,0,0),[],0,0,3⟩)),(2,(.ptr ⟨(2,0,0),[],0,0,3⟩)),(3,(.ptr ⟨(3,0,0),[],0,0,3⟩)),(5,(.oi 0))],[((1,0,0),.live ⟨3,[[(.i a0.f0),(.bor l0_1 (map b_N a0.f1)),(.bor l0_2 (map b_U a0.f2))]],[]⟩),((2,0,0),.live ⟨3,[[(.i 0),(.own 3 []),(.own 2 [])]],[]⟩),((3,0,0),.live ⟨3,[[(.i a0.f0),(.own 3 (map d_N w0_0)),(.own 2 [])]],[]⟩)]⟩:St)=h122_1 l0_1 l0_2 a0 w0_0 0 []:=yf
      exact cp ya (.f f0 (.f (ev_ (e:=ex122_0) (g:=(fin122_0 l0_1 l0_2 a0)) h0 (t122_0 (l0_1:=l0_1) (l0_2:=l0_2) (a0:=a0) (by assumption) (by assumption) (by assumption) (by assumption) (by assumption) a0.f1 [] [] rfl yI)) (.f f2 (.f (ev_ (e:=ex122_1) (g:=(fin122_1 l0_1 l0_2 a0 w0_0)) h1 (t122_1 (l0_1:=l0_1) (l0_2:=l0_2) (a0:=a0) (c0_122_1:=w0_0) (by assumption) (by assumption) (by assumption) (by assumption) (by assumption) yc a0.f2 [] [] rfl yI)) (pe 0 (pe (length (map d_N w0_0)) (pe 0 (pe (length (map d_U w0_1)) (.f (pureR_N w0_0) (.f (pureR_U w0_1) (.h 16 (.loop (h122_0 l0_1 l0_2 a0 0 []) (.exit 0) ⟨[(1,(.ptr ⟨(1,0,0),[],0,0,3⟩)),(2,(.ptr ⟨(2,0,0),[],0,0,3⟩)),(3,(.ptr ⟨(3,0,0),[],0,0,3⟩)),(4,(.oi w1_0)),(13,(.one (.val (.bool w2_0))))],[((1,0,0),.live ⟨3,[[(.i a0.f0),(.bor l0_1 (map b_N a0.f1)),(.bor l0_2 (map b_U a0.f2))]],[]⟩),((2,0,0),.live ⟨3,[[(.i 0),(.own 3 []),(.own 2 [])]],[]⟩),((3,0,0),.live ⟨3,[[(.i a0.f0),(.own 3 (map d_N w0_0)),(.own 2 [])]],[]⟩)]⟩) (.h 19 (.loop (h122_1 l0_1 l0_2 a0 w0_0 0 []) (.exit 2) ⟨[(1,(.ptr ⟨(1,0,0),[],0,0,3⟩)),(2,(.ptr ⟨(2,0,0),[],0,0,3⟩)),(3,(.ptr ⟨(3,0,0),[],0,0,3⟩)),(5,(.oi w1_1)),(45,(.one (.val (.bool w2_1))))],[((1,0,0),.live ⟨3,[[(.i a0.f0),(.bor l0_1 (map b_N a0.f1)),(.bor l0_2 (map b_U a0.f2))]],[]⟩),((2,0,0),.live ⟨3,[[(.i 0),(.own 3 []),(.own 2 [])]],[]⟩),((3,0,0),.live ⟨3,[[(.i a0.f0),(.own 3 (map d_N w0_0)),(.own 2 (map d_U w0_1))]],[]⟩)]⟩) .nil))))))))))))
theorem q122 (a0:K_T) (hy0:length a0.f1*40≤140737488351232) (hy1:∀z∈a0.f1,ok_N z) (hy2:length a0.f2*32≤140737488351232) (hy3:∀z∈a0.f2,ok_U z) (hy4:SmT a0):(m122 a0)=a0:=by
  obtain⟨j,b,h⟩:=cp122_0 a0 a0.f1 0 []
  obtain⟨j2,b2,h2⟩:=cp122_1 a0 a0.f2 0 []
  unfold m122
  rw[h]
  simp only[]
  rw[h2]
  rfl
theorem g122 {l0_1:Nat} {l0_2:Nat} {a0:K_T} (hy0:length a0.f1*40≤140737488351232) (hy1:∀z∈a0.f1,ok_N z) (hy2:length a0.f2*32≤140737488351232) (hy3:∀z∈a0.f2,ok_U z) (hy4:SmT a0):Ev F X (.call 122 [(.agg (k_T l0_1 l0_2 a0))] [] [] [(.agg (d_T a0))]):=by
  have t:=e122 (l0_1:=l0_1) (l0_2:=l0_2) (a0:=a0) hy0 hy1 hy2 hy3 hy4
  rw[q122 a0 hy0 hy1 hy2 hy3 hy4] at t
  exact t
/-! loop 95_0 -/
inductive O95_0 where
  |k0 (w0:List K_T) (w1:Int) (w2:Bool)
def r95_0 (a0:(List K_T)):List K_T→Int→List K_T→O95_0
  |x0::y0,i,v0=>
    (r95_0 a0 y0 (i+1) (v0++([x0])))
  |[],i,v0=>(O95_0.k0 v0 i (decide (i <((length (map b_T a0)):Int))))
def h95_0 (l0_0:Nat) (a0:(List K_T)) (i:Int) (v0:List K_T):St:=⟨[(0,(.one (.bor l0_0 (map b_T a0)))),(3,(.one (.ref ⟨(3,0,0),[],0,(length (map d_T v0))⟩))),(4,(.one (.val (.int .i64 i))))],[((3,0,0),.live ⟨3,(map d_T v0),[]⟩)]⟩
def ex95_0:O95_0→VX.Exit
  |.k0 _ _ _=>(.exit 0)
def fin95_0 (l0_0:Nat) (a0:(List K_T)):O95_0→St
  |.k0 w0 w1 w2=>⟨[(0,(.one (.bor l0_0 (map b_T a0)))),(3,(.one (.ref ⟨(3,0,0),[],0,(length (map d_T w0))⟩))),(4,(.one (.val (.int .i64 w1)))),(9,(.one (.val (.bool w2))))],[((3,0,0),.live ⟨3,(map d_T w0),[]⟩)]⟩
theorem t95_0 {l0_0:Nat} {a0:(List K_T)} (hy0:length a0*56≤140737488351232) (hy1:∀z∈a0,ok_T z) (hy2:length a0≤4) (hy3:∀z∈a0,SmT z):∀(y0:List K_T) (p:List K_T) (v0:List K_T),p++y0=a0→(length v0+length y0)*56≤70368744177664→Ev F X (.code l95_0 (h95_0 l0_0 a0 (length p:Int) v0) (ex95_0 (r95_0 a0 y0 (length p:Int) v0)) (fin95_0 l0_0 a0 (r95_0 a0 y0 (length p:Int) v0)))
  |[],p,v0,hp0,hi0=>by
    have hc:¬(decide ((length p:Int) <((length (map b_T a0)):Int)))=true:=by
      rw[← hp0]; simp only[LN,decide_eq_true_eq]; omega
    have hj0:=hi0; try simp only[LN,Int.toNat_natCast] at hj0
    have st:=ch b95_0 (h95_0 l0_0 a0 (length p:Int) v0) ⟨[(0,(.one (.bor l0_0 (map b_T a0)))),(3,(.one (.ref ⟨(3,0,0),[],0,(length (map d_T v0))⟩))),(4,(.oi (length p:Int))),(9,(.one (.val (.bool (decide ((length p:Int) <((length (map b_T a0)):Int)))))))],[((3,0,0),.live ⟨3,(map d_T v0),[]⟩)]⟩ (.exit 0) 9 (by kernel_rfl) (.f (nt hc) (.h 8 (.b false) .nil))
    rw[show (⟨[(0,(.one (.bor l0_0 (map b_T a0)))),(3,(.one (.ref ⟨(3,0,0),[],0,(length (map d_T v0))⟩))),(4,(.oi (length p:Int))),(9,(.one (.val (.bool (decide ((length p:Int) <((length (map b_T a0)):Int)))))))],[((3,0,0),.live ⟨3,(map d_T v0),[]⟩)]⟩:St)=fin95_0 l0_0 a0 (.k0 v0 (length p:Int) (decide ((length p:Int) <((length (map b_T a0)):Int)))) from(by rfl)] at st
    exact .loopX st (show ((.exit 0):VX.Exit)≠.normal from by simp)
  |x0::y0,p,v0,hp0,hi0=>by
    have hc:(decide ((length p:Int) <((length (map b_T a0)):Int)))=true:=by
      rw[← hp0]; simp only[LN,decide_eq_true_eq]; omega
    have Hx0:(a0)[toNat (length p:Int)]?=some x0:=by
      rw[← hp0,Int.toNat_natCast]; simp
    obtain⟨Mx0_0,Mx0_1,Mx0_2,Mx0_3⟩:=hy1 x0 (List.mem_of_getElem? Hx0)
    have hlen:length (a0)=length p+length y0+1:=by rw[← hp0]; simp; omega
    have hw:wrap .i64 ((length p:Int)+1)=(length p:Int)+1:=wrap64 (by omega)
    have hj0:=hi0; try simp only[LN,Int.toNat_natCast] at hj0
    simp only[r95_0]
    have f1:0≤(length p:Int):=(by omega)
    have f8:0+(length (map d_T v0))≤(length (map d_T v0)):=(by omega)
    have f9:1≤1:=(by omega)
    have f10:((take 1 (drop 0 [[(.i x0.f0),(.own 3 (map d_N x0.f1)),(.own 2 (map d_U x0.f2))]])).all fun x=>x.all copyable)=false:=(by trivial)
    have f13:(length ((take (length (map d_T v0)) (drop 0 (map d_T v0)))++([[(.i x0.f0),(.own 3 (map d_N x0.f1)),(.own 2 (map d_U x0.f2))]]:List (List D))))*56≤70368744177664:=(by simp only[length_map,length_append,length_cons,length_nil,length_take,length_drop]; omega)
    have f14:∀r∈([[(.i x0.f0),(.own 3 (map d_N x0.f1)),(.own 2 (map d_U x0.f2))]]:List (List D)),r.length=3:=(by simp[four_len]; done)
    have f15:((take (length (map d_T v0)) (drop 0 (map d_T v0)))++([[(.i x0.f0),(.own 3 (map d_N x0.f1)),(.own 2 (map d_U x0.f2))]]:List (List D)))=(map d_T (v0++([x0]))):=(by simp[take_of_length_le,d_N,d_U,d_T,four_len]; done)
    have st:=ch b95_0 (h95_0 l0_0 a0 (length p:Int) v0) ⟨[(0,(.one (.bor l0_0 (map b_T a0)))),(3,(.one (.ref ⟨(3,0,0),[],0,(length ((take (length (map d_T v0)) (drop 0 (map d_T v0)))++([[(.i x0.f0),(.own 3 (map d_N x0.f1)),(.own 2 (map d_U x0.f2))]]:List (List D))))⟩))),(4,(.oi (wrap .i64 ((length p:Int)+1))))],[((3,0,0),.live ⟨3,(map d_T (v0++([x0]))),[]⟩)]⟩ .normal 34 (by kernel_rfl) (.f hc (.f f1 (.f (mp_ b_T Hx0) (.h 8 (.b true) (.h 16 (.row [(.i x0.f0),(.sl (map b_N x0.f1)),(.sl (map b_U x0.f2))]) (.r 20 [] [] (g122 (l0_1:=(l0_0+1)) (l0_2:=(l0_0+1)) (a0:=x0) (by with_reducible assumption) (by with_reducible assumption) (by with_reducible assumption) (by with_reducible assumption) (by exact hy3 x0 (List.mem_of_getElem? Hx0))) (pe 0 (pe (length (map d_N x0.f1)) (pe 0 (pe (length (map d_U x0.f2)) (.f f8 (.f f9 (.f f10 (pe 0 (pe 1 (.f f13 (.f f14 (.f f15 (.f trivial (.h 24 (.b false) (.h 27 (.norm (3,0,0) (map d_T (v0++([x0])))) .nil)))))))))))))))))))))
    have ih:=t95_0 (l0_0:=l0_0) (a0:=a0) hy0 hy1 hy2 hy3 y0 (p++ [x0]) (v0++([x0])) (by rw[append_assoc]; exact hp0) (by simp only[LN]; omega)
    rw[show ((p++ [x0]).length:Int)=(p.length:Int)+1 from by simp] at ih
    rw[show (⟨[(0,(.one (.bor l0_0 (map b_T a0)))),(3,(.one (.ref ⟨(3,0,0),[],0,(length ((take (length (map d_T v0)) (drop 0 (map d_T v0)))++([[(.i x0.f0),(.own 3 (map d_N x0.f1)),(.own 2 (map d_U x0.f2))]]:List (List D))))⟩))),(4,(.oi (wrap .i64 ((length p:Int)+1))))],[((3,0,0),.live ⟨3,(map d_T (v0++([x0]))),[]⟩)]⟩:St)=h95_0 l0_0 a0 ((length p:Int)+1) (v0++([x0])) from(by unfold h95_0; simp[hw,take_of_length_le,d_N,d_U,d_T,four_len]; done)] at st
    exact .loopN st ih
def post95_0 (n0:Nat):O95_0→Prop
  |.k0 w0 _ _=>length w0=n0
theorem z95_0 {a0:(List K_T)}:∀(y0:List K_T) (i:Int) (v0:List K_T),post95_0 (length v0+length y0) (r95_0 a0 y0 i v0)
  |[],i,v0=>by
    first | trivial |(simp only[post95_0,length_nil,Nat.add_zero]; done) |(simp[post95_0]; done)
  |x0::y0,i,v0=>by
    simp only[r95_0]
    have z:=z95_0 (a0:=a0) y0 (i+1) (v0++([x0]))
    rw[show (length v0+length (x0::y0))=(length (v0++([x0]))+length y0) from by first | omega |(simp only[LN]; done) |(simp only[LN]; omega)]
    exact z
theorem cp95_0 (a:List K_T):∀(l:List K_T) (i:Int) (v:List K_T),∃j b,r95_0 a l i v=.k0 (v++l) j b
  |[],i,v=>⟨_,_,by simp only[r95_0,List.append_nil]; rfl⟩
  |x::l,i,v=>by
    obtain⟨j,b,h⟩:=cp95_0 a l (i+1) (v++ [x])
    exact⟨j,b,by simp only[r95_0]; rw[h,append_assoc]; rfl⟩
/-! loop.example/g00539/spec.l3Txs -/
def m95 (a0:(List K_T)):(List K_T):=
  (match r95_0 a0 a0 0 ([]) with | .k0 w0_0 w1_0 w2_0=>w0_0)
theorem e95 {l0_0:Nat} {a0:(List K_T)} (hy0:length a0*56≤140737488351232) (hy1:∀z∈a0,ok_T z) (hy2:length a0≤4) (hy3:∀z∈a0,SmT z):Ev F X (.call 95 [(.one (.bor l0_0 (map b_T a0)))] [] [] [(.one (.own 3 (map d_T (m95 a0))))]):=by
  unfold m95
  cases h0:r95_0 a0 a0 0 ([]) with
  |k0 w0_0 w1_0 w2_0=>
    try dsimp only
    have zh0:=z95_0 (a0:=a0) a0 0 ([]); rw[h0] at zh0; simp only[post95_0,length_map,length_set,length_append,length_replicate,length_cons,length_nil,Int.toNat_natCast] at zh0
    have f0:(⟨[(0,(.one (.bor l0_0 (map b_T a0)))),(3,(.one (.ref ⟨(3,0,0),[],0,0⟩))),(4,(.oi 0))],[((3,0,0),.live ⟨3,[],[]⟩)]⟩:St)=h95_0 l0_0 a0 0 ([]):=yf
    exact cp ya (.f f0 (.f (ev_ (e:=ex95_0) (g:=(fin95_0 l0_0 a0)) h0 (t95_0 (l0_0:=l0_0) (a0:=a0) (by assumption) (by assumption) (by assumption) (by assumption) a0 [] ([]) rfl yp)) (pe 0 (pe (length (map d_T w0_0)) (.f (pureR_T w0_0) (.h 8 (.loop (h95_0 l0_0 a0 0 ([])) (.exit 0) ⟨[(0,(.one (.bor l0_0 (map b_T a0)))),(3,(.one (.ref ⟨(3,0,0),[],0,(length (map d_T w0_0))⟩))),(4,(.oi w1_0)),(9,(.one (.val (.bool w2_0))))],[((3,0,0),.live ⟨3,(map d_T w0_0),[]⟩)]⟩) .nil))))))
theorem q95 (a0:(List K_T)) (hy0:length a0*56≤140737488351232) (hy1:∀z∈a0,ok_T z) (hy2:length a0≤4) (hy3:∀z∈a0,SmT z):(m95 a0)=a0:=by
  obtain⟨j,b,h⟩:=cp95_0 a0 a0 0 []
  unfold m95
  rw[h]
  rfl
theorem g95 {l0_0:Nat} {a0:(List K_T)} (hy0:length a0*56≤140737488351232) (hy1:∀z∈a0,ok_T z) (hy2:length a0≤4) (hy3:∀z∈a0,SmT z):Ev F X (.call 95 [(.one (.bor l0_0 (map b_T a0)))] [] [] [(.one (.own 3 (map d_T a0)))]):=by
  have t:=e95 (l0_0:=l0_0) (a0:=a0) hy0 hy1 hy2 hy3
  rw[q95 a0 hy0 hy1 hy2 hy3] at t
  exact t
theorem e64 {l0_4:Nat} {a0:K_G} (hy0:length a0.f4*56≤140737488351232) (hy1:∀z∈a0.f4,ok_T z) (hy2:length a0.f4≤4) (hy3:∀z∈a0.f4,SmT z):Ev F X (.call 64 [(.agg (k_G l0_4 a0))] [] [] [(.agg (d_G a0))]):=by
  exact cp ya (.r 9 [] [] (g95 (l0_0:=(l0_4+1)) (a0:=a0.f4) ‹_› ‹_› ‹_› ‹_›) (pe 0 (pe (length (map d_T a0.f4)) (pe 0 (pe (length (map d_T a0.f4)) (.f (pureR_T a0.f4) .nil))))))
/-! loop.example/g00539/spec.l11Block -/
def m37 (a0:K_J) (a1:Int) (a2:Int) (a3:Int):K_G:=
  (K_G.mk a0.f1 a2 a0.f3 a3 (set a0.f5 0 (K_T.mk ((getD a0.f5 0 (K_T.mk 0 [] [])).f0) ((getD a0.f5 0 (K_T.mk 0 [] [])).f1) (set ((getD a0.f5 0 (K_T.mk 0 [] [])).f2) 1 (K_U.mk ((getD ((getD a0.f5 0 (K_T.mk 0 [] [])).f2) 1 (K_U.mk 0 [])).f0) [(wrap .i64 (100+a1))])))))
theorem e37 {l0:Nat} {a0:K_J} {a1:Int} {a2:Int} {a3:Int} (hy0:length a0.f5*56≤140737488351232) (hy1:∀z∈a0.f5,ok_T z) (hy2:SmJ a0):Ev F X (.call 37 [(.bptr l0 (b_J a0)),(.one (.val (.int .i64 a1))),(.one (.val (.int .i64 a2))),(.one (.val (.int .i64 a3)))] [] [] [(.agg (d_G (m37 a0 a1 a2 a3)))]):=by
  have f3:0+(length (map d_T a0.f5))≤(length (map d_T a0.f5)):=yc
  have f4:0≤(0:Int)∧(0:Int) <((length (map d_T a0.f5)):Int):=(by have q:=hy2.1; simp only[length_map]; omega)
  have f7:nav 5 [[(.i a0.f1),(.i a0.f2),(.i a0.f3),(.i a0.f4),(.own 3 (map d_T a0.f5))]] [(0,4),(0,2)]=some (2,(map d_U ((getD a0.f5 0 (K_T.mk 0 [] [])).f2))):=(by show nav 3 (map d_T a0.f5) [(0,2)]=_; simp only[nav];(rw[getElem?_map,getD_at a0.f5 0 (K_T.mk 0 [] []) (by first | exact True.intro | with_reducible rfl | with_reducible assumption | omega |(exact hy2.2.1) |(exact hy2.2.2.1) |(exact hy2.1) |(have q:=hy2.1; omega) |(have q:=hy2.2.2.2; omega) |(refine⟨by omega,?_⟩; have q:=hy2.1; omega) |(refine⟨by omega,?_⟩; have q:=hy2.2.2.2; simp only[length_map]; omega) |(have q:=hy2.1; simp only[length_map]; omega) |(have q:=hy2.2.2.2; simp only[length_map]; omega) |(simp only[decide_eq_true_eq] at*; omega) |(simp only[length_map]; omega) |(simp[four_len]; omega) |(simp[take_of_length_le,four_len]; done) | assumption | trivial |(simp[*,four_len,byteRows_eq,ints_y]; done))]); rfl)
  have f8:0+(length (map d_U ((getD a0.f5 0 (K_T.mk 0 [] [])).f2)))≤(length (map d_U ((getD a0.f5 0 (K_T.mk 0 [] [])).f2))):=yc
  have f9:0≤(1:Int)∧(1:Int) <((length (map d_U ((getD a0.f5 0 (K_T.mk 0 [] [])).f2))):Int):=yX
  have f14:([[(.i a0.f1),(.i a0.f2),(.i a0.f3),(.i a0.f4),(.own 3 (setNav (map d_T a0.f5) [(0,2)] (set (map d_U ((getD a0.f5 0 (K_T.mk 0 [] [])).f2)) 1 [(.i ((getD ((getD a0.f5 0 (K_T.mk 0 [] [])).f2) 1 (K_U.mk 0 [])).f0)),(.own 1 [[(.i (wrap .i64 (100+a1)))]])])))]]:List (List D))=[[(.i a0.f1),(.i a0.f2),(.i a0.f3),(.i a0.f4),(.own 3 (map d_T (set a0.f5 0 (K_T.mk ((getD a0.f5 0 (K_T.mk 0 [] [])).f0) ((getD a0.f5 0 (K_T.mk 0 [] [])).f1) (set ((getD a0.f5 0 (K_T.mk 0 [] [])).f2) 1 (K_U.mk ((getD ((getD a0.f5 0 (K_T.mk 0 [] [])).f2) 1 (K_U.mk 0 [])).f0) [(wrap .i64 (100+a1))]))))))]]:=(by rw[setNavAt (i:=0) (j:=2) (row:=(d_T (getD a0.f5 0 (K_T.mk 0 [] [])))) (by rw[getElem?_map,getD_at a0.f5 0 (K_T.mk 0 [] []) (by first | exact True.intro | with_reducible rfl | with_reducible assumption | omega |(exact hy2.2.1) |(exact hy2.2.2.1) |(exact hy2.1) |(have q:=hy2.1; omega) |(have q:=hy2.2.2.2; omega) |(refine⟨by omega,?_⟩; have q:=hy2.1; omega) |(refine⟨by omega,?_⟩; have q:=hy2.2.2.2; simp only[length_map]; omega) |(have q:=hy2.1; simp only[length_map]; omega) |(have q:=hy2.2.2.2; simp only[length_map]; omega) |(simp only[decide_eq_true_eq] at*; omega) |(simp only[length_map]; omega) |(simp[four_len]; omega) |(simp[take_of_length_le,four_len]; done) | assumption | trivial |(simp[*,four_len,byteRows_eq,ints_y]; done))]; rfl) yf]; first | rfl |(simp[take_of_length_le,d_i,d_N,d_U,d_T,d_J,d_b,d_G,d_JL,d_TL,d_LiE,d_NL,d_UL,d_y,d_LyE,d_LLyEE,four_len,byteRows_eq,ints_y]; done) |(simp[map_set,take_of_length_le,d_i,d_N,d_U,d_T,d_J,d_b,d_G,d_JL,d_TL,d_LiE,d_NL,d_UL,d_y,d_LyE,d_LLyEE,four_len,byteRows_eq,ints_y]; done))
  exact cp ya (.r 11 [] [] (e64 (l0_4:=(l0+1)) (a0:=(K_G.mk a0.f1 a0.f2 a0.f3 a0.f4 a0.f5)) ‹_› ‹_› (by exact hy2.2.1) (by exact hy2.2.2.1)) (pe 0 (pe (length (map d_T a0.f5)) (.f f3 (.f f4 (.f (mp_ d_T (getD_at a0.f5 0 (K_T.mk 0 [] []) (by exact hy2.1))) (.f trivial (.f f7 (.f f8 (.f f9 (pe 0 (pe 1 (.f f7 (.f (mp_ d_U (getD_at ((getD a0.f5 0 (K_T.mk 0 [] [])).f2) 1 (K_U.mk 0 []) (by have q:=hy2.2.2.2; omega))) (.f f14 (pe 0 (pe (length (map d_T (set a0.f5 0 (K_T.mk ((getD a0.f5 0 (K_T.mk 0 [] [])).f0) ((getD a0.f5 0 (K_T.mk 0 [] [])).f1) (set ((getD a0.f5 0 (K_T.mk 0 [] [])).f2) 1 (K_U.mk ((getD ((getD a0.f5 0 (K_T.mk 0 [] [])).f2) 1 (K_U.mk 0 [])).f0) [(wrap .i64 (100+a1))])))))) (.f (pureR_T (set a0.f5 0 (K_T.mk ((getD a0.f5 0 (K_T.mk 0 [] [])).f0) ((getD a0.f5 0 (K_T.mk 0 [] [])).f1) (set ((getD a0.f5 0 (K_T.mk 0 [] [])).f2) 1 (K_U.mk ((getD ((getD a0.f5 0 (K_T.mk 0 [] [])).f2) 1 (K_U.mk 0 [])).f0) [(wrap .i64 (100+a1))]))))) (.h 25 (.rowD (d_T (getD a0.f5 0 (K_T.mk 0 [] [])))) (.h 33 (.nav [((9,0,0),[4,2],2,(map d_U ((getD a0.f5 0 (K_T.mk 0 [] [])).f2)))] [] (.nop)) (.h 37 (.nav [((9,0,0),[4,2],2,(map d_U ((getD a0.f5 0 (K_T.mk 0 [] [])).f2)))] [] (.rowD (d_U (getD ((getD a0.f5 0 (K_T.mk 0 [] [])).f2) 1 (K_U.mk 0 []))))) (.h 38 (.norm (9,0,0) [[(.i a0.f1),(.i a0.f2),(.i a0.f3),(.i a0.f4),(.own 3 (map d_T (set a0.f5 0 (K_T.mk ((getD a0.f5 0 (K_T.mk 0 [] [])).f0) ((getD a0.f5 0 (K_T.mk 0 [] [])).f1) (set ((getD a0.f5 0 (K_T.mk 0 [] [])).f2) 1 (K_U.mk ((getD ((getD a0.f5 0 (K_T.mk 0 [] [])).f2) 1 (K_U.mk 0 [])).f0) [(wrap .i64 (100+a1))]))))))]]) .nil))))))))))))))))))))))
theorem ob37 {a0:K_J} {a1 a2 a3:Int} (h:SmJ a0):length (m37 a0 a1 a2 a3).f4≤4∧∀z∈(m37 a0 a1 a2 a3).f4,SmT z:=by
  obtain⟨h1,h2,h3,h4⟩:=h
  have hX : SmT (getD a0.f5 0 (K_T.mk 0 [] [])) := h3 _ (by
    cases e:a0.f5 with
    |nil=>rw[e] at h1; simp at h1
    |cons x l=>exact List.mem_cons_self ..)
  obtain⟨x1,x2,x3,x4⟩:=hX
  unfold m37
  refine⟨by simpa using h2,fun z hz=>?_⟩
  rcases List.mem_or_eq_of_mem_set hz with hz | rfl
  · exact h3 z hz
  · refine⟨x1,x2,by simpa using x3,fun x hx=>?_⟩
    rcases List.mem_or_eq_of_mem_set hx with hx | rfl
    · exact x4 x hx
    · simp
/-! loop.example/g00539/spec.ShareBlock -/
def m7 (a0:K_J) (a1:Int) (a2:Int) (a3:Int):K_J:=
  if((m35 a0) !=0)=true then(K_J.mk (m35 a0) 0 0 0 0 []) else
  if(!(m36 a1 0 999))=true then(K_J.mk 3 0 0 0 0 []) else
    if(!(m36 a2 1 99999))=true then(K_J.mk 3 0 0 0 0 []) else
      if(!(m36 a3 0 65535))=true then(K_J.mk 3 0 0 0 0 []) else
        if((m38 (m37 a0 a1 a2 a3)) !=0)=true then(K_J.mk (m38 (m37 a0 a1 a2 a3)) 0 0 0 0 []) else
          (K_J.mk 0 ((m37 a0 a1 a2 a3).f0) ((m37 a0 a1 a2 a3).f1) ((m37 a0 a1 a2 a3).f2) ((m37 a0 a1 a2 a3).f3) ((m37 a0 a1 a2 a3).f4))
theorem e7 {l0_5:Nat} {a0:K_J} {a1:Int} {a2:Int} {a3:Int} (hy0:length a0.f5*56≤140737488351232) (hy1:∀z∈a0.f5,ok_T z):Ev F X (.call 7 [(.agg [(.val (.int .i64 a0.f0)),(.val (.int .i64 a0.f1)),(.val (.int .i64 a0.f2)),(.val (.int .i64 a0.f3)),(.val (.int .i64 a0.f4)),(.bor l0_5 (map b_T a0.f5))]),(.one (.val (.int .i64 a1))),(.one (.val (.int .i64 a2))),(.one (.val (.int .i64 a3)))] [] [] [(.agg [(.val (.int .i64 ((m7 a0 a1 a2 a3).f0))),(.val (.int .i64 ((m7 a0 a1 a2 a3).f1))),(.val (.int .i64 ((m7 a0 a1 a2 a3).f2))),(.val (.int .i64 ((m7 a0 a1 a2 a3).f3))),(.val (.int .i64 ((m7 a0 a1 a2 a3).f4))),(.own 3 (map d_T ((m7 a0 a1 a2 a3).f5)))])]):=by
  unfold m7
  have f0:fullL [(.i a0.f0),(.i a0.f1),(.i a0.f2),(.i a0.f3),(.i a0.f4),(.bor l0_5 (map b_T a0.f5))]=true:=yJ
  have P0 {hs q} (r:PS F X hs q):=(PS.f f0 (.r 5 [] [] (e35 (l0:=0) (a0:=a0) yB yB) r))
  by_cases h0:((m35 a0) !=0)=true
  · try simp only[if_pos h0]
    have f3:pureR []=true:=(by assumption)
    exact cp ya (P0 (.f h0 (.f f3 (.h 12 (.b true) .nil))))
  · try simp only[if_neg h0]
    have P1 {hs q} (r:PS F X hs q):=(P0 (.f (nt h0) (.h 12 (.b false) (.r 16 [] [] (e36 (a0:=a1) (a1:=0) (a2:=999)) r))))
    by_cases h1:(!(m36 a1 0 999))=true
    · try simp only[if_pos h1]
      have f8:pureR []=true:=(by assumption)
      exact cp ya (P1 (.f h1 (.f h1 (.f h1 (.f h1 (.f f8 (.h 21 (.b true) (.h 23 (.b true) (.h 25 (.b true) (.h 28 (.b true) .nil))))))))))
    · try simp only[if_neg h1]
      have P2 {hs q} (r:PS F X hs q):=(P1 (.f (nt h1) (.f (nt h1) (.h 21 (.b false) (.h 23 (.b false) (.r 24 [] [] (e36 (a0:=a2) (a1:=1) (a2:=99999)) (.f (nt h1) (.f (nt h1) (.h 25 (.b false) (.h 28 (.b false) r))))))))))
      by_cases h2:(!(m36 a2 1 99999))=true
      · try simp only[if_pos h2]
        have f13:pureR []=true:=(by assumption)
        exact cp ya (P2 (.f h2 (.f h2 (.f h2 (.f h2 (.f f13 (.h 31 (.b true) (.h 33 (.b true) (.h 35 (.b true) (.h 38 (.b true) .nil))))))))))
      · try simp only[if_neg h2]
        have P3 {hs q} (r:PS F X hs q):=(P2 (.f (nt h2) (.f (nt h2) (.h 31 (.b false) (.h 33 (.b false) (.r 34 [] [] (e36 (a0:=a3) (a1:=0) (a2:=65535)) (.f (nt h2) (.f (nt h2) (.h 35 (.b false) (.h 38 (.b false) r))))))))))
        by_cases h3:(!(m36 a3 0 65535))=true
        · try simp only[if_pos h3]
          have f15:pureR []=true:=(by assumption)
          exact cp ya (P3 (.f h3 (.f f15 (.h 39 (.b true) .nil))))
        · try simp only[if_neg h3]
          have f19:fullL [(.i ((m37 a0 a1 a2 a3).f0)),(.i ((m37 a0 a1 a2 a3).f1)),(.i ((m37 a0 a1 a2 a3).f2)),(.i ((m37 a0 a1 a2 a3).f3)),(.own 3 (map d_T ((m37 a0 a1 a2 a3).f4)))]=true:=(by simp[fullL,full]; done)
          have f20:Ev F X (.call 38 [(.bptr 0 [(.i ((m37 a0 a1 a2 a3).f0)),(.i ((m37 a0 a1 a2 a3).f1)),(.i ((m37 a0 a1 a2 a3).f2)),(.i ((m37 a0 a1 a2 a3).f3)),(.sl (toBR (map d_T ((m37 a0 a1 a2 a3).f4))))])] [] [] [(.oi (m38 (m37 a0 a1 a2 a3)))]):=(by rw[show (toBR (map d_T ((m37 a0 a1 a2 a3).f4)))=(map b_T ((m37 a0 a1 a2 a3).f4)) from by first | rfl |(simp[map_take,map_drop,four_len]; done) |(simp[byteRows_eq,map_take,map_drop,four_len]; done) |(simp[*,map_take,map_drop,four_len]; done) |(rw[take_of_length_le (by simp only[length_drop,length_take,length_map,Int.toNat_natCast]; omega)]; simp only[← map_drop,← map_take])]; exact(e38 (l0:=0) (a0:=(m37 a0 a1 a2 a3)) (by have hj:SmJ a0:=js35 (by simpa using h0); have q:=(ob37 (a1:=a1) (a2:=a2) (a3:=a3) hj).1; omega) (by have hj:SmJ a0:=js35 (by simpa using h0); exact fun z hz=>((ob37 (a1:=a1) (a2:=a2) (a3:=a3) hj).2 z hz).ok)))
          have P4 {hs q} (r:PS F X hs q):=(P3 (.f (nt h3) (.f f0 (.h 39 (.b false) (.r 47 [] [] (e37 (l0:=0) (a0:=a0) (a1:=a1) (a2:=a2) (a3:=a3) yB yB (by have hj:SmJ a0:=js35 (by simpa using h0); exact hj)) (pe 0 (pe (length (map d_T ((m37 a0 a1 a2 a3).f4))) (.f f19 (.r 53 [] [] f20 r)))))))))
          by_cases h4:((m38 (m37 a0 a1 a2 a3)) !=0)=true
          · try simp only[if_pos h4]
            have f22:pureR []=true:=(by assumption)
            exact cp ya (P4 (.f h4 (.f f22 (.h 60 (.b true) .nil))))
          · try simp only[if_neg h4]
            exact cp ya (P4 (.f (nt h4) (pe 0 (pe (length (map d_T ((m37 a0 a1 a2 a3).f4))) (.f (pureR_T ((m37 a0 a1 a2 a3).f4)) (.h 60 (.b false) .nil))))))
theorem okm7 (a0:K_J) (a1:Int) (a2:Int) (a3:Int):ok_J (m7 a0 a1 a2 a3):=by
  by_cases h0:((m35 a0) !=0)=true
  · unfold m7; rw[if_pos h0]; simp[ok_N,ok_U,ok_T,ok_J,ok_G,ok_JL,ok_TL,ok_LiE,ok_NL,ok_UL,ok_LyE,ok_LLyEE]
  · have hj:SmJ a0:=js35 (by simpa using h0)
    have q1:=(ob37 (a1:=a1) (a2:=a2) (a3:=a3) hj).1
    have q2:=fun z hz=>((ob37 (a1:=a1) (a2:=a2) (a3:=a3) hj).2 z hz).ok
    unfold m7; rw[if_neg h0]
    (repeat' split)<;>first | exact⟨by simp only[]; omega,q2⟩ | exact⟨by simp,fun z hz=>by cases hz⟩
/-! loop 167_0 -/
inductive O167_0 where
  |k0 (w0:List Int) (w1:Int) (w2:Bool)
def r167_0 (a0:(List Int)):List Int→Int→List Int→O167_0
  |x0::y0,i,v0=>
    (r167_0 a0 y0 (i+1) (set v0 (toNat i) x0))
  |[],i,v0=>(O167_0.k0 v0 i (decide (i <((length (map b_i a0)):Int))))
def h167_0 (l0_0:Nat) (a0:(List Int)) (i:Int) (v0:List Int):St:=⟨[(0,(.one (.bor l0_0 (map b_i a0)))),(3,(.one (.ref ⟨(3,0,0),[],0,(toNat ((length (map b_i a0)):Int))⟩))),(4,(.one (.val (.int .i64 i))))],[((3,0,0),.live ⟨1,(map d_i v0),[]⟩)]⟩
def ex167_0:O167_0→VX.Exit
  |.k0 _ _ _=>(.exit 0)
def fin167_0 (l0_0:Nat) (a0:(List Int)):O167_0→St
  |.k0 w0 w1 w2=>⟨[(0,(.one (.bor l0_0 (map b_i a0)))),(3,(.one (.ref ⟨(3,0,0),[],0,(toNat ((length (map b_i a0)):Int))⟩))),(4,(.one (.val (.int .i64 w1)))),(11,(.one (.val (.bool w2))))],[((3,0,0),.live ⟨1,(map d_i w0),[]⟩)]⟩
theorem t167_0 {l0_0:Nat} {a0:(List Int)} (hy0:length a0*8≤140737488351232):∀(y0:List Int) (p:List Int) (v0:List Int),p++y0=a0→length v0=(toNat ((length (map b_i a0)):Int))→Ev F X (.code l167_0 (h167_0 l0_0 a0 (length p:Int) v0) (ex167_0 (r167_0 a0 y0 (length p:Int) v0)) (fin167_0 l0_0 a0 (r167_0 a0 y0 (length p:Int) v0)))
  |[],p,v0,hp0,hi0=>by
    have hc:¬(decide ((length p:Int) <((length (map b_i a0)):Int)))=true:=by
      rw[← hp0]; simp only[LN,decide_eq_true_eq]; omega
    have hj0:=hi0; try simp only[LN,Int.toNat_natCast] at hj0
    have st:=ch b167_0 (h167_0 l0_0 a0 (length p:Int) v0) ⟨[(0,(.one (.bor l0_0 (map b_i a0)))),(3,(.one (.ref ⟨(3,0,0),[],0,(toNat ((length (map b_i a0)):Int))⟩))),(4,(.oi (length p:Int))),(11,(.one (.val (.bool (decide ((length p:Int) <((length (map b_i a0)):Int)))))))],[((3,0,0),.live ⟨1,(map d_i v0),[]⟩)]⟩ (.exit 0) 9 (by kernel_rfl) (.f (nt hc) (.h 8 (.b false) .nil))
    rw[show (⟨[(0,(.one (.bor l0_0 (map b_i a0)))),(3,(.one (.ref ⟨(3,0,0),[],0,(toNat ((length (map b_i a0)):Int))⟩))),(4,(.oi (length p:Int))),(11,(.one (.val (.bool (decide ((length p:Int) <((length (map b_i a0)):Int)))))))],[((3,0,0),.live ⟨1,(map d_i v0),[]⟩)]⟩:St)=fin167_0 l0_0 a0 (.k0 v0 (length p:Int) (decide ((length p:Int) <((length (map b_i a0)):Int)))) from(by rfl)] at st
    exact .loopX st (show ((.exit 0):VX.Exit)≠.normal from by simp)
  |x0::y0,p,v0,hp0,hi0=>by
    have hc:(decide ((length p:Int) <((length (map b_i a0)):Int)))=true:=by
      rw[← hp0]; simp only[LN,decide_eq_true_eq]; omega
    have Hx0:(a0)[toNat (length p:Int)]?=some x0:=by
      rw[← hp0,Int.toNat_natCast]; simp
    have hlen:length (a0)=length p+length y0+1:=by rw[← hp0]; simp; omega
    have hw:wrap .i64 ((length p:Int)+1)=(length p:Int)+1:=wrap64 (by omega)
    have hj0:=hi0; try simp only[LN,Int.toNat_natCast] at hj0
    obtain⟨x1,Hx1⟩:∃y,v0[toNat (length p:Int)]?=some y:=⟨_,List.getElem?_eq_getElem (by omega)⟩
    simp only[r167_0]
    have f1:0≤(length p:Int):=(by omega)
    have f3:0+(toNat ((length (map b_i a0)):Int))≤(length (map d_i v0)):=(by simp only[length_map]; omega)
    have f4:0≤(length p:Int)∧(length p:Int) <((toNat ((length (map b_i a0)):Int)):Int):=(by omega)
    have f6:(set (map d_i v0) (0+(toNat (length p:Int))) [(.i x0)])=(map d_i (set v0 (toNat (length p:Int)) x0)):=(by simp[take_of_length_le,d_i,four_len]; done)
    have st:=ch b167_0 (h167_0 l0_0 a0 (length p:Int) v0) ⟨[(0,(.one (.bor l0_0 (map b_i a0)))),(3,(.one (.ref ⟨(3,0,0),[],0,(toNat ((length (map b_i a0)):Int))⟩))),(4,(.oi (wrap .i64 ((length p:Int)+1))))],[((3,0,0),.live ⟨1,(map d_i (set v0 (toNat (length p:Int)) x0)),[]⟩)]⟩ .normal 32 (by kernel_rfl) (.f hc (.f f1 (.f (mp_ b_i Hx0) (.f f3 (.f f4 (.f (mz_ d_i Hx1) (.f f6 (.f trivial (.h 8 (.b true) (.h 18 (.row [(.i x0)]) (.h 24 (.rowD [(.i x1)]) (.h 25 (.norm (3,0,0) (map d_i (set v0 (toNat (length p:Int)) x0))) .nil))))))))))))
    have ih:=t167_0 (l0_0:=l0_0) (a0:=a0) hy0 y0 (p++ [x0]) (set v0 (toNat (length p:Int)) x0) (by rw[append_assoc]; exact hp0) (by simp only[LN]; omega)
    rw[show ((p++ [x0]).length:Int)=(p.length:Int)+1 from by simp] at ih
    rw[show (⟨[(0,(.one (.bor l0_0 (map b_i a0)))),(3,(.one (.ref ⟨(3,0,0),[],0,(toNat ((length (map b_i a0)):Int))⟩))),(4,(.oi (wrap .i64 ((length p:Int)+1))))],[((3,0,0),.live ⟨1,(map d_i (set v0 (toNat (length p:Int)) x0)),[]⟩)]⟩:St)=h167_0 l0_0 a0 ((length p:Int)+1) (set v0 (toNat (length p:Int)) x0) from(by unfold h167_0; simp only[hw]; done)] at st
    exact .loopN st ih
def post167_0 (n0:Nat):O167_0→Prop
  |.k0 w0 _ _=>length w0=n0
theorem z167_0 {a0:(List Int)}:∀(y0:List Int) (i:Int) (v0:List Int),post167_0 (length v0) (r167_0 a0 y0 i v0)
  |[],i,v0=>by
    first | trivial |(simp only[post167_0,length_nil,Nat.add_zero]; done) |(simp[post167_0]; done)
  |x0::y0,i,v0=>by
    simp only[r167_0]
    have z:=z167_0 (a0:=a0) y0 (i+1) (set v0 (toNat i) x0)
    rw[show (length v0)=(length (set v0 (toNat i) x0)) from by first | omega |(simp only[LN]; done) |(simp only[LN]; omega)]
    exact z
/-! loop.example/g00539/laws.toInt64S -/
def m167 (a0:(List Int)):(List Int):=
  (match r167_0 a0 a0 0 (List.replicate (toNat ((length (map b_i a0)):Int)) 0) with | .k0 w0_1 w1_1 w2_1=>w0_1)
theorem e167 {l0_0:Nat} {a0:(List Int)} (hy0:length a0*8≤140737488351232):Ev F X (.call 167 [(.one (.bor l0_0 (map b_i a0)))] [] [] [(.one (.own 1 (map d_i (m167 a0))))]):=by
  unfold m167
  have f0:0≤((length (map b_i a0)):Int)∧((length (map b_i a0)):Int)≤((length (map b_i a0)):Int)∧((length (map b_i a0)):Int)≤140737488355328∧((length (map b_i a0)):Int)*8≤140737488355328:=ys
  have f1:(List.replicate (toNat ((length (map b_i a0)):Int)) [(.i 0)])=(map d_i (List.replicate (toNat ((length (map b_i a0)):Int)) 0)):=yM
  cases h0:r167_0 a0 a0 0 (List.replicate (toNat ((length (map b_i a0)):Int)) 0) with
  |k0 w0_1 w1_1 w2_1=>
    try dsimp only
    have zh0:=z167_0 (a0:=a0) a0 0 (List.replicate (toNat ((length (map b_i a0)):Int)) 0); rw[h0] at zh0; simp only[post167_0,length_map,length_set,length_append,length_replicate,length_cons,length_nil,Int.toNat_natCast] at zh0
    have f2:(⟨[(0,(.one (.bor l0_0 (map b_i a0)))),(3,(.one (.ref ⟨(3,0,0),[],0,(toNat ((length (map b_i a0)):Int))⟩))),(4,(.oi 0))],[((3,0,0),.live ⟨1,(map d_i (List.replicate (toNat ((length (map b_i a0)):Int)) 0)),[]⟩)]⟩:St)=h167_0 l0_0 a0 0 (List.replicate (toNat ((length (map b_i a0)):Int)) 0):=yf
    have f5:(toNat ((length (map b_i a0)):Int))=(length (map d_i w0_1)):=ys
    exact cp ya (.f f0 (.f f1 (.f f2 (.f (ev_ (e:=ex167_0) (g:=(fin167_0 l0_0 a0)) h0 (t167_0 (l0_0:=l0_0) (a0:=a0) (by assumption) a0 [] (List.replicate (toNat ((length (map b_i a0)):Int)) 0) rfl yK)) (pe 0 (.f f5 (.f (pureR_i w0_1) (.h 10 (.norm (3,0,0) (map d_i (List.replicate (toNat ((length (map b_i a0)):Int)) 0))) (.h 13 (.loop (h167_0 l0_0 a0 0 (List.replicate (toNat ((length (map b_i a0)):Int)) 0)) (.exit 0) ⟨[(0,(.one (.bor l0_0 (map b_i a0)))),(3,(.one (.ref ⟨(3,0,0),[],0,(toNat ((length (map b_i a0)):Int))⟩))),(4,(.oi w1_1)),(11,(.one (.val (.bool w2_1))))],[((3,0,0),.live ⟨1,(map d_i w0_1),[]⟩)]⟩) .nil)))))))))
theorem c167_0 (a0:List Int):∀(l p q:List Int),q.length=l.length→∃w1 w2,r167_0 a0 l (p.length:Int) (p++q)=.k0 (p++l) w1 w2
  |[],p,[],_=>⟨_,_,rfl⟩
  |[],_,_::_,h=>by simp at h
  |_::_,_,[],h=>by simp at h
  |x::l,p,y::q,h=>by
    have ih:=c167_0 a0 l (p++ [x]) q yZ
    have e:set (p++y::q) (toNat (p.length:Int)) x=(p++ [x])++q:=by simp
    have e2:((p++ [x]).length:Int)=(p.length:Int)+1:=by simp
    rw[e2] at ih
    simp only[r167_0]
    rw[show p++x::l=(p++ [x])++l by simp]
    first |(rw[e]; exact ih) |(simp only[e]; exact ih)
theorem q167 (a0:(List Int)) (hy0:length a0*8≤140737488351232):(m167 a0)=a0:=by
  have h:=c167_0 a0 a0 [] (List.replicate (toNat ((length (map b_i a0)):Int)) 0) (by simp)
  unfold m167
  simp only[List.nil_append,length_nil] at h
  obtain⟨_,_,h⟩:=h
  rw[show ((0:Nat):Int)=0 from rfl] at h
  rw[h]
theorem g167 {l0_0:Nat} {a0:(List Int)} (hy0:length a0*8≤140737488351232):Ev F X (.call 167 [(.one (.bor l0_0 (map b_i a0)))] [] [] [(.one (.own 1 (map d_i a0)))]):=by
  have t:=e167 (l0_0:=l0_0) (a0:=a0) hy0
  rw[q167 a0 hy0] at t
  exact t
theorem e154 {l0_2:Nat} {a0:K_N} (hy0:length a0.f2*8≤140737488351232):Ev F X (.call 154 [(.agg (k_N l0_2 a0))] [] [] [(.agg (d_N a0))]):=by
  exact cp ya (.r 27 [] [] (g167 (l0_0:=(l0_2+1)) (a0:=a0.f2) ‹_›) (pe 0 (pe (length (map d_i a0.f2)) (pe 0 (pe (length (map d_i a0.f2)) (.f (pureR_i a0.f2) .nil))))))
/-! loop 130_0 -/
inductive O130_0 where
  |k0 (w0:List K_N) (w1:Int) (w2:Bool)
def r130_0 (a0:(List K_N)):List K_N→Int→List K_N→O130_0
  |x0::y0,i,v0=>
    (r130_0 a0 y0 (i+1) (set v0 (toNat i) x0))
  |[],i,v0=>(O130_0.k0 v0 i (decide (i <((length (map b_N a0)):Int))))
def h130_0 (l0_0:Nat) (a0:(List K_N)) (i:Int) (v0:List K_N):St:=⟨[(0,(.one (.bor l0_0 (map b_N a0)))),(3,(.one (.ref ⟨(3,0,0),[],0,(toNat ((length (map b_N a0)):Int))⟩))),(4,(.one (.val (.int .i64 i))))],[((3,0,0),.live ⟨3,(map d_N v0),[]⟩)]⟩
def ex130_0:O130_0→VX.Exit
  |.k0 _ _ _=>(.exit 0)
def fin130_0 (l0_0:Nat) (a0:(List K_N)):O130_0→St
  |.k0 w0 w1 w2=>⟨[(0,(.one (.bor l0_0 (map b_N a0)))),(3,(.one (.ref ⟨(3,0,0),[],0,(toNat ((length (map b_N a0)):Int))⟩))),(4,(.one (.val (.int .i64 w1)))),(11,(.one (.val (.bool w2))))],[((3,0,0),.live ⟨3,(map d_N w0),[]⟩)]⟩
theorem t130_0 {l0_0:Nat} {a0:(List K_N)} (hy0:length a0*40≤140737488351232) (hy1:∀z∈a0,ok_N z):∀(y0:List K_N) (p:List K_N) (v0:List K_N),p++y0=a0→length v0=(toNat ((length (map b_N a0)):Int))→Ev F X (.code l130_0 (h130_0 l0_0 a0 (length p:Int) v0) (ex130_0 (r130_0 a0 y0 (length p:Int) v0)) (fin130_0 l0_0 a0 (r130_0 a0 y0 (length p:Int) v0)))
  |[],p,v0,hp0,hi0=>by
    have hc:¬(decide ((length p:Int) <((length (map b_N a0)):Int)))=true:=by
      rw[← hp0]; simp only[LN,decide_eq_true_eq]; omega
    have hj0:=hi0; try simp only[LN,Int.toNat_natCast] at hj0
    have st:=ch b130_0 (h130_0 l0_0 a0 (length p:Int) v0) ⟨[(0,(.one (.bor l0_0 (map b_N a0)))),(3,(.one (.ref ⟨(3,0,0),[],0,(toNat ((length (map b_N a0)):Int))⟩))),(4,(.oi (length p:Int))),(11,(.one (.val (.bool (decide ((length p:Int) <((length (map b_N a0)):Int)))))))],[((3,0,0),.live ⟨3,(map d_N v0),[]⟩)]⟩ (.exit 0) 9 (by kernel_rfl) (.f (nt hc) (.h 8 (.b false) .nil))
    rw[show (⟨[(0,(.one (.bor l0_0 (map b_N a0)))),(3,(.one (.ref ⟨(3,0,0),[],0,(toNat ((length (map b_N a0)):Int))⟩))),(4,(.oi (length p:Int))),(11,(.one (.val (.bool (decide ((length p:Int) <((length (map b_N a0)):Int)))))))],[((3,0,0),.live ⟨3,(map d_N v0),[]⟩)]⟩:St)=fin130_0 l0_0 a0 (.k0 v0 (length p:Int) (decide ((length p:Int) <((length (map b_N a0)):Int)))) from(by rfl)] at st
    exact .loopX st (show ((.exit 0):VX.Exit)≠.normal from by simp)
  |x0::y0,p,v0,hp0,hi0=>by
    have hc:(decide ((length p:Int) <((length (map b_N a0)):Int)))=true:=by
      rw[← hp0]; simp only[LN,decide_eq_true_eq]; omega
    have Hx0:(a0)[toNat (length p:Int)]?=some x0:=by
      rw[← hp0,Int.toNat_natCast]; simp
    have Mx0_0:=hy1 x0 (List.mem_of_getElem? Hx0)
    have hlen:length (a0)=length p+length y0+1:=by rw[← hp0]; simp; omega
    have hw:wrap .i64 ((length p:Int)+1)=(length p:Int)+1:=wrap64 (by omega)
    have hj0:=hi0; try simp only[LN,Int.toNat_natCast] at hj0
    obtain⟨x1,Hx1⟩:∃y,v0[toNat (length p:Int)]?=some y:=⟨_,List.getElem?_eq_getElem (by omega)⟩
    simp only[r130_0]
    have f1:0≤(length p:Int):=(by omega)
    have f4:0+(toNat ((length (map b_N a0)):Int))≤(length (map d_N v0)):=(by simp only[length_map]; omega)
    have f5:0≤(length p:Int)∧(length p:Int) <((toNat ((length (map b_N a0)):Int)):Int):=(by omega)
    have f9:(set (map d_N v0) (0+(toNat (length p:Int))) (d_N x0))=(map d_N (set v0 (toNat (length p:Int)) x0)):=(by simp[take_of_length_le,d_N,four_len]; done)
    have st:=ch b130_0 (h130_0 l0_0 a0 (length p:Int) v0) ⟨[(0,(.one (.bor l0_0 (map b_N a0)))),(3,(.one (.ref ⟨(3,0,0),[],0,(toNat ((length (map b_N a0)):Int))⟩))),(4,(.oi (wrap .i64 ((length p:Int)+1))))],[((3,0,0),.live ⟨3,(map d_N (set v0 (toNat (length p:Int)) x0)),[]⟩)]⟩ .normal 34 (by kernel_rfl) (.f hc (.f f1 (.f (mp_ b_N Hx0) (.h 8 (.b true) (.h 18 (.row (b_N x0)) (.r 22 [] [] (e154 (l0_2:=(l0_0+1)) (a0:=x0) (by assumption)) (.f f4 (.f f5 (pe 0 (pe (length (map d_i x0.f2)) (.f (mz_ d_N Hx1) (.f f9 (.f trivial (.h 26 (.rowD (d_N x1)) (.h 27 (.norm (3,0,0) (map d_N (set v0 (toNat (length p:Int)) x0))) .nil)))))))))))))))
    have ih:=t130_0 (l0_0:=l0_0) (a0:=a0) hy0 hy1 y0 (p++ [x0]) (set v0 (toNat (length p:Int)) x0) (by rw[append_assoc]; exact hp0) (by simp only[LN]; omega)
    rw[show ((p++ [x0]).length:Int)=(p.length:Int)+1 from by simp] at ih
    rw[show (⟨[(0,(.one (.bor l0_0 (map b_N a0)))),(3,(.one (.ref ⟨(3,0,0),[],0,(toNat ((length (map b_N a0)):Int))⟩))),(4,(.oi (wrap .i64 ((length p:Int)+1))))],[((3,0,0),.live ⟨3,(map d_N (set v0 (toNat (length p:Int)) x0)),[]⟩)]⟩:St)=h130_0 l0_0 a0 ((length p:Int)+1) (set v0 (toNat (length p:Int)) x0) from(by unfold h130_0; simp only[hw]; done)] at st
    exact .loopN st ih
def post130_0 (n0:Nat):O130_0→Prop
  |.k0 w0 _ _=>length w0=n0
theorem z130_0 {a0:(List K_N)}:∀(y0:List K_N) (i:Int) (v0:List K_N),post130_0 (length v0) (r130_0 a0 y0 i v0)
  |[],i,v0=>by
    first | trivial |(simp only[post130_0,length_nil,Nat.add_zero]; done) |(simp[post130_0]; done)
  |x0::y0,i,v0=>by
    simp only[r130_0]
    have z:=z130_0 (a0:=a0) y0 (i+1) (set v0 (toNat i) x0)
    rw[show (length v0)=(length (set v0 (toNat i) x0)) from by first | omega |(simp only[LN]; done) |(simp only[LN]; omega)]
    exact z
/-! loop.example/g00539/laws.toInS -/
def m130 (a0:(List K_N)):(List K_N):=
  (match r130_0 a0 a0 0 (List.replicate (toNat ((length (map b_N a0)):Int)) (K_N.mk 0 0 [])) with | .k0 w0_1 w1_1 w2_1=>w0_1)
theorem e130 {l0_0:Nat} {a0:(List K_N)} (hy0:length a0*40≤140737488351232) (hy1:∀z∈a0,ok_N z):Ev F X (.call 130 [(.one (.bor l0_0 (map b_N a0)))] [] [] [(.one (.own 3 (map d_N (m130 a0))))]):=by
  unfold m130
  have f0:0≤((length (map b_N a0)):Int)∧((length (map b_N a0)):Int)≤((length (map b_N a0)):Int)∧((length (map b_N a0)):Int)≤140737488355328∧((length (map b_N a0)):Int)*40≤140737488355328:=ys
  have f1:(List.replicate (toNat ((length (map b_N a0)):Int)) [(.i 0),(.i 0),(.own 1 [])])=(map d_N (List.replicate (toNat ((length (map b_N a0)):Int)) (K_N.mk 0 0 []))):=(by simp[take_of_length_le,d_N,four_len]; done)
  cases h0:r130_0 a0 a0 0 (List.replicate (toNat ((length (map b_N a0)):Int)) (K_N.mk 0 0 [])) with
  |k0 w0_1 w1_1 w2_1=>
    try dsimp only
    have zh0:=z130_0 (a0:=a0) a0 0 (List.replicate (toNat ((length (map b_N a0)):Int)) (K_N.mk 0 0 [])); rw[h0] at zh0; simp only[post130_0,length_map,length_set,length_append,length_replicate,length_cons,length_nil,Int.toNat_natCast] at zh0
    have f2:(⟨[(0,(.one (.bor l0_0 (map b_N a0)))),(3,(.one (.ref ⟨(3,0,0),[],0,(toNat ((length (map b_N a0)):Int))⟩))),(4,(.oi 0))],[((3,0,0),.live ⟨3,(map d_N (List.replicate (toNat ((length (map b_N a0)):Int)) (K_N.mk 0 0 []))),[]⟩)]⟩:St)=h130_0 l0_0 a0 0 (List.replicate (toNat ((length (map b_N a0)):Int)) (K_N.mk 0 0 [])):=yf
    have f5:(toNat ((length (map b_N a0)):Int))=(length (map d_N w0_1)):=ys
    exact cp ya (.f f0 (.f f1 (.f f2 (.f (ev_ (e:=ex130_0) (g:=(fin130_0 l0_0 a0)) h0 (t130_0 (l0_0:=l0_0) (a0:=a0) (by assumption) (by assumption) a0 [] (List.replicate (toNat ((length (map b_N a0)):Int)) (K_N.mk 0 0 [])) rfl yK)) (pe 0 (.f f5 (.f (pureR_N w0_1) (.h 10 (.norm (3,0,0) (map d_N (List.replicate (toNat ((length (map b_N a0)):Int)) (K_N.mk 0 0 [])))) (.h 13 (.loop (h130_0 l0_0 a0 0 (List.replicate (toNat ((length (map b_N a0)):Int)) (K_N.mk 0 0 []))) (.exit 0) ⟨[(0,(.one (.bor l0_0 (map b_N a0)))),(3,(.one (.ref ⟨(3,0,0),[],0,(toNat ((length (map b_N a0)):Int))⟩))),(4,(.oi w1_1)),(11,(.one (.val (.bool w2_1))))],[((3,0,0),.live ⟨3,(map d_N w0_1),[]⟩)]⟩) .nil)))))))))
theorem c130_0 (a0:List K_N):∀(l p q:List K_N),q.length=l.length→∃w1 w2,r130_0 a0 l (p.length:Int) (p++q)=.k0 (p++l) w1 w2
  |[],p,[],_=>⟨_,_,rfl⟩
  |[],_,_::_,h=>by simp at h
  |_::_,_,[],h=>by simp at h
  |x::l,p,y::q,h=>by
    have ih:=c130_0 a0 l (p++ [x]) q yZ
    have e:set (p++y::q) (toNat (p.length:Int)) x=(p++ [x])++q:=by simp
    have e2:((p++ [x]).length:Int)=(p.length:Int)+1:=by simp
    rw[e2] at ih
    simp only[r130_0]
    rw[show p++x::l=(p++ [x])++l by simp]
    first |(rw[e]; exact ih) |(simp only[e]; exact ih)
theorem q130 (a0:(List K_N)) (hy0:length a0*40≤140737488351232) (hy1:∀z∈a0,ok_N z):(m130 a0)=a0:=by
  have h:=c130_0 a0 a0 [] (List.replicate (toNat ((length (map b_N a0)):Int)) (K_N.mk 0 0 [])) (by simp)
  unfold m130
  simp only[List.nil_append,length_nil] at h
  obtain⟨_,_,h⟩:=h
  rw[show ((0:Nat):Int)=0 from rfl] at h
  rw[h]
theorem g130 {l0_0:Nat} {a0:(List K_N)} (hy0:length a0*40≤140737488351232) (hy1:∀z∈a0,ok_N z):Ev F X (.call 130 [(.one (.bor l0_0 (map b_N a0)))] [] [] [(.one (.own 3 (map d_N a0)))]):=by
  have t:=e130 (l0_0:=l0_0) (a0:=a0) hy0 hy1
  rw[q130 a0 hy0 hy1] at t
  exact t
theorem e155 {l0_1:Nat} {a0:K_U} (hy0:length a0.f1*8≤140737488351232):Ev F X (.call 155 [(.agg (k_U l0_1 a0))] [] [] [(.agg (d_U a0))]):=by
  exact cp ya (.r 19 [] [] (g167 (l0_0:=(l0_1+1)) (a0:=a0.f1) ‹_›) (pe 0 (pe (length (map d_i a0.f1)) (pe 0 (pe (length (map d_i a0.f1)) (.f (pureR_i a0.f1) .nil))))))
/-! loop 131_0 -/
inductive O131_0 where
  |k0 (w0:List K_U) (w1:Int) (w2:Bool)
def r131_0 (a0:(List K_U)):List K_U→Int→List K_U→O131_0
  |x0::y0,i,v0=>
    (r131_0 a0 y0 (i+1) (set v0 (toNat i) x0))
  |[],i,v0=>(O131_0.k0 v0 i (decide (i <((length (map b_U a0)):Int))))
def h131_0 (l0_0:Nat) (a0:(List K_U)) (i:Int) (v0:List K_U):St:=⟨[(0,(.one (.bor l0_0 (map b_U a0)))),(3,(.one (.ref ⟨(3,0,0),[],0,(toNat ((length (map b_U a0)):Int))⟩))),(4,(.one (.val (.int .i64 i))))],[((3,0,0),.live ⟨2,(map d_U v0),[]⟩)]⟩
def ex131_0:O131_0→VX.Exit
  |.k0 _ _ _=>(.exit 0)
def fin131_0 (l0_0:Nat) (a0:(List K_U)):O131_0→St
  |.k0 w0 w1 w2=>⟨[(0,(.one (.bor l0_0 (map b_U a0)))),(3,(.one (.ref ⟨(3,0,0),[],0,(toNat ((length (map b_U a0)):Int))⟩))),(4,(.one (.val (.int .i64 w1)))),(11,(.one (.val (.bool w2))))],[((3,0,0),.live ⟨2,(map d_U w0),[]⟩)]⟩
theorem t131_0 {l0_0:Nat} {a0:(List K_U)} (hy0:length a0*32≤140737488351232) (hy1:∀z∈a0,ok_U z):∀(y0:List K_U) (p:List K_U) (v0:List K_U),p++y0=a0→length v0=(toNat ((length (map b_U a0)):Int))→Ev F X (.code l131_0 (h131_0 l0_0 a0 (length p:Int) v0) (ex131_0 (r131_0 a0 y0 (length p:Int) v0)) (fin131_0 l0_0 a0 (r131_0 a0 y0 (length p:Int) v0)))
  |[],p,v0,hp0,hi0=>by
    have hc:¬(decide ((length p:Int) <((length (map b_U a0)):Int)))=true:=by
      rw[← hp0]; simp only[LN,decide_eq_true_eq]; omega
    have hj0:=hi0; try simp only[LN,Int.toNat_natCast] at hj0
    have st:=ch b131_0 (h131_0 l0_0 a0 (length p:Int) v0) ⟨[(0,(.one (.bor l0_0 (map b_U a0)))),(3,(.one (.ref ⟨(3,0,0),[],0,(toNat ((length (map b_U a0)):Int))⟩))),(4,(.oi (length p:Int))),(11,(.one (.val (.bool (decide ((length p:Int) <((length (map b_U a0)):Int)))))))],[((3,0,0),.live ⟨2,(map d_U v0),[]⟩)]⟩ (.exit 0) 9 (by kernel_rfl) (.f (nt hc) (.h 8 (.b false) .nil))
    rw[show (⟨[(0,(.one (.bor l0_0 (map b_U a0)))),(3,(.one (.ref ⟨(3,0,0),[],0,(toNat ((length (map b_U a0)):Int))⟩))),(4,(.oi (length p:Int))),(11,(.one (.val (.bool (decide ((length p:Int) <((length (map b_U a0)):Int)))))))],[((3,0,0),.live ⟨2,(map d_U v0),[]⟩)]⟩:St)=fin131_0 l0_0 a0 (.k0 v0 (length p:Int) (decide ((length p:Int) <((length (map b_U a0)):Int)))) from(by rfl)] at st
    exact .loopX st (show ((.exit 0):VX.Exit)≠.normal from by simp)
  |x0::y0,p,v0,hp0,hi0=>by
    have hc:(decide ((length p:Int) <((length (map b_U a0)):Int)))=true:=by
      rw[← hp0]; simp only[LN,decide_eq_true_eq]; omega
    have Hx0:(a0)[toNat (length p:Int)]?=some x0:=by
      rw[← hp0,Int.toNat_natCast]; simp
    have Mx0_0:=hy1 x0 (List.mem_of_getElem? Hx0)
    have hlen:length (a0)=length p+length y0+1:=by rw[← hp0]; simp; omega
    have hw:wrap .i64 ((length p:Int)+1)=(length p:Int)+1:=wrap64 (by omega)
    have hj0:=hi0; try simp only[LN,Int.toNat_natCast] at hj0
    obtain⟨x1,Hx1⟩:∃y,v0[toNat (length p:Int)]?=some y:=⟨_,List.getElem?_eq_getElem (by omega)⟩
    simp only[r131_0]
    have f1:0≤(length p:Int):=(by omega)
    have f4:0+(toNat ((length (map b_U a0)):Int))≤(length (map d_U v0)):=(by simp only[length_map]; omega)
    have f5:0≤(length p:Int)∧(length p:Int) <((toNat ((length (map b_U a0)):Int)):Int):=(by omega)
    have f9:(set (map d_U v0) (0+(toNat (length p:Int))) (d_U x0))=(map d_U (set v0 (toNat (length p:Int)) x0)):=(by simp[take_of_length_le,d_U,four_len]; done)
    have st:=ch b131_0 (h131_0 l0_0 a0 (length p:Int) v0) ⟨[(0,(.one (.bor l0_0 (map b_U a0)))),(3,(.one (.ref ⟨(3,0,0),[],0,(toNat ((length (map b_U a0)):Int))⟩))),(4,(.oi (wrap .i64 ((length p:Int)+1))))],[((3,0,0),.live ⟨2,(map d_U (set v0 (toNat (length p:Int)) x0)),[]⟩)]⟩ .normal 34 (by kernel_rfl) (.f hc (.f f1 (.f (mp_ b_U Hx0) (.h 8 (.b true) (.h 18 (.row (b_U x0)) (.r 22 [] [] (e155 (l0_1:=(l0_0+1)) (a0:=x0) (by assumption)) (.f f4 (.f f5 (pe 0 (pe (length (map d_i x0.f1)) (.f (mz_ d_U Hx1) (.f f9 (.f trivial (.h 26 (.rowD (d_U x1)) (.h 27 (.norm (3,0,0) (map d_U (set v0 (toNat (length p:Int)) x0))) .nil)))))))))))))))
    have ih:=t131_0 (l0_0:=l0_0) (a0:=a0) hy0 hy1 y0 (p++ [x0]) (set v0 (toNat (length p:Int)) x0) (by rw[append_assoc]; exact hp0) (by simp only[LN]; omega)
    rw[show ((p++ [x0]).length:Int)=(p.length:Int)+1 from by simp] at ih
    rw[show (⟨[(0,(.one (.bor l0_0 (map b_U a0)))),(3,(.one (.ref ⟨(3,0,0),[],0,(toNat ((length (map b_U a0)):Int))⟩))),(4,(.oi (wrap .i64 ((length p:Int)+1))))],[((3,0,0),.live ⟨2,(map d_U (set v0 (toNat (length p:Int)) x0)),[]⟩)]⟩:St)=h131_0 l0_0 a0 ((length p:Int)+1) (set v0 (toNat (length p:Int)) x0) from(by unfold h131_0; simp only[hw]; done)] at st
    exact .loopN st ih
def post131_0 (n0:Nat):O131_0→Prop
  |.k0 w0 _ _=>length w0=n0
theorem z131_0 {a0:(List K_U)}:∀(y0:List K_U) (i:Int) (v0:List K_U),post131_0 (length v0) (r131_0 a0 y0 i v0)
  |[],i,v0=>by
    first | trivial |(simp only[post131_0,length_nil,Nat.add_zero]; done) |(simp[post131_0]; done)
  |x0::y0,i,v0=>by
    simp only[r131_0]
    have z:=z131_0 (a0:=a0) y0 (i+1) (set v0 (toNat i) x0)
    rw[show (length v0)=(length (set v0 (toNat i) x0)) from by first | omega |(simp only[LN]; done) |(simp only[LN]; omega)]
    exact z
/-! loop.example/g00539/laws.toOutS -/
def m131 (a0:(List K_U)):(List K_U):=
  (match r131_0 a0 a0 0 (List.replicate (toNat ((length (map b_U a0)):Int)) (K_U.mk 0 [])) with | .k0 w0_1 w1_1 w2_1=>w0_1)
theorem e131 {l0_0:Nat} {a0:(List K_U)} (hy0:length a0*32≤140737488351232) (hy1:∀z∈a0,ok_U z):Ev F X (.call 131 [(.one (.bor l0_0 (map b_U a0)))] [] [] [(.one (.own 2 (map d_U (m131 a0))))]):=by
  unfold m131
  have f0:0≤((length (map b_U a0)):Int)∧((length (map b_U a0)):Int)≤((length (map b_U a0)):Int)∧((length (map b_U a0)):Int)≤140737488355328∧((length (map b_U a0)):Int)*32≤140737488355328:=ys
  have f1:(List.replicate (toNat ((length (map b_U a0)):Int)) [(.i 0),(.own 1 [])])=(map d_U (List.replicate (toNat ((length (map b_U a0)):Int)) (K_U.mk 0 []))):=(by simp[take_of_length_le,d_U,four_len]; done)
  cases h0:r131_0 a0 a0 0 (List.replicate (toNat ((length (map b_U a0)):Int)) (K_U.mk 0 [])) with
  |k0 w0_1 w1_1 w2_1=>
    try dsimp only
    have zh0:=z131_0 (a0:=a0) a0 0 (List.replicate (toNat ((length (map b_U a0)):Int)) (K_U.mk 0 [])); rw[h0] at zh0; simp only[post131_0,length_map,length_set,length_append,length_replicate,length_cons,length_nil,Int.toNat_natCast] at zh0
    have f2:(⟨[(0,(.one (.bor l0_0 (map b_U a0)))),(3,(.one (.ref ⟨(3,0,0),[],0,(toNat ((length (map b_U a0)):Int))⟩))),(4,(.oi 0))],[((3,0,0),.live ⟨2,(map d_U (List.replicate (toNat ((length (map b_U a0)):Int)) (K_U.mk 0 []))),[]⟩)]⟩:St)=h131_0 l0_0 a0 0 (List.replicate (toNat ((length (map b_U a0)):Int)) (K_U.mk 0 [])):=yf
    have f5:(toNat ((length (map b_U a0)):Int))=(length (map d_U w0_1)):=ys
    exact cp ya (.f f0 (.f f1 (.f f2 (.f (ev_ (e:=ex131_0) (g:=(fin131_0 l0_0 a0)) h0 (t131_0 (l0_0:=l0_0) (a0:=a0) (by assumption) (by assumption) a0 [] (List.replicate (toNat ((length (map b_U a0)):Int)) (K_U.mk 0 [])) rfl yK)) (pe 0 (.f f5 (.f (pureR_U w0_1) (.h 10 (.norm (3,0,0) (map d_U (List.replicate (toNat ((length (map b_U a0)):Int)) (K_U.mk 0 [])))) (.h 13 (.loop (h131_0 l0_0 a0 0 (List.replicate (toNat ((length (map b_U a0)):Int)) (K_U.mk 0 []))) (.exit 0) ⟨[(0,(.one (.bor l0_0 (map b_U a0)))),(3,(.one (.ref ⟨(3,0,0),[],0,(toNat ((length (map b_U a0)):Int))⟩))),(4,(.oi w1_1)),(11,(.one (.val (.bool w2_1))))],[((3,0,0),.live ⟨2,(map d_U w0_1),[]⟩)]⟩) .nil)))))))))
theorem c131_0 (a0:List K_U):∀(l p q:List K_U),q.length=l.length→∃w1 w2,r131_0 a0 l (p.length:Int) (p++q)=.k0 (p++l) w1 w2
  |[],p,[],_=>⟨_,_,rfl⟩
  |[],_,_::_,h=>by simp at h
  |_::_,_,[],h=>by simp at h
  |x::l,p,y::q,h=>by
    have ih:=c131_0 a0 l (p++ [x]) q yZ
    have e:set (p++y::q) (toNat (p.length:Int)) x=(p++ [x])++q:=by simp
    have e2:((p++ [x]).length:Int)=(p.length:Int)+1:=by simp
    rw[e2] at ih
    simp only[r131_0]
    rw[show p++x::l=(p++ [x])++l by simp]
    first |(rw[e]; exact ih) |(simp only[e]; exact ih)
theorem q131 (a0:(List K_U)) (hy0:length a0*32≤140737488351232) (hy1:∀z∈a0,ok_U z):(m131 a0)=a0:=by
  have h:=c131_0 a0 a0 [] (List.replicate (toNat ((length (map b_U a0)):Int)) (K_U.mk 0 [])) (by simp)
  unfold m131
  simp only[List.nil_append,length_nil] at h
  obtain⟨_,_,h⟩:=h
  rw[show ((0:Nat):Int)=0 from rfl] at h
  rw[h]
theorem g131 {l0_0:Nat} {a0:(List K_U)} (hy0:length a0*32≤140737488351232) (hy1:∀z∈a0,ok_U z):Ev F X (.call 131 [(.one (.bor l0_0 (map b_U a0)))] [] [] [(.one (.own 2 (map d_U a0)))]):=by
  have t:=e131 (l0_0:=l0_0) (a0:=a0) hy0 hy1
  rw[q131 a0 hy0 hy1] at t
  exact t
theorem e100 {l0_1:Nat} {l0_2:Nat} {a0:K_T} (hy0:length a0.f1*40≤140737488351232) (hy1:∀z∈a0.f1,ok_N z) (hy2:length a0.f2*32≤140737488351232) (hy3:∀z∈a0.f2,ok_U z):Ev F X (.call 100 [(.agg (k_T l0_1 l0_2 a0))] [] [] [(.agg (d_T a0))]):=by
  exact cp ya (.r 19 [] [] (g130 (l0_0:=(l0_1+1)) (a0:=a0.f1) ‹_› ‹_›) (pe 0 (pe (length (map d_N a0.f1)) (.r 29 [] [] (g131 (l0_0:=(l0_2+1)) (a0:=a0.f2) ‹_› ‹_›) (pe 0 (pe (length (map d_U a0.f2)) (pe 0 (pe (length (map d_N a0.f1)) (pe 0 (pe (length (map d_U a0.f2)) (.f (pureR_N a0.f1) (.f (pureR_U a0.f2) .nil))))))))))))
/-! loop 71_0 -/
inductive O71_0 where
  |k0 (w0:List K_T) (w1:Int) (w2:Bool)
def r71_0 (a0:(List K_T)):List K_T→Int→List K_T→O71_0
  |x0::y0,i,v0=>
    (r71_0 a0 y0 (i+1) (set v0 (toNat i) x0))
  |[],i,v0=>(O71_0.k0 v0 i (decide (i <((length (map b_T a0)):Int))))
def h71_0 (l0_0:Nat) (a0:(List K_T)) (i:Int) (v0:List K_T):St:=⟨[(0,(.one (.bor l0_0 (map b_T a0)))),(3,(.one (.ref ⟨(3,0,0),[],0,(toNat ((length (map b_T a0)):Int))⟩))),(4,(.one (.val (.int .i64 i))))],[((3,0,0),.live ⟨3,(map d_T v0),[]⟩)]⟩
def ex71_0:O71_0→VX.Exit
  |.k0 _ _ _=>(.exit 0)
def fin71_0 (l0_0:Nat) (a0:(List K_T)):O71_0→St
  |.k0 w0 w1 w2=>⟨[(0,(.one (.bor l0_0 (map b_T a0)))),(3,(.one (.ref ⟨(3,0,0),[],0,(toNat ((length (map b_T a0)):Int))⟩))),(4,(.one (.val (.int .i64 w1)))),(11,(.one (.val (.bool w2))))],[((3,0,0),.live ⟨3,(map d_T w0),[]⟩)]⟩
theorem t71_0 {l0_0:Nat} {a0:(List K_T)} (hy0:length a0*56≤140737488351232) (hy1:∀z∈a0,ok_T z):∀(y0:List K_T) (p:List K_T) (v0:List K_T),p++y0=a0→length v0=(toNat ((length (map b_T a0)):Int))→Ev F X (.code l71_0 (h71_0 l0_0 a0 (length p:Int) v0) (ex71_0 (r71_0 a0 y0 (length p:Int) v0)) (fin71_0 l0_0 a0 (r71_0 a0 y0 (length p:Int) v0)))
  |[],p,v0,hp0,hi0=>by
    have hc:¬(decide ((length p:Int) <((length (map b_T a0)):Int)))=true:=by
      rw[← hp0]; simp only[LN,decide_eq_true_eq]; omega
    have hj0:=hi0; try simp only[LN,Int.toNat_natCast] at hj0
    have st:=ch b71_0 (h71_0 l0_0 a0 (length p:Int) v0) ⟨[(0,(.one (.bor l0_0 (map b_T a0)))),(3,(.one (.ref ⟨(3,0,0),[],0,(toNat ((length (map b_T a0)):Int))⟩))),(4,(.oi (length p:Int))),(11,(.one (.val (.bool (decide ((length p:Int) <((length (map b_T a0)):Int)))))))],[((3,0,0),.live ⟨3,(map d_T v0),[]⟩)]⟩ (.exit 0) 9 (by kernel_rfl) (.f (nt hc) (.h 8 (.b false) .nil))
    rw[show (⟨[(0,(.one (.bor l0_0 (map b_T a0)))),(3,(.one (.ref ⟨(3,0,0),[],0,(toNat ((length (map b_T a0)):Int))⟩))),(4,(.oi (length p:Int))),(11,(.one (.val (.bool (decide ((length p:Int) <((length (map b_T a0)):Int)))))))],[((3,0,0),.live ⟨3,(map d_T v0),[]⟩)]⟩:St)=fin71_0 l0_0 a0 (.k0 v0 (length p:Int) (decide ((length p:Int) <((length (map b_T a0)):Int)))) from(by rfl)] at st
    exact .loopX st (show ((.exit 0):VX.Exit)≠.normal from by simp)
  |x0::y0,p,v0,hp0,hi0=>by
    have hc:(decide ((length p:Int) <((length (map b_T a0)):Int)))=true:=by
      rw[← hp0]; simp only[LN,decide_eq_true_eq]; omega
    have Hx0:(a0)[toNat (length p:Int)]?=some x0:=by
      rw[← hp0,Int.toNat_natCast]; simp
    obtain⟨Mx0_0,Mx0_1,Mx0_2,Mx0_3⟩:=hy1 x0 (List.mem_of_getElem? Hx0)
    have hlen:length (a0)=length p+length y0+1:=by rw[← hp0]; simp; omega
    have hw:wrap .i64 ((length p:Int)+1)=(length p:Int)+1:=wrap64 (by omega)
    have hj0:=hi0; try simp only[LN,Int.toNat_natCast] at hj0
    obtain⟨x1,Hx1⟩:∃y,v0[toNat (length p:Int)]?=some y:=⟨_,List.getElem?_eq_getElem (by omega)⟩
    simp only[r71_0]
    have f1:0≤(length p:Int):=(by omega)
    have f4:0+(toNat ((length (map b_T a0)):Int))≤(length (map d_T v0)):=(by simp only[length_map]; omega)
    have f5:0≤(length p:Int)∧(length p:Int) <((toNat ((length (map b_T a0)):Int)):Int):=(by omega)
    have f11:(set (map d_T v0) (0+(toNat (length p:Int))) (d_T x0))=(map d_T (set v0 (toNat (length p:Int)) x0)):=(by simp[take_of_length_le,d_T,four_len]; done)
    have st:=ch b71_0 (h71_0 l0_0 a0 (length p:Int) v0) ⟨[(0,(.one (.bor l0_0 (map b_T a0)))),(3,(.one (.ref ⟨(3,0,0),[],0,(toNat ((length (map b_T a0)):Int))⟩))),(4,(.oi (wrap .i64 ((length p:Int)+1))))],[((3,0,0),.live ⟨3,(map d_T (set v0 (toNat (length p:Int)) x0)),[]⟩)]⟩ .normal 34 (by kernel_rfl) (.f hc (.f f1 (.f (mp_ b_T Hx0) (.h 8 (.b true) (.h 18 (.row (b_T x0)) (.r 22 [] [] (e100 (l0_1:=(l0_0+1)) (l0_2:=(l0_0+1)) (a0:=x0) ‹_› ‹_› ‹_› ‹_›) (.f f4 (.f f5 (pe 0 (pe (length (map d_N x0.f1)) (pe 0 (pe (length (map d_U x0.f2)) (.f (mz_ d_T Hx1) (.f f11 (.f trivial (.h 26 (.rowD (d_T x1)) (.h 27 (.norm (3,0,0) (map d_T (set v0 (toNat (length p:Int)) x0))) .nil)))))))))))))))))
    have ih:=t71_0 (l0_0:=l0_0) (a0:=a0) hy0 hy1 y0 (p++ [x0]) (set v0 (toNat (length p:Int)) x0) (by rw[append_assoc]; exact hp0) (by simp only[LN]; omega)
    rw[show ((p++ [x0]).length:Int)=(p.length:Int)+1 from by simp] at ih
    rw[show (⟨[(0,(.one (.bor l0_0 (map b_T a0)))),(3,(.one (.ref ⟨(3,0,0),[],0,(toNat ((length (map b_T a0)):Int))⟩))),(4,(.oi (wrap .i64 ((length p:Int)+1))))],[((3,0,0),.live ⟨3,(map d_T (set v0 (toNat (length p:Int)) x0)),[]⟩)]⟩:St)=h71_0 l0_0 a0 ((length p:Int)+1) (set v0 (toNat (length p:Int)) x0) from(by unfold h71_0; simp only[hw]; done)] at st
    exact .loopN st ih
def post71_0 (n0:Nat):O71_0→Prop
  |.k0 w0 _ _=>length w0=n0
theorem z71_0 {a0:(List K_T)}:∀(y0:List K_T) (i:Int) (v0:List K_T),post71_0 (length v0) (r71_0 a0 y0 i v0)
  |[],i,v0=>by
    first | trivial |(simp only[post71_0,length_nil,Nat.add_zero]; done) |(simp[post71_0]; done)
  |x0::y0,i,v0=>by
    simp only[r71_0]
    have z:=z71_0 (a0:=a0) y0 (i+1) (set v0 (toNat i) x0)
    rw[show (length v0)=(length (set v0 (toNat i) x0)) from by first | omega |(simp only[LN]; done) |(simp only[LN]; omega)]
    exact z
/-! loop.example/g00539/laws.toTxS -/
def m71 (a0:(List K_T)):(List K_T):=
  (match r71_0 a0 a0 0 (List.replicate (toNat ((length (map b_T a0)):Int)) (K_T.mk 0 [] [])) with | .k0 w0_1 w1_1 w2_1=>w0_1)
theorem e71 {l0_0:Nat} {a0:(List K_T)} (hy0:length a0*56≤140737488351232) (hy1:∀z∈a0,ok_T z):Ev F X (.call 71 [(.one (.bor l0_0 (map b_T a0)))] [] [] [(.one (.own 3 (map d_T (m71 a0))))]):=by
  unfold m71
  have f0:0≤((length (map b_T a0)):Int)∧((length (map b_T a0)):Int)≤((length (map b_T a0)):Int)∧((length (map b_T a0)):Int)≤140737488355328∧((length (map b_T a0)):Int)*56≤140737488355328:=ys
  have f1:(List.replicate (toNat ((length (map b_T a0)):Int)) [(.i 0),(.own 3 []),(.own 2 [])])=(map d_T (List.replicate (toNat ((length (map b_T a0)):Int)) (K_T.mk 0 [] []))):=(by simp[take_of_length_le,d_T,four_len]; done)
  cases h0:r71_0 a0 a0 0 (List.replicate (toNat ((length (map b_T a0)):Int)) (K_T.mk 0 [] [])) with
  |k0 w0_1 w1_1 w2_1=>
    try dsimp only
    have zh0:=z71_0 (a0:=a0) a0 0 (List.replicate (toNat ((length (map b_T a0)):Int)) (K_T.mk 0 [] [])); rw[h0] at zh0; simp only[post71_0,length_map,length_set,length_append,length_replicate,length_cons,length_nil,Int.toNat_natCast] at zh0
    have f2:(⟨[(0,(.one (.bor l0_0 (map b_T a0)))),(3,(.one (.ref ⟨(3,0,0),[],0,(toNat ((length (map b_T a0)):Int))⟩))),(4,(.oi 0))],[((3,0,0),.live ⟨3,(map d_T (List.replicate (toNat ((length (map b_T a0)):Int)) (K_T.mk 0 [] []))),[]⟩)]⟩:St)=h71_0 l0_0 a0 0 (List.replicate (toNat ((length (map b_T a0)):Int)) (K_T.mk 0 [] [])):=yf
    have f5:(toNat ((length (map b_T a0)):Int))=(length (map d_T w0_1)):=ys
    exact cp ya (.f f0 (.f f1 (.f f2 (.f (ev_ (e:=ex71_0) (g:=(fin71_0 l0_0 a0)) h0 (t71_0 (l0_0:=l0_0) (a0:=a0) (by assumption) (by assumption) a0 [] (List.replicate (toNat ((length (map b_T a0)):Int)) (K_T.mk 0 [] [])) rfl yK)) (pe 0 (.f f5 (.f (pureR_T w0_1) (.h 10 (.norm (3,0,0) (map d_T (List.replicate (toNat ((length (map b_T a0)):Int)) (K_T.mk 0 [] [])))) (.h 13 (.loop (h71_0 l0_0 a0 0 (List.replicate (toNat ((length (map b_T a0)):Int)) (K_T.mk 0 [] []))) (.exit 0) ⟨[(0,(.one (.bor l0_0 (map b_T a0)))),(3,(.one (.ref ⟨(3,0,0),[],0,(toNat ((length (map b_T a0)):Int))⟩))),(4,(.oi w1_1)),(11,(.one (.val (.bool w2_1))))],[((3,0,0),.live ⟨3,(map d_T w0_1),[]⟩)]⟩) .nil)))))))))
theorem c71_0 (a0:List K_T):∀(l p q:List K_T),q.length=l.length→∃w1 w2,r71_0 a0 l (p.length:Int) (p++q)=.k0 (p++l) w1 w2
  |[],p,[],_=>⟨_,_,rfl⟩
  |[],_,_::_,h=>by simp at h
  |_::_,_,[],h=>by simp at h
  |x::l,p,y::q,h=>by
    have ih:=c71_0 a0 l (p++ [x]) q yZ
    have e:set (p++y::q) (toNat (p.length:Int)) x=(p++ [x])++q:=by simp
    have e2:((p++ [x]).length:Int)=(p.length:Int)+1:=by simp
    rw[e2] at ih
    simp only[r71_0]
    rw[show p++x::l=(p++ [x])++l by simp]
    first |(rw[e]; exact ih) |(simp only[e]; exact ih)
theorem q71 (a0:(List K_T)) (hy0:length a0*56≤140737488351232) (hy1:∀z∈a0,ok_T z):(m71 a0)=a0:=by
  have h:=c71_0 a0 a0 [] (List.replicate (toNat ((length (map b_T a0)):Int)) (K_T.mk 0 [] [])) (by simp)
  unfold m71
  simp only[List.nil_append,length_nil] at h
  obtain⟨_,_,h⟩:=h
  rw[show ((0:Nat):Int)=0 from rfl] at h
  rw[h]
theorem g71 {l0_0:Nat} {a0:(List K_T)} (hy0:length a0*56≤140737488351232) (hy1:∀z∈a0,ok_T z):Ev F X (.call 71 [(.one (.bor l0_0 (map b_T a0)))] [] [] [(.one (.own 3 (map d_T a0)))]):=by
  have t:=e71 (l0_0:=l0_0) (a0:=a0) hy0 hy1
  rw[q71 a0 hy0 hy1] at t
  exact t
theorem e39 {l0_4:Nat} {a0:K_G} (hy0:length a0.f4*56≤140737488351232) (hy1:∀z∈a0.f4,ok_T z):Ev F X (.call 39 [(.agg (k_G l0_4 a0))] [] [] [(.agg (d_G a0))]):=by
  exact cp ya (.r 43 [] [] (g71 (l0_0:=(l0_4+1)) (a0:=a0.f4) ‹_› ‹_›) (pe 0 (pe (length (map d_T a0.f4)) (pe 0 (pe (length (map d_T a0.f4)) (.f (pureR_T a0.f4) .nil))))))
theorem e8 {l0_5:Nat} {a0:K_J} (hy0:length a0.f5*56≤140737488351232) (hy1:∀z∈a0.f5,ok_T z):Ev F X (.call 8 [(.agg (k_J l0_5 a0))] [] [] [(.agg (d_J a0))]):=by
  exact cp ya (.r 19 [] [] (e39 (l0_4:=(l0_5+1)) (a0:=(K_G.mk a0.f1 a0.f2 a0.f3 a0.f4 a0.f5)) ‹_› ‹_›) (pe 0 (pe (length (map d_T a0.f5)) (pe 0 (pe (length (map d_T a0.f5)) (.f (pureR_T a0.f5) .nil))))))
/-! loop.example/g00539/impl.in -/
def m41 (a0:Int) (a1:Int) (a2:Int):Bool:=
  if(decide (a0≥a1))=true then(decide (a0≤a2)) else
  false
theorem e41 {a0:Int} {a1:Int} {a2:Int}:Ev F X (.call 41 [(.one (.val (.int .i64 a0))),(.one (.val (.int .i64 a1))),(.one (.val (.int .i64 a2)))] [] [] [(.one (.val (.bool (m41 a0 a1 a2))))]):=by
  unfold m41
  by_cases h0:(decide (a0≥a1))=true
  · try simp only[if_pos h0]
    exact cp ya (.f h0 (.f h0 (.f h0 (.f h0 (.h 10 (.b true) (.h 12 (.b true) (.h 14 (.b true) (.h 17 (.b true) .nil))))))))
  · try simp only[if_neg h0]
    exact cp ya (.f (nt h0) (.f (nt h0) (.f (nt h0) (.f (nt h0) (.h 10 (.b false) (.h 12 (.b false) (.h 14 (.b false) (.h 17 (.b false) .nil))))))))
theorem e74 {a0:Int}:Ev F X (.call 74 [(.one (.val (.int .i64 a0)))] [] [] [(.one (.val (.bool (m41 a0 0 2147483646))))]):=by
  exact cp ya (.r 5 [] [] (e41 (a0:=a0) (a1:=0) (a2:=2147483646)) .nil)
/-! loop.example/g00539/impl.bitsOk -/
def m75 (a0:Int):Bool:=
  if(m41 a0 1 1023)=true then(decide ((Int.tmod a0 256) > 0)) else
  false
theorem e75 {a0:Int}:Ev F X (.call 75 [(.one (.val (.int .i64 a0)))] [] [] [(.one (.val (.bool (m75 a0))))]):=by
  unfold m75
  by_cases h0:(m41 a0 1 1023)=true
  · try simp only[if_pos h0]
    have f3:(256:Int)≠0:=yc
    exact cp ya (.r 5 [] [] (e41 (a0:=a0) (a1:=1) (a2:=1023)) (.f h0 (.f h0 (.f f3 (.f h0 (.f h0 (.h 8 (.b true) (.h 10 (.b true) (.h 12 (.b true) (.h 15 (.b true) .nil))))))))))
  · try simp only[if_neg h0]
    exact cp ya (.r 5 [] [] (e41 (a0:=a0) (a1:=1) (a2:=1023)) (.f (nt h0) (.f (nt h0) (.f (nt h0) (.f (nt h0) (.h 8 (.b false) (.h 10 (.b false) (.h 12 (.b false) (.h 15 (.b false) .nil)))))))))
theorem e134 {a0:Int}:Ev F X (.call 134 [(.one (.val (.int .i64 a0)))] [] [] [(.one (.val (.bool (!(m41 a0 0 9999)))))]):=by
  exact cp ya (.r 5 [] [] (e41 (a0:=a0) (a1:=0) (a2:=9999)) .nil)
/-! loop 1015700_0 -/
inductive O1015700_0 where
  |k0 (w0:Int) (w1:Bool)
  |k1 (w0:Int)
def r1015700_0 (a0:(List Int)):List Int→Int→O1015700_0
  |x0::y0,i=>
    if(!(m41 x0 0 9999))=true then(O1015700_0.k1 i) else
    (r1015700_0 a0 y0 (i+1))
  |[],i=>(O1015700_0.k0 i (decide (i <((length (map b_i a0)):Int))))
def h1015700_0 (l0_0:Nat) (a0:(List Int)) (i:Int) :St:=⟨[(0,(.one (.bor l0_0 (map b_i a0)))),(1,(.clo 134 [] [])),(7,(.one (.val (.int .i64 ((length (map b_i a0)):Int))))),(8,(.one (.val (.int .i64 i))))],[]⟩
def ex1015700_0:O1015700_0→VX.Exit
  |.k0 _ _=>(.exit 0)
  |.k1 _=>.ret
def fin1015700_0 (l0_0:Nat) (a0:(List Int)):O1015700_0→St
  |.k0 w0 w1=>⟨[(0,(.one (.bor l0_0 (map b_i a0)))),(1,(.clo 134 [] [])),(7,(.one (.val (.int .i64 ((length (map b_i a0)):Int))))),(8,(.one (.val (.int .i64 w0)))),(9,(.one (.val (.bool w1))))],[]⟩
  |.k1 w0=>⟨[(4,(.one (.val (.int .i64 w0))))],[]⟩
theorem t1015700_0 {l0_0:Nat} {a0:(List Int)} (hy0:length a0*8≤140737488351232):∀(y0:List Int) (p:List Int),p++y0=a0→Ev F X (.code l157_0 (h1015700_0 l0_0 a0 (length p:Int)) (ex1015700_0 (r1015700_0 a0 y0 (length p:Int))) (fin1015700_0 l0_0 a0 (r1015700_0 a0 y0 (length p:Int))))
  |[],p,hp0=>by
    have hc:¬(decide ((length p:Int) <((length (map b_i a0)):Int)))=true:=by
      rw[← hp0]; simp only[LN,decide_eq_true_eq]; omega
    have st:=ch b157_0 (h1015700_0 l0_0 a0 (length p:Int)) ⟨[(0,(.one (.bor l0_0 (map b_i a0)))),(1,(.clo 134 [] [])),(7,(.oi ((length (map b_i a0)):Int))),(8,(.oi (length p:Int))),(9,(.one (.val (.bool (decide ((length p:Int) <((length (map b_i a0)):Int)))))))],[]⟩ (.exit 0) 3 (by kernel_rfl) (.f (nt hc) (.h 2 (.b false) .nil))
    rw[show (⟨[(0,(.one (.bor l0_0 (map b_i a0)))),(1,(.clo 134 [] [])),(7,(.oi ((length (map b_i a0)):Int))),(8,(.oi (length p:Int))),(9,(.one (.val (.bool (decide ((length p:Int) <((length (map b_i a0)):Int)))))))],[]⟩:St)=fin1015700_0 l0_0 a0 (.k0 (length p:Int) (decide ((length p:Int) <((length (map b_i a0)):Int)))) from(by rfl)] at st
    exact .loopX st (show ((.exit 0):VX.Exit)≠.normal from by simp)
  |x0::y0,p,hp0=>by
    have hc:(decide ((length p:Int) <((length (map b_i a0)):Int)))=true:=by
      rw[← hp0]; simp only[LN,decide_eq_true_eq]; omega
    have Hx0:(a0)[toNat (length p:Int)]?=some x0:=by
      rw[← hp0,Int.toNat_natCast]; simp
    have hlen:length (a0)=length p+length y0+1:=by rw[← hp0]; simp; omega
    have hw:wrap .i64 ((length p:Int)+1)=(length p:Int)+1:=wrap64 (by omega)
    simp only[r1015700_0]
    have f1:0≤(length p:Int):=(by omega)
    have P1 {hs q} (r:PS F X hs q):=(PS.f hc (.f f1 (.f (mp_ b_i Hx0) (.h 2 (.b true) (.h 14 (.row [(.i x0)]) (.r 18 [] [] (e134 (a0:=x0)) r))))))
    by_cases h_1:(!(m41 x0 0 9999))=true
    · try simp only[if_pos h_1]
      have st:=ch b157_0 (h1015700_0 l0_0 a0 (length p:Int)) ⟨[(4,(.oi (length p:Int)))],[]⟩ .ret 24 (by kernel_rfl) (P1 (.f h_1 (.h 19 (.b true) .nil)))
      rw[show (⟨[(4,(.oi (length p:Int)))],[]⟩:St)=fin1015700_0 l0_0 a0 (.k1 (length p:Int)) from(by rfl)] at st
      exact .loopX st (show (.ret:VX.Exit)≠.normal from by simp)
    · try simp only[if_neg h_1]
      have st:=ch b157_0 (h1015700_0 l0_0 a0 (length p:Int)) ⟨[(0,(.one (.bor l0_0 (map b_i a0)))),(1,(.clo 134 [] [])),(7,(.oi ((length (map b_i a0)):Int))),(8,(.oi (wrap .i64 ((length p:Int)+1))))],[]⟩ .normal 24 (by kernel_rfl) (P1 (.f (nt h_1) (.f trivial (.h 19 (.b false) .nil))))
      have ih:=t1015700_0 (l0_0:=l0_0) (a0:=a0) hy0 y0 (p++ [x0]) (by rw[append_assoc]; exact hp0)
      rw[show ((p++ [x0]).length:Int)=(p.length:Int)+1 from by simp] at ih
      rw[show (⟨[(0,(.one (.bor l0_0 (map b_i a0)))),(1,(.clo 134 [] [])),(7,(.oi ((length (map b_i a0)):Int))),(8,(.oi (wrap .i64 ((length p:Int)+1))))],[]⟩:St)=h1015700_0 l0_0 a0 ((length p:Int)+1)  from(by unfold h1015700_0; simp only[hw]; done)] at st
      exact .loopN st ih
/-! slices.IndexFunc[[]int64,int64] -/
def m1015700 (a0:(List Int)):Int:=
  (match r1015700_0 a0 a0 0 with | .k0 w0_0 w1_0=>(-1) | .k1 w0_0=>w0_0)
theorem e1015700 {l0_0:Nat} {a0:(List Int)} (hy0:length a0*8≤140737488351232):Ev F X (.call 157 [(.one (.bor l0_0 (map b_i a0))),(.clo 134 [] [])] [] [] [(.one (.val (.int .i64 (m1015700 a0))))]):=by
  unfold m1015700
  cases h0:r1015700_0 a0 a0 0 with
  |k0 w0_0 w1_0=>
    try dsimp only
    have f0:(⟨[(0,(.one (.bor l0_0 (map b_i a0)))),(1,(.clo 134 [] [])),(7,(.oi ((length (map b_i a0)):Int))),(8,(.oi 0))],[]⟩:St)=h1015700_0 l0_0 a0 0 :=yf
    exact cp ya (.f f0 (.f (ev_ (e:=ex1015700_0) (g:=(fin1015700_0 l0_0 a0)) h0 (t1015700_0 (l0_0:=l0_0) (a0:=a0) (by assumption) a0 []  rfl)) (.h 8 (.loop (h1015700_0 l0_0 a0 0) (.exit 0) ⟨[(0,(.one (.bor l0_0 (map b_i a0)))),(1,(.clo 134 [] [])),(7,(.oi ((length (map b_i a0)):Int))),(8,(.oi w0_0)),(9,(.one (.val (.bool w1_0))))],[]⟩) .nil)))
  |k1 w0_0=>
    try dsimp only
    have f0:(⟨[(0,(.one (.bor l0_0 (map b_i a0)))),(1,(.clo 134 [] [])),(7,(.oi ((length (map b_i a0)):Int))),(8,(.oi 0))],[]⟩:St)=h1015700_0 l0_0 a0 0 :=yf
    exact cp ya (.f f0 (.f (ev_ (e:=ex1015700_0) (g:=(fin1015700_0 l0_0 a0)) h0 (t1015700_0 (l0_0:=l0_0) (a0:=a0) (by assumption) a0 []  rfl)) (.h 8 (.loop (h1015700_0 l0_0 a0 0) .ret ⟨[(4,(.oi w0_0))],[]⟩) .nil)))
theorem e1013300 {l0_0:Nat} {a0:(List Int)} (hy0:length a0*8≤140737488351232):Ev F X (.call 133 [(.one (.bor l0_0 (map b_i a0))),(.clo 134 [] [])] [] [] [(.one (.val (.bool (decide ((m1015700 a0)≥0)))))]):=by
  exact cp ya (.r 7 [] [] (e1015700 (l0_0:=(l0_0+1)) (a0:=a0) ‹_›) .nil)
/-! loop.example/g00539/impl.inFault$1 -/
def m1013600 (a0:K_N) (a101001:Int) (a101002:Int) (a101003:List Int):Bool:=
  if(a101001==a0.f0)=true then(a101002==a0.f1) else
  false
theorem e1013600 {l0_2:Nat} {a0:K_N} {l101000:Nat} {a101001:Int} {a101002:Int} {a101003:List Int}:Ev F X (.call 136 [(.agg (k_N l0_2 a0)),(.bptr l101000 [(.val (.int .i64 a101001)),(.val (.int .i64 a101002)),(.sl (map b_i a101003))])] [] [] [(.one (.val (.bool (m1013600 a0 a101001 a101002 a101003))))]):=by
  unfold m1013600
  by_cases h0:(a101001==a0.f0)=true
  · try simp only[if_pos h0]
    exact cp ya (.f h0 (.f h0 (.f h0 (.f h0 (.f h0 (.f h0 (.h 16 (.b true) (.h 18 (.b true) (.h 20 (.b true) (.h 22 (.b true) (.h 24 (.b true) (.h 27 (.b true) .nil))))))))))))
  · try simp only[if_neg h0]
    exact cp ya (.f (nt h0) (.f (nt h0) (.f (nt h0) (.f (nt h0) (.f (nt h0) (.f (nt h0) (.h 16 (.b false) (.h 18 (.b false) (.h 20 (.b false) (.h 22 (.b false) (.h 24 (.b false) (.h 27 (.b false) .nil))))))))))))
/-! loop 1015800_0 -/
inductive O1015800_0 where
  |k0 (w0:Int) (w1:Bool)
  |k1 (w0:Int)
def r1015800_0 (a0:(List K_N)) (a2001:Int) (a2002:Int) (a2003:List Int):List K_N→Int→O1015800_0
  |x0::y0,i=>
    if(m1013600 x0 a2001 a2002 a2003)=true then(O1015800_0.k1 i) else
    (r1015800_0 a0 a2001 a2002 a2003 y0 (i+1))
  |[],i=>(O1015800_0.k0 i (decide (i <((length (map b_N a0)):Int))))
def h1015800_0 (l0_0:Nat) (l2000:Nat) (a0:(List K_N)) (a2001:Int) (a2002:Int) (a2003:List Int) (i:Int) :St:=⟨[(0,(.one (.bor l0_0 (map b_N a0)))),(1,(.clo 136 [] [(.bptr l2000 [(.val (.int .i64 a2001)),(.val (.int .i64 a2002)),(.sl (map b_i a2003))])])),(7,(.one (.val (.int .i64 ((length (map b_N a0)):Int))))),(8,(.one (.val (.int .i64 i))))],[]⟩
def ex1015800_0:O1015800_0→VX.Exit
  |.k0 _ _=>(.exit 0)
  |.k1 _=>.ret
def fin1015800_0 (l0_0:Nat) (l2000:Nat) (a0:(List K_N)) (a2001:Int) (a2002:Int) (a2003:List Int):O1015800_0→St
  |.k0 w0 w1=>⟨[(0,(.one (.bor l0_0 (map b_N a0)))),(1,(.clo 136 [] [(.bptr l2000 [(.val (.int .i64 a2001)),(.val (.int .i64 a2002)),(.sl (map b_i a2003))])])),(7,(.one (.val (.int .i64 ((length (map b_N a0)):Int))))),(8,(.one (.val (.int .i64 w0)))),(9,(.one (.val (.bool w1))))],[]⟩
  |.k1 w0=>⟨[(4,(.one (.val (.int .i64 w0))))],[]⟩
theorem t1015800_0 {l0_0:Nat} {l2000:Nat} {a0:(List K_N)} {a2001:Int} {a2002:Int} {a2003:List Int} (hy0:length a0*40≤140737488351232) (hy1:∀z∈a0,ok_N z) (hy2:length a2003*8≤140737488351232):∀(y0:List K_N) (p:List K_N),p++y0=a0→Ev F X (.code l158_0 (h1015800_0 l0_0 l2000 a0 a2001 a2002 a2003 (length p:Int)) (ex1015800_0 (r1015800_0 a0 a2001 a2002 a2003 y0 (length p:Int))) (fin1015800_0 l0_0 l2000 a0 a2001 a2002 a2003 (r1015800_0 a0 a2001 a2002 a2003 y0 (length p:Int))))
  |[],p,hp0=>by
    have hc:¬(decide ((length p:Int) <((length (map b_N a0)):Int)))=true:=by
      rw[← hp0]; simp only[LN,decide_eq_true_eq]; omega
    have st:=ch b158_0 (h1015800_0 l0_0 l2000 a0 a2001 a2002 a2003 (length p:Int)) ⟨[(0,(.one (.bor l0_0 (map b_N a0)))),(1,(.clo 136 [] [(.bptr l2000 [(.i a2001),(.i a2002),(.sl (map b_i a2003))])])),(7,(.oi ((length (map b_N a0)):Int))),(8,(.oi (length p:Int))),(9,(.one (.val (.bool (decide ((length p:Int) <((length (map b_N a0)):Int)))))))],[]⟩ (.exit 0) 3 (by kernel_rfl) (.f (nt hc) (.h 2 (.b false) .nil))
    rw[show (⟨[(0,(.one (.bor l0_0 (map b_N a0)))),(1,(.clo 136 [] [(.bptr l2000 [(.i a2001),(.i a2002),(.sl (map b_i a2003))])])),(7,(.oi ((length (map b_N a0)):Int))),(8,(.oi (length p:Int))),(9,(.one (.val (.bool (decide ((length p:Int) <((length (map b_N a0)):Int)))))))],[]⟩:St)=fin1015800_0 l0_0 l2000 a0 a2001 a2002 a2003 (.k0 (length p:Int) (decide ((length p:Int) <((length (map b_N a0)):Int)))) from(by rfl)] at st
    exact .loopX st (show ((.exit 0):VX.Exit)≠.normal from by simp)
  |x0::y0,p,hp0=>by
    have hc:(decide ((length p:Int) <((length (map b_N a0)):Int)))=true:=by
      rw[← hp0]; simp only[LN,decide_eq_true_eq]; omega
    have Hx0:(a0)[toNat (length p:Int)]?=some x0:=by
      rw[← hp0,Int.toNat_natCast]; simp
    have Mx0_0:=hy1 x0 (List.mem_of_getElem? Hx0)
    have hlen:length (a0)=length p+length y0+1:=by rw[← hp0]; simp; omega
    have hw:wrap .i64 ((length p:Int)+1)=(length p:Int)+1:=wrap64 (by omega)
    simp only[r1015800_0]
    have f1:0≤(length p:Int):=(by omega)
    have P1 {hs q} (r:PS F X hs q):=(PS.f hc (.f f1 (.f (mp_ b_N Hx0) (.h 2 (.b true) (.h 14 (.row (b_N x0)) (.r 18 [] [] (e1013600 (l0_2:=(l0_0+1)) (l101000:=(l2000+1)) (a0:=x0) (a101001:=a2001) (a101002:=a2002) (a101003:=a2003)) r))))))
    by_cases h_1:(m1013600 x0 a2001 a2002 a2003)=true
    · try simp only[if_pos h_1]
      have st:=ch b158_0 (h1015800_0 l0_0 l2000 a0 a2001 a2002 a2003 (length p:Int)) ⟨[(4,(.oi (length p:Int)))],[]⟩ .ret 24 (by kernel_rfl) (P1 (.f h_1 (.h 19 (.b true) .nil)))
      rw[show (⟨[(4,(.oi (length p:Int)))],[]⟩:St)=fin1015800_0 l0_0 l2000 a0 a2001 a2002 a2003 (.k1 (length p:Int)) from(by rfl)] at st
      exact .loopX st (show (.ret:VX.Exit)≠.normal from by simp)
    · try simp only[if_neg h_1]
      have st:=ch b158_0 (h1015800_0 l0_0 l2000 a0 a2001 a2002 a2003 (length p:Int)) ⟨[(0,(.one (.bor l0_0 (map b_N a0)))),(1,(.clo 136 [] [(.bptr l2000 [(.i a2001),(.i a2002),(.sl (map b_i a2003))])])),(7,(.oi ((length (map b_N a0)):Int))),(8,(.oi (wrap .i64 ((length p:Int)+1))))],[]⟩ .normal 24 (by kernel_rfl) (P1 (.f (nt h_1) (.f trivial (.h 19 (.b false) .nil))))
      have ih:=t1015800_0 (l0_0:=l0_0) (l2000:=l2000) (a0:=a0) (a2001:=a2001) (a2002:=a2002) (a2003:=a2003) hy0 hy1 hy2 y0 (p++ [x0]) (by rw[append_assoc]; exact hp0)
      rw[show ((p++ [x0]).length:Int)=(p.length:Int)+1 from by simp] at ih
      rw[show (⟨[(0,(.one (.bor l0_0 (map b_N a0)))),(1,(.clo 136 [] [(.bptr l2000 [(.i a2001),(.i a2002),(.sl (map b_i a2003))])])),(7,(.oi ((length (map b_N a0)):Int))),(8,(.oi (wrap .i64 ((length p:Int)+1))))],[]⟩:St)=h1015800_0 l0_0 l2000 a0 a2001 a2002 a2003 ((length p:Int)+1)  from(by unfold h1015800_0; simp only[hw]; done)] at st
      exact .loopN st ih
/-! slices.IndexFunc[[]loop.example/g00539/impl.In,loop.example/g00539/impl.In] -/
def m1015800 (a0:(List K_N)) (a2001:Int) (a2002:Int) (a2003:List Int):Int:=
  (match r1015800_0 a0 a2001 a2002 a2003 a0 0 with | .k0 w0_0 w1_0=>(-1) | .k1 w0_0=>w0_0)
theorem e1015800 {l0_0:Nat} {a0:(List K_N)} {l2000:Nat} {a2001:Int} {a2002:Int} {a2003:List Int} (hy0:length a0*40≤140737488351232) (hy1:∀z∈a0,ok_N z) (hy2:length a2003*8≤140737488351232):Ev F X (.call 158 [(.one (.bor l0_0 (map b_N a0))),(.clo 136 [] [(.bptr l2000 [(.val (.int .i64 a2001)),(.val (.int .i64 a2002)),(.sl (map b_i a2003))])])] [] [] [(.one (.val (.int .i64 (m1015800 a0 a2001 a2002 a2003))))]):=by
  unfold m1015800
  cases h0:r1015800_0 a0 a2001 a2002 a2003 a0 0 with
  |k0 w0_0 w1_0=>
    try dsimp only
    have f0:(⟨[(0,(.one (.bor l0_0 (map b_N a0)))),(1,(.clo 136 [] [(.bptr l2000 [(.i a2001),(.i a2002),(.sl (map b_i a2003))])])),(7,(.oi ((length (map b_N a0)):Int))),(8,(.oi 0))],[]⟩:St)=h1015800_0 l0_0 l2000 a0 a2001 a2002 a2003 0 :=yf
    exact cp ya (.f f0 (.f (ev_ (e:=ex1015800_0) (g:=(fin1015800_0 l0_0 l2000 a0 a2001 a2002 a2003)) h0 (t1015800_0 (l0_0:=l0_0) (l2000:=l2000) (a0:=a0) (a2001:=a2001) (a2002:=a2002) (a2003:=a2003) (by assumption) (by assumption) (by assumption) a0 []  rfl)) (.h 8 (.loop (h1015800_0 l0_0 l2000 a0 a2001 a2002 a2003 0) (.exit 0) ⟨[(0,(.one (.bor l0_0 (map b_N a0)))),(1,(.clo 136 [] [(.bptr l2000 [(.i a2001),(.i a2002),(.sl (map b_i a2003))])])),(7,(.oi ((length (map b_N a0)):Int))),(8,(.oi w0_0)),(9,(.one (.val (.bool w1_0))))],[]⟩) .nil)))
  |k1 w0_0=>
    try dsimp only
    have f0:(⟨[(0,(.one (.bor l0_0 (map b_N a0)))),(1,(.clo 136 [] [(.bptr l2000 [(.i a2001),(.i a2002),(.sl (map b_i a2003))])])),(7,(.oi ((length (map b_N a0)):Int))),(8,(.oi 0))],[]⟩:St)=h1015800_0 l0_0 l2000 a0 a2001 a2002 a2003 0 :=yf
    exact cp ya (.f f0 (.f (ev_ (e:=ex1015800_0) (g:=(fin1015800_0 l0_0 l2000 a0 a2001 a2002 a2003)) h0 (t1015800_0 (l0_0:=l0_0) (l2000:=l2000) (a0:=a0) (a2001:=a2001) (a2002:=a2002) (a2003:=a2003) (by assumption) (by assumption) (by assumption) a0 []  rfl)) (.h 8 (.loop (h1015800_0 l0_0 l2000 a0 a2001 a2002 a2003 0) .ret ⟨[(4,(.oi w0_0))],[]⟩) .nil)))
theorem e1013500 {l0_0:Nat} {a0:(List K_N)} {l2000:Nat} {a2001:Int} {a2002:Int} {a2003:List Int} (hy0:length a0*40≤140737488351232) (hy1:∀z∈a0,ok_N z) (hy2:length a2003*8≤140737488351232):Ev F X (.call 135 [(.one (.bor l0_0 (map b_N a0))),(.clo 136 [] [(.bptr l2000 [(.val (.int .i64 a2001)),(.val (.int .i64 a2002)),(.sl (map b_i a2003))])])] [] [] [(.one (.val (.bool (decide ((m1015800 a0 a2001 a2002 a2003)≥0)))))]):=by
  have f0:Ev F X (.call 158 [(.one (.bor (l0_0+1) (map b_N a0))),(.clo 136 [] [(.bptr (l2000+1) [(.i a2001),(.i a2002),(.sl (map b_i a2003))])])] [] [] [(.oi (m1015800 a0 a2001 a2002 a2003))]):=(e1015800 (a0:=a0) (a2001:=a2001) (a2002:=a2002) (a2003:=a2003) ‹_› ‹_› ‹_›)
  exact cp ya (.r 7 [] [] f0 .nil)
/-! loop.example/g00539/impl.inFault -/
def m102 (a0:K_N) (a1:(List K_N)):Int:=
  if(!(m41 a0.f0 0 2147483646))=true then 3 else
  if(!(m41 a0.f1 0 3))=true then 3 else
    if(decide (((length (map b_i a0.f2)):Int) > 8))=true then 2 else
      if(decide ((m1015700 a0.f2)≥0))=true then 3 else
        if(decide ((m1015800 a1 a0.f0 a0.f1 a0.f2)≥0))=true then 6 else
          0
theorem e102 {l0_2:Nat} {a0:K_N} {l1_0:Nat} {a1:(List K_N)} (hy0:length a0.f2*8≤140737488351232) (hy1:length a1*40≤140737488351232) (hy2:∀z∈a1,ok_N z):Ev F X (.call 102 [(.agg (k_N l0_2 a0)),(.one (.bor l1_0 (map b_N a1)))] [] [] [(.one (.val (.int .i64 (m102 a0 a1))))]):=by
  unfold m102
  have P0 {hs q} (r:PS F X hs q):=(PS.r 9 [] [] (e74 (a0:=a0.f0)) r)
  by_cases h0:(!(m41 a0.f0 0 2147483646))=true
  · try simp only[if_pos h0]
    exact cp ya (P0 (.f h0 (.f h0 (.f h0 (.f h0 (.f h0 (.h 14 (.b true) (.h 16 (.b true) (.h 18 (.b true) (.h 20 (.b true) (.h 23 (.b true) .nil)))))))))))
  · try simp only[if_neg h0]
    have P1 {hs q} (r:PS F X hs q):=(P0 (.f (nt h0) (.f (nt h0) (.f (nt h0) (.h 14 (.b false) (.h 16 (.b false) (.h 18 (.b false) (.r 19 [] [] (e41 (a0:=a0.f1) (a1:=0) (a2:=3)) (.f (nt h0) (.f (nt h0) (.h 20 (.b false) (.h 23 (.b false) r))))))))))))
    by_cases h1:(!(m41 a0.f1 0 3))=true
    · try simp only[if_pos h1]
      exact cp ya (P1 (.f h1 (.h 26 (.b true) .nil)))
    · try simp only[if_neg h1]
      have P2 {hs q} (r:PS F X hs q):=(P1 (.f (nt h1) (.h 26 (.b false) r)))
      by_cases h2:(decide (((length (map b_i a0.f2)):Int) > 8))=true
      · try simp only[if_pos h2]
        exact cp ya (P2 (.f h2 (.h 37 (.b true) .nil)))
      · try simp only[if_neg h2]
        have P3 {hs q} (r:PS F X hs q):=(P2 (.f (nt h2) (.h 37 (.b false) (.r 43 [] [] (e1013300 (l0_0:=(l0_2+1)) (a0:=a0.f2) ‹_›) r))))
        by_cases h3:(decide ((m1015700 a0.f2)≥0))=true
        · try simp only[if_pos h3]
          exact cp ya (P3 (.f h3 (.h 46 (.b true) .nil)))
        · try simp only[if_neg h3]
          have f11:fullL [(.i a0.f0),(.i a0.f1),(.bor l0_2 (map b_i a0.f2))]=true:=yJ
          have f12:Ev F X (.call 135 [(.one (.bor (l1_0+1) (map b_N a1))),(.clo 136 [] [(.bptr 0 (b_N a0))])] [] [] [(.one (.val (.bool (decide ((m1015800 a1 a0.f0 a0.f1 a0.f2)≥0)))))]):=(e1013500 (a0:=a1) (a2001:=a0.f0) (a2002:=a0.f1) (a2003:=a0.f2) ‹_› ‹_› ‹_›)
          by_cases h4:(decide ((m1015800 a1 a0.f0 a0.f1 a0.f2)≥0))=true
          · try simp only[if_pos h4]
            exact cp ya (P3 (.f (nt h3) (.f f11 (.h 46 (.b false) (.r 52 [] [] f12 (.f h4 (.h 55 (.b true) .nil)))))))
          · try simp only[if_neg h4]
            exact cp ya (P3 (.f (nt h3) (.f f11 (.h 46 (.b false) (.r 52 [] [] f12 (.f (nt h4) (.h 55 (.b false) .nil)))))))
theorem inl102 {a:K_N} {l:List K_N} (h:m102 a l=0):length a.f2≤8:=by
  by_cases c:(decide (((length (map b_i a.f2)):Int) > 8))=true
  · unfold m102 at h
    simp only[if_pos c] at h
    (repeat' split at h)<;>exact absurd h yG
  · simp only[decide_eq_true_eq,length_map] at c; omega
theorem e103 {a0:Int}:Ev F X (.call 103 [(.one (.val (.int .i64 a0)))] [] [] [(.one (.val (.bool (m41 a0 0 1000000))))]):=by
  exact cp ya (.r 5 [] [] (e41 (a0:=a0) (a1:=0) (a2:=1000000)) .nil)
/-! loop.example/g00539/impl.ProgramFault$1 -/
def m137 (a0:Int):Bool:=
  if(!(m41 a0 1 9))=true then(!(m41 a0 100 1099)) else
  false
theorem e137 {a0:Int}:Ev F X (.call 137 [(.one (.val (.int .i64 a0)))] [] [] [(.one (.val (.bool (m137 a0))))]):=by
  unfold m137
  by_cases h0:(!(m41 a0 1 9))=true
  · try simp only[if_pos h0]
    exact cp ya (.r 5 [] [] (e41 (a0:=a0) (a1:=1) (a2:=9)) (.f h0 (.f h0 (.h 10 (.b true) (.h 12 (.b true) (.r 13 [] [] (e41 (a0:=a0) (a1:=100) (a2:=1099)) (.f h0 (.f h0 (.h 14 (.b true) (.h 17 (.b true) .nil))))))))))
  · try simp only[if_neg h0]
    exact cp ya (.r 5 [] [] (e41 (a0:=a0) (a1:=1) (a2:=9)) (.f (nt h0) (.f (nt h0) (.f (nt h0) (.f (nt h0) (.h 10 (.b false) (.h 12 (.b false) (.h 14 (.b false) (.h 17 (.b false) .nil)))))))))
/-! loop 1015701_0 -/
inductive O1015701_0 where
  |k0 (w0:Int) (w1:Bool)
  |k1 (w0:Int)
def r1015701_0 (a0:(List Int)):List Int→Int→O1015701_0
  |x0::y0,i=>
    if(m137 x0)=true then(O1015701_0.k1 i) else
    (r1015701_0 a0 y0 (i+1))
  |[],i=>(O1015701_0.k0 i (decide (i <((length (map b_i a0)):Int))))
def h1015701_0 (l0_0:Nat) (a0:(List Int)) (i:Int) :St:=⟨[(0,(.one (.bor l0_0 (map b_i a0)))),(1,(.clo 137 [] [])),(7,(.one (.val (.int .i64 ((length (map b_i a0)):Int))))),(8,(.one (.val (.int .i64 i))))],[]⟩
def ex1015701_0:O1015701_0→VX.Exit
  |.k0 _ _=>(.exit 0)
  |.k1 _=>.ret
def fin1015701_0 (l0_0:Nat) (a0:(List Int)):O1015701_0→St
  |.k0 w0 w1=>⟨[(0,(.one (.bor l0_0 (map b_i a0)))),(1,(.clo 137 [] [])),(7,(.one (.val (.int .i64 ((length (map b_i a0)):Int))))),(8,(.one (.val (.int .i64 w0)))),(9,(.one (.val (.bool w1))))],[]⟩
  |.k1 w0=>⟨[(4,(.one (.val (.int .i64 w0))))],[]⟩
theorem t1015701_0 {l0_0:Nat} {a0:(List Int)} (hy0:length a0*8≤140737488351232):∀(y0:List Int) (p:List Int),p++y0=a0→Ev F X (.code l157_0 (h1015701_0 l0_0 a0 (length p:Int)) (ex1015701_0 (r1015701_0 a0 y0 (length p:Int))) (fin1015701_0 l0_0 a0 (r1015701_0 a0 y0 (length p:Int))))
  |[],p,hp0=>by
    have hc:¬(decide ((length p:Int) <((length (map b_i a0)):Int)))=true:=by
      rw[← hp0]; simp only[LN,decide_eq_true_eq]; omega
    have st:=ch b157_0 (h1015701_0 l0_0 a0 (length p:Int)) ⟨[(0,(.one (.bor l0_0 (map b_i a0)))),(1,(.clo 137 [] [])),(7,(.oi ((length (map b_i a0)):Int))),(8,(.oi (length p:Int))),(9,(.one (.val (.bool (decide ((length p:Int) <((length (map b_i a0)):Int)))))))],[]⟩ (.exit 0) 3 (by kernel_rfl) (.f (nt hc) (.h 2 (.b false) .nil))
    rw[show (⟨[(0,(.one (.bor l0_0 (map b_i a0)))),(1,(.clo 137 [] [])),(7,(.oi ((length (map b_i a0)):Int))),(8,(.oi (length p:Int))),(9,(.one (.val (.bool (decide ((length p:Int) <((length (map b_i a0)):Int)))))))],[]⟩:St)=fin1015701_0 l0_0 a0 (.k0 (length p:Int) (decide ((length p:Int) <((length (map b_i a0)):Int)))) from(by rfl)] at st
    exact .loopX st (show ((.exit 0):VX.Exit)≠.normal from by simp)
  |x0::y0,p,hp0=>by
    have hc:(decide ((length p:Int) <((length (map b_i a0)):Int)))=true:=by
      rw[← hp0]; simp only[LN,decide_eq_true_eq]; omega
    have Hx0:(a0)[toNat (length p:Int)]?=some x0:=by
      rw[← hp0,Int.toNat_natCast]; simp
    have hlen:length (a0)=length p+length y0+1:=by rw[← hp0]; simp; omega
    have hw:wrap .i64 ((length p:Int)+1)=(length p:Int)+1:=wrap64 (by omega)
    simp only[r1015701_0]
    have f1:0≤(length p:Int):=(by omega)
    have P1 {hs q} (r:PS F X hs q):=(PS.f hc (.f f1 (.f (mp_ b_i Hx0) (.h 2 (.b true) (.h 14 (.row [(.i x0)]) (.r 18 [] [] (e137 (a0:=x0)) r))))))
    by_cases h_1:(m137 x0)=true
    · try simp only[if_pos h_1]
      have st:=ch b157_0 (h1015701_0 l0_0 a0 (length p:Int)) ⟨[(4,(.oi (length p:Int)))],[]⟩ .ret 24 (by kernel_rfl) (P1 (.f h_1 (.h 19 (.b true) .nil)))
      rw[show (⟨[(4,(.oi (length p:Int)))],[]⟩:St)=fin1015701_0 l0_0 a0 (.k1 (length p:Int)) from(by rfl)] at st
      exact .loopX st (show (.ret:VX.Exit)≠.normal from by simp)
    · try simp only[if_neg h_1]
      have st:=ch b157_0 (h1015701_0 l0_0 a0 (length p:Int)) ⟨[(0,(.one (.bor l0_0 (map b_i a0)))),(1,(.clo 137 [] [])),(7,(.oi ((length (map b_i a0)):Int))),(8,(.oi (wrap .i64 ((length p:Int)+1))))],[]⟩ .normal 24 (by kernel_rfl) (P1 (.f (nt h_1) (.f trivial (.h 19 (.b false) .nil))))
      have ih:=t1015701_0 (l0_0:=l0_0) (a0:=a0) hy0 y0 (p++ [x0]) (by rw[append_assoc]; exact hp0)
      rw[show ((p++ [x0]).length:Int)=(p.length:Int)+1 from by simp] at ih
      rw[show (⟨[(0,(.one (.bor l0_0 (map b_i a0)))),(1,(.clo 137 [] [])),(7,(.oi ((length (map b_i a0)):Int))),(8,(.oi (wrap .i64 ((length p:Int)+1))))],[]⟩:St)=h1015701_0 l0_0 a0 ((length p:Int)+1)  from(by unfold h1015701_0; simp only[hw]; done)] at st
      exact .loopN st ih
/-! slices.IndexFunc[[]int64,int64] -/
def m1015701 (a0:(List Int)):Int:=
  (match r1015701_0 a0 a0 0 with | .k0 w0_0 w1_0=>(-1) | .k1 w0_0=>w0_0)
theorem e1015701 {l0_0:Nat} {a0:(List Int)} (hy0:length a0*8≤140737488351232):Ev F X (.call 157 [(.one (.bor l0_0 (map b_i a0))),(.clo 137 [] [])] [] [] [(.one (.val (.int .i64 (m1015701 a0))))]):=by
  unfold m1015701
  cases h0:r1015701_0 a0 a0 0 with
  |k0 w0_0 w1_0=>
    try dsimp only
    have f0:(⟨[(0,(.one (.bor l0_0 (map b_i a0)))),(1,(.clo 137 [] [])),(7,(.oi ((length (map b_i a0)):Int))),(8,(.oi 0))],[]⟩:St)=h1015701_0 l0_0 a0 0 :=yf
    exact cp ya (.f f0 (.f (ev_ (e:=ex1015701_0) (g:=(fin1015701_0 l0_0 a0)) h0 (t1015701_0 (l0_0:=l0_0) (a0:=a0) (by assumption) a0 []  rfl)) (.h 8 (.loop (h1015701_0 l0_0 a0 0) (.exit 0) ⟨[(0,(.one (.bor l0_0 (map b_i a0)))),(1,(.clo 137 [] [])),(7,(.oi ((length (map b_i a0)):Int))),(8,(.oi w0_0)),(9,(.one (.val (.bool w1_0))))],[]⟩) .nil)))
  |k1 w0_0=>
    try dsimp only
    have f0:(⟨[(0,(.one (.bor l0_0 (map b_i a0)))),(1,(.clo 137 [] [])),(7,(.oi ((length (map b_i a0)):Int))),(8,(.oi 0))],[]⟩:St)=h1015701_0 l0_0 a0 0 :=yf
    exact cp ya (.f f0 (.f (ev_ (e:=ex1015701_0) (g:=(fin1015701_0 l0_0 a0)) h0 (t1015701_0 (l0_0:=l0_0) (a0:=a0) (by assumption) a0 []  rfl)) (.h 8 (.loop (h1015701_0 l0_0 a0 0) .ret ⟨[(4,(.oi w0_0))],[]⟩) .nil)))
theorem e1013301 {l0_0:Nat} {a0:(List Int)} (hy0:length a0*8≤140737488351232):Ev F X (.call 133 [(.one (.bor l0_0 (map b_i a0))),(.clo 137 [] [])] [] [] [(.one (.val (.bool (decide ((m1015701 a0)≥0)))))]):=by
  exact cp ya (.r 7 [] [] (e1015701 (l0_0:=(l0_0+1)) (a0:=a0) ‹_›) .nil)
/-! loop.example/g00539/impl.ProgramFault -/
def m104 (a0:(List Int)):Int:=
  if(decide (((length (map b_i a0)):Int) > 12))=true then 2 else
  if(decide ((m1015701 a0)≥0))=true then 1 else
    0
theorem e104 {l0_0:Nat} {a0:(List Int)} (hy0:length a0*8≤140737488351232):Ev F X (.call 104 [(.one (.bor l0_0 (map b_i a0)))] [] [] [(.one (.val (.int .i64 (m104 a0))))]):=by
  unfold m104
  by_cases h0:(decide (((length (map b_i a0)):Int) > 12))=true
  · try simp only[if_pos h0]
    exact cp ya (.f h0 (.h 8 (.b true) .nil))
  · try simp only[if_neg h0]
    have P1 {hs q} (r:PS F X hs q):=(PS.f (nt h0) (.h 8 (.b false) (.r 12 [] [] (e1013301 (l0_0:=(l0_0+1)) (a0:=a0) ‹_›) r)))
    by_cases h1:(decide ((m1015701 a0)≥0))=true
    · try simp only[if_pos h1]
      exact cp ya (P1 (.f h1 (.h 13 (.b true) .nil)))
    · try simp only[if_neg h1]
      exact cp ya (P1 (.f (nt h1) (.h 13 (.b false) .nil)))
theorem lk104 {a:List Int} (h:m104 a=0):length a≤12:=by
  by_cases c:(decide (((length (map b_i a)):Int) > 12))=true
  · unfold m104 at h
    simp only[if_pos c] at h
    exact absurd h yG
  · simp only[decide_eq_true_eq,length_map] at c; omega
/-! loop 105_0 -/
inductive O105_0 where
  |k0 (w0:Int) (w1:Int) (w2:Bool)
def r105_0 (a0:(List K_U)):List K_U→Int→Int→O105_0
  |x0::y0,i,v0=>
    (r105_0 a0 y0 (i+1) (wrap .i64 (v0+x0.f0)))
  |[],i,v0=>(O105_0.k0 v0 i (decide (i <((length (map b_U a0)):Int))))
def h105_0 (l0_0:Nat) (a0:(List K_U)) (i:Int) (v0:Int):St:=⟨[(3,(.one (.val (.int .i64 v0)))),(6,(.one (.bor l0_0 (map b_U a0)))),(7,(.one (.val (.int .i64 ((length (map b_U a0)):Int))))),(8,(.one (.val (.int .i64 i))))],[]⟩
def ex105_0:O105_0→VX.Exit
  |.k0 _ _ _=>(.exit 0)
def fin105_0 (l0_0:Nat) (a0:(List K_U)):O105_0→St
  |.k0 w0 w1 w2=>⟨[(3,(.one (.val (.int .i64 w0)))),(6,(.one (.bor l0_0 (map b_U a0)))),(7,(.one (.val (.int .i64 ((length (map b_U a0)):Int))))),(8,(.one (.val (.int .i64 w1)))),(9,(.one (.val (.bool w2))))],[]⟩
theorem t105_0 {l0_0:Nat} {a0:(List K_U)} (hy0:length a0*32≤140737488351232) (hy1:∀z∈a0,ok_U z):∀(y0:List K_U) (p:List K_U) (v0:Int),p++y0=a0→Ev F X (.code l105_0 (h105_0 l0_0 a0 (length p:Int) v0) (ex105_0 (r105_0 a0 y0 (length p:Int) v0)) (fin105_0 l0_0 a0 (r105_0 a0 y0 (length p:Int) v0)))
  |[],p,v0,hp0=>by
    have hc:¬(decide ((length p:Int) <((length (map b_U a0)):Int)))=true:=by
      rw[← hp0]; simp only[LN,decide_eq_true_eq]; omega
    have st:=ch b105_0 (h105_0 l0_0 a0 (length p:Int) v0) ⟨[(3,(.oi v0)),(6,(.one (.bor l0_0 (map b_U a0)))),(7,(.oi ((length (map b_U a0)):Int))),(8,(.oi (length p:Int))),(9,(.one (.val (.bool (decide ((length p:Int) <((length (map b_U a0)):Int)))))))],[]⟩ (.exit 0) 3 (by kernel_rfl) (.f (nt hc) (.h 2 (.b false) .nil))
    rw[show (⟨[(3,(.oi v0)),(6,(.one (.bor l0_0 (map b_U a0)))),(7,(.oi ((length (map b_U a0)):Int))),(8,(.oi (length p:Int))),(9,(.one (.val (.bool (decide ((length p:Int) <((length (map b_U a0)):Int)))))))],[]⟩:St)=fin105_0 l0_0 a0 (.k0 v0 (length p:Int) (decide ((length p:Int) <((length (map b_U a0)):Int)))) from(by rfl)] at st
    exact .loopX st (show ((.exit 0):VX.Exit)≠.normal from by simp)
  |x0::y0,p,v0,hp0=>by
    have hc:(decide ((length p:Int) <((length (map b_U a0)):Int)))=true:=by
      rw[← hp0]; simp only[LN,decide_eq_true_eq]; omega
    have Hx0:(a0)[toNat (length p:Int)]?=some x0:=by
      rw[← hp0,Int.toNat_natCast]; simp
    have Mx0_0:=hy1 x0 (List.mem_of_getElem? Hx0)
    have hlen:length (a0)=length p+length y0+1:=by rw[← hp0]; simp; omega
    have hw:wrap .i64 ((length p:Int)+1)=(length p:Int)+1:=wrap64 (by omega)
    simp only[r105_0]
    have f1:0≤(length p:Int):=(by omega)
    have st:=ch b105_0 (h105_0 l0_0 a0 (length p:Int) v0) ⟨[(3,(.oi (wrap .i64 (v0+x0.f0)))),(6,(.one (.bor l0_0 (map b_U a0)))),(7,(.oi ((length (map b_U a0)):Int))),(8,(.oi (wrap .i64 ((length p:Int)+1))))],[]⟩ .normal 25 (by kernel_rfl) (.f hc (.f f1 (.f (mp_ b_U Hx0) (.f trivial (.f trivial (.h 2 (.b true) (.h 4 (.row (b_U x0)) .nil)))))))
    have ih:=t105_0 (l0_0:=l0_0) (a0:=a0) hy0 hy1 y0 (p++ [x0]) (wrap .i64 (v0+x0.f0)) (by rw[append_assoc]; exact hp0)
    rw[show ((p++ [x0]).length:Int)=(p.length:Int)+1 from by simp] at ih
    rw[show (⟨[(3,(.oi (wrap .i64 (v0+x0.f0)))),(6,(.one (.bor l0_0 (map b_U a0)))),(7,(.oi ((length (map b_U a0)):Int))),(8,(.oi (wrap .i64 ((length p:Int)+1))))],[]⟩:St)=h105_0 l0_0 a0 ((length p:Int)+1) (wrap .i64 (v0+x0.f0)) from(by unfold h105_0; simp only[hw]; done)] at st
    exact .loopN st ih
/-! loop.example/g00539/impl.outSum -/
def m105 (a0:(List K_U)):Int:=
  (match r105_0 a0 a0 0 0 with | .k0 w0_0 w1_0 w2_0=>w0_0)
theorem e105 {l0_0:Nat} {a0:(List K_U)} (hy0:length a0*32≤140737488351232) (hy1:∀z∈a0,ok_U z):Ev F X (.call 105 [(.one (.bor l0_0 (map b_U a0)))] [] [] [(.one (.val (.int .i64 (m105 a0))))]):=by
  unfold m105
  cases h0:r105_0 a0 a0 0 0 with
  |k0 w0_0 w1_0 w2_0=>
    try dsimp only
    have f0:(⟨[(3,(.oi 0)),(6,(.one (.bor l0_0 (map b_U a0)))),(7,(.oi ((length (map b_U a0)):Int))),(8,(.oi 0))],[]⟩:St)=h105_0 l0_0 a0 0 0:=yf
    exact cp ya (.f f0 (.f (ev_ (e:=ex105_0) (g:=(fin105_0 l0_0 a0)) h0 (t105_0 (l0_0:=l0_0) (a0:=a0) (by assumption) (by assumption) a0 [] 0 rfl)) (.h 10 (.loop (h105_0 l0_0 a0 0 0) (.exit 0) ⟨[(3,(.oi w0_0)),(6,(.one (.bor l0_0 (map b_U a0)))),(7,(.oi ((length (map b_U a0)):Int))),(8,(.oi w1_0)),(9,(.one (.val (.bool w2_0))))],[]⟩) .nil)))
/-! loop 76_0 -/
inductive O76_0 where
  |k0 (w0:Int) (w1:Bool)
  |k1 (w0:Int)
def r76_0 (a0:K_T):List K_N→Int→O76_0
  |x0::y0,i=>
    if((m102 x0 (take (toNat i) a0.f1)) !=0)=true then(O76_0.k1 (m102 x0 (take (toNat i) a0.f1))) else
    (r76_0 a0 y0 (i+1))
  |[],i=>(O76_0.k0 i (decide (i <((length (map b_N a0.f1)):Int))))
def h76_0 (l0_1:Nat) (l0_2:Nat) (a0:K_T) (i:Int) :St:=⟨[(1,(.ptr ⟨(1,0,0),[],0,0,3⟩)),(27,(.one (.bor l0_1 (map b_N a0.f1)))),(28,(.one (.val (.int .i64 ((length (map b_N a0.f1)):Int))))),(29,(.one (.val (.int .i64 i))))],[((1,0,0),.live ⟨3,[[(.val (.int .i64 a0.f0)),(.bor l0_1 (map b_N a0.f1)),(.bor l0_2 (map b_U a0.f2))]],[]⟩)]⟩
def ex76_0:O76_0→VX.Exit
  |.k0 _ _=>(.exit 1)
  |.k1 _=>.ret
def fin76_0 (l0_1:Nat) (l0_2:Nat) (a0:K_T):O76_0→St
  |.k0 w0 w1=>⟨[(1,(.ptr ⟨(1,0,0),[],0,0,3⟩)),(27,(.one (.bor l0_1 (map b_N a0.f1)))),(28,(.one (.val (.int .i64 ((length (map b_N a0.f1)):Int))))),(29,(.one (.val (.int .i64 w0)))),(30,(.one (.val (.bool w1))))],[((1,0,0),.live ⟨3,[[(.val (.int .i64 a0.f0)),(.bor l0_1 (map b_N a0.f1)),(.bor l0_2 (map b_U a0.f2))]],[]⟩)]⟩
  |.k1 w0=>⟨[(2,(.one (.val (.int .i64 w0))))],[]⟩
theorem t76_0 {l0_1:Nat} {l0_2:Nat} {a0:K_T} (hy0:length a0.f1*40≤140737488351232) (hy1:∀z∈a0.f1,ok_N z) (hy2:length a0.f2*32≤140737488351232) (hy3:∀z∈a0.f2,ok_U z):∀(y0:List K_N) (p:List K_N),p++y0=a0.f1→Ev F X (.code l76_0 (h76_0 l0_1 l0_2 a0 (length p:Int)) (ex76_0 (r76_0 a0 y0 (length p:Int))) (fin76_0 l0_1 l0_2 a0 (r76_0 a0 y0 (length p:Int))))
  |[],p,hp0=>by
    have hc:¬(decide ((length p:Int) <((length (map b_N a0.f1)):Int)))=true:=by
      rw[← hp0]; simp only[LN,decide_eq_true_eq]; omega
    have st:=ch b76_0 (h76_0 l0_1 l0_2 a0 (length p:Int)) ⟨[(1,(.ptr ⟨(1,0,0),[],0,0,3⟩)),(27,(.one (.bor l0_1 (map b_N a0.f1)))),(28,(.oi ((length (map b_N a0.f1)):Int))),(29,(.oi (length p:Int))),(30,(.one (.val (.bool (decide ((length p:Int) <((length (map b_N a0.f1)):Int)))))))],[((1,0,0),.live ⟨3,[[(.i a0.f0),(.bor l0_1 (map b_N a0.f1)),(.bor l0_2 (map b_U a0.f2))]],[]⟩)]⟩ (.exit 1) 3 (by kernel_rfl) (.f (nt hc) (.h 2 (.b false) .nil))
    rw[show (⟨[(1,(.ptr ⟨(1,0,0),[],0,0,3⟩)),(27,(.one (.bor l0_1 (map b_N a0.f1)))),(28,(.oi ((length (map b_N a0.f1)):Int))),(29,(.oi (length p:Int))),(30,(.one (.val (.bool (decide ((length p:Int) <((length (map b_N a0.f1)):Int)))))))],[((1,0,0),.live ⟨3,[[(.i a0.f0),(.bor l0_1 (map b_N a0.f1)),(.bor l0_2 (map b_U a0.f2))]],[]⟩)]⟩:St)=fin76_0 l0_1 l0_2 a0 (.k0 (length p:Int) (decide ((length p:Int) <((length (map b_N a0.f1)):Int)))) from(by rfl)] at st
    exact .loopX st (show ((.exit 1):VX.Exit)≠.normal from by simp)
  |x0::y0,p,hp0=>by
    have hc:(decide ((length p:Int) <((length (map b_N a0.f1)):Int)))=true:=by
      rw[← hp0]; simp only[LN,decide_eq_true_eq]; omega
    have Hx0:(a0.f1)[toNat (length p:Int)]?=some x0:=by
      rw[← hp0,Int.toNat_natCast]; simp
    have Mx0_0:=hy1 x0 (List.mem_of_getElem? Hx0)
    have hlen:length (a0.f1)=length p+length y0+1:=by rw[← hp0]; simp; omega
    have hw:wrap .i64 ((length p:Int)+1)=(length p:Int)+1:=wrap64 (by omega)
    simp only[r76_0]
    have f1:0≤(length p:Int):=(by omega)
    have f3:(0≤(0:Int)∧(0:Int)≤(length p:Int)∧(length p:Int)≤((length (map b_N a0.f1)):Int))∧∀r∈((map b_N a0.f1):List (List B)),r.length=3:=(by refine⟨?_,lenB_N _⟩; simp only[LN]; omega)
    have f4:Ev F X (.call 102 [(.agg (k_N (l0_1+1) x0)),(.one (.bor (l0_1+1) (take (toNat (length p:Int) - toNat 0) (drop 0 (map b_N a0.f1)))))] [] [] [(.oi (m102 x0 (take (toNat (length p:Int)) a0.f1)))]):=(by rw[show (take (toNat (length p:Int) - toNat 0) (drop 0 (map b_N a0.f1)))=(map b_N (take (toNat (length p:Int)) a0.f1)) from by first | rfl |(simp[map_take,map_drop,four_len]; done) |(simp[byteRows_eq,map_take,map_drop,four_len]; done) |(simp[*,map_take,map_drop,four_len]; done) |(rw[take_of_length_le (by simp only[length_drop,length_take,length_map,Int.toNat_natCast]; omega)]; simp only[← map_drop,← map_take])]; exact(e102 (l0_2:=(l0_1+1)) (l1_0:=(l0_1+1)) (a0:=x0) (a1:=(take (toNat (length p:Int)) a0.f1)) (by assumption) (by simp only[length_take]; omega) (by intro z hz; exact(by assumption:∀z∈_,ok_N z) z (List.mem_of_mem_take hz))))
    have P1 {hs q} (r:PS F X hs q):=(PS.f hc (.f f1 (.f (mp_ b_N Hx0) (.f f3 (.h 2 (.b true) (.h 6 (.row (b_N x0)) (.r 26 [] [] f4 r)))))))
    by_cases h_1:((m102 x0 (take (toNat (length p:Int)) a0.f1)) !=0)=true
    · try simp only[if_pos h_1]
      have st:=ch b76_0 (h76_0 l0_1 l0_2 a0 (length p:Int)) ⟨[(2,(.oi (m102 x0 (take (toNat (length p:Int)) a0.f1))))],[]⟩ .ret 38 (by kernel_rfl) (P1 (.f h_1 (.h 33 (.b true) .nil)))
      rw[show (⟨[(2,(.oi (m102 x0 (take (toNat (length p:Int)) a0.f1))))],[]⟩:St)=fin76_0 l0_1 l0_2 a0 (.k1 (m102 x0 (take (toNat (length p:Int)) a0.f1))) from(by rfl)] at st
      exact .loopX st (show (.ret:VX.Exit)≠.normal from by simp)
    · try simp only[if_neg h_1]
      have st:=ch b76_0 (h76_0 l0_1 l0_2 a0 (length p:Int)) ⟨[(1,(.ptr ⟨(1,0,0),[],0,0,3⟩)),(27,(.one (.bor l0_1 (map b_N a0.f1)))),(28,(.oi ((length (map b_N a0.f1)):Int))),(29,(.oi (wrap .i64 ((length p:Int)+1))))],[((1,0,0),.live ⟨3,[[(.i a0.f0),(.bor l0_1 (map b_N a0.f1)),(.bor l0_2 (map b_U a0.f2))]],[]⟩)]⟩ .normal 38 (by kernel_rfl) (P1 (.f (nt h_1) (.f trivial (.h 33 (.b false) .nil))))
      have ih:=t76_0 (l0_1:=l0_1) (l0_2:=l0_2) (a0:=a0) hy0 hy1 hy2 hy3 y0 (p++ [x0]) (by rw[append_assoc]; exact hp0)
      rw[show ((p++ [x0]).length:Int)=(p.length:Int)+1 from by simp] at ih
      rw[show (⟨[(1,(.ptr ⟨(1,0,0),[],0,0,3⟩)),(27,(.one (.bor l0_1 (map b_N a0.f1)))),(28,(.oi ((length (map b_N a0.f1)):Int))),(29,(.oi (wrap .i64 ((length p:Int)+1))))],[((1,0,0),.live ⟨3,[[(.i a0.f0),(.bor l0_1 (map b_N a0.f1)),(.bor l0_2 (map b_U a0.f2))]],[]⟩)]⟩:St)=h76_0 l0_1 l0_2 a0 ((length p:Int)+1)  from(by unfold h76_0; simp only[hw]; done)] at st
      exact .loopN st ih
theorem lf76 {a:K_T}:∀ {l:List K_N} {i:Int} {j b},r76_0 a l i=.k0 j b→∀x∈l,length x.f2≤8
  |[],i,j,b,h,x,hx=>by cases hx
  |y::l,i,j,b,h,x,hx=>by
    simp only[r76_0] at h
    split at h
    · cases h
    · rename_i h1
      rcases List.mem_cons.1 hx with rfl | hx
      · have h2:m102 x (take (toNat i) a.f1)=0:=by simpa using h1
        exact inl102 h2
      · exact lf76 h x hx
theorem ne76 {a:K_T}:∀(l:List K_N) (i:Int),r76_0 a l i≠.k1 0
  |[],i=>by simp only[r76_0]; intro h; cases h
  |y::l,i=>by
    simp only[r76_0]
    split
    · rename_i h; intro q; injection q with q; rw[q] at h; exact absurd h yG
    · exact ne76 l _
/-! loop 76_1 -/
inductive O76_1 where
  |k0 (w0:Int) (w1:Bool)
  |k1
  |k2 (w0:Int)
def r76_1 (a0:K_T):List K_U→Int→O76_1
  |x0::y0,i=>
    if(!(m41 x0.f0 0 1000000))=true then(O76_1.k1) else
    if((m104 x0.f1) !=0)=true then(O76_1.k2 (m104 x0.f1)) else
      (r76_1 a0 y0 (i+1))
  |[],i=>(O76_1.k0 i (decide (i <((length (map b_U a0.f2)):Int))))
def h76_1 (l0_1:Nat) (l0_2:Nat) (a0:K_T) (i:Int) :St:=⟨[(1,(.ptr ⟨(1,0,0),[],0,0,3⟩)),(45,(.one (.bor l0_2 (map b_U a0.f2)))),(46,(.one (.val (.int .i64 ((length (map b_U a0.f2)):Int))))),(47,(.one (.val (.int .i64 i))))],[((1,0,0),.live ⟨3,[[(.val (.int .i64 a0.f0)),(.bor l0_1 (map b_N a0.f1)),(.bor l0_2 (map b_U a0.f2))]],[]⟩)]⟩
def ex76_1:O76_1→VX.Exit
  |.k0 _ _=>(.exit 3)
  |.k1=>.ret
  |.k2 _=>.ret
def fin76_1 (l0_1:Nat) (l0_2:Nat) (a0:K_T):O76_1→St
  |.k0 w0 w1=>⟨[(1,(.ptr ⟨(1,0,0),[],0,0,3⟩)),(45,(.one (.bor l0_2 (map b_U a0.f2)))),(46,(.one (.val (.int .i64 ((length (map b_U a0.f2)):Int))))),(47,(.one (.val (.int .i64 w0)))),(48,(.one (.val (.bool w1))))],[((1,0,0),.live ⟨3,[[(.val (.int .i64 a0.f0)),(.bor l0_1 (map b_N a0.f1)),(.bor l0_2 (map b_U a0.f2))]],[]⟩)]⟩
  |.k1=>⟨[(2,(.one (.val (.int .i64 3))))],[]⟩
  |.k2 w0=>⟨[(2,(.one (.val (.int .i64 w0))))],[]⟩
theorem t76_1 {l0_1:Nat} {l0_2:Nat} {a0:K_T} (hy0:length a0.f1*40≤140737488351232) (hy1:∀z∈a0.f1,ok_N z) (hy2:length a0.f2*32≤140737488351232) (hy3:∀z∈a0.f2,ok_U z):∀(y0:List K_U) (p:List K_U),p++y0=a0.f2→Ev F X (.code l76_1 (h76_1 l0_1 l0_2 a0 (length p:Int)) (ex76_1 (r76_1 a0 y0 (length p:Int))) (fin76_1 l0_1 l0_2 a0 (r76_1 a0 y0 (length p:Int))))
  |[],p,hp0=>by
    have hc:¬(decide ((length p:Int) <((length (map b_U a0.f2)):Int)))=true:=by
      rw[← hp0]; simp only[LN,decide_eq_true_eq]; omega
    have st:=ch b76_1 (h76_1 l0_1 l0_2 a0 (length p:Int)) ⟨[(1,(.ptr ⟨(1,0,0),[],0,0,3⟩)),(45,(.one (.bor l0_2 (map b_U a0.f2)))),(46,(.oi ((length (map b_U a0.f2)):Int))),(47,(.oi (length p:Int))),(48,(.one (.val (.bool (decide ((length p:Int) <((length (map b_U a0.f2)):Int)))))))],[((1,0,0),.live ⟨3,[[(.i a0.f0),(.bor l0_1 (map b_N a0.f1)),(.bor l0_2 (map b_U a0.f2))]],[]⟩)]⟩ (.exit 3) 3 (by kernel_rfl) (.f (nt hc) (.h 2 (.b false) .nil))
    rw[show (⟨[(1,(.ptr ⟨(1,0,0),[],0,0,3⟩)),(45,(.one (.bor l0_2 (map b_U a0.f2)))),(46,(.oi ((length (map b_U a0.f2)):Int))),(47,(.oi (length p:Int))),(48,(.one (.val (.bool (decide ((length p:Int) <((length (map b_U a0.f2)):Int)))))))],[((1,0,0),.live ⟨3,[[(.i a0.f0),(.bor l0_1 (map b_N a0.f1)),(.bor l0_2 (map b_U a0.f2))]],[]⟩)]⟩:St)=fin76_1 l0_1 l0_2 a0 (.k0 (length p:Int) (decide ((length p:Int) <((length (map b_U a0.f2)):Int)))) from(by rfl)] at st
    exact .loopX st (show ((.exit 3):VX.Exit)≠.normal from by simp)
  |x0::y0,p,hp0=>by
    have hc:(decide ((length p:Int) <((length (map b_U a0.f2)):Int)))=true:=by
      rw[← hp0]; simp only[LN,decide_eq_true_eq]; omega
    have Hx0:(a0.f2)[toNat (length p:Int)]?=some x0:=by
      rw[← hp0,Int.toNat_natCast]; simp
    have Mx0_0:=hy3 x0 (List.mem_of_getElem? Hx0)
    have hlen:length (a0.f2)=length p+length y0+1:=by rw[← hp0]; simp; omega
    have hw:wrap .i64 ((length p:Int)+1)=(length p:Int)+1:=wrap64 (by omega)
    simp only[r76_1]
    have f1:0≤(length p:Int):=(by omega)
    have P1 {hs q} (r:PS F X hs q):=(PS.f hc (.f f1 (.f (mp_ b_U Hx0) (.h 2 (.b true) (.h 4 (.row (b_U x0)) (.r 16 [] [] (e103 (a0:=x0.f0)) r))))))
    by_cases h_1:(!(m41 x0.f0 0 1000000))=true
    · try simp only[if_pos h_1]
      have st:=ch b76_1 (h76_1 l0_1 l0_2 a0 (length p:Int)) ⟨[(2,(.oi 3))],[]⟩ .ret 22 (by kernel_rfl) (P1 (.f h_1 (.h 19 (.b true) .nil)))
      rw[show (⟨[(2,(.oi 3))],[]⟩:St)=fin76_1 l0_1 l0_2 a0 (.k1) from(by rfl)] at st
      exact .loopX st (show (.ret:VX.Exit)≠.normal from by simp)
    · try simp only[if_neg h_1]
      have P2 {hs q} (r:PS F X hs q):=(P1 (.f (nt h_1) (.h 19 (.b false) (.r 25 [] [] (e104 (l0_0:=(l0_2+1)) (a0:=x0.f1) (by assumption)) r))))
      by_cases h_2:((m104 x0.f1) !=0)=true
      · try simp only[if_pos h_2]
        have st:=ch b76_1 (h76_1 l0_1 l0_2 a0 (length p:Int)) ⟨[(2,(.oi (m104 x0.f1)))],[]⟩ .ret 37 (by kernel_rfl) (P2 (.f h_2 (.h 32 (.b true) .nil)))
        rw[show (⟨[(2,(.oi (m104 x0.f1)))],[]⟩:St)=fin76_1 l0_1 l0_2 a0 (.k2 (m104 x0.f1)) from(by rfl)] at st
        exact .loopX st (show (.ret:VX.Exit)≠.normal from by simp)
      · try simp only[if_neg h_2]
        have st:=ch b76_1 (h76_1 l0_1 l0_2 a0 (length p:Int)) ⟨[(1,(.ptr ⟨(1,0,0),[],0,0,3⟩)),(45,(.one (.bor l0_2 (map b_U a0.f2)))),(46,(.oi ((length (map b_U a0.f2)):Int))),(47,(.oi (wrap .i64 ((length p:Int)+1))))],[((1,0,0),.live ⟨3,[[(.i a0.f0),(.bor l0_1 (map b_N a0.f1)),(.bor l0_2 (map b_U a0.f2))]],[]⟩)]⟩ .normal 37 (by kernel_rfl) (P2 (.f (nt h_2) (.f trivial (.h 32 (.b false) .nil))))
        have ih:=t76_1 (l0_1:=l0_1) (l0_2:=l0_2) (a0:=a0) hy0 hy1 hy2 hy3 y0 (p++ [x0]) (by rw[append_assoc]; exact hp0)
        rw[show ((p++ [x0]).length:Int)=(p.length:Int)+1 from by simp] at ih
        rw[show (⟨[(1,(.ptr ⟨(1,0,0),[],0,0,3⟩)),(45,(.one (.bor l0_2 (map b_U a0.f2)))),(46,(.oi ((length (map b_U a0.f2)):Int))),(47,(.oi (wrap .i64 ((length p:Int)+1))))],[((1,0,0),.live ⟨3,[[(.i a0.f0),(.bor l0_1 (map b_N a0.f1)),(.bor l0_2 (map b_U a0.f2))]],[]⟩)]⟩:St)=h76_1 l0_1 l0_2 a0 ((length p:Int)+1)  from(by unfold h76_1; simp only[hw]; done)] at st
        exact .loopN st ih
theorem lo76 {a:K_T}:∀ {l:List K_U} {i:Int} {j b},r76_1 a l i=.k0 j b→∀x∈l,m104 x.f1=0
  |[],i,j,b,h,x,hx=>by cases hx
  |y::l,i,j,b,h,x,hx=>by
    simp only[r76_1] at h
    split at h
    · cases h
    · split at h
      · cases h
      · rename_i h1
        rcases List.mem_cons.1 hx with rfl | hx
        · simpa using h1
        · exact lo76 h x hx
theorem nf76 {a:K_T}:∀(l:List K_U) (i:Int),r76_1 a l i≠.k2 0
  |[],i=>by simp only[r76_1]; intro h; cases h
  |y::l,i=>by
    simp only[r76_1]
    split
    · intro q; cases q
    · split
      · rename_i h; intro q; injection q with q; rw[q] at h; exact absurd h yG
      · exact nf76 l _
/-! loop.example/g00539/impl.TxFault -/
def m76 (a0:K_T):Int:=
  if(!(m41 a0.f0 0 65535))=true then 3 else
  if(decide (((length (map b_N a0.f1)):Int) > 4))=true then 2 else
    if(!(m41 ((length (map b_U a0.f2)):Int) 1 4))=true then 2 else
      (match r76_0 a0 a0.f1 0 with | .k0 w0_10 w1_10=>(match r76_1 a0 a0.f2 0 with | .k0 w0_11 w1_11=>(if(!(m41 (m105 a0.f2) 0 1000000))=true then 7 else 0) | .k1=>3 | .k2 w0_11=>w0_11) | .k1 w0_10=>w0_10)
theorem e76 {l0_1:Nat} {l0_2:Nat} {a0:K_T} (hy0:length a0.f1*40≤140737488351232) (hy1:∀z∈a0.f1,ok_N z) (hy2:length a0.f2*32≤140737488351232) (hy3:∀z∈a0.f2,ok_U z):Ev F X (.call 76 [(.agg (k_T l0_1 l0_2 a0))] [] [] [(.one (.val (.int .i64 (m76 a0))))]):=by
  unfold m76
  have P0 {hs q} (r:PS F X hs q):=(PS.r 9 [] [] (e41 (a0:=a0.f0) (a1:=0) (a2:=65535)) r)
  by_cases h0:(!(m41 a0.f0 0 65535))=true
  · try simp only[if_pos h0]
    exact cp ya (P0 (.f h0 (.h 14 (.b true) .nil)))
  · try simp only[if_neg h0]
    have P1 {hs q} (r:PS F X hs q):=(P0 (.f (nt h0) (.h 14 (.b false) r)))
    by_cases h1:(decide (((length (map b_N a0.f1)):Int) > 4))=true
    · try simp only[if_pos h1]
      exact cp ya (P1 (.f h1 (.f h1 (.f h1 (.f h1 (.f h1 (.f h1 (.h 25 (.b true) (.h 27 (.b true) (.h 29 (.b true) (.h 31 (.b true) (.h 33 (.b true) (.h 36 (.b true) .nil)))))))))))))
    · try simp only[if_neg h1]
      have P2 {hs q} (r:PS F X hs q):=(P1 (.f (nt h1) (.f (nt h1) (.f (nt h1) (.f (nt h1) (.h 25 (.b false) (.h 27 (.b false) (.h 29 (.b false) (.h 31 (.b false) (.r 32 [] [] (e41 (a0:=((length (map b_U a0.f2)):Int)) (a1:=1) (a2:=4)) (.f (nt h1) (.f (nt h1) (.h 33 (.b false) (.h 36 (.b false) r))))))))))))))
      by_cases h2:(!(m41 ((length (map b_U a0.f2)):Int) 1 4))=true
      · try simp only[if_pos h2]
        exact cp ya (P2 (.f h2 (.h 39 (.b true) .nil)))
      · try simp only[if_neg h2]
        have P3 {hs q} (r:PS F X hs q):=(P2 (.f (nt h2) (.h 39 (.b false) r)))
        cases h3:r76_0 a0 a0.f1 0 with
        |k0 w0_10 w1_10=>
          try dsimp only
          have f10:(⟨[(1,(.ptr ⟨(1,0,0),[],0,0,3⟩)),(27,(.one (.bor l0_1 (map b_N a0.f1)))),(28,(.oi ((length (map b_N a0.f1)):Int))),(29,(.oi 0))],[((1,0,0),.live ⟨3,[[(.i a0.f0),(.bor l0_1 (map b_N a0.f1)),(.bor l0_2 (map b_U a0.f2))]],[]⟩)]⟩:St)=h76_0 l0_1 l0_2 a0 0 :=yf
          have P4 {hs q} (r:PS F X hs q):=(P3 (.f f10 (.f (ev_ (e:=ex76_0) (g:=(fin76_0 l0_1 l0_2 a0)) h3 (t76_0 (l0_1:=l0_1) (l0_2:=l0_2) (a0:=a0) (by assumption) (by assumption) (by assumption) (by assumption) a0.f1 []  rfl)) (.h 48 (.loop (h76_0 l0_1 l0_2 a0 0) (.exit 1) ⟨[(1,(.ptr ⟨(1,0,0),[],0,0,3⟩)),(27,(.one (.bor l0_1 (map b_N a0.f1)))),(28,(.oi ((length (map b_N a0.f1)):Int))),(29,(.oi w0_10)),(30,(.one (.val (.bool w1_10))))],[((1,0,0),.live ⟨3,[[(.i a0.f0),(.bor l0_1 (map b_N a0.f1)),(.bor l0_2 (map b_U a0.f2))]],[]⟩)]⟩) r))))
          cases h4:r76_1 a0 a0.f2 0 with
          |k0 w0_11 w1_11=>
            try dsimp only
            have f12:(⟨[(1,(.ptr ⟨(1,0,0),[],0,0,3⟩)),(45,(.one (.bor l0_2 (map b_U a0.f2)))),(46,(.oi ((length (map b_U a0.f2)):Int))),(47,(.oi 0))],[((1,0,0),.live ⟨3,[[(.i a0.f0),(.bor l0_1 (map b_N a0.f1)),(.bor l0_2 (map b_U a0.f2))]],[]⟩)]⟩:St)=h76_1 l0_1 l0_2 a0 0 :=yf
            have P5 {hs q} (r:PS F X hs q):=(P4 (.f f12 (.f (ev_ (e:=ex76_1) (g:=(fin76_1 l0_1 l0_2 a0)) h4 (t76_1 (l0_1:=l0_1) (l0_2:=l0_2) (a0:=a0) (by assumption) (by assumption) (by assumption) (by assumption) a0.f2 []  rfl)) (.h 57 (.loop (h76_1 l0_1 l0_2 a0 0) (.exit 3) ⟨[(1,(.ptr ⟨(1,0,0),[],0,0,3⟩)),(45,(.one (.bor l0_2 (map b_U a0.f2)))),(46,(.oi ((length (map b_U a0.f2)):Int))),(47,(.oi w0_11)),(48,(.one (.val (.bool w1_11))))],[((1,0,0),.live ⟨3,[[(.i a0.f0),(.bor l0_1 (map b_N a0.f1)),(.bor l0_2 (map b_U a0.f2))]],[]⟩)]⟩) (.r 63 [] [] (e105 (l0_0:=(l0_2+1)) (a0:=a0.f2) ‹_› ‹_›) (.r 65 [] [] (e103 (a0:=(m105 a0.f2))) r))))))
            by_cases h5:(!(m41 (m105 a0.f2) 0 1000000))=true
            · try simp only[if_pos h5]
              exact cp ya (P5 (.f h5 (.h 68 (.b true) .nil)))
            · try simp only[if_neg h5]
              exact cp ya (P5 (.f (nt h5) (.h 68 (.b false) .nil)))
          |k1=>
            try dsimp only
            have f12:(⟨[(1,(.ptr ⟨(1,0,0),[],0,0,3⟩)),(45,(.one (.bor l0_2 (map b_U a0.f2)))),(46,(.oi ((length (map b_U a0.f2)):Int))),(47,(.oi 0))],[((1,0,0),.live ⟨3,[[(.i a0.f0),(.bor l0_1 (map b_N a0.f1)),(.bor l0_2 (map b_U a0.f2))]],[]⟩)]⟩:St)=h76_1 l0_1 l0_2 a0 0 :=yf
            exact cp ya (P4 (.f f12 (.f (ev_ (e:=ex76_1) (g:=(fin76_1 l0_1 l0_2 a0)) h4 (t76_1 (l0_1:=l0_1) (l0_2:=l0_2) (a0:=a0) (by assumption) (by assumption) (by assumption) (by assumption) a0.f2 []  rfl)) (.h 57 (.loop (h76_1 l0_1 l0_2 a0 0) .ret ⟨[(2,(.oi 3))],[]⟩) .nil))))
          |k2 w0_11=>
            try dsimp only
            have f12:(⟨[(1,(.ptr ⟨(1,0,0),[],0,0,3⟩)),(45,(.one (.bor l0_2 (map b_U a0.f2)))),(46,(.oi ((length (map b_U a0.f2)):Int))),(47,(.oi 0))],[((1,0,0),.live ⟨3,[[(.i a0.f0),(.bor l0_1 (map b_N a0.f1)),(.bor l0_2 (map b_U a0.f2))]],[]⟩)]⟩:St)=h76_1 l0_1 l0_2 a0 0 :=yf
            exact cp ya (P4 (.f f12 (.f (ev_ (e:=ex76_1) (g:=(fin76_1 l0_1 l0_2 a0)) h4 (t76_1 (l0_1:=l0_1) (l0_2:=l0_2) (a0:=a0) (by assumption) (by assumption) (by assumption) (by assumption) a0.f2 []  rfl)) (.h 57 (.loop (h76_1 l0_1 l0_2 a0 0) .ret ⟨[(2,(.oi w0_11))],[]⟩) .nil))))
        |k1 w0_10=>
          try dsimp only
          have f10:(⟨[(1,(.ptr ⟨(1,0,0),[],0,0,3⟩)),(27,(.one (.bor l0_1 (map b_N a0.f1)))),(28,(.oi ((length (map b_N a0.f1)):Int))),(29,(.oi 0))],[((1,0,0),.live ⟨3,[[(.i a0.f0),(.bor l0_1 (map b_N a0.f1)),(.bor l0_2 (map b_U a0.f2))]],[]⟩)]⟩:St)=h76_0 l0_1 l0_2 a0 0 :=yf
          exact cp ya (P3 (.f f10 (.f (ev_ (e:=ex76_0) (g:=(fin76_0 l0_1 l0_2 a0)) h3 (t76_0 (l0_1:=l0_1) (l0_2:=l0_2) (a0:=a0) (by assumption) (by assumption) (by assumption) (by assumption) a0.f1 []  rfl)) (.h 48 (.loop (h76_0 l0_1 l0_2 a0 0) .ret ⟨[(2,(.oi w0_10))],[]⟩) .nil))))
theorem ft76 {a:K_T} (h:m76 a=0):SmT a:=by
  unfold m76 at h
  split at h
  · exact absurd h yG
  · split at h
    · exact absurd h yG
    · split at h
      · exact absurd h yG
      · rename_i c1 c2 c3
        simp only[decide_eq_true_eq,length_map] at c2
        have c4:length a.f2≤4:=by
          unfold m41 at c3
          simp only[length_map] at c3
          split at c3
          · by_cases e:(a.f2.length:Int)≤4
            · omega
            · simp[e] at c3
          · simp at c3
        cases hr:r76_0 a a.f1 0 with
        |k1 w=>rw[hr] at h; simp only[] at h; subst h; exact absurd hr (ne76 _ _)
        |k0 j b=>
          rw[hr] at h; simp only[] at h
          refine⟨by omega,lf76 hr,c4,?_⟩
          cases ho:r76_1 a a.f2 0 with
          |k0 j b=>exact fun x hx=>lk104 (lo76 ho x hx)
          |k1=>rw[ho] at h; simp only[] at h; exact absurd h yG
          |k2 w=>rw[ho] at h; simp only[] at h; subst h; exact absurd ho (nf76 _ _)
theorem e77 {l0_1:Nat} {l0_2:Nat} {a0:K_T}:Ev F X (.call 77 [(.agg (k_T l0_1 l0_2 a0))] [] [] [(.one (.val (.bool (((length (map b_N a0.f1)):Int)==0))))]):=by
  exact cp ya .nil
theorem e159 {a0:Int}:Ev F X (.call 159 [(.one (.val (.int .i64 a0)))] [] [] [(.one (.val (.bool (!(m41 a0 0 2147483646)))))]):=by
  exact cp ya (.r 5 [] [] (e74 (a0:=a0)) .nil)
/-! loop 1015702_0 -/
inductive O1015702_0 where
  |k0 (w0:Int) (w1:Bool)
  |k1 (w0:Int)
def r1015702_0 (a0:(List Int)):List Int→Int→O1015702_0
  |x0::y0,i=>
    if(!(m41 x0 0 2147483646))=true then(O1015702_0.k1 i) else
    (r1015702_0 a0 y0 (i+1))
  |[],i=>(O1015702_0.k0 i (decide (i <((length (map b_i a0)):Int))))
def h1015702_0 (l0_0:Nat) (a0:(List Int)) (i:Int) :St:=⟨[(0,(.one (.bor l0_0 (map b_i a0)))),(1,(.clo 159 [] [])),(7,(.one (.val (.int .i64 ((length (map b_i a0)):Int))))),(8,(.one (.val (.int .i64 i))))],[]⟩
def ex1015702_0:O1015702_0→VX.Exit
  |.k0 _ _=>(.exit 0)
  |.k1 _=>.ret
def fin1015702_0 (l0_0:Nat) (a0:(List Int)):O1015702_0→St
  |.k0 w0 w1=>⟨[(0,(.one (.bor l0_0 (map b_i a0)))),(1,(.clo 159 [] [])),(7,(.one (.val (.int .i64 ((length (map b_i a0)):Int))))),(8,(.one (.val (.int .i64 w0)))),(9,(.one (.val (.bool w1))))],[]⟩
  |.k1 w0=>⟨[(4,(.one (.val (.int .i64 w0))))],[]⟩
theorem t1015702_0 {l0_0:Nat} {a0:(List Int)} (hy0:length a0*8≤140737488351232):∀(y0:List Int) (p:List Int),p++y0=a0→Ev F X (.code l157_0 (h1015702_0 l0_0 a0 (length p:Int)) (ex1015702_0 (r1015702_0 a0 y0 (length p:Int))) (fin1015702_0 l0_0 a0 (r1015702_0 a0 y0 (length p:Int))))
  |[],p,hp0=>by
    have hc:¬(decide ((length p:Int) <((length (map b_i a0)):Int)))=true:=by
      rw[← hp0]; simp only[LN,decide_eq_true_eq]; omega
    have st:=ch b157_0 (h1015702_0 l0_0 a0 (length p:Int)) ⟨[(0,(.one (.bor l0_0 (map b_i a0)))),(1,(.clo 159 [] [])),(7,(.oi ((length (map b_i a0)):Int))),(8,(.oi (length p:Int))),(9,(.one (.val (.bool (decide ((length p:Int) <((length (map b_i a0)):Int)))))))],[]⟩ (.exit 0) 3 (by kernel_rfl) (.f (nt hc) (.h 2 (.b false) .nil))
    rw[show (⟨[(0,(.one (.bor l0_0 (map b_i a0)))),(1,(.clo 159 [] [])),(7,(.oi ((length (map b_i a0)):Int))),(8,(.oi (length p:Int))),(9,(.one (.val (.bool (decide ((length p:Int) <((length (map b_i a0)):Int)))))))],[]⟩:St)=fin1015702_0 l0_0 a0 (.k0 (length p:Int) (decide ((length p:Int) <((length (map b_i a0)):Int)))) from(by rfl)] at st
    exact .loopX st (show ((.exit 0):VX.Exit)≠.normal from by simp)
  |x0::y0,p,hp0=>by
    have hc:(decide ((length p:Int) <((length (map b_i a0)):Int)))=true:=by
      rw[← hp0]; simp only[LN,decide_eq_true_eq]; omega
    have Hx0:(a0)[toNat (length p:Int)]?=some x0:=by
      rw[← hp0,Int.toNat_natCast]; simp
    have hlen:length (a0)=length p+length y0+1:=by rw[← hp0]; simp; omega
    have hw:wrap .i64 ((length p:Int)+1)=(length p:Int)+1:=wrap64 (by omega)
    simp only[r1015702_0]
    have f1:0≤(length p:Int):=(by omega)
    have P1 {hs q} (r:PS F X hs q):=(PS.f hc (.f f1 (.f (mp_ b_i Hx0) (.h 2 (.b true) (.h 14 (.row [(.i x0)]) (.r 18 [] [] (e159 (a0:=x0)) r))))))
    by_cases h_1:(!(m41 x0 0 2147483646))=true
    · try simp only[if_pos h_1]
      have st:=ch b157_0 (h1015702_0 l0_0 a0 (length p:Int)) ⟨[(4,(.oi (length p:Int)))],[]⟩ .ret 24 (by kernel_rfl) (P1 (.f h_1 (.h 19 (.b true) .nil)))
      rw[show (⟨[(4,(.oi (length p:Int)))],[]⟩:St)=fin1015702_0 l0_0 a0 (.k1 (length p:Int)) from(by rfl)] at st
      exact .loopX st (show (.ret:VX.Exit)≠.normal from by simp)
    · try simp only[if_neg h_1]
      have st:=ch b157_0 (h1015702_0 l0_0 a0 (length p:Int)) ⟨[(0,(.one (.bor l0_0 (map b_i a0)))),(1,(.clo 159 [] [])),(7,(.oi ((length (map b_i a0)):Int))),(8,(.oi (wrap .i64 ((length p:Int)+1))))],[]⟩ .normal 24 (by kernel_rfl) (P1 (.f (nt h_1) (.f trivial (.h 19 (.b false) .nil))))
      have ih:=t1015702_0 (l0_0:=l0_0) (a0:=a0) hy0 y0 (p++ [x0]) (by rw[append_assoc]; exact hp0)
      rw[show ((p++ [x0]).length:Int)=(p.length:Int)+1 from by simp] at ih
      rw[show (⟨[(0,(.one (.bor l0_0 (map b_i a0)))),(1,(.clo 159 [] [])),(7,(.oi ((length (map b_i a0)):Int))),(8,(.oi (wrap .i64 ((length p:Int)+1))))],[]⟩:St)=h1015702_0 l0_0 a0 ((length p:Int)+1)  from(by unfold h1015702_0; simp only[hw]; done)] at st
      exact .loopN st ih
/-! slices.IndexFunc[[]int64,int64] -/
def m1015702 (a0:(List Int)):Int:=
  (match r1015702_0 a0 a0 0 with | .k0 w0_0 w1_0=>(-1) | .k1 w0_0=>w0_0)
theorem e1015702 {l0_0:Nat} {a0:(List Int)} (hy0:length a0*8≤140737488351232):Ev F X (.call 157 [(.one (.bor l0_0 (map b_i a0))),(.clo 159 [] [])] [] [] [(.one (.val (.int .i64 (m1015702 a0))))]):=by
  unfold m1015702
  cases h0:r1015702_0 a0 a0 0 with
  |k0 w0_0 w1_0=>
    try dsimp only
    have f0:(⟨[(0,(.one (.bor l0_0 (map b_i a0)))),(1,(.clo 159 [] [])),(7,(.oi ((length (map b_i a0)):Int))),(8,(.oi 0))],[]⟩:St)=h1015702_0 l0_0 a0 0 :=yf
    exact cp ya (.f f0 (.f (ev_ (e:=ex1015702_0) (g:=(fin1015702_0 l0_0 a0)) h0 (t1015702_0 (l0_0:=l0_0) (a0:=a0) (by assumption) a0 []  rfl)) (.h 8 (.loop (h1015702_0 l0_0 a0 0) (.exit 0) ⟨[(0,(.one (.bor l0_0 (map b_i a0)))),(1,(.clo 159 [] [])),(7,(.oi ((length (map b_i a0)):Int))),(8,(.oi w0_0)),(9,(.one (.val (.bool w1_0))))],[]⟩) .nil)))
  |k1 w0_0=>
    try dsimp only
    have f0:(⟨[(0,(.one (.bor l0_0 (map b_i a0)))),(1,(.clo 159 [] [])),(7,(.oi ((length (map b_i a0)):Int))),(8,(.oi 0))],[]⟩:St)=h1015702_0 l0_0 a0 0 :=yf
    exact cp ya (.f f0 (.f (ev_ (e:=ex1015702_0) (g:=(fin1015702_0 l0_0 a0)) h0 (t1015702_0 (l0_0:=l0_0) (a0:=a0) (by assumption) a0 []  rfl)) (.h 8 (.loop (h1015702_0 l0_0 a0 0) .ret ⟨[(4,(.oi w0_0))],[]⟩) .nil)))
theorem e1013302 {l0_0:Nat} {a0:(List Int)} (hy0:length a0*8≤140737488351232):Ev F X (.call 133 [(.one (.bor l0_0 (map b_i a0))),(.clo 159 [] [])] [] [] [(.one (.val (.bool (decide ((m1015702 a0)≥0)))))]):=by
  exact cp ya (.r 7 [] [] (e1015702 (l0_0:=(l0_0+1)) (a0:=a0) ‹_›) .nil)
/-! loop.example/g00539/impl.sumsFault -/
def m138 (a0:(List Int)):Int:=
  if(decide ((m1015702 a0)≥0))=true then 3 else
  0
theorem e138 {l0_0:Nat} {a0:(List Int)} (hy0:length a0*8≤140737488351232):Ev F X (.call 138 [(.one (.bor l0_0 (map b_i a0)))] [] [] [(.one (.val (.int .i64 (m138 a0))))]):=by
  unfold m138
  have P0 {hs q} (r:PS F X hs q):=(PS.r 5 [] [] (e1013302 (l0_0:=(l0_0+1)) (a0:=a0) ‹_›) r)
  by_cases h0:(decide ((m1015702 a0)≥0))=true
  · try simp only[if_pos h0]
    exact cp ya (P0 (.f h0 (.h 6 (.b true) .nil)))
  · try simp only[if_neg h0]
    exact cp ya (P0 (.f (nt h0) (.h 6 (.b false) .nil)))
/-! loop.example/g00539/impl.leavesFault -/
def m106 (a0:(List Int)):Int:=
  if(!(m41 ((length (map b_i a0)):Int) 1 8))=true then 2 else
  (m138 a0)
theorem e106 {l0_0:Nat} {a0:(List Int)} (hy0:length a0*8≤140737488351232):Ev F X (.call 106 [(.one (.bor l0_0 (map b_i a0)))] [] [] [(.one (.val (.int .i64 (m106 a0))))]):=by
  unfold m106
  have P0 {hs q} (r:PS F X hs q):=(PS.r 7 [] [] (e41 (a0:=((length (map b_i a0)):Int)) (a1:=1) (a2:=8)) r)
  by_cases h0:(!(m41 ((length (map b_i a0)):Int) 1 8))=true
  · try simp only[if_pos h0]
    exact cp ya (P0 (.f h0 (.h 10 (.b true) .nil)))
  · try simp only[if_neg h0]
    exact cp ya (P0 (.f (nt h0) (.h 10 (.b false) (.r 14 [] [] (e138 (l0_0:=(l0_0+1)) (a0:=a0) ‹_›) .nil))))
end Go.Proofs.YtmdocdnidilaiaaGreat.ShareBlock
