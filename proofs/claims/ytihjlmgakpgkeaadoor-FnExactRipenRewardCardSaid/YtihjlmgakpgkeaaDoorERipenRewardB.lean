/- What the functions compute. -/
import Derived.Test.YtihjlmgakpgkeaaDoorERipenRewardA
import Derived.KernelRfl
namespace Go.Proofs.YtihjlmgakpgkeaaDoor.RipenReward
open Go Go.Proofs.YtihjlmgakpgkeaaDoor.V
set_option linter.unusedVariables false
set_option linter.unusedSimpArgs false
set_option maxRecDepth 20000
open List (length_replicate length_map length_set length_append length_cons length_nil length_take length_drop take_of_length_le map_take map_drop map_set append_assoc getElem?_map map length take drop getD set)
attribute [local simp] toBR_si fullR_si pureR_si lenB_si lenD_si fromBR_si copy_si toBR_R fullR_R pureR_R lenB_R lenD_R toBR_B fullR_B pureR_B lenB_B lenD_B toBR_i fullR_i pureR_i lenB_i lenD_i fromBR_i copy_i toBR_b fullR_b pureR_b lenB_b lenD_b fromBR_b copy_b toBR_C fullR_C pureR_C lenB_C lenD_C toBR_LsiE fullR_LsiE pureR_LsiE lenB_LsiE lenD_LsiE toBR_s fullR_s pureR_s lenB_s lenD_s fromBR_s copy_s toBR_Q fullR_Q pureR_Q lenB_Q lenD_Q strInts_len byteRows_len toBR_y fullR_y pureR_y lenB_y lenD_y fromBR_y copy_y
/-! loop 103_0 -/
inductive O103_0 where
  |k0 (w0:List K_R) (w1:Int) (w2:Bool)
def r103_0 (a0:K_B):List K_R→Int→List K_R→O103_0
  |x0::y0,i,v0=>
    (r103_0 a0 y0 (i+1) (v0++([(K_R.mk x0.f0 x0.f1 x0.f2 (([])++x0.f3) x0.f4)])))
  |[],i,v0=>(O103_0.k0 v0 i (decide (i <((length (map b_R a0.f3)):Int))))
def h103_0 (l0_2:Nat) (l0_3:Nat) (l0_4:Nat) (a0:K_B) (i:Int) (v0:List K_R):St:=⟨[(1,(.ptr ⟨(1,0,0),[],0,0,8⟩)),(2,(.ptr ⟨(2,0,0),[],0,0,8⟩)),(3,(.ptr ⟨(3,0,0),[],0,0,8⟩)),(4,(.one (.val (.int .i64 i))))],[((1,0,0),.live ⟨8,[[(.val (.int .i64 a0.f0)),(.val (.int .i64 a0.f1)),(.bor l0_2 (map b_si a0.f2)),(.bor l0_3 (map b_R a0.f3)),(.bor l0_4 (map b_si a0.f4)),(.val (.int .i64 a0.f5)),(.val (.int .i64 a0.f6)),(.val (.int .i64 a0.f7))]],[]⟩),((2,0,0),.live ⟨8,[[(.val (.int .i64 0)),(.val (.int .i64 0)),(.own 2 []),(.own 5 []),(.own 2 []),(.val (.int .i64 0)),(.val (.int .i64 0)),(.val (.int .i64 0))]],[]⟩),((3,0,0),.live ⟨8,[[(.val (.int .i64 a0.f0)),(.val (.int .i64 a0.f1)),(.own 2 (map d_si (([])++a0.f2))),(.own 5 (map d_R v0)),(.own 2 (map d_si (([])++a0.f4))),(.val (.int .i64 a0.f5)),(.val (.int .i64 a0.f6)),(.val (.int .i64 a0.f7))]],[]⟩)]⟩
def ex103_0:O103_0→VX.Exit
  |.k0 _ _ _=>(.exit 0)
def fin103_0 (l0_2:Nat) (l0_3:Nat) (l0_4:Nat) (a0:K_B):O103_0→St
  |.k0 w0 w1 w2=>⟨[(1,(.ptr ⟨(1,0,0),[],0,0,8⟩)),(2,(.ptr ⟨(2,0,0),[],0,0,8⟩)),(3,(.ptr ⟨(3,0,0),[],0,0,8⟩)),(4,(.one (.val (.int .i64 w1)))),(20,(.one (.val (.bool w2))))],[((1,0,0),.live ⟨8,[[(.val (.int .i64 a0.f0)),(.val (.int .i64 a0.f1)),(.bor l0_2 (map b_si a0.f2)),(.bor l0_3 (map b_R a0.f3)),(.bor l0_4 (map b_si a0.f4)),(.val (.int .i64 a0.f5)),(.val (.int .i64 a0.f6)),(.val (.int .i64 a0.f7))]],[]⟩),((2,0,0),.live ⟨8,[[(.val (.int .i64 0)),(.val (.int .i64 0)),(.own 2 []),(.own 5 []),(.own 2 []),(.val (.int .i64 0)),(.val (.int .i64 0)),(.val (.int .i64 0))]],[]⟩),((3,0,0),.live ⟨8,[[(.val (.int .i64 a0.f0)),(.val (.int .i64 a0.f1)),(.own 2 (map d_si (([])++a0.f2))),(.own 5 (map d_R w0)),(.own 2 (map d_si (([])++a0.f4))),(.val (.int .i64 a0.f5)),(.val (.int .i64 a0.f6)),(.val (.int .i64 a0.f7))]],[]⟩)]⟩
theorem t103_0 {l0_2:Nat} {l0_3:Nat} {l0_4:Nat} {a0:K_B} (hy0:length a0.f2≤100) (hy1:length a0.f3≤100) (hy2:∀z∈a0.f3,length z.f3≤100) (hy3:length a0.f4≤100) (hy4:∀z∈a0.f3,ok_R z):∀(y0:List K_R) (p:List K_R) (v0:List K_R),p++y0=a0.f3→(length v0+length y0)*56≤70368744177664→Ev F X (.code l103_0 (h103_0 l0_2 l0_3 l0_4 a0 (length p:Int) v0) (ex103_0 (r103_0 a0 y0 (length p:Int) v0)) (fin103_0 l0_2 l0_3 l0_4 a0 (r103_0 a0 y0 (length p:Int) v0)))
  |[],p,v0,hp0,hi0=>by
    have hc:¬(decide ((length p:Int) <((length (map b_R a0.f3)):Int)))=true:=by
      rw[← hp0]; simp only[length_map,length_set,length_append,length_replicate,length_cons,length_nil,decide_eq_true_eq]; omega
    have hj0:=hi0; try simp only[length_map,length_set,length_append,length_replicate,length_cons,length_nil,Int.toNat_natCast] at hj0
    have st:=codeH_ok (F:=F) (X:=X) (c:=b103_0) (t:=0) (hs:=[(10,.b false)]) (σ:=h103_0 l0_2 l0_3 l0_4 a0 (length p:Int) v0) (σ':=fin103_0 l0_2 l0_3 l0_4 a0 (.k0 v0 (length p:Int) (decide ((length p:Int) <((length (map b_R a0.f3)):Int))))) (e:=(.exit 0)) (t':=11) (hs':=[]) (q:=[(decide ((length p:Int) <((length (map b_R a0.f3)):Int)))=false]) (by kernel_rfl) ⟨(nt hc),trivial⟩
    exact .loopX st (show ((.exit 0):VX.Exit)≠.normal from by simp)
  |x0::y0,p,v0,hp0,hi0=>by
    have hc:(decide ((length p:Int) <((length (map b_R a0.f3)):Int)))=true:=by
      rw[← hp0]; simp only[length_map,length_set,length_append,length_replicate,length_cons,length_nil,decide_eq_true_eq]; omega
    have Hx0:(a0.f3)[Int.toNat (length p:Int)]?=some x0:=by
      rw[← hp0,Int.toNat_natCast]; simp
    have Nx0_2:=hy2 x0 (List.mem_of_getElem? Hx0)
    have Mx0_0:=hy4 x0 (List.mem_of_getElem? Hx0)
    have hlen:length (a0.f3)=length p+length y0+1:=by rw[← hp0]; simp; omega
    have hw:IntKind.wrap .i64 ((length p:Int)+1)=(length p:Int)+1:=wrap64 (by omega)
    have hj0:=hi0; try simp only[length_map,length_set,length_append,length_replicate,length_cons,length_nil,Int.toNat_natCast] at hj0
    simp only[r103_0]
    have st:=codeH_ok (F:=F) (X:=X) (c:=b103_0) (t:=0) (hs:=[(10,.b true),(18,.row [(.i x0.f0),(.i x0.f1),(.i x0.f2),(.sl (map b_si x0.f3)),(.i x0.f4)]),(30,.ret [] [(.one (.own 2 (map d_si (([])++x0.f3))))] [] []),(44,.b false),(49,.norm (3,0,0) [[(.i a0.f0),(.i a0.f1),(.own 2 (map d_si (([])++a0.f2))),(.own 5 (map d_R (v0++([(K_R.mk x0.f0 x0.f1 x0.f2 (([])++x0.f3) x0.f4)])))),(.own 2 (map d_si (([])++a0.f4))),(.i a0.f5),(.i a0.f6),(.i a0.f7)]])]) (σ:=h103_0 l0_2 l0_3 l0_4 a0 (length p:Int) v0) (σ':=⟨[(1,(.ptr ⟨(1,0,0),[],0,0,8⟩)),(2,(.ptr ⟨(2,0,0),[],0,0,8⟩)),(3,(.ptr ⟨(3,0,0),[],0,0,8⟩)),(4,(.oi (IntKind.wrap .i64 ((length p:Int)+1))))],[((1,0,0),.live ⟨8,[[(.i a0.f0),(.i a0.f1),(.bor l0_2 (map b_si a0.f2)),(.bor l0_3 (map b_R a0.f3)),(.bor l0_4 (map b_si a0.f4)),(.i a0.f5),(.i a0.f6),(.i a0.f7)]],[]⟩),((2,0,0),.live ⟨8,[[(.i 0),(.i 0),(.own 2 []),(.own 5 []),(.own 2 []),(.i 0),(.i 0),(.i 0)]],[]⟩),((3,0,0),.live ⟨8,[[(.i a0.f0),(.i a0.f1),(.own 2 (map d_si (([])++a0.f2))),(.own 5 (map d_R (v0++([(K_R.mk x0.f0 x0.f1 x0.f2 (([])++x0.f3) x0.f4)])))),(.own 2 (map d_si (([])++a0.f4))),(.i a0.f5),(.i a0.f6),(.i a0.f7)]],[]⟩)]⟩) (e:=.normal) (t':=56) (hs':=[]) (q:=[(decide ((length p:Int) <((length (map b_R a0.f3)):Int)))=true,0≤(length p:Int),(map b_R a0.f3)[(Int.toNat (length p:Int))]?=some [(.i x0.f0),(.i x0.f1),(.i x0.f2),(.sl (map b_si x0.f3)),(.i x0.f4)],Ev F X (.call 137 [(.one (.bor (l0_3+1) (map b_si x0.f3)))] [] [] [(.one (.own 2 (map d_si (([])++x0.f3))))]),0=0,(length (map d_si (([])++x0.f3)))=(length (map d_si (([])++x0.f3))),0=0,(length (map d_si (([])++x0.f3)))=(length (map d_si (([])++x0.f3))),0+(length (map d_R v0))≤(length (map d_R v0)),1≤1,((take 1 (drop 0 [[(.i x0.f0),(.i x0.f1),(.i x0.f2),(.own 2 (map d_si (([])++x0.f3))),(.i x0.f4)]])).all fun x=>x.all copyable)=false,0=0,1=1,(length ((take (length (map d_R v0)) (drop 0 (map d_R v0)))++([[(.i x0.f0),(.i x0.f1),(.i x0.f2),(.own 2 (map d_si (([])++x0.f3))),(.i x0.f4)]]:List (List D))))*56≤70368744177664,∀r∈([[(.i x0.f0),(.i x0.f1),(.i x0.f2),(.own 2 (map d_si (([])++x0.f3))),(.i x0.f4)]]:List (List D)),r.length=5,0=0,(length ((take (length (map d_R v0)) (drop 0 (map d_R v0)))++([[(.i x0.f0),(.i x0.f1),(.i x0.f2),(.own 2 (map d_si (([])++x0.f3))),(.i x0.f4)]]:List (List D))))=(length ((take (length (map d_R v0)) (drop 0 (map d_R v0)))++([[(.i x0.f0),(.i x0.f1),(.i x0.f2),(.own 2 (map d_si (([])++x0.f3))),(.i x0.f4)]]:List (List D)))),([[(.i a0.f0),(.i a0.f1),(.own 2 (map d_si (([])++a0.f2))),(.own 5 ((take (length (map d_R v0)) (drop 0 (map d_R v0)))++([[(.i x0.f0),(.i x0.f1),(.i x0.f2),(.own 2 (map d_si (([])++x0.f3))),(.i x0.f4)]]:List (List D)))),(.own 2 (map d_si (([])++a0.f4))),(.i a0.f5),(.i a0.f6),(.i a0.f7)]]:List (List D))=[[(.i a0.f0),(.i a0.f1),(.own 2 (map d_si (([])++a0.f2))),(.own 5 (map d_R (v0++([(K_R.mk x0.f0 x0.f1 x0.f2 (([])++x0.f3) x0.f4)])))),(.own 2 (map d_si (([])++a0.f4))),(.i a0.f5),(.i a0.f6),(.i a0.f7)]],True]) (by kernel_rfl) ⟨hc,(by omega),(by rw[getElem?_map,Hx0]; rfl),(e137 (a0:=x0.f3) (by omega)),rfl,rfl,rfl,rfl,(by omega),(by omega),(by trivial),rfl,rfl,(by simp only[length_map,length_append,length_cons,length_nil,length_take,length_drop]; omega),(by simp; done),rfl,rfl,(by simp[byteRows_eq,ints_y,take_of_length_le,d_si,d_R,d_B,d_i,d_b,d_C,d_LsiE,d_s,d_Q,d_y,fromBR_si,fromBR_i,fromBR_b,fromBR_s,fromBR_y]; done),trivial,trivial⟩
    have ih:=t103_0 (l0_2:=l0_2) (l0_3:=l0_3) (l0_4:=l0_4) (a0:=a0) hy0 hy1 hy2 hy3 hy4 y0 (p++ [x0]) (v0++([(K_R.mk x0.f0 x0.f1 x0.f2 (([])++x0.f3) x0.f4)])) (by rw[append_assoc]; exact hp0) (by simp only[length_map,length_set,length_append,length_replicate,length_cons,length_nil]; omega)
    rw[show ((p++ [x0]).length:Int)=(p.length:Int)+1 from by simp] at ih
    rw[show (⟨[(1,(.ptr ⟨(1,0,0),[],0,0,8⟩)),(2,(.ptr ⟨(2,0,0),[],0,0,8⟩)),(3,(.ptr ⟨(3,0,0),[],0,0,8⟩)),(4,(.oi (IntKind.wrap .i64 ((length p:Int)+1))))],[((1,0,0),.live ⟨8,[[(.i a0.f0),(.i a0.f1),(.bor l0_2 (map b_si a0.f2)),(.bor l0_3 (map b_R a0.f3)),(.bor l0_4 (map b_si a0.f4)),(.i a0.f5),(.i a0.f6),(.i a0.f7)]],[]⟩),((2,0,0),.live ⟨8,[[(.i 0),(.i 0),(.own 2 []),(.own 5 []),(.own 2 []),(.i 0),(.i 0),(.i 0)]],[]⟩),((3,0,0),.live ⟨8,[[(.i a0.f0),(.i a0.f1),(.own 2 (map d_si (([])++a0.f2))),(.own 5 (map d_R (v0++([(K_R.mk x0.f0 x0.f1 x0.f2 (([])++x0.f3) x0.f4)])))),(.own 2 (map d_si (([])++a0.f4))),(.i a0.f5),(.i a0.f6),(.i a0.f7)]],[]⟩)]⟩:St)=h103_0 l0_2 l0_3 l0_4 a0 ((length p:Int)+1) (v0++([(K_R.mk x0.f0 x0.f1 x0.f2 (([])++x0.f3) x0.f4)])) from(by unfold h103_0; simp only[hw]; done)] at st
    exact .loopN st ih
def post103_0 (n0:Nat):O103_0→Prop
  |.k0 w0 _ _=>length w0=n0
theorem z103_0 {a0:K_B}:∀(y0:List K_R) (i:Int) (v0:List K_R),post103_0 (length v0+length y0) (r103_0 a0 y0 i v0)
  |[],i,v0=>by
    first | trivial |(simp only[post103_0,length_nil,Nat.add_zero]; done) |(simp[post103_0]; done)
  |x0::y0,i,v0=>by
    simp only[r103_0]
    have z:=z103_0 (a0:=a0) y0 (i+1) (v0++([(K_R.mk x0.f0 x0.f1 x0.f2 (([])++x0.f3) x0.f4)]))
    rw[show (length v0+length (x0::y0))=(length (v0++([(K_R.mk x0.f0 x0.f1 x0.f2 (([])++x0.f3) x0.f4)]))+length y0) from by first | omega |(simp only[length_map,length_set,length_append,length_replicate,length_cons,length_nil]; done) |(simp only[length_map,length_set,length_append,length_replicate,length_cons,length_nil]; omega)]
    exact z
/-! loop.example/g00539/spec.l14Copy -/
def m103 (a0:K_B):K_B:=
  (match r103_0 a0 a0.f3 0 [] with | .k0 w0_2 w1_2 w2_2=>(K_B.mk a0.f0 a0.f1 (([])++a0.f2) w0_2 (([])++a0.f4) a0.f5 a0.f6 a0.f7))
theorem e103 {l0_2:Nat} {l0_3:Nat} {l0_4:Nat} {a0:K_B} (hy0:length a0.f2≤100) (hy1:length a0.f3≤100) (hy2:∀z∈a0.f3,length z.f3≤100) (hy3:length a0.f4≤100) (hy4:∀z∈a0.f3,ok_R z):Ev F X (.call 103 [(.agg [(.val (.int .i64 a0.f0)),(.val (.int .i64 a0.f1)),(.bor l0_2 (map b_si a0.f2)),(.bor l0_3 (map b_R a0.f3)),(.bor l0_4 (map b_si a0.f4)),(.val (.int .i64 a0.f5)),(.val (.int .i64 a0.f6)),(.val (.int .i64 a0.f7))])] [] [] [(.agg [(.val (.int .i64 ((m103 a0).f0))),(.val (.int .i64 ((m103 a0).f1))),(.own 2 (map d_si ((m103 a0).f2))),(.own 5 (map d_R ((m103 a0).f3))),(.own 2 (map d_si ((m103 a0).f4))),(.val (.int .i64 ((m103 a0).f5))),(.val (.int .i64 ((m103 a0).f6))),(.val (.int .i64 ((m103 a0).f7)))])]):=by
  unfold m103
  have f0:Ev F X (.call 137 [(.one (.bor (l0_2+1) (map b_si a0.f2)))] [] [] [(.one (.own 2 (map d_si (([])++a0.f2))))]):=(e137 (a0:=a0.f2) (by omega))
  have f1:0=0:=rfl
  have f2:(length (map d_si (([])++a0.f2)))=(length (map d_si (([])++a0.f2))):=rfl
  have f3:Ev F X (.call 137 [(.one (.bor (l0_4+1) (map b_si a0.f4)))] [] [] [(.one (.own 2 (map d_si (([])++a0.f4))))]):=(e137 (a0:=a0.f4) (by omega))
  have f4:0=0:=rfl
  have f5:(length (map d_si (([])++a0.f4)))=(length (map d_si (([])++a0.f4))):=rfl
  cases h0:r103_0 a0 a0.f3 0 [] with
  |k0 w0_2 w1_2 w2_2=>
    try dsimp only
    have zh0:=z103_0 (a0:=a0) a0.f3 0 []; rw[h0] at zh0; simp only[post103_0,length_map,length_set,length_append,length_replicate,length_cons,length_nil,Int.toNat_natCast] at zh0
    have f6:(⟨[(1,(.ptr ⟨(1,0,0),[],0,0,8⟩)),(2,(.ptr ⟨(2,0,0),[],0,0,8⟩)),(3,(.ptr ⟨(3,0,0),[],0,0,8⟩)),(4,(.oi 0))],[((1,0,0),.live ⟨8,[[(.i a0.f0),(.i a0.f1),(.bor l0_2 (map b_si a0.f2)),(.bor l0_3 (map b_R a0.f3)),(.bor l0_4 (map b_si a0.f4)),(.i a0.f5),(.i a0.f6),(.i a0.f7)]],[]⟩),((2,0,0),.live ⟨8,[[(.i 0),(.i 0),(.own 2 []),(.own 5 []),(.own 2 []),(.i 0),(.i 0),(.i 0)]],[]⟩),((3,0,0),.live ⟨8,[[(.i a0.f0),(.i a0.f1),(.own 2 (map d_si (([])++a0.f2))),(.own 5 []),(.own 2 (map d_si (([])++a0.f4))),(.i a0.f5),(.i a0.f6),(.i a0.f7)]],[]⟩)]⟩:St)=h103_0 l0_2 l0_3 l0_4 a0 0 []:=(by rfl)
    have f7:Ev F X (.code l103_0 (h103_0 l0_2 l0_3 l0_4 a0 0 []) (.exit 0) ⟨[(1,(.ptr ⟨(1,0,0),[],0,0,8⟩)),(2,(.ptr ⟨(2,0,0),[],0,0,8⟩)),(3,(.ptr ⟨(3,0,0),[],0,0,8⟩)),(4,(.oi w1_2)),(20,(.one (.val (.bool w2_2))))],[((1,0,0),.live ⟨8,[[(.i a0.f0),(.i a0.f1),(.bor l0_2 (map b_si a0.f2)),(.bor l0_3 (map b_R a0.f3)),(.bor l0_4 (map b_si a0.f4)),(.i a0.f5),(.i a0.f6),(.i a0.f7)]],[]⟩),((2,0,0),.live ⟨8,[[(.i 0),(.i 0),(.own 2 []),(.own 5 []),(.own 2 []),(.i 0),(.i 0),(.i 0)]],[]⟩),((3,0,0),.live ⟨8,[[(.i a0.f0),(.i a0.f1),(.own 2 (map d_si (([])++a0.f2))),(.own 5 (map d_R w0_2)),(.own 2 (map d_si (([])++a0.f4))),(.i a0.f5),(.i a0.f6),(.i a0.f7)]],[]⟩)]⟩):=(by have t:Ev F X (.code l103_0 (h103_0 l0_2 l0_3 l0_4 a0 0 []) (ex103_0 (r103_0 a0 a0.f3 0 [])) (fin103_0 l0_2 l0_3 l0_4 a0 (r103_0 a0 a0.f3 0 []))):=t103_0 (l0_2:=l0_2) (l0_3:=l0_3) (l0_4:=l0_4) (a0:=a0) (by assumption) (by assumption) (by assumption) (by assumption) (by assumption) a0.f3 [] [] rfl (by simp only[length_map,length_set,length_append,length_replicate,length_cons,length_nil]; omega); rw[h0] at t; exact t)
    have f8:0=0:=rfl
    have f9:(length (map d_si (([])++a0.f2)))=(length (map d_si (([])++a0.f2))):=rfl
    have f10:0=0:=rfl
    have f11:(length (map d_R w0_2))=(length (map d_R w0_2)):=rfl
    have f12:0=0:=rfl
    have f13:(length (map d_si (([])++a0.f4)))=(length (map d_si (([])++a0.f4))):=rfl
    have f14:pureR (map d_si (([])++a0.f2))=true:=(pureR_si _)
    have f15:pureR (map d_R w0_2)=true:=(pureR_R _)
    have f16:pureR (map d_si (([])++a0.f4))=true:=(pureR_si _)
    exact callP_ok (ps:=[]) (os:=[]) (rs:=[(.agg [(.i a0.f0),(.i a0.f1),(.own 2 (map d_si (([])++a0.f2))),(.own 5 (map d_R w0_2)),(.own 2 (map d_si (([])++a0.f4))),(.i a0.f5),(.i a0.f6),(.i a0.f7)])]) (by kernel_rfl) (.r 15 [] [] f0 (.f f1 (.f f2 (.r 25 [] [] f3 (.f f4 (.f f5 (.f f6 (.f f7 (.f f8 (.f f9 (.f f10 (.f f11 (.f f12 (.f f13 (.f f14 (.f f15 (.f f16 (.h 36 (.loop (h103_0 l0_2 l0_3 l0_4 a0 0 []) (.exit 0) ⟨[(1,(.ptr ⟨(1,0,0),[],0,0,8⟩)),(2,(.ptr ⟨(2,0,0),[],0,0,8⟩)),(3,(.ptr ⟨(3,0,0),[],0,0,8⟩)),(4,(.oi w1_2)),(20,(.one (.val (.bool w2_2))))],[((1,0,0),.live ⟨8,[[(.i a0.f0),(.i a0.f1),(.bor l0_2 (map b_si a0.f2)),(.bor l0_3 (map b_R a0.f3)),(.bor l0_4 (map b_si a0.f4)),(.i a0.f5),(.i a0.f6),(.i a0.f7)]],[]⟩),((2,0,0),.live ⟨8,[[(.i 0),(.i 0),(.own 2 []),(.own 5 []),(.own 2 []),(.i 0),(.i 0),(.i 0)]],[]⟩),((3,0,0),.live ⟨8,[[(.i a0.f0),(.i a0.f1),(.own 2 (map d_si (([])++a0.f2))),(.own 5 (map d_R w0_2)),(.own 2 (map d_si (([])++a0.f4))),(.i a0.f5),(.i a0.f6),(.i a0.f7)]],[]⟩)]⟩) .nil))))))))))))))))))
theorem cl103 (a0:K_B):∀(l:List K_R) (i:Int) (v:List K_R),∃j b,r103_0 a0 l i v=.k0 (v++l) j b
  |[],i,v=>⟨_,_,by rw[List.append_nil]; rfl⟩
  |x::l,i,v=>by
    obtain⟨j,b,h⟩:=cl103 a0 l (i+1) (v++ [x])
    refine⟨j,b,?_⟩
    simp only[r103_0]
    rw[show v++x::l=(v++ [x])++l by simp,← h]
    first | rfl |(simp only[List.nil_append]; done)
theorem cp103 (a0:K_B):m103 a0=a0:=by
  unfold m103
  obtain⟨j,b,h⟩:=cl103 a0 a0.f3 0 []
  rw[h]; rfl
/-! loop 125_0 -/
inductive O125_0 where
  |k0 (w0:List K_si) (w1:Int) (w2:Bool)
def r125_0 (a1:(List K_si)):List K_si→Int→List K_si→O125_0
  |x0::y0,i,v0=>
    if(decide ((m60 v0 x0.f0)≥0))=true then(r125_0 a1 y0 (i+1) (set v0 (Int.toNat (m60 v0 x0.f0)) (K_si.mk ((getD v0 (Int.toNat (m60 v0 x0.f0)) (K_si.mk (⟨#[]⟩:ByteArray) 0)).f0) (IntKind.wrap .i64 (((getD v0 (Int.toNat (m60 v0 x0.f0)) (K_si.mk (⟨#[]⟩:ByteArray) 0)).f1)+x0.f1))))) else
    (r125_0 a1 y0 (i+1) (v0++([x0])))
  |[],i,v0=>(O125_0.k0 v0 i (decide (i <((length (map b_si a1)):Int))))
def h125_0 (l0_0:Nat) (l1_0:Nat) (a0:(List K_si)) (a1:(List K_si)) (i:Int) (v0:List K_si):St:=⟨[(1,(.one (.bor l1_0 (map b_si a1)))),(6,(.one (.ref ⟨(6,0,0),[],0,(length (map d_si v0))⟩))),(7,(.one (.val (.int .i64 i))))],[((6,0,0),.live ⟨2,(map d_si v0),[]⟩)]⟩
def ex125_0:O125_0→VX.Exit
  |.k0 _ _ _=>(.exit 0)
def fin125_0 (l0_0:Nat) (l1_0:Nat) (a0:(List K_si)) (a1:(List K_si)):O125_0→St
  |.k0 w0 w1 w2=>⟨[(1,(.one (.bor l1_0 (map b_si a1)))),(6,(.one (.ref ⟨(6,0,0),[],0,(length (map d_si w0))⟩))),(7,(.one (.val (.int .i64 w1)))),(15,(.one (.val (.bool w2))))],[((6,0,0),.live ⟨2,(map d_si w0),[]⟩)]⟩
theorem t125_0 {l0_0:Nat} {l1_0:Nat} {a0:(List K_si)} {a1:(List K_si)} (hy0:length a0≤100) (hy1:length a1≤100):∀(y0:List K_si) (p:List K_si) (v0:List K_si),p++y0=a1→(length v0+length y0)*24≤70368744177664→Ev F X (.code l125_0 (h125_0 l0_0 l1_0 a0 a1 (length p:Int) v0) (ex125_0 (r125_0 a1 y0 (length p:Int) v0)) (fin125_0 l0_0 l1_0 a0 a1 (r125_0 a1 y0 (length p:Int) v0)))
  |[],p,v0,hp0,hi0=>by
    have hc:¬(decide ((length p:Int) <((length (map b_si a1)):Int)))=true:=by
      rw[← hp0]; simp only[length_map,length_set,length_append,length_replicate,length_cons,length_nil,decide_eq_true_eq]; omega
    have hj0:=hi0; try simp only[length_map,length_set,length_append,length_replicate,length_cons,length_nil,Int.toNat_natCast] at hj0
    have st:=codeH_ok (F:=F) (X:=X) (c:=b125_0) (t:=0) (hs:=[(8,.b false)]) (σ:=h125_0 l0_0 l1_0 a0 a1 (length p:Int) v0) (σ':=fin125_0 l0_0 l1_0 a0 a1 (.k0 v0 (length p:Int) (decide ((length p:Int) <((length (map b_si a1)):Int))))) (e:=(.exit 0)) (t':=9) (hs':=[]) (q:=[(decide ((length p:Int) <((length (map b_si a1)):Int)))=false]) (by kernel_rfl) ⟨(nt hc),trivial⟩
    exact .loopX st (show ((.exit 0):VX.Exit)≠.normal from by simp)
  |x0::y0,p,v0,hp0,hi0=>by
    have hc:(decide ((length p:Int) <((length (map b_si a1)):Int)))=true:=by
      rw[← hp0]; simp only[length_map,length_set,length_append,length_replicate,length_cons,length_nil,decide_eq_true_eq]; omega
    have Hx0:(a1)[Int.toNat (length p:Int)]?=some x0:=by
      rw[← hp0,Int.toNat_natCast]; simp
    have hlen:length (a1)=length p+length y0+1:=by rw[← hp0]; simp; omega
    have hw:IntKind.wrap .i64 ((length p:Int)+1)=(length p:Int)+1:=wrap64 (by omega)
    have hj0:=hi0; try simp only[length_map,length_set,length_append,length_replicate,length_cons,length_nil,Int.toNat_natCast] at hj0
    simp only[r125_0]
    by_cases h_1:(decide ((m60 v0 x0.f0)≥0))=true
    · try simp only[if_pos h_1]
      have st:=codeH_ok (F:=F) (X:=X) (c:=b125_0) (t:=0) (hs:=[(8,.b true),(16,.row [(.val (.string x0.f0)),(.i x0.f1)]),(22,.ret [] [(.oi (m60 v0 x0.f0))] [] [(map b_si v0)]),(29,.b true),(43,.rowD [(.val (.string ((getD v0 (Int.toNat (m60 v0 x0.f0)) (K_si.mk (⟨#[]⟩:ByteArray) 0)).f0))),(.i ((getD v0 (Int.toNat (m60 v0 x0.f0)) (K_si.mk (⟨#[]⟩:ByteArray) 0)).f1))]),(49,.row [(.val (.string x0.f0)),(.i x0.f1)]),(61,.rowD [(.val (.string ((getD v0 (Int.toNat (m60 v0 x0.f0)) (K_si.mk (⟨#[]⟩:ByteArray) 0)).f0))),(.i ((getD v0 (Int.toNat (m60 v0 x0.f0)) (K_si.mk (⟨#[]⟩:ByteArray) 0)).f1))]),(62,.norm (6,0,0) (map d_si (set v0 (Int.toNat (m60 v0 x0.f0)) (K_si.mk ((getD v0 (Int.toNat (m60 v0 x0.f0)) (K_si.mk (⟨#[]⟩:ByteArray) 0)).f0) (IntKind.wrap .i64 (((getD v0 (Int.toNat (m60 v0 x0.f0)) (K_si.mk (⟨#[]⟩:ByteArray) 0)).f1)+x0.f1))))))]) (σ:=h125_0 l0_0 l1_0 a0 a1 (length p:Int) v0) (σ':=⟨[(1,(.one (.bor l1_0 (map b_si a1)))),(6,(.one (.ref ⟨(6,0,0),[],0,(length (map d_si v0))⟩))),(7,(.oi (IntKind.wrap .i64 ((length p:Int)+1))))],[((6,0,0),.live ⟨2,(map d_si (set v0 (Int.toNat (m60 v0 x0.f0)) (K_si.mk ((getD v0 (Int.toNat (m60 v0 x0.f0)) (K_si.mk (⟨#[]⟩:ByteArray) 0)).f0) (IntKind.wrap .i64 (((getD v0 (Int.toNat (m60 v0 x0.f0)) (K_si.mk (⟨#[]⟩:ByteArray) 0)).f1)+x0.f1))))),[]⟩)]⟩) (e:=.normal) (t':=69) (hs':=[]) (q:=[(decide ((length p:Int) <((length (map b_si a1)):Int)))=true,0≤(length p:Int),(map b_si a1)[(Int.toNat (length p:Int))]?=some [(.val (.string x0.f0)),(.i x0.f1)],0+(length (map d_si v0))≤(length (map d_si v0)),fullR (take (length (map d_si v0)) (drop 0 (map d_si v0)))=true,toBR (take (length (map d_si v0)) (drop 0 (map d_si v0)))=(map b_si v0),Ev F X (.call 60 [(.one (.bor 0 (map b_si v0))),(.one (.val (.string x0.f0)))] [] [] [(.oi (m60 v0 x0.f0))]),(decide ((m60 v0 x0.f0)≥0))=true,0+(length (map d_si v0))≤(length (map d_si v0)),0≤(m60 v0 x0.f0)∧(m60 v0 x0.f0) <((length (map d_si v0)):Int),(map d_si v0)[(0+(Int.toNat (m60 v0 x0.f0)))]?=some [(.val (.string ((getD v0 (Int.toNat (m60 v0 x0.f0)) (K_si.mk (⟨#[]⟩:ByteArray) 0)).f0))),(.i ((getD v0 (Int.toNat (m60 v0 x0.f0)) (K_si.mk (⟨#[]⟩:ByteArray) 0)).f1))],0≤(length p:Int),(map b_si a1)[(Int.toNat (length p:Int))]?=some [(.val (.string x0.f0)),(.i x0.f1)],True,0+(length (map d_si v0))≤(length (map d_si v0)),0≤(m60 v0 x0.f0)∧(m60 v0 x0.f0) <((length (map d_si v0)):Int),(map d_si v0)[(0+(Int.toNat (m60 v0 x0.f0)))]?=some [(.val (.string ((getD v0 (Int.toNat (m60 v0 x0.f0)) (K_si.mk (⟨#[]⟩:ByteArray) 0)).f0))),(.i ((getD v0 (Int.toNat (m60 v0 x0.f0)) (K_si.mk (⟨#[]⟩:ByteArray) 0)).f1))],(set (map d_si v0) (0+(Int.toNat (m60 v0 x0.f0))) [(.val (.string ((getD v0 (Int.toNat (m60 v0 x0.f0)) (K_si.mk (⟨#[]⟩:ByteArray) 0)).f0))),(.i (IntKind.wrap .i64 (((getD v0 (Int.toNat (m60 v0 x0.f0)) (K_si.mk (⟨#[]⟩:ByteArray) 0)).f1)+x0.f1)))])=(map d_si (set v0 (Int.toNat (m60 v0 x0.f0)) (K_si.mk ((getD v0 (Int.toNat (m60 v0 x0.f0)) (K_si.mk (⟨#[]⟩:ByteArray) 0)).f0) (IntKind.wrap .i64 (((getD v0 (Int.toNat (m60 v0 x0.f0)) (K_si.mk (⟨#[]⟩:ByteArray) 0)).f1)+x0.f1))))),True]) (by kernel_rfl) ⟨hc,(by omega),(by rw[getElem?_map,Hx0]; rfl),(by omega),(ft_si _ _ _),(tb_si _),(e60 (a0:=v0) (a1:=x0.f0) (by omega)),h_1,(by omega),(by have q:=ix60 v0 x0.f0; simp only[decide_eq_true_eq,length_map] at*; omega),(by rw[Nat.zero_add,getElem?_map,getD_at v0 (Int.toNat (m60 v0 x0.f0)) (K_si.mk (⟨#[]⟩:ByteArray) 0) (by first | exact True.intro | with_reducible rfl | with_reducible assumption | omega |(have q:=al125 (by with_reducible assumption); simp only[decide_eq_true_eq,length_map,length_append,length_nil,length_cons] at*; omega) |(have q:=ix60 v0 x0.f0; simp only[decide_eq_true_eq,length_map] at*; omega) |(unfold m60;(repeat' split)<;>simp_all<;>omega) |(simp only[decide_eq_true_eq] at*; omega) |(simp only[length_map]; omega) |(simp; omega) |(simp[take_of_length_le]; done) | assumption | trivial |(simp[*,byteRows_eq,ints_y]; done))]; rfl),(by omega),(by rw[getElem?_map,Hx0]; rfl),trivial,(by omega),(by have q:=ix60 v0 x0.f0; simp only[decide_eq_true_eq,length_map] at*; omega),(by rw[Nat.zero_add,getElem?_map,getD_at v0 (Int.toNat (m60 v0 x0.f0)) (K_si.mk (⟨#[]⟩:ByteArray) 0) (by first | exact True.intro | with_reducible rfl | with_reducible assumption | omega |(have q:=al125 (by with_reducible assumption); simp only[decide_eq_true_eq,length_map,length_append,length_nil,length_cons] at*; omega) |(have q:=ix60 v0 x0.f0; simp only[decide_eq_true_eq,length_map] at*; omega) |(unfold m60;(repeat' split)<;>simp_all<;>omega) |(simp only[decide_eq_true_eq] at*; omega) |(simp only[length_map]; omega) |(simp; omega) |(simp[take_of_length_le]; done) | assumption | trivial |(simp[*,byteRows_eq,ints_y]; done))]; rfl),(by simp[byteRows_eq,ints_y,take_of_length_le,d_si,d_R,d_B,d_i,d_b,d_C,d_LsiE,d_s,d_Q,d_y,fromBR_si,fromBR_i,fromBR_b,fromBR_s,fromBR_y]; done),trivial,trivial⟩
      have ih:=t125_0 (l0_0:=l0_0) (l1_0:=l1_0) (a0:=a0) (a1:=a1) hy0 hy1 y0 (p++ [x0]) (set v0 (Int.toNat (m60 v0 x0.f0)) (K_si.mk ((getD v0 (Int.toNat (m60 v0 x0.f0)) (K_si.mk (⟨#[]⟩:ByteArray) 0)).f0) (IntKind.wrap .i64 (((getD v0 (Int.toNat (m60 v0 x0.f0)) (K_si.mk (⟨#[]⟩:ByteArray) 0)).f1)+x0.f1)))) (by rw[append_assoc]; exact hp0) (by simp only[length_map,length_set,length_append,length_replicate,length_cons,length_nil]; omega)
      rw[show ((p++ [x0]).length:Int)=(p.length:Int)+1 from by simp] at ih
      rw[show (⟨[(1,(.one (.bor l1_0 (map b_si a1)))),(6,(.one (.ref ⟨(6,0,0),[],0,(length (map d_si v0))⟩))),(7,(.oi (IntKind.wrap .i64 ((length p:Int)+1))))],[((6,0,0),.live ⟨2,(map d_si (set v0 (Int.toNat (m60 v0 x0.f0)) (K_si.mk ((getD v0 (Int.toNat (m60 v0 x0.f0)) (K_si.mk (⟨#[]⟩:ByteArray) 0)).f0) (IntKind.wrap .i64 (((getD v0 (Int.toNat (m60 v0 x0.f0)) (K_si.mk (⟨#[]⟩:ByteArray) 0)).f1)+x0.f1))))),[]⟩)]⟩:St)=h125_0 l0_0 l1_0 a0 a1 ((length p:Int)+1) (set v0 (Int.toNat (m60 v0 x0.f0)) (K_si.mk ((getD v0 (Int.toNat (m60 v0 x0.f0)) (K_si.mk (⟨#[]⟩:ByteArray) 0)).f0) (IntKind.wrap .i64 (((getD v0 (Int.toNat (m60 v0 x0.f0)) (K_si.mk (⟨#[]⟩:ByteArray) 0)).f1)+x0.f1)))) from(by unfold h125_0; simp only[hw,length_map,length_set,length_append,length_replicate,length_cons,length_nil]; done)] at st
      exact .loopN st ih
    · try simp only[if_neg h_1]
      have st:=codeH_ok (F:=F) (X:=X) (c:=b125_0) (t:=0) (hs:=[(8,.b true),(16,.row [(.val (.string x0.f0)),(.i x0.f1)]),(22,.ret [] [(.oi (m60 v0 x0.f0))] [] [(map b_si v0)]),(29,.b false),(37,.row [(.val (.string x0.f0)),(.i x0.f1)]),(43,.b true),(46,.norm (6,0,0) (map d_si (v0++([x0]))))]) (σ:=h125_0 l0_0 l1_0 a0 a1 (length p:Int) v0) (σ':=⟨[(1,(.one (.bor l1_0 (map b_si a1)))),(6,(.one (.ref ⟨(6,0,0),[],0,(length ((take (length (map d_si v0)) (drop 0 (map d_si v0)))++([[(.val (.string x0.f0)),(.i x0.f1)]]:List (List D))))⟩))),(7,(.oi (IntKind.wrap .i64 ((length p:Int)+1))))],[((6,0,0),.live ⟨2,(map d_si (v0++([x0]))),[]⟩)]⟩) (e:=.normal) (t':=53) (hs':=[]) (q:=[(decide ((length p:Int) <((length (map b_si a1)):Int)))=true,0≤(length p:Int),(map b_si a1)[(Int.toNat (length p:Int))]?=some [(.val (.string x0.f0)),(.i x0.f1)],0+(length (map d_si v0))≤(length (map d_si v0)),fullR (take (length (map d_si v0)) (drop 0 (map d_si v0)))=true,toBR (take (length (map d_si v0)) (drop 0 (map d_si v0)))=(map b_si v0),Ev F X (.call 60 [(.one (.bor 0 (map b_si v0))),(.one (.val (.string x0.f0)))] [] [] [(.oi (m60 v0 x0.f0))]),(decide ((m60 v0 x0.f0)≥0))=false,0≤(length p:Int),(map b_si a1)[(Int.toNat (length p:Int))]?=some [(.val (.string x0.f0)),(.i x0.f1)],0+(length (map d_si v0))≤(length (map d_si v0)),1≤1,((take 1 (drop 0 [[(.val (.string x0.f0)),(.i x0.f1)]])).all fun x=>x.all copyable)=true,(length ((take (length (map d_si v0)) (drop 0 (map d_si v0)))++([[(.val (.string x0.f0)),(.i x0.f1)]]:List (List D))))*24≤70368744177664,∀r∈([[(.val (.string x0.f0)),(.i x0.f1)]]:List (List D)),r.length=2,((take (length (map d_si v0)) (drop 0 (map d_si v0)))++([[(.val (.string x0.f0)),(.i x0.f1)]]:List (List D)))=(map d_si (v0++([x0]))),True]) (by kernel_rfl) ⟨hc,(by omega),(by rw[getElem?_map,Hx0]; rfl),(by omega),(ft_si _ _ _),(tb_si _),(e60 (a0:=v0) (a1:=x0.f0) (by omega)),(nt h_1),(by omega),(by rw[getElem?_map,Hx0]; rfl),(by omega),(by omega),(by trivial),(by simp only[length_map,length_append,length_cons,length_nil,length_take,length_drop]; omega),(by simp; done),(by simp[byteRows_eq,ints_y,take_of_length_le,d_si,d_R,d_B,d_i,d_b,d_C,d_LsiE,d_s,d_Q,d_y,fromBR_si,fromBR_i,fromBR_b,fromBR_s,fromBR_y]; done),trivial,trivial⟩
      have ih:=t125_0 (l0_0:=l0_0) (l1_0:=l1_0) (a0:=a0) (a1:=a1) hy0 hy1 y0 (p++ [x0]) (v0++([x0])) (by rw[append_assoc]; exact hp0) (by simp only[length_map,length_set,length_append,length_replicate,length_cons,length_nil]; omega)
      rw[show ((p++ [x0]).length:Int)=(p.length:Int)+1 from by simp] at ih
      rw[show (⟨[(1,(.one (.bor l1_0 (map b_si a1)))),(6,(.one (.ref ⟨(6,0,0),[],0,(length ((take (length (map d_si v0)) (drop 0 (map d_si v0)))++([[(.val (.string x0.f0)),(.i x0.f1)]]:List (List D))))⟩))),(7,(.oi (IntKind.wrap .i64 ((length p:Int)+1))))],[((6,0,0),.live ⟨2,(map d_si (v0++([x0]))),[]⟩)]⟩:St)=h125_0 l0_0 l1_0 a0 a1 ((length p:Int)+1) (v0++([x0])) from(by unfold h125_0; simp[hw,byteRows_eq,ints_y,take_of_length_le,d_si,d_R,d_B,d_i,d_b,d_C,d_LsiE,d_s,d_Q,d_y,fromBR_si,fromBR_i,fromBR_b,fromBR_s,fromBR_y]; done)] at st
      exact .loopN st ih
theorem og100 {l:List K_R} (h:∀z∈l,z.f3.length≤100) (i:Nat):(getD l i (K_R.mk 0 0 0 [] 0)).f3.length≤100:=by
  rw[List.getD_eq_getElem?_getD]
  cases h2:l[i]? with
  |none=>simp
  |some x=>exact h x (List.mem_of_getElem? h2)
theorem al125 {a:List K_si}:∀ {l:List K_si} {i:Int} {v:List K_si} {w:List K_si} {j b},r125_0 a l i v=.k0 w j b→w.length≤v.length+l.length
  |[],i,v,w,j,b,h=>by simp only[r125_0] at h; injection h with h; subst h; simp
  |x::l,i,v,w,j,b,h=>by
    simp only[r125_0] at h
    split at h
    · have q:=al125 h; simp only[length_set,length_cons] at q⊢; omega
    · have q:=al125 h; simp only[length_append,length_cons,length_nil] at q⊢; omega
/-! loop 125_1 -/
inductive O125_1 where
  |k0 (w0:Int) (w1:Bool)
  |k1
def r125_1 (c0_125_1:List K_si):List K_si→Int→O125_1
  |x0::y0,i=>
    if(!(m105 x0.f1 0 1000000))=true then(O125_1.k1) else
    (r125_1 c0_125_1 y0 (i+1))
  |[],i=>(O125_1.k0 i (decide (i <((length (map d_si c0_125_1)):Int))))
def h125_1 (l0_0:Nat) (l1_0:Nat) (a0:(List K_si)) (a1:(List K_si)) (c0_125_1:List K_si) (i:Int) :St:=⟨[(6,(.one (.ref ⟨(6,0,0),[],0,(length (map d_si c0_125_1))⟩))),(9,(.one (.val (.int .i64 i))))],[((6,0,0),.live ⟨2,(map d_si c0_125_1),[]⟩)]⟩
def ex125_1:O125_1→VX.Exit
  |.k0 _ _=>(.exit 2)
  |.k1=>.ret
def fin125_1 (l0_0:Nat) (l1_0:Nat) (a0:(List K_si)) (a1:(List K_si)) (c0_125_1:List K_si):O125_1→St
  |.k0 w0 w1=>⟨[(6,(.one (.ref ⟨(6,0,0),[],0,(length (map d_si c0_125_1))⟩))),(9,(.one (.val (.int .i64 w0)))),(55,(.one (.val (.bool w1))))],[((6,0,0),.live ⟨2,(map d_si c0_125_1),[]⟩)]⟩
  |.k1=>⟨[(6,(.one (.ref ⟨(6,0,0),[],0,(length (map d_si c0_125_1))⟩))),(4,(.one (.nl 2))),(5,(.one (.val (.int .i64 7))))],[((6,0,0),.live ⟨2,(map d_si c0_125_1),[]⟩)]⟩
theorem t125_1 {l0_0:Nat} {l1_0:Nat} {a0:(List K_si)} {a1:(List K_si)} {c0_125_1:List K_si} (hy0:length a0≤100) (hy1:length a1≤100) (hy2:length c0_125_1≤140737488351232):∀(y0:List K_si) (p:List K_si),p++y0=c0_125_1→Ev F X (.code l125_1 (h125_1 l0_0 l1_0 a0 a1 c0_125_1 (length p:Int)) (ex125_1 (r125_1 c0_125_1 y0 (length p:Int))) (fin125_1 l0_0 l1_0 a0 a1 c0_125_1 (r125_1 c0_125_1 y0 (length p:Int))))
  |[],p,hp0=>by
    have hc:¬(decide ((length p:Int) <((length (map d_si c0_125_1)):Int)))=true:=by
      rw[← hp0]; simp only[length_map,length_set,length_append,length_replicate,length_cons,length_nil,decide_eq_true_eq]; omega
    have st:=codeH_ok (F:=F) (X:=X) (c:=b125_1) (t:=0) (hs:=[(8,.b false)]) (σ:=h125_1 l0_0 l1_0 a0 a1 c0_125_1 (length p:Int)) (σ':=fin125_1 l0_0 l1_0 a0 a1 c0_125_1 (.k0 (length p:Int) (decide ((length p:Int) <((length (map d_si c0_125_1)):Int))))) (e:=(.exit 2)) (t':=9) (hs':=[]) (q:=[(decide ((length p:Int) <((length (map d_si c0_125_1)):Int)))=false]) (by kernel_rfl) ⟨(nt hc),trivial⟩
    exact .loopX st (show ((.exit 2):VX.Exit)≠.normal from by simp)
  |x0::y0,p,hp0=>by
    have hc:(decide ((length p:Int) <((length (map d_si c0_125_1)):Int)))=true:=by
      rw[← hp0]; simp only[length_map,length_set,length_append,length_replicate,length_cons,length_nil,decide_eq_true_eq]; omega
    have Hx0:(c0_125_1)[Int.toNat (length p:Int)]?=some x0:=by
      rw[← hp0,Int.toNat_natCast]; simp
    have hlen:length (c0_125_1)=length p+length y0+1:=by rw[← hp0]; simp; omega
    have hw:IntKind.wrap .i64 ((length p:Int)+1)=(length p:Int)+1:=wrap64 (by omega)
    simp only[r125_1]
    by_cases h_1:(!(m105 x0.f1 0 1000000))=true
    · try simp only[if_pos h_1]
      have st:=codeH_ok (F:=F) (X:=X) (c:=b125_1) (t:=0) (hs:=[(8,.b true),(18,.rowD [(.val (.string x0.f0)),(.i x0.f1)]),(20,.ret [] [(.one (.val (.bool (m105 x0.f1 0 1000000))))] [] []),(23,.b true)]) (σ:=h125_1 l0_0 l1_0 a0 a1 c0_125_1 (length p:Int)) (σ':=fin125_1 l0_0 l1_0 a0 a1 c0_125_1 (.k1)) (e:=.ret) (t':=28) (hs':=[]) (q:=[(decide ((length p:Int) <((length (map d_si c0_125_1)):Int)))=true,0+(length (map d_si c0_125_1))≤(length (map d_si c0_125_1)),0≤(length p:Int)∧(length p:Int) <((length (map d_si c0_125_1)):Int),(map d_si c0_125_1)[(0+(Int.toNat (length p:Int)))]?=some [(.val (.string x0.f0)),(.i x0.f1)],Ev F X (.call 101 [(.oi x0.f1)] [] [] [(.one (.val (.bool (m105 x0.f1 0 1000000))))]),(!(m105 x0.f1 0 1000000))=true]) (by kernel_rfl) ⟨hc,(by omega),(by simp only[decide_eq_true_eq] at*; omega),(by rw[Nat.zero_add,getElem?_map,Hx0]; rfl),(e101 (a0:=x0.f1)),h_1,trivial⟩
      exact .loopX st (show (.ret:VX.Exit)≠.normal from by simp)
    · try simp only[if_neg h_1]
      have st:=codeH_ok (F:=F) (X:=X) (c:=b125_1) (t:=0) (hs:=[(8,.b true),(18,.rowD [(.val (.string x0.f0)),(.i x0.f1)]),(20,.ret [] [(.one (.val (.bool (m105 x0.f1 0 1000000))))] [] []),(23,.b false)]) (σ:=h125_1 l0_0 l1_0 a0 a1 c0_125_1 (length p:Int)) (σ':=⟨[(6,(.one (.ref ⟨(6,0,0),[],0,(length (map d_si c0_125_1))⟩))),(9,(.oi (IntKind.wrap .i64 ((length p:Int)+1))))],[((6,0,0),.live ⟨2,(map d_si c0_125_1),[]⟩)]⟩) (e:=.normal) (t':=30) (hs':=[]) (q:=[(decide ((length p:Int) <((length (map d_si c0_125_1)):Int)))=true,0+(length (map d_si c0_125_1))≤(length (map d_si c0_125_1)),0≤(length p:Int)∧(length p:Int) <((length (map d_si c0_125_1)):Int),(map d_si c0_125_1)[(0+(Int.toNat (length p:Int)))]?=some [(.val (.string x0.f0)),(.i x0.f1)],Ev F X (.call 101 [(.oi x0.f1)] [] [] [(.one (.val (.bool (m105 x0.f1 0 1000000))))]),(!(m105 x0.f1 0 1000000))=false,True]) (by kernel_rfl) ⟨hc,(by omega),(by simp only[decide_eq_true_eq] at*; omega),(by rw[Nat.zero_add,getElem?_map,Hx0]; rfl),(e101 (a0:=x0.f1)),(nt h_1),trivial,trivial⟩
      have ih:=t125_1 (l0_0:=l0_0) (l1_0:=l1_0) (a0:=a0) (a1:=a1) (c0_125_1:=c0_125_1) hy0 hy1 hy2 y0 (p++ [x0]) (by rw[append_assoc]; exact hp0)
      rw[show ((p++ [x0]).length:Int)=(p.length:Int)+1 from by simp] at ih
      rw[show (⟨[(6,(.one (.ref ⟨(6,0,0),[],0,(length (map d_si c0_125_1))⟩))),(9,(.oi (IntKind.wrap .i64 ((length p:Int)+1))))],[((6,0,0),.live ⟨2,(map d_si c0_125_1),[]⟩)]⟩:St)=h125_1 l0_0 l1_0 a0 a1 c0_125_1 ((length p:Int)+1)  from(by unfold h125_1; simp only[hw]; done)] at st
      exact .loopN st ih
/-! loop.example/g00539/spec.l14Add -/
def m125_0 (a0:(List K_si)) (a1:(List K_si)):(List K_si):=
  (match r125_0 a1 a1 0 (([])++a0) with | .k0 w0_1 w1_1 w2_1=>(if(decide (((length (map d_si w0_1)):Int) > 8))=true then[] else(match r125_1 w0_1 w0_1 0 with | .k0 w0_3 w1_3=>w0_1 | .k1=>[])))
def m125_1 (a0:(List K_si)) (a1:(List K_si)):Int:=
  (match r125_0 a1 a1 0 (([])++a0) with | .k0 w0_1 w1_1 w2_1=>(if(decide (((length (map d_si w0_1)):Int) > 8))=true then 10 else(match r125_1 w0_1 w0_1 0 with | .k0 w0_3 w1_3=>0 | .k1=>7)))
theorem e125 {l0_0:Nat} {a0:(List K_si)} {l1_0:Nat} {a1:(List K_si)} (hy0:length a0≤100) (hy1:length a1≤100):Ev F X (.call 125 [(.one (.bor l0_0 (map b_si a0))),(.one (.bor l1_0 (map b_si a1)))] [] [] [(.one (.own 2 (map d_si (m125_0 a0 a1)))),(.one (.val (.int .i64 (m125_1 a0 a1))))]):=by
  unfold m125_0 m125_1
  have f0:Ev F X (.call 137 [(.one (.bor (l0_0+1) (map b_si a0)))] [] [] [(.one (.own 2 (map d_si (([])++a0))))]):=(e137 (a0:=a0) (by omega))
  cases h0:r125_0 a1 a1 0 (([])++a0) with
  |k0 w0_1 w1_1 w2_1=>
    try dsimp only
    have f1:(⟨[(1,(.one (.bor l1_0 (map b_si a1)))),(6,(.one (.ref ⟨(6,0,0),[],0,(length (map d_si (([])++a0)))⟩))),(7,(.oi 0))],[((6,0,0),.live ⟨2,(map d_si (([])++a0)),[]⟩)]⟩:St)=h125_0 l0_0 l1_0 a0 a1 0 (([])++a0):=(by rfl)
    have f2:Ev F X (.code l125_0 (h125_0 l0_0 l1_0 a0 a1 0 (([])++a0)) (.exit 0) ⟨[(1,(.one (.bor l1_0 (map b_si a1)))),(6,(.one (.ref ⟨(6,0,0),[],0,(length (map d_si w0_1))⟩))),(7,(.oi w1_1)),(15,(.one (.val (.bool w2_1))))],[((6,0,0),.live ⟨2,(map d_si w0_1),[]⟩)]⟩):=(by have t:Ev F X (.code l125_0 (h125_0 l0_0 l1_0 a0 a1 0 (([])++a0)) (ex125_0 (r125_0 a1 a1 0 (([])++a0))) (fin125_0 l0_0 l1_0 a0 a1 (r125_0 a1 a1 0 (([])++a0)))):=t125_0 (l0_0:=l0_0) (l1_0:=l1_0) (a0:=a0) (a1:=a1) (by assumption) (by assumption) a1 [] (([])++a0) rfl (by simp only[length_map,length_set,length_append,length_replicate,length_cons,length_nil]; omega); rw[h0] at t; exact t)
    by_cases h1:(decide (((length (map d_si w0_1)):Int) > 8))=true
    · try simp only[if_pos h1]
      have f4:pureR []=true:=(by trivial)
      exact callP_ok (ps:=[]) (os:=[]) (rs:=[(.one (.own 2 [])),(.oi 10)]) (by kernel_rfl) (.r 7 [] [] f0 (.f f1 (.f f2 (.f h1 (.f f4 (.h 12 (.loop (h125_0 l0_0 l1_0 a0 a1 0 (([])++a0)) (.exit 0) ⟨[(1,(.one (.bor l1_0 (map b_si a1)))),(6,(.one (.ref ⟨(6,0,0),[],0,(length (map d_si w0_1))⟩))),(7,(.oi w1_1)),(15,(.one (.val (.bool w2_1))))],[((6,0,0),.live ⟨2,(map d_si w0_1),[]⟩)]⟩) (.h 19 (.b true) .nil)))))))
    · try simp only[if_neg h1]
      cases h2:r125_1 w0_1 w0_1 0 with
      |k0 w0_3 w1_3=>
        try dsimp only
        have f4:(⟨[(6,(.one (.ref ⟨(6,0,0),[],0,(length (map d_si w0_1))⟩))),(9,(.oi 0))],[((6,0,0),.live ⟨2,(map d_si w0_1),[]⟩)]⟩:St)=h125_1 l0_0 l1_0 a0 a1 w0_1 0 :=(by rfl)
        have f5:Ev F X (.code l125_1 (h125_1 l0_0 l1_0 a0 a1 w0_1 0) (.exit 2) ⟨[(6,(.one (.ref ⟨(6,0,0),[],0,(length (map d_si w0_1))⟩))),(9,(.oi w0_3)),(55,(.one (.val (.bool w1_3))))],[((6,0,0),.live ⟨2,(map d_si w0_1),[]⟩)]⟩):=(by have t:Ev F X (.code l125_1 (h125_1 l0_0 l1_0 a0 a1 w0_1 0) (ex125_1 (r125_1 w0_1 w0_1 0)) (fin125_1 l0_0 l1_0 a0 a1 w0_1 (r125_1 w0_1 w0_1 0))):=t125_1 (l0_0:=l0_0) (l1_0:=l1_0) (a0:=a0) (a1:=a1) (c0_125_1:=w0_1) (by assumption) (by assumption) (by have q:=al125 (by with_reducible assumption); simp only[decide_eq_true_eq,length_map,length_append,length_nil,length_cons] at*; omega) w0_1 []  rfl; rw[h2] at t; exact t)
        have f6:0=0:=rfl
        have f7:(length (map d_si w0_1))=(length (map d_si w0_1)):=rfl
        have f8:pureR (map d_si w0_1)=true:=(pureR_si _)
        exact callP_ok (ps:=[]) (os:=[]) (rs:=[(.one (.own 2 (map d_si w0_1))),(.oi 0)]) (by kernel_rfl) (.r 7 [] [] f0 (.f f1 (.f f2 (.f (nt h1) (.f f4 (.f f5 (.f f6 (.f f7 (.f f8 (.h 12 (.loop (h125_0 l0_0 l1_0 a0 a1 0 (([])++a0)) (.exit 0) ⟨[(1,(.one (.bor l1_0 (map b_si a1)))),(6,(.one (.ref ⟨(6,0,0),[],0,(length (map d_si w0_1))⟩))),(7,(.oi w1_1)),(15,(.one (.val (.bool w2_1))))],[((6,0,0),.live ⟨2,(map d_si w0_1),[]⟩)]⟩) (.h 19 (.b false) (.h 22 (.loop (h125_1 l0_0 l1_0 a0 a1 w0_1 0) (.exit 2) ⟨[(6,(.one (.ref ⟨(6,0,0),[],0,(length (map d_si w0_1))⟩))),(9,(.oi w0_3)),(55,(.one (.val (.bool w1_3))))],[((6,0,0),.live ⟨2,(map d_si w0_1),[]⟩)]⟩) .nil))))))))))))
      |k1=>
        try dsimp only
        have f4:(⟨[(6,(.one (.ref ⟨(6,0,0),[],0,(length (map d_si w0_1))⟩))),(9,(.oi 0))],[((6,0,0),.live ⟨2,(map d_si w0_1),[]⟩)]⟩:St)=h125_1 l0_0 l1_0 a0 a1 w0_1 0 :=(by rfl)
        have f5:Ev F X (.code l125_1 (h125_1 l0_0 l1_0 a0 a1 w0_1 0) .ret ⟨[(6,(.one (.ref ⟨(6,0,0),[],0,(length (map d_si w0_1))⟩))),(4,(.one (.nl 2))),(5,(.oi 7))],[((6,0,0),.live ⟨2,(map d_si w0_1),[]⟩)]⟩):=(by have t:Ev F X (.code l125_1 (h125_1 l0_0 l1_0 a0 a1 w0_1 0) (ex125_1 (r125_1 w0_1 w0_1 0)) (fin125_1 l0_0 l1_0 a0 a1 w0_1 (r125_1 w0_1 w0_1 0))):=t125_1 (l0_0:=l0_0) (l1_0:=l1_0) (a0:=a0) (a1:=a1) (c0_125_1:=w0_1) (by assumption) (by assumption) (by have q:=al125 (by with_reducible assumption); simp only[decide_eq_true_eq,length_map,length_append,length_nil,length_cons] at*; omega) w0_1 []  rfl; rw[h2] at t; exact t)
        have f6:pureR []=true:=(by trivial)
        exact callP_ok (ps:=[]) (os:=[]) (rs:=[(.one (.own 2 [])),(.oi 7)]) (by kernel_rfl) (.r 7 [] [] f0 (.f f1 (.f f2 (.f (nt h1) (.f f4 (.f f5 (.f f6 (.h 12 (.loop (h125_0 l0_0 l1_0 a0 a1 0 (([])++a0)) (.exit 0) ⟨[(1,(.one (.bor l1_0 (map b_si a1)))),(6,(.one (.ref ⟨(6,0,0),[],0,(length (map d_si w0_1))⟩))),(7,(.oi w1_1)),(15,(.one (.val (.bool w2_1))))],[((6,0,0),.live ⟨2,(map d_si w0_1),[]⟩)]⟩) (.h 19 (.b false) (.h 22 (.loop (h125_1 l0_0 l1_0 a0 a1 w0_1 0) .ret ⟨[(6,(.one (.ref ⟨(6,0,0),[],0,(length (map d_si w0_1))⟩))),(4,(.one (.nl 2))),(5,(.oi 7))],[((6,0,0),.live ⟨2,(map d_si w0_1),[]⟩)]⟩) .nil))))))))))
theorem ad8 (a b:List K_si):(m125_0 a b).length≤8:=by
  unfold m125_0
  cases h0:r125_0 b b 0 (([])++a) with
  |k0 w i c=>
    simp only[]
    split
    · simp
    · rename_i h1
      cases r125_1 w w 0 with
      |k0 u v=>simp only[decide_eq_true_eq,length_map] at h1; simp only[]; omega
      |k1=>simp
/-! loop.example/g00539/spec.l14Ripen -/
def m78 (a0:K_B) (a1:Int):K_C:=
  if(decide ((m124 a0.f3 a1) < 0))=true then(K_C.mk 4 0 0 0 ([]) ([]) ([]) 0 0 0) else
  if(((getD a0.f3 (Int.toNat (m124 a0.f3 a1)) (K_R.mk 0 0 0 [] 0)).f4) !=1)=true then(K_C.mk 9 0 0 0 ([]) ([]) ([]) 0 0 0) else
    if((m125_1 a0.f4 ((getD a0.f3 (Int.toNat (m124 a0.f3 a1)) (K_R.mk 0 0 0 [] 0)).f3)) !=0)=true then(K_C.mk (m125_1 a0.f4 ((getD a0.f3 (Int.toNat (m124 a0.f3 a1)) (K_R.mk 0 0 0 [] 0)).f3)) 0 0 0 ([]) ([]) ([]) 0 0 0) else
      if(!(m105 (IntKind.wrap .i64 (a0.f6+((getD a0.f3 (Int.toNat (m124 a0.f3 a1)) (K_R.mk 0 0 0 [] 0)).f2))) 0 1000000))=true then(K_C.mk 7 0 0 0 ([]) ([]) ([]) 0 0 0) else
        (K_C.mk 0 0 ((m103 a0).f0) ((m103 a0).f1) ((m103 a0).f2) (set ((m103 a0).f3) (Int.toNat (m124 a0.f3 a1)) (K_R.mk ((getD ((m103 a0).f3) (Int.toNat (m124 a0.f3 a1)) (K_R.mk 0 0 0 [] 0)).f0) ((getD ((m103 a0).f3) (Int.toNat (m124 a0.f3 a1)) (K_R.mk 0 0 0 [] 0)).f1) ((getD ((m103 a0).f3) (Int.toNat (m124 a0.f3 a1)) (K_R.mk 0 0 0 [] 0)).f2) ((getD ((m103 a0).f3) (Int.toNat (m124 a0.f3 a1)) (K_R.mk 0 0 0 [] 0)).f3) 2)) (m125_0 a0.f4 ((getD a0.f3 (Int.toNat (m124 a0.f3 a1)) (K_R.mk 0 0 0 [] 0)).f3)) ((m103 a0).f5) (IntKind.wrap .i64 (a0.f6+((getD a0.f3 (Int.toNat (m124 a0.f3 a1)) (K_R.mk 0 0 0 [] 0)).f2))) ((m103 a0).f7))
theorem e78 {l0_2:Nat} {l0_3:Nat} {l0_4:Nat} {a0:K_B} {a1:Int} (hy0:length a0.f2≤100) (hy1:length a0.f3≤100) (hy2:∀z∈a0.f3,length z.f3≤100) (hy3:length a0.f4≤100) (hy4:∀z∈a0.f3,ok_R z):Ev F X (.call 78 [(.agg [(.val (.int .i64 a0.f0)),(.val (.int .i64 a0.f1)),(.bor l0_2 (map b_si a0.f2)),(.bor l0_3 (map b_R a0.f3)),(.bor l0_4 (map b_si a0.f4)),(.val (.int .i64 a0.f5)),(.val (.int .i64 a0.f6)),(.val (.int .i64 a0.f7))]),(.one (.val (.int .i64 a1)))] [] [] [(.agg [(.val (.int .i64 ((m78 a0 a1).f0))),(.val (.int .i64 ((m78 a0 a1).f1))),(.val (.int .i64 ((m78 a0 a1).f2))),(.val (.int .i64 ((m78 a0 a1).f3))),(.own 2 (map d_si ((m78 a0 a1).f4))),(.own 5 (map d_R ((m78 a0 a1).f5))),(.own 2 (map d_si ((m78 a0 a1).f6))),(.val (.int .i64 ((m78 a0 a1).f7))),(.val (.int .i64 ((m78 a0 a1).f8))),(.val (.int .i64 ((m78 a0 a1).f9)))])]):=by
  unfold m78
  have f0:Ev F X (.call 124 [(.one (.bor (l0_3+1) (map b_R a0.f3))),(.oi a1)] [] [] [(.oi (m124 a0.f3 a1))]):=(e124 (a0:=a0.f3) (a1:=a1) (by omega) (by with_reducible assumption))
  by_cases h0:(decide ((m124 a0.f3 a1) < 0))=true
  · try simp only[if_pos h0]
    have f2:Ev F X (.call 52 [(.oi 4)] [] [] [(.agg [(.i 4),(.i 0),(.i 0),(.i 0),(.own 2 (map d_si ([]))),(.own 5 (map d_R ([]))),(.own 2 (map d_si ([]))),(.i 0),(.i 0),(.i 0)])]):=(e52 (a0:=4))
    have f3:0=0:=rfl
    have f4:(length (map d_si ([])))=(length (map d_si ([]))):=rfl
    have f5:0=0:=rfl
    have f6:(length (map d_R ([])))=(length (map d_R ([]))):=rfl
    have f7:0=0:=rfl
    have f8:(length (map d_si ([])))=(length (map d_si ([]))):=rfl
    have f9:pureR (map d_si ([]))=true:=(pureR_si _)
    have f10:pureR (map d_R ([]))=true:=(pureR_R _)
    have f11:pureR (map d_si ([]))=true:=(pureR_si _)
    exact callP_ok (ps:=[]) (os:=[]) (rs:=[(.agg [(.i 4),(.i 0),(.i 0),(.i 0),(.own 2 (map d_si ([]))),(.own 5 (map d_R ([]))),(.own 2 (map d_si ([]))),(.i 0),(.i 0),(.i 0)])]) (by kernel_rfl) (.r 11 [] [] f0 (.f h0 (.h 18 (.b true) (.r 20 [] [] f2 (.f f3 (.f f4 (.f f5 (.f f6 (.f f7 (.f f8 (.f f9 (.f f10 (.f f11 .nil)))))))))))))
  · try simp only[if_neg h0]
    have f2:0≤(m124 a0.f3 a1):=(by have q:=ix124 a0.f3 a1; simp only[decide_eq_true_eq,length_map] at*; omega)
    have f3:(map b_R a0.f3)[(Int.toNat (m124 a0.f3 a1))]?=some [(.val (.int .i64 ((getD a0.f3 (Int.toNat (m124 a0.f3 a1)) (K_R.mk 0 0 0 [] 0)).f0))),(.val (.int .i64 ((getD a0.f3 (Int.toNat (m124 a0.f3 a1)) (K_R.mk 0 0 0 [] 0)).f1))),(.val (.int .i64 ((getD a0.f3 (Int.toNat (m124 a0.f3 a1)) (K_R.mk 0 0 0 [] 0)).f2))),(.sl (map b_si ((getD a0.f3 (Int.toNat (m124 a0.f3 a1)) (K_R.mk 0 0 0 [] 0)).f3))),(.val (.int .i64 ((getD a0.f3 (Int.toNat (m124 a0.f3 a1)) (K_R.mk 0 0 0 [] 0)).f4)))]:=(by rw[getElem?_map,getD_at a0.f3 (Int.toNat (m124 a0.f3 a1)) (K_R.mk 0 0 0 [] 0) (by first | exact True.intro | with_reducible rfl | with_reducible assumption | omega |(rw[cp103]; omega) |(rw[cp103]; assumption) |(simp only[cp103,length_map]; have q:=ix124 a0.f3 a1; simp only[decide_eq_true_eq] at*; omega) |(exact og100 (by with_reducible assumption) _) |(have q:=ad8 a0.f4 ((getD a0.f3 (Int.toNat (m124 a0.f3 a1)) (K_R.mk 0 0 0 [] 0)).f3); simp only[length_map]; omega) |(have q:=ix124 a0.f3 a1; simp only[decide_eq_true_eq,length_map] at*; omega) |(unfold m124;(repeat' split)<;>simp_all<;>omega) |(simp only[decide_eq_true_eq] at*; omega) |(simp only[length_map]; omega) |(simp; omega) |(simp[take_of_length_le]; done) | assumption | trivial |(simp[*,byteRows_eq,ints_y]; done))]; rfl)
    by_cases h1:(((getD a0.f3 (Int.toNat (m124 a0.f3 a1)) (K_R.mk 0 0 0 [] 0)).f4) !=1)=true
    · try simp only[if_pos h1]
      have f5:Ev F X (.call 52 [(.oi 9)] [] [] [(.agg [(.i 9),(.i 0),(.i 0),(.i 0),(.own 2 (map d_si ([]))),(.own 5 (map d_R ([]))),(.own 2 (map d_si ([]))),(.i 0),(.i 0),(.i 0)])]):=(e52 (a0:=9))
      have f6:0=0:=rfl
      have f7:(length (map d_si ([])))=(length (map d_si ([]))):=rfl
      have f8:0=0:=rfl
      have f9:(length (map d_R ([])))=(length (map d_R ([]))):=rfl
      have f10:0=0:=rfl
      have f11:(length (map d_si ([])))=(length (map d_si ([]))):=rfl
      have f12:pureR (map d_si ([]))=true:=(pureR_si _)
      have f13:pureR (map d_R ([]))=true:=(pureR_R _)
      have f14:pureR (map d_si ([]))=true:=(pureR_si _)
      exact callP_ok (ps:=[]) (os:=[]) (rs:=[(.agg [(.i 9),(.i 0),(.i 0),(.i 0),(.own 2 (map d_si ([]))),(.own 5 (map d_R ([]))),(.own 2 (map d_si ([]))),(.i 0),(.i 0),(.i 0)])]) (by kernel_rfl) (.r 11 [] [] f0 (.f (nt h0) (.f f2 (.f f3 (.f h1 (.h 18 (.b false) (.h 26 (.row [(.i ((getD a0.f3 (Int.toNat (m124 a0.f3 a1)) (K_R.mk 0 0 0 [] 0)).f0)),(.i ((getD a0.f3 (Int.toNat (m124 a0.f3 a1)) (K_R.mk 0 0 0 [] 0)).f1)),(.i ((getD a0.f3 (Int.toNat (m124 a0.f3 a1)) (K_R.mk 0 0 0 [] 0)).f2)),(.sl (map b_si ((getD a0.f3 (Int.toNat (m124 a0.f3 a1)) (K_R.mk 0 0 0 [] 0)).f3))),(.i ((getD a0.f3 (Int.toNat (m124 a0.f3 a1)) (K_R.mk 0 0 0 [] 0)).f4))]) (.h 39 (.b true) (.r 41 [] [] f5 (.f f6 (.f f7 (.f f8 (.f f9 (.f f10 (.f f11 (.f f12 (.f f13 (.f f14 .nil))))))))))))))))))
    · try simp only[if_neg h1]
      have f5:Ev F X (.call 125 [(.one (.bor (l0_4+1) (map b_si a0.f4))),(.one (.bor (l0_3+1) (map b_si ((getD a0.f3 (Int.toNat (m124 a0.f3 a1)) (K_R.mk 0 0 0 [] 0)).f3))))] [] [] [(.one (.own 2 (map d_si (m125_0 a0.f4 ((getD a0.f3 (Int.toNat (m124 a0.f3 a1)) (K_R.mk 0 0 0 [] 0)).f3))))),(.oi (m125_1 a0.f4 ((getD a0.f3 (Int.toNat (m124 a0.f3 a1)) (K_R.mk 0 0 0 [] 0)).f3)))]):=(e125 (a0:=a0.f4) (a1:=((getD a0.f3 (Int.toNat (m124 a0.f3 a1)) (K_R.mk 0 0 0 [] 0)).f3)) (by with_reducible assumption) (by exact og100 (by with_reducible assumption) _))
      by_cases h2:((m125_1 a0.f4 ((getD a0.f3 (Int.toNat (m124 a0.f3 a1)) (K_R.mk 0 0 0 [] 0)).f3)) !=0)=true
      · try simp only[if_pos h2]
        have f7:Ev F X (.call 52 [(.oi (m125_1 a0.f4 ((getD a0.f3 (Int.toNat (m124 a0.f3 a1)) (K_R.mk 0 0 0 [] 0)).f3)))] [] [] [(.agg [(.i (m125_1 a0.f4 ((getD a0.f3 (Int.toNat (m124 a0.f3 a1)) (K_R.mk 0 0 0 [] 0)).f3))),(.i 0),(.i 0),(.i 0),(.own 2 (map d_si ([]))),(.own 5 (map d_R ([]))),(.own 2 (map d_si ([]))),(.i 0),(.i 0),(.i 0)])]):=(e52 (a0:=(m125_1 a0.f4 ((getD a0.f3 (Int.toNat (m124 a0.f3 a1)) (K_R.mk 0 0 0 [] 0)).f3))))
        have f8:0=0:=rfl
        have f9:(length (map d_si ([])))=(length (map d_si ([]))):=rfl
        have f10:0=0:=rfl
        have f11:(length (map d_R ([])))=(length (map d_R ([]))):=rfl
        have f12:0=0:=rfl
        have f13:(length (map d_si ([])))=(length (map d_si ([]))):=rfl
        have f14:pureR (map d_si ([]))=true:=(pureR_si _)
        have f15:pureR (map d_R ([]))=true:=(pureR_R _)
        have f16:pureR (map d_si ([]))=true:=(pureR_si _)
        exact callP_ok (ps:=[]) (os:=[]) (rs:=[(.agg [(.i (m125_1 a0.f4 ((getD a0.f3 (Int.toNat (m124 a0.f3 a1)) (K_R.mk 0 0 0 [] 0)).f3))),(.i 0),(.i 0),(.i 0),(.own 2 (map d_si ([]))),(.own 5 (map d_R ([]))),(.own 2 (map d_si ([]))),(.i 0),(.i 0),(.i 0)])]) (by kernel_rfl) (.r 11 [] [] f0 (.f (nt h0) (.f f2 (.f f3 (.f (nt h1) (.h 18 (.b false) (.h 26 (.row [(.i ((getD a0.f3 (Int.toNat (m124 a0.f3 a1)) (K_R.mk 0 0 0 [] 0)).f0)),(.i ((getD a0.f3 (Int.toNat (m124 a0.f3 a1)) (K_R.mk 0 0 0 [] 0)).f1)),(.i ((getD a0.f3 (Int.toNat (m124 a0.f3 a1)) (K_R.mk 0 0 0 [] 0)).f2)),(.sl (map b_si ((getD a0.f3 (Int.toNat (m124 a0.f3 a1)) (K_R.mk 0 0 0 [] 0)).f3))),(.i ((getD a0.f3 (Int.toNat (m124 a0.f3 a1)) (K_R.mk 0 0 0 [] 0)).f4))]) (.h 39 (.b false) (.r 53 [] [] f5 (.f h2 (.h 68 (.b true) (.r 72 [] [] f7 (.f f8 (.f f9 (.f f10 (.f f11 (.f f12 (.f f13 (.f f14 (.f f15 (.f f16 .nil)))))))))))))))))))))
      · try simp only[if_neg h2]
        have f8:Ev F X (.call 101 [(.oi (IntKind.wrap .i64 (a0.f6+((getD a0.f3 (Int.toNat (m124 a0.f3 a1)) (K_R.mk 0 0 0 [] 0)).f2))))] [] [] [(.one (.val (.bool (m105 (IntKind.wrap .i64 (a0.f6+((getD a0.f3 (Int.toNat (m124 a0.f3 a1)) (K_R.mk 0 0 0 [] 0)).f2))) 0 1000000))))]):=(e101 (a0:=(IntKind.wrap .i64 (a0.f6+((getD a0.f3 (Int.toNat (m124 a0.f3 a1)) (K_R.mk 0 0 0 [] 0)).f2)))))
        by_cases h3:(!(m105 (IntKind.wrap .i64 (a0.f6+((getD a0.f3 (Int.toNat (m124 a0.f3 a1)) (K_R.mk 0 0 0 [] 0)).f2))) 0 1000000))=true
        · try simp only[if_pos h3]
          have f10:Ev F X (.call 52 [(.oi 7)] [] [] [(.agg [(.i 7),(.i 0),(.i 0),(.i 0),(.own 2 (map d_si ([]))),(.own 5 (map d_R ([]))),(.own 2 (map d_si ([]))),(.i 0),(.i 0),(.i 0)])]):=(e52 (a0:=7))
          have f11:0=0:=rfl
          have f12:(length (map d_si ([])))=(length (map d_si ([]))):=rfl
          have f13:0=0:=rfl
          have f14:(length (map d_R ([])))=(length (map d_R ([]))):=rfl
          have f15:0=0:=rfl
          have f16:(length (map d_si ([])))=(length (map d_si ([]))):=rfl
          have f17:pureR (map d_si ([]))=true:=(pureR_si _)
          have f18:pureR (map d_R ([]))=true:=(pureR_R _)
          have f19:pureR (map d_si ([]))=true:=(pureR_si _)
          exact callP_ok (ps:=[]) (os:=[]) (rs:=[(.agg [(.i 7),(.i 0),(.i 0),(.i 0),(.own 2 (map d_si ([]))),(.own 5 (map d_R ([]))),(.own 2 (map d_si ([]))),(.i 0),(.i 0),(.i 0)])]) (by kernel_rfl) (.r 11 [] [] f0 (.f (nt h0) (.f f2 (.f f3 (.f (nt h1) (.h 18 (.b false) (.h 26 (.row [(.i ((getD a0.f3 (Int.toNat (m124 a0.f3 a1)) (K_R.mk 0 0 0 [] 0)).f0)),(.i ((getD a0.f3 (Int.toNat (m124 a0.f3 a1)) (K_R.mk 0 0 0 [] 0)).f1)),(.i ((getD a0.f3 (Int.toNat (m124 a0.f3 a1)) (K_R.mk 0 0 0 [] 0)).f2)),(.sl (map b_si ((getD a0.f3 (Int.toNat (m124 a0.f3 a1)) (K_R.mk 0 0 0 [] 0)).f3))),(.i ((getD a0.f3 (Int.toNat (m124 a0.f3 a1)) (K_R.mk 0 0 0 [] 0)).f4))]) (.h 39 (.b false) (.r 53 [] [] f5 (.f (nt h2) (.f trivial (.h 68 (.b false) (.r 84 [] [] f8 (.f h3 (.h 87 (.b true) (.r 89 [] [] f10 (.f f11 (.f f12 (.f f13 (.f f14 (.f f15 (.f f16 (.f f17 (.f f18 (.f f19 .nil)))))))))))))))))))))))))
        · try simp only[if_neg h3]
          have f10:Ev F X (.call 103 [(.agg [(.i a0.f0),(.i a0.f1),(.bor (l0_2+1) (map b_si a0.f2)),(.bor (l0_3+1) (map b_R a0.f3)),(.bor (l0_4+1) (map b_si a0.f4)),(.i a0.f5),(.i a0.f6),(.i a0.f7)])] [] [] [(.agg [(.i ((m103 a0).f0)),(.i ((m103 a0).f1)),(.own 2 (map d_si ((m103 a0).f2))),(.own 5 (map d_R ((m103 a0).f3))),(.own 2 (map d_si ((m103 a0).f4))),(.i ((m103 a0).f5)),(.i ((m103 a0).f6)),(.i ((m103 a0).f7))])]):=(e103 (a0:=a0) (by with_reducible assumption) (by with_reducible assumption) (by with_reducible assumption) (by with_reducible assumption) (by with_reducible assumption))
          have f11:0=0:=rfl
          have f12:(length (map d_si ((m103 a0).f2)))=(length (map d_si ((m103 a0).f2))):=rfl
          have f13:0=0:=rfl
          have f14:(length (map d_R ((m103 a0).f3)))=(length (map d_R ((m103 a0).f3))):=rfl
          have f15:0=0:=rfl
          have f16:(length (map d_si ((m103 a0).f4)))=(length (map d_si ((m103 a0).f4))):=rfl
          have f17:0+(length (map d_R ((m103 a0).f3)))≤(length (map d_R ((m103 a0).f3))):=(by omega)
          have f18:0≤(m124 a0.f3 a1)∧(m124 a0.f3 a1) <((length (map d_R ((m103 a0).f3))):Int):=(by simp only[cp103,length_map]; have q:=ix124 a0.f3 a1; simp only[decide_eq_true_eq] at*; omega)
          have f19:(map d_R ((m103 a0).f3))[(0+(Int.toNat (m124 a0.f3 a1)))]?=some [(.val (.int .i64 ((getD ((m103 a0).f3) (Int.toNat (m124 a0.f3 a1)) (K_R.mk 0 0 0 [] 0)).f0))),(.val (.int .i64 ((getD ((m103 a0).f3) (Int.toNat (m124 a0.f3 a1)) (K_R.mk 0 0 0 [] 0)).f1))),(.val (.int .i64 ((getD ((m103 a0).f3) (Int.toNat (m124 a0.f3 a1)) (K_R.mk 0 0 0 [] 0)).f2))),(.own 2 (map d_si ((getD ((m103 a0).f3) (Int.toNat (m124 a0.f3 a1)) (K_R.mk 0 0 0 [] 0)).f3))),(.val (.int .i64 ((getD ((m103 a0).f3) (Int.toNat (m124 a0.f3 a1)) (K_R.mk 0 0 0 [] 0)).f4)))]:=(by rw[Nat.zero_add,getElem?_map,getD_at ((m103 a0).f3) (Int.toNat (m124 a0.f3 a1)) (K_R.mk 0 0 0 [] 0) (by first | exact True.intro | with_reducible rfl | with_reducible assumption | omega |(rw[cp103]; omega) |(rw[cp103]; assumption) |(simp only[cp103,length_map]; have q:=ix124 a0.f3 a1; simp only[decide_eq_true_eq] at*; omega) |(exact og100 (by with_reducible assumption) _) |(have q:=ad8 a0.f4 ((getD a0.f3 (Int.toNat (m124 a0.f3 a1)) (K_R.mk 0 0 0 [] 0)).f3); simp only[length_map]; omega) |(have q:=ix124 a0.f3 a1; simp only[decide_eq_true_eq,length_map] at*; omega) |(unfold m124 m103;(repeat' split)<;>simp_all<;>omega) |(simp only[decide_eq_true_eq] at*; omega) |(simp only[length_map]; omega) |(simp; omega) |(simp[take_of_length_le]; done) | assumption | trivial |(simp[*,byteRows_eq,ints_y]; done))]; rfl)
          have f20:([[(.val (.int .i64 ((m103 a0).f0))),(.val (.int .i64 ((m103 a0).f1))),(.own 2 (map d_si ((m103 a0).f2))),(.own 5 (set (map d_R ((m103 a0).f3)) (0+(Int.toNat (m124 a0.f3 a1))) [(.val (.int .i64 ((getD ((m103 a0).f3) (Int.toNat (m124 a0.f3 a1)) (K_R.mk 0 0 0 [] 0)).f0))),(.val (.int .i64 ((getD ((m103 a0).f3) (Int.toNat (m124 a0.f3 a1)) (K_R.mk 0 0 0 [] 0)).f1))),(.val (.int .i64 ((getD ((m103 a0).f3) (Int.toNat (m124 a0.f3 a1)) (K_R.mk 0 0 0 [] 0)).f2))),(.own 2 (map d_si ((getD ((m103 a0).f3) (Int.toNat (m124 a0.f3 a1)) (K_R.mk 0 0 0 [] 0)).f3))),(.val (.int .i64 2))])),(.own 2 (map d_si ((m103 a0).f4))),(.val (.int .i64 ((m103 a0).f5))),(.val (.int .i64 ((m103 a0).f6))),(.val (.int .i64 ((m103 a0).f7)))]]:List (List D))=[[(.val (.int .i64 ((m103 a0).f0))),(.val (.int .i64 ((m103 a0).f1))),(.own 2 (map d_si ((m103 a0).f2))),(.own 5 (map d_R (set ((m103 a0).f3) (Int.toNat (m124 a0.f3 a1)) (K_R.mk ((getD ((m103 a0).f3) (Int.toNat (m124 a0.f3 a1)) (K_R.mk 0 0 0 [] 0)).f0) ((getD ((m103 a0).f3) (Int.toNat (m124 a0.f3 a1)) (K_R.mk 0 0 0 [] 0)).f1) ((getD ((m103 a0).f3) (Int.toNat (m124 a0.f3 a1)) (K_R.mk 0 0 0 [] 0)).f2) ((getD ((m103 a0).f3) (Int.toNat (m124 a0.f3 a1)) (K_R.mk 0 0 0 [] 0)).f3) 2)))),(.own 2 (map d_si ((m103 a0).f4))),(.val (.int .i64 ((m103 a0).f5))),(.val (.int .i64 ((m103 a0).f6))),(.val (.int .i64 ((m103 a0).f7)))]]:=(by simp[byteRows_eq,ints_y,take_of_length_le,d_si,d_R,d_B,d_i,d_b,d_C,d_LsiE,d_s,d_Q,d_y,fromBR_si,fromBR_i,fromBR_b,fromBR_s,fromBR_y]; done)
          have f22:0=0:=rfl
          have f23:(length (map d_si (m125_0 a0.f4 ((getD a0.f3 (Int.toNat (m124 a0.f3 a1)) (K_R.mk 0 0 0 [] 0)).f3))))=(length (map d_si (m125_0 a0.f4 ((getD a0.f3 (Int.toNat (m124 a0.f3 a1)) (K_R.mk 0 0 0 [] 0)).f3)))):=rfl
          have f24:0=0:=rfl
          have f25:(length (map d_si ((m103 a0).f2)))=(length (map d_si ((m103 a0).f2))):=rfl
          have f26:0=0:=rfl
          have f27:(length (map d_R (set ((m103 a0).f3) (Int.toNat (m124 a0.f3 a1)) (K_R.mk ((getD ((m103 a0).f3) (Int.toNat (m124 a0.f3 a1)) (K_R.mk 0 0 0 [] 0)).f0) ((getD ((m103 a0).f3) (Int.toNat (m124 a0.f3 a1)) (K_R.mk 0 0 0 [] 0)).f1) ((getD ((m103 a0).f3) (Int.toNat (m124 a0.f3 a1)) (K_R.mk 0 0 0 [] 0)).f2) ((getD ((m103 a0).f3) (Int.toNat (m124 a0.f3 a1)) (K_R.mk 0 0 0 [] 0)).f3) 2))))=(length (map d_R (set ((m103 a0).f3) (Int.toNat (m124 a0.f3 a1)) (K_R.mk ((getD ((m103 a0).f3) (Int.toNat (m124 a0.f3 a1)) (K_R.mk 0 0 0 [] 0)).f0) ((getD ((m103 a0).f3) (Int.toNat (m124 a0.f3 a1)) (K_R.mk 0 0 0 [] 0)).f1) ((getD ((m103 a0).f3) (Int.toNat (m124 a0.f3 a1)) (K_R.mk 0 0 0 [] 0)).f2) ((getD ((m103 a0).f3) (Int.toNat (m124 a0.f3 a1)) (K_R.mk 0 0 0 [] 0)).f3) 2)))):=rfl
          have f28:0=0:=rfl
          have f29:(length (map d_si (m125_0 a0.f4 ((getD a0.f3 (Int.toNat (m124 a0.f3 a1)) (K_R.mk 0 0 0 [] 0)).f3))))=(length (map d_si (m125_0 a0.f4 ((getD a0.f3 (Int.toNat (m124 a0.f3 a1)) (K_R.mk 0 0 0 [] 0)).f3)))):=rfl
          have f30:pureR (map d_si ((m103 a0).f2))=true:=(pureR_si _)
          have f31:pureR (map d_R (set ((m103 a0).f3) (Int.toNat (m124 a0.f3 a1)) (K_R.mk ((getD ((m103 a0).f3) (Int.toNat (m124 a0.f3 a1)) (K_R.mk 0 0 0 [] 0)).f0) ((getD ((m103 a0).f3) (Int.toNat (m124 a0.f3 a1)) (K_R.mk 0 0 0 [] 0)).f1) ((getD ((m103 a0).f3) (Int.toNat (m124 a0.f3 a1)) (K_R.mk 0 0 0 [] 0)).f2) ((getD ((m103 a0).f3) (Int.toNat (m124 a0.f3 a1)) (K_R.mk 0 0 0 [] 0)).f3) 2)))=true:=(pureR_R _)
          have f32:pureR (map d_si (m125_0 a0.f4 ((getD a0.f3 (Int.toNat (m124 a0.f3 a1)) (K_R.mk 0 0 0 [] 0)).f3)))=true:=(pureR_si _)
          exact callP_ok (ps:=[]) (os:=[]) (rs:=[(.agg [(.i 0),(.i 0),(.i ((m103 a0).f0)),(.i ((m103 a0).f1)),(.own 2 (map d_si ((m103 a0).f2))),(.own 5 (map d_R (set ((m103 a0).f3) (Int.toNat (m124 a0.f3 a1)) (K_R.mk ((getD ((m103 a0).f3) (Int.toNat (m124 a0.f3 a1)) (K_R.mk 0 0 0 [] 0)).f0) ((getD ((m103 a0).f3) (Int.toNat (m124 a0.f3 a1)) (K_R.mk 0 0 0 [] 0)).f1) ((getD ((m103 a0).f3) (Int.toNat (m124 a0.f3 a1)) (K_R.mk 0 0 0 [] 0)).f2) ((getD ((m103 a0).f3) (Int.toNat (m124 a0.f3 a1)) (K_R.mk 0 0 0 [] 0)).f3) 2)))),(.own 2 (map d_si (m125_0 a0.f4 ((getD a0.f3 (Int.toNat (m124 a0.f3 a1)) (K_R.mk 0 0 0 [] 0)).f3)))),(.i ((m103 a0).f5)),(.i (IntKind.wrap .i64 (a0.f6+((getD a0.f3 (Int.toNat (m124 a0.f3 a1)) (K_R.mk 0 0 0 [] 0)).f2)))),(.i ((m103 a0).f7))])]) (by kernel_rfl) (.r 11 [] [] f0 (.f (nt h0) (.f f2 (.f f3 (.f (nt h1) (.h 18 (.b false) (.h 26 (.row [(.i ((getD a0.f3 (Int.toNat (m124 a0.f3 a1)) (K_R.mk 0 0 0 [] 0)).f0)),(.i ((getD a0.f3 (Int.toNat (m124 a0.f3 a1)) (K_R.mk 0 0 0 [] 0)).f1)),(.i ((getD a0.f3 (Int.toNat (m124 a0.f3 a1)) (K_R.mk 0 0 0 [] 0)).f2)),(.sl (map b_si ((getD a0.f3 (Int.toNat (m124 a0.f3 a1)) (K_R.mk 0 0 0 [] 0)).f3))),(.i ((getD a0.f3 (Int.toNat (m124 a0.f3 a1)) (K_R.mk 0 0 0 [] 0)).f4))]) (.h 39 (.b false) (.r 53 [] [] f5 (.f (nt h2) (.f trivial (.h 68 (.b false) (.r 84 [] [] f8 (.f (nt h3) (.h 87 (.b false) (.r 91 [] [] f10 (.f f11 (.f f12 (.f f13 (.f f14 (.f f15 (.f f16 (.f f17 (.f f18 (.f f19 (.f f20 (.f trivial (.f f22 (.f f23 (.f f24 (.f f25 (.f f26 (.f f27 (.f f28 (.f f29 (.f f30 (.f f31 (.f f32 (.h 107 (.rowD [(.i ((getD ((m103 a0).f3) (Int.toNat (m124 a0.f3 a1)) (K_R.mk 0 0 0 [] 0)).f0)),(.i ((getD ((m103 a0).f3) (Int.toNat (m124 a0.f3 a1)) (K_R.mk 0 0 0 [] 0)).f1)),(.i ((getD ((m103 a0).f3) (Int.toNat (m124 a0.f3 a1)) (K_R.mk 0 0 0 [] 0)).f2)),(.own 2 (map d_si ((getD ((m103 a0).f3) (Int.toNat (m124 a0.f3 a1)) (K_R.mk 0 0 0 [] 0)).f3))),(.i ((getD ((m103 a0).f3) (Int.toNat (m124 a0.f3 a1)) (K_R.mk 0 0 0 [] 0)).f4))]) (.h 108 (.norm (9,0,0) [[(.i ((m103 a0).f0)),(.i ((m103 a0).f1)),(.own 2 (map d_si ((m103 a0).f2))),(.own 5 (map d_R (set ((m103 a0).f3) (Int.toNat (m124 a0.f3 a1)) (K_R.mk ((getD ((m103 a0).f3) (Int.toNat (m124 a0.f3 a1)) (K_R.mk 0 0 0 [] 0)).f0) ((getD ((m103 a0).f3) (Int.toNat (m124 a0.f3 a1)) (K_R.mk 0 0 0 [] 0)).f1) ((getD ((m103 a0).f3) (Int.toNat (m124 a0.f3 a1)) (K_R.mk 0 0 0 [] 0)).f2) ((getD ((m103 a0).f3) (Int.toNat (m124 a0.f3 a1)) (K_R.mk 0 0 0 [] 0)).f3) 2)))),(.own 2 (map d_si ((m103 a0).f4))),(.i ((m103 a0).f5)),(.i ((m103 a0).f6)),(.i ((m103 a0).f7))]]) .nil))))))))))))))))))))))))))))))))))))))))
/-! loop.example/g00539/spec.RipenReward -/
def m30 (a0:K_B) (a1:Int):K_C:=
  if((m51 a0) !=0)=true then(K_C.mk (m51 a0) 0 0 0 ([]) ([]) ([]) 0 0 0) else
  (m78 a0 a1)
theorem e30 {l0_2:Nat} {l0_3:Nat} {l0_4:Nat} {a0:K_B} {a1:Int} (hy0:length a0.f2*24≤140737488351232) (hy1:∀z∈a0.f2,os_si z) (hy2:length a0.f3*56≤140737488351232) (hy3:∀z∈a0.f3,os_R z) (hy4:length a0.f4*24≤140737488351232) (hy5:∀z∈a0.f4,os_si z):Ev F X (.call 30 [(.agg [(.val (.int .i64 a0.f0)),(.val (.int .i64 a0.f1)),(.bor l0_2 (map b_si a0.f2)),(.bor l0_3 (map b_R a0.f3)),(.bor l0_4 (map b_si a0.f4)),(.val (.int .i64 a0.f5)),(.val (.int .i64 a0.f6)),(.val (.int .i64 a0.f7))]),(.one (.val (.int .i64 a1)))] [] [] [(.agg [(.val (.int .i64 ((m30 a0 a1).f0))),(.val (.int .i64 ((m30 a0 a1).f1))),(.val (.int .i64 ((m30 a0 a1).f2))),(.val (.int .i64 ((m30 a0 a1).f3))),(.own 2 (map d_si ((m30 a0 a1).f4))),(.own 5 (map d_R ((m30 a0 a1).f5))),(.own 2 (map d_si ((m30 a0 a1).f6))),(.val (.int .i64 ((m30 a0 a1).f7))),(.val (.int .i64 ((m30 a0 a1).f8))),(.val (.int .i64 ((m30 a0 a1).f9)))])]):=by
  unfold m30
  have f0:fullL [(.val (.int .i64 a0.f0)),(.val (.int .i64 a0.f1)),(.bor l0_2 (map b_si a0.f2)),(.bor l0_3 (map b_R a0.f3)),(.bor l0_4 (map b_si a0.f4)),(.val (.int .i64 a0.f5)),(.val (.int .i64 a0.f6)),(.val (.int .i64 a0.f7))]=true:=(by trivial)
  have f1:Ev F X (.call 51 [(.bptr 0 [(.i a0.f0),(.i a0.f1),(.sl (map b_si a0.f2)),(.sl (map b_R a0.f3)),(.sl (map b_si a0.f4)),(.i a0.f5),(.i a0.f6),(.i a0.f7)])] [] [] [(.oi (m51 a0))]):=(e51 (a0:=a0) (by with_reducible assumption) (by with_reducible assumption) (by with_reducible assumption) (by with_reducible assumption) (by with_reducible assumption) (by with_reducible assumption))
  by_cases h0:((m51 a0) !=0)=true
  · try simp only[if_pos h0]
    have f3:Ev F X (.call 52 [(.oi (m51 a0))] [] [] [(.agg [(.i (m51 a0)),(.i 0),(.i 0),(.i 0),(.own 2 (map d_si ([]))),(.own 5 (map d_R ([]))),(.own 2 (map d_si ([]))),(.i 0),(.i 0),(.i 0)])]):=(e52 (a0:=(m51 a0)))
    have f4:0=0:=rfl
    have f5:(length (map d_si ([])))=(length (map d_si ([]))):=rfl
    have f6:0=0:=rfl
    have f7:(length (map d_R ([])))=(length (map d_R ([]))):=rfl
    have f8:0=0:=rfl
    have f9:(length (map d_si ([])))=(length (map d_si ([]))):=rfl
    have f10:pureR (map d_si ([]))=true:=(pureR_si _)
    have f11:pureR (map d_R ([]))=true:=(pureR_R _)
    have f12:pureR (map d_si ([]))=true:=(pureR_si _)
    exact callP_ok (ps:=[]) (os:=[]) (rs:=[(.agg [(.i (m51 a0)),(.i 0),(.i 0),(.i 0),(.own 2 (map d_si ([]))),(.own 5 (map d_R ([]))),(.own 2 (map d_si ([]))),(.i 0),(.i 0),(.i 0)])]) (by kernel_rfl) (.f f0 (.r 5 [] [] f1 (.f h0 (.h 12 (.b true) (.r 16 [] [] f3 (.f f4 (.f f5 (.f f6 (.f f7 (.f f8 (.f f9 (.f f10 (.f f11 (.f f12 .nil))))))))))))))
  · try simp only[if_neg h0]
    have f3:Ev F X (.call 78 [(.agg [(.i a0.f0),(.i a0.f1),(.bor (l0_2+1) (map b_si a0.f2)),(.bor (l0_3+1) (map b_R a0.f3)),(.bor (l0_4+1) (map b_si a0.f4)),(.i a0.f5),(.i a0.f6),(.i a0.f7)]),(.oi a1)] [] [] [(.agg [(.i ((m78 a0 a1).f0)),(.i ((m78 a0 a1).f1)),(.i ((m78 a0 a1).f2)),(.i ((m78 a0 a1).f3)),(.own 2 (map d_si ((m78 a0 a1).f4))),(.own 5 (map d_R ((m78 a0 a1).f5))),(.own 2 (map d_si ((m78 a0 a1).f6))),(.i ((m78 a0 a1).f7)),(.i ((m78 a0 a1).f8)),(.i ((m78 a0 a1).f9))])]):=(e78 (a0:=a0) (a1:=a1) (by have q:=fs51 (a0:=a0) (by with_reducible assumption); omega) (by have q:=fs51 (a0:=a0) (by with_reducible assumption); omega) (by have q:=fs51 (a0:=a0) (by with_reducible assumption); intro z hz; have q2:=q.2.2.1 z hz; omega) (by have q:=fs51 (a0:=a0) (by with_reducible assumption); omega) (by intro z hz; exact os_ok_R z ((by assumption:∀z∈a0.f3,os_R z) z hz)))
    have f4:0=0:=rfl
    have f5:(length (map d_si ((m78 a0 a1).f4)))=(length (map d_si ((m78 a0 a1).f4))):=rfl
    have f6:0=0:=rfl
    have f7:(length (map d_R ((m78 a0 a1).f5)))=(length (map d_R ((m78 a0 a1).f5))):=rfl
    have f8:0=0:=rfl
    have f9:(length (map d_si ((m78 a0 a1).f6)))=(length (map d_si ((m78 a0 a1).f6))):=rfl
    have f10:pureR (map d_si ((m78 a0 a1).f4))=true:=(pureR_si _)
    have f11:pureR (map d_R ((m78 a0 a1).f5))=true:=(pureR_R _)
    have f12:pureR (map d_si ((m78 a0 a1).f6))=true:=(pureR_si _)
    exact callP_ok (ps:=[]) (os:=[]) (rs:=[(.agg [(.i ((m78 a0 a1).f0)),(.i ((m78 a0 a1).f1)),(.i ((m78 a0 a1).f2)),(.i ((m78 a0 a1).f3)),(.own 2 (map d_si ((m78 a0 a1).f4))),(.own 5 (map d_R ((m78 a0 a1).f5))),(.own 2 (map d_si ((m78 a0 a1).f6))),(.i ((m78 a0 a1).f7)),(.i ((m78 a0 a1).f8)),(.i ((m78 a0 a1).f9))])]) (by kernel_rfl) (.f f0 (.r 5 [] [] f1 (.f (nt h0) (.h 12 (.b false) (.r 18 [] [] f3 (.f f4 (.f f5 (.f f6 (.f f7 (.f f8 (.f f9 (.f f10 (.f f11 (.f f12 .nil))))))))))))))
theorem okm30 (a0:K_B) (a1:Int):ok_C (m30 a0 a1):=by
  unfold m30
  split
  · simp[ok_R,ok_B,ok_C,ok_LsiE,ok_Q]
  · rename_i h
    obtain⟨q1,q2,q3,q4⟩:=fs51 h
    unfold m78
    simp only[cp103]
    (repeat' split)<;>simp only[ok_R,ok_B,ok_C,ok_LsiE,ok_Q]<;>first |(refine⟨?_,?_,?_,?_⟩<;>(simp; done)) |(refine⟨?_,?_,?_,?_⟩<;>first | omega | exact Nat.le_trans (Nat.mul_le_mul_right _ (ad8 _ _)) (by decide) |(simp only[length_set,length_append,length_cons,length_nil,length_take,length_drop]; omega) | exact oall q3 | exact oset q3 (oget q3 _) | exact oset q3 (by simp) | exact oapp q3 (by simp))
/-! loop.example/g00539/laws.toWeight -/
def m126 (a0:K_si):K_si:=
  a0
theorem e126 {a0:K_si}:Ev F X (.call 126 [(.agg [(.val (.string a0.f0)),(.val (.int .i64 a0.f1))])] [] [] [(.agg [(.val (.string a0.f0)),(.val (.int .i64 a0.f1))])]):=by
  exact callP_ok (ps:=[]) (os:=[]) (rs:=[(.agg [(.val (.string a0.f0)),(.i a0.f1)])]) (by kernel_rfl) .nil
/-! loop 79_0 -/
inductive O79_0 where
  |k0 (w0:List K_si) (w1:Int) (w2:Bool)
def r79_0 (a0:(List K_si)):List K_si→Int→List K_si→O79_0
  |x0::y0,i,v0=>
    (r79_0 a0 y0 (i+1) (set v0 (Int.toNat i) x0))
  |[],i,v0=>(O79_0.k0 v0 i (decide (i <((length (map b_si a0)):Int))))
def h79_0 (l0_0:Nat) (a0:(List K_si)) (i:Int) (v0:List K_si):St:=⟨[(0,(.one (.bor l0_0 (map b_si a0)))),(3,(.one (.ref ⟨(3,0,0),[],0,(Int.toNat ((length (map b_si a0)):Int))⟩))),(4,(.one (.val (.int .i64 i))))],[((3,0,0),.live ⟨2,(map d_si v0),[]⟩)]⟩
def ex79_0:O79_0→VX.Exit
  |.k0 _ _ _=>(.exit 0)
def fin79_0 (l0_0:Nat) (a0:(List K_si)):O79_0→St
  |.k0 w0 w1 w2=>⟨[(0,(.one (.bor l0_0 (map b_si a0)))),(3,(.one (.ref ⟨(3,0,0),[],0,(Int.toNat ((length (map b_si a0)):Int))⟩))),(4,(.one (.val (.int .i64 w1)))),(11,(.one (.val (.bool w2))))],[((3,0,0),.live ⟨2,(map d_si w0),[]⟩)]⟩
theorem t79_0 {l0_0:Nat} {a0:(List K_si)} (hy0:length a0*24≤140737488351232):∀(y0:List K_si) (p:List K_si) (v0:List K_si),p++y0=a0→length v0=(Int.toNat ((length (map b_si a0)):Int))→Ev F X (.code l79_0 (h79_0 l0_0 a0 (length p:Int) v0) (ex79_0 (r79_0 a0 y0 (length p:Int) v0)) (fin79_0 l0_0 a0 (r79_0 a0 y0 (length p:Int) v0)))
  |[],p,v0,hp0,hi0=>by
    have hc:¬(decide ((length p:Int) <((length (map b_si a0)):Int)))=true:=by
      rw[← hp0]; simp only[length_map,length_set,length_append,length_replicate,length_cons,length_nil,decide_eq_true_eq]; omega
    have hj0:=hi0; try simp only[length_map,length_set,length_append,length_replicate,length_cons,length_nil,Int.toNat_natCast] at hj0
    have st:=codeH_ok (F:=F) (X:=X) (c:=b79_0) (t:=0) (hs:=[(8,.b false)]) (σ:=h79_0 l0_0 a0 (length p:Int) v0) (σ':=fin79_0 l0_0 a0 (.k0 v0 (length p:Int) (decide ((length p:Int) <((length (map b_si a0)):Int))))) (e:=(.exit 0)) (t':=9) (hs':=[]) (q:=[(decide ((length p:Int) <((length (map b_si a0)):Int)))=false]) (by kernel_rfl) ⟨(nt hc),trivial⟩
    exact .loopX st (show ((.exit 0):VX.Exit)≠.normal from by simp)
  |x0::y0,p,v0,hp0,hi0=>by
    have hc:(decide ((length p:Int) <((length (map b_si a0)):Int)))=true:=by
      rw[← hp0]; simp only[length_map,length_set,length_append,length_replicate,length_cons,length_nil,decide_eq_true_eq]; omega
    have Hx0:(a0)[Int.toNat (length p:Int)]?=some x0:=by
      rw[← hp0,Int.toNat_natCast]; simp
    have hlen:length (a0)=length p+length y0+1:=by rw[← hp0]; simp; omega
    have hw:IntKind.wrap .i64 ((length p:Int)+1)=(length p:Int)+1:=wrap64 (by omega)
    have hj0:=hi0; try simp only[length_map,length_set,length_append,length_replicate,length_cons,length_nil,Int.toNat_natCast] at hj0
    obtain⟨x1,Hx1⟩:∃y,v0[Int.toNat (length p:Int)]?=some y:=⟨_,List.getElem?_eq_getElem (by omega)⟩
    simp only[r79_0]
    have st:=codeH_ok (F:=F) (X:=X) (c:=b79_0) (t:=0) (hs:=[(8,.b true),(18,.row [(.val (.string x0.f0)),(.i x0.f1)]),(22,.ret [] [(.agg [(.val (.string x0.f0)),(.i x0.f1)])] [] []),(26,.rowD [(.val (.string x1.f0)),(.i x1.f1)]),(27,.norm (3,0,0) (map d_si (set v0 (Int.toNat (length p:Int)) x0)))]) (σ:=h79_0 l0_0 a0 (length p:Int) v0) (σ':=⟨[(0,(.one (.bor l0_0 (map b_si a0)))),(3,(.one (.ref ⟨(3,0,0),[],0,(Int.toNat ((length (map b_si a0)):Int))⟩))),(4,(.oi (IntKind.wrap .i64 ((length p:Int)+1))))],[((3,0,0),.live ⟨2,(map d_si (set v0 (Int.toNat (length p:Int)) x0)),[]⟩)]⟩) (e:=.normal) (t':=34) (hs':=[]) (q:=[(decide ((length p:Int) <((length (map b_si a0)):Int)))=true,0≤(length p:Int),(map b_si a0)[(Int.toNat (length p:Int))]?=some [(.val (.string x0.f0)),(.i x0.f1)],Ev F X (.call 126 [(.agg [(.val (.string x0.f0)),(.i x0.f1)])] [] [] [(.agg [(.val (.string x0.f0)),(.i x0.f1)])]),0+(Int.toNat ((length (map b_si a0)):Int))≤(length (map d_si v0)),0≤(length p:Int)∧(length p:Int) <((Int.toNat ((length (map b_si a0)):Int)):Int),(map d_si v0)[(0+(Int.toNat (length p:Int)))]?=some [(.val (.string x1.f0)),(.i x1.f1)],(set (map d_si v0) (0+(Int.toNat (length p:Int))) [(.val (.string x0.f0)),(.i x0.f1)])=(map d_si (set v0 (Int.toNat (length p:Int)) x0)),True]) (by kernel_rfl) ⟨hc,(by omega),(by rw[getElem?_map,Hx0]; rfl),(e126 (a0:=x0)),(by simp only[length_map]; omega),(by omega),(by rw[Nat.zero_add,getElem?_map,Hx1]; rfl),(by simp[byteRows_eq,ints_y,take_of_length_le,d_si,d_R,d_B,d_i,d_b,d_C,d_LsiE,d_s,d_Q,d_y,fromBR_si,fromBR_i,fromBR_b,fromBR_s,fromBR_y]; done),trivial,trivial⟩
    have ih:=t79_0 (l0_0:=l0_0) (a0:=a0) hy0 y0 (p++ [x0]) (set v0 (Int.toNat (length p:Int)) x0) (by rw[append_assoc]; exact hp0) (by simp only[length_map,length_set,length_append,length_replicate,length_cons,length_nil]; omega)
    rw[show ((p++ [x0]).length:Int)=(p.length:Int)+1 from by simp] at ih
    rw[show (⟨[(0,(.one (.bor l0_0 (map b_si a0)))),(3,(.one (.ref ⟨(3,0,0),[],0,(Int.toNat ((length (map b_si a0)):Int))⟩))),(4,(.oi (IntKind.wrap .i64 ((length p:Int)+1))))],[((3,0,0),.live ⟨2,(map d_si (set v0 (Int.toNat (length p:Int)) x0)),[]⟩)]⟩:St)=h79_0 l0_0 a0 ((length p:Int)+1) (set v0 (Int.toNat (length p:Int)) x0) from(by unfold h79_0; simp only[hw]; done)] at st
    exact .loopN st ih
def post79_0 (n0:Nat):O79_0→Prop
  |.k0 w0 _ _=>length w0=n0
theorem z79_0 {a0:(List K_si)}:∀(y0:List K_si) (i:Int) (v0:List K_si),post79_0 (length v0) (r79_0 a0 y0 i v0)
  |[],i,v0=>by
    first | trivial |(simp only[post79_0,length_nil,Nat.add_zero]; done) |(simp[post79_0]; done)
  |x0::y0,i,v0=>by
    simp only[r79_0]
    have z:=z79_0 (a0:=a0) y0 (i+1) (set v0 (Int.toNat i) x0)
    rw[show (length v0)=(length (set v0 (Int.toNat i) x0)) from by first | omega |(simp only[length_map,length_set,length_append,length_replicate,length_cons,length_nil]; done) |(simp only[length_map,length_set,length_append,length_replicate,length_cons,length_nil]; omega)]
    exact z
/-! loop.example/g00539/laws.toWeightS -/
def m79 (a0:(List K_si)):(List K_si):=
  (match r79_0 a0 a0 0 (List.replicate (Int.toNat ((length (map b_si a0)):Int)) (K_si.mk (⟨#[]⟩:ByteArray) 0)) with | .k0 w0_1 w1_1 w2_1=>w0_1)
theorem e79 {l0_0:Nat} {a0:(List K_si)} (hy0:length a0*24≤140737488351232):Ev F X (.call 79 [(.one (.bor l0_0 (map b_si a0)))] [] [] [(.one (.own 2 (map d_si (m79 a0))))]):=by
  unfold m79
  have f0:0≤((length (map b_si a0)):Int)∧((length (map b_si a0)):Int)≤((length (map b_si a0)):Int)∧((length (map b_si a0)):Int)≤140737488355328∧((length (map b_si a0)):Int)*24≤140737488355328:=(by simp only[length_map]; omega)
  have f1:(List.replicate (Int.toNat ((length (map b_si a0)):Int)) [(.val (.string (⟨#[]⟩:ByteArray))),(.val (.int .i64 0))])=(map d_si (List.replicate (Int.toNat ((length (map b_si a0)):Int)) (K_si.mk (⟨#[]⟩:ByteArray) 0))):=(by simp[byteRows_eq,ints_y,take_of_length_le,d_si,d_R,d_B,d_i,d_b,d_C,d_LsiE,d_s,d_Q,d_y,fromBR_si,fromBR_i,fromBR_b,fromBR_s,fromBR_y]; done)
  cases h0:r79_0 a0 a0 0 (List.replicate (Int.toNat ((length (map b_si a0)):Int)) (K_si.mk (⟨#[]⟩:ByteArray) 0)) with
  |k0 w0_1 w1_1 w2_1=>
    try dsimp only
    have zh0:=z79_0 (a0:=a0) a0 0 (List.replicate (Int.toNat ((length (map b_si a0)):Int)) (K_si.mk (⟨#[]⟩:ByteArray) 0)); rw[h0] at zh0; simp only[post79_0,length_map,length_set,length_append,length_replicate,length_cons,length_nil,Int.toNat_natCast] at zh0
    have f2:(⟨[(0,(.one (.bor l0_0 (map b_si a0)))),(3,(.one (.ref ⟨(3,0,0),[],0,(Int.toNat ((length (map b_si a0)):Int))⟩))),(4,(.oi 0))],[((3,0,0),.live ⟨2,(map d_si (List.replicate (Int.toNat ((length (map b_si a0)):Int)) (K_si.mk (⟨#[]⟩:ByteArray) 0))),[]⟩)]⟩:St)=h79_0 l0_0 a0 0 (List.replicate (Int.toNat ((length (map b_si a0)):Int)) (K_si.mk (⟨#[]⟩:ByteArray) 0)):=(by rfl)
    have f3:Ev F X (.code l79_0 (h79_0 l0_0 a0 0 (List.replicate (Int.toNat ((length (map b_si a0)):Int)) (K_si.mk (⟨#[]⟩:ByteArray) 0))) (.exit 0) ⟨[(0,(.one (.bor l0_0 (map b_si a0)))),(3,(.one (.ref ⟨(3,0,0),[],0,(Int.toNat ((length (map b_si a0)):Int))⟩))),(4,(.oi w1_1)),(11,(.one (.val (.bool w2_1))))],[((3,0,0),.live ⟨2,(map d_si w0_1),[]⟩)]⟩):=(by have t:Ev F X (.code l79_0 (h79_0 l0_0 a0 0 (List.replicate (Int.toNat ((length (map b_si a0)):Int)) (K_si.mk (⟨#[]⟩:ByteArray) 0))) (ex79_0 (r79_0 a0 a0 0 (List.replicate (Int.toNat ((length (map b_si a0)):Int)) (K_si.mk (⟨#[]⟩:ByteArray) 0)))) (fin79_0 l0_0 a0 (r79_0 a0 a0 0 (List.replicate (Int.toNat ((length (map b_si a0)):Int)) (K_si.mk (⟨#[]⟩:ByteArray) 0))))):=t79_0 (l0_0:=l0_0) (a0:=a0) (by assumption) a0 [] (List.replicate (Int.toNat ((length (map b_si a0)):Int)) (K_si.mk (⟨#[]⟩:ByteArray) 0)) rfl (by simp only[length_map,length_set,length_append,length_replicate,length_cons,length_nil]; done); rw[h0] at t; exact t)
    have f4:0=0:=rfl
    have f5:(Int.toNat ((length (map b_si a0)):Int))=(length (map d_si w0_1)):=(by simp only[length_map]; omega)
    have f6:pureR (map d_si w0_1)=true:=(pureR_si _)
    exact callP_ok (ps:=[]) (os:=[]) (rs:=[(.one (.own 2 (map d_si w0_1)))]) (by kernel_rfl) (.f f0 (.f f1 (.f f2 (.f f3 (.f f4 (.f f5 (.f f6 (.h 10 (.norm (3,0,0) (map d_si (List.replicate (Int.toNat ((length (map b_si a0)):Int)) (K_si.mk (⟨#[]⟩:ByteArray) 0)))) (.h 13 (.loop (h79_0 l0_0 a0 0 (List.replicate (Int.toNat ((length (map b_si a0)):Int)) (K_si.mk (⟨#[]⟩:ByteArray) 0))) (.exit 0) ⟨[(0,(.one (.bor l0_0 (map b_si a0)))),(3,(.one (.ref ⟨(3,0,0),[],0,(Int.toNat ((length (map b_si a0)):Int))⟩))),(4,(.oi w1_1)),(11,(.one (.val (.bool w2_1))))],[((3,0,0),.live ⟨2,(map d_si w0_1),[]⟩)]⟩) .nil)))))))))
theorem c79_0 (a0:List K_si):∀(l p q:List K_si),q.length=l.length→∃w1 w2,r79_0 a0 l (p.length:Int) (p++q)=.k0 (p++l) w1 w2
  |[],p,[],_=>⟨_,_,rfl⟩
  |[],_,_::_,h=>by simp at h
  |_::_,_,[],h=>by simp at h
  |x::l,p,y::q,h=>by
    have ih:=c79_0 a0 l (p++ [x]) q (by simpa using h)
    have e:set (p++y::q) (Int.toNat (p.length:Int)) x=(p++ [x])++q:=by simp
    have e2:((p++ [x]).length:Int)=(p.length:Int)+1:=by simp
    rw[e2] at ih
    simp only[r79_0]
    rw[show p++x::l=(p++ [x])++l by simp]
    first |(rw[e]; exact ih) |(simp only[e]; exact ih)
theorem q79 (a0:(List K_si)) (hy0:length a0*24≤140737488351232):(m79 a0)=a0:=by
  have h:=c79_0 a0 a0 [] (List.replicate (Int.toNat ((length (map b_si a0)):Int)) (K_si.mk (⟨#[]⟩:ByteArray) 0)) (by simp)
  unfold m79
  simp only[List.nil_append,length_nil] at h
  obtain⟨_,_,h⟩:=h
  rw[show ((0:Nat):Int)=0 from rfl] at h
  rw[h]
theorem g79 {l0_0:Nat} {a0:(List K_si)} (hy0:length a0*24≤140737488351232):Ev F X (.call 79 [(.one (.bor l0_0 (map b_si a0)))] [] [] [(.one (.own 2 (map d_si a0)))]):=by
  have t:=e79 (l0_0:=l0_0) (a0:=a0) hy0
  rw[q79 a0 hy0] at t
  exact t
/-! loop.example/g00539/laws.toReward -/
def m127 (a0:K_R):K_R:=
  a0
theorem e127 {l0_3:Nat} {a0:K_R} (hy0:length a0.f3*24≤140737488351232):Ev F X (.call 127 [(.agg [(.val (.int .i64 a0.f0)),(.val (.int .i64 a0.f1)),(.val (.int .i64 a0.f2)),(.bor l0_3 (map b_si a0.f3)),(.val (.int .i64 a0.f4))])] [] [] [(.agg [(.val (.int .i64 a0.f0)),(.val (.int .i64 a0.f1)),(.val (.int .i64 a0.f2)),(.own 2 (map d_si a0.f3)),(.val (.int .i64 a0.f4))])]):=by
  have f0:Ev F X (.call 79 [(.one (.bor (l0_3+1) (map b_si a0.f3)))] [] [] [(.one (.own 2 (map d_si a0.f3)))]):=(g79 (a0:=a0.f3) (by with_reducible assumption))
  have f1:0=0:=rfl
  have f2:(length (map d_si a0.f3))=(length (map d_si a0.f3)):=rfl
  have f3:0=0:=rfl
  have f4:(length (map d_si a0.f3))=(length (map d_si a0.f3)):=rfl
  have f5:pureR (map d_si a0.f3)=true:=(pureR_si _)
  exact callP_ok (ps:=[]) (os:=[]) (rs:=[(.agg [(.i a0.f0),(.i a0.f1),(.i a0.f2),(.own 2 (map d_si a0.f3)),(.i a0.f4)])]) (by kernel_rfl) (.r 35 [] [] f0 (.f f1 (.f f2 (.f f3 (.f f4 (.f f5 .nil))))))
/-! loop 80_0 -/
inductive O80_0 where
  |k0 (w0:List K_R) (w1:Int) (w2:Bool)
def r80_0 (a0:(List K_R)):List K_R→Int→List K_R→O80_0
  |x0::y0,i,v0=>
    (r80_0 a0 y0 (i+1) (set v0 (Int.toNat i) x0))
  |[],i,v0=>(O80_0.k0 v0 i (decide (i <((length (map b_R a0)):Int))))
def h80_0 (l0_0:Nat) (a0:(List K_R)) (i:Int) (v0:List K_R):St:=⟨[(0,(.one (.bor l0_0 (map b_R a0)))),(3,(.one (.ref ⟨(3,0,0),[],0,(Int.toNat ((length (map b_R a0)):Int))⟩))),(4,(.one (.val (.int .i64 i))))],[((3,0,0),.live ⟨5,(map d_R v0),[]⟩)]⟩
def ex80_0:O80_0→VX.Exit
  |.k0 _ _ _=>(.exit 0)
def fin80_0 (l0_0:Nat) (a0:(List K_R)):O80_0→St
  |.k0 w0 w1 w2=>⟨[(0,(.one (.bor l0_0 (map b_R a0)))),(3,(.one (.ref ⟨(3,0,0),[],0,(Int.toNat ((length (map b_R a0)):Int))⟩))),(4,(.one (.val (.int .i64 w1)))),(11,(.one (.val (.bool w2))))],[((3,0,0),.live ⟨5,(map d_R w0),[]⟩)]⟩
theorem t80_0 {l0_0:Nat} {a0:(List K_R)} (hy0:length a0*56≤140737488351232) (hy1:∀z∈a0,ok_R z):∀(y0:List K_R) (p:List K_R) (v0:List K_R),p++y0=a0→length v0=(Int.toNat ((length (map b_R a0)):Int))→Ev F X (.code l80_0 (h80_0 l0_0 a0 (length p:Int) v0) (ex80_0 (r80_0 a0 y0 (length p:Int) v0)) (fin80_0 l0_0 a0 (r80_0 a0 y0 (length p:Int) v0)))
  |[],p,v0,hp0,hi0=>by
    have hc:¬(decide ((length p:Int) <((length (map b_R a0)):Int)))=true:=by
      rw[← hp0]; simp only[length_map,length_set,length_append,length_replicate,length_cons,length_nil,decide_eq_true_eq]; omega
    have hj0:=hi0; try simp only[length_map,length_set,length_append,length_replicate,length_cons,length_nil,Int.toNat_natCast] at hj0
    have st:=codeH_ok (F:=F) (X:=X) (c:=b80_0) (t:=0) (hs:=[(8,.b false)]) (σ:=h80_0 l0_0 a0 (length p:Int) v0) (σ':=fin80_0 l0_0 a0 (.k0 v0 (length p:Int) (decide ((length p:Int) <((length (map b_R a0)):Int))))) (e:=(.exit 0)) (t':=9) (hs':=[]) (q:=[(decide ((length p:Int) <((length (map b_R a0)):Int)))=false]) (by kernel_rfl) ⟨(nt hc),trivial⟩
    exact .loopX st (show ((.exit 0):VX.Exit)≠.normal from by simp)
  |x0::y0,p,v0,hp0,hi0=>by
    have hc:(decide ((length p:Int) <((length (map b_R a0)):Int)))=true:=by
      rw[← hp0]; simp only[length_map,length_set,length_append,length_replicate,length_cons,length_nil,decide_eq_true_eq]; omega
    have Hx0:(a0)[Int.toNat (length p:Int)]?=some x0:=by
      rw[← hp0,Int.toNat_natCast]; simp
    have Mx0_0:=hy1 x0 (List.mem_of_getElem? Hx0)
    have hlen:length (a0)=length p+length y0+1:=by rw[← hp0]; simp; omega
    have hw:IntKind.wrap .i64 ((length p:Int)+1)=(length p:Int)+1:=wrap64 (by omega)
    have hj0:=hi0; try simp only[length_map,length_set,length_append,length_replicate,length_cons,length_nil,Int.toNat_natCast] at hj0
    obtain⟨x1,Hx1⟩:∃y,v0[Int.toNat (length p:Int)]?=some y:=⟨_,List.getElem?_eq_getElem (by omega)⟩
    simp only[r80_0]
    have st:=codeH_ok (F:=F) (X:=X) (c:=b80_0) (t:=0) (hs:=[(8,.b true),(18,.row [(.i x0.f0),(.i x0.f1),(.i x0.f2),(.sl (map b_si x0.f3)),(.i x0.f4)]),(22,.ret [] [(.agg [(.i x0.f0),(.i x0.f1),(.i x0.f2),(.own 2 (map d_si x0.f3)),(.i x0.f4)])] [] []),(26,.rowD [(.i x1.f0),(.i x1.f1),(.i x1.f2),(.own 2 (map d_si x1.f3)),(.i x1.f4)]),(27,.norm (3,0,0) (map d_R (set v0 (Int.toNat (length p:Int)) x0)))]) (σ:=h80_0 l0_0 a0 (length p:Int) v0) (σ':=⟨[(0,(.one (.bor l0_0 (map b_R a0)))),(3,(.one (.ref ⟨(3,0,0),[],0,(Int.toNat ((length (map b_R a0)):Int))⟩))),(4,(.oi (IntKind.wrap .i64 ((length p:Int)+1))))],[((3,0,0),.live ⟨5,(map d_R (set v0 (Int.toNat (length p:Int)) x0)),[]⟩)]⟩) (e:=.normal) (t':=34) (hs':=[]) (q:=[(decide ((length p:Int) <((length (map b_R a0)):Int)))=true,0≤(length p:Int),(map b_R a0)[(Int.toNat (length p:Int))]?=some [(.i x0.f0),(.i x0.f1),(.i x0.f2),(.sl (map b_si x0.f3)),(.i x0.f4)],Ev F X (.call 127 [(.agg [(.i x0.f0),(.i x0.f1),(.i x0.f2),(.bor (l0_0+1) (map b_si x0.f3)),(.i x0.f4)])] [] [] [(.agg [(.i x0.f0),(.i x0.f1),(.i x0.f2),(.own 2 (map d_si x0.f3)),(.i x0.f4)])]),0+(Int.toNat ((length (map b_R a0)):Int))≤(length (map d_R v0)),0≤(length p:Int)∧(length p:Int) <((Int.toNat ((length (map b_R a0)):Int)):Int),0=0,(length (map d_si x0.f3))=(length (map d_si x0.f3)),(map d_R v0)[(0+(Int.toNat (length p:Int)))]?=some [(.i x1.f0),(.i x1.f1),(.i x1.f2),(.own 2 (map d_si x1.f3)),(.i x1.f4)],(set (map d_R v0) (0+(Int.toNat (length p:Int))) [(.i x0.f0),(.i x0.f1),(.i x0.f2),(.own 2 (map d_si x0.f3)),(.i x0.f4)])=(map d_R (set v0 (Int.toNat (length p:Int)) x0)),True]) (by kernel_rfl) ⟨hc,(by omega),(by rw[getElem?_map,Hx0]; rfl),(e127 (a0:=x0) (by assumption)),(by simp only[length_map]; omega),(by omega),rfl,rfl,(by rw[Nat.zero_add,getElem?_map,Hx1]; rfl),(by simp[byteRows_eq,ints_y,take_of_length_le,d_si,d_R,d_B,d_i,d_b,d_C,d_LsiE,d_s,d_Q,d_y,fromBR_si,fromBR_i,fromBR_b,fromBR_s,fromBR_y]; done),trivial,trivial⟩
    have ih:=t80_0 (l0_0:=l0_0) (a0:=a0) hy0 hy1 y0 (p++ [x0]) (set v0 (Int.toNat (length p:Int)) x0) (by rw[append_assoc]; exact hp0) (by simp only[length_map,length_set,length_append,length_replicate,length_cons,length_nil]; omega)
    rw[show ((p++ [x0]).length:Int)=(p.length:Int)+1 from by simp] at ih
    rw[show (⟨[(0,(.one (.bor l0_0 (map b_R a0)))),(3,(.one (.ref ⟨(3,0,0),[],0,(Int.toNat ((length (map b_R a0)):Int))⟩))),(4,(.oi (IntKind.wrap .i64 ((length p:Int)+1))))],[((3,0,0),.live ⟨5,(map d_R (set v0 (Int.toNat (length p:Int)) x0)),[]⟩)]⟩:St)=h80_0 l0_0 a0 ((length p:Int)+1) (set v0 (Int.toNat (length p:Int)) x0) from(by unfold h80_0; simp only[hw]; done)] at st
    exact .loopN st ih
def post80_0 (n0:Nat):O80_0→Prop
  |.k0 w0 _ _=>length w0=n0
theorem z80_0 {a0:(List K_R)}:∀(y0:List K_R) (i:Int) (v0:List K_R),post80_0 (length v0) (r80_0 a0 y0 i v0)
  |[],i,v0=>by
    first | trivial |(simp only[post80_0,length_nil,Nat.add_zero]; done) |(simp[post80_0]; done)
  |x0::y0,i,v0=>by
    simp only[r80_0]
    have z:=z80_0 (a0:=a0) y0 (i+1) (set v0 (Int.toNat i) x0)
    rw[show (length v0)=(length (set v0 (Int.toNat i) x0)) from by first | omega |(simp only[length_map,length_set,length_append,length_replicate,length_cons,length_nil]; done) |(simp only[length_map,length_set,length_append,length_replicate,length_cons,length_nil]; omega)]
    exact z
/-! loop.example/g00539/laws.toRewardS -/
def m80 (a0:(List K_R)):(List K_R):=
  (match r80_0 a0 a0 0 (List.replicate (Int.toNat ((length (map b_R a0)):Int)) (K_R.mk 0 0 0 [] 0)) with | .k0 w0_1 w1_1 w2_1=>w0_1)
theorem e80 {l0_0:Nat} {a0:(List K_R)} (hy0:length a0*56≤140737488351232) (hy1:∀z∈a0,ok_R z):Ev F X (.call 80 [(.one (.bor l0_0 (map b_R a0)))] [] [] [(.one (.own 5 (map d_R (m80 a0))))]):=by
  unfold m80
  have f0:0≤((length (map b_R a0)):Int)∧((length (map b_R a0)):Int)≤((length (map b_R a0)):Int)∧((length (map b_R a0)):Int)≤140737488355328∧((length (map b_R a0)):Int)*56≤140737488355328:=(by simp only[length_map]; omega)
  have f1:(List.replicate (Int.toNat ((length (map b_R a0)):Int)) [(.val (.int .i64 0)),(.val (.int .i64 0)),(.val (.int .i64 0)),(.own 2 []),(.val (.int .i64 0))])=(map d_R (List.replicate (Int.toNat ((length (map b_R a0)):Int)) (K_R.mk 0 0 0 [] 0))):=(by simp[byteRows_eq,ints_y,take_of_length_le,d_si,d_R,d_B,d_i,d_b,d_C,d_LsiE,d_s,d_Q,d_y,fromBR_si,fromBR_i,fromBR_b,fromBR_s,fromBR_y]; done)
  cases h0:r80_0 a0 a0 0 (List.replicate (Int.toNat ((length (map b_R a0)):Int)) (K_R.mk 0 0 0 [] 0)) with
  |k0 w0_1 w1_1 w2_1=>
    try dsimp only
    have zh0:=z80_0 (a0:=a0) a0 0 (List.replicate (Int.toNat ((length (map b_R a0)):Int)) (K_R.mk 0 0 0 [] 0)); rw[h0] at zh0; simp only[post80_0,length_map,length_set,length_append,length_replicate,length_cons,length_nil,Int.toNat_natCast] at zh0
    have f2:(⟨[(0,(.one (.bor l0_0 (map b_R a0)))),(3,(.one (.ref ⟨(3,0,0),[],0,(Int.toNat ((length (map b_R a0)):Int))⟩))),(4,(.oi 0))],[((3,0,0),.live ⟨5,(map d_R (List.replicate (Int.toNat ((length (map b_R a0)):Int)) (K_R.mk 0 0 0 [] 0))),[]⟩)]⟩:St)=h80_0 l0_0 a0 0 (List.replicate (Int.toNat ((length (map b_R a0)):Int)) (K_R.mk 0 0 0 [] 0)):=(by rfl)
    have f3:Ev F X (.code l80_0 (h80_0 l0_0 a0 0 (List.replicate (Int.toNat ((length (map b_R a0)):Int)) (K_R.mk 0 0 0 [] 0))) (.exit 0) ⟨[(0,(.one (.bor l0_0 (map b_R a0)))),(3,(.one (.ref ⟨(3,0,0),[],0,(Int.toNat ((length (map b_R a0)):Int))⟩))),(4,(.oi w1_1)),(11,(.one (.val (.bool w2_1))))],[((3,0,0),.live ⟨5,(map d_R w0_1),[]⟩)]⟩):=(by have t:Ev F X (.code l80_0 (h80_0 l0_0 a0 0 (List.replicate (Int.toNat ((length (map b_R a0)):Int)) (K_R.mk 0 0 0 [] 0))) (ex80_0 (r80_0 a0 a0 0 (List.replicate (Int.toNat ((length (map b_R a0)):Int)) (K_R.mk 0 0 0 [] 0)))) (fin80_0 l0_0 a0 (r80_0 a0 a0 0 (List.replicate (Int.toNat ((length (map b_R a0)):Int)) (K_R.mk 0 0 0 [] 0))))):=t80_0 (l0_0:=l0_0) (a0:=a0) (by assumption) (by assumption) a0 [] (List.replicate (Int.toNat ((length (map b_R a0)):Int)) (K_R.mk 0 0 0 [] 0)) rfl (by simp only[length_map,length_set,length_append,length_replicate,length_cons,length_nil]; done); rw[h0] at t; exact t)
    have f4:0=0:=rfl
    have f5:(Int.toNat ((length (map b_R a0)):Int))=(length (map d_R w0_1)):=(by simp only[length_map]; omega)
    have f6:pureR (map d_R w0_1)=true:=(pureR_R _)
    exact callP_ok (ps:=[]) (os:=[]) (rs:=[(.one (.own 5 (map d_R w0_1)))]) (by kernel_rfl) (.f f0 (.f f1 (.f f2 (.f f3 (.f f4 (.f f5 (.f f6 (.h 10 (.norm (3,0,0) (map d_R (List.replicate (Int.toNat ((length (map b_R a0)):Int)) (K_R.mk 0 0 0 [] 0)))) (.h 13 (.loop (h80_0 l0_0 a0 0 (List.replicate (Int.toNat ((length (map b_R a0)):Int)) (K_R.mk 0 0 0 [] 0))) (.exit 0) ⟨[(0,(.one (.bor l0_0 (map b_R a0)))),(3,(.one (.ref ⟨(3,0,0),[],0,(Int.toNat ((length (map b_R a0)):Int))⟩))),(4,(.oi w1_1)),(11,(.one (.val (.bool w2_1))))],[((3,0,0),.live ⟨5,(map d_R w0_1),[]⟩)]⟩) .nil)))))))))
theorem c80_0 (a0:List K_R):∀(l p q:List K_R),q.length=l.length→∃w1 w2,r80_0 a0 l (p.length:Int) (p++q)=.k0 (p++l) w1 w2
  |[],p,[],_=>⟨_,_,rfl⟩
  |[],_,_::_,h=>by simp at h
  |_::_,_,[],h=>by simp at h
  |x::l,p,y::q,h=>by
    have ih:=c80_0 a0 l (p++ [x]) q (by simpa using h)
    have e:set (p++y::q) (Int.toNat (p.length:Int)) x=(p++ [x])++q:=by simp
    have e2:((p++ [x]).length:Int)=(p.length:Int)+1:=by simp
    rw[e2] at ih
    simp only[r80_0]
    rw[show p++x::l=(p++ [x])++l by simp]
    first |(rw[e]; exact ih) |(simp only[e]; exact ih)
theorem q80 (a0:(List K_R)) (hy0:length a0*56≤140737488351232) (hy1:∀z∈a0,ok_R z):(m80 a0)=a0:=by
  have h:=c80_0 a0 a0 [] (List.replicate (Int.toNat ((length (map b_R a0)):Int)) (K_R.mk 0 0 0 [] 0)) (by simp)
  unfold m80
  simp only[List.nil_append,length_nil] at h
  obtain⟨_,_,h⟩:=h
  rw[show ((0:Nat):Int)=0 from rfl] at h
  rw[h]
theorem g80 {l0_0:Nat} {a0:(List K_R)} (hy0:length a0*56≤140737488351232) (hy1:∀z∈a0,ok_R z):Ev F X (.call 80 [(.one (.bor l0_0 (map b_R a0)))] [] [] [(.one (.own 5 (map d_R a0)))]):=by
  have t:=e80 (l0_0:=l0_0) (a0:=a0) hy0 hy1
  rw[q80 a0 hy0 hy1] at t
  exact t
/-! loop.example/g00539/laws.toLedger -/
def m31 (a0:K_B):K_B:=
  a0
theorem e31 {l0_2:Nat} {l0_3:Nat} {l0_4:Nat} {a0:K_B} (hy0:length a0.f2*24≤140737488351232) (hy1:length a0.f3*56≤140737488351232) (hy2:∀z∈a0.f3,ok_R z) (hy3:length a0.f4*24≤140737488351232):Ev F X (.call 31 [(.agg [(.val (.int .i64 a0.f0)),(.val (.int .i64 a0.f1)),(.bor l0_2 (map b_si a0.f2)),(.bor l0_3 (map b_R a0.f3)),(.bor l0_4 (map b_si a0.f4)),(.val (.int .i64 a0.f5)),(.val (.int .i64 a0.f6)),(.val (.int .i64 a0.f7))])] [] [] [(.agg [(.val (.int .i64 a0.f0)),(.val (.int .i64 a0.f1)),(.own 2 (map d_si a0.f2)),(.own 5 (map d_R a0.f3)),(.own 2 (map d_si a0.f4)),(.val (.int .i64 a0.f5)),(.val (.int .i64 a0.f6)),(.val (.int .i64 a0.f7))])]):=by
  have f0:Ev F X (.call 79 [(.one (.bor (l0_2+1) (map b_si a0.f2)))] [] [] [(.one (.own 2 (map d_si a0.f2)))]):=(g79 (a0:=a0.f2) (by with_reducible assumption))
  have f1:0=0:=rfl
  have f2:(length (map d_si a0.f2))=(length (map d_si a0.f2)):=rfl
  have f3:Ev F X (.call 80 [(.one (.bor (l0_3+1) (map b_R a0.f3)))] [] [] [(.one (.own 5 (map d_R a0.f3)))]):=(g80 (a0:=a0.f3) (by with_reducible assumption) (by with_reducible assumption))
  have f4:0=0:=rfl
  have f5:(length (map d_R a0.f3))=(length (map d_R a0.f3)):=rfl
  have f6:Ev F X (.call 79 [(.one (.bor (l0_4+1) (map b_si a0.f4)))] [] [] [(.one (.own 2 (map d_si a0.f4)))]):=(g79 (a0:=a0.f4) (by with_reducible assumption))
  have f7:0=0:=rfl
  have f8:(length (map d_si a0.f4))=(length (map d_si a0.f4)):=rfl
  have f9:0=0:=rfl
  have f10:(length (map d_si a0.f2))=(length (map d_si a0.f2)):=rfl
  have f11:0=0:=rfl
  have f12:(length (map d_R a0.f3))=(length (map d_R a0.f3)):=rfl
  have f13:0=0:=rfl
  have f14:(length (map d_si a0.f4))=(length (map d_si a0.f4)):=rfl
  have f15:pureR (map d_si a0.f2)=true:=(pureR_si _)
  have f16:pureR (map d_R a0.f3)=true:=(pureR_R _)
  have f17:pureR (map d_si a0.f4)=true:=(pureR_si _)
  exact callP_ok (ps:=[]) (os:=[]) (rs:=[(.agg [(.i a0.f0),(.i a0.f1),(.own 2 (map d_si a0.f2)),(.own 5 (map d_R a0.f3)),(.own 2 (map d_si a0.f4)),(.i a0.f5),(.i a0.f6),(.i a0.f7)])]) (by kernel_rfl) (.r 27 [] [] f0 (.f f1 (.f f2 (.r 37 [] [] f3 (.f f4 (.f f5 (.r 47 [] [] f6 (.f f7 (.f f8 (.f f9 (.f f10 (.f f11 (.f f12 (.f f13 (.f f14 (.f f15 (.f f16 (.f f17 .nil))))))))))))))))))
/-! loop.example/g00539/impl.in -/
def m45 (a0:Int) (a1:Int) (a2:Int):Bool:=
  if(decide (a0≥a1))=true then(decide (a0≤a2)) else
  false
theorem e45 {a0:Int} {a1:Int} {a2:Int}:Ev F X (.call 45 [(.one (.val (.int .i64 a0))),(.one (.val (.int .i64 a1))),(.one (.val (.int .i64 a2)))] [] [] [(.one (.val (.bool (m45 a0 a1 a2))))]):=by
  unfold m45
  by_cases h0:(decide (a0≥a1))=true
  · try simp only[if_pos h0]
    exact callP_ok (ps:=[]) (os:=[]) (rs:=[(.one (.val (.bool (decide (a0≤a2)))))]) (by kernel_rfl) (.f h0 (.f h0 (.f h0 (.f h0 (.h 10 (.b true) (.h 12 (.b true) (.h 14 (.b true) (.h 17 (.b true) .nil))))))))
  · try simp only[if_neg h0]
    exact callP_ok (ps:=[]) (os:=[]) (rs:=[(.one (.val (.bool false)))]) (by kernel_rfl) (.f (nt h0) (.f (nt h0) (.f (nt h0) (.f (nt h0) (.h 10 (.b false) (.h 12 (.b false) (.h 14 (.b false) (.h 17 (.b false) .nil))))))))
/-! loop.example/g00539/impl.isAmount -/
def m46 (a0:Int):Bool:=
  (m45 a0 0 1000000)
theorem e46 {a0:Int}:Ev F X (.call 46 [(.one (.val (.int .i64 a0)))] [] [] [(.one (.val (.bool (m45 a0 0 1000000))))]):=by
  have f0:Ev F X (.call 45 [(.oi a0),(.oi 0),(.oi 1000000)] [] [] [(.one (.val (.bool (m45 a0 0 1000000))))]):=(e45 (a0:=a0) (a1:=0) (a2:=1000000))
  exact callP_ok (ps:=[]) (os:=[]) (rs:=[(.one (.val (.bool (m45 a0 0 1000000))))]) (by kernel_rfl) (.r 5 [] [] f0 .nil)
/-! loop.example/g00539/impl.sizesOk -/
def m54 (a0:Int) (a1:Int):Bool:=
  if(m45 a0 1 12)=true then(m45 a1 0 1000) else
  false
theorem e54 {a0:Int} {a1:Int}:Ev F X (.call 54 [(.one (.val (.int .i64 a0))),(.one (.val (.int .i64 a1)))] [] [] [(.one (.val (.bool (m54 a0 a1))))]):=by
  unfold m54
  have f0:Ev F X (.call 45 [(.oi a0),(.oi 1),(.oi 12)] [] [] [(.one (.val (.bool (m45 a0 1 12))))]):=(e45 (a0:=a0) (a1:=1) (a2:=12))
  by_cases h0:(m45 a0 1 12)=true
  · try simp only[if_pos h0]
    have f3:Ev F X (.call 45 [(.oi a1),(.oi 0),(.oi 1000)] [] [] [(.one (.val (.bool (m45 a1 0 1000))))]):=(e45 (a0:=a1) (a1:=0) (a2:=1000))
    exact callP_ok (ps:=[]) (os:=[]) (rs:=[(.one (.val (.bool (m45 a1 0 1000))))]) (by kernel_rfl) (.r 5 [] [] f0 (.f h0 (.f h0 (.h 8 (.b true) (.h 10 (.b true) (.r 11 [] [] f3 (.f h0 (.h 13 (.b true) .nil))))))))
  · try simp only[if_neg h0]
    exact callP_ok (ps:=[]) (os:=[]) (rs:=[(.one (.val (.bool false)))]) (by kernel_rfl) (.r 5 [] [] f0 (.f (nt h0) (.f (nt h0) (.f (nt h0) (.h 8 (.b false) (.h 10 (.b false) (.h 13 (.b false) .nil)))))))
/-! strings.Trim -/
theorem e141 {a0 a1:ByteArray} (hy0:ByteArray.size a0≤9223372036854775807) (hy1:ByteArray.size a1 < 4294967281) (hy2:asciiB a1=true):Ev F X (.call 141 [(.one (.val (.string a0))),(.one (.val (.string a1)))] [] [] [(.one (.val (.string (trimB a0 a1))))]):=
  .ext (.inr (⟨rfl,rfl,(⟨a0,a1,hy0,hy1,hy2,rfl,rfl⟩)⟩)) rfl
/-! loop.example/g00539/impl.argOk -/
def m119 (a0:ByteArray):Bool:=
  if(decide ((ByteArray.size a0:Int)≤12))=true then((trimB a0 (⟨#[97,98,99,100,101,102,103,104,105,106,107,108,109,110,111,112,113,114,115,116,117,118,119,120,121,122,65,66,67,68,69,70,71,72,73,74,75,76,77,78,79,80,81,82,83,84,85,86,87,88,89,90,48,49,50,51,52,53,54,55,56,57]⟩:ByteArray)).toList==(⟨#[]⟩:ByteArray).toList) else
  false
theorem e119 {a0:ByteArray}:Ev F X (.call 119 [(.one (.val (.string a0)))] [] [] [(.one (.val (.bool (m119 a0))))]):=by
  unfold m119
  by_cases h0:(decide ((ByteArray.size a0:Int)≤12))=true
  · try simp only[if_pos h0]
    have f2:Ev F X (.call 141 [(.one (.val (.string a0))),(.one (.val (.string (⟨#[97,98,99,100,101,102,103,104,105,106,107,108,109,110,111,112,113,114,115,116,117,118,119,120,121,122,65,66,67,68,69,70,71,72,73,74,75,76,77,78,79,80,81,82,83,84,85,86,87,88,89,90,48,49,50,51,52,53,54,55,56,57]⟩:ByteArray))))] [] [] [(.one (.val (.string (trimB a0 (⟨#[97,98,99,100,101,102,103,104,105,106,107,108,109,110,111,112,113,114,115,116,117,118,119,120,121,122,65,66,67,68,69,70,71,72,73,74,75,76,77,78,79,80,81,82,83,84,85,86,87,88,89,90,48,49,50,51,52,53,54,55,56,57]⟩:ByteArray)))))]):=(e141 (a0:=a0) (a1:=(⟨#[97,98,99,100,101,102,103,104,105,106,107,108,109,110,111,112,113,114,115,116,117,118,119,120,121,122,65,66,67,68,69,70,71,72,73,74,75,76,77,78,79,80,81,82,83,84,85,86,87,88,89,90,48,49,50,51,52,53,54,55,56,57]⟩:ByteArray)) (by simp only[decide_eq_true_eq] at*; omega) (by decide) (by decide))
    exact callP_ok (ps:=[]) (os:=[]) (rs:=[(.one (.val (.bool ((trimB a0 (⟨#[97,98,99,100,101,102,103,104,105,106,107,108,109,110,111,112,113,114,115,116,117,118,119,120,121,122,65,66,67,68,69,70,71,72,73,74,75,76,77,78,79,80,81,82,83,84,85,86,87,88,89,90,48,49,50,51,52,53,54,55,56,57]⟩:ByteArray)).toList==(⟨#[]⟩:ByteArray).toList))))]) (by kernel_rfl) (.f h0 (.f h0 (.h 10 (.b true) (.h 12 (.b true) (.r 13 [] [] f2 (.f h0 (.f h0 (.h 14 (.b true) (.h 17 (.b true) .nil)))))))))
  · try simp only[if_neg h0]
    exact callP_ok (ps:=[]) (os:=[]) (rs:=[(.one (.val (.bool false)))]) (by kernel_rfl) (.f (nt h0) (.f (nt h0) (.f (nt h0) (.f (nt h0) (.h 10 (.b false) (.h 12 (.b false) (.h 14 (.b false) (.h 17 (.b false) .nil))))))))
/-! loop.example/g00539/impl.workerOk -/
def m71 (a0:ByteArray):Bool:=
  if(!(a0.toList==(⟨#[]⟩:ByteArray).toList))=true then(m119 a0) else
  false
theorem e71 {a0:ByteArray}:Ev F X (.call 71 [(.one (.val (.string a0)))] [] [] [(.one (.val (.bool (m71 a0))))]):=by
  unfold m71
  by_cases h0:(!(a0.toList==(⟨#[]⟩:ByteArray).toList))=true
  · try simp only[if_pos h0]
    have f2:Ev F X (.call 119 [(.one (.val (.string a0)))] [] [] [(.one (.val (.bool (m119 a0))))]):=(e119 (a0:=a0))
    exact callP_ok (ps:=[]) (os:=[]) (rs:=[(.one (.val (.bool (m119 a0))))]) (by kernel_rfl) (.f h0 (.f h0 (.h 8 (.b true) (.h 10 (.b true) (.r 11 [] [] f2 (.f h0 (.h 13 (.b true) .nil)))))))
  · try simp only[if_neg h0]
    exact callP_ok (ps:=[]) (os:=[]) (rs:=[(.one (.val (.bool false)))]) (by kernel_rfl) (.f (nt h0) (.f (nt h0) (.f (nt h0) (.h 8 (.b false) (.h 10 (.b false) (.h 13 (.b false) .nil))))))
/-! loop 55_0 -/
inductive O55_0 where
  |k0 (w0:Int) (w1:Bool)
  |k1
  |k2
def r55_0 (a0:(List K_si)):List K_si→Int→O55_0
  |x0::y0,i=>
    if(!(m71 x0.f0))=true then(O55_0.k1) else
    if(!(m45 x0.f1 1 9999))=true then(O55_0.k2) else
      (r55_0 a0 y0 (i+1))
  |[],i=>(O55_0.k0 i (decide (i <((length (map b_si a0)):Int))))
def h55_0 (l0_0:Nat) (a0:(List K_si)) (i:Int) :St:=⟨[(8,(.one (.bor l0_0 (map b_si a0)))),(9,(.one (.val (.int .i64 ((length (map b_si a0)):Int))))),(10,(.one (.val (.int .i64 i))))],[]⟩
def ex55_0:O55_0→VX.Exit
  |.k0 _ _=>(.exit 0)
  |.k1=>.ret
  |.k2=>.ret
def fin55_0 (l0_0:Nat) (a0:(List K_si)):O55_0→St
  |.k0 w0 w1=>⟨[(8,(.one (.bor l0_0 (map b_si a0)))),(9,(.one (.val (.int .i64 ((length (map b_si a0)):Int))))),(10,(.one (.val (.int .i64 w0)))),(11,(.one (.val (.bool w1))))],[]⟩
  |.k1=>⟨[(2,(.one (.val (.int .i64 5))))],[]⟩
  |.k2=>⟨[(2,(.one (.val (.int .i64 3))))],[]⟩
theorem t55_0 {l0_0:Nat} {a0:(List K_si)} (hy0:length a0*24≤140737488351232):∀(y0:List K_si) (p:List K_si),p++y0=a0→Ev F X (.code l55_0 (h55_0 l0_0 a0 (length p:Int)) (ex55_0 (r55_0 a0 y0 (length p:Int))) (fin55_0 l0_0 a0 (r55_0 a0 y0 (length p:Int))))
  |[],p,hp0=>by
    have hc:¬(decide ((length p:Int) <((length (map b_si a0)):Int)))=true:=by
      rw[← hp0]; simp only[length_map,length_set,length_append,length_replicate,length_cons,length_nil,decide_eq_true_eq]; omega
    have st:=codeH_ok (F:=F) (X:=X) (c:=b55_0) (t:=0) (hs:=[(2,.b false)]) (σ:=h55_0 l0_0 a0 (length p:Int)) (σ':=fin55_0 l0_0 a0 (.k0 (length p:Int) (decide ((length p:Int) <((length (map b_si a0)):Int))))) (e:=(.exit 0)) (t':=3) (hs':=[]) (q:=[(decide ((length p:Int) <((length (map b_si a0)):Int)))=false]) (by kernel_rfl) ⟨(nt hc),trivial⟩
    exact .loopX st (show ((.exit 0):VX.Exit)≠.normal from by simp)
  |x0::y0,p,hp0=>by
    have hc:(decide ((length p:Int) <((length (map b_si a0)):Int)))=true:=by
      rw[← hp0]; simp only[length_map,length_set,length_append,length_replicate,length_cons,length_nil,decide_eq_true_eq]; omega
    have Hx0:(a0)[Int.toNat (length p:Int)]?=some x0:=by
      rw[← hp0,Int.toNat_natCast]; simp
    have hlen:length (a0)=length p+length y0+1:=by rw[← hp0]; simp; omega
    have hw:IntKind.wrap .i64 ((length p:Int)+1)=(length p:Int)+1:=wrap64 (by omega)
    simp only[r55_0]
    by_cases h_1:(!(m71 x0.f0))=true
    · try simp only[if_pos h_1]
      have st:=codeH_ok (F:=F) (X:=X) (c:=b55_0) (t:=0) (hs:=[(2,.b true),(4,.row [(.val (.string x0.f0)),(.i x0.f1)]),(16,.ret [] [(.one (.val (.bool (m71 x0.f0))))] [] []),(21,.b true)]) (σ:=h55_0 l0_0 a0 (length p:Int)) (σ':=fin55_0 l0_0 a0 (.k1)) (e:=.ret) (t':=24) (hs':=[]) (q:=[(decide ((length p:Int) <((length (map b_si a0)):Int)))=true,0≤(length p:Int),(map b_si a0)[(Int.toNat (length p:Int))]?=some [(.val (.string x0.f0)),(.i x0.f1)],Ev F X (.call 71 [(.one (.val (.string x0.f0)))] [] [] [(.one (.val (.bool (m71 x0.f0))))]),(!(m71 x0.f0))=true]) (by kernel_rfl) ⟨hc,(by omega),(by rw[getElem?_map,Hx0]; rfl),(e71 (a0:=x0.f0)),h_1,trivial⟩
      exact .loopX st (show (.ret:VX.Exit)≠.normal from by simp)
    · try simp only[if_neg h_1]
      by_cases h_2:(!(m45 x0.f1 1 9999))=true
      · try simp only[if_pos h_2]
        have st:=codeH_ok (F:=F) (X:=X) (c:=b55_0) (t:=0) (hs:=[(2,.b true),(4,.row [(.val (.string x0.f0)),(.i x0.f1)]),(16,.ret [] [(.one (.val (.bool (m71 x0.f0))))] [] []),(21,.b false),(27,.ret [] [(.one (.val (.bool (m45 x0.f1 1 9999))))] [] []),(32,.b true)]) (σ:=h55_0 l0_0 a0 (length p:Int)) (σ':=fin55_0 l0_0 a0 (.k2)) (e:=.ret) (t':=35) (hs':=[]) (q:=[(decide ((length p:Int) <((length (map b_si a0)):Int)))=true,0≤(length p:Int),(map b_si a0)[(Int.toNat (length p:Int))]?=some [(.val (.string x0.f0)),(.i x0.f1)],Ev F X (.call 71 [(.one (.val (.string x0.f0)))] [] [] [(.one (.val (.bool (m71 x0.f0))))]),(!(m71 x0.f0))=false,Ev F X (.call 45 [(.oi x0.f1),(.oi 1),(.oi 9999)] [] [] [(.one (.val (.bool (m45 x0.f1 1 9999))))]),(!(m45 x0.f1 1 9999))=true]) (by kernel_rfl) ⟨hc,(by omega),(by rw[getElem?_map,Hx0]; rfl),(e71 (a0:=x0.f0)),(nt h_1),(e45 (a0:=x0.f1) (a1:=1) (a2:=9999)),h_2,trivial⟩
        exact .loopX st (show (.ret:VX.Exit)≠.normal from by simp)
      · try simp only[if_neg h_2]
        have st:=codeH_ok (F:=F) (X:=X) (c:=b55_0) (t:=0) (hs:=[(2,.b true),(4,.row [(.val (.string x0.f0)),(.i x0.f1)]),(16,.ret [] [(.one (.val (.bool (m71 x0.f0))))] [] []),(21,.b false),(27,.ret [] [(.one (.val (.bool (m45 x0.f1 1 9999))))] [] []),(32,.b false)]) (σ:=h55_0 l0_0 a0 (length p:Int)) (σ':=⟨[(8,(.one (.bor l0_0 (map b_si a0)))),(9,(.oi ((length (map b_si a0)):Int))),(10,(.oi (IntKind.wrap .i64 ((length p:Int)+1))))],[]⟩) (e:=.normal) (t':=37) (hs':=[]) (q:=[(decide ((length p:Int) <((length (map b_si a0)):Int)))=true,0≤(length p:Int),(map b_si a0)[(Int.toNat (length p:Int))]?=some [(.val (.string x0.f0)),(.i x0.f1)],Ev F X (.call 71 [(.one (.val (.string x0.f0)))] [] [] [(.one (.val (.bool (m71 x0.f0))))]),(!(m71 x0.f0))=false,Ev F X (.call 45 [(.oi x0.f1),(.oi 1),(.oi 9999)] [] [] [(.one (.val (.bool (m45 x0.f1 1 9999))))]),(!(m45 x0.f1 1 9999))=false,True]) (by kernel_rfl) ⟨hc,(by omega),(by rw[getElem?_map,Hx0]; rfl),(e71 (a0:=x0.f0)),(nt h_1),(e45 (a0:=x0.f1) (a1:=1) (a2:=9999)),(nt h_2),trivial,trivial⟩
        have ih:=t55_0 (l0_0:=l0_0) (a0:=a0) hy0 y0 (p++ [x0]) (by rw[append_assoc]; exact hp0)
        rw[show ((p++ [x0]).length:Int)=(p.length:Int)+1 from by simp] at ih
        rw[show (⟨[(8,(.one (.bor l0_0 (map b_si a0)))),(9,(.oi ((length (map b_si a0)):Int))),(10,(.oi (IntKind.wrap .i64 ((length p:Int)+1))))],[]⟩:St)=h55_0 l0_0 a0 ((length p:Int)+1)  from(by unfold h55_0; simp only[hw]; done)] at st
        exact .loopN st ih
/-! loop.example/g00539/impl.WindowFault -/
def m55 (a0:(List K_si)):Int:=
  if(decide (((length (map b_si a0)):Int) > 12))=true then 2 else
  (match r55_0 a0 a0 0 with | .k0 w0_1 w1_1=>0 | .k1=>5 | .k2=>3)
theorem e55 {l0_0:Nat} {a0:(List K_si)} (hy0:length a0*24≤140737488351232):Ev F X (.call 55 [(.one (.bor l0_0 (map b_si a0)))] [] [] [(.one (.val (.int .i64 (m55 a0))))]):=by
  unfold m55
  by_cases h0:(decide (((length (map b_si a0)):Int) > 12))=true
  · try simp only[if_pos h0]
    exact callP_ok (ps:=[]) (os:=[]) (rs:=[(.oi 2)]) (by kernel_rfl) (.f h0 (.h 8 (.b true) .nil))
  · try simp only[if_neg h0]
    cases h1:r55_0 a0 a0 0 with
    |k0 w0_1 w1_1=>
      try dsimp only
      have f1:(⟨[(8,(.one (.bor l0_0 (map b_si a0)))),(9,(.oi ((length (map b_si a0)):Int))),(10,(.oi 0))],[]⟩:St)=h55_0 l0_0 a0 0 :=(by rfl)
      have f2:Ev F X (.code l55_0 (h55_0 l0_0 a0 0) (.exit 0) ⟨[(8,(.one (.bor l0_0 (map b_si a0)))),(9,(.oi ((length (map b_si a0)):Int))),(10,(.oi w0_1)),(11,(.one (.val (.bool w1_1))))],[]⟩):=(by have t:Ev F X (.code l55_0 (h55_0 l0_0 a0 0) (ex55_0 (r55_0 a0 a0 0)) (fin55_0 l0_0 a0 (r55_0 a0 a0 0))):=t55_0 (l0_0:=l0_0) (a0:=a0) (by assumption) a0 []  rfl; rw[h1] at t; exact t)
      exact callP_ok (ps:=[]) (os:=[]) (rs:=[(.oi 0)]) (by kernel_rfl) (.f (nt h0) (.f f1 (.f f2 (.h 8 (.b false) (.h 15 (.loop (h55_0 l0_0 a0 0) (.exit 0) ⟨[(8,(.one (.bor l0_0 (map b_si a0)))),(9,(.oi ((length (map b_si a0)):Int))),(10,(.oi w0_1)),(11,(.one (.val (.bool w1_1))))],[]⟩) .nil)))))
    |k1=>
      try dsimp only
      have f1:(⟨[(8,(.one (.bor l0_0 (map b_si a0)))),(9,(.oi ((length (map b_si a0)):Int))),(10,(.oi 0))],[]⟩:St)=h55_0 l0_0 a0 0 :=(by rfl)
      have f2:Ev F X (.code l55_0 (h55_0 l0_0 a0 0) .ret ⟨[(2,(.oi 5))],[]⟩):=(by have t:Ev F X (.code l55_0 (h55_0 l0_0 a0 0) (ex55_0 (r55_0 a0 a0 0)) (fin55_0 l0_0 a0 (r55_0 a0 a0 0))):=t55_0 (l0_0:=l0_0) (a0:=a0) (by assumption) a0 []  rfl; rw[h1] at t; exact t)
      exact callP_ok (ps:=[]) (os:=[]) (rs:=[(.oi 5)]) (by kernel_rfl) (.f (nt h0) (.f f1 (.f f2 (.h 8 (.b false) (.h 15 (.loop (h55_0 l0_0 a0 0) .ret ⟨[(2,(.oi 5))],[]⟩) .nil)))))
    |k2=>
      try dsimp only
      have f1:(⟨[(8,(.one (.bor l0_0 (map b_si a0)))),(9,(.oi ((length (map b_si a0)):Int))),(10,(.oi 0))],[]⟩:St)=h55_0 l0_0 a0 0 :=(by rfl)
      have f2:Ev F X (.code l55_0 (h55_0 l0_0 a0 0) .ret ⟨[(2,(.oi 3))],[]⟩):=(by have t:Ev F X (.code l55_0 (h55_0 l0_0 a0 0) (ex55_0 (r55_0 a0 a0 0)) (fin55_0 l0_0 a0 (r55_0 a0 a0 0))):=t55_0 (l0_0:=l0_0) (a0:=a0) (by assumption) a0 []  rfl; rw[h1] at t; exact t)
      exact callP_ok (ps:=[]) (os:=[]) (rs:=[(.oi 3)]) (by kernel_rfl) (.f (nt h0) (.f f1 (.f f2 (.h 8 (.b false) (.h 15 (.loop (h55_0 l0_0 a0 0) .ret ⟨[(2,(.oi 3))],[]⟩) .nil)))))
theorem len12_55 (a:List K_si) (h:¬((m55 a) !=0)=true):length a≤12:=by
  unfold m55 at h
  split at h
  · simp at h
  · rename_i h2
    simp only[decide_eq_true_eq,length_map] at h2
    omega
/-! loop.example/g00539/impl.weightAt$1 -/
def m1009300 (a0:K_si) (a101001:ByteArray):Bool:=
  (a0.f0.toList==a101001.toList)
theorem e1009300 {a0:K_si} {l101000:Nat} {a101001:ByteArray}:Ev F X (.call 93 [(.agg [(.val (.string a0.f0)),(.val (.int .i64 a0.f1))]),(.bptr l101000 [(.val (.string a101001))])] [] [] [(.one (.val (.bool (a0.f0.toList==a101001.toList))))]):=by
  exact callP_ok (ps:=[]) (os:=[]) (rs:=[(.one (.val (.bool (a0.f0.toList==a101001.toList))))]) (by kernel_rfl) .nil
/-! loop 1009200_0 -/
inductive O1009200_0 where
  |k0 (w0:Int) (w1:Bool)
  |k1 (w0:Int)
def r1009200_0 (a0:(List K_si)) (a2001:ByteArray):List K_si→Int→O1009200_0
  |x0::y0,i=>
    if(x0.f0.toList==a2001.toList)=true then(O1009200_0.k1 i) else
    (r1009200_0 a0 a2001 y0 (i+1))
  |[],i=>(O1009200_0.k0 i (decide (i <((length (map b_si a0)):Int))))
def h1009200_0 (l0_0:Nat) (l2000:Nat) (a0:(List K_si)) (a2001:ByteArray) (i:Int) :St:=⟨[(0,(.one (.bor l0_0 (map b_si a0)))),(1,(.clo 93 [] [(.bptr l2000 [(.val (.string a2001))])])),(7,(.one (.val (.int .i64 ((length (map b_si a0)):Int))))),(8,(.one (.val (.int .i64 i))))],[]⟩
def ex1009200_0:O1009200_0→VX.Exit
  |.k0 _ _=>(.exit 0)
  |.k1 _=>.ret
def fin1009200_0 (l0_0:Nat) (l2000:Nat) (a0:(List K_si)) (a2001:ByteArray):O1009200_0→St
  |.k0 w0 w1=>⟨[(0,(.one (.bor l0_0 (map b_si a0)))),(1,(.clo 93 [] [(.bptr l2000 [(.val (.string a2001))])])),(7,(.one (.val (.int .i64 ((length (map b_si a0)):Int))))),(8,(.one (.val (.int .i64 w0)))),(9,(.one (.val (.bool w1))))],[]⟩
  |.k1 w0=>⟨[(4,(.one (.val (.int .i64 w0))))],[]⟩
theorem t1009200_0 {l0_0:Nat} {l2000:Nat} {a0:(List K_si)} {a2001:ByteArray} (hy0:length a0*24≤140737488351232):∀(y0:List K_si) (p:List K_si),p++y0=a0→Ev F X (.code l92_0 (h1009200_0 l0_0 l2000 a0 a2001 (length p:Int)) (ex1009200_0 (r1009200_0 a0 a2001 y0 (length p:Int))) (fin1009200_0 l0_0 l2000 a0 a2001 (r1009200_0 a0 a2001 y0 (length p:Int))))
  |[],p,hp0=>by
    have hc:¬(decide ((length p:Int) <((length (map b_si a0)):Int)))=true:=by
      rw[← hp0]; simp only[length_map,length_set,length_append,length_replicate,length_cons,length_nil,decide_eq_true_eq]; omega
    have st:=codeH_ok (F:=F) (X:=X) (c:=b92_0) (t:=0) (hs:=[(2,.b false)]) (σ:=h1009200_0 l0_0 l2000 a0 a2001 (length p:Int)) (σ':=fin1009200_0 l0_0 l2000 a0 a2001 (.k0 (length p:Int) (decide ((length p:Int) <((length (map b_si a0)):Int))))) (e:=(.exit 0)) (t':=3) (hs':=[]) (q:=[(decide ((length p:Int) <((length (map b_si a0)):Int)))=false]) (by kernel_rfl) ⟨(nt hc),trivial⟩
    exact .loopX st (show ((.exit 0):VX.Exit)≠.normal from by simp)
  |x0::y0,p,hp0=>by
    have hc:(decide ((length p:Int) <((length (map b_si a0)):Int)))=true:=by
      rw[← hp0]; simp only[length_map,length_set,length_append,length_replicate,length_cons,length_nil,decide_eq_true_eq]; omega
    have Hx0:(a0)[Int.toNat (length p:Int)]?=some x0:=by
      rw[← hp0,Int.toNat_natCast]; simp
    have hlen:length (a0)=length p+length y0+1:=by rw[← hp0]; simp; omega
    have hw:IntKind.wrap .i64 ((length p:Int)+1)=(length p:Int)+1:=wrap64 (by omega)
    simp only[r1009200_0]
    by_cases h_1:(x0.f0.toList==a2001.toList)=true
    · try simp only[if_pos h_1]
      have st:=codeH_ok (F:=F) (X:=X) (c:=b92_0) (t:=0) (hs:=[(2,.b true),(14,.row [(.val (.string x0.f0)),(.i x0.f1)]),(18,.ret [] [(.one (.val (.bool (x0.f0.toList==a2001.toList))))] [] []),(19,.b true)]) (σ:=h1009200_0 l0_0 l2000 a0 a2001 (length p:Int)) (σ':=fin1009200_0 l0_0 l2000 a0 a2001 (.k1 (length p:Int))) (e:=.ret) (t':=24) (hs':=[]) (q:=[(decide ((length p:Int) <((length (map b_si a0)):Int)))=true,0≤(length p:Int),(map b_si a0)[(Int.toNat (length p:Int))]?=some [(.val (.string x0.f0)),(.i x0.f1)],Ev F X (.call 93 [(.agg [(.val (.string x0.f0)),(.i x0.f1)]),(.bptr (l2000+1) [(.val (.string a2001))])] [] [] [(.one (.val (.bool (x0.f0.toList==a2001.toList))))]),(x0.f0.toList==a2001.toList)=true]) (by kernel_rfl) ⟨hc,(by omega),(by rw[getElem?_map,Hx0]; rfl),(e1009300 (a0:=x0) (a101001:=a2001)),h_1,trivial⟩
      exact .loopX st (show (.ret:VX.Exit)≠.normal from by simp)
    · try simp only[if_neg h_1]
      have st:=codeH_ok (F:=F) (X:=X) (c:=b92_0) (t:=0) (hs:=[(2,.b true),(14,.row [(.val (.string x0.f0)),(.i x0.f1)]),(18,.ret [] [(.one (.val (.bool (x0.f0.toList==a2001.toList))))] [] []),(19,.b false)]) (σ:=h1009200_0 l0_0 l2000 a0 a2001 (length p:Int)) (σ':=⟨[(0,(.one (.bor l0_0 (map b_si a0)))),(1,(.clo 93 [] [(.bptr l2000 [(.val (.string a2001))])])),(7,(.oi ((length (map b_si a0)):Int))),(8,(.oi (IntKind.wrap .i64 ((length p:Int)+1))))],[]⟩) (e:=.normal) (t':=24) (hs':=[]) (q:=[(decide ((length p:Int) <((length (map b_si a0)):Int)))=true,0≤(length p:Int),(map b_si a0)[(Int.toNat (length p:Int))]?=some [(.val (.string x0.f0)),(.i x0.f1)],Ev F X (.call 93 [(.agg [(.val (.string x0.f0)),(.i x0.f1)]),(.bptr (l2000+1) [(.val (.string a2001))])] [] [] [(.one (.val (.bool (x0.f0.toList==a2001.toList))))]),(x0.f0.toList==a2001.toList)=false,True]) (by kernel_rfl) ⟨hc,(by omega),(by rw[getElem?_map,Hx0]; rfl),(e1009300 (a0:=x0) (a101001:=a2001)),(nt h_1),trivial,trivial⟩
      have ih:=t1009200_0 (l0_0:=l0_0) (l2000:=l2000) (a0:=a0) (a2001:=a2001) hy0 y0 (p++ [x0]) (by rw[append_assoc]; exact hp0)
      rw[show ((p++ [x0]).length:Int)=(p.length:Int)+1 from by simp] at ih
      rw[show (⟨[(0,(.one (.bor l0_0 (map b_si a0)))),(1,(.clo 93 [] [(.bptr l2000 [(.val (.string a2001))])])),(7,(.oi ((length (map b_si a0)):Int))),(8,(.oi (IntKind.wrap .i64 ((length p:Int)+1))))],[]⟩:St)=h1009200_0 l0_0 l2000 a0 a2001 ((length p:Int)+1)  from(by unfold h1009200_0; simp only[hw]; done)] at st
      exact .loopN st ih
/-! slices.IndexFunc[[]loop.example/g00539/impl.Weight,loop.example/g00539/impl.Weight] -/
def m1009200 (a0:(List K_si)) (a2001:ByteArray):Int:=
  (match r1009200_0 a0 a2001 a0 0 with | .k0 w0_0 w1_0=>(-1) | .k1 w0_0=>w0_0)
theorem e1009200 {l0_0:Nat} {a0:(List K_si)} {l2000:Nat} {a2001:ByteArray} (hy0:length a0*24≤140737488351232):Ev F X (.call 92 [(.one (.bor l0_0 (map b_si a0))),(.clo 93 [] [(.bptr l2000 [(.val (.string a2001))])])] [] [] [(.one (.val (.int .i64 (m1009200 a0 a2001))))]):=by
  unfold m1009200
  cases h0:r1009200_0 a0 a2001 a0 0 with
  |k0 w0_0 w1_0=>
    try dsimp only
    have f0:(⟨[(0,(.one (.bor l0_0 (map b_si a0)))),(1,(.clo 93 [] [(.bptr l2000 [(.val (.string a2001))])])),(7,(.oi ((length (map b_si a0)):Int))),(8,(.oi 0))],[]⟩:St)=h1009200_0 l0_0 l2000 a0 a2001 0 :=(by rfl)
    have f1:Ev F X (.code l92_0 (h1009200_0 l0_0 l2000 a0 a2001 0) (.exit 0) ⟨[(0,(.one (.bor l0_0 (map b_si a0)))),(1,(.clo 93 [] [(.bptr l2000 [(.val (.string a2001))])])),(7,(.oi ((length (map b_si a0)):Int))),(8,(.oi w0_0)),(9,(.one (.val (.bool w1_0))))],[]⟩):=(by have t:Ev F X (.code l92_0 (h1009200_0 l0_0 l2000 a0 a2001 0) (ex1009200_0 (r1009200_0 a0 a2001 a0 0)) (fin1009200_0 l0_0 l2000 a0 a2001 (r1009200_0 a0 a2001 a0 0))):=t1009200_0 (l0_0:=l0_0) (l2000:=l2000) (a0:=a0) (a2001:=a2001) (by assumption) a0 []  rfl; rw[h0] at t; exact t)
    exact callP_ok (ps:=[]) (os:=[]) (rs:=[(.oi (-1))]) (by kernel_rfl) (.f f0 (.f f1 (.h 8 (.loop (h1009200_0 l0_0 l2000 a0 a2001 0) (.exit 0) ⟨[(0,(.one (.bor l0_0 (map b_si a0)))),(1,(.clo 93 [] [(.bptr l2000 [(.val (.string a2001))])])),(7,(.oi ((length (map b_si a0)):Int))),(8,(.oi w0_0)),(9,(.one (.val (.bool w1_0))))],[]⟩) .nil)))
  |k1 w0_0=>
    try dsimp only
    have f0:(⟨[(0,(.one (.bor l0_0 (map b_si a0)))),(1,(.clo 93 [] [(.bptr l2000 [(.val (.string a2001))])])),(7,(.oi ((length (map b_si a0)):Int))),(8,(.oi 0))],[]⟩:St)=h1009200_0 l0_0 l2000 a0 a2001 0 :=(by rfl)
    have f1:Ev F X (.code l92_0 (h1009200_0 l0_0 l2000 a0 a2001 0) .ret ⟨[(4,(.oi w0_0))],[]⟩):=(by have t:Ev F X (.code l92_0 (h1009200_0 l0_0 l2000 a0 a2001 0) (ex1009200_0 (r1009200_0 a0 a2001 a0 0)) (fin1009200_0 l0_0 l2000 a0 a2001 (r1009200_0 a0 a2001 a0 0))):=t1009200_0 (l0_0:=l0_0) (l2000:=l2000) (a0:=a0) (a2001:=a2001) (by assumption) a0 []  rfl; rw[h0] at t; exact t)
    exact callP_ok (ps:=[]) (os:=[]) (rs:=[(.oi w0_0)]) (by kernel_rfl) (.f f0 (.f f1 (.h 8 (.loop (h1009200_0 l0_0 l2000 a0 a2001 0) .ret ⟨[(4,(.oi w0_0))],[]⟩) .nil)))
theorem ixr1009200_0 (a0:(List K_si)) (a2001:ByteArray):∀(l:List K_si) (i:Int),(∃(w0:_) (w1:_),r1009200_0 a0 a2001 l i=.k0 w0 w1)∨(∃w,r1009200_0 a0 a2001 l i=.k1 w∧i≤w∧w < i+l.length)
  |[],i=>.inl ⟨i,(decide (i <((length (map b_si a0)):Int))),rfl⟩
  |x::l,i=>by
    have ih:=ixr1009200_0 a0 a2001 l (i+1)
    simp only[r1009200_0]
    (repeat' split)
    all_goals first
      |exact .inr ⟨i,rfl,by omega,by simp only[length_cons]; omega⟩
      | (rcases ih with ⟨w0, w1, h⟩ | ⟨w, h, h1, h2⟩
         · exact .inl ⟨w0,w1,h⟩
         · exact .inr ⟨w,h,by omega,by simp only[length_cons]; omega⟩)
theorem ix1009200 (a0:(List K_si)) (a2001:ByteArray): -1≤m1009200 a0 a2001∧m1009200 a0 a2001 <(length a0:Int):=by
  unfold m1009200
  rcases ixr1009200_0 a0 a2001 a0 0 with⟨w0,w1,h⟩ |⟨w,h,h1,h2⟩<;>simp only[h]<;>omega
/-! loop.example/g00539/impl.weightAt -/
def m47 (a0:(List K_si)) (a1:ByteArray):Int:=
  (m1009200 a0 a1)
theorem e47 {l0_0:Nat} {a0:(List K_si)} {a1:ByteArray} (hy0:length a0*24≤140737488351232):Ev F X (.call 47 [(.one (.bor l0_0 (map b_si a0))),(.one (.val (.string a1)))] [] [] [(.one (.val (.int .i64 (m1009200 a0 a1))))]):=by
  have f0:fullL [(.val (.string a1))]=true:=(by trivial)
  have f1:Ev F X (.call 92 [(.one (.bor (l0_0+1) (map b_si a0))),(.clo 93 [] [(.bptr 0 [(.val (.string a1))])])] [] [] [(.oi (m1009200 a0 a1))]):=(e1009200 (a0:=a0) (a2001:=a1) (by with_reducible assumption))
  exact callP_ok (ps:=[]) (os:=[]) (rs:=[(.oi (m1009200 a0 a1))]) (by kernel_rfl) (.f f0 (.r 9 [] [] f1 .nil))
/-! loop 57_0 -/
inductive O57_0 where
  |k0 (w0:Int) (w1:Bool)
  |k1
def r57_0 (a0:(List K_si)):List K_si→Int→O57_0
  |x0::y0,i=>
    if(!(m71 x0.f0))=true then(O57_0.k1) else
    if(!(m45 x0.f1 0 1000000))=true then(O57_0.k1) else
      if(decide ((m1009200 (take (Int.toNat i) a0) x0.f0)≥0))=true then(O57_0.k1) else
        (r57_0 a0 y0 (i+1))
  |[],i=>(O57_0.k0 i (decide (i <((length (map b_si a0)):Int))))
def h57_0 (l0_0:Nat) (a0:(List K_si)) (a1:Int) (i:Int) :St:=⟨[(0,(.one (.bor l0_0 (map b_si a0)))),(1,(.one (.val (.int .i64 a1)))),(7,(.one (.bor l0_0 (map b_si a0)))),(8,(.one (.val (.int .i64 ((length (map b_si a0)):Int))))),(9,(.one (.val (.int .i64 i))))],[]⟩
def ex57_0:O57_0→VX.Exit
  |.k0 _ _=>(.exit 0)
  |.k1=>.ret
def fin57_0 (l0_0:Nat) (a0:(List K_si)) (a1:Int):O57_0→St
  |.k0 w0 w1=>⟨[(0,(.one (.bor l0_0 (map b_si a0)))),(1,(.one (.val (.int .i64 a1)))),(7,(.one (.bor l0_0 (map b_si a0)))),(8,(.one (.val (.int .i64 ((length (map b_si a0)):Int))))),(9,(.one (.val (.int .i64 w0)))),(10,(.one (.val (.bool w1))))],[]⟩
  |.k1=>⟨[(4,(.one (.val (.bool false))))],[]⟩
theorem t57_0 {l0_0:Nat} {a0:(List K_si)} {a1:Int} (hy0:length a0*24≤140737488351232):∀(y0:List K_si) (p:List K_si),p++y0=a0→Ev F X (.code l57_0 (h57_0 l0_0 a0 a1 (length p:Int)) (ex57_0 (r57_0 a0 y0 (length p:Int))) (fin57_0 l0_0 a0 a1 (r57_0 a0 y0 (length p:Int))))
  |[],p,hp0=>by
    have hc:¬(decide ((length p:Int) <((length (map b_si a0)):Int)))=true:=by
      rw[← hp0]; simp only[length_map,length_set,length_append,length_replicate,length_cons,length_nil,decide_eq_true_eq]; omega
    have st:=codeH_ok (F:=F) (X:=X) (c:=b57_0) (t:=0) (hs:=[(2,.b false)]) (σ:=h57_0 l0_0 a0 a1 (length p:Int)) (σ':=fin57_0 l0_0 a0 a1 (.k0 (length p:Int) (decide ((length p:Int) <((length (map b_si a0)):Int))))) (e:=(.exit 0)) (t':=3) (hs':=[]) (q:=[(decide ((length p:Int) <((length (map b_si a0)):Int)))=false]) (by kernel_rfl) ⟨(nt hc),trivial⟩
    exact .loopX st (show ((.exit 0):VX.Exit)≠.normal from by simp)
  |x0::y0,p,hp0=>by
    have hc:(decide ((length p:Int) <((length (map b_si a0)):Int)))=true:=by
      rw[← hp0]; simp only[length_map,length_set,length_append,length_replicate,length_cons,length_nil,decide_eq_true_eq]; omega
    have Hx0:(a0)[Int.toNat (length p:Int)]?=some x0:=by
      rw[← hp0,Int.toNat_natCast]; simp
    have hlen:length (a0)=length p+length y0+1:=by rw[← hp0]; simp; omega
    have hw:IntKind.wrap .i64 ((length p:Int)+1)=(length p:Int)+1:=wrap64 (by omega)
    simp only[r57_0]
    by_cases h_1:(!(m71 x0.f0))=true
    · try simp only[if_pos h_1]
      have st:=codeH_ok (F:=F) (X:=X) (c:=b57_0) (t:=0) (hs:=[(2,.b true),(6,.row [(.val (.string x0.f0)),(.i x0.f1)]),(20,.ret [] [(.one (.val (.bool (m71 x0.f0))))] [] []),(25,.b true),(27,.b true),(29,.b true),(31,.b true),(34,.b true)]) (σ:=h57_0 l0_0 a0 a1 (length p:Int)) (σ':=fin57_0 l0_0 a0 a1 (.k1)) (e:=.ret) (t':=56) (hs':=[]) (q:=[(decide ((length p:Int) <((length (map b_si a0)):Int)))=true,0≤(length p:Int),(map b_si a0)[(Int.toNat (length p:Int))]?=some [(.val (.string x0.f0)),(.i x0.f1)],Ev F X (.call 71 [(.one (.val (.string x0.f0)))] [] [] [(.one (.val (.bool (m71 x0.f0))))]),(!(m71 x0.f0))=true,(!(m71 x0.f0))=true,(!(m71 x0.f0))=true,(!(m71 x0.f0))=true,(!(m71 x0.f0))=true]) (by kernel_rfl) ⟨hc,(by omega),(by rw[getElem?_map,Hx0]; rfl),(e71 (a0:=x0.f0)),h_1,h_1,h_1,h_1,h_1,trivial⟩
      exact .loopX st (show (.ret:VX.Exit)≠.normal from by simp)
    · try simp only[if_neg h_1]
      by_cases h_2:(!(m45 x0.f1 0 1000000))=true
      · try simp only[if_pos h_2]
        have st:=codeH_ok (F:=F) (X:=X) (c:=b57_0) (t:=0) (hs:=[(2,.b true),(6,.row [(.val (.string x0.f0)),(.i x0.f1)]),(20,.ret [] [(.one (.val (.bool (m71 x0.f0))))] [] []),(25,.b false),(27,.b false),(29,.b false),(30,.ret [] [(.one (.val (.bool (m45 x0.f1 0 1000000))))] [] []),(31,.b false),(34,.b false),(37,.b true),(39,.b true),(41,.b true),(43,.b true),(45,.b true),(47,.b true),(49,.b true),(52,.b true)]) (σ:=h57_0 l0_0 a0 a1 (length p:Int)) (σ':=fin57_0 l0_0 a0 a1 (.k1)) (e:=.ret) (t':=56) (hs':=[]) (q:=[(decide ((length p:Int) <((length (map b_si a0)):Int)))=true,0≤(length p:Int),(map b_si a0)[(Int.toNat (length p:Int))]?=some [(.val (.string x0.f0)),(.i x0.f1)],Ev F X (.call 71 [(.one (.val (.string x0.f0)))] [] [] [(.one (.val (.bool (m71 x0.f0))))]),(!(m71 x0.f0))=false,(!(m71 x0.f0))=false,(!(m71 x0.f0))=false,Ev F X (.call 46 [(.oi x0.f1)] [] [] [(.one (.val (.bool (m45 x0.f1 0 1000000))))]),(!(m71 x0.f0))=false,(!(m71 x0.f0))=false,(!(m45 x0.f1 0 1000000))=true,(!(m45 x0.f1 0 1000000))=true,(!(m45 x0.f1 0 1000000))=true,(!(m45 x0.f1 0 1000000))=true,(!(m45 x0.f1 0 1000000))=true,(!(m45 x0.f1 0 1000000))=true,(!(m45 x0.f1 0 1000000))=true,(!(m45 x0.f1 0 1000000))=true]) (by kernel_rfl) ⟨hc,(by omega),(by rw[getElem?_map,Hx0]; rfl),(e71 (a0:=x0.f0)),(nt h_1),(nt h_1),(nt h_1),(e46 (a0:=x0.f1)),(nt h_1),(nt h_1),h_2,h_2,h_2,h_2,h_2,h_2,h_2,h_2,trivial⟩
        exact .loopX st (show (.ret:VX.Exit)≠.normal from by simp)
      · try simp only[if_neg h_2]
        by_cases h_3:(decide ((m1009200 (take (Int.toNat (length p:Int)) a0) x0.f0)≥0))=true
        · try simp only[if_pos h_3]
          have st:=codeH_ok (F:=F) (X:=X) (c:=b57_0) (t:=0) (hs:=[(2,.b true),(6,.row [(.val (.string x0.f0)),(.i x0.f1)]),(20,.ret [] [(.one (.val (.bool (m71 x0.f0))))] [] []),(25,.b false),(27,.b false),(29,.b false),(30,.ret [] [(.one (.val (.bool (m45 x0.f1 0 1000000))))] [] []),(31,.b false),(34,.b false),(37,.b false),(39,.b false),(41,.b false),(43,.b false),(45,.b false),(47,.b false),(48,.ret [] [(.oi (m1009200 (take (Int.toNat (length p:Int)) a0) x0.f0))] [] []),(49,.b false),(52,.b false),(53,.b true)]) (σ:=h57_0 l0_0 a0 a1 (length p:Int)) (σ':=fin57_0 l0_0 a0 a1 (.k1)) (e:=.ret) (t':=56) (hs':=[]) (q:=[(decide ((length p:Int) <((length (map b_si a0)):Int)))=true,0≤(length p:Int),(map b_si a0)[(Int.toNat (length p:Int))]?=some [(.val (.string x0.f0)),(.i x0.f1)],Ev F X (.call 71 [(.one (.val (.string x0.f0)))] [] [] [(.one (.val (.bool (m71 x0.f0))))]),(!(m71 x0.f0))=false,(!(m71 x0.f0))=false,(!(m71 x0.f0))=false,Ev F X (.call 46 [(.oi x0.f1)] [] [] [(.one (.val (.bool (m45 x0.f1 0 1000000))))]),(!(m71 x0.f0))=false,(!(m71 x0.f0))=false,(!(m45 x0.f1 0 1000000))=false,(!(m45 x0.f1 0 1000000))=false,(!(m45 x0.f1 0 1000000))=false,(0≤(0:Int)∧(0:Int)≤(length p:Int)∧(length p:Int)≤((length (map b_si a0)):Int))∧∀r∈((map b_si a0):List (List B)),r.length=2,(!(m45 x0.f1 0 1000000))=false,(!(m45 x0.f1 0 1000000))=false,(!(m45 x0.f1 0 1000000))=false,Ev F X (.call 47 [(.one (.bor (l0_0+1) (take (Int.toNat (length p:Int) - Int.toNat 0) (drop 0 (map b_si a0))))),(.one (.val (.string x0.f0)))] [] [] [(.oi (m1009200 (take (Int.toNat (length p:Int)) a0) x0.f0))]),(!(m45 x0.f1 0 1000000))=false,(!(m45 x0.f1 0 1000000))=false,(decide ((m1009200 (take (Int.toNat (length p:Int)) a0) x0.f0)≥0))=true]) (by kernel_rfl) ⟨hc,(by omega),(by rw[getElem?_map,Hx0]; rfl),(e71 (a0:=x0.f0)),(nt h_1),(nt h_1),(nt h_1),(e46 (a0:=x0.f1)),(nt h_1),(nt h_1),(nt h_2),(nt h_2),(nt h_2),(by refine⟨?_,lenB_si _⟩; simp only[length_map,length_set,length_append,length_replicate,length_cons,length_nil]; omega),(nt h_2),(nt h_2),(nt h_2),(by rw[show (take (Int.toNat (length p:Int) - Int.toNat 0) (drop 0 (map b_si a0)))=(map b_si (take (Int.toNat (length p:Int)) a0)) from by first | rfl |(simp[map_take,map_drop]; done) |(simp[byteRows_eq,map_take,map_drop]; done) |(simp[*,map_take,map_drop]; done) |(rw[take_of_length_le (by simp only[length_drop,length_take,length_map,Int.toNat_natCast]; omega)]; simp only[← map_drop,← map_take])]; exact(e47 (a0:=(take (Int.toNat (length p:Int)) a0)) (a1:=x0.f0) (by simp only[length_take]; omega))),(nt h_2),(nt h_2),h_3,trivial⟩
          exact .loopX st (show (.ret:VX.Exit)≠.normal from by simp)
        · try simp only[if_neg h_3]
          have st:=codeH_ok (F:=F) (X:=X) (c:=b57_0) (t:=0) (hs:=[(2,.b true),(6,.row [(.val (.string x0.f0)),(.i x0.f1)]),(20,.ret [] [(.one (.val (.bool (m71 x0.f0))))] [] []),(25,.b false),(27,.b false),(29,.b false),(30,.ret [] [(.one (.val (.bool (m45 x0.f1 0 1000000))))] [] []),(31,.b false),(34,.b false),(37,.b false),(39,.b false),(41,.b false),(43,.b false),(45,.b false),(47,.b false),(48,.ret [] [(.oi (m1009200 (take (Int.toNat (length p:Int)) a0) x0.f0))] [] []),(49,.b false),(52,.b false),(53,.b false)]) (σ:=h57_0 l0_0 a0 a1 (length p:Int)) (σ':=⟨[(0,(.one (.bor l0_0 (map b_si a0)))),(1,(.oi a1)),(7,(.one (.bor l0_0 (map b_si a0)))),(8,(.oi ((length (map b_si a0)):Int))),(9,(.oi (IntKind.wrap .i64 ((length p:Int)+1))))],[]⟩) (e:=.normal) (t':=58) (hs':=[]) (q:=[(decide ((length p:Int) <((length (map b_si a0)):Int)))=true,0≤(length p:Int),(map b_si a0)[(Int.toNat (length p:Int))]?=some [(.val (.string x0.f0)),(.i x0.f1)],Ev F X (.call 71 [(.one (.val (.string x0.f0)))] [] [] [(.one (.val (.bool (m71 x0.f0))))]),(!(m71 x0.f0))=false,(!(m71 x0.f0))=false,(!(m71 x0.f0))=false,Ev F X (.call 46 [(.oi x0.f1)] [] [] [(.one (.val (.bool (m45 x0.f1 0 1000000))))]),(!(m71 x0.f0))=false,(!(m71 x0.f0))=false,(!(m45 x0.f1 0 1000000))=false,(!(m45 x0.f1 0 1000000))=false,(!(m45 x0.f1 0 1000000))=false,(0≤(0:Int)∧(0:Int)≤(length p:Int)∧(length p:Int)≤((length (map b_si a0)):Int))∧∀r∈((map b_si a0):List (List B)),r.length=2,(!(m45 x0.f1 0 1000000))=false,(!(m45 x0.f1 0 1000000))=false,(!(m45 x0.f1 0 1000000))=false,Ev F X (.call 47 [(.one (.bor (l0_0+1) (take (Int.toNat (length p:Int) - Int.toNat 0) (drop 0 (map b_si a0))))),(.one (.val (.string x0.f0)))] [] [] [(.oi (m1009200 (take (Int.toNat (length p:Int)) a0) x0.f0))]),(!(m45 x0.f1 0 1000000))=false,(!(m45 x0.f1 0 1000000))=false,(decide ((m1009200 (take (Int.toNat (length p:Int)) a0) x0.f0)≥0))=false,True]) (by kernel_rfl) ⟨hc,(by omega),(by rw[getElem?_map,Hx0]; rfl),(e71 (a0:=x0.f0)),(nt h_1),(nt h_1),(nt h_1),(e46 (a0:=x0.f1)),(nt h_1),(nt h_1),(nt h_2),(nt h_2),(nt h_2),(by refine⟨?_,lenB_si _⟩; simp only[length_map,length_set,length_append,length_replicate,length_cons,length_nil]; omega),(nt h_2),(nt h_2),(nt h_2),(by rw[show (take (Int.toNat (length p:Int) - Int.toNat 0) (drop 0 (map b_si a0)))=(map b_si (take (Int.toNat (length p:Int)) a0)) from by first | rfl |(simp[map_take,map_drop]; done) |(simp[byteRows_eq,map_take,map_drop]; done) |(simp[*,map_take,map_drop]; done) |(rw[take_of_length_le (by simp only[length_drop,length_take,length_map,Int.toNat_natCast]; omega)]; simp only[← map_drop,← map_take])]; exact(e47 (a0:=(take (Int.toNat (length p:Int)) a0)) (a1:=x0.f0) (by simp only[length_take]; omega))),(nt h_2),(nt h_2),(nt h_3),trivial,trivial⟩
          have ih:=t57_0 (l0_0:=l0_0) (a0:=a0) (a1:=a1) hy0 y0 (p++ [x0]) (by rw[append_assoc]; exact hp0)
          rw[show ((p++ [x0]).length:Int)=(p.length:Int)+1 from by simp] at ih
          rw[show (⟨[(0,(.one (.bor l0_0 (map b_si a0)))),(1,(.oi a1)),(7,(.one (.bor l0_0 (map b_si a0)))),(8,(.oi ((length (map b_si a0)):Int))),(9,(.oi (IntKind.wrap .i64 ((length p:Int)+1))))],[]⟩:St)=h57_0 l0_0 a0 a1 ((length p:Int)+1)  from(by unfold h57_0; simp only[hw]; done)] at st
          exact .loopN st ih
/-! loop.example/g00539/impl.owedOk -/
def m57 (a0:(List K_si)) (a1:Int):Bool:=
  (match r57_0 a0 a0 0 with | .k0 w0_0 w1_0=>(decide (((length (map b_si a0)):Int)≤a1)) | .k1=>false)
theorem e57 {l0_0:Nat} {a0:(List K_si)} {a1:Int} (hy0:length a0*24≤140737488351232):Ev F X (.call 57 [(.one (.bor l0_0 (map b_si a0))),(.one (.val (.int .i64 a1)))] [] [] [(.one (.val (.bool (m57 a0 a1))))]):=by
  unfold m57
  cases h0:r57_0 a0 a0 0 with
  |k0 w0_0 w1_0=>
    try dsimp only
    have f0:(⟨[(0,(.one (.bor l0_0 (map b_si a0)))),(1,(.oi a1)),(7,(.one (.bor l0_0 (map b_si a0)))),(8,(.oi ((length (map b_si a0)):Int))),(9,(.oi 0))],[]⟩:St)=h57_0 l0_0 a0 a1 0 :=(by rfl)
    have f1:Ev F X (.code l57_0 (h57_0 l0_0 a0 a1 0) (.exit 0) ⟨[(0,(.one (.bor l0_0 (map b_si a0)))),(1,(.oi a1)),(7,(.one (.bor l0_0 (map b_si a0)))),(8,(.oi ((length (map b_si a0)):Int))),(9,(.oi w0_0)),(10,(.one (.val (.bool w1_0))))],[]⟩):=(by have t:Ev F X (.code l57_0 (h57_0 l0_0 a0 a1 0) (ex57_0 (r57_0 a0 a0 0)) (fin57_0 l0_0 a0 a1 (r57_0 a0 a0 0))):=t57_0 (l0_0:=l0_0) (a0:=a0) (a1:=a1) (by assumption) a0 []  rfl; rw[h0] at t; exact t)
    exact callP_ok (ps:=[]) (os:=[]) (rs:=[(.one (.val (.bool (decide (((length (map b_si a0)):Int)≤a1)))))]) (by kernel_rfl) (.f f0 (.f f1 (.h 8 (.loop (h57_0 l0_0 a0 a1 0) (.exit 0) ⟨[(0,(.one (.bor l0_0 (map b_si a0)))),(1,(.oi a1)),(7,(.one (.bor l0_0 (map b_si a0)))),(8,(.oi ((length (map b_si a0)):Int))),(9,(.oi w0_0)),(10,(.one (.val (.bool w1_0))))],[]⟩) .nil)))
  |k1=>
    try dsimp only
    have f0:(⟨[(0,(.one (.bor l0_0 (map b_si a0)))),(1,(.oi a1)),(7,(.one (.bor l0_0 (map b_si a0)))),(8,(.oi ((length (map b_si a0)):Int))),(9,(.oi 0))],[]⟩:St)=h57_0 l0_0 a0 a1 0 :=(by rfl)
    have f1:Ev F X (.code l57_0 (h57_0 l0_0 a0 a1 0) .ret ⟨[(4,(.one (.val (.bool false))))],[]⟩):=(by have t:Ev F X (.code l57_0 (h57_0 l0_0 a0 a1 0) (ex57_0 (r57_0 a0 a0 0)) (fin57_0 l0_0 a0 a1 (r57_0 a0 a0 0))):=t57_0 (l0_0:=l0_0) (a0:=a0) (a1:=a1) (by assumption) a0 []  rfl; rw[h0] at t; exact t)
    exact callP_ok (ps:=[]) (os:=[]) (rs:=[(.one (.val (.bool false)))]) (by kernel_rfl) (.f f0 (.f f1 (.h 8 (.loop (h57_0 l0_0 a0 a1 0) .ret ⟨[(4,(.one (.val (.bool false))))],[]⟩) .nil)))
/-! loop 58_0 -/
inductive O58_0 where
  |k0 (w0:Int) (w1:Int) (w2:Bool)
def r58_0 (a0:(List K_si)):List K_si→Int→Int→O58_0
  |x0::y0,i,v0=>
    (r58_0 a0 y0 (i+1) (IntKind.wrap .i64 (v0+x0.f1)))
  |[],i,v0=>(O58_0.k0 v0 i (decide (i <((length (map b_si a0)):Int))))
def h58_0 (l0_0:Nat) (a0:(List K_si)) (i:Int) (v0:Int):St:=⟨[(3,(.one (.val (.int .i64 v0)))),(6,(.one (.bor l0_0 (map b_si a0)))),(7,(.one (.val (.int .i64 ((length (map b_si a0)):Int))))),(8,(.one (.val (.int .i64 i))))],[]⟩
def ex58_0:O58_0→VX.Exit
  |.k0 _ _ _=>(.exit 0)
def fin58_0 (l0_0:Nat) (a0:(List K_si)):O58_0→St
  |.k0 w0 w1 w2=>⟨[(3,(.one (.val (.int .i64 w0)))),(6,(.one (.bor l0_0 (map b_si a0)))),(7,(.one (.val (.int .i64 ((length (map b_si a0)):Int))))),(8,(.one (.val (.int .i64 w1)))),(9,(.one (.val (.bool w2))))],[]⟩
theorem t58_0 {l0_0:Nat} {a0:(List K_si)} (hy0:length a0*24≤140737488351232):∀(y0:List K_si) (p:List K_si) (v0:Int),p++y0=a0→Ev F X (.code l58_0 (h58_0 l0_0 a0 (length p:Int) v0) (ex58_0 (r58_0 a0 y0 (length p:Int) v0)) (fin58_0 l0_0 a0 (r58_0 a0 y0 (length p:Int) v0)))
  |[],p,v0,hp0=>by
    have hc:¬(decide ((length p:Int) <((length (map b_si a0)):Int)))=true:=by
      rw[← hp0]; simp only[length_map,length_set,length_append,length_replicate,length_cons,length_nil,decide_eq_true_eq]; omega
    have st:=codeH_ok (F:=F) (X:=X) (c:=b58_0) (t:=0) (hs:=[(2,.b false)]) (σ:=h58_0 l0_0 a0 (length p:Int) v0) (σ':=fin58_0 l0_0 a0 (.k0 v0 (length p:Int) (decide ((length p:Int) <((length (map b_si a0)):Int))))) (e:=(.exit 0)) (t':=3) (hs':=[]) (q:=[(decide ((length p:Int) <((length (map b_si a0)):Int)))=false]) (by kernel_rfl) ⟨(nt hc),trivial⟩
    exact .loopX st (show ((.exit 0):VX.Exit)≠.normal from by simp)
  |x0::y0,p,v0,hp0=>by
    have hc:(decide ((length p:Int) <((length (map b_si a0)):Int)))=true:=by
      rw[← hp0]; simp only[length_map,length_set,length_append,length_replicate,length_cons,length_nil,decide_eq_true_eq]; omega
    have Hx0:(a0)[Int.toNat (length p:Int)]?=some x0:=by
      rw[← hp0,Int.toNat_natCast]; simp
    have hlen:length (a0)=length p+length y0+1:=by rw[← hp0]; simp; omega
    have hw:IntKind.wrap .i64 ((length p:Int)+1)=(length p:Int)+1:=wrap64 (by omega)
    simp only[r58_0]
    have st:=codeH_ok (F:=F) (X:=X) (c:=b58_0) (t:=0) (hs:=[(2,.b true),(4,.row [(.val (.string x0.f0)),(.i x0.f1)])]) (σ:=h58_0 l0_0 a0 (length p:Int) v0) (σ':=⟨[(3,(.oi (IntKind.wrap .i64 (v0+x0.f1)))),(6,(.one (.bor l0_0 (map b_si a0)))),(7,(.oi ((length (map b_si a0)):Int))),(8,(.oi (IntKind.wrap .i64 ((length p:Int)+1))))],[]⟩) (e:=.normal) (t':=25) (hs':=[]) (q:=[(decide ((length p:Int) <((length (map b_si a0)):Int)))=true,0≤(length p:Int),(map b_si a0)[(Int.toNat (length p:Int))]?=some [(.val (.string x0.f0)),(.i x0.f1)],True,True]) (by kernel_rfl) ⟨hc,(by omega),(by rw[getElem?_map,Hx0]; rfl),trivial,trivial,trivial⟩
    have ih:=t58_0 (l0_0:=l0_0) (a0:=a0) hy0 y0 (p++ [x0]) (IntKind.wrap .i64 (v0+x0.f1)) (by rw[append_assoc]; exact hp0)
    rw[show ((p++ [x0]).length:Int)=(p.length:Int)+1 from by simp] at ih
    rw[show (⟨[(3,(.oi (IntKind.wrap .i64 (v0+x0.f1)))),(6,(.one (.bor l0_0 (map b_si a0)))),(7,(.oi ((length (map b_si a0)):Int))),(8,(.oi (IntKind.wrap .i64 ((length p:Int)+1))))],[]⟩:St)=h58_0 l0_0 a0 ((length p:Int)+1) (IntKind.wrap .i64 (v0+x0.f1)) from(by unfold h58_0; simp only[hw]; done)] at st
    exact .loopN st ih
/-! loop.example/g00539/impl.amounts -/
def m58 (a0:(List K_si)):Int:=
  (match r58_0 a0 a0 0 0 with | .k0 w0_0 w1_0 w2_0=>w0_0)
theorem e58 {l0_0:Nat} {a0:(List K_si)} (hy0:length a0*24≤140737488351232):Ev F X (.call 58 [(.one (.bor l0_0 (map b_si a0)))] [] [] [(.one (.val (.int .i64 (m58 a0))))]):=by
  unfold m58
  cases h0:r58_0 a0 a0 0 0 with
  |k0 w0_0 w1_0 w2_0=>
    try dsimp only
    have f0:(⟨[(3,(.oi 0)),(6,(.one (.bor l0_0 (map b_si a0)))),(7,(.oi ((length (map b_si a0)):Int))),(8,(.oi 0))],[]⟩:St)=h58_0 l0_0 a0 0 0:=(by rfl)
    have f1:Ev F X (.code l58_0 (h58_0 l0_0 a0 0 0) (.exit 0) ⟨[(3,(.oi w0_0)),(6,(.one (.bor l0_0 (map b_si a0)))),(7,(.oi ((length (map b_si a0)):Int))),(8,(.oi w1_0)),(9,(.one (.val (.bool w2_0))))],[]⟩):=(by have t:Ev F X (.code l58_0 (h58_0 l0_0 a0 0 0) (ex58_0 (r58_0 a0 a0 0 0)) (fin58_0 l0_0 a0 (r58_0 a0 a0 0 0))):=t58_0 (l0_0:=l0_0) (a0:=a0) (by assumption) a0 [] 0 rfl; rw[h0] at t; exact t)
    exact callP_ok (ps:=[]) (os:=[]) (rs:=[(.oi w0_0)]) (by kernel_rfl) (.f f0 (.f f1 (.h 10 (.loop (h58_0 l0_0 a0 0 0) (.exit 0) ⟨[(3,(.oi w0_0)),(6,(.one (.bor l0_0 (map b_si a0)))),(7,(.oi ((length (map b_si a0)):Int))),(8,(.oi w1_0)),(9,(.one (.val (.bool w2_0))))],[]⟩) .nil)))
/-! loop.example/g00539/impl.isSum -/
def m72 (a0:Int):Bool:=
  (m45 a0 0 2147483646)
theorem e72 {a0:Int}:Ev F X (.call 72 [(.one (.val (.int .i64 a0)))] [] [] [(.one (.val (.bool (m45 a0 0 2147483646))))]):=by
  have f0:Ev F X (.call 45 [(.oi a0),(.oi 0),(.oi 2147483646)] [] [] [(.one (.val (.bool (m45 a0 0 2147483646))))]):=(e45 (a0:=a0) (a1:=0) (a2:=2147483646))
  exact callP_ok (ps:=[]) (os:=[]) (rs:=[(.one (.val (.bool (m45 a0 0 2147483646))))]) (by kernel_rfl) (.r 5 [] [] f0 .nil)
/-! loop.example/g00539/impl.rewardAt$1 -/
def m1012900 (a0:K_R) (a101001:Int):Bool:=
  (a0.f0==a101001)
theorem e1012900 {l0_3:Nat} {a0:K_R} {l101000:Nat} {a101001:Int}:Ev F X (.call 129 [(.agg [(.val (.int .i64 a0.f0)),(.val (.int .i64 a0.f1)),(.val (.int .i64 a0.f2)),(.bor l0_3 (map b_si a0.f3)),(.val (.int .i64 a0.f4))]),(.bptr l101000 [(.val (.int .i64 a101001))])] [] [] [(.one (.val (.bool (a0.f0==a101001))))]):=by
  exact callP_ok (ps:=[]) (os:=[]) (rs:=[(.one (.val (.bool (a0.f0==a101001))))]) (by kernel_rfl) .nil
/-! loop 1012800_0 -/
inductive O1012800_0 where
  |k0 (w0:Int) (w1:Bool)
  |k1 (w0:Int)
def r1012800_0 (a0:(List K_R)) (a2001:Int):List K_R→Int→O1012800_0
  |x0::y0,i=>
    if(x0.f0==a2001)=true then(O1012800_0.k1 i) else
    (r1012800_0 a0 a2001 y0 (i+1))
  |[],i=>(O1012800_0.k0 i (decide (i <((length (map b_R a0)):Int))))
def h1012800_0 (l0_0:Nat) (l2000:Nat) (a0:(List K_R)) (a2001:Int) (i:Int) :St:=⟨[(0,(.one (.bor l0_0 (map b_R a0)))),(1,(.clo 129 [] [(.bptr l2000 [(.val (.int .i64 a2001))])])),(7,(.one (.val (.int .i64 ((length (map b_R a0)):Int))))),(8,(.one (.val (.int .i64 i))))],[]⟩
def ex1012800_0:O1012800_0→VX.Exit
  |.k0 _ _=>(.exit 0)
  |.k1 _=>.ret
def fin1012800_0 (l0_0:Nat) (l2000:Nat) (a0:(List K_R)) (a2001:Int):O1012800_0→St
  |.k0 w0 w1=>⟨[(0,(.one (.bor l0_0 (map b_R a0)))),(1,(.clo 129 [] [(.bptr l2000 [(.val (.int .i64 a2001))])])),(7,(.one (.val (.int .i64 ((length (map b_R a0)):Int))))),(8,(.one (.val (.int .i64 w0)))),(9,(.one (.val (.bool w1))))],[]⟩
  |.k1 w0=>⟨[(4,(.one (.val (.int .i64 w0))))],[]⟩
theorem t1012800_0 {l0_0:Nat} {l2000:Nat} {a0:(List K_R)} {a2001:Int} (hy0:length a0*56≤140737488351232) (hy1:∀z∈a0,ok_R z):∀(y0:List K_R) (p:List K_R),p++y0=a0→Ev F X (.code l128_0 (h1012800_0 l0_0 l2000 a0 a2001 (length p:Int)) (ex1012800_0 (r1012800_0 a0 a2001 y0 (length p:Int))) (fin1012800_0 l0_0 l2000 a0 a2001 (r1012800_0 a0 a2001 y0 (length p:Int))))
  |[],p,hp0=>by
    have hc:¬(decide ((length p:Int) <((length (map b_R a0)):Int)))=true:=by
      rw[← hp0]; simp only[length_map,length_set,length_append,length_replicate,length_cons,length_nil,decide_eq_true_eq]; omega
    have st:=codeH_ok (F:=F) (X:=X) (c:=b128_0) (t:=0) (hs:=[(2,.b false)]) (σ:=h1012800_0 l0_0 l2000 a0 a2001 (length p:Int)) (σ':=fin1012800_0 l0_0 l2000 a0 a2001 (.k0 (length p:Int) (decide ((length p:Int) <((length (map b_R a0)):Int))))) (e:=(.exit 0)) (t':=3) (hs':=[]) (q:=[(decide ((length p:Int) <((length (map b_R a0)):Int)))=false]) (by kernel_rfl) ⟨(nt hc),trivial⟩
    exact .loopX st (show ((.exit 0):VX.Exit)≠.normal from by simp)
  |x0::y0,p,hp0=>by
    have hc:(decide ((length p:Int) <((length (map b_R a0)):Int)))=true:=by
      rw[← hp0]; simp only[length_map,length_set,length_append,length_replicate,length_cons,length_nil,decide_eq_true_eq]; omega
    have Hx0:(a0)[Int.toNat (length p:Int)]?=some x0:=by
      rw[← hp0,Int.toNat_natCast]; simp
    have Mx0_0:=hy1 x0 (List.mem_of_getElem? Hx0)
    have hlen:length (a0)=length p+length y0+1:=by rw[← hp0]; simp; omega
    have hw:IntKind.wrap .i64 ((length p:Int)+1)=(length p:Int)+1:=wrap64 (by omega)
    simp only[r1012800_0]
    by_cases h_1:(x0.f0==a2001)=true
    · try simp only[if_pos h_1]
      have st:=codeH_ok (F:=F) (X:=X) (c:=b128_0) (t:=0) (hs:=[(2,.b true),(14,.row [(.i x0.f0),(.i x0.f1),(.i x0.f2),(.sl (map b_si x0.f3)),(.i x0.f4)]),(18,.ret [] [(.one (.val (.bool (x0.f0==a2001))))] [] []),(19,.b true)]) (σ:=h1012800_0 l0_0 l2000 a0 a2001 (length p:Int)) (σ':=fin1012800_0 l0_0 l2000 a0 a2001 (.k1 (length p:Int))) (e:=.ret) (t':=24) (hs':=[]) (q:=[(decide ((length p:Int) <((length (map b_R a0)):Int)))=true,0≤(length p:Int),(map b_R a0)[(Int.toNat (length p:Int))]?=some [(.i x0.f0),(.i x0.f1),(.i x0.f2),(.sl (map b_si x0.f3)),(.i x0.f4)],Ev F X (.call 129 [(.agg [(.i x0.f0),(.i x0.f1),(.i x0.f2),(.bor (l0_0+1) (map b_si x0.f3)),(.i x0.f4)]),(.bptr (l2000+1) [(.i a2001)])] [] [] [(.one (.val (.bool (x0.f0==a2001))))]),(x0.f0==a2001)=true]) (by kernel_rfl) ⟨hc,(by omega),(by rw[getElem?_map,Hx0]; rfl),(e1012900 (a0:=x0) (a101001:=a2001)),h_1,trivial⟩
      exact .loopX st (show (.ret:VX.Exit)≠.normal from by simp)
    · try simp only[if_neg h_1]
      have st:=codeH_ok (F:=F) (X:=X) (c:=b128_0) (t:=0) (hs:=[(2,.b true),(14,.row [(.i x0.f0),(.i x0.f1),(.i x0.f2),(.sl (map b_si x0.f3)),(.i x0.f4)]),(18,.ret [] [(.one (.val (.bool (x0.f0==a2001))))] [] []),(19,.b false)]) (σ:=h1012800_0 l0_0 l2000 a0 a2001 (length p:Int)) (σ':=⟨[(0,(.one (.bor l0_0 (map b_R a0)))),(1,(.clo 129 [] [(.bptr l2000 [(.i a2001)])])),(7,(.oi ((length (map b_R a0)):Int))),(8,(.oi (IntKind.wrap .i64 ((length p:Int)+1))))],[]⟩) (e:=.normal) (t':=24) (hs':=[]) (q:=[(decide ((length p:Int) <((length (map b_R a0)):Int)))=true,0≤(length p:Int),(map b_R a0)[(Int.toNat (length p:Int))]?=some [(.i x0.f0),(.i x0.f1),(.i x0.f2),(.sl (map b_si x0.f3)),(.i x0.f4)],Ev F X (.call 129 [(.agg [(.i x0.f0),(.i x0.f1),(.i x0.f2),(.bor (l0_0+1) (map b_si x0.f3)),(.i x0.f4)]),(.bptr (l2000+1) [(.i a2001)])] [] [] [(.one (.val (.bool (x0.f0==a2001))))]),(x0.f0==a2001)=false,True]) (by kernel_rfl) ⟨hc,(by omega),(by rw[getElem?_map,Hx0]; rfl),(e1012900 (a0:=x0) (a101001:=a2001)),(nt h_1),trivial,trivial⟩
      have ih:=t1012800_0 (l0_0:=l0_0) (l2000:=l2000) (a0:=a0) (a2001:=a2001) hy0 hy1 y0 (p++ [x0]) (by rw[append_assoc]; exact hp0)
      rw[show ((p++ [x0]).length:Int)=(p.length:Int)+1 from by simp] at ih
      rw[show (⟨[(0,(.one (.bor l0_0 (map b_R a0)))),(1,(.clo 129 [] [(.bptr l2000 [(.i a2001)])])),(7,(.oi ((length (map b_R a0)):Int))),(8,(.oi (IntKind.wrap .i64 ((length p:Int)+1))))],[]⟩:St)=h1012800_0 l0_0 l2000 a0 a2001 ((length p:Int)+1)  from(by unfold h1012800_0; simp only[hw]; done)] at st
      exact .loopN st ih
/-! slices.IndexFunc[[]loop.example/g00539/impl.Reward,loop.example/g00539/impl.Reward] -/
def m1012800 (a0:(List K_R)) (a2001:Int):Int:=
  (match r1012800_0 a0 a2001 a0 0 with | .k0 w0_0 w1_0=>(-1) | .k1 w0_0=>w0_0)
theorem e1012800 {l0_0:Nat} {a0:(List K_R)} {l2000:Nat} {a2001:Int} (hy0:length a0*56≤140737488351232) (hy1:∀z∈a0,ok_R z):Ev F X (.call 128 [(.one (.bor l0_0 (map b_R a0))),(.clo 129 [] [(.bptr l2000 [(.val (.int .i64 a2001))])])] [] [] [(.one (.val (.int .i64 (m1012800 a0 a2001))))]):=by
  unfold m1012800
  cases h0:r1012800_0 a0 a2001 a0 0 with
  |k0 w0_0 w1_0=>
    try dsimp only
    have f0:(⟨[(0,(.one (.bor l0_0 (map b_R a0)))),(1,(.clo 129 [] [(.bptr l2000 [(.i a2001)])])),(7,(.oi ((length (map b_R a0)):Int))),(8,(.oi 0))],[]⟩:St)=h1012800_0 l0_0 l2000 a0 a2001 0 :=(by rfl)
    have f1:Ev F X (.code l128_0 (h1012800_0 l0_0 l2000 a0 a2001 0) (.exit 0) ⟨[(0,(.one (.bor l0_0 (map b_R a0)))),(1,(.clo 129 [] [(.bptr l2000 [(.i a2001)])])),(7,(.oi ((length (map b_R a0)):Int))),(8,(.oi w0_0)),(9,(.one (.val (.bool w1_0))))],[]⟩):=(by have t:Ev F X (.code l128_0 (h1012800_0 l0_0 l2000 a0 a2001 0) (ex1012800_0 (r1012800_0 a0 a2001 a0 0)) (fin1012800_0 l0_0 l2000 a0 a2001 (r1012800_0 a0 a2001 a0 0))):=t1012800_0 (l0_0:=l0_0) (l2000:=l2000) (a0:=a0) (a2001:=a2001) (by assumption) (by assumption) a0 []  rfl; rw[h0] at t; exact t)
    exact callP_ok (ps:=[]) (os:=[]) (rs:=[(.oi (-1))]) (by kernel_rfl) (.f f0 (.f f1 (.h 8 (.loop (h1012800_0 l0_0 l2000 a0 a2001 0) (.exit 0) ⟨[(0,(.one (.bor l0_0 (map b_R a0)))),(1,(.clo 129 [] [(.bptr l2000 [(.i a2001)])])),(7,(.oi ((length (map b_R a0)):Int))),(8,(.oi w0_0)),(9,(.one (.val (.bool w1_0))))],[]⟩) .nil)))
  |k1 w0_0=>
    try dsimp only
    have f0:(⟨[(0,(.one (.bor l0_0 (map b_R a0)))),(1,(.clo 129 [] [(.bptr l2000 [(.i a2001)])])),(7,(.oi ((length (map b_R a0)):Int))),(8,(.oi 0))],[]⟩:St)=h1012800_0 l0_0 l2000 a0 a2001 0 :=(by rfl)
    have f1:Ev F X (.code l128_0 (h1012800_0 l0_0 l2000 a0 a2001 0) .ret ⟨[(4,(.oi w0_0))],[]⟩):=(by have t:Ev F X (.code l128_0 (h1012800_0 l0_0 l2000 a0 a2001 0) (ex1012800_0 (r1012800_0 a0 a2001 a0 0)) (fin1012800_0 l0_0 l2000 a0 a2001 (r1012800_0 a0 a2001 a0 0))):=t1012800_0 (l0_0:=l0_0) (l2000:=l2000) (a0:=a0) (a2001:=a2001) (by assumption) (by assumption) a0 []  rfl; rw[h0] at t; exact t)
    exact callP_ok (ps:=[]) (os:=[]) (rs:=[(.oi w0_0)]) (by kernel_rfl) (.f f0 (.f f1 (.h 8 (.loop (h1012800_0 l0_0 l2000 a0 a2001 0) .ret ⟨[(4,(.oi w0_0))],[]⟩) .nil)))
theorem ixr1012800_0 (a0:(List K_R)) (a2001:Int):∀(l:List K_R) (i:Int),(∃(w0:_) (w1:_),r1012800_0 a0 a2001 l i=.k0 w0 w1)∨(∃w,r1012800_0 a0 a2001 l i=.k1 w∧i≤w∧w < i+l.length)
  |[],i=>.inl ⟨i,(decide (i <((length (map b_R a0)):Int))),rfl⟩
  |x::l,i=>by
    have ih:=ixr1012800_0 a0 a2001 l (i+1)
    simp only[r1012800_0]
    (repeat' split)
    all_goals first
      |exact .inr ⟨i,rfl,by omega,by simp only[length_cons]; omega⟩
      | (rcases ih with ⟨w0, w1, h⟩ | ⟨w, h, h1, h2⟩
         · exact .inl ⟨w0,w1,h⟩
         · exact .inr ⟨w,h,by omega,by simp only[length_cons]; omega⟩)
theorem ix1012800 (a0:(List K_R)) (a2001:Int): -1≤m1012800 a0 a2001∧m1012800 a0 a2001 <(length a0:Int):=by
  unfold m1012800
  rcases ixr1012800_0 a0 a2001 a0 0 with⟨w0,w1,h⟩ |⟨w,h,h1,h2⟩<;>simp only[h]<;>omega
/-! loop.example/g00539/impl.rewardAt -/
def m82 (a0:(List K_R)) (a1:Int):Int:=
  (m1012800 a0 a1)
theorem e82 {l0_0:Nat} {a0:(List K_R)} {a1:Int} (hy0:length a0*56≤140737488351232) (hy1:∀z∈a0,ok_R z):Ev F X (.call 82 [(.one (.bor l0_0 (map b_R a0))),(.one (.val (.int .i64 a1)))] [] [] [(.one (.val (.int .i64 (m1012800 a0 a1))))]):=by
  have f0:fullL [(.val (.int .i64 a1))]=true:=(by trivial)
  have f1:Ev F X (.call 128 [(.one (.bor (l0_0+1) (map b_R a0))),(.clo 129 [] [(.bptr 0 [(.i a1)])])] [] [] [(.oi (m1012800 a0 a1))]):=(e1012800 (a0:=a0) (a2001:=a1) (by with_reducible assumption) (by with_reducible assumption))
  exact callP_ok (ps:=[]) (os:=[]) (rs:=[(.oi (m1012800 a0 a1))]) (by kernel_rfl) (.f f0 (.r 9 [] [] f1 .nil))
end Go.Proofs.YtihjlmgakpgkeaaDoor.RipenReward
