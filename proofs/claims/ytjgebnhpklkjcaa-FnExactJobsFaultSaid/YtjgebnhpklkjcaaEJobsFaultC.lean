/- What the functions compute. -/
import Derived.Test.YtjgebnhpklkjcaaEJobsFaultB
import Derived.KernelRfl
namespace Go.Proofs.Ytjgebnhpklkjcaa.JobsFault
open Go Go.Proofs.Ytjgebnhpklkjcaa.V
set_option linter.unusedVariables false
set_option linter.unusedSimpArgs false
set_option maxRecDepth 20000
open Go.IntKind (wrap)
open Int (toNat)
open List (length_replicate length_map length_set length_append length_cons length_nil length_take length_drop take_of_length_le map_take map_drop map_set append_assoc getElem?_map map length take drop getD set)
attribute [local simp] toBR_i fullR_i pureR_i lenB_i lenD_i fromBR_i copy_i toBR_iiLiE fullR_iiLiE pureR_iiLiE lenB_iiLiE lenD_iiLiE toBR_iLiE fullR_iLiE pureR_iLiE lenB_iLiE lenD_iLiE toBR_iLiiLiEELiLiEE fullR_iLiiLiEELiLiEE pureR_iLiiLiEELiLiEE lenB_iLiiLiEELiLiEE lenD_iLiiLiEELiLiEE toBR_iiiiiLiLiiLiEELiLiEEE fullR_iiiiiLiLiiLiEELiLiEEE pureR_iiiiiLiLiiLiEELiLiEEE lenB_iiiiiLiLiiLiEELiLiEEE lenD_iiiiiLiLiiLiEELiLiEEE toBR_LiiiiiLiLiiLiEELiLiEEEE fullR_LiiiiiLiLiiLiEELiLiEEEE pureR_LiiiiiLiLiiLiEELiLiEEEE lenB_LiiiiiLiLiiLiEELiLiEEEE lenD_LiiiiiLiLiiLiEELiLiEEEE toBR_b fullR_b pureR_b lenB_b lenD_b fromBR_b copy_b toBR_iiiiLiLiiLiEELiLiEEE fullR_iiiiLiLiiLiEELiLiEEE pureR_iiiiLiLiiLiEELiLiEEE lenB_iiiiLiLiiLiEELiLiEEE lenD_iiiiLiLiiLiEELiLiEEE toBR_LiE fullR_LiE pureR_LiE lenB_LiE lenD_LiE toBR_LiLiiLiEELiLiEEE fullR_LiLiiLiEELiLiEEE pureR_LiLiiLiEELiLiEEE lenB_LiLiiLiEELiLiEEE lenD_LiLiiLiEELiLiEEE toBR_LiiLiEE fullR_LiiLiEE pureR_LiiLiEE lenB_LiiLiEE lenD_LiiLiEE toBR_LiLiEE fullR_LiLiEE pureR_LiLiEE lenB_LiLiEE lenD_LiLiEE strInts_len byteRows_len toBR_y fullR_y pureR_y lenB_y lenD_y fromBR_y copy_y toBR_LyE fullR_LyE pureR_LyE lenB_LyE lenD_LyE toBR_LLyEE fullR_LLyEE pureR_LLyEE lenB_LLyEE lenD_LLyEE
/-! loop.example/g00539/spec.l11Fault -/
def m10 (a0:(List K_iiiiiLiLiiLiEELiLiEEE)):Int:=
  if(decide (((length (map b_iiiiiLiLiiLiEELiLiEEE a0)):Int) > 4))=true then 2 else
  (match r10_0 a0 a0 0 with | .k0 w0_1 w1_1=>0 | .k1 w0_1=>w0_1 | .k2=>1)
theorem e10 {l0_0:Nat} {a0:(List K_iiiiiLiLiiLiEELiLiEEE)} (hy0:length a0*64≤140737488351232) (hy1:∀z∈a0,ok_iiiiiLiLiiLiEELiLiEEE z):Ev F X (.call 10 [(.one (.bor l0_0 (map b_iiiiiLiLiiLiEELiLiEEE a0)))] [] [] [(.one (.val (.int .i64 (m10 a0))))]):=by
  unfold m10
  by_cases h0:(decide (((length (map b_iiiiiLiLiiLiEELiLiEEE a0)):Int) > 4))=true
  · try simp only[if_pos h0]
    exact cp (by kernel_rfl) (.f h0 (.h 8 (.b true) .nil))
  · try simp only[if_neg h0]
    cases h1:r10_0 a0 a0 0 with
    |k0 w0_1 w1_1=>
      try dsimp only
      have f1:(⟨[(0,(.one (.bor l0_0 (map b_iiiiiLiLiiLiEELiLiEEE a0)))),(3,(.oi 0))],[]⟩:St)=h10_0 l0_0 a0 0 :=(by rfl)
      exact cp (by kernel_rfl) (.f (nt h0) (.f f1 (.f (ev_ (e:=ex10_0) (g:=(fin10_0 l0_0 a0)) h1 (t10_0 (l0_0:=l0_0) (a0:=a0) (by assumption) (by assumption) a0 []  rfl)) (.h 8 (.b false) (.h 11 (.loop (h10_0 l0_0 a0 0) (.exit 0) ⟨[(0,(.one (.bor l0_0 (map b_iiiiiLiLiiLiEELiLiEEE a0)))),(3,(.one (.val (.int .i64 w0_1)))),(11,(.one (.val (.bool w1_1))))],[]⟩) .nil)))))
    |k1 w0_1=>
      try dsimp only
      have f1:(⟨[(0,(.one (.bor l0_0 (map b_iiiiiLiLiiLiEELiLiEEE a0)))),(3,(.oi 0))],[]⟩:St)=h10_0 l0_0 a0 0 :=(by rfl)
      exact cp (by kernel_rfl) (.f (nt h0) (.f f1 (.f (ev_ (e:=ex10_0) (g:=(fin10_0 l0_0 a0)) h1 (t10_0 (l0_0:=l0_0) (a0:=a0) (by assumption) (by assumption) a0 []  rfl)) (.h 8 (.b false) (.h 11 (.loop (h10_0 l0_0 a0 0) .ret ⟨[(2,(.one (.val (.int .i64 w0_1))))],[]⟩) .nil)))))
    |k2=>
      try dsimp only
      have f1:(⟨[(0,(.one (.bor l0_0 (map b_iiiiiLiLiiLiEELiLiEEE a0)))),(3,(.oi 0))],[]⟩:St)=h10_0 l0_0 a0 0 :=(by rfl)
      exact cp (by kernel_rfl) (.f (nt h0) (.f f1 (.f (ev_ (e:=ex10_0) (g:=(fin10_0 l0_0 a0)) h1 (t10_0 (l0_0:=l0_0) (a0:=a0) (by assumption) (by assumption) a0 []  rfl)) (.h 8 (.b false) (.h 11 (.loop (h10_0 l0_0 a0 0) .ret ⟨[(2,(.one (.val (.int .i64 1))))],[]⟩) .nil)))))
/-! loop.example/g00539/spec.JobsFault -/
def m5 (a0:(List K_iiiiiLiLiiLiEELiLiEEE)):Int:=
  (m10 a0)
theorem e5 {l0_0:Nat} {a0:(List K_iiiiiLiLiiLiEELiLiEEE)} (hy0:length a0*64≤140737488351232) (hy1:∀z∈a0,ok_iiiiiLiLiiLiEELiLiEEE z):Ev F X (.call 5 [(.one (.bor l0_0 (map b_iiiiiLiLiiLiEELiLiEEE a0)))] [] [] [(.one (.val (.int .i64 (m10 a0))))]):=by
  exact cp (by kernel_rfl) (.r 5 [] [] (e10 (l0_0:=(l0_0+1)) (a0:=a0) ‹_› ‹_›) .nil)
/-! loop 95_0 -/
inductive O95_0 where
  |k0 (w0:List Int) (w1:Int) (w2:Bool)
def r95_0 (a0:(List Int)):List Int→Int→List Int→O95_0
  |x0::y0,i,v0=>
    (r95_0 a0 y0 (i+1) (set v0 (toNat i) x0))
  |[],i,v0=>(O95_0.k0 v0 i (decide (i <((length (map b_i a0)):Int))))
def h95_0 (l0_0:Nat) (a0:(List Int)) (i:Int) (v0:List Int):St:=⟨[(0,(.one (.bor l0_0 (map b_i a0)))),(3,(.one (.ref ⟨(3,0,0),[],0,(toNat ((length (map b_i a0)):Int))⟩))),(4,(.one (.val (.int .i64 i))))],[((3,0,0),.live ⟨1,(map d_i v0),[]⟩)]⟩
def ex95_0:O95_0→VX.Exit
  |.k0 _ _ _=>(.exit 0)
def fin95_0 (l0_0:Nat) (a0:(List Int)):O95_0→St
  |.k0 w0 w1 w2=>⟨[(0,(.one (.bor l0_0 (map b_i a0)))),(3,(.one (.ref ⟨(3,0,0),[],0,(toNat ((length (map b_i a0)):Int))⟩))),(4,(.one (.val (.int .i64 w1)))),(11,(.one (.val (.bool w2))))],[((3,0,0),.live ⟨1,(map d_i w0),[]⟩)]⟩
theorem t95_0 {l0_0:Nat} {a0:(List Int)} (hy0:length a0*8≤140737488351232):∀(y0:List Int) (p:List Int) (v0:List Int),p++y0=a0→length v0=(toNat ((length (map b_i a0)):Int))→Ev F X (.code l95_0 (h95_0 l0_0 a0 (length p:Int) v0) (ex95_0 (r95_0 a0 y0 (length p:Int) v0)) (fin95_0 l0_0 a0 (r95_0 a0 y0 (length p:Int) v0)))
  |[],p,v0,hp0,hi0=>by
    have hc:¬(decide ((length p:Int) <((length (map b_i a0)):Int)))=true:=by
      rw[← hp0]; simp only[length_map,length_set,length_append,length_replicate,length_cons,length_nil,decide_eq_true_eq]; omega
    have hj0:=hi0; try simp only[length_map,length_set,length_append,length_replicate,length_cons,length_nil,Int.toNat_natCast] at hj0
    have st:=ch b95_0 (h95_0 l0_0 a0 (length p:Int) v0) ⟨[(0,(.one (.bor l0_0 (map b_i a0)))),(3,(.one (.ref ⟨(3,0,0),[],0,(toNat ((length (map b_i a0)):Int))⟩))),(4,(.oi (length p:Int))),(11,(.one (.val (.bool (decide ((length p:Int) <((length (map b_i a0)):Int)))))))],[((3,0,0),.live ⟨1,(map d_i v0),[]⟩)]⟩ (.exit 0) 9 (by kernel_rfl) (.f (nt hc) (.h 8 (.b false) .nil))
    rw[show (⟨[(0,(.one (.bor l0_0 (map b_i a0)))),(3,(.one (.ref ⟨(3,0,0),[],0,(toNat ((length (map b_i a0)):Int))⟩))),(4,(.oi (length p:Int))),(11,(.one (.val (.bool (decide ((length p:Int) <((length (map b_i a0)):Int)))))))],[((3,0,0),.live ⟨1,(map d_i v0),[]⟩)]⟩:St)=fin95_0 l0_0 a0 (.k0 v0 (length p:Int) (decide ((length p:Int) <((length (map b_i a0)):Int)))) from(by rfl)] at st
    exact .loopX st (show ((.exit 0):VX.Exit)≠.normal from by simp)
  |x0::y0,p,v0,hp0,hi0=>by
    have hc:(decide ((length p:Int) <((length (map b_i a0)):Int)))=true:=by
      rw[← hp0]; simp only[length_map,length_set,length_append,length_replicate,length_cons,length_nil,decide_eq_true_eq]; omega
    have Hx0:(a0)[toNat (length p:Int)]?=some x0:=by
      rw[← hp0,Int.toNat_natCast]; simp
    have hlen:length (a0)=length p+length y0+1:=by rw[← hp0]; simp; omega
    have hw:wrap .i64 ((length p:Int)+1)=(length p:Int)+1:=wrap64 (by omega)
    have hj0:=hi0; try simp only[length_map,length_set,length_append,length_replicate,length_cons,length_nil,Int.toNat_natCast] at hj0
    obtain⟨x1,Hx1⟩:∃y,v0[toNat (length p:Int)]?=some y:=⟨_,List.getElem?_eq_getElem (by omega)⟩
    simp only[r95_0]
    have f1:0≤(length p:Int):=(by omega)
    have f3:0+(toNat ((length (map b_i a0)):Int))≤(length (map d_i v0)):=(by simp only[length_map]; omega)
    have f4:0≤(length p:Int)∧(length p:Int) <((toNat ((length (map b_i a0)):Int)):Int):=(by omega)
    have f6:(set (map d_i v0) (0+(toNat (length p:Int))) [(.val (.int .i64 x0))])=(map d_i (set v0 (toNat (length p:Int)) x0)):=(by simp[byteRows_eq,ints_y,take_of_length_le,d_i,d_iiLiE,d_iLiE,d_iLiiLiEELiLiEE,d_iiiiiLiLiiLiEELiLiEEE,d_LiiiiiLiLiiLiEELiLiEEEE,d_b,d_iiiiLiLiiLiEELiLiEEE,d_LiE,d_LiLiiLiEELiLiEEE,d_LiiLiEE,d_LiLiEE,d_y,d_LyE,d_LLyEE,fromBR_i,fromBR_b,fromBR_y,four_len]; done)
    have st:=ch b95_0 (h95_0 l0_0 a0 (length p:Int) v0) ⟨[(0,(.one (.bor l0_0 (map b_i a0)))),(3,(.one (.ref ⟨(3,0,0),[],0,(toNat ((length (map b_i a0)):Int))⟩))),(4,(.oi (wrap .i64 ((length p:Int)+1))))],[((3,0,0),.live ⟨1,(map d_i (set v0 (toNat (length p:Int)) x0)),[]⟩)]⟩ .normal 32 (by kernel_rfl) (.f hc (.f f1 (.f (mp_ b_i Hx0) (.f f3 (.f f4 (.f (mz_ d_i Hx1) (.f f6 (.f trivial (.h 8 (.b true) (.h 18 (.row [(.i x0)]) (.h 24 (.rowD [(.i x1)]) (.h 25 (.norm (3,0,0) (map d_i (set v0 (toNat (length p:Int)) x0))) .nil))))))))))))
    have ih:=t95_0 (l0_0:=l0_0) (a0:=a0) hy0 y0 (p++ [x0]) (set v0 (toNat (length p:Int)) x0) (by rw[append_assoc]; exact hp0) (by simp only[length_map,length_set,length_append,length_replicate,length_cons,length_nil]; omega)
    rw[show ((p++ [x0]).length:Int)=(p.length:Int)+1 from by simp] at ih
    rw[show (⟨[(0,(.one (.bor l0_0 (map b_i a0)))),(3,(.one (.ref ⟨(3,0,0),[],0,(toNat ((length (map b_i a0)):Int))⟩))),(4,(.oi (wrap .i64 ((length p:Int)+1))))],[((3,0,0),.live ⟨1,(map d_i (set v0 (toNat (length p:Int)) x0)),[]⟩)]⟩:St)=h95_0 l0_0 a0 ((length p:Int)+1) (set v0 (toNat (length p:Int)) x0) from(by unfold h95_0; simp only[hw]; done)] at st
    exact .loopN st ih
def post95_0 (n0:Nat):O95_0→Prop
  |.k0 w0 _ _=>length w0=n0
theorem z95_0 {a0:(List Int)}:∀(y0:List Int) (i:Int) (v0:List Int),post95_0 (length v0) (r95_0 a0 y0 i v0)
  |[],i,v0=>by
    first | trivial |(simp only[post95_0,length_nil,Nat.add_zero]; done) |(simp[post95_0]; done)
  |x0::y0,i,v0=>by
    simp only[r95_0]
    have z:=z95_0 (a0:=a0) y0 (i+1) (set v0 (toNat i) x0)
    rw[show (length v0)=(length (set v0 (toNat i) x0)) from by first | omega |(simp only[length_map,length_set,length_append,length_replicate,length_cons,length_nil]; done) |(simp only[length_map,length_set,length_append,length_replicate,length_cons,length_nil]; omega)]
    exact z
/-! loop.example/g00539/laws.toInt64S -/
def m95 (a0:(List Int)):(List Int):=
  (match r95_0 a0 a0 0 (List.replicate (toNat ((length (map b_i a0)):Int)) 0) with | .k0 w0_1 w1_1 w2_1=>w0_1)
theorem e95 {l0_0:Nat} {a0:(List Int)} (hy0:length a0*8≤140737488351232):Ev F X (.call 95 [(.one (.bor l0_0 (map b_i a0)))] [] [] [(.one (.own 1 (map d_i (m95 a0))))]):=by
  unfold m95
  have f0:0≤((length (map b_i a0)):Int)∧((length (map b_i a0)):Int)≤((length (map b_i a0)):Int)∧((length (map b_i a0)):Int)≤140737488355328∧((length (map b_i a0)):Int)*8≤140737488355328:=(by simp only[length_map]; omega)
  have f1:(List.replicate (toNat ((length (map b_i a0)):Int)) [(.val (.int .i64 0))])=(map d_i (List.replicate (toNat ((length (map b_i a0)):Int)) 0)):=(by simp[byteRows_eq,ints_y,take_of_length_le,d_i,d_iiLiE,d_iLiE,d_iLiiLiEELiLiEE,d_iiiiiLiLiiLiEELiLiEEE,d_LiiiiiLiLiiLiEELiLiEEEE,d_b,d_iiiiLiLiiLiEELiLiEEE,d_LiE,d_LiLiiLiEELiLiEEE,d_LiiLiEE,d_LiLiEE,d_y,d_LyE,d_LLyEE,fromBR_i,fromBR_b,fromBR_y,four_len]; done)
  cases h0:r95_0 a0 a0 0 (List.replicate (toNat ((length (map b_i a0)):Int)) 0) with
  |k0 w0_1 w1_1 w2_1=>
    try dsimp only
    have zh0:=z95_0 (a0:=a0) a0 0 (List.replicate (toNat ((length (map b_i a0)):Int)) 0); rw[h0] at zh0; simp only[post95_0,length_map,length_set,length_append,length_replicate,length_cons,length_nil,Int.toNat_natCast] at zh0
    have f2:(⟨[(0,(.one (.bor l0_0 (map b_i a0)))),(3,(.one (.ref ⟨(3,0,0),[],0,(toNat ((length (map b_i a0)):Int))⟩))),(4,(.oi 0))],[((3,0,0),.live ⟨1,(map d_i (List.replicate (toNat ((length (map b_i a0)):Int)) 0)),[]⟩)]⟩:St)=h95_0 l0_0 a0 0 (List.replicate (toNat ((length (map b_i a0)):Int)) 0):=(by rfl)
    have f5:(toNat ((length (map b_i a0)):Int))=(length (map d_i w0_1)):=(by simp only[length_map]; omega)
    exact cp (by kernel_rfl) (.f f0 (.f f1 (.f f2 (.f (ev_ (e:=ex95_0) (g:=(fin95_0 l0_0 a0)) h0 (t95_0 (l0_0:=l0_0) (a0:=a0) (by assumption) a0 [] (List.replicate (toNat ((length (map b_i a0)):Int)) 0) rfl (by simp only[length_map,length_set,length_append,length_replicate,length_cons,length_nil]; done))) (pe 0 (.f f5 (.f (pureR_i w0_1) (.h 10 (.norm (3,0,0) (map d_i (List.replicate (toNat ((length (map b_i a0)):Int)) 0))) (.h 13 (.loop (h95_0 l0_0 a0 0 (List.replicate (toNat ((length (map b_i a0)):Int)) 0)) (.exit 0) ⟨[(0,(.one (.bor l0_0 (map b_i a0)))),(3,(.one (.ref ⟨(3,0,0),[],0,(toNat ((length (map b_i a0)):Int))⟩))),(4,(.one (.val (.int .i64 w1_1)))),(11,(.one (.val (.bool w2_1))))],[((3,0,0),.live ⟨1,(map d_i w0_1),[]⟩)]⟩) .nil)))))))))
theorem c95_0 (a0:List Int):∀(l p q:List Int),q.length=l.length→∃w1 w2,r95_0 a0 l (p.length:Int) (p++q)=.k0 (p++l) w1 w2
  |[],p,[],_=>⟨_,_,rfl⟩
  |[],_,_::_,h=>by simp at h
  |_::_,_,[],h=>by simp at h
  |x::l,p,y::q,h=>by
    have ih:=c95_0 a0 l (p++ [x]) q (by simpa using h)
    have e:set (p++y::q) (toNat (p.length:Int)) x=(p++ [x])++q:=by simp
    have e2:((p++ [x]).length:Int)=(p.length:Int)+1:=by simp
    rw[e2] at ih
    simp only[r95_0]
    rw[show p++x::l=(p++ [x])++l by simp]
    first |(rw[e]; exact ih) |(simp only[e]; exact ih)
theorem q95 (a0:(List Int)) (hy0:length a0*8≤140737488351232):(m95 a0)=a0:=by
  have h:=c95_0 a0 a0 [] (List.replicate (toNat ((length (map b_i a0)):Int)) 0) (by simp)
  unfold m95
  simp only[List.nil_append,length_nil] at h
  obtain⟨_,_,h⟩:=h
  rw[show ((0:Nat):Int)=0 from rfl] at h
  rw[h]
theorem g95 {l0_0:Nat} {a0:(List Int)} (hy0:length a0*8≤140737488351232):Ev F X (.call 95 [(.one (.bor l0_0 (map b_i a0)))] [] [] [(.one (.own 1 (map d_i a0)))]):=by
  have t:=e95 (l0_0:=l0_0) (a0:=a0) hy0
  rw[q95 a0 hy0] at t
  exact t
theorem e84 {l0_2:Nat} {a0:K_iiLiE} (hy0:length a0.f2*8≤140737488351232):Ev F X (.call 84 [(.agg (k_iiLiE l0_2 a0))] [] [] [(.agg (d_iiLiE a0))]):=by
  exact cp (by kernel_rfl) (.r 27 [] [] (g95 (l0_0:=(l0_2+1)) (a0:=a0.f2) ‹_›) (pe 0 (pe (length (map d_i a0.f2)) (pe 0 (pe (length (map d_i a0.f2)) (.f (pureR_i a0.f2) .nil))))))
/-! loop 63_0 -/
inductive O63_0 where
  |k0 (w0:List K_iiLiE) (w1:Int) (w2:Bool)
def r63_0 (a0:(List K_iiLiE)):List K_iiLiE→Int→List K_iiLiE→O63_0
  |x0::y0,i,v0=>
    (r63_0 a0 y0 (i+1) (set v0 (toNat i) x0))
  |[],i,v0=>(O63_0.k0 v0 i (decide (i <((length (map b_iiLiE a0)):Int))))
def h63_0 (l0_0:Nat) (a0:(List K_iiLiE)) (i:Int) (v0:List K_iiLiE):St:=⟨[(0,(.one (.bor l0_0 (map b_iiLiE a0)))),(3,(.one (.ref ⟨(3,0,0),[],0,(toNat ((length (map b_iiLiE a0)):Int))⟩))),(4,(.one (.val (.int .i64 i))))],[((3,0,0),.live ⟨3,(map d_iiLiE v0),[]⟩)]⟩
def ex63_0:O63_0→VX.Exit
  |.k0 _ _ _=>(.exit 0)
def fin63_0 (l0_0:Nat) (a0:(List K_iiLiE)):O63_0→St
  |.k0 w0 w1 w2=>⟨[(0,(.one (.bor l0_0 (map b_iiLiE a0)))),(3,(.one (.ref ⟨(3,0,0),[],0,(toNat ((length (map b_iiLiE a0)):Int))⟩))),(4,(.one (.val (.int .i64 w1)))),(11,(.one (.val (.bool w2))))],[((3,0,0),.live ⟨3,(map d_iiLiE w0),[]⟩)]⟩
theorem t63_0 {l0_0:Nat} {a0:(List K_iiLiE)} (hy0:length a0*40≤140737488351232) (hy1:∀z∈a0,ok_iiLiE z):∀(y0:List K_iiLiE) (p:List K_iiLiE) (v0:List K_iiLiE),p++y0=a0→length v0=(toNat ((length (map b_iiLiE a0)):Int))→Ev F X (.code l63_0 (h63_0 l0_0 a0 (length p:Int) v0) (ex63_0 (r63_0 a0 y0 (length p:Int) v0)) (fin63_0 l0_0 a0 (r63_0 a0 y0 (length p:Int) v0)))
  |[],p,v0,hp0,hi0=>by
    have hc:¬(decide ((length p:Int) <((length (map b_iiLiE a0)):Int)))=true:=by
      rw[← hp0]; simp only[length_map,length_set,length_append,length_replicate,length_cons,length_nil,decide_eq_true_eq]; omega
    have hj0:=hi0; try simp only[length_map,length_set,length_append,length_replicate,length_cons,length_nil,Int.toNat_natCast] at hj0
    have st:=ch b63_0 (h63_0 l0_0 a0 (length p:Int) v0) ⟨[(0,(.one (.bor l0_0 (map b_iiLiE a0)))),(3,(.one (.ref ⟨(3,0,0),[],0,(toNat ((length (map b_iiLiE a0)):Int))⟩))),(4,(.oi (length p:Int))),(11,(.one (.val (.bool (decide ((length p:Int) <((length (map b_iiLiE a0)):Int)))))))],[((3,0,0),.live ⟨3,(map d_iiLiE v0),[]⟩)]⟩ (.exit 0) 9 (by kernel_rfl) (.f (nt hc) (.h 8 (.b false) .nil))
    rw[show (⟨[(0,(.one (.bor l0_0 (map b_iiLiE a0)))),(3,(.one (.ref ⟨(3,0,0),[],0,(toNat ((length (map b_iiLiE a0)):Int))⟩))),(4,(.oi (length p:Int))),(11,(.one (.val (.bool (decide ((length p:Int) <((length (map b_iiLiE a0)):Int)))))))],[((3,0,0),.live ⟨3,(map d_iiLiE v0),[]⟩)]⟩:St)=fin63_0 l0_0 a0 (.k0 v0 (length p:Int) (decide ((length p:Int) <((length (map b_iiLiE a0)):Int)))) from(by rfl)] at st
    exact .loopX st (show ((.exit 0):VX.Exit)≠.normal from by simp)
  |x0::y0,p,v0,hp0,hi0=>by
    have hc:(decide ((length p:Int) <((length (map b_iiLiE a0)):Int)))=true:=by
      rw[← hp0]; simp only[length_map,length_set,length_append,length_replicate,length_cons,length_nil,decide_eq_true_eq]; omega
    have Hx0:(a0)[toNat (length p:Int)]?=some x0:=by
      rw[← hp0,Int.toNat_natCast]; simp
    have Mx0_0:=hy1 x0 (List.mem_of_getElem? Hx0)
    have hlen:length (a0)=length p+length y0+1:=by rw[← hp0]; simp; omega
    have hw:wrap .i64 ((length p:Int)+1)=(length p:Int)+1:=wrap64 (by omega)
    have hj0:=hi0; try simp only[length_map,length_set,length_append,length_replicate,length_cons,length_nil,Int.toNat_natCast] at hj0
    obtain⟨x1,Hx1⟩:∃y,v0[toNat (length p:Int)]?=some y:=⟨_,List.getElem?_eq_getElem (by omega)⟩
    simp only[r63_0]
    have f1:0≤(length p:Int):=(by omega)
    have f4:0+(toNat ((length (map b_iiLiE a0)):Int))≤(length (map d_iiLiE v0)):=(by simp only[length_map]; omega)
    have f5:0≤(length p:Int)∧(length p:Int) <((toNat ((length (map b_iiLiE a0)):Int)):Int):=(by omega)
    have f9:(set (map d_iiLiE v0) (0+(toNat (length p:Int))) (d_iiLiE x0))=(map d_iiLiE (set v0 (toNat (length p:Int)) x0)):=(by simp[byteRows_eq,ints_y,take_of_length_le,d_i,d_iiLiE,d_iLiE,d_iLiiLiEELiLiEE,d_iiiiiLiLiiLiEELiLiEEE,d_LiiiiiLiLiiLiEELiLiEEEE,d_b,d_iiiiLiLiiLiEELiLiEEE,d_LiE,d_LiLiiLiEELiLiEEE,d_LiiLiEE,d_LiLiEE,d_y,d_LyE,d_LLyEE,fromBR_i,fromBR_b,fromBR_y,four_len]; done)
    have st:=ch b63_0 (h63_0 l0_0 a0 (length p:Int) v0) ⟨[(0,(.one (.bor l0_0 (map b_iiLiE a0)))),(3,(.one (.ref ⟨(3,0,0),[],0,(toNat ((length (map b_iiLiE a0)):Int))⟩))),(4,(.oi (wrap .i64 ((length p:Int)+1))))],[((3,0,0),.live ⟨3,(map d_iiLiE (set v0 (toNat (length p:Int)) x0)),[]⟩)]⟩ .normal 34 (by kernel_rfl) (.f hc (.f f1 (.f (mp_ b_iiLiE Hx0) (.h 8 (.b true) (.h 18 (.row (b_iiLiE x0)) (.r 22 [] [] (e84 (l0_2:=(l0_0+1)) (a0:=x0) (by assumption)) (.f f4 (.f f5 (pe 0 (pe (length (map d_i x0.f2)) (.f (mz_ d_iiLiE Hx1) (.f f9 (.f trivial (.h 26 (.rowD (d_iiLiE x1)) (.h 27 (.norm (3,0,0) (map d_iiLiE (set v0 (toNat (length p:Int)) x0))) .nil)))))))))))))))
    have ih:=t63_0 (l0_0:=l0_0) (a0:=a0) hy0 hy1 y0 (p++ [x0]) (set v0 (toNat (length p:Int)) x0) (by rw[append_assoc]; exact hp0) (by simp only[length_map,length_set,length_append,length_replicate,length_cons,length_nil]; omega)
    rw[show ((p++ [x0]).length:Int)=(p.length:Int)+1 from by simp] at ih
    rw[show (⟨[(0,(.one (.bor l0_0 (map b_iiLiE a0)))),(3,(.one (.ref ⟨(3,0,0),[],0,(toNat ((length (map b_iiLiE a0)):Int))⟩))),(4,(.oi (wrap .i64 ((length p:Int)+1))))],[((3,0,0),.live ⟨3,(map d_iiLiE (set v0 (toNat (length p:Int)) x0)),[]⟩)]⟩:St)=h63_0 l0_0 a0 ((length p:Int)+1) (set v0 (toNat (length p:Int)) x0) from(by unfold h63_0; simp only[hw]; done)] at st
    exact .loopN st ih
def post63_0 (n0:Nat):O63_0→Prop
  |.k0 w0 _ _=>length w0=n0
theorem z63_0 {a0:(List K_iiLiE)}:∀(y0:List K_iiLiE) (i:Int) (v0:List K_iiLiE),post63_0 (length v0) (r63_0 a0 y0 i v0)
  |[],i,v0=>by
    first | trivial |(simp only[post63_0,length_nil,Nat.add_zero]; done) |(simp[post63_0]; done)
  |x0::y0,i,v0=>by
    simp only[r63_0]
    have z:=z63_0 (a0:=a0) y0 (i+1) (set v0 (toNat i) x0)
    rw[show (length v0)=(length (set v0 (toNat i) x0)) from by first | omega |(simp only[length_map,length_set,length_append,length_replicate,length_cons,length_nil]; done) |(simp only[length_map,length_set,length_append,length_replicate,length_cons,length_nil]; omega)]
    exact z
/-! loop.example/g00539/laws.toInS -/
def m63 (a0:(List K_iiLiE)):(List K_iiLiE):=
  (match r63_0 a0 a0 0 (List.replicate (toNat ((length (map b_iiLiE a0)):Int)) (K_iiLiE.mk 0 0 [])) with | .k0 w0_1 w1_1 w2_1=>w0_1)
theorem e63 {l0_0:Nat} {a0:(List K_iiLiE)} (hy0:length a0*40≤140737488351232) (hy1:∀z∈a0,ok_iiLiE z):Ev F X (.call 63 [(.one (.bor l0_0 (map b_iiLiE a0)))] [] [] [(.one (.own 3 (map d_iiLiE (m63 a0))))]):=by
  unfold m63
  have f0:0≤((length (map b_iiLiE a0)):Int)∧((length (map b_iiLiE a0)):Int)≤((length (map b_iiLiE a0)):Int)∧((length (map b_iiLiE a0)):Int)≤140737488355328∧((length (map b_iiLiE a0)):Int)*40≤140737488355328:=(by simp only[length_map]; omega)
  have f1:(List.replicate (toNat ((length (map b_iiLiE a0)):Int)) [(.val (.int .i64 0)),(.val (.int .i64 0)),(.own 1 [])])=(map d_iiLiE (List.replicate (toNat ((length (map b_iiLiE a0)):Int)) (K_iiLiE.mk 0 0 []))):=(by simp[byteRows_eq,ints_y,take_of_length_le,d_i,d_iiLiE,d_iLiE,d_iLiiLiEELiLiEE,d_iiiiiLiLiiLiEELiLiEEE,d_LiiiiiLiLiiLiEELiLiEEEE,d_b,d_iiiiLiLiiLiEELiLiEEE,d_LiE,d_LiLiiLiEELiLiEEE,d_LiiLiEE,d_LiLiEE,d_y,d_LyE,d_LLyEE,fromBR_i,fromBR_b,fromBR_y,four_len]; done)
  cases h0:r63_0 a0 a0 0 (List.replicate (toNat ((length (map b_iiLiE a0)):Int)) (K_iiLiE.mk 0 0 [])) with
  |k0 w0_1 w1_1 w2_1=>
    try dsimp only
    have zh0:=z63_0 (a0:=a0) a0 0 (List.replicate (toNat ((length (map b_iiLiE a0)):Int)) (K_iiLiE.mk 0 0 [])); rw[h0] at zh0; simp only[post63_0,length_map,length_set,length_append,length_replicate,length_cons,length_nil,Int.toNat_natCast] at zh0
    have f2:(⟨[(0,(.one (.bor l0_0 (map b_iiLiE a0)))),(3,(.one (.ref ⟨(3,0,0),[],0,(toNat ((length (map b_iiLiE a0)):Int))⟩))),(4,(.oi 0))],[((3,0,0),.live ⟨3,(map d_iiLiE (List.replicate (toNat ((length (map b_iiLiE a0)):Int)) (K_iiLiE.mk 0 0 []))),[]⟩)]⟩:St)=h63_0 l0_0 a0 0 (List.replicate (toNat ((length (map b_iiLiE a0)):Int)) (K_iiLiE.mk 0 0 [])):=(by rfl)
    have f5:(toNat ((length (map b_iiLiE a0)):Int))=(length (map d_iiLiE w0_1)):=(by simp only[length_map]; omega)
    exact cp (by kernel_rfl) (.f f0 (.f f1 (.f f2 (.f (ev_ (e:=ex63_0) (g:=(fin63_0 l0_0 a0)) h0 (t63_0 (l0_0:=l0_0) (a0:=a0) (by assumption) (by assumption) a0 [] (List.replicate (toNat ((length (map b_iiLiE a0)):Int)) (K_iiLiE.mk 0 0 [])) rfl (by simp only[length_map,length_set,length_append,length_replicate,length_cons,length_nil]; done))) (pe 0 (.f f5 (.f (pureR_iiLiE w0_1) (.h 10 (.norm (3,0,0) (map d_iiLiE (List.replicate (toNat ((length (map b_iiLiE a0)):Int)) (K_iiLiE.mk 0 0 [])))) (.h 13 (.loop (h63_0 l0_0 a0 0 (List.replicate (toNat ((length (map b_iiLiE a0)):Int)) (K_iiLiE.mk 0 0 []))) (.exit 0) ⟨[(0,(.one (.bor l0_0 (map b_iiLiE a0)))),(3,(.one (.ref ⟨(3,0,0),[],0,(toNat ((length (map b_iiLiE a0)):Int))⟩))),(4,(.one (.val (.int .i64 w1_1)))),(11,(.one (.val (.bool w2_1))))],[((3,0,0),.live ⟨3,(map d_iiLiE w0_1),[]⟩)]⟩) .nil)))))))))
theorem c63_0 (a0:List K_iiLiE):∀(l p q:List K_iiLiE),q.length=l.length→∃w1 w2,r63_0 a0 l (p.length:Int) (p++q)=.k0 (p++l) w1 w2
  |[],p,[],_=>⟨_,_,rfl⟩
  |[],_,_::_,h=>by simp at h
  |_::_,_,[],h=>by simp at h
  |x::l,p,y::q,h=>by
    have ih:=c63_0 a0 l (p++ [x]) q (by simpa using h)
    have e:set (p++y::q) (toNat (p.length:Int)) x=(p++ [x])++q:=by simp
    have e2:((p++ [x]).length:Int)=(p.length:Int)+1:=by simp
    rw[e2] at ih
    simp only[r63_0]
    rw[show p++x::l=(p++ [x])++l by simp]
    first |(rw[e]; exact ih) |(simp only[e]; exact ih)
theorem q63 (a0:(List K_iiLiE)) (hy0:length a0*40≤140737488351232) (hy1:∀z∈a0,ok_iiLiE z):(m63 a0)=a0:=by
  have h:=c63_0 a0 a0 [] (List.replicate (toNat ((length (map b_iiLiE a0)):Int)) (K_iiLiE.mk 0 0 [])) (by simp)
  unfold m63
  simp only[List.nil_append,length_nil] at h
  obtain⟨_,_,h⟩:=h
  rw[show ((0:Nat):Int)=0 from rfl] at h
  rw[h]
theorem g63 {l0_0:Nat} {a0:(List K_iiLiE)} (hy0:length a0*40≤140737488351232) (hy1:∀z∈a0,ok_iiLiE z):Ev F X (.call 63 [(.one (.bor l0_0 (map b_iiLiE a0)))] [] [] [(.one (.own 3 (map d_iiLiE a0)))]):=by
  have t:=e63 (l0_0:=l0_0) (a0:=a0) hy0 hy1
  rw[q63 a0 hy0 hy1] at t
  exact t
theorem e85 {l0_1:Nat} {a0:K_iLiE} (hy0:length a0.f1*8≤140737488351232):Ev F X (.call 85 [(.agg (k_iLiE l0_1 a0))] [] [] [(.agg (d_iLiE a0))]):=by
  exact cp (by kernel_rfl) (.r 19 [] [] (g95 (l0_0:=(l0_1+1)) (a0:=a0.f1) ‹_›) (pe 0 (pe (length (map d_i a0.f1)) (pe 0 (pe (length (map d_i a0.f1)) (.f (pureR_i a0.f1) .nil))))))
/-! loop 64_0 -/
inductive O64_0 where
  |k0 (w0:List K_iLiE) (w1:Int) (w2:Bool)
def r64_0 (a0:(List K_iLiE)):List K_iLiE→Int→List K_iLiE→O64_0
  |x0::y0,i,v0=>
    (r64_0 a0 y0 (i+1) (set v0 (toNat i) x0))
  |[],i,v0=>(O64_0.k0 v0 i (decide (i <((length (map b_iLiE a0)):Int))))
def h64_0 (l0_0:Nat) (a0:(List K_iLiE)) (i:Int) (v0:List K_iLiE):St:=⟨[(0,(.one (.bor l0_0 (map b_iLiE a0)))),(3,(.one (.ref ⟨(3,0,0),[],0,(toNat ((length (map b_iLiE a0)):Int))⟩))),(4,(.one (.val (.int .i64 i))))],[((3,0,0),.live ⟨2,(map d_iLiE v0),[]⟩)]⟩
def ex64_0:O64_0→VX.Exit
  |.k0 _ _ _=>(.exit 0)
def fin64_0 (l0_0:Nat) (a0:(List K_iLiE)):O64_0→St
  |.k0 w0 w1 w2=>⟨[(0,(.one (.bor l0_0 (map b_iLiE a0)))),(3,(.one (.ref ⟨(3,0,0),[],0,(toNat ((length (map b_iLiE a0)):Int))⟩))),(4,(.one (.val (.int .i64 w1)))),(11,(.one (.val (.bool w2))))],[((3,0,0),.live ⟨2,(map d_iLiE w0),[]⟩)]⟩
theorem t64_0 {l0_0:Nat} {a0:(List K_iLiE)} (hy0:length a0*32≤140737488351232) (hy1:∀z∈a0,ok_iLiE z):∀(y0:List K_iLiE) (p:List K_iLiE) (v0:List K_iLiE),p++y0=a0→length v0=(toNat ((length (map b_iLiE a0)):Int))→Ev F X (.code l64_0 (h64_0 l0_0 a0 (length p:Int) v0) (ex64_0 (r64_0 a0 y0 (length p:Int) v0)) (fin64_0 l0_0 a0 (r64_0 a0 y0 (length p:Int) v0)))
  |[],p,v0,hp0,hi0=>by
    have hc:¬(decide ((length p:Int) <((length (map b_iLiE a0)):Int)))=true:=by
      rw[← hp0]; simp only[length_map,length_set,length_append,length_replicate,length_cons,length_nil,decide_eq_true_eq]; omega
    have hj0:=hi0; try simp only[length_map,length_set,length_append,length_replicate,length_cons,length_nil,Int.toNat_natCast] at hj0
    have st:=ch b64_0 (h64_0 l0_0 a0 (length p:Int) v0) ⟨[(0,(.one (.bor l0_0 (map b_iLiE a0)))),(3,(.one (.ref ⟨(3,0,0),[],0,(toNat ((length (map b_iLiE a0)):Int))⟩))),(4,(.oi (length p:Int))),(11,(.one (.val (.bool (decide ((length p:Int) <((length (map b_iLiE a0)):Int)))))))],[((3,0,0),.live ⟨2,(map d_iLiE v0),[]⟩)]⟩ (.exit 0) 9 (by kernel_rfl) (.f (nt hc) (.h 8 (.b false) .nil))
    rw[show (⟨[(0,(.one (.bor l0_0 (map b_iLiE a0)))),(3,(.one (.ref ⟨(3,0,0),[],0,(toNat ((length (map b_iLiE a0)):Int))⟩))),(4,(.oi (length p:Int))),(11,(.one (.val (.bool (decide ((length p:Int) <((length (map b_iLiE a0)):Int)))))))],[((3,0,0),.live ⟨2,(map d_iLiE v0),[]⟩)]⟩:St)=fin64_0 l0_0 a0 (.k0 v0 (length p:Int) (decide ((length p:Int) <((length (map b_iLiE a0)):Int)))) from(by rfl)] at st
    exact .loopX st (show ((.exit 0):VX.Exit)≠.normal from by simp)
  |x0::y0,p,v0,hp0,hi0=>by
    have hc:(decide ((length p:Int) <((length (map b_iLiE a0)):Int)))=true:=by
      rw[← hp0]; simp only[length_map,length_set,length_append,length_replicate,length_cons,length_nil,decide_eq_true_eq]; omega
    have Hx0:(a0)[toNat (length p:Int)]?=some x0:=by
      rw[← hp0,Int.toNat_natCast]; simp
    have Mx0_0:=hy1 x0 (List.mem_of_getElem? Hx0)
    have hlen:length (a0)=length p+length y0+1:=by rw[← hp0]; simp; omega
    have hw:wrap .i64 ((length p:Int)+1)=(length p:Int)+1:=wrap64 (by omega)
    have hj0:=hi0; try simp only[length_map,length_set,length_append,length_replicate,length_cons,length_nil,Int.toNat_natCast] at hj0
    obtain⟨x1,Hx1⟩:∃y,v0[toNat (length p:Int)]?=some y:=⟨_,List.getElem?_eq_getElem (by omega)⟩
    simp only[r64_0]
    have f1:0≤(length p:Int):=(by omega)
    have f4:0+(toNat ((length (map b_iLiE a0)):Int))≤(length (map d_iLiE v0)):=(by simp only[length_map]; omega)
    have f5:0≤(length p:Int)∧(length p:Int) <((toNat ((length (map b_iLiE a0)):Int)):Int):=(by omega)
    have f9:(set (map d_iLiE v0) (0+(toNat (length p:Int))) (d_iLiE x0))=(map d_iLiE (set v0 (toNat (length p:Int)) x0)):=(by simp[byteRows_eq,ints_y,take_of_length_le,d_i,d_iiLiE,d_iLiE,d_iLiiLiEELiLiEE,d_iiiiiLiLiiLiEELiLiEEE,d_LiiiiiLiLiiLiEELiLiEEEE,d_b,d_iiiiLiLiiLiEELiLiEEE,d_LiE,d_LiLiiLiEELiLiEEE,d_LiiLiEE,d_LiLiEE,d_y,d_LyE,d_LLyEE,fromBR_i,fromBR_b,fromBR_y,four_len]; done)
    have st:=ch b64_0 (h64_0 l0_0 a0 (length p:Int) v0) ⟨[(0,(.one (.bor l0_0 (map b_iLiE a0)))),(3,(.one (.ref ⟨(3,0,0),[],0,(toNat ((length (map b_iLiE a0)):Int))⟩))),(4,(.oi (wrap .i64 ((length p:Int)+1))))],[((3,0,0),.live ⟨2,(map d_iLiE (set v0 (toNat (length p:Int)) x0)),[]⟩)]⟩ .normal 34 (by kernel_rfl) (.f hc (.f f1 (.f (mp_ b_iLiE Hx0) (.h 8 (.b true) (.h 18 (.row (b_iLiE x0)) (.r 22 [] [] (e85 (l0_1:=(l0_0+1)) (a0:=x0) (by assumption)) (.f f4 (.f f5 (pe 0 (pe (length (map d_i x0.f1)) (.f (mz_ d_iLiE Hx1) (.f f9 (.f trivial (.h 26 (.rowD (d_iLiE x1)) (.h 27 (.norm (3,0,0) (map d_iLiE (set v0 (toNat (length p:Int)) x0))) .nil)))))))))))))))
    have ih:=t64_0 (l0_0:=l0_0) (a0:=a0) hy0 hy1 y0 (p++ [x0]) (set v0 (toNat (length p:Int)) x0) (by rw[append_assoc]; exact hp0) (by simp only[length_map,length_set,length_append,length_replicate,length_cons,length_nil]; omega)
    rw[show ((p++ [x0]).length:Int)=(p.length:Int)+1 from by simp] at ih
    rw[show (⟨[(0,(.one (.bor l0_0 (map b_iLiE a0)))),(3,(.one (.ref ⟨(3,0,0),[],0,(toNat ((length (map b_iLiE a0)):Int))⟩))),(4,(.oi (wrap .i64 ((length p:Int)+1))))],[((3,0,0),.live ⟨2,(map d_iLiE (set v0 (toNat (length p:Int)) x0)),[]⟩)]⟩:St)=h64_0 l0_0 a0 ((length p:Int)+1) (set v0 (toNat (length p:Int)) x0) from(by unfold h64_0; simp only[hw]; done)] at st
    exact .loopN st ih
def post64_0 (n0:Nat):O64_0→Prop
  |.k0 w0 _ _=>length w0=n0
theorem z64_0 {a0:(List K_iLiE)}:∀(y0:List K_iLiE) (i:Int) (v0:List K_iLiE),post64_0 (length v0) (r64_0 a0 y0 i v0)
  |[],i,v0=>by
    first | trivial |(simp only[post64_0,length_nil,Nat.add_zero]; done) |(simp[post64_0]; done)
  |x0::y0,i,v0=>by
    simp only[r64_0]
    have z:=z64_0 (a0:=a0) y0 (i+1) (set v0 (toNat i) x0)
    rw[show (length v0)=(length (set v0 (toNat i) x0)) from by first | omega |(simp only[length_map,length_set,length_append,length_replicate,length_cons,length_nil]; done) |(simp only[length_map,length_set,length_append,length_replicate,length_cons,length_nil]; omega)]
    exact z
/-! loop.example/g00539/laws.toOutS -/
def m64 (a0:(List K_iLiE)):(List K_iLiE):=
  (match r64_0 a0 a0 0 (List.replicate (toNat ((length (map b_iLiE a0)):Int)) (K_iLiE.mk 0 [])) with | .k0 w0_1 w1_1 w2_1=>w0_1)
theorem e64 {l0_0:Nat} {a0:(List K_iLiE)} (hy0:length a0*32≤140737488351232) (hy1:∀z∈a0,ok_iLiE z):Ev F X (.call 64 [(.one (.bor l0_0 (map b_iLiE a0)))] [] [] [(.one (.own 2 (map d_iLiE (m64 a0))))]):=by
  unfold m64
  have f0:0≤((length (map b_iLiE a0)):Int)∧((length (map b_iLiE a0)):Int)≤((length (map b_iLiE a0)):Int)∧((length (map b_iLiE a0)):Int)≤140737488355328∧((length (map b_iLiE a0)):Int)*32≤140737488355328:=(by simp only[length_map]; omega)
  have f1:(List.replicate (toNat ((length (map b_iLiE a0)):Int)) [(.val (.int .i64 0)),(.own 1 [])])=(map d_iLiE (List.replicate (toNat ((length (map b_iLiE a0)):Int)) (K_iLiE.mk 0 []))):=(by simp[byteRows_eq,ints_y,take_of_length_le,d_i,d_iiLiE,d_iLiE,d_iLiiLiEELiLiEE,d_iiiiiLiLiiLiEELiLiEEE,d_LiiiiiLiLiiLiEELiLiEEEE,d_b,d_iiiiLiLiiLiEELiLiEEE,d_LiE,d_LiLiiLiEELiLiEEE,d_LiiLiEE,d_LiLiEE,d_y,d_LyE,d_LLyEE,fromBR_i,fromBR_b,fromBR_y,four_len]; done)
  cases h0:r64_0 a0 a0 0 (List.replicate (toNat ((length (map b_iLiE a0)):Int)) (K_iLiE.mk 0 [])) with
  |k0 w0_1 w1_1 w2_1=>
    try dsimp only
    have zh0:=z64_0 (a0:=a0) a0 0 (List.replicate (toNat ((length (map b_iLiE a0)):Int)) (K_iLiE.mk 0 [])); rw[h0] at zh0; simp only[post64_0,length_map,length_set,length_append,length_replicate,length_cons,length_nil,Int.toNat_natCast] at zh0
    have f2:(⟨[(0,(.one (.bor l0_0 (map b_iLiE a0)))),(3,(.one (.ref ⟨(3,0,0),[],0,(toNat ((length (map b_iLiE a0)):Int))⟩))),(4,(.oi 0))],[((3,0,0),.live ⟨2,(map d_iLiE (List.replicate (toNat ((length (map b_iLiE a0)):Int)) (K_iLiE.mk 0 []))),[]⟩)]⟩:St)=h64_0 l0_0 a0 0 (List.replicate (toNat ((length (map b_iLiE a0)):Int)) (K_iLiE.mk 0 [])):=(by rfl)
    have f5:(toNat ((length (map b_iLiE a0)):Int))=(length (map d_iLiE w0_1)):=(by simp only[length_map]; omega)
    exact cp (by kernel_rfl) (.f f0 (.f f1 (.f f2 (.f (ev_ (e:=ex64_0) (g:=(fin64_0 l0_0 a0)) h0 (t64_0 (l0_0:=l0_0) (a0:=a0) (by assumption) (by assumption) a0 [] (List.replicate (toNat ((length (map b_iLiE a0)):Int)) (K_iLiE.mk 0 [])) rfl (by simp only[length_map,length_set,length_append,length_replicate,length_cons,length_nil]; done))) (pe 0 (.f f5 (.f (pureR_iLiE w0_1) (.h 10 (.norm (3,0,0) (map d_iLiE (List.replicate (toNat ((length (map b_iLiE a0)):Int)) (K_iLiE.mk 0 [])))) (.h 13 (.loop (h64_0 l0_0 a0 0 (List.replicate (toNat ((length (map b_iLiE a0)):Int)) (K_iLiE.mk 0 []))) (.exit 0) ⟨[(0,(.one (.bor l0_0 (map b_iLiE a0)))),(3,(.one (.ref ⟨(3,0,0),[],0,(toNat ((length (map b_iLiE a0)):Int))⟩))),(4,(.one (.val (.int .i64 w1_1)))),(11,(.one (.val (.bool w2_1))))],[((3,0,0),.live ⟨2,(map d_iLiE w0_1),[]⟩)]⟩) .nil)))))))))
theorem c64_0 (a0:List K_iLiE):∀(l p q:List K_iLiE),q.length=l.length→∃w1 w2,r64_0 a0 l (p.length:Int) (p++q)=.k0 (p++l) w1 w2
  |[],p,[],_=>⟨_,_,rfl⟩
  |[],_,_::_,h=>by simp at h
  |_::_,_,[],h=>by simp at h
  |x::l,p,y::q,h=>by
    have ih:=c64_0 a0 l (p++ [x]) q (by simpa using h)
    have e:set (p++y::q) (toNat (p.length:Int)) x=(p++ [x])++q:=by simp
    have e2:((p++ [x]).length:Int)=(p.length:Int)+1:=by simp
    rw[e2] at ih
    simp only[r64_0]
    rw[show p++x::l=(p++ [x])++l by simp]
    first |(rw[e]; exact ih) |(simp only[e]; exact ih)
theorem q64 (a0:(List K_iLiE)) (hy0:length a0*32≤140737488351232) (hy1:∀z∈a0,ok_iLiE z):(m64 a0)=a0:=by
  have h:=c64_0 a0 a0 [] (List.replicate (toNat ((length (map b_iLiE a0)):Int)) (K_iLiE.mk 0 [])) (by simp)
  unfold m64
  simp only[List.nil_append,length_nil] at h
  obtain⟨_,_,h⟩:=h
  rw[show ((0:Nat):Int)=0 from rfl] at h
  rw[h]
theorem g64 {l0_0:Nat} {a0:(List K_iLiE)} (hy0:length a0*32≤140737488351232) (hy1:∀z∈a0,ok_iLiE z):Ev F X (.call 64 [(.one (.bor l0_0 (map b_iLiE a0)))] [] [] [(.one (.own 2 (map d_iLiE a0)))]):=by
  have t:=e64 (l0_0:=l0_0) (a0:=a0) hy0 hy1
  rw[q64 a0 hy0 hy1] at t
  exact t
theorem e45 {l0_1:Nat} {l0_2:Nat} {a0:K_iLiiLiEELiLiEE} (hy0:length a0.f1*40≤140737488351232) (hy1:∀z∈a0.f1,ok_iiLiE z) (hy2:length a0.f2*32≤140737488351232) (hy3:∀z∈a0.f2,ok_iLiE z):Ev F X (.call 45 [(.agg (k_iLiiLiEELiLiEE l0_1 l0_2 a0))] [] [] [(.agg (d_iLiiLiEELiLiEE a0))]):=by
  exact cp (by kernel_rfl) (.r 19 [] [] (g63 (l0_0:=(l0_1+1)) (a0:=a0.f1) ‹_› ‹_›) (pe 0 (pe (length (map d_iiLiE a0.f1)) (.r 29 [] [] (g64 (l0_0:=(l0_2+1)) (a0:=a0.f2) ‹_› ‹_›) (pe 0 (pe (length (map d_iLiE a0.f2)) (pe 0 (pe (length (map d_iiLiE a0.f1)) (pe 0 (pe (length (map d_iLiE a0.f2)) (.f (pureR_iiLiE a0.f1) (.f (pureR_iLiE a0.f2) .nil))))))))))))
/-! loop 29_0 -/
inductive O29_0 where
  |k0 (w0:List K_iLiiLiEELiLiEE) (w1:Int) (w2:Bool)
def r29_0 (a0:(List K_iLiiLiEELiLiEE)):List K_iLiiLiEELiLiEE→Int→List K_iLiiLiEELiLiEE→O29_0
  |x0::y0,i,v0=>
    (r29_0 a0 y0 (i+1) (set v0 (toNat i) x0))
  |[],i,v0=>(O29_0.k0 v0 i (decide (i <((length (map b_iLiiLiEELiLiEE a0)):Int))))
def h29_0 (l0_0:Nat) (a0:(List K_iLiiLiEELiLiEE)) (i:Int) (v0:List K_iLiiLiEELiLiEE):St:=⟨[(0,(.one (.bor l0_0 (map b_iLiiLiEELiLiEE a0)))),(3,(.one (.ref ⟨(3,0,0),[],0,(toNat ((length (map b_iLiiLiEELiLiEE a0)):Int))⟩))),(4,(.one (.val (.int .i64 i))))],[((3,0,0),.live ⟨3,(map d_iLiiLiEELiLiEE v0),[]⟩)]⟩
def ex29_0:O29_0→VX.Exit
  |.k0 _ _ _=>(.exit 0)
def fin29_0 (l0_0:Nat) (a0:(List K_iLiiLiEELiLiEE)):O29_0→St
  |.k0 w0 w1 w2=>⟨[(0,(.one (.bor l0_0 (map b_iLiiLiEELiLiEE a0)))),(3,(.one (.ref ⟨(3,0,0),[],0,(toNat ((length (map b_iLiiLiEELiLiEE a0)):Int))⟩))),(4,(.one (.val (.int .i64 w1)))),(11,(.one (.val (.bool w2))))],[((3,0,0),.live ⟨3,(map d_iLiiLiEELiLiEE w0),[]⟩)]⟩
theorem t29_0 {l0_0:Nat} {a0:(List K_iLiiLiEELiLiEE)} (hy0:length a0*56≤140737488351232) (hy1:∀z∈a0,ok_iLiiLiEELiLiEE z):∀(y0:List K_iLiiLiEELiLiEE) (p:List K_iLiiLiEELiLiEE) (v0:List K_iLiiLiEELiLiEE),p++y0=a0→length v0=(toNat ((length (map b_iLiiLiEELiLiEE a0)):Int))→Ev F X (.code l29_0 (h29_0 l0_0 a0 (length p:Int) v0) (ex29_0 (r29_0 a0 y0 (length p:Int) v0)) (fin29_0 l0_0 a0 (r29_0 a0 y0 (length p:Int) v0)))
  |[],p,v0,hp0,hi0=>by
    have hc:¬(decide ((length p:Int) <((length (map b_iLiiLiEELiLiEE a0)):Int)))=true:=by
      rw[← hp0]; simp only[length_map,length_set,length_append,length_replicate,length_cons,length_nil,decide_eq_true_eq]; omega
    have hj0:=hi0; try simp only[length_map,length_set,length_append,length_replicate,length_cons,length_nil,Int.toNat_natCast] at hj0
    have st:=ch b29_0 (h29_0 l0_0 a0 (length p:Int) v0) ⟨[(0,(.one (.bor l0_0 (map b_iLiiLiEELiLiEE a0)))),(3,(.one (.ref ⟨(3,0,0),[],0,(toNat ((length (map b_iLiiLiEELiLiEE a0)):Int))⟩))),(4,(.oi (length p:Int))),(11,(.one (.val (.bool (decide ((length p:Int) <((length (map b_iLiiLiEELiLiEE a0)):Int)))))))],[((3,0,0),.live ⟨3,(map d_iLiiLiEELiLiEE v0),[]⟩)]⟩ (.exit 0) 9 (by kernel_rfl) (.f (nt hc) (.h 8 (.b false) .nil))
    rw[show (⟨[(0,(.one (.bor l0_0 (map b_iLiiLiEELiLiEE a0)))),(3,(.one (.ref ⟨(3,0,0),[],0,(toNat ((length (map b_iLiiLiEELiLiEE a0)):Int))⟩))),(4,(.oi (length p:Int))),(11,(.one (.val (.bool (decide ((length p:Int) <((length (map b_iLiiLiEELiLiEE a0)):Int)))))))],[((3,0,0),.live ⟨3,(map d_iLiiLiEELiLiEE v0),[]⟩)]⟩:St)=fin29_0 l0_0 a0 (.k0 v0 (length p:Int) (decide ((length p:Int) <((length (map b_iLiiLiEELiLiEE a0)):Int)))) from(by rfl)] at st
    exact .loopX st (show ((.exit 0):VX.Exit)≠.normal from by simp)
  |x0::y0,p,v0,hp0,hi0=>by
    have hc:(decide ((length p:Int) <((length (map b_iLiiLiEELiLiEE a0)):Int)))=true:=by
      rw[← hp0]; simp only[length_map,length_set,length_append,length_replicate,length_cons,length_nil,decide_eq_true_eq]; omega
    have Hx0:(a0)[toNat (length p:Int)]?=some x0:=by
      rw[← hp0,Int.toNat_natCast]; simp
    obtain⟨Mx0_0,Mx0_1,Mx0_2,Mx0_3⟩:=hy1 x0 (List.mem_of_getElem? Hx0)
    have hlen:length (a0)=length p+length y0+1:=by rw[← hp0]; simp; omega
    have hw:wrap .i64 ((length p:Int)+1)=(length p:Int)+1:=wrap64 (by omega)
    have hj0:=hi0; try simp only[length_map,length_set,length_append,length_replicate,length_cons,length_nil,Int.toNat_natCast] at hj0
    obtain⟨x1,Hx1⟩:∃y,v0[toNat (length p:Int)]?=some y:=⟨_,List.getElem?_eq_getElem (by omega)⟩
    simp only[r29_0]
    have f1:0≤(length p:Int):=(by omega)
    have f4:0+(toNat ((length (map b_iLiiLiEELiLiEE a0)):Int))≤(length (map d_iLiiLiEELiLiEE v0)):=(by simp only[length_map]; omega)
    have f5:0≤(length p:Int)∧(length p:Int) <((toNat ((length (map b_iLiiLiEELiLiEE a0)):Int)):Int):=(by omega)
    have f11:(set (map d_iLiiLiEELiLiEE v0) (0+(toNat (length p:Int))) (d_iLiiLiEELiLiEE x0))=(map d_iLiiLiEELiLiEE (set v0 (toNat (length p:Int)) x0)):=(by simp[byteRows_eq,ints_y,take_of_length_le,d_i,d_iiLiE,d_iLiE,d_iLiiLiEELiLiEE,d_iiiiiLiLiiLiEELiLiEEE,d_LiiiiiLiLiiLiEELiLiEEEE,d_b,d_iiiiLiLiiLiEELiLiEEE,d_LiE,d_LiLiiLiEELiLiEEE,d_LiiLiEE,d_LiLiEE,d_y,d_LyE,d_LLyEE,fromBR_i,fromBR_b,fromBR_y,four_len]; done)
    have st:=ch b29_0 (h29_0 l0_0 a0 (length p:Int) v0) ⟨[(0,(.one (.bor l0_0 (map b_iLiiLiEELiLiEE a0)))),(3,(.one (.ref ⟨(3,0,0),[],0,(toNat ((length (map b_iLiiLiEELiLiEE a0)):Int))⟩))),(4,(.oi (wrap .i64 ((length p:Int)+1))))],[((3,0,0),.live ⟨3,(map d_iLiiLiEELiLiEE (set v0 (toNat (length p:Int)) x0)),[]⟩)]⟩ .normal 34 (by kernel_rfl) (.f hc (.f f1 (.f (mp_ b_iLiiLiEELiLiEE Hx0) (.h 8 (.b true) (.h 18 (.row (b_iLiiLiEELiLiEE x0)) (.r 22 [] [] (e45 (l0_1:=(l0_0+1)) (l0_2:=(l0_0+1)) (a0:=x0) ‹_› ‹_› ‹_› ‹_›) (.f f4 (.f f5 (pe 0 (pe (length (map d_iiLiE x0.f1)) (pe 0 (pe (length (map d_iLiE x0.f2)) (.f (mz_ d_iLiiLiEELiLiEE Hx1) (.f f11 (.f trivial (.h 26 (.rowD (d_iLiiLiEELiLiEE x1)) (.h 27 (.norm (3,0,0) (map d_iLiiLiEELiLiEE (set v0 (toNat (length p:Int)) x0))) .nil)))))))))))))))))
    have ih:=t29_0 (l0_0:=l0_0) (a0:=a0) hy0 hy1 y0 (p++ [x0]) (set v0 (toNat (length p:Int)) x0) (by rw[append_assoc]; exact hp0) (by simp only[length_map,length_set,length_append,length_replicate,length_cons,length_nil]; omega)
    rw[show ((p++ [x0]).length:Int)=(p.length:Int)+1 from by simp] at ih
    rw[show (⟨[(0,(.one (.bor l0_0 (map b_iLiiLiEELiLiEE a0)))),(3,(.one (.ref ⟨(3,0,0),[],0,(toNat ((length (map b_iLiiLiEELiLiEE a0)):Int))⟩))),(4,(.oi (wrap .i64 ((length p:Int)+1))))],[((3,0,0),.live ⟨3,(map d_iLiiLiEELiLiEE (set v0 (toNat (length p:Int)) x0)),[]⟩)]⟩:St)=h29_0 l0_0 a0 ((length p:Int)+1) (set v0 (toNat (length p:Int)) x0) from(by unfold h29_0; simp only[hw]; done)] at st
    exact .loopN st ih
def post29_0 (n0:Nat):O29_0→Prop
  |.k0 w0 _ _=>length w0=n0
theorem z29_0 {a0:(List K_iLiiLiEELiLiEE)}:∀(y0:List K_iLiiLiEELiLiEE) (i:Int) (v0:List K_iLiiLiEELiLiEE),post29_0 (length v0) (r29_0 a0 y0 i v0)
  |[],i,v0=>by
    first | trivial |(simp only[post29_0,length_nil,Nat.add_zero]; done) |(simp[post29_0]; done)
  |x0::y0,i,v0=>by
    simp only[r29_0]
    have z:=z29_0 (a0:=a0) y0 (i+1) (set v0 (toNat i) x0)
    rw[show (length v0)=(length (set v0 (toNat i) x0)) from by first | omega |(simp only[length_map,length_set,length_append,length_replicate,length_cons,length_nil]; done) |(simp only[length_map,length_set,length_append,length_replicate,length_cons,length_nil]; omega)]
    exact z
/-! loop.example/g00539/laws.toTxS -/
def m29 (a0:(List K_iLiiLiEELiLiEE)):(List K_iLiiLiEELiLiEE):=
  (match r29_0 a0 a0 0 (List.replicate (toNat ((length (map b_iLiiLiEELiLiEE a0)):Int)) (K_iLiiLiEELiLiEE.mk 0 [] [])) with | .k0 w0_1 w1_1 w2_1=>w0_1)
theorem e29 {l0_0:Nat} {a0:(List K_iLiiLiEELiLiEE)} (hy0:length a0*56≤140737488351232) (hy1:∀z∈a0,ok_iLiiLiEELiLiEE z):Ev F X (.call 29 [(.one (.bor l0_0 (map b_iLiiLiEELiLiEE a0)))] [] [] [(.one (.own 3 (map d_iLiiLiEELiLiEE (m29 a0))))]):=by
  unfold m29
  have f0:0≤((length (map b_iLiiLiEELiLiEE a0)):Int)∧((length (map b_iLiiLiEELiLiEE a0)):Int)≤((length (map b_iLiiLiEELiLiEE a0)):Int)∧((length (map b_iLiiLiEELiLiEE a0)):Int)≤140737488355328∧((length (map b_iLiiLiEELiLiEE a0)):Int)*56≤140737488355328:=(by simp only[length_map]; omega)
  have f1:(List.replicate (toNat ((length (map b_iLiiLiEELiLiEE a0)):Int)) [(.val (.int .i64 0)),(.own 3 []),(.own 2 [])])=(map d_iLiiLiEELiLiEE (List.replicate (toNat ((length (map b_iLiiLiEELiLiEE a0)):Int)) (K_iLiiLiEELiLiEE.mk 0 [] []))):=(by simp[byteRows_eq,ints_y,take_of_length_le,d_i,d_iiLiE,d_iLiE,d_iLiiLiEELiLiEE,d_iiiiiLiLiiLiEELiLiEEE,d_LiiiiiLiLiiLiEELiLiEEEE,d_b,d_iiiiLiLiiLiEELiLiEEE,d_LiE,d_LiLiiLiEELiLiEEE,d_LiiLiEE,d_LiLiEE,d_y,d_LyE,d_LLyEE,fromBR_i,fromBR_b,fromBR_y,four_len]; done)
  cases h0:r29_0 a0 a0 0 (List.replicate (toNat ((length (map b_iLiiLiEELiLiEE a0)):Int)) (K_iLiiLiEELiLiEE.mk 0 [] [])) with
  |k0 w0_1 w1_1 w2_1=>
    try dsimp only
    have zh0:=z29_0 (a0:=a0) a0 0 (List.replicate (toNat ((length (map b_iLiiLiEELiLiEE a0)):Int)) (K_iLiiLiEELiLiEE.mk 0 [] [])); rw[h0] at zh0; simp only[post29_0,length_map,length_set,length_append,length_replicate,length_cons,length_nil,Int.toNat_natCast] at zh0
    have f2:(⟨[(0,(.one (.bor l0_0 (map b_iLiiLiEELiLiEE a0)))),(3,(.one (.ref ⟨(3,0,0),[],0,(toNat ((length (map b_iLiiLiEELiLiEE a0)):Int))⟩))),(4,(.oi 0))],[((3,0,0),.live ⟨3,(map d_iLiiLiEELiLiEE (List.replicate (toNat ((length (map b_iLiiLiEELiLiEE a0)):Int)) (K_iLiiLiEELiLiEE.mk 0 [] []))),[]⟩)]⟩:St)=h29_0 l0_0 a0 0 (List.replicate (toNat ((length (map b_iLiiLiEELiLiEE a0)):Int)) (K_iLiiLiEELiLiEE.mk 0 [] [])):=(by rfl)
    have f5:(toNat ((length (map b_iLiiLiEELiLiEE a0)):Int))=(length (map d_iLiiLiEELiLiEE w0_1)):=(by simp only[length_map]; omega)
    exact cp (by kernel_rfl) (.f f0 (.f f1 (.f f2 (.f (ev_ (e:=ex29_0) (g:=(fin29_0 l0_0 a0)) h0 (t29_0 (l0_0:=l0_0) (a0:=a0) (by assumption) (by assumption) a0 [] (List.replicate (toNat ((length (map b_iLiiLiEELiLiEE a0)):Int)) (K_iLiiLiEELiLiEE.mk 0 [] [])) rfl (by simp only[length_map,length_set,length_append,length_replicate,length_cons,length_nil]; done))) (pe 0 (.f f5 (.f (pureR_iLiiLiEELiLiEE w0_1) (.h 10 (.norm (3,0,0) (map d_iLiiLiEELiLiEE (List.replicate (toNat ((length (map b_iLiiLiEELiLiEE a0)):Int)) (K_iLiiLiEELiLiEE.mk 0 [] [])))) (.h 13 (.loop (h29_0 l0_0 a0 0 (List.replicate (toNat ((length (map b_iLiiLiEELiLiEE a0)):Int)) (K_iLiiLiEELiLiEE.mk 0 [] []))) (.exit 0) ⟨[(0,(.one (.bor l0_0 (map b_iLiiLiEELiLiEE a0)))),(3,(.one (.ref ⟨(3,0,0),[],0,(toNat ((length (map b_iLiiLiEELiLiEE a0)):Int))⟩))),(4,(.one (.val (.int .i64 w1_1)))),(11,(.one (.val (.bool w2_1))))],[((3,0,0),.live ⟨3,(map d_iLiiLiEELiLiEE w0_1),[]⟩)]⟩) .nil)))))))))
theorem c29_0 (a0:List K_iLiiLiEELiLiEE):∀(l p q:List K_iLiiLiEELiLiEE),q.length=l.length→∃w1 w2,r29_0 a0 l (p.length:Int) (p++q)=.k0 (p++l) w1 w2
  |[],p,[],_=>⟨_,_,rfl⟩
  |[],_,_::_,h=>by simp at h
  |_::_,_,[],h=>by simp at h
  |x::l,p,y::q,h=>by
    have ih:=c29_0 a0 l (p++ [x]) q (by simpa using h)
    have e:set (p++y::q) (toNat (p.length:Int)) x=(p++ [x])++q:=by simp
    have e2:((p++ [x]).length:Int)=(p.length:Int)+1:=by simp
    rw[e2] at ih
    simp only[r29_0]
    rw[show p++x::l=(p++ [x])++l by simp]
    first |(rw[e]; exact ih) |(simp only[e]; exact ih)
theorem q29 (a0:(List K_iLiiLiEELiLiEE)) (hy0:length a0*56≤140737488351232) (hy1:∀z∈a0,ok_iLiiLiEELiLiEE z):(m29 a0)=a0:=by
  have h:=c29_0 a0 a0 [] (List.replicate (toNat ((length (map b_iLiiLiEELiLiEE a0)):Int)) (K_iLiiLiEELiLiEE.mk 0 [] [])) (by simp)
  unfold m29
  simp only[List.nil_append,length_nil] at h
  obtain⟨_,_,h⟩:=h
  rw[show ((0:Nat):Int)=0 from rfl] at h
  rw[h]
theorem g29 {l0_0:Nat} {a0:(List K_iLiiLiEELiLiEE)} (hy0:length a0*56≤140737488351232) (hy1:∀z∈a0,ok_iLiiLiEELiLiEE z):Ev F X (.call 29 [(.one (.bor l0_0 (map b_iLiiLiEELiLiEE a0)))] [] [] [(.one (.own 3 (map d_iLiiLiEELiLiEE a0)))]):=by
  have t:=e29 (l0_0:=l0_0) (a0:=a0) hy0 hy1
  rw[q29 a0 hy0 hy1] at t
  exact t
theorem e17 {l0_4:Nat} {a0:K_iiiiLiLiiLiEELiLiEEE} (hy0:length a0.f4*56≤140737488351232) (hy1:∀z∈a0.f4,ok_iLiiLiEELiLiEE z):Ev F X (.call 17 [(.agg (k_iiiiLiLiiLiEELiLiEEE l0_4 a0))] [] [] [(.agg (d_iiiiLiLiiLiEELiLiEEE a0))]):=by
  exact cp (by kernel_rfl) (.r 43 [] [] (g29 (l0_0:=(l0_4+1)) (a0:=a0.f4) ‹_› ‹_›) (pe 0 (pe (length (map d_iLiiLiEELiLiEE a0.f4)) (pe 0 (pe (length (map d_iLiiLiEELiLiEE a0.f4)) (.f (pureR_iLiiLiEELiLiEE a0.f4) .nil))))))
theorem e11 {l0_5:Nat} {a0:K_iiiiiLiLiiLiEELiLiEEE} (hy0:length a0.f5*56≤140737488351232) (hy1:∀z∈a0.f5,ok_iLiiLiEELiLiEE z):Ev F X (.call 11 [(.agg (k_iiiiiLiLiiLiEELiLiEEE l0_5 a0))] [] [] [(.agg (d_iiiiiLiLiiLiEELiLiEEE a0))]):=by
  exact cp (by kernel_rfl) (.r 19 [] [] (e17 (l0_4:=(l0_5+1)) (a0:=(K_iiiiLiLiiLiEELiLiEEE.mk a0.f1 a0.f2 a0.f3 a0.f4 a0.f5)) ‹_› ‹_›) (pe 0 (pe (length (map d_iLiiLiEELiLiEE a0.f5)) (pe 0 (pe (length (map d_iLiiLiEELiLiEE a0.f5)) (.f (pureR_iLiiLiEELiLiEE a0.f5) .nil))))))
/-! loop 6_0 -/
inductive O6_0 where
  |k0 (w0:List K_iiiiiLiLiiLiEELiLiEEE) (w1:Int) (w2:Bool)
def r6_0 (a0:(List K_iiiiiLiLiiLiEELiLiEEE)):List K_iiiiiLiLiiLiEELiLiEEE→Int→List K_iiiiiLiLiiLiEELiLiEEE→O6_0
  |x0::y0,i,v0=>
    (r6_0 a0 y0 (i+1) (set v0 (toNat i) x0))
  |[],i,v0=>(O6_0.k0 v0 i (decide (i <((length (map b_iiiiiLiLiiLiEELiLiEEE a0)):Int))))
def h6_0 (l0_0:Nat) (a0:(List K_iiiiiLiLiiLiEELiLiEEE)) (i:Int) (v0:List K_iiiiiLiLiiLiEELiLiEEE):St:=⟨[(0,(.one (.bor l0_0 (map b_iiiiiLiLiiLiEELiLiEEE a0)))),(3,(.one (.ref ⟨(3,0,0),[],0,(toNat ((length (map b_iiiiiLiLiiLiEELiLiEEE a0)):Int))⟩))),(4,(.one (.val (.int .i64 i))))],[((3,0,0),.live ⟨6,(map d_iiiiiLiLiiLiEELiLiEEE v0),[]⟩)]⟩
def ex6_0:O6_0→VX.Exit
  |.k0 _ _ _=>(.exit 0)
def fin6_0 (l0_0:Nat) (a0:(List K_iiiiiLiLiiLiEELiLiEEE)):O6_0→St
  |.k0 w0 w1 w2=>⟨[(0,(.one (.bor l0_0 (map b_iiiiiLiLiiLiEELiLiEEE a0)))),(3,(.one (.ref ⟨(3,0,0),[],0,(toNat ((length (map b_iiiiiLiLiiLiEELiLiEEE a0)):Int))⟩))),(4,(.one (.val (.int .i64 w1)))),(11,(.one (.val (.bool w2))))],[((3,0,0),.live ⟨6,(map d_iiiiiLiLiiLiEELiLiEEE w0),[]⟩)]⟩
theorem t6_0 {l0_0:Nat} {a0:(List K_iiiiiLiLiiLiEELiLiEEE)} (hy0:length a0*64≤140737488351232) (hy1:∀z∈a0,ok_iiiiiLiLiiLiEELiLiEEE z):∀(y0:List K_iiiiiLiLiiLiEELiLiEEE) (p:List K_iiiiiLiLiiLiEELiLiEEE) (v0:List K_iiiiiLiLiiLiEELiLiEEE),p++y0=a0→length v0=(toNat ((length (map b_iiiiiLiLiiLiEELiLiEEE a0)):Int))→Ev F X (.code l6_0 (h6_0 l0_0 a0 (length p:Int) v0) (ex6_0 (r6_0 a0 y0 (length p:Int) v0)) (fin6_0 l0_0 a0 (r6_0 a0 y0 (length p:Int) v0)))
  |[],p,v0,hp0,hi0=>by
    have hc:¬(decide ((length p:Int) <((length (map b_iiiiiLiLiiLiEELiLiEEE a0)):Int)))=true:=by
      rw[← hp0]; simp only[length_map,length_set,length_append,length_replicate,length_cons,length_nil,decide_eq_true_eq]; omega
    have hj0:=hi0; try simp only[length_map,length_set,length_append,length_replicate,length_cons,length_nil,Int.toNat_natCast] at hj0
    have st:=ch b6_0 (h6_0 l0_0 a0 (length p:Int) v0) ⟨[(0,(.one (.bor l0_0 (map b_iiiiiLiLiiLiEELiLiEEE a0)))),(3,(.one (.ref ⟨(3,0,0),[],0,(toNat ((length (map b_iiiiiLiLiiLiEELiLiEEE a0)):Int))⟩))),(4,(.oi (length p:Int))),(11,(.one (.val (.bool (decide ((length p:Int) <((length (map b_iiiiiLiLiiLiEELiLiEEE a0)):Int)))))))],[((3,0,0),.live ⟨6,(map d_iiiiiLiLiiLiEELiLiEEE v0),[]⟩)]⟩ (.exit 0) 9 (by kernel_rfl) (.f (nt hc) (.h 8 (.b false) .nil))
    rw[show (⟨[(0,(.one (.bor l0_0 (map b_iiiiiLiLiiLiEELiLiEEE a0)))),(3,(.one (.ref ⟨(3,0,0),[],0,(toNat ((length (map b_iiiiiLiLiiLiEELiLiEEE a0)):Int))⟩))),(4,(.oi (length p:Int))),(11,(.one (.val (.bool (decide ((length p:Int) <((length (map b_iiiiiLiLiiLiEELiLiEEE a0)):Int)))))))],[((3,0,0),.live ⟨6,(map d_iiiiiLiLiiLiEELiLiEEE v0),[]⟩)]⟩:St)=fin6_0 l0_0 a0 (.k0 v0 (length p:Int) (decide ((length p:Int) <((length (map b_iiiiiLiLiiLiEELiLiEEE a0)):Int)))) from(by rfl)] at st
    exact .loopX st (show ((.exit 0):VX.Exit)≠.normal from by simp)
  |x0::y0,p,v0,hp0,hi0=>by
    have hc:(decide ((length p:Int) <((length (map b_iiiiiLiLiiLiEELiLiEEE a0)):Int)))=true:=by
      rw[← hp0]; simp only[length_map,length_set,length_append,length_replicate,length_cons,length_nil,decide_eq_true_eq]; omega
    have Hx0:(a0)[toNat (length p:Int)]?=some x0:=by
      rw[← hp0,Int.toNat_natCast]; simp
    obtain⟨Mx0_0,Mx0_1⟩:=hy1 x0 (List.mem_of_getElem? Hx0)
    have hlen:length (a0)=length p+length y0+1:=by rw[← hp0]; simp; omega
    have hw:wrap .i64 ((length p:Int)+1)=(length p:Int)+1:=wrap64 (by omega)
    have hj0:=hi0; try simp only[length_map,length_set,length_append,length_replicate,length_cons,length_nil,Int.toNat_natCast] at hj0
    obtain⟨x1,Hx1⟩:∃y,v0[toNat (length p:Int)]?=some y:=⟨_,List.getElem?_eq_getElem (by omega)⟩
    simp only[r6_0]
    have f1:0≤(length p:Int):=(by omega)
    have f4:0+(toNat ((length (map b_iiiiiLiLiiLiEELiLiEEE a0)):Int))≤(length (map d_iiiiiLiLiiLiEELiLiEEE v0)):=(by simp only[length_map]; omega)
    have f5:0≤(length p:Int)∧(length p:Int) <((toNat ((length (map b_iiiiiLiLiiLiEELiLiEEE a0)):Int)):Int):=(by omega)
    have f9:(set (map d_iiiiiLiLiiLiEELiLiEEE v0) (0+(toNat (length p:Int))) (d_iiiiiLiLiiLiEELiLiEEE x0))=(map d_iiiiiLiLiiLiEELiLiEEE (set v0 (toNat (length p:Int)) x0)):=(by simp[byteRows_eq,ints_y,take_of_length_le,d_i,d_iiLiE,d_iLiE,d_iLiiLiEELiLiEE,d_iiiiiLiLiiLiEELiLiEEE,d_LiiiiiLiLiiLiEELiLiEEEE,d_b,d_iiiiLiLiiLiEELiLiEEE,d_LiE,d_LiLiiLiEELiLiEEE,d_LiiLiEE,d_LiLiEE,d_y,d_LyE,d_LLyEE,fromBR_i,fromBR_b,fromBR_y,four_len]; done)
    have st:=ch b6_0 (h6_0 l0_0 a0 (length p:Int) v0) ⟨[(0,(.one (.bor l0_0 (map b_iiiiiLiLiiLiEELiLiEEE a0)))),(3,(.one (.ref ⟨(3,0,0),[],0,(toNat ((length (map b_iiiiiLiLiiLiEELiLiEEE a0)):Int))⟩))),(4,(.oi (wrap .i64 ((length p:Int)+1))))],[((3,0,0),.live ⟨6,(map d_iiiiiLiLiiLiEELiLiEEE (set v0 (toNat (length p:Int)) x0)),[]⟩)]⟩ .normal 34 (by kernel_rfl) (.f hc (.f f1 (.f (mp_ b_iiiiiLiLiiLiEELiLiEEE Hx0) (.h 8 (.b true) (.h 18 (.row (b_iiiiiLiLiiLiEELiLiEEE x0)) (.r 22 [] [] (e11 (l0_5:=(l0_0+1)) (a0:=x0) ‹_› ‹_›) (.f f4 (.f f5 (pe 0 (pe (length (map d_iLiiLiEELiLiEE x0.f5)) (.f (mz_ d_iiiiiLiLiiLiEELiLiEEE Hx1) (.f f9 (.f trivial (.h 26 (.rowD (d_iiiiiLiLiiLiEELiLiEEE x1)) (.h 27 (.norm (3,0,0) (map d_iiiiiLiLiiLiEELiLiEEE (set v0 (toNat (length p:Int)) x0))) .nil)))))))))))))))
    have ih:=t6_0 (l0_0:=l0_0) (a0:=a0) hy0 hy1 y0 (p++ [x0]) (set v0 (toNat (length p:Int)) x0) (by rw[append_assoc]; exact hp0) (by simp only[length_map,length_set,length_append,length_replicate,length_cons,length_nil]; omega)
    rw[show ((p++ [x0]).length:Int)=(p.length:Int)+1 from by simp] at ih
    rw[show (⟨[(0,(.one (.bor l0_0 (map b_iiiiiLiLiiLiEELiLiEEE a0)))),(3,(.one (.ref ⟨(3,0,0),[],0,(toNat ((length (map b_iiiiiLiLiiLiEELiLiEEE a0)):Int))⟩))),(4,(.oi (wrap .i64 ((length p:Int)+1))))],[((3,0,0),.live ⟨6,(map d_iiiiiLiLiiLiEELiLiEEE (set v0 (toNat (length p:Int)) x0)),[]⟩)]⟩:St)=h6_0 l0_0 a0 ((length p:Int)+1) (set v0 (toNat (length p:Int)) x0) from(by unfold h6_0; simp only[hw]; done)] at st
    exact .loopN st ih
def post6_0 (n0:Nat):O6_0→Prop
  |.k0 w0 _ _=>length w0=n0
theorem z6_0 {a0:(List K_iiiiiLiLiiLiEELiLiEEE)}:∀(y0:List K_iiiiiLiLiiLiEELiLiEEE) (i:Int) (v0:List K_iiiiiLiLiiLiEELiLiEEE),post6_0 (length v0) (r6_0 a0 y0 i v0)
  |[],i,v0=>by
    first | trivial |(simp only[post6_0,length_nil,Nat.add_zero]; done) |(simp[post6_0]; done)
  |x0::y0,i,v0=>by
    simp only[r6_0]
    have z:=z6_0 (a0:=a0) y0 (i+1) (set v0 (toNat i) x0)
    rw[show (length v0)=(length (set v0 (toNat i) x0)) from by first | omega |(simp only[length_map,length_set,length_append,length_replicate,length_cons,length_nil]; done) |(simp only[length_map,length_set,length_append,length_replicate,length_cons,length_nil]; omega)]
    exact z
/-! loop.example/g00539/laws.toJobS -/
def m6 (a0:(List K_iiiiiLiLiiLiEELiLiEEE)):(List K_iiiiiLiLiiLiEELiLiEEE):=
  (match r6_0 a0 a0 0 (List.replicate (toNat ((length (map b_iiiiiLiLiiLiEELiLiEEE a0)):Int)) (K_iiiiiLiLiiLiEELiLiEEE.mk 0 0 0 0 0 [])) with | .k0 w0_1 w1_1 w2_1=>w0_1)
theorem e6 {l0_0:Nat} {a0:(List K_iiiiiLiLiiLiEELiLiEEE)} (hy0:length a0*64≤140737488351232) (hy1:∀z∈a0,ok_iiiiiLiLiiLiEELiLiEEE z):Ev F X (.call 6 [(.one (.bor l0_0 (map b_iiiiiLiLiiLiEELiLiEEE a0)))] [] [] [(.one (.own 6 (map d_iiiiiLiLiiLiEELiLiEEE (m6 a0))))]):=by
  unfold m6
  have f0:0≤((length (map b_iiiiiLiLiiLiEELiLiEEE a0)):Int)∧((length (map b_iiiiiLiLiiLiEELiLiEEE a0)):Int)≤((length (map b_iiiiiLiLiiLiEELiLiEEE a0)):Int)∧((length (map b_iiiiiLiLiiLiEELiLiEEE a0)):Int)≤140737488355328∧((length (map b_iiiiiLiLiiLiEELiLiEEE a0)):Int)*64≤140737488355328:=(by simp only[length_map]; omega)
  have f1:(List.replicate (toNat ((length (map b_iiiiiLiLiiLiEELiLiEEE a0)):Int)) [(.val (.int .i64 0)),(.val (.int .i64 0)),(.val (.int .i64 0)),(.val (.int .i64 0)),(.val (.int .i64 0)),(.own 3 [])])=(map d_iiiiiLiLiiLiEELiLiEEE (List.replicate (toNat ((length (map b_iiiiiLiLiiLiEELiLiEEE a0)):Int)) (K_iiiiiLiLiiLiEELiLiEEE.mk 0 0 0 0 0 []))):=(by simp[byteRows_eq,ints_y,take_of_length_le,d_i,d_iiLiE,d_iLiE,d_iLiiLiEELiLiEE,d_iiiiiLiLiiLiEELiLiEEE,d_LiiiiiLiLiiLiEELiLiEEEE,d_b,d_iiiiLiLiiLiEELiLiEEE,d_LiE,d_LiLiiLiEELiLiEEE,d_LiiLiEE,d_LiLiEE,d_y,d_LyE,d_LLyEE,fromBR_i,fromBR_b,fromBR_y,four_len]; done)
  cases h0:r6_0 a0 a0 0 (List.replicate (toNat ((length (map b_iiiiiLiLiiLiEELiLiEEE a0)):Int)) (K_iiiiiLiLiiLiEELiLiEEE.mk 0 0 0 0 0 [])) with
  |k0 w0_1 w1_1 w2_1=>
    try dsimp only
    have zh0:=z6_0 (a0:=a0) a0 0 (List.replicate (toNat ((length (map b_iiiiiLiLiiLiEELiLiEEE a0)):Int)) (K_iiiiiLiLiiLiEELiLiEEE.mk 0 0 0 0 0 [])); rw[h0] at zh0; simp only[post6_0,length_map,length_set,length_append,length_replicate,length_cons,length_nil,Int.toNat_natCast] at zh0
    have f2:(⟨[(0,(.one (.bor l0_0 (map b_iiiiiLiLiiLiEELiLiEEE a0)))),(3,(.one (.ref ⟨(3,0,0),[],0,(toNat ((length (map b_iiiiiLiLiiLiEELiLiEEE a0)):Int))⟩))),(4,(.oi 0))],[((3,0,0),.live ⟨6,(map d_iiiiiLiLiiLiEELiLiEEE (List.replicate (toNat ((length (map b_iiiiiLiLiiLiEELiLiEEE a0)):Int)) (K_iiiiiLiLiiLiEELiLiEEE.mk 0 0 0 0 0 []))),[]⟩)]⟩:St)=h6_0 l0_0 a0 0 (List.replicate (toNat ((length (map b_iiiiiLiLiiLiEELiLiEEE a0)):Int)) (K_iiiiiLiLiiLiEELiLiEEE.mk 0 0 0 0 0 [])):=(by rfl)
    have f5:(toNat ((length (map b_iiiiiLiLiiLiEELiLiEEE a0)):Int))=(length (map d_iiiiiLiLiiLiEELiLiEEE w0_1)):=(by simp only[length_map]; omega)
    exact cp (by kernel_rfl) (.f f0 (.f f1 (.f f2 (.f (ev_ (e:=ex6_0) (g:=(fin6_0 l0_0 a0)) h0 (t6_0 (l0_0:=l0_0) (a0:=a0) (by assumption) (by assumption) a0 [] (List.replicate (toNat ((length (map b_iiiiiLiLiiLiEELiLiEEE a0)):Int)) (K_iiiiiLiLiiLiEELiLiEEE.mk 0 0 0 0 0 [])) rfl (by simp only[length_map,length_set,length_append,length_replicate,length_cons,length_nil]; done))) (pe 0 (.f f5 (.f (pureR_iiiiiLiLiiLiEELiLiEEE w0_1) (.h 10 (.norm (3,0,0) (map d_iiiiiLiLiiLiEELiLiEEE (List.replicate (toNat ((length (map b_iiiiiLiLiiLiEELiLiEEE a0)):Int)) (K_iiiiiLiLiiLiEELiLiEEE.mk 0 0 0 0 0 [])))) (.h 13 (.loop (h6_0 l0_0 a0 0 (List.replicate (toNat ((length (map b_iiiiiLiLiiLiEELiLiEEE a0)):Int)) (K_iiiiiLiLiiLiEELiLiEEE.mk 0 0 0 0 0 []))) (.exit 0) ⟨[(0,(.one (.bor l0_0 (map b_iiiiiLiLiiLiEELiLiEEE a0)))),(3,(.one (.ref ⟨(3,0,0),[],0,(toNat ((length (map b_iiiiiLiLiiLiEELiLiEEE a0)):Int))⟩))),(4,(.one (.val (.int .i64 w1_1)))),(11,(.one (.val (.bool w2_1))))],[((3,0,0),.live ⟨6,(map d_iiiiiLiLiiLiEELiLiEEE w0_1),[]⟩)]⟩) .nil)))))))))
theorem c6_0 (a0:List K_iiiiiLiLiiLiEELiLiEEE):∀(l p q:List K_iiiiiLiLiiLiEELiLiEEE),q.length=l.length→∃w1 w2,r6_0 a0 l (p.length:Int) (p++q)=.k0 (p++l) w1 w2
  |[],p,[],_=>⟨_,_,rfl⟩
  |[],_,_::_,h=>by simp at h
  |_::_,_,[],h=>by simp at h
  |x::l,p,y::q,h=>by
    have ih:=c6_0 a0 l (p++ [x]) q (by simpa using h)
    have e:set (p++y::q) (toNat (p.length:Int)) x=(p++ [x])++q:=by simp
    have e2:((p++ [x]).length:Int)=(p.length:Int)+1:=by simp
    rw[e2] at ih
    simp only[r6_0]
    rw[show p++x::l=(p++ [x])++l by simp]
    first |(rw[e]; exact ih) |(simp only[e]; exact ih)
theorem q6 (a0:(List K_iiiiiLiLiiLiEELiLiEEE)) (hy0:length a0*64≤140737488351232) (hy1:∀z∈a0,ok_iiiiiLiLiiLiEELiLiEEE z):(m6 a0)=a0:=by
  have h:=c6_0 a0 a0 [] (List.replicate (toNat ((length (map b_iiiiiLiLiiLiEELiLiEEE a0)):Int)) (K_iiiiiLiLiiLiEELiLiEEE.mk 0 0 0 0 0 [])) (by simp)
  unfold m6
  simp only[List.nil_append,length_nil] at h
  obtain⟨_,_,h⟩:=h
  rw[show ((0:Nat):Int)=0 from rfl] at h
  rw[h]
theorem g6 {l0_0:Nat} {a0:(List K_iiiiiLiLiiLiEELiLiEEE)} (hy0:length a0*64≤140737488351232) (hy1:∀z∈a0,ok_iiiiiLiLiiLiEELiLiEEE z):Ev F X (.call 6 [(.one (.bor l0_0 (map b_iiiiiLiLiiLiEELiLiEEE a0)))] [] [] [(.one (.own 6 (map d_iiiiiLiLiiLiEELiLiEEE a0)))]):=by
  have t:=e6 (l0_0:=l0_0) (a0:=a0) hy0 hy1
  rw[q6 a0 hy0 hy1] at t
  exact t
/-! loop.example/g00539/impl.in -/
def m18 (a0:Int) (a1:Int) (a2:Int):Bool:=
  if(decide (a0≥a1))=true then(decide (a0≤a2)) else
  false
theorem e18 {a0:Int} {a1:Int} {a2:Int}:Ev F X (.call 18 [(.one (.val (.int .i64 a0))),(.one (.val (.int .i64 a1))),(.one (.val (.int .i64 a2)))] [] [] [(.one (.val (.bool (m18 a0 a1 a2))))]):=by
  unfold m18
  by_cases h0:(decide (a0≥a1))=true
  · try simp only[if_pos h0]
    exact cp (by kernel_rfl) (.f h0 (.f h0 (.f h0 (.f h0 (.h 10 (.b true) (.h 12 (.b true) (.h 14 (.b true) (.h 17 (.b true) .nil))))))))
  · try simp only[if_neg h0]
    exact cp (by kernel_rfl) (.f (nt h0) (.f (nt h0) (.f (nt h0) (.f (nt h0) (.h 10 (.b false) (.h 12 (.b false) (.h 14 (.b false) (.h 17 (.b false) .nil))))))))
theorem e12 {a0:Int}:Ev F X (.call 12 [(.one (.val (.int .i64 a0)))] [] [] [(.one (.val (.bool (m18 a0 0 9999))))]):=by
  exact cp (by kernel_rfl) (.r 5 [] [] (e18 (a0:=a0) (a1:=0) (a2:=9999)) .nil)
theorem e19 {a0:Int}:Ev F X (.call 19 [(.one (.val (.int .i64 a0)))] [] [] [(.one (.val (.bool (m18 a0 0 2147483646))))]):=by
  exact cp (by kernel_rfl) (.r 5 [] [] (e18 (a0:=a0) (a1:=0) (a2:=2147483646)) .nil)
/-! loop.example/g00539/impl.bitsOk -/
def m20 (a0:Int):Bool:=
  if(m18 a0 1 1023)=true then(decide ((Int.tmod a0 256) > 0)) else
  false
theorem e20 {a0:Int}:Ev F X (.call 20 [(.one (.val (.int .i64 a0)))] [] [] [(.one (.val (.bool (m20 a0))))]):=by
  unfold m20
  by_cases h0:(m18 a0 1 1023)=true
  · try simp only[if_pos h0]
    have f3:(256:Int)≠0:=(by omega)
    exact cp (by kernel_rfl) (.r 5 [] [] (e18 (a0:=a0) (a1:=1) (a2:=1023)) (.f h0 (.f h0 (.f f3 (.f h0 (.f h0 (.h 8 (.b true) (.h 10 (.b true) (.h 12 (.b true) (.h 15 (.b true) .nil))))))))))
  · try simp only[if_neg h0]
    exact cp (by kernel_rfl) (.r 5 [] [] (e18 (a0:=a0) (a1:=1) (a2:=1023)) (.f (nt h0) (.f (nt h0) (.f (nt h0) (.f (nt h0) (.h 8 (.b false) (.h 10 (.b false) (.h 12 (.b false) (.h 15 (.b false) .nil)))))))))
theorem e47 {a0:Int}:Ev F X (.call 47 [(.one (.val (.int .i64 a0)))] [] [] [(.one (.val (.bool (!(m18 a0 0 9999)))))]):=by
  exact cp (by kernel_rfl) (.r 5 [] [] (e18 (a0:=a0) (a1:=0) (a2:=9999)) .nil)
/-! loop 1006500_0 -/
inductive O1006500_0 where
  |k0 (w0:Int) (w1:Bool)
  |k1 (w0:Int)
def r1006500_0 (a0:(List Int)):List Int→Int→O1006500_0
  |x0::y0,i=>
    if(!(m18 x0 0 9999))=true then(O1006500_0.k1 i) else
    (r1006500_0 a0 y0 (i+1))
  |[],i=>(O1006500_0.k0 i (decide (i <((length (map b_i a0)):Int))))
def h1006500_0 (l0_0:Nat) (a0:(List Int)) (i:Int) :St:=⟨[(0,(.one (.bor l0_0 (map b_i a0)))),(1,(.clo 47 [] [])),(7,(.one (.val (.int .i64 ((length (map b_i a0)):Int))))),(8,(.one (.val (.int .i64 i))))],[]⟩
def ex1006500_0:O1006500_0→VX.Exit
  |.k0 _ _=>(.exit 0)
  |.k1 _=>.ret
def fin1006500_0 (l0_0:Nat) (a0:(List Int)):O1006500_0→St
  |.k0 w0 w1=>⟨[(0,(.one (.bor l0_0 (map b_i a0)))),(1,(.clo 47 [] [])),(7,(.one (.val (.int .i64 ((length (map b_i a0)):Int))))),(8,(.one (.val (.int .i64 w0)))),(9,(.one (.val (.bool w1))))],[]⟩
  |.k1 w0=>⟨[(4,(.one (.val (.int .i64 w0))))],[]⟩
theorem t1006500_0 {l0_0:Nat} {a0:(List Int)} (hy0:length a0*8≤140737488351232):∀(y0:List Int) (p:List Int),p++y0=a0→Ev F X (.code l65_0 (h1006500_0 l0_0 a0 (length p:Int)) (ex1006500_0 (r1006500_0 a0 y0 (length p:Int))) (fin1006500_0 l0_0 a0 (r1006500_0 a0 y0 (length p:Int))))
  |[],p,hp0=>by
    have hc:¬(decide ((length p:Int) <((length (map b_i a0)):Int)))=true:=by
      rw[← hp0]; simp only[length_map,length_set,length_append,length_replicate,length_cons,length_nil,decide_eq_true_eq]; omega
    have st:=ch b65_0 (h1006500_0 l0_0 a0 (length p:Int)) ⟨[(0,(.one (.bor l0_0 (map b_i a0)))),(1,(.clo 47 [] [])),(7,(.oi ((length (map b_i a0)):Int))),(8,(.oi (length p:Int))),(9,(.one (.val (.bool (decide ((length p:Int) <((length (map b_i a0)):Int)))))))],[]⟩ (.exit 0) 3 (by kernel_rfl) (.f (nt hc) (.h 2 (.b false) .nil))
    rw[show (⟨[(0,(.one (.bor l0_0 (map b_i a0)))),(1,(.clo 47 [] [])),(7,(.oi ((length (map b_i a0)):Int))),(8,(.oi (length p:Int))),(9,(.one (.val (.bool (decide ((length p:Int) <((length (map b_i a0)):Int)))))))],[]⟩:St)=fin1006500_0 l0_0 a0 (.k0 (length p:Int) (decide ((length p:Int) <((length (map b_i a0)):Int)))) from(by rfl)] at st
    exact .loopX st (show ((.exit 0):VX.Exit)≠.normal from by simp)
  |x0::y0,p,hp0=>by
    have hc:(decide ((length p:Int) <((length (map b_i a0)):Int)))=true:=by
      rw[← hp0]; simp only[length_map,length_set,length_append,length_replicate,length_cons,length_nil,decide_eq_true_eq]; omega
    have Hx0:(a0)[toNat (length p:Int)]?=some x0:=by
      rw[← hp0,Int.toNat_natCast]; simp
    have hlen:length (a0)=length p+length y0+1:=by rw[← hp0]; simp; omega
    have hw:wrap .i64 ((length p:Int)+1)=(length p:Int)+1:=wrap64 (by omega)
    simp only[r1006500_0]
    have f1:0≤(length p:Int):=(by omega)
    have P1 {hs q} (r:PS F X hs q):=(PS.f hc (.f f1 (.f (mp_ b_i Hx0) (.h 2 (.b true) (.h 14 (.row [(.val (.int .i64 x0))]) (.r 18 [] [] (e47 (a0:=x0)) r))))))
    by_cases h_1:(!(m18 x0 0 9999))=true
    · try simp only[if_pos h_1]
      have st:=ch b65_0 (h1006500_0 l0_0 a0 (length p:Int)) ⟨[(4,(.oi (length p:Int)))],[]⟩ .ret 24 (by kernel_rfl) (P1 (.f h_1 (.h 19 (.b true) .nil)))
      rw[show (⟨[(4,(.oi (length p:Int)))],[]⟩:St)=fin1006500_0 l0_0 a0 (.k1 (length p:Int)) from(by rfl)] at st
      exact .loopX st (show (.ret:VX.Exit)≠.normal from by simp)
    · try simp only[if_neg h_1]
      have st:=ch b65_0 (h1006500_0 l0_0 a0 (length p:Int)) ⟨[(0,(.one (.bor l0_0 (map b_i a0)))),(1,(.clo 47 [] [])),(7,(.oi ((length (map b_i a0)):Int))),(8,(.oi (wrap .i64 ((length p:Int)+1))))],[]⟩ .normal 24 (by kernel_rfl) (P1 (.f (nt h_1) (.f trivial (.h 19 (.b false) .nil))))
      have ih:=t1006500_0 (l0_0:=l0_0) (a0:=a0) hy0 y0 (p++ [x0]) (by rw[append_assoc]; exact hp0)
      rw[show ((p++ [x0]).length:Int)=(p.length:Int)+1 from by simp] at ih
      rw[show (⟨[(0,(.one (.bor l0_0 (map b_i a0)))),(1,(.clo 47 [] [])),(7,(.oi ((length (map b_i a0)):Int))),(8,(.oi (wrap .i64 ((length p:Int)+1))))],[]⟩:St)=h1006500_0 l0_0 a0 ((length p:Int)+1)  from(by unfold h1006500_0; simp only[hw]; done)] at st
      exact .loopN st ih
/-! slices.IndexFunc[[]int64,int64] -/
def m1006500 (a0:(List Int)):Int:=
  (match r1006500_0 a0 a0 0 with | .k0 w0_0 w1_0=>(-1) | .k1 w0_0=>w0_0)
theorem e1006500 {l0_0:Nat} {a0:(List Int)} (hy0:length a0*8≤140737488351232):Ev F X (.call 65 [(.one (.bor l0_0 (map b_i a0))),(.clo 47 [] [])] [] [] [(.one (.val (.int .i64 (m1006500 a0))))]):=by
  unfold m1006500
  cases h0:r1006500_0 a0 a0 0 with
  |k0 w0_0 w1_0=>
    try dsimp only
    have f0:(⟨[(0,(.one (.bor l0_0 (map b_i a0)))),(1,(.clo 47 [] [])),(7,(.oi ((length (map b_i a0)):Int))),(8,(.oi 0))],[]⟩:St)=h1006500_0 l0_0 a0 0 :=(by rfl)
    exact cp (by kernel_rfl) (.f f0 (.f (ev_ (e:=ex1006500_0) (g:=(fin1006500_0 l0_0 a0)) h0 (t1006500_0 (l0_0:=l0_0) (a0:=a0) (by assumption) a0 []  rfl)) (.h 8 (.loop (h1006500_0 l0_0 a0 0) (.exit 0) ⟨[(0,(.one (.bor l0_0 (map b_i a0)))),(1,(.clo 47 [] [])),(7,(.one (.val (.int .i64 ((length (map b_i a0)):Int))))),(8,(.one (.val (.int .i64 w0_0)))),(9,(.one (.val (.bool w1_0))))],[]⟩) .nil)))
  |k1 w0_0=>
    try dsimp only
    have f0:(⟨[(0,(.one (.bor l0_0 (map b_i a0)))),(1,(.clo 47 [] [])),(7,(.oi ((length (map b_i a0)):Int))),(8,(.oi 0))],[]⟩:St)=h1006500_0 l0_0 a0 0 :=(by rfl)
    exact cp (by kernel_rfl) (.f f0 (.f (ev_ (e:=ex1006500_0) (g:=(fin1006500_0 l0_0 a0)) h0 (t1006500_0 (l0_0:=l0_0) (a0:=a0) (by assumption) a0 []  rfl)) (.h 8 (.loop (h1006500_0 l0_0 a0 0) .ret ⟨[(4,(.one (.val (.int .i64 w0_0))))],[]⟩) .nil)))
theorem e1004600 {l0_0:Nat} {a0:(List Int)} (hy0:length a0*8≤140737488351232):Ev F X (.call 46 [(.one (.bor l0_0 (map b_i a0))),(.clo 47 [] [])] [] [] [(.one (.val (.bool (decide ((m1006500 a0)≥0)))))]):=by
  exact cp (by kernel_rfl) (.r 7 [] [] (e1006500 (l0_0:=(l0_0+1)) (a0:=a0) ‹_›) .nil)
/-! loop.example/g00539/impl.inFault$1 -/
def m1004900 (a0:K_iiLiE) (a101001:Int) (a101002:Int) (a101003:List Int):Bool:=
  if(a101001==a0.f0)=true then(a101002==a0.f1) else
  false
theorem e1004900 {l0_2:Nat} {a0:K_iiLiE} {l101000:Nat} {a101001:Int} {a101002:Int} {a101003:List Int}:Ev F X (.call 49 [(.agg (k_iiLiE l0_2 a0)),(.bptr l101000 [(.val (.int .i64 a101001)),(.val (.int .i64 a101002)),(.sl (map b_i a101003))])] [] [] [(.one (.val (.bool (m1004900 a0 a101001 a101002 a101003))))]):=by
  unfold m1004900
  by_cases h0:(a101001==a0.f0)=true
  · try simp only[if_pos h0]
    exact cp (by kernel_rfl) (.f h0 (.f h0 (.f h0 (.f h0 (.f h0 (.f h0 (.h 16 (.b true) (.h 18 (.b true) (.h 20 (.b true) (.h 22 (.b true) (.h 24 (.b true) (.h 27 (.b true) .nil))))))))))))
  · try simp only[if_neg h0]
    exact cp (by kernel_rfl) (.f (nt h0) (.f (nt h0) (.f (nt h0) (.f (nt h0) (.f (nt h0) (.f (nt h0) (.h 16 (.b false) (.h 18 (.b false) (.h 20 (.b false) (.h 22 (.b false) (.h 24 (.b false) (.h 27 (.b false) .nil))))))))))))
/-! loop 1006600_0 -/
inductive O1006600_0 where
  |k0 (w0:Int) (w1:Bool)
  |k1 (w0:Int)
def r1006600_0 (a0:(List K_iiLiE)) (a2001:Int) (a2002:Int) (a2003:List Int):List K_iiLiE→Int→O1006600_0
  |x0::y0,i=>
    if(m1004900 x0 a2001 a2002 a2003)=true then(O1006600_0.k1 i) else
    (r1006600_0 a0 a2001 a2002 a2003 y0 (i+1))
  |[],i=>(O1006600_0.k0 i (decide (i <((length (map b_iiLiE a0)):Int))))
def h1006600_0 (l0_0:Nat) (l2000:Nat) (a0:(List K_iiLiE)) (a2001:Int) (a2002:Int) (a2003:List Int) (i:Int) :St:=⟨[(0,(.one (.bor l0_0 (map b_iiLiE a0)))),(1,(.clo 49 [] [(.bptr l2000 [(.val (.int .i64 a2001)),(.val (.int .i64 a2002)),(.sl (map b_i a2003))])])),(7,(.one (.val (.int .i64 ((length (map b_iiLiE a0)):Int))))),(8,(.one (.val (.int .i64 i))))],[]⟩
def ex1006600_0:O1006600_0→VX.Exit
  |.k0 _ _=>(.exit 0)
  |.k1 _=>.ret
def fin1006600_0 (l0_0:Nat) (l2000:Nat) (a0:(List K_iiLiE)) (a2001:Int) (a2002:Int) (a2003:List Int):O1006600_0→St
  |.k0 w0 w1=>⟨[(0,(.one (.bor l0_0 (map b_iiLiE a0)))),(1,(.clo 49 [] [(.bptr l2000 [(.val (.int .i64 a2001)),(.val (.int .i64 a2002)),(.sl (map b_i a2003))])])),(7,(.one (.val (.int .i64 ((length (map b_iiLiE a0)):Int))))),(8,(.one (.val (.int .i64 w0)))),(9,(.one (.val (.bool w1))))],[]⟩
  |.k1 w0=>⟨[(4,(.one (.val (.int .i64 w0))))],[]⟩
theorem t1006600_0 {l0_0:Nat} {l2000:Nat} {a0:(List K_iiLiE)} {a2001:Int} {a2002:Int} {a2003:List Int} (hy0:length a0*40≤140737488351232) (hy1:∀z∈a0,ok_iiLiE z) (hy2:length a2003*8≤140737488351232):∀(y0:List K_iiLiE) (p:List K_iiLiE),p++y0=a0→Ev F X (.code l66_0 (h1006600_0 l0_0 l2000 a0 a2001 a2002 a2003 (length p:Int)) (ex1006600_0 (r1006600_0 a0 a2001 a2002 a2003 y0 (length p:Int))) (fin1006600_0 l0_0 l2000 a0 a2001 a2002 a2003 (r1006600_0 a0 a2001 a2002 a2003 y0 (length p:Int))))
  |[],p,hp0=>by
    have hc:¬(decide ((length p:Int) <((length (map b_iiLiE a0)):Int)))=true:=by
      rw[← hp0]; simp only[length_map,length_set,length_append,length_replicate,length_cons,length_nil,decide_eq_true_eq]; omega
    have st:=ch b66_0 (h1006600_0 l0_0 l2000 a0 a2001 a2002 a2003 (length p:Int)) ⟨[(0,(.one (.bor l0_0 (map b_iiLiE a0)))),(1,(.clo 49 [] [(.bptr l2000 [(.i a2001),(.i a2002),(.sl (map b_i a2003))])])),(7,(.oi ((length (map b_iiLiE a0)):Int))),(8,(.oi (length p:Int))),(9,(.one (.val (.bool (decide ((length p:Int) <((length (map b_iiLiE a0)):Int)))))))],[]⟩ (.exit 0) 3 (by kernel_rfl) (.f (nt hc) (.h 2 (.b false) .nil))
    rw[show (⟨[(0,(.one (.bor l0_0 (map b_iiLiE a0)))),(1,(.clo 49 [] [(.bptr l2000 [(.i a2001),(.i a2002),(.sl (map b_i a2003))])])),(7,(.oi ((length (map b_iiLiE a0)):Int))),(8,(.oi (length p:Int))),(9,(.one (.val (.bool (decide ((length p:Int) <((length (map b_iiLiE a0)):Int)))))))],[]⟩:St)=fin1006600_0 l0_0 l2000 a0 a2001 a2002 a2003 (.k0 (length p:Int) (decide ((length p:Int) <((length (map b_iiLiE a0)):Int)))) from(by rfl)] at st
    exact .loopX st (show ((.exit 0):VX.Exit)≠.normal from by simp)
  |x0::y0,p,hp0=>by
    have hc:(decide ((length p:Int) <((length (map b_iiLiE a0)):Int)))=true:=by
      rw[← hp0]; simp only[length_map,length_set,length_append,length_replicate,length_cons,length_nil,decide_eq_true_eq]; omega
    have Hx0:(a0)[toNat (length p:Int)]?=some x0:=by
      rw[← hp0,Int.toNat_natCast]; simp
    have Mx0_0:=hy1 x0 (List.mem_of_getElem? Hx0)
    have hlen:length (a0)=length p+length y0+1:=by rw[← hp0]; simp; omega
    have hw:wrap .i64 ((length p:Int)+1)=(length p:Int)+1:=wrap64 (by omega)
    simp only[r1006600_0]
    have f1:0≤(length p:Int):=(by omega)
    have P1 {hs q} (r:PS F X hs q):=(PS.f hc (.f f1 (.f (mp_ b_iiLiE Hx0) (.h 2 (.b true) (.h 14 (.row (b_iiLiE x0)) (.r 18 [] [] (e1004900 (l0_2:=(l0_0+1)) (l101000:=(l2000+1)) (a0:=x0) (a101001:=a2001) (a101002:=a2002) (a101003:=a2003)) r))))))
    by_cases h_1:(m1004900 x0 a2001 a2002 a2003)=true
    · try simp only[if_pos h_1]
      have st:=ch b66_0 (h1006600_0 l0_0 l2000 a0 a2001 a2002 a2003 (length p:Int)) ⟨[(4,(.oi (length p:Int)))],[]⟩ .ret 24 (by kernel_rfl) (P1 (.f h_1 (.h 19 (.b true) .nil)))
      rw[show (⟨[(4,(.oi (length p:Int)))],[]⟩:St)=fin1006600_0 l0_0 l2000 a0 a2001 a2002 a2003 (.k1 (length p:Int)) from(by rfl)] at st
      exact .loopX st (show (.ret:VX.Exit)≠.normal from by simp)
    · try simp only[if_neg h_1]
      have st:=ch b66_0 (h1006600_0 l0_0 l2000 a0 a2001 a2002 a2003 (length p:Int)) ⟨[(0,(.one (.bor l0_0 (map b_iiLiE a0)))),(1,(.clo 49 [] [(.bptr l2000 [(.i a2001),(.i a2002),(.sl (map b_i a2003))])])),(7,(.oi ((length (map b_iiLiE a0)):Int))),(8,(.oi (wrap .i64 ((length p:Int)+1))))],[]⟩ .normal 24 (by kernel_rfl) (P1 (.f (nt h_1) (.f trivial (.h 19 (.b false) .nil))))
      have ih:=t1006600_0 (l0_0:=l0_0) (l2000:=l2000) (a0:=a0) (a2001:=a2001) (a2002:=a2002) (a2003:=a2003) hy0 hy1 hy2 y0 (p++ [x0]) (by rw[append_assoc]; exact hp0)
      rw[show ((p++ [x0]).length:Int)=(p.length:Int)+1 from by simp] at ih
      rw[show (⟨[(0,(.one (.bor l0_0 (map b_iiLiE a0)))),(1,(.clo 49 [] [(.bptr l2000 [(.i a2001),(.i a2002),(.sl (map b_i a2003))])])),(7,(.oi ((length (map b_iiLiE a0)):Int))),(8,(.oi (wrap .i64 ((length p:Int)+1))))],[]⟩:St)=h1006600_0 l0_0 l2000 a0 a2001 a2002 a2003 ((length p:Int)+1)  from(by unfold h1006600_0; simp only[hw]; done)] at st
      exact .loopN st ih
/-! slices.IndexFunc[[]loop.example/g00539/impl.In,loop.example/g00539/impl.In] -/
def m1006600 (a0:(List K_iiLiE)) (a2001:Int) (a2002:Int) (a2003:List Int):Int:=
  (match r1006600_0 a0 a2001 a2002 a2003 a0 0 with | .k0 w0_0 w1_0=>(-1) | .k1 w0_0=>w0_0)
theorem e1006600 {l0_0:Nat} {a0:(List K_iiLiE)} {l2000:Nat} {a2001:Int} {a2002:Int} {a2003:List Int} (hy0:length a0*40≤140737488351232) (hy1:∀z∈a0,ok_iiLiE z) (hy2:length a2003*8≤140737488351232):Ev F X (.call 66 [(.one (.bor l0_0 (map b_iiLiE a0))),(.clo 49 [] [(.bptr l2000 [(.val (.int .i64 a2001)),(.val (.int .i64 a2002)),(.sl (map b_i a2003))])])] [] [] [(.one (.val (.int .i64 (m1006600 a0 a2001 a2002 a2003))))]):=by
  unfold m1006600
  cases h0:r1006600_0 a0 a2001 a2002 a2003 a0 0 with
  |k0 w0_0 w1_0=>
    try dsimp only
    have f0:(⟨[(0,(.one (.bor l0_0 (map b_iiLiE a0)))),(1,(.clo 49 [] [(.bptr l2000 [(.i a2001),(.i a2002),(.sl (map b_i a2003))])])),(7,(.oi ((length (map b_iiLiE a0)):Int))),(8,(.oi 0))],[]⟩:St)=h1006600_0 l0_0 l2000 a0 a2001 a2002 a2003 0 :=(by rfl)
    exact cp (by kernel_rfl) (.f f0 (.f (ev_ (e:=ex1006600_0) (g:=(fin1006600_0 l0_0 l2000 a0 a2001 a2002 a2003)) h0 (t1006600_0 (l0_0:=l0_0) (l2000:=l2000) (a0:=a0) (a2001:=a2001) (a2002:=a2002) (a2003:=a2003) (by assumption) (by assumption) (by assumption) a0 []  rfl)) (.h 8 (.loop (h1006600_0 l0_0 l2000 a0 a2001 a2002 a2003 0) (.exit 0) ⟨[(0,(.one (.bor l0_0 (map b_iiLiE a0)))),(1,(.clo 49 [] [(.bptr l2000 [(.val (.int .i64 a2001)),(.val (.int .i64 a2002)),(.sl (map b_i a2003))])])),(7,(.one (.val (.int .i64 ((length (map b_iiLiE a0)):Int))))),(8,(.one (.val (.int .i64 w0_0)))),(9,(.one (.val (.bool w1_0))))],[]⟩) .nil)))
  |k1 w0_0=>
    try dsimp only
    have f0:(⟨[(0,(.one (.bor l0_0 (map b_iiLiE a0)))),(1,(.clo 49 [] [(.bptr l2000 [(.i a2001),(.i a2002),(.sl (map b_i a2003))])])),(7,(.oi ((length (map b_iiLiE a0)):Int))),(8,(.oi 0))],[]⟩:St)=h1006600_0 l0_0 l2000 a0 a2001 a2002 a2003 0 :=(by rfl)
    exact cp (by kernel_rfl) (.f f0 (.f (ev_ (e:=ex1006600_0) (g:=(fin1006600_0 l0_0 l2000 a0 a2001 a2002 a2003)) h0 (t1006600_0 (l0_0:=l0_0) (l2000:=l2000) (a0:=a0) (a2001:=a2001) (a2002:=a2002) (a2003:=a2003) (by assumption) (by assumption) (by assumption) a0 []  rfl)) (.h 8 (.loop (h1006600_0 l0_0 l2000 a0 a2001 a2002 a2003 0) .ret ⟨[(4,(.one (.val (.int .i64 w0_0))))],[]⟩) .nil)))
theorem e1004800 {l0_0:Nat} {a0:(List K_iiLiE)} {l2000:Nat} {a2001:Int} {a2002:Int} {a2003:List Int} (hy0:length a0*40≤140737488351232) (hy1:∀z∈a0,ok_iiLiE z) (hy2:length a2003*8≤140737488351232):Ev F X (.call 48 [(.one (.bor l0_0 (map b_iiLiE a0))),(.clo 49 [] [(.bptr l2000 [(.val (.int .i64 a2001)),(.val (.int .i64 a2002)),(.sl (map b_i a2003))])])] [] [] [(.one (.val (.bool (decide ((m1006600 a0 a2001 a2002 a2003)≥0)))))]):=by
  have f0:Ev F X (.call 66 [(.one (.bor (l0_0+1) (map b_iiLiE a0))),(.clo 49 [] [(.bptr (l2000+1) [(.i a2001),(.i a2002),(.sl (map b_i a2003))])])] [] [] [(.oi (m1006600 a0 a2001 a2002 a2003))]):=(e1006600 (a0:=a0) (a2001:=a2001) (a2002:=a2002) (a2003:=a2003) ‹_› ‹_› ‹_›)
  exact cp (by kernel_rfl) (.r 7 [] [] f0 .nil)
/-! loop.example/g00539/impl.inFault -/
def m30 (a0:K_iiLiE) (a1:(List K_iiLiE)):Int:=
  if(!(m18 a0.f0 0 2147483646))=true then 3 else
  if(!(m18 a0.f1 0 3))=true then 3 else
    if(decide (((length (map b_i a0.f2)):Int) > 8))=true then 2 else
      if(decide ((m1006500 a0.f2)≥0))=true then 3 else
        if(decide ((m1006600 a1 a0.f0 a0.f1 a0.f2)≥0))=true then 6 else
          0
theorem e30 {l0_2:Nat} {a0:K_iiLiE} {l1_0:Nat} {a1:(List K_iiLiE)} (hy0:length a0.f2*8≤140737488351232) (hy1:length a1*40≤140737488351232) (hy2:∀z∈a1,ok_iiLiE z):Ev F X (.call 30 [(.agg (k_iiLiE l0_2 a0)),(.one (.bor l1_0 (map b_iiLiE a1)))] [] [] [(.one (.val (.int .i64 (m30 a0 a1))))]):=by
  unfold m30
  have P0 {hs q} (r:PS F X hs q):=(PS.r 9 [] [] (e19 (a0:=a0.f0)) r)
  by_cases h0:(!(m18 a0.f0 0 2147483646))=true
  · try simp only[if_pos h0]
    exact cp (by kernel_rfl) (P0 (.f h0 (.f h0 (.f h0 (.f h0 (.f h0 (.h 14 (.b true) (.h 16 (.b true) (.h 18 (.b true) (.h 20 (.b true) (.h 23 (.b true) .nil)))))))))))
  · try simp only[if_neg h0]
    have P1 {hs q} (r:PS F X hs q):=(P0 (.f (nt h0) (.f (nt h0) (.f (nt h0) (.h 14 (.b false) (.h 16 (.b false) (.h 18 (.b false) (.r 19 [] [] (e18 (a0:=a0.f1) (a1:=0) (a2:=3)) (.f (nt h0) (.f (nt h0) (.h 20 (.b false) (.h 23 (.b false) r))))))))))))
    by_cases h1:(!(m18 a0.f1 0 3))=true
    · try simp only[if_pos h1]
      exact cp (by kernel_rfl) (P1 (.f h1 (.h 26 (.b true) .nil)))
    · try simp only[if_neg h1]
      have P2 {hs q} (r:PS F X hs q):=(P1 (.f (nt h1) (.h 26 (.b false) r)))
      by_cases h2:(decide (((length (map b_i a0.f2)):Int) > 8))=true
      · try simp only[if_pos h2]
        exact cp (by kernel_rfl) (P2 (.f h2 (.h 37 (.b true) .nil)))
      · try simp only[if_neg h2]
        have P3 {hs q} (r:PS F X hs q):=(P2 (.f (nt h2) (.h 37 (.b false) (.r 43 [] [] (e1004600 (l0_0:=(l0_2+1)) (a0:=a0.f2) ‹_›) r))))
        by_cases h3:(decide ((m1006500 a0.f2)≥0))=true
        · try simp only[if_pos h3]
          exact cp (by kernel_rfl) (P3 (.f h3 (.h 46 (.b true) .nil)))
        · try simp only[if_neg h3]
          have f11:fullL [(.val (.int .i64 a0.f0)),(.val (.int .i64 a0.f1)),(.bor l0_2 (map b_i a0.f2))]=true:=(by trivial)
          have f12:Ev F X (.call 48 [(.one (.bor (l1_0+1) (map b_iiLiE a1))),(.clo 49 [] [(.bptr 0 (b_iiLiE a0))])] [] [] [(.one (.val (.bool (decide ((m1006600 a1 a0.f0 a0.f1 a0.f2)≥0)))))]):=(e1004800 (a0:=a1) (a2001:=a0.f0) (a2002:=a0.f1) (a2003:=a0.f2) ‹_› ‹_› ‹_›)
          by_cases h4:(decide ((m1006600 a1 a0.f0 a0.f1 a0.f2)≥0))=true
          · try simp only[if_pos h4]
            exact cp (by kernel_rfl) (P3 (.f (nt h3) (.f f11 (.h 46 (.b false) (.r 52 [] [] f12 (.f h4 (.h 55 (.b true) .nil)))))))
          · try simp only[if_neg h4]
            exact cp (by kernel_rfl) (P3 (.f (nt h3) (.f f11 (.h 46 (.b false) (.r 52 [] [] f12 (.f (nt h4) (.h 55 (.b false) .nil)))))))
theorem inl30 {a:K_iiLiE} {l:List K_iiLiE} (h:m30 a l=0):length a.f2≤8:=by
  by_cases c:(decide (((length (map b_i a.f2)):Int) > 8))=true
  · unfold m30 at h
    simp only[if_pos c] at h
    (repeat' split at h)<;>exact absurd h (by decide)
  · simp only[decide_eq_true_eq,length_map] at c; omega
theorem e31 {a0:Int}:Ev F X (.call 31 [(.one (.val (.int .i64 a0)))] [] [] [(.one (.val (.bool (m18 a0 0 1000000))))]):=by
  exact cp (by kernel_rfl) (.r 5 [] [] (e18 (a0:=a0) (a1:=0) (a2:=1000000)) .nil)
/-! loop.example/g00539/impl.ProgramFault$1 -/
def m50 (a0:Int):Bool:=
  if(!(m18 a0 1 9))=true then(!(m18 a0 100 1099)) else
  false
theorem e50 {a0:Int}:Ev F X (.call 50 [(.one (.val (.int .i64 a0)))] [] [] [(.one (.val (.bool (m50 a0))))]):=by
  unfold m50
  by_cases h0:(!(m18 a0 1 9))=true
  · try simp only[if_pos h0]
    exact cp (by kernel_rfl) (.r 5 [] [] (e18 (a0:=a0) (a1:=1) (a2:=9)) (.f h0 (.f h0 (.h 10 (.b true) (.h 12 (.b true) (.r 13 [] [] (e18 (a0:=a0) (a1:=100) (a2:=1099)) (.f h0 (.f h0 (.h 14 (.b true) (.h 17 (.b true) .nil))))))))))
  · try simp only[if_neg h0]
    exact cp (by kernel_rfl) (.r 5 [] [] (e18 (a0:=a0) (a1:=1) (a2:=9)) (.f (nt h0) (.f (nt h0) (.f (nt h0) (.f (nt h0) (.h 10 (.b false) (.h 12 (.b false) (.h 14 (.b false) (.h 17 (.b false) .nil)))))))))
/-! loop 1006501_0 -/
inductive O1006501_0 where
  |k0 (w0:Int) (w1:Bool)
  |k1 (w0:Int)
def r1006501_0 (a0:(List Int)):List Int→Int→O1006501_0
  |x0::y0,i=>
    if(m50 x0)=true then(O1006501_0.k1 i) else
    (r1006501_0 a0 y0 (i+1))
  |[],i=>(O1006501_0.k0 i (decide (i <((length (map b_i a0)):Int))))
def h1006501_0 (l0_0:Nat) (a0:(List Int)) (i:Int) :St:=⟨[(0,(.one (.bor l0_0 (map b_i a0)))),(1,(.clo 50 [] [])),(7,(.one (.val (.int .i64 ((length (map b_i a0)):Int))))),(8,(.one (.val (.int .i64 i))))],[]⟩
def ex1006501_0:O1006501_0→VX.Exit
  |.k0 _ _=>(.exit 0)
  |.k1 _=>.ret
def fin1006501_0 (l0_0:Nat) (a0:(List Int)):O1006501_0→St
  |.k0 w0 w1=>⟨[(0,(.one (.bor l0_0 (map b_i a0)))),(1,(.clo 50 [] [])),(7,(.one (.val (.int .i64 ((length (map b_i a0)):Int))))),(8,(.one (.val (.int .i64 w0)))),(9,(.one (.val (.bool w1))))],[]⟩
  |.k1 w0=>⟨[(4,(.one (.val (.int .i64 w0))))],[]⟩
theorem t1006501_0 {l0_0:Nat} {a0:(List Int)} (hy0:length a0*8≤140737488351232):∀(y0:List Int) (p:List Int),p++y0=a0→Ev F X (.code l65_0 (h1006501_0 l0_0 a0 (length p:Int)) (ex1006501_0 (r1006501_0 a0 y0 (length p:Int))) (fin1006501_0 l0_0 a0 (r1006501_0 a0 y0 (length p:Int))))
  |[],p,hp0=>by
    have hc:¬(decide ((length p:Int) <((length (map b_i a0)):Int)))=true:=by
      rw[← hp0]; simp only[length_map,length_set,length_append,length_replicate,length_cons,length_nil,decide_eq_true_eq]; omega
    have st:=ch b65_0 (h1006501_0 l0_0 a0 (length p:Int)) ⟨[(0,(.one (.bor l0_0 (map b_i a0)))),(1,(.clo 50 [] [])),(7,(.oi ((length (map b_i a0)):Int))),(8,(.oi (length p:Int))),(9,(.one (.val (.bool (decide ((length p:Int) <((length (map b_i a0)):Int)))))))],[]⟩ (.exit 0) 3 (by kernel_rfl) (.f (nt hc) (.h 2 (.b false) .nil))
    rw[show (⟨[(0,(.one (.bor l0_0 (map b_i a0)))),(1,(.clo 50 [] [])),(7,(.oi ((length (map b_i a0)):Int))),(8,(.oi (length p:Int))),(9,(.one (.val (.bool (decide ((length p:Int) <((length (map b_i a0)):Int)))))))],[]⟩:St)=fin1006501_0 l0_0 a0 (.k0 (length p:Int) (decide ((length p:Int) <((length (map b_i a0)):Int)))) from(by rfl)] at st
    exact .loopX st (show ((.exit 0):VX.Exit)≠.normal from by simp)
  |x0::y0,p,hp0=>by
    have hc:(decide ((length p:Int) <((length (map b_i a0)):Int)))=true:=by
      rw[← hp0]; simp only[length_map,length_set,length_append,length_replicate,length_cons,length_nil,decide_eq_true_eq]; omega
    have Hx0:(a0)[toNat (length p:Int)]?=some x0:=by
      rw[← hp0,Int.toNat_natCast]; simp
    have hlen:length (a0)=length p+length y0+1:=by rw[← hp0]; simp; omega
    have hw:wrap .i64 ((length p:Int)+1)=(length p:Int)+1:=wrap64 (by omega)
    simp only[r1006501_0]
    have f1:0≤(length p:Int):=(by omega)
    have P1 {hs q} (r:PS F X hs q):=(PS.f hc (.f f1 (.f (mp_ b_i Hx0) (.h 2 (.b true) (.h 14 (.row [(.val (.int .i64 x0))]) (.r 18 [] [] (e50 (a0:=x0)) r))))))
    by_cases h_1:(m50 x0)=true
    · try simp only[if_pos h_1]
      have st:=ch b65_0 (h1006501_0 l0_0 a0 (length p:Int)) ⟨[(4,(.oi (length p:Int)))],[]⟩ .ret 24 (by kernel_rfl) (P1 (.f h_1 (.h 19 (.b true) .nil)))
      rw[show (⟨[(4,(.oi (length p:Int)))],[]⟩:St)=fin1006501_0 l0_0 a0 (.k1 (length p:Int)) from(by rfl)] at st
      exact .loopX st (show (.ret:VX.Exit)≠.normal from by simp)
    · try simp only[if_neg h_1]
      have st:=ch b65_0 (h1006501_0 l0_0 a0 (length p:Int)) ⟨[(0,(.one (.bor l0_0 (map b_i a0)))),(1,(.clo 50 [] [])),(7,(.oi ((length (map b_i a0)):Int))),(8,(.oi (wrap .i64 ((length p:Int)+1))))],[]⟩ .normal 24 (by kernel_rfl) (P1 (.f (nt h_1) (.f trivial (.h 19 (.b false) .nil))))
      have ih:=t1006501_0 (l0_0:=l0_0) (a0:=a0) hy0 y0 (p++ [x0]) (by rw[append_assoc]; exact hp0)
      rw[show ((p++ [x0]).length:Int)=(p.length:Int)+1 from by simp] at ih
      rw[show (⟨[(0,(.one (.bor l0_0 (map b_i a0)))),(1,(.clo 50 [] [])),(7,(.oi ((length (map b_i a0)):Int))),(8,(.oi (wrap .i64 ((length p:Int)+1))))],[]⟩:St)=h1006501_0 l0_0 a0 ((length p:Int)+1)  from(by unfold h1006501_0; simp only[hw]; done)] at st
      exact .loopN st ih
/-! slices.IndexFunc[[]int64,int64] -/
def m1006501 (a0:(List Int)):Int:=
  (match r1006501_0 a0 a0 0 with | .k0 w0_0 w1_0=>(-1) | .k1 w0_0=>w0_0)
theorem e1006501 {l0_0:Nat} {a0:(List Int)} (hy0:length a0*8≤140737488351232):Ev F X (.call 65 [(.one (.bor l0_0 (map b_i a0))),(.clo 50 [] [])] [] [] [(.one (.val (.int .i64 (m1006501 a0))))]):=by
  unfold m1006501
  cases h0:r1006501_0 a0 a0 0 with
  |k0 w0_0 w1_0=>
    try dsimp only
    have f0:(⟨[(0,(.one (.bor l0_0 (map b_i a0)))),(1,(.clo 50 [] [])),(7,(.oi ((length (map b_i a0)):Int))),(8,(.oi 0))],[]⟩:St)=h1006501_0 l0_0 a0 0 :=(by rfl)
    exact cp (by kernel_rfl) (.f f0 (.f (ev_ (e:=ex1006501_0) (g:=(fin1006501_0 l0_0 a0)) h0 (t1006501_0 (l0_0:=l0_0) (a0:=a0) (by assumption) a0 []  rfl)) (.h 8 (.loop (h1006501_0 l0_0 a0 0) (.exit 0) ⟨[(0,(.one (.bor l0_0 (map b_i a0)))),(1,(.clo 50 [] [])),(7,(.one (.val (.int .i64 ((length (map b_i a0)):Int))))),(8,(.one (.val (.int .i64 w0_0)))),(9,(.one (.val (.bool w1_0))))],[]⟩) .nil)))
  |k1 w0_0=>
    try dsimp only
    have f0:(⟨[(0,(.one (.bor l0_0 (map b_i a0)))),(1,(.clo 50 [] [])),(7,(.oi ((length (map b_i a0)):Int))),(8,(.oi 0))],[]⟩:St)=h1006501_0 l0_0 a0 0 :=(by rfl)
    exact cp (by kernel_rfl) (.f f0 (.f (ev_ (e:=ex1006501_0) (g:=(fin1006501_0 l0_0 a0)) h0 (t1006501_0 (l0_0:=l0_0) (a0:=a0) (by assumption) a0 []  rfl)) (.h 8 (.loop (h1006501_0 l0_0 a0 0) .ret ⟨[(4,(.one (.val (.int .i64 w0_0))))],[]⟩) .nil)))
theorem e1004601 {l0_0:Nat} {a0:(List Int)} (hy0:length a0*8≤140737488351232):Ev F X (.call 46 [(.one (.bor l0_0 (map b_i a0))),(.clo 50 [] [])] [] [] [(.one (.val (.bool (decide ((m1006501 a0)≥0)))))]):=by
  exact cp (by kernel_rfl) (.r 7 [] [] (e1006501 (l0_0:=(l0_0+1)) (a0:=a0) ‹_›) .nil)
/-! loop.example/g00539/impl.ProgramFault -/
def m32 (a0:(List Int)):Int:=
  if(decide (((length (map b_i a0)):Int) > 12))=true then 2 else
  if(decide ((m1006501 a0)≥0))=true then 1 else
    0
theorem e32 {l0_0:Nat} {a0:(List Int)} (hy0:length a0*8≤140737488351232):Ev F X (.call 32 [(.one (.bor l0_0 (map b_i a0)))] [] [] [(.one (.val (.int .i64 (m32 a0))))]):=by
  unfold m32
  by_cases h0:(decide (((length (map b_i a0)):Int) > 12))=true
  · try simp only[if_pos h0]
    exact cp (by kernel_rfl) (.f h0 (.h 8 (.b true) .nil))
  · try simp only[if_neg h0]
    have P1 {hs q} (r:PS F X hs q):=(PS.f (nt h0) (.h 8 (.b false) (.r 12 [] [] (e1004601 (l0_0:=(l0_0+1)) (a0:=a0) ‹_›) r)))
    by_cases h1:(decide ((m1006501 a0)≥0))=true
    · try simp only[if_pos h1]
      exact cp (by kernel_rfl) (P1 (.f h1 (.h 13 (.b true) .nil)))
    · try simp only[if_neg h1]
      exact cp (by kernel_rfl) (P1 (.f (nt h1) (.h 13 (.b false) .nil)))
theorem lk32 {a:List Int} (h:m32 a=0):length a≤12:=by
  by_cases c:(decide (((length (map b_i a)):Int) > 12))=true
  · unfold m32 at h
    simp only[if_pos c] at h
    exact absurd h (by decide)
  · simp only[decide_eq_true_eq,length_map] at c; omega
/-! loop 33_0 -/
inductive O33_0 where
  |k0 (w0:Int) (w1:Int) (w2:Bool)
def r33_0 (a0:(List K_iLiE)):List K_iLiE→Int→Int→O33_0
  |x0::y0,i,v0=>
    (r33_0 a0 y0 (i+1) (wrap .i64 (v0+x0.f0)))
  |[],i,v0=>(O33_0.k0 v0 i (decide (i <((length (map b_iLiE a0)):Int))))
def h33_0 (l0_0:Nat) (a0:(List K_iLiE)) (i:Int) (v0:Int):St:=⟨[(3,(.one (.val (.int .i64 v0)))),(6,(.one (.bor l0_0 (map b_iLiE a0)))),(7,(.one (.val (.int .i64 ((length (map b_iLiE a0)):Int))))),(8,(.one (.val (.int .i64 i))))],[]⟩
def ex33_0:O33_0→VX.Exit
  |.k0 _ _ _=>(.exit 0)
def fin33_0 (l0_0:Nat) (a0:(List K_iLiE)):O33_0→St
  |.k0 w0 w1 w2=>⟨[(3,(.one (.val (.int .i64 w0)))),(6,(.one (.bor l0_0 (map b_iLiE a0)))),(7,(.one (.val (.int .i64 ((length (map b_iLiE a0)):Int))))),(8,(.one (.val (.int .i64 w1)))),(9,(.one (.val (.bool w2))))],[]⟩
theorem t33_0 {l0_0:Nat} {a0:(List K_iLiE)} (hy0:length a0*32≤140737488351232) (hy1:∀z∈a0,ok_iLiE z):∀(y0:List K_iLiE) (p:List K_iLiE) (v0:Int),p++y0=a0→Ev F X (.code l33_0 (h33_0 l0_0 a0 (length p:Int) v0) (ex33_0 (r33_0 a0 y0 (length p:Int) v0)) (fin33_0 l0_0 a0 (r33_0 a0 y0 (length p:Int) v0)))
  |[],p,v0,hp0=>by
    have hc:¬(decide ((length p:Int) <((length (map b_iLiE a0)):Int)))=true:=by
      rw[← hp0]; simp only[length_map,length_set,length_append,length_replicate,length_cons,length_nil,decide_eq_true_eq]; omega
    have st:=ch b33_0 (h33_0 l0_0 a0 (length p:Int) v0) ⟨[(3,(.oi v0)),(6,(.one (.bor l0_0 (map b_iLiE a0)))),(7,(.oi ((length (map b_iLiE a0)):Int))),(8,(.oi (length p:Int))),(9,(.one (.val (.bool (decide ((length p:Int) <((length (map b_iLiE a0)):Int)))))))],[]⟩ (.exit 0) 3 (by kernel_rfl) (.f (nt hc) (.h 2 (.b false) .nil))
    rw[show (⟨[(3,(.oi v0)),(6,(.one (.bor l0_0 (map b_iLiE a0)))),(7,(.oi ((length (map b_iLiE a0)):Int))),(8,(.oi (length p:Int))),(9,(.one (.val (.bool (decide ((length p:Int) <((length (map b_iLiE a0)):Int)))))))],[]⟩:St)=fin33_0 l0_0 a0 (.k0 v0 (length p:Int) (decide ((length p:Int) <((length (map b_iLiE a0)):Int)))) from(by rfl)] at st
    exact .loopX st (show ((.exit 0):VX.Exit)≠.normal from by simp)
  |x0::y0,p,v0,hp0=>by
    have hc:(decide ((length p:Int) <((length (map b_iLiE a0)):Int)))=true:=by
      rw[← hp0]; simp only[length_map,length_set,length_append,length_replicate,length_cons,length_nil,decide_eq_true_eq]; omega
    have Hx0:(a0)[toNat (length p:Int)]?=some x0:=by
      rw[← hp0,Int.toNat_natCast]; simp
    have Mx0_0:=hy1 x0 (List.mem_of_getElem? Hx0)
    have hlen:length (a0)=length p+length y0+1:=by rw[← hp0]; simp; omega
    have hw:wrap .i64 ((length p:Int)+1)=(length p:Int)+1:=wrap64 (by omega)
    simp only[r33_0]
    have f1:0≤(length p:Int):=(by omega)
    have st:=ch b33_0 (h33_0 l0_0 a0 (length p:Int) v0) ⟨[(3,(.oi (wrap .i64 (v0+x0.f0)))),(6,(.one (.bor l0_0 (map b_iLiE a0)))),(7,(.oi ((length (map b_iLiE a0)):Int))),(8,(.oi (wrap .i64 ((length p:Int)+1))))],[]⟩ .normal 25 (by kernel_rfl) (.f hc (.f f1 (.f (mp_ b_iLiE Hx0) (.f trivial (.f trivial (.h 2 (.b true) (.h 4 (.row (b_iLiE x0)) .nil)))))))
    have ih:=t33_0 (l0_0:=l0_0) (a0:=a0) hy0 hy1 y0 (p++ [x0]) (wrap .i64 (v0+x0.f0)) (by rw[append_assoc]; exact hp0)
    rw[show ((p++ [x0]).length:Int)=(p.length:Int)+1 from by simp] at ih
    rw[show (⟨[(3,(.oi (wrap .i64 (v0+x0.f0)))),(6,(.one (.bor l0_0 (map b_iLiE a0)))),(7,(.oi ((length (map b_iLiE a0)):Int))),(8,(.oi (wrap .i64 ((length p:Int)+1))))],[]⟩:St)=h33_0 l0_0 a0 ((length p:Int)+1) (wrap .i64 (v0+x0.f0)) from(by unfold h33_0; simp only[hw]; done)] at st
    exact .loopN st ih
/-! loop.example/g00539/impl.outSum -/
def m33 (a0:(List K_iLiE)):Int:=
  (match r33_0 a0 a0 0 0 with | .k0 w0_0 w1_0 w2_0=>w0_0)
theorem e33 {l0_0:Nat} {a0:(List K_iLiE)} (hy0:length a0*32≤140737488351232) (hy1:∀z∈a0,ok_iLiE z):Ev F X (.call 33 [(.one (.bor l0_0 (map b_iLiE a0)))] [] [] [(.one (.val (.int .i64 (m33 a0))))]):=by
  unfold m33
  cases h0:r33_0 a0 a0 0 0 with
  |k0 w0_0 w1_0 w2_0=>
    try dsimp only
    have f0:(⟨[(3,(.oi 0)),(6,(.one (.bor l0_0 (map b_iLiE a0)))),(7,(.oi ((length (map b_iLiE a0)):Int))),(8,(.oi 0))],[]⟩:St)=h33_0 l0_0 a0 0 0:=(by rfl)
    exact cp (by kernel_rfl) (.f f0 (.f (ev_ (e:=ex33_0) (g:=(fin33_0 l0_0 a0)) h0 (t33_0 (l0_0:=l0_0) (a0:=a0) (by assumption) (by assumption) a0 [] 0 rfl)) (.h 10 (.loop (h33_0 l0_0 a0 0 0) (.exit 0) ⟨[(3,(.one (.val (.int .i64 w0_0)))),(6,(.one (.bor l0_0 (map b_iLiE a0)))),(7,(.one (.val (.int .i64 ((length (map b_iLiE a0)):Int))))),(8,(.one (.val (.int .i64 w1_0)))),(9,(.one (.val (.bool w2_0))))],[]⟩) .nil)))
/-! loop 21_0 -/
inductive O21_0 where
  |k0 (w0:Int) (w1:Bool)
  |k1 (w0:Int)
def r21_0 (a0:K_iLiiLiEELiLiEE):List K_iiLiE→Int→O21_0
  |x0::y0,i=>
    if((m30 x0 (take (toNat i) a0.f1)) !=0)=true then(O21_0.k1 (m30 x0 (take (toNat i) a0.f1))) else
    (r21_0 a0 y0 (i+1))
  |[],i=>(O21_0.k0 i (decide (i <((length (map b_iiLiE a0.f1)):Int))))
def h21_0 (l0_1:Nat) (l0_2:Nat) (a0:K_iLiiLiEELiLiEE) (i:Int) :St:=⟨[(1,(.ptr ⟨(1,0,0),[],0,0,3⟩)),(27,(.one (.bor l0_1 (map b_iiLiE a0.f1)))),(28,(.one (.val (.int .i64 ((length (map b_iiLiE a0.f1)):Int))))),(29,(.one (.val (.int .i64 i))))],[((1,0,0),.live ⟨3,[[(.val (.int .i64 a0.f0)),(.bor l0_1 (map b_iiLiE a0.f1)),(.bor l0_2 (map b_iLiE a0.f2))]],[]⟩)]⟩
def ex21_0:O21_0→VX.Exit
  |.k0 _ _=>(.exit 1)
  |.k1 _=>.ret
def fin21_0 (l0_1:Nat) (l0_2:Nat) (a0:K_iLiiLiEELiLiEE):O21_0→St
  |.k0 w0 w1=>⟨[(1,(.ptr ⟨(1,0,0),[],0,0,3⟩)),(27,(.one (.bor l0_1 (map b_iiLiE a0.f1)))),(28,(.one (.val (.int .i64 ((length (map b_iiLiE a0.f1)):Int))))),(29,(.one (.val (.int .i64 w0)))),(30,(.one (.val (.bool w1))))],[((1,0,0),.live ⟨3,[[(.val (.int .i64 a0.f0)),(.bor l0_1 (map b_iiLiE a0.f1)),(.bor l0_2 (map b_iLiE a0.f2))]],[]⟩)]⟩
  |.k1 w0=>⟨[(2,(.one (.val (.int .i64 w0))))],[]⟩
theorem t21_0 {l0_1:Nat} {l0_2:Nat} {a0:K_iLiiLiEELiLiEE} (hy0:length a0.f1*40≤140737488351232) (hy1:∀z∈a0.f1,ok_iiLiE z) (hy2:length a0.f2*32≤140737488351232) (hy3:∀z∈a0.f2,ok_iLiE z):∀(y0:List K_iiLiE) (p:List K_iiLiE),p++y0=a0.f1→Ev F X (.code l21_0 (h21_0 l0_1 l0_2 a0 (length p:Int)) (ex21_0 (r21_0 a0 y0 (length p:Int))) (fin21_0 l0_1 l0_2 a0 (r21_0 a0 y0 (length p:Int))))
  |[],p,hp0=>by
    have hc:¬(decide ((length p:Int) <((length (map b_iiLiE a0.f1)):Int)))=true:=by
      rw[← hp0]; simp only[length_map,length_set,length_append,length_replicate,length_cons,length_nil,decide_eq_true_eq]; omega
    have st:=ch b21_0 (h21_0 l0_1 l0_2 a0 (length p:Int)) ⟨[(1,(.ptr ⟨(1,0,0),[],0,0,3⟩)),(27,(.one (.bor l0_1 (map b_iiLiE a0.f1)))),(28,(.oi ((length (map b_iiLiE a0.f1)):Int))),(29,(.oi (length p:Int))),(30,(.one (.val (.bool (decide ((length p:Int) <((length (map b_iiLiE a0.f1)):Int)))))))],[((1,0,0),.live ⟨3,[[(.i a0.f0),(.bor l0_1 (map b_iiLiE a0.f1)),(.bor l0_2 (map b_iLiE a0.f2))]],[]⟩)]⟩ (.exit 1) 3 (by kernel_rfl) (.f (nt hc) (.h 2 (.b false) .nil))
    rw[show (⟨[(1,(.ptr ⟨(1,0,0),[],0,0,3⟩)),(27,(.one (.bor l0_1 (map b_iiLiE a0.f1)))),(28,(.oi ((length (map b_iiLiE a0.f1)):Int))),(29,(.oi (length p:Int))),(30,(.one (.val (.bool (decide ((length p:Int) <((length (map b_iiLiE a0.f1)):Int)))))))],[((1,0,0),.live ⟨3,[[(.i a0.f0),(.bor l0_1 (map b_iiLiE a0.f1)),(.bor l0_2 (map b_iLiE a0.f2))]],[]⟩)]⟩:St)=fin21_0 l0_1 l0_2 a0 (.k0 (length p:Int) (decide ((length p:Int) <((length (map b_iiLiE a0.f1)):Int)))) from(by rfl)] at st
    exact .loopX st (show ((.exit 1):VX.Exit)≠.normal from by simp)
  |x0::y0,p,hp0=>by
    have hc:(decide ((length p:Int) <((length (map b_iiLiE a0.f1)):Int)))=true:=by
      rw[← hp0]; simp only[length_map,length_set,length_append,length_replicate,length_cons,length_nil,decide_eq_true_eq]; omega
    have Hx0:(a0.f1)[toNat (length p:Int)]?=some x0:=by
      rw[← hp0,Int.toNat_natCast]; simp
    have Mx0_0:=hy1 x0 (List.mem_of_getElem? Hx0)
    have hlen:length (a0.f1)=length p+length y0+1:=by rw[← hp0]; simp; omega
    have hw:wrap .i64 ((length p:Int)+1)=(length p:Int)+1:=wrap64 (by omega)
    simp only[r21_0]
    have f1:0≤(length p:Int):=(by omega)
    have f3:(0≤(0:Int)∧(0:Int)≤(length p:Int)∧(length p:Int)≤((length (map b_iiLiE a0.f1)):Int))∧∀r∈((map b_iiLiE a0.f1):List (List B)),r.length=3:=(by refine⟨?_,lenB_iiLiE _⟩; simp only[length_map,length_set,length_append,length_replicate,length_cons,length_nil]; omega)
    have f4:Ev F X (.call 30 [(.agg (k_iiLiE (l0_1+1) x0)),(.one (.bor (l0_1+1) (take (toNat (length p:Int) - toNat 0) (drop 0 (map b_iiLiE a0.f1)))))] [] [] [(.oi (m30 x0 (take (toNat (length p:Int)) a0.f1)))]):=(by rw[show (take (toNat (length p:Int) - toNat 0) (drop 0 (map b_iiLiE a0.f1)))=(map b_iiLiE (take (toNat (length p:Int)) a0.f1)) from by first | rfl |(simp[map_take,map_drop,four_len]; done) |(simp[byteRows_eq,map_take,map_drop,four_len]; done) |(simp[*,map_take,map_drop,four_len]; done) |(rw[take_of_length_le (by simp only[length_drop,length_take,length_map,Int.toNat_natCast]; omega)]; simp only[← map_drop,← map_take])]; exact(e30 (l0_2:=(l0_1+1)) (l1_0:=(l0_1+1)) (a0:=x0) (a1:=(take (toNat (length p:Int)) a0.f1)) (by assumption) (by simp only[length_take]; omega) (by intro z hz; exact(by assumption:∀z∈_,ok_iiLiE z) z (List.mem_of_mem_take hz))))
    have P1 {hs q} (r:PS F X hs q):=(PS.f hc (.f f1 (.f (mp_ b_iiLiE Hx0) (.f f3 (.h 2 (.b true) (.h 6 (.row (b_iiLiE x0)) (.r 26 [] [] f4 r)))))))
    by_cases h_1:((m30 x0 (take (toNat (length p:Int)) a0.f1)) !=0)=true
    · try simp only[if_pos h_1]
      have st:=ch b21_0 (h21_0 l0_1 l0_2 a0 (length p:Int)) ⟨[(2,(.oi (m30 x0 (take (toNat (length p:Int)) a0.f1))))],[]⟩ .ret 38 (by kernel_rfl) (P1 (.f h_1 (.h 33 (.b true) .nil)))
      rw[show (⟨[(2,(.oi (m30 x0 (take (toNat (length p:Int)) a0.f1))))],[]⟩:St)=fin21_0 l0_1 l0_2 a0 (.k1 (m30 x0 (take (toNat (length p:Int)) a0.f1))) from(by rfl)] at st
      exact .loopX st (show (.ret:VX.Exit)≠.normal from by simp)
    · try simp only[if_neg h_1]
      have st:=ch b21_0 (h21_0 l0_1 l0_2 a0 (length p:Int)) ⟨[(1,(.ptr ⟨(1,0,0),[],0,0,3⟩)),(27,(.one (.bor l0_1 (map b_iiLiE a0.f1)))),(28,(.oi ((length (map b_iiLiE a0.f1)):Int))),(29,(.oi (wrap .i64 ((length p:Int)+1))))],[((1,0,0),.live ⟨3,[[(.i a0.f0),(.bor l0_1 (map b_iiLiE a0.f1)),(.bor l0_2 (map b_iLiE a0.f2))]],[]⟩)]⟩ .normal 38 (by kernel_rfl) (P1 (.f (nt h_1) (.f trivial (.h 33 (.b false) .nil))))
      have ih:=t21_0 (l0_1:=l0_1) (l0_2:=l0_2) (a0:=a0) hy0 hy1 hy2 hy3 y0 (p++ [x0]) (by rw[append_assoc]; exact hp0)
      rw[show ((p++ [x0]).length:Int)=(p.length:Int)+1 from by simp] at ih
      rw[show (⟨[(1,(.ptr ⟨(1,0,0),[],0,0,3⟩)),(27,(.one (.bor l0_1 (map b_iiLiE a0.f1)))),(28,(.oi ((length (map b_iiLiE a0.f1)):Int))),(29,(.oi (wrap .i64 ((length p:Int)+1))))],[((1,0,0),.live ⟨3,[[(.i a0.f0),(.bor l0_1 (map b_iiLiE a0.f1)),(.bor l0_2 (map b_iLiE a0.f2))]],[]⟩)]⟩:St)=h21_0 l0_1 l0_2 a0 ((length p:Int)+1)  from(by unfold h21_0; simp only[hw]; done)] at st
      exact .loopN st ih
theorem lf21 {a:K_iLiiLiEELiLiEE}:∀ {l:List K_iiLiE} {i:Int} {j b},r21_0 a l i=.k0 j b→∀x∈l,length x.f2≤8
  |[],i,j,b,h,x,hx=>by cases hx
  |y::l,i,j,b,h,x,hx=>by
    simp only[r21_0] at h
    split at h
    · cases h
    · rename_i h1
      rcases List.mem_cons.1 hx with rfl | hx
      · have h2:m30 x (take (toNat i) a.f1)=0:=by simpa using h1
        exact inl30 h2
      · exact lf21 h x hx
theorem ne21 {a:K_iLiiLiEELiLiEE}:∀(l:List K_iiLiE) (i:Int),r21_0 a l i≠.k1 0
  |[],i=>by simp only[r21_0]; intro h; cases h
  |y::l,i=>by
    simp only[r21_0]
    split
    · rename_i h; intro q; injection q with q; rw[q] at h; exact absurd h (by decide)
    · exact ne21 l _
/-! loop 21_1 -/
inductive O21_1 where
  |k0 (w0:Int) (w1:Bool)
  |k1
  |k2 (w0:Int)
def r21_1 (a0:K_iLiiLiEELiLiEE):List K_iLiE→Int→O21_1
  |x0::y0,i=>
    if(!(m18 x0.f0 0 1000000))=true then(O21_1.k1) else
    if((m32 x0.f1) !=0)=true then(O21_1.k2 (m32 x0.f1)) else
      (r21_1 a0 y0 (i+1))
  |[],i=>(O21_1.k0 i (decide (i <((length (map b_iLiE a0.f2)):Int))))
def h21_1 (l0_1:Nat) (l0_2:Nat) (a0:K_iLiiLiEELiLiEE) (i:Int) :St:=⟨[(1,(.ptr ⟨(1,0,0),[],0,0,3⟩)),(45,(.one (.bor l0_2 (map b_iLiE a0.f2)))),(46,(.one (.val (.int .i64 ((length (map b_iLiE a0.f2)):Int))))),(47,(.one (.val (.int .i64 i))))],[((1,0,0),.live ⟨3,[[(.val (.int .i64 a0.f0)),(.bor l0_1 (map b_iiLiE a0.f1)),(.bor l0_2 (map b_iLiE a0.f2))]],[]⟩)]⟩
def ex21_1:O21_1→VX.Exit
  |.k0 _ _=>(.exit 3)
  |.k1=>.ret
  |.k2 _=>.ret
def fin21_1 (l0_1:Nat) (l0_2:Nat) (a0:K_iLiiLiEELiLiEE):O21_1→St
  |.k0 w0 w1=>⟨[(1,(.ptr ⟨(1,0,0),[],0,0,3⟩)),(45,(.one (.bor l0_2 (map b_iLiE a0.f2)))),(46,(.one (.val (.int .i64 ((length (map b_iLiE a0.f2)):Int))))),(47,(.one (.val (.int .i64 w0)))),(48,(.one (.val (.bool w1))))],[((1,0,0),.live ⟨3,[[(.val (.int .i64 a0.f0)),(.bor l0_1 (map b_iiLiE a0.f1)),(.bor l0_2 (map b_iLiE a0.f2))]],[]⟩)]⟩
  |.k1=>⟨[(2,(.one (.val (.int .i64 3))))],[]⟩
  |.k2 w0=>⟨[(2,(.one (.val (.int .i64 w0))))],[]⟩
theorem t21_1 {l0_1:Nat} {l0_2:Nat} {a0:K_iLiiLiEELiLiEE} (hy0:length a0.f1*40≤140737488351232) (hy1:∀z∈a0.f1,ok_iiLiE z) (hy2:length a0.f2*32≤140737488351232) (hy3:∀z∈a0.f2,ok_iLiE z):∀(y0:List K_iLiE) (p:List K_iLiE),p++y0=a0.f2→Ev F X (.code l21_1 (h21_1 l0_1 l0_2 a0 (length p:Int)) (ex21_1 (r21_1 a0 y0 (length p:Int))) (fin21_1 l0_1 l0_2 a0 (r21_1 a0 y0 (length p:Int))))
  |[],p,hp0=>by
    have hc:¬(decide ((length p:Int) <((length (map b_iLiE a0.f2)):Int)))=true:=by
      rw[← hp0]; simp only[length_map,length_set,length_append,length_replicate,length_cons,length_nil,decide_eq_true_eq]; omega
    have st:=ch b21_1 (h21_1 l0_1 l0_2 a0 (length p:Int)) ⟨[(1,(.ptr ⟨(1,0,0),[],0,0,3⟩)),(45,(.one (.bor l0_2 (map b_iLiE a0.f2)))),(46,(.oi ((length (map b_iLiE a0.f2)):Int))),(47,(.oi (length p:Int))),(48,(.one (.val (.bool (decide ((length p:Int) <((length (map b_iLiE a0.f2)):Int)))))))],[((1,0,0),.live ⟨3,[[(.i a0.f0),(.bor l0_1 (map b_iiLiE a0.f1)),(.bor l0_2 (map b_iLiE a0.f2))]],[]⟩)]⟩ (.exit 3) 3 (by kernel_rfl) (.f (nt hc) (.h 2 (.b false) .nil))
    rw[show (⟨[(1,(.ptr ⟨(1,0,0),[],0,0,3⟩)),(45,(.one (.bor l0_2 (map b_iLiE a0.f2)))),(46,(.oi ((length (map b_iLiE a0.f2)):Int))),(47,(.oi (length p:Int))),(48,(.one (.val (.bool (decide ((length p:Int) <((length (map b_iLiE a0.f2)):Int)))))))],[((1,0,0),.live ⟨3,[[(.i a0.f0),(.bor l0_1 (map b_iiLiE a0.f1)),(.bor l0_2 (map b_iLiE a0.f2))]],[]⟩)]⟩:St)=fin21_1 l0_1 l0_2 a0 (.k0 (length p:Int) (decide ((length p:Int) <((length (map b_iLiE a0.f2)):Int)))) from(by rfl)] at st
    exact .loopX st (show ((.exit 3):VX.Exit)≠.normal from by simp)
  |x0::y0,p,hp0=>by
    have hc:(decide ((length p:Int) <((length (map b_iLiE a0.f2)):Int)))=true:=by
      rw[← hp0]; simp only[length_map,length_set,length_append,length_replicate,length_cons,length_nil,decide_eq_true_eq]; omega
    have Hx0:(a0.f2)[toNat (length p:Int)]?=some x0:=by
      rw[← hp0,Int.toNat_natCast]; simp
    have Mx0_0:=hy3 x0 (List.mem_of_getElem? Hx0)
    have hlen:length (a0.f2)=length p+length y0+1:=by rw[← hp0]; simp; omega
    have hw:wrap .i64 ((length p:Int)+1)=(length p:Int)+1:=wrap64 (by omega)
    simp only[r21_1]
    have f1:0≤(length p:Int):=(by omega)
    have P1 {hs q} (r:PS F X hs q):=(PS.f hc (.f f1 (.f (mp_ b_iLiE Hx0) (.h 2 (.b true) (.h 4 (.row (b_iLiE x0)) (.r 16 [] [] (e31 (a0:=x0.f0)) r))))))
    by_cases h_1:(!(m18 x0.f0 0 1000000))=true
    · try simp only[if_pos h_1]
      have st:=ch b21_1 (h21_1 l0_1 l0_2 a0 (length p:Int)) ⟨[(2,(.oi 3))],[]⟩ .ret 22 (by kernel_rfl) (P1 (.f h_1 (.h 19 (.b true) .nil)))
      rw[show (⟨[(2,(.oi 3))],[]⟩:St)=fin21_1 l0_1 l0_2 a0 (.k1) from(by rfl)] at st
      exact .loopX st (show (.ret:VX.Exit)≠.normal from by simp)
    · try simp only[if_neg h_1]
      have P2 {hs q} (r:PS F X hs q):=(P1 (.f (nt h_1) (.h 19 (.b false) (.r 25 [] [] (e32 (l0_0:=(l0_2+1)) (a0:=x0.f1) (by assumption)) r))))
      by_cases h_2:((m32 x0.f1) !=0)=true
      · try simp only[if_pos h_2]
        have st:=ch b21_1 (h21_1 l0_1 l0_2 a0 (length p:Int)) ⟨[(2,(.oi (m32 x0.f1)))],[]⟩ .ret 37 (by kernel_rfl) (P2 (.f h_2 (.h 32 (.b true) .nil)))
        rw[show (⟨[(2,(.oi (m32 x0.f1)))],[]⟩:St)=fin21_1 l0_1 l0_2 a0 (.k2 (m32 x0.f1)) from(by rfl)] at st
        exact .loopX st (show (.ret:VX.Exit)≠.normal from by simp)
      · try simp only[if_neg h_2]
        have st:=ch b21_1 (h21_1 l0_1 l0_2 a0 (length p:Int)) ⟨[(1,(.ptr ⟨(1,0,0),[],0,0,3⟩)),(45,(.one (.bor l0_2 (map b_iLiE a0.f2)))),(46,(.oi ((length (map b_iLiE a0.f2)):Int))),(47,(.oi (wrap .i64 ((length p:Int)+1))))],[((1,0,0),.live ⟨3,[[(.i a0.f0),(.bor l0_1 (map b_iiLiE a0.f1)),(.bor l0_2 (map b_iLiE a0.f2))]],[]⟩)]⟩ .normal 37 (by kernel_rfl) (P2 (.f (nt h_2) (.f trivial (.h 32 (.b false) .nil))))
        have ih:=t21_1 (l0_1:=l0_1) (l0_2:=l0_2) (a0:=a0) hy0 hy1 hy2 hy3 y0 (p++ [x0]) (by rw[append_assoc]; exact hp0)
        rw[show ((p++ [x0]).length:Int)=(p.length:Int)+1 from by simp] at ih
        rw[show (⟨[(1,(.ptr ⟨(1,0,0),[],0,0,3⟩)),(45,(.one (.bor l0_2 (map b_iLiE a0.f2)))),(46,(.oi ((length (map b_iLiE a0.f2)):Int))),(47,(.oi (wrap .i64 ((length p:Int)+1))))],[((1,0,0),.live ⟨3,[[(.i a0.f0),(.bor l0_1 (map b_iiLiE a0.f1)),(.bor l0_2 (map b_iLiE a0.f2))]],[]⟩)]⟩:St)=h21_1 l0_1 l0_2 a0 ((length p:Int)+1)  from(by unfold h21_1; simp only[hw]; done)] at st
        exact .loopN st ih
theorem lo21 {a:K_iLiiLiEELiLiEE}:∀ {l:List K_iLiE} {i:Int} {j b},r21_1 a l i=.k0 j b→∀x∈l,m32 x.f1=0
  |[],i,j,b,h,x,hx=>by cases hx
  |y::l,i,j,b,h,x,hx=>by
    simp only[r21_1] at h
    split at h
    · cases h
    · split at h
      · cases h
      · rename_i h1
        rcases List.mem_cons.1 hx with rfl | hx
        · simpa using h1
        · exact lo21 h x hx
theorem nf21 {a:K_iLiiLiEELiLiEE}:∀(l:List K_iLiE) (i:Int),r21_1 a l i≠.k2 0
  |[],i=>by simp only[r21_1]; intro h; cases h
  |y::l,i=>by
    simp only[r21_1]
    split
    · intro q; cases q
    · split
      · rename_i h; intro q; injection q with q; rw[q] at h; exact absurd h (by decide)
      · exact nf21 l _
/-! loop.example/g00539/impl.TxFault -/
def m21 (a0:K_iLiiLiEELiLiEE):Int:=
  if(!(m18 a0.f0 0 65535))=true then 3 else
  if(decide (((length (map b_iiLiE a0.f1)):Int) > 4))=true then 2 else
    if(!(m18 ((length (map b_iLiE a0.f2)):Int) 1 4))=true then 2 else
      (match r21_0 a0 a0.f1 0 with | .k0 w0_10 w1_10=>(match r21_1 a0 a0.f2 0 with | .k0 w0_11 w1_11=>(if(!(m18 (m33 a0.f2) 0 1000000))=true then 7 else 0) | .k1=>3 | .k2 w0_11=>w0_11) | .k1 w0_10=>w0_10)
theorem e21 {l0_1:Nat} {l0_2:Nat} {a0:K_iLiiLiEELiLiEE} (hy0:length a0.f1*40≤140737488351232) (hy1:∀z∈a0.f1,ok_iiLiE z) (hy2:length a0.f2*32≤140737488351232) (hy3:∀z∈a0.f2,ok_iLiE z):Ev F X (.call 21 [(.agg (k_iLiiLiEELiLiEE l0_1 l0_2 a0))] [] [] [(.one (.val (.int .i64 (m21 a0))))]):=by
  unfold m21
  have P0 {hs q} (r:PS F X hs q):=(PS.r 9 [] [] (e18 (a0:=a0.f0) (a1:=0) (a2:=65535)) r)
  by_cases h0:(!(m18 a0.f0 0 65535))=true
  · try simp only[if_pos h0]
    exact cp (by kernel_rfl) (P0 (.f h0 (.h 14 (.b true) .nil)))
  · try simp only[if_neg h0]
    have P1 {hs q} (r:PS F X hs q):=(P0 (.f (nt h0) (.h 14 (.b false) r)))
    by_cases h1:(decide (((length (map b_iiLiE a0.f1)):Int) > 4))=true
    · try simp only[if_pos h1]
      exact cp (by kernel_rfl) (P1 (.f h1 (.f h1 (.f h1 (.f h1 (.f h1 (.f h1 (.h 25 (.b true) (.h 27 (.b true) (.h 29 (.b true) (.h 31 (.b true) (.h 33 (.b true) (.h 36 (.b true) .nil)))))))))))))
    · try simp only[if_neg h1]
      have P2 {hs q} (r:PS F X hs q):=(P1 (.f (nt h1) (.f (nt h1) (.f (nt h1) (.f (nt h1) (.h 25 (.b false) (.h 27 (.b false) (.h 29 (.b false) (.h 31 (.b false) (.r 32 [] [] (e18 (a0:=((length (map b_iLiE a0.f2)):Int)) (a1:=1) (a2:=4)) (.f (nt h1) (.f (nt h1) (.h 33 (.b false) (.h 36 (.b false) r))))))))))))))
      by_cases h2:(!(m18 ((length (map b_iLiE a0.f2)):Int) 1 4))=true
      · try simp only[if_pos h2]
        exact cp (by kernel_rfl) (P2 (.f h2 (.h 39 (.b true) .nil)))
      · try simp only[if_neg h2]
        have P3 {hs q} (r:PS F X hs q):=(P2 (.f (nt h2) (.h 39 (.b false) r)))
        cases h3:r21_0 a0 a0.f1 0 with
        |k0 w0_10 w1_10=>
          try dsimp only
          have f10:(⟨[(1,(.ptr ⟨(1,0,0),[],0,0,3⟩)),(27,(.one (.bor l0_1 (map b_iiLiE a0.f1)))),(28,(.oi ((length (map b_iiLiE a0.f1)):Int))),(29,(.oi 0))],[((1,0,0),.live ⟨3,[[(.i a0.f0),(.bor l0_1 (map b_iiLiE a0.f1)),(.bor l0_2 (map b_iLiE a0.f2))]],[]⟩)]⟩:St)=h21_0 l0_1 l0_2 a0 0 :=(by rfl)
          have P4 {hs q} (r:PS F X hs q):=(P3 (.f f10 (.f (ev_ (e:=ex21_0) (g:=(fin21_0 l0_1 l0_2 a0)) h3 (t21_0 (l0_1:=l0_1) (l0_2:=l0_2) (a0:=a0) (by assumption) (by assumption) (by assumption) (by assumption) a0.f1 []  rfl)) (.h 48 (.loop (h21_0 l0_1 l0_2 a0 0) (.exit 1) ⟨[(1,(.ptr ⟨(1,0,0),[],0,0,3⟩)),(27,(.one (.bor l0_1 (map b_iiLiE a0.f1)))),(28,(.one (.val (.int .i64 ((length (map b_iiLiE a0.f1)):Int))))),(29,(.one (.val (.int .i64 w0_10)))),(30,(.one (.val (.bool w1_10))))],[((1,0,0),.live ⟨3,[[(.val (.int .i64 a0.f0)),(.bor l0_1 (map b_iiLiE a0.f1)),(.bor l0_2 (map b_iLiE a0.f2))]],[]⟩)]⟩) r))))
          cases h4:r21_1 a0 a0.f2 0 with
          |k0 w0_11 w1_11=>
            try dsimp only
            have f12:(⟨[(1,(.ptr ⟨(1,0,0),[],0,0,3⟩)),(45,(.one (.bor l0_2 (map b_iLiE a0.f2)))),(46,(.oi ((length (map b_iLiE a0.f2)):Int))),(47,(.oi 0))],[((1,0,0),.live ⟨3,[[(.i a0.f0),(.bor l0_1 (map b_iiLiE a0.f1)),(.bor l0_2 (map b_iLiE a0.f2))]],[]⟩)]⟩:St)=h21_1 l0_1 l0_2 a0 0 :=(by rfl)
            have P5 {hs q} (r:PS F X hs q):=(P4 (.f f12 (.f (ev_ (e:=ex21_1) (g:=(fin21_1 l0_1 l0_2 a0)) h4 (t21_1 (l0_1:=l0_1) (l0_2:=l0_2) (a0:=a0) (by assumption) (by assumption) (by assumption) (by assumption) a0.f2 []  rfl)) (.h 57 (.loop (h21_1 l0_1 l0_2 a0 0) (.exit 3) ⟨[(1,(.ptr ⟨(1,0,0),[],0,0,3⟩)),(45,(.one (.bor l0_2 (map b_iLiE a0.f2)))),(46,(.one (.val (.int .i64 ((length (map b_iLiE a0.f2)):Int))))),(47,(.one (.val (.int .i64 w0_11)))),(48,(.one (.val (.bool w1_11))))],[((1,0,0),.live ⟨3,[[(.val (.int .i64 a0.f0)),(.bor l0_1 (map b_iiLiE a0.f1)),(.bor l0_2 (map b_iLiE a0.f2))]],[]⟩)]⟩) (.r 63 [] [] (e33 (l0_0:=(l0_2+1)) (a0:=a0.f2) ‹_› ‹_›) (.r 65 [] [] (e31 (a0:=(m33 a0.f2))) r))))))
            by_cases h5:(!(m18 (m33 a0.f2) 0 1000000))=true
            · try simp only[if_pos h5]
              exact cp (by kernel_rfl) (P5 (.f h5 (.h 68 (.b true) .nil)))
            · try simp only[if_neg h5]
              exact cp (by kernel_rfl) (P5 (.f (nt h5) (.h 68 (.b false) .nil)))
          |k1=>
            try dsimp only
            have f12:(⟨[(1,(.ptr ⟨(1,0,0),[],0,0,3⟩)),(45,(.one (.bor l0_2 (map b_iLiE a0.f2)))),(46,(.oi ((length (map b_iLiE a0.f2)):Int))),(47,(.oi 0))],[((1,0,0),.live ⟨3,[[(.i a0.f0),(.bor l0_1 (map b_iiLiE a0.f1)),(.bor l0_2 (map b_iLiE a0.f2))]],[]⟩)]⟩:St)=h21_1 l0_1 l0_2 a0 0 :=(by rfl)
            exact cp (by kernel_rfl) (P4 (.f f12 (.f (ev_ (e:=ex21_1) (g:=(fin21_1 l0_1 l0_2 a0)) h4 (t21_1 (l0_1:=l0_1) (l0_2:=l0_2) (a0:=a0) (by assumption) (by assumption) (by assumption) (by assumption) a0.f2 []  rfl)) (.h 57 (.loop (h21_1 l0_1 l0_2 a0 0) .ret ⟨[(2,(.one (.val (.int .i64 3))))],[]⟩) .nil))))
          |k2 w0_11=>
            try dsimp only
            have f12:(⟨[(1,(.ptr ⟨(1,0,0),[],0,0,3⟩)),(45,(.one (.bor l0_2 (map b_iLiE a0.f2)))),(46,(.oi ((length (map b_iLiE a0.f2)):Int))),(47,(.oi 0))],[((1,0,0),.live ⟨3,[[(.i a0.f0),(.bor l0_1 (map b_iiLiE a0.f1)),(.bor l0_2 (map b_iLiE a0.f2))]],[]⟩)]⟩:St)=h21_1 l0_1 l0_2 a0 0 :=(by rfl)
            exact cp (by kernel_rfl) (P4 (.f f12 (.f (ev_ (e:=ex21_1) (g:=(fin21_1 l0_1 l0_2 a0)) h4 (t21_1 (l0_1:=l0_1) (l0_2:=l0_2) (a0:=a0) (by assumption) (by assumption) (by assumption) (by assumption) a0.f2 []  rfl)) (.h 57 (.loop (h21_1 l0_1 l0_2 a0 0) .ret ⟨[(2,(.one (.val (.int .i64 w0_11))))],[]⟩) .nil))))
        |k1 w0_10=>
          try dsimp only
          have f10:(⟨[(1,(.ptr ⟨(1,0,0),[],0,0,3⟩)),(27,(.one (.bor l0_1 (map b_iiLiE a0.f1)))),(28,(.oi ((length (map b_iiLiE a0.f1)):Int))),(29,(.oi 0))],[((1,0,0),.live ⟨3,[[(.i a0.f0),(.bor l0_1 (map b_iiLiE a0.f1)),(.bor l0_2 (map b_iLiE a0.f2))]],[]⟩)]⟩:St)=h21_0 l0_1 l0_2 a0 0 :=(by rfl)
          exact cp (by kernel_rfl) (P3 (.f f10 (.f (ev_ (e:=ex21_0) (g:=(fin21_0 l0_1 l0_2 a0)) h3 (t21_0 (l0_1:=l0_1) (l0_2:=l0_2) (a0:=a0) (by assumption) (by assumption) (by assumption) (by assumption) a0.f1 []  rfl)) (.h 48 (.loop (h21_0 l0_1 l0_2 a0 0) .ret ⟨[(2,(.one (.val (.int .i64 w0_10))))],[]⟩) .nil))))
theorem ft21 {a:K_iLiiLiEELiLiEE} (h:m21 a=0):SmT a:=by
  unfold m21 at h
  split at h
  · exact absurd h (by decide)
  · split at h
    · exact absurd h (by decide)
    · split at h
      · exact absurd h (by decide)
      · rename_i c1 c2 c3
        simp only[decide_eq_true_eq,length_map] at c2
        have c4:length a.f2≤4:=by
          unfold m18 at c3
          simp only[length_map] at c3
          split at c3
          · by_cases e:(a.f2.length:Int)≤4
            · omega
            · simp[e] at c3
          · simp at c3
        cases hr:r21_0 a a.f1 0 with
        |k1 w=>rw[hr] at h; simp only[] at h; subst h; exact absurd hr (ne21 _ _)
        |k0 j b=>
          rw[hr] at h; simp only[] at h
          refine⟨by omega,lf21 hr,c4,?_⟩
          cases ho:r21_1 a a.f2 0 with
          |k0 j b=>exact fun x hx=>lk32 (lo21 ho x hx)
          |k1=>rw[ho] at h; simp only[] at h; exact absurd h (by decide)
          |k2 w=>rw[ho] at h; simp only[] at h; subst h; exact absurd ho (nf21 _ _)
theorem e22 {l0_1:Nat} {l0_2:Nat} {a0:K_iLiiLiEELiLiEE}:Ev F X (.call 22 [(.agg (k_iLiiLiEELiLiEE l0_1 l0_2 a0))] [] [] [(.one (.val (.bool (((length (map b_iiLiE a0.f1)):Int)==0))))]):=by
  exact cp (by kernel_rfl) .nil
theorem e67 {a0:Int}:Ev F X (.call 67 [(.one (.val (.int .i64 a0)))] [] [] [(.one (.val (.bool (!(m18 a0 0 2147483646)))))]):=by
  exact cp (by kernel_rfl) (.r 5 [] [] (e19 (a0:=a0)) .nil)
/-! loop 1006502_0 -/
inductive O1006502_0 where
  |k0 (w0:Int) (w1:Bool)
  |k1 (w0:Int)
def r1006502_0 (a0:(List Int)):List Int→Int→O1006502_0
  |x0::y0,i=>
    if(!(m18 x0 0 2147483646))=true then(O1006502_0.k1 i) else
    (r1006502_0 a0 y0 (i+1))
  |[],i=>(O1006502_0.k0 i (decide (i <((length (map b_i a0)):Int))))
def h1006502_0 (l0_0:Nat) (a0:(List Int)) (i:Int) :St:=⟨[(0,(.one (.bor l0_0 (map b_i a0)))),(1,(.clo 67 [] [])),(7,(.one (.val (.int .i64 ((length (map b_i a0)):Int))))),(8,(.one (.val (.int .i64 i))))],[]⟩
def ex1006502_0:O1006502_0→VX.Exit
  |.k0 _ _=>(.exit 0)
  |.k1 _=>.ret
def fin1006502_0 (l0_0:Nat) (a0:(List Int)):O1006502_0→St
  |.k0 w0 w1=>⟨[(0,(.one (.bor l0_0 (map b_i a0)))),(1,(.clo 67 [] [])),(7,(.one (.val (.int .i64 ((length (map b_i a0)):Int))))),(8,(.one (.val (.int .i64 w0)))),(9,(.one (.val (.bool w1))))],[]⟩
  |.k1 w0=>⟨[(4,(.one (.val (.int .i64 w0))))],[]⟩
theorem t1006502_0 {l0_0:Nat} {a0:(List Int)} (hy0:length a0*8≤140737488351232):∀(y0:List Int) (p:List Int),p++y0=a0→Ev F X (.code l65_0 (h1006502_0 l0_0 a0 (length p:Int)) (ex1006502_0 (r1006502_0 a0 y0 (length p:Int))) (fin1006502_0 l0_0 a0 (r1006502_0 a0 y0 (length p:Int))))
  |[],p,hp0=>by
    have hc:¬(decide ((length p:Int) <((length (map b_i a0)):Int)))=true:=by
      rw[← hp0]; simp only[length_map,length_set,length_append,length_replicate,length_cons,length_nil,decide_eq_true_eq]; omega
    have st:=ch b65_0 (h1006502_0 l0_0 a0 (length p:Int)) ⟨[(0,(.one (.bor l0_0 (map b_i a0)))),(1,(.clo 67 [] [])),(7,(.oi ((length (map b_i a0)):Int))),(8,(.oi (length p:Int))),(9,(.one (.val (.bool (decide ((length p:Int) <((length (map b_i a0)):Int)))))))],[]⟩ (.exit 0) 3 (by kernel_rfl) (.f (nt hc) (.h 2 (.b false) .nil))
    rw[show (⟨[(0,(.one (.bor l0_0 (map b_i a0)))),(1,(.clo 67 [] [])),(7,(.oi ((length (map b_i a0)):Int))),(8,(.oi (length p:Int))),(9,(.one (.val (.bool (decide ((length p:Int) <((length (map b_i a0)):Int)))))))],[]⟩:St)=fin1006502_0 l0_0 a0 (.k0 (length p:Int) (decide ((length p:Int) <((length (map b_i a0)):Int)))) from(by rfl)] at st
    exact .loopX st (show ((.exit 0):VX.Exit)≠.normal from by simp)
  |x0::y0,p,hp0=>by
    have hc:(decide ((length p:Int) <((length (map b_i a0)):Int)))=true:=by
      rw[← hp0]; simp only[length_map,length_set,length_append,length_replicate,length_cons,length_nil,decide_eq_true_eq]; omega
    have Hx0:(a0)[toNat (length p:Int)]?=some x0:=by
      rw[← hp0,Int.toNat_natCast]; simp
    have hlen:length (a0)=length p+length y0+1:=by rw[← hp0]; simp; omega
    have hw:wrap .i64 ((length p:Int)+1)=(length p:Int)+1:=wrap64 (by omega)
    simp only[r1006502_0]
    have f1:0≤(length p:Int):=(by omega)
    have P1 {hs q} (r:PS F X hs q):=(PS.f hc (.f f1 (.f (mp_ b_i Hx0) (.h 2 (.b true) (.h 14 (.row [(.val (.int .i64 x0))]) (.r 18 [] [] (e67 (a0:=x0)) r))))))
    by_cases h_1:(!(m18 x0 0 2147483646))=true
    · try simp only[if_pos h_1]
      have st:=ch b65_0 (h1006502_0 l0_0 a0 (length p:Int)) ⟨[(4,(.oi (length p:Int)))],[]⟩ .ret 24 (by kernel_rfl) (P1 (.f h_1 (.h 19 (.b true) .nil)))
      rw[show (⟨[(4,(.oi (length p:Int)))],[]⟩:St)=fin1006502_0 l0_0 a0 (.k1 (length p:Int)) from(by rfl)] at st
      exact .loopX st (show (.ret:VX.Exit)≠.normal from by simp)
    · try simp only[if_neg h_1]
      have st:=ch b65_0 (h1006502_0 l0_0 a0 (length p:Int)) ⟨[(0,(.one (.bor l0_0 (map b_i a0)))),(1,(.clo 67 [] [])),(7,(.oi ((length (map b_i a0)):Int))),(8,(.oi (wrap .i64 ((length p:Int)+1))))],[]⟩ .normal 24 (by kernel_rfl) (P1 (.f (nt h_1) (.f trivial (.h 19 (.b false) .nil))))
      have ih:=t1006502_0 (l0_0:=l0_0) (a0:=a0) hy0 y0 (p++ [x0]) (by rw[append_assoc]; exact hp0)
      rw[show ((p++ [x0]).length:Int)=(p.length:Int)+1 from by simp] at ih
      rw[show (⟨[(0,(.one (.bor l0_0 (map b_i a0)))),(1,(.clo 67 [] [])),(7,(.oi ((length (map b_i a0)):Int))),(8,(.oi (wrap .i64 ((length p:Int)+1))))],[]⟩:St)=h1006502_0 l0_0 a0 ((length p:Int)+1)  from(by unfold h1006502_0; simp only[hw]; done)] at st
      exact .loopN st ih
/-! slices.IndexFunc[[]int64,int64] -/
def m1006502 (a0:(List Int)):Int:=
  (match r1006502_0 a0 a0 0 with | .k0 w0_0 w1_0=>(-1) | .k1 w0_0=>w0_0)
theorem e1006502 {l0_0:Nat} {a0:(List Int)} (hy0:length a0*8≤140737488351232):Ev F X (.call 65 [(.one (.bor l0_0 (map b_i a0))),(.clo 67 [] [])] [] [] [(.one (.val (.int .i64 (m1006502 a0))))]):=by
  unfold m1006502
  cases h0:r1006502_0 a0 a0 0 with
  |k0 w0_0 w1_0=>
    try dsimp only
    have f0:(⟨[(0,(.one (.bor l0_0 (map b_i a0)))),(1,(.clo 67 [] [])),(7,(.oi ((length (map b_i a0)):Int))),(8,(.oi 0))],[]⟩:St)=h1006502_0 l0_0 a0 0 :=(by rfl)
    exact cp (by kernel_rfl) (.f f0 (.f (ev_ (e:=ex1006502_0) (g:=(fin1006502_0 l0_0 a0)) h0 (t1006502_0 (l0_0:=l0_0) (a0:=a0) (by assumption) a0 []  rfl)) (.h 8 (.loop (h1006502_0 l0_0 a0 0) (.exit 0) ⟨[(0,(.one (.bor l0_0 (map b_i a0)))),(1,(.clo 67 [] [])),(7,(.one (.val (.int .i64 ((length (map b_i a0)):Int))))),(8,(.one (.val (.int .i64 w0_0)))),(9,(.one (.val (.bool w1_0))))],[]⟩) .nil)))
  |k1 w0_0=>
    try dsimp only
    have f0:(⟨[(0,(.one (.bor l0_0 (map b_i a0)))),(1,(.clo 67 [] [])),(7,(.oi ((length (map b_i a0)):Int))),(8,(.oi 0))],[]⟩:St)=h1006502_0 l0_0 a0 0 :=(by rfl)
    exact cp (by kernel_rfl) (.f f0 (.f (ev_ (e:=ex1006502_0) (g:=(fin1006502_0 l0_0 a0)) h0 (t1006502_0 (l0_0:=l0_0) (a0:=a0) (by assumption) a0 []  rfl)) (.h 8 (.loop (h1006502_0 l0_0 a0 0) .ret ⟨[(4,(.one (.val (.int .i64 w0_0))))],[]⟩) .nil)))
theorem e1004602 {l0_0:Nat} {a0:(List Int)} (hy0:length a0*8≤140737488351232):Ev F X (.call 46 [(.one (.bor l0_0 (map b_i a0))),(.clo 67 [] [])] [] [] [(.one (.val (.bool (decide ((m1006502 a0)≥0)))))]):=by
  exact cp (by kernel_rfl) (.r 7 [] [] (e1006502 (l0_0:=(l0_0+1)) (a0:=a0) ‹_›) .nil)
/-! loop.example/g00539/impl.sumsFault -/
def m51 (a0:(List Int)):Int:=
  if(decide ((m1006502 a0)≥0))=true then 3 else
  0
theorem e51 {l0_0:Nat} {a0:(List Int)} (hy0:length a0*8≤140737488351232):Ev F X (.call 51 [(.one (.bor l0_0 (map b_i a0)))] [] [] [(.one (.val (.int .i64 (m51 a0))))]):=by
  unfold m51
  have P0 {hs q} (r:PS F X hs q):=(PS.r 5 [] [] (e1004602 (l0_0:=(l0_0+1)) (a0:=a0) ‹_›) r)
  by_cases h0:(decide ((m1006502 a0)≥0))=true
  · try simp only[if_pos h0]
    exact cp (by kernel_rfl) (P0 (.f h0 (.h 6 (.b true) .nil)))
  · try simp only[if_neg h0]
    exact cp (by kernel_rfl) (P0 (.f (nt h0) (.h 6 (.b false) .nil)))
/-! loop.example/g00539/impl.leavesFault -/
def m34 (a0:(List Int)):Int:=
  if(!(m18 ((length (map b_i a0)):Int) 1 8))=true then 2 else
  (m51 a0)
theorem e34 {l0_0:Nat} {a0:(List Int)} (hy0:length a0*8≤140737488351232):Ev F X (.call 34 [(.one (.bor l0_0 (map b_i a0)))] [] [] [(.one (.val (.int .i64 (m34 a0))))]):=by
  unfold m34
  have P0 {hs q} (r:PS F X hs q):=(PS.r 7 [] [] (e18 (a0:=((length (map b_i a0)):Int)) (a1:=1) (a2:=8)) r)
  by_cases h0:(!(m18 ((length (map b_i a0)):Int) 1 8))=true
  · try simp only[if_pos h0]
    exact cp (by kernel_rfl) (P0 (.f h0 (.h 10 (.b true) .nil)))
  · try simp only[if_neg h0]
    exact cp (by kernel_rfl) (P0 (.f (nt h0) (.h 10 (.b false) (.r 14 [] [] (e51 (l0_0:=(l0_0+1)) (a0:=a0) ‹_›) .nil))))
/-! loop 54_0 -/
inductive O54_0 where
  |k0 (w0:Int) (w1:Int) (w2:Bool)
def r54_0 (a0:(List Int)):List Int→Int→Int→O54_0
  |x0::y0,i,v0=>
    (r54_0 a0 y0 (i+1) (Int.tmod (wrap .i64 ((wrap .i64 ((wrap .i64 (33*v0))+(wrap .i64 (x0))))+1)) 2147483647))
  |[],i,v0=>(O54_0.k0 v0 i (decide (i <((length (map b_y a0)):Int))))
def h54_0 (l0_0:Nat) (a0:(List Int)) (i:Int) (v0:Int):St:=⟨[(3,(.one (.val (.int .i64 v0)))),(6,(.one (.bor l0_0 (map b_y a0)))),(7,(.one (.val (.int .i64 ((length (map b_y a0)):Int))))),(8,(.one (.val (.int .i64 i))))],[]⟩
def ex54_0:O54_0→VX.Exit
  |.k0 _ _ _=>(.exit 0)
def fin54_0 (l0_0:Nat) (a0:(List Int)):O54_0→St
  |.k0 w0 w1 w2=>⟨[(3,(.one (.val (.int .i64 w0)))),(6,(.one (.bor l0_0 (map b_y a0)))),(7,(.one (.val (.int .i64 ((length (map b_y a0)):Int))))),(8,(.one (.val (.int .i64 w1)))),(9,(.one (.val (.bool w2))))],[]⟩
theorem t54_0 {l0_0:Nat} {a0:(List Int)} (hy0:length a0*1≤140737488351232):∀(y0:List Int) (p:List Int) (v0:Int),p++y0=a0→Ev F X (.code l54_0 (h54_0 l0_0 a0 (length p:Int) v0) (ex54_0 (r54_0 a0 y0 (length p:Int) v0)) (fin54_0 l0_0 a0 (r54_0 a0 y0 (length p:Int) v0)))
  |[],p,v0,hp0=>by
    have hc:¬(decide ((length p:Int) <((length (map b_y a0)):Int)))=true:=by
      rw[← hp0]; simp only[length_map,length_set,length_append,length_replicate,length_cons,length_nil,decide_eq_true_eq]; omega
    have st:=ch b54_0 (h54_0 l0_0 a0 (length p:Int) v0) ⟨[(3,(.oi v0)),(6,(.one (.bor l0_0 (map b_y a0)))),(7,(.oi ((length (map b_y a0)):Int))),(8,(.oi (length p:Int))),(9,(.one (.val (.bool (decide ((length p:Int) <((length (map b_y a0)):Int)))))))],[]⟩ (.exit 0) 3 (by kernel_rfl) (.f (nt hc) (.h 2 (.b false) .nil))
    rw[show (⟨[(3,(.oi v0)),(6,(.one (.bor l0_0 (map b_y a0)))),(7,(.oi ((length (map b_y a0)):Int))),(8,(.oi (length p:Int))),(9,(.one (.val (.bool (decide ((length p:Int) <((length (map b_y a0)):Int)))))))],[]⟩:St)=fin54_0 l0_0 a0 (.k0 v0 (length p:Int) (decide ((length p:Int) <((length (map b_y a0)):Int)))) from(by rfl)] at st
    exact .loopX st (show ((.exit 0):VX.Exit)≠.normal from by simp)
  |x0::y0,p,v0,hp0=>by
    have hc:(decide ((length p:Int) <((length (map b_y a0)):Int)))=true:=by
      rw[← hp0]; simp only[length_map,length_set,length_append,length_replicate,length_cons,length_nil,decide_eq_true_eq]; omega
    have Hx0:(a0)[toNat (length p:Int)]?=some x0:=by
      rw[← hp0,Int.toNat_natCast]; simp
    have hlen:length (a0)=length p+length y0+1:=by rw[← hp0]; simp; omega
    have hw:wrap .i64 ((length p:Int)+1)=(length p:Int)+1:=wrap64 (by omega)
    simp only[r54_0]
    have f1:0≤(length p:Int):=(by omega)
    have f5:(2147483647:Int)≠0:=(by omega)
    have st:=ch b54_0 (h54_0 l0_0 a0 (length p:Int) v0) ⟨[(3,(.oi (Int.tmod (wrap .i64 ((wrap .i64 ((wrap .i64 (33*v0))+(wrap .i64 (x0))))+1)) 2147483647))),(6,(.one (.bor l0_0 (map b_y a0)))),(7,(.oi ((length (map b_y a0)):Int))),(8,(.oi (wrap .i64 ((length p:Int)+1))))],[]⟩ .normal 29 (by kernel_rfl) (.f hc (.f f1 (.f (mp_ b_y Hx0) (.f trivial (.f trivial (.f f5 (.f trivial (.h 2 (.b true) (.h 4 (.row [(.val (.int .u8 x0))]) .nil)))))))))
    have ih:=t54_0 (l0_0:=l0_0) (a0:=a0) hy0 y0 (p++ [x0]) (Int.tmod (wrap .i64 ((wrap .i64 ((wrap .i64 (33*v0))+(wrap .i64 (x0))))+1)) 2147483647) (by rw[append_assoc]; exact hp0)
    rw[show ((p++ [x0]).length:Int)=(p.length:Int)+1 from by simp] at ih
    rw[show (⟨[(3,(.oi (Int.tmod (wrap .i64 ((wrap .i64 ((wrap .i64 (33*v0))+(wrap .i64 (x0))))+1)) 2147483647))),(6,(.one (.bor l0_0 (map b_y a0)))),(7,(.oi ((length (map b_y a0)):Int))),(8,(.oi (wrap .i64 ((length p:Int)+1))))],[]⟩:St)=h54_0 l0_0 a0 ((length p:Int)+1) (Int.tmod (wrap .i64 ((wrap .i64 ((wrap .i64 (33*v0))+(wrap .i64 (x0))))+1)) 2147483647) from(by unfold h54_0; simp only[hw]; done)] at st
    exact .loopN st ih
/-! loop.example/g00539/impl.sumOf -/
def m54 (a0:(List Int)):Int:=
  (match r54_0 a0 a0 0 5381 with | .k0 w0_0 w1_0 w2_0=>w0_0)
theorem e54 {l0_0:Nat} {a0:(List Int)} (hy0:length a0*1≤140737488351232):Ev F X (.call 54 [(.one (.bor l0_0 (map b_y a0)))] [] [] [(.one (.val (.int .i64 (m54 a0))))]):=by
  unfold m54
  cases h0:r54_0 a0 a0 0 5381 with
  |k0 w0_0 w1_0 w2_0=>
    try dsimp only
    have f0:(⟨[(3,(.oi 5381)),(6,(.one (.bor l0_0 (map b_y a0)))),(7,(.oi ((length (map b_y a0)):Int))),(8,(.oi 0))],[]⟩:St)=h54_0 l0_0 a0 0 5381:=(by rfl)
    exact cp (by kernel_rfl) (.f f0 (.f (ev_ (e:=ex54_0) (g:=(fin54_0 l0_0 a0)) h0 (t54_0 (l0_0:=l0_0) (a0:=a0) (by assumption) a0 [] 5381 rfl)) (.h 10 (.loop (h54_0 l0_0 a0 0 5381) (.exit 0) ⟨[(3,(.one (.val (.int .i64 w0_0)))),(6,(.one (.bor l0_0 (map b_y a0)))),(7,(.one (.val (.int .i64 ((length (map b_y a0)):Int))))),(8,(.one (.val (.int .i64 w1_0)))),(9,(.one (.val (.bool w2_0))))],[]⟩) .nil)))
/-! loop 68_0 -/
inductive O68_0 where
  |k0 (w0:List Int) (w1:Int) (w2:Int) (w3:Bool)
def r68_0 :Nat→List Int→Int→Int→O68_0
  |n+1,v0,v1,v2=>
    if(decide (v2≥0))=true then(r68_0 n (set v0 (toNat v2) (wrap .u8 (v1))) (Int.fdiv v1 (2 ^(min (toNat 8) (IntKind.bits .i64)))) (wrap .i64 (v2 - 1))) else
    (O68_0.k0 v0 v1 v2 (decide (v2≥0)))
  |0,v0,v1,v2=>(O68_0.k0 v0 v1 v2 (decide (v2≥0)))
def h68_0 (a0:Int) (a1:Int) (v0:List Int) (v1:Int) (v2:Int):St:=⟨[(0,(.one (.val (.int .i64 v1)))),(5,(.one (.ref ⟨(5,0,0),[],0,(toNat a1)⟩))),(6,(.one (.val (.int .i64 v2))))],[((5,0,0),.live ⟨1,(map d_y v0),[]⟩)]⟩
def ex68_0:O68_0→VX.Exit
  |.k0 _ _ _ _=>(.exit 0)
def fin68_0 (a0:Int) (a1:Int):O68_0→St
  |.k0 w0 w1 w2 w3=>⟨[(0,(.one (.val (.int .i64 w1)))),(5,(.one (.ref ⟨(5,0,0),[],0,(toNat a1)⟩))),(6,(.one (.val (.int .i64 w2)))),(12,(.one (.val (.bool w3))))],[((5,0,0),.live ⟨1,(map d_y w0),[]⟩)]⟩
theorem t68_0 {a0:Int} {a1:Int} (hy0:0≤a1) (hy1:a1≤1000):∀(n:Nat) (v0:List Int) (v1:Int) (v2:Int),length v0=(toNat a1)→ -1≤v2→v2 < a1→toNat (v2+1)≤n→Ev F X (.code l68_0 (h68_0 a0 a1 v0 v1 v2) (ex68_0 (r68_0 n v0 v1 v2)) (fin68_0 a0 a1 (r68_0 n v0 v1 v2)))
  |0,v0,v1,v2,hi0,hi1,hi2,hn=>by
    have hc:¬(decide (v2≥0))=true:=by first |(exact fuel64_zero hn) |(simp only[decide_eq_true_eq] at*; omega) |(simp at*; omega)
    have st:=ch b68_0 (h68_0 a0 a1 v0 v1 v2) ⟨[(0,(.oi v1)),(5,(.one (.ref ⟨(5,0,0),[],0,(toNat a1)⟩))),(6,(.oi v2)),(12,(.one (.val (.bool (decide (v2≥0))))))],[((5,0,0),.live ⟨1,(map d_y v0),[]⟩)]⟩ (.exit 0) 5 (by kernel_rfl) (.f (nt hc) (.h 4 (.b false) .nil))
    rw[show (⟨[(0,(.oi v1)),(5,(.one (.ref ⟨(5,0,0),[],0,(toNat a1)⟩))),(6,(.oi v2)),(12,(.one (.val (.bool (decide (v2≥0))))))],[((5,0,0),.live ⟨1,(map d_y v0),[]⟩)]⟩:St)=fin68_0 a0 a1 (.k0 v0 v1 v2 (decide (v2≥0))) from(by rfl)] at st
    exact .loopX st (show ((.exit 0):VX.Exit)≠.normal from by simp)
  |n+1,v0,v1,v2,hi0,hi1,hi2,hn=>by
    simp only[r68_0]
    by_cases h_0:(decide (v2≥0))=true
    · try simp only[if_pos h_0]
      have f1:0+(toNat a1)≤(length (map d_y v0)):=(by simp only[length_map]; omega)
      have f2:0≤v2∧v2 <((toNat a1):Int):=(by simp only[decide_eq_true_eq] at*; omega)
      have f4:(set (map d_y v0) (0+(toNat v2)) [(.val (.int .u8 (wrap .u8 (v1))))])=(map d_y (set v0 (toNat v2) (wrap .u8 (v1)))):=(by simp[byteRows_eq,ints_y,take_of_length_le,d_i,d_iiLiE,d_iLiE,d_iLiiLiEELiLiEE,d_iiiiiLiLiiLiEELiLiEEE,d_LiiiiiLiLiiLiEELiLiEEEE,d_b,d_iiiiLiLiiLiEELiLiEEE,d_LiE,d_LiLiiLiEELiLiEEE,d_LiiLiEE,d_LiLiEE,d_y,d_LyE,d_LLyEE,fromBR_i,fromBR_b,fromBR_y,four_len]; done)
      have f5:0≤(8:Int):=(by omega)
      have st:=ch b68_0 (h68_0 a0 a1 v0 v1 v2) ⟨[(0,(.oi (Int.fdiv v1 (2 ^(min (toNat 8) (IntKind.bits .i64)))))),(5,(.one (.ref ⟨(5,0,0),[],0,(toNat a1)⟩))),(6,(.oi (wrap .i64 (v2 - 1))))],[((5,0,0),.live ⟨1,(map d_y (set v0 (toNat v2) (wrap .u8 (v1)))),[]⟩)]⟩ .normal 30 (by kernel_rfl) (.f h_0 (.f f1 (.f f2 (.f (mz_ d_y (getD_at v0 (toNat v2) 0 (by omega))) (.f f4 (.f f5 (.h 4 (.b true) (.h 16 (.rowD [(.val (.int .u8 (getD v0 (toNat v2) 0)))]) (.h 17 (.norm (5,0,0) (map d_y (set v0 (toNat v2) (wrap .u8 (v1))))) .nil)))))))))
      have ih:=t68_0 (a0:=a0) (a1:=a1) hy0 hy1 n (set v0 (toNat v2) (wrap .u8 (v1))) (Int.fdiv v1 (2 ^(min (toNat 8) (IntKind.bits .i64)))) (wrap .i64 (v2 - 1)) (by simp only[length_map,length_set,length_append,length_replicate,length_cons,length_nil]; omega) (by rw[wrap64 (by simp only[decide_eq_true_eq] at*; omega)]; simp only[decide_eq_true_eq] at*; omega) (by rw[wrap64 (by simp only[decide_eq_true_eq] at*; omega)]; simp only[decide_eq_true_eq] at*; omega) (by rw[wrap64 (by simp only[decide_eq_true_eq] at*; omega)]; simp only[decide_eq_true_eq] at*; omega)
      rw[show (⟨[(0,(.oi (Int.fdiv v1 (2 ^(min (toNat 8) (IntKind.bits .i64)))))),(5,(.one (.ref ⟨(5,0,0),[],0,(toNat a1)⟩))),(6,(.oi (wrap .i64 (v2 - 1))))],[((5,0,0),.live ⟨1,(map d_y (set v0 (toNat v2) (wrap .u8 (v1)))),[]⟩)]⟩:St)=h68_0 a0 a1 (set v0 (toNat v2) (wrap .u8 (v1))) (Int.fdiv v1 (2 ^(min (toNat 8) (IntKind.bits .i64)))) (wrap .i64 (v2 - 1)) from(by rfl)] at st
      exact .loopN st ih
    · try simp only[if_neg h_0]
      have st:=ch b68_0 (h68_0 a0 a1 v0 v1 v2) ⟨[(0,(.oi v1)),(5,(.one (.ref ⟨(5,0,0),[],0,(toNat a1)⟩))),(6,(.oi v2)),(12,(.one (.val (.bool (decide (v2≥0))))))],[((5,0,0),.live ⟨1,(map d_y v0),[]⟩)]⟩ (.exit 0) 5 (by kernel_rfl) (.f (nt h_0) (.h 4 (.b false) .nil))
      rw[show (⟨[(0,(.oi v1)),(5,(.one (.ref ⟨(5,0,0),[],0,(toNat a1)⟩))),(6,(.oi v2)),(12,(.one (.val (.bool (decide (v2≥0))))))],[((5,0,0),.live ⟨1,(map d_y v0),[]⟩)]⟩:St)=fin68_0 a0 a1 (.k0 v0 v1 v2 (decide (v2≥0))) from(by rfl)] at st
      exact .loopX st (show ((.exit 0):VX.Exit)≠.normal from by simp)
/-! loop 68_0,behind -/
def post68_0 (a0:Int) (a1:Int):O68_0→Prop
  |.k0 w0 _ _ _=>length w0=toNat a1
theorem z68_0 {a0:Int} {a1:Int} (hy0:0≤a1) (hy1:a1≤1000):∀(n:Nat) (v0:List Int) (v1:Int) (v2:Int),length v0=(toNat a1)→ -1≤v2→v2 < a1→post68_0 a0 a1 (r68_0 n v0 v1 v2)
  |0,v0,v1,v2,hi0,hi1,hi2=>by
    simp only[r68_0]
    first | trivial |(show _ ; simp only[post68_0]; omega) |(simp only[post68_0] at*; omega) |(rw[wrap64 (by simp only[decide_eq_true_eq] at*; omega)]; simp only[decide_eq_true_eq] at*; omega) |(simp only[decide_eq_true_eq] at*; omega)
  |n+1,v0,v1,v2,hi0,hi1,hi2=>by
    simp only[r68_0]
    by_cases h_0:(decide (v2≥0))=true
    · try simp only[if_pos h_0]
      exact z68_0 (a0:=a0) (a1:=a1) hy0 hy1 n (set v0 (toNat v2) (wrap .u8 (v1))) (Int.fdiv v1 (2 ^(min (toNat 8) (IntKind.bits .i64)))) (wrap .i64 (v2 - 1)) (by simp only[length_map,length_set,length_append,length_replicate,length_cons,length_nil]; omega) (by rw[wrap64 (by simp only[decide_eq_true_eq] at*; omega)]; simp only[decide_eq_true_eq] at*; omega) (by rw[wrap64 (by simp only[decide_eq_true_eq] at*; omega)]; simp only[decide_eq_true_eq] at*; omega)
    · try simp only[if_neg h_0]
      first | trivial |(show _ ; simp only[post68_0]; omega) |(simp only[post68_0] at*; omega) |(rw[wrap64 (by simp only[decide_eq_true_eq] at*; omega)]; simp only[decide_eq_true_eq] at*; omega) |(simp only[decide_eq_true_eq] at*; omega)
/-! loop.example/g00539/impl.high -/
def m68 (a0:Int) (a1:Int):(List Int):=
  (match r68_0 (toNat ((wrap .i64 (a1 - 1))+1)) (List.replicate (toNat a1) 0) a0 (wrap .i64 (a1 - 1)) with | .k0 w0_1 w1_1 w2_1 w3_1=>w0_1)
theorem e68 {a0:Int} {a1:Int} (hy0:0≤a1) (hy1:a1≤1000):Ev F X (.call 68 [(.one (.val (.int .i64 a0))),(.one (.val (.int .i64 a1)))] [] [] [(.one (.own 1 (map d_y (m68 a0 a1))))]):=by
  unfold m68
  have f0:0≤a1∧a1≤a1∧a1≤140737488355328∧a1*1≤140737488355328:=(by omega)
  have f1:(List.replicate (toNat a1) [(.val (.int .u8 0))])=(map d_y (List.replicate (toNat a1) 0)):=(by simp[byteRows_eq,ints_y,take_of_length_le,d_i,d_iiLiE,d_iLiE,d_iLiiLiEELiLiEE,d_iiiiiLiLiiLiEELiLiEEE,d_LiiiiiLiLiiLiEELiLiEEEE,d_b,d_iiiiLiLiiLiEELiLiEEE,d_LiE,d_LiLiiLiEELiLiEEE,d_LiiLiEE,d_LiLiEE,d_y,d_LyE,d_LLyEE,fromBR_i,fromBR_b,fromBR_y,four_len]; done)
  cases h0:r68_0 (toNat ((wrap .i64 (a1 - 1))+1)) (List.replicate (toNat a1) 0) a0 (wrap .i64 (a1 - 1)) with
  |k0 w0_1 w1_1 w2_1 w3_1=>
    try dsimp only
    have zh0:=z68_0 (a0:=a0) (a1:=a1) (by assumption) (by assumption) (toNat ((wrap .i64 (a1 - 1))+1)) (List.replicate (toNat a1) 0) a0 (wrap .i64 (a1 - 1)) (by simp only[length_map,length_set,length_append,length_replicate,length_cons,length_nil]; done) (by rw[wrap64 (by omega)]; omega) (by rw[wrap64 (by omega)]; omega); rw[h0] at zh0; simp only[post68_0] at zh0
    have f2:(⟨[(0,(.oi a0)),(5,(.one (.ref ⟨(5,0,0),[],0,(toNat a1)⟩))),(6,(.oi (wrap .i64 (a1 - 1))))],[((5,0,0),.live ⟨1,(map d_y (List.replicate (toNat a1) 0)),[]⟩)]⟩:St)=h68_0 a0 a1 (List.replicate (toNat a1) 0) a0 (wrap .i64 (a1 - 1)):=(by rfl)
    have f5:(toNat a1)=(length (map d_y w0_1)):=(by simp only[length_map]; omega)
    exact cp (by kernel_rfl) (.f f0 (.f f1 (.f f2 (.f (ev_ (e:=ex68_0) (g:=(fin68_0 a0 a1)) h0 (t68_0 (a0:=a0) (a1:=a1) (by assumption) (by assumption) (toNat ((wrap .i64 (a1 - 1))+1)) (List.replicate (toNat a1) 0) a0 (wrap .i64 (a1 - 1)) (by simp only[length_map,length_set,length_append,length_replicate,length_cons,length_nil]; done) (by rw[wrap64 (by omega)]; omega) (by rw[wrap64 (by omega)]; omega) (Nat.le_refl _))) (pe 0 (.f f5 (.f (pureR_y w0_1) (.h 8 (.norm (5,0,0) (map d_y (List.replicate (toNat a1) 0))) (.h 15 (.loop (h68_0 a0 a1 (List.replicate (toNat a1) 0) a0 (wrap .i64 (a1 - 1))) (.exit 0) ⟨[(0,(.one (.val (.int .i64 w1_1)))),(5,(.one (.ref ⟨(5,0,0),[],0,(toNat a1)⟩))),(6,(.one (.val (.int .i64 w2_1)))),(12,(.one (.val (.bool w3_1))))],[((5,0,0),.live ⟨1,(map d_y w0_1),[]⟩)]⟩) .nil)))))))))
theorem high4 (a:Int):length (m68 a 4)=4:=by kernel_rfl
theorem high2 (a:Int):length (m68 a 2)=2:=by kernel_rfl
/-! loop 52_0 -/
inductive O52_0 where
  |k0 (w0:List Int) (w1:Int) (w2:Bool)
def r52_0 (a0:(List Int)):List Int→Int→List Int→O52_0
  |x0::y0,i,v0=>
    (r52_0 a0 y0 (i+1) (v0++(m68 x0 4)))
  |[],i,v0=>(O52_0.k0 v0 i (decide (i <((length (map b_i a0)):Int))))
def h52_0 (l0_0:Nat) (a0:(List Int)) (i:Int) (v0:List Int):St:=⟨[(3,(.one (.ref ⟨(3,0,0),[],0,(length (map d_y v0))⟩))),(7,(.one (.bor l0_0 (map b_i a0)))),(8,(.one (.val (.int .i64 ((length (map b_i a0)):Int))))),(9,(.one (.val (.int .i64 i))))],[((3,0,0),.live ⟨1,(map d_y v0),[]⟩)]⟩
def ex52_0:O52_0→VX.Exit
  |.k0 _ _ _=>(.exit 0)
def fin52_0 (l0_0:Nat) (a0:(List Int)):O52_0→St
  |.k0 w0 w1 w2=>⟨[(3,(.one (.ref ⟨(3,0,0),[],0,(length (map d_y w0))⟩))),(7,(.one (.bor l0_0 (map b_i a0)))),(8,(.one (.val (.int .i64 ((length (map b_i a0)):Int))))),(9,(.one (.val (.int .i64 w1)))),(10,(.one (.val (.bool w2))))],[((3,0,0),.live ⟨1,(map d_y w0),[]⟩)]⟩
theorem t52_0 {l0_0:Nat} {a0:(List Int)} (hy0:length a0≤1000):∀(y0:List Int) (p:List Int) (v0:List Int),p++y0=a0→length v0+4*length y0≤4000→Ev F X (.code l52_0 (h52_0 l0_0 a0 (length p:Int) v0) (ex52_0 (r52_0 a0 y0 (length p:Int) v0)) (fin52_0 l0_0 a0 (r52_0 a0 y0 (length p:Int) v0)))
  |[],p,v0,hp0,hi0=>by
    have hc:¬(decide ((length p:Int) <((length (map b_i a0)):Int)))=true:=by
      rw[← hp0]; simp only[length_map,length_set,length_append,length_replicate,length_cons,length_nil,decide_eq_true_eq]; omega
    have hj0:=hi0; try simp only[length_map,length_set,length_append,length_replicate,length_cons,length_nil,Int.toNat_natCast] at hj0
    have st:=ch b52_0 (h52_0 l0_0 a0 (length p:Int) v0) ⟨[(3,(.one (.ref ⟨(3,0,0),[],0,(length (map d_y v0))⟩))),(7,(.one (.bor l0_0 (map b_i a0)))),(8,(.oi ((length (map b_i a0)):Int))),(9,(.oi (length p:Int))),(10,(.one (.val (.bool (decide ((length p:Int) <((length (map b_i a0)):Int)))))))],[((3,0,0),.live ⟨1,(map d_y v0),[]⟩)]⟩ (.exit 0) 3 (by kernel_rfl) (.f (nt hc) (.h 2 (.b false) .nil))
    rw[show (⟨[(3,(.one (.ref ⟨(3,0,0),[],0,(length (map d_y v0))⟩))),(7,(.one (.bor l0_0 (map b_i a0)))),(8,(.oi ((length (map b_i a0)):Int))),(9,(.oi (length p:Int))),(10,(.one (.val (.bool (decide ((length p:Int) <((length (map b_i a0)):Int)))))))],[((3,0,0),.live ⟨1,(map d_y v0),[]⟩)]⟩:St)=fin52_0 l0_0 a0 (.k0 v0 (length p:Int) (decide ((length p:Int) <((length (map b_i a0)):Int)))) from(by rfl)] at st
    exact .loopX st (show ((.exit 0):VX.Exit)≠.normal from by simp)
  |x0::y0,p,v0,hp0,hi0=>by
    have hc:(decide ((length p:Int) <((length (map b_i a0)):Int)))=true:=by
      rw[← hp0]; simp only[length_map,length_set,length_append,length_replicate,length_cons,length_nil,decide_eq_true_eq]; omega
    have Hx0:(a0)[toNat (length p:Int)]?=some x0:=by
      rw[← hp0,Int.toNat_natCast]; simp
    have hlen:length (a0)=length p+length y0+1:=by rw[← hp0]; simp; omega
    have hw:wrap .i64 ((length p:Int)+1)=(length p:Int)+1:=wrap64 (by omega)
    have hj0:=hi0; try simp only[length_map,length_set,length_append,length_replicate,length_cons,length_nil,Int.toNat_natCast] at hj0
    simp only[r52_0]
    have f1:0≤(length p:Int):=(by omega)
    have f4:0+(length (map d_y v0))≤(length (map d_y v0)):=(by omega)
    have f5:0+(length (map d_y (m68 x0 4)))≤(length (map d_y (m68 x0 4))):=(by omega)
    have f6:((take (length (map d_y (m68 x0 4))) (drop 0 (map d_y (m68 x0 4)))).all fun x=>x.all copyable)=true:=(ct_y _ _ _)
    have f7:(length ((take (length (map d_y v0)) (drop 0 (map d_y v0)))++(take (length (map d_y (m68 x0 4))) (drop 0 (map d_y (m68 x0 4))))))*1≤70368744177664:=(by simp only[length_map,length_append,length_take,length_drop,length_cons,length_nil,high4] at*; omega)
    have f8:∀r∈((take (length (map d_y (m68 x0 4))) (drop 0 (map d_y (m68 x0 4)))):List (List D)),r.length=1:=(by simp only[List.drop_zero,tbr,tsi,ly_y,ly0_y,← List.map_append,List.take_length,List.cons_append,List.nil_append,append_assoc]; exact lenD_y _)
    have f9:((take (length (map d_y v0)) (drop 0 (map d_y v0)))++(take (length (map d_y (m68 x0 4))) (drop 0 (map d_y (m68 x0 4)))))=(map d_y (v0++(m68 x0 4))):=(by simp[byteRows_eq,ints_y,take_of_length_le,d_i,d_iiLiE,d_iLiE,d_iLiiLiEELiLiEE,d_iiiiiLiLiiLiEELiLiEEE,d_LiiiiiLiLiiLiEELiLiEEEE,d_b,d_iiiiLiLiiLiEELiLiEEE,d_LiE,d_LiLiiLiEELiLiEEE,d_LiiLiEE,d_LiLiEE,d_y,d_LyE,d_LLyEE,fromBR_i,fromBR_b,fromBR_y,four_len,high4,high2]; done)
    have st:=ch b52_0 (h52_0 l0_0 a0 (length p:Int) v0) ⟨[(3,(.one (.ref ⟨(3,0,0),[],0,(length ((take (length (map d_y v0)) (drop 0 (map d_y v0)))++(take (length (map d_y (m68 x0 4))) (drop 0 (map d_y (m68 x0 4))))))⟩))),(7,(.one (.bor l0_0 (map b_i a0)))),(8,(.oi ((length (map b_i a0)):Int))),(9,(.oi (wrap .i64 ((length p:Int)+1))))],[((3,0,0),.live ⟨1,(map d_y (v0++(m68 x0 4))),[]⟩)]⟩ .normal 24 (by kernel_rfl) (.f hc (.f f1 (.f (mp_ b_i Hx0) (.h 2 (.b true) (.h 4 (.row [(.i x0)]) (.r 14 [] [] (e68 (a0:=x0) (a1:=4) (by omega) (by omega)) (.f f4 (.f f5 (.f f6 (.f f7 (.f f8 (.f f9 (.f trivial (.h 16 (.b true) (.h 19 (.norm (3,0,0) (map d_y (v0++(m68 x0 4)))) .nil)))))))))))))))
    have ih:=t52_0 (l0_0:=l0_0) (a0:=a0) hy0 y0 (p++ [x0]) (v0++(m68 x0 4)) (by rw[append_assoc]; exact hp0) (by simp only[length_map,length_append,length_take,length_drop,length_cons,length_nil,high4] at*; omega)
    rw[show ((p++ [x0]).length:Int)=(p.length:Int)+1 from by simp] at ih
    rw[show (⟨[(3,(.one (.ref ⟨(3,0,0),[],0,(length ((take (length (map d_y v0)) (drop 0 (map d_y v0)))++(take (length (map d_y (m68 x0 4))) (drop 0 (map d_y (m68 x0 4))))))⟩))),(7,(.one (.bor l0_0 (map b_i a0)))),(8,(.oi ((length (map b_i a0)):Int))),(9,(.oi (wrap .i64 ((length p:Int)+1))))],[((3,0,0),.live ⟨1,(map d_y (v0++(m68 x0 4))),[]⟩)]⟩:St)=h52_0 l0_0 a0 ((length p:Int)+1) (v0++(m68 x0 4)) from(by unfold h52_0; simp[hw,byteRows_eq,ints_y,take_of_length_le,d_i,d_iiLiE,d_iLiE,d_iLiiLiEELiLiEE,d_iiiiiLiLiiLiEELiLiEEE,d_LiiiiiLiLiiLiEELiLiEEEE,d_b,d_iiiiLiLiiLiEELiLiEEE,d_LiE,d_LiLiiLiEELiLiEEE,d_LiiLiEE,d_LiLiEE,d_y,d_LyE,d_LLyEE,fromBR_i,fromBR_b,fromBR_y,four_len,high4,high2]; done)] at st
    exact .loopN st ih
theorem sl52 {a:List Int}:∀ {l:List Int} {i:Int} {v w:List Int} {j b},r52_0 a l i v=.k0 w j b→w.length=v.length+4*l.length
  |[],i,v,w,j,b,h=>by simp only[r52_0] at h; injection h with h; subst h; simp
  |x::l,i,v,w,j,b,h=>by
    simp only[r52_0] at h
    have q:=sl52 h
    simp only[length_append,length_cons,high4] at q⊢; omega
/-! loop.example/g00539/impl.sumInts -/
def m52 (a0:(List Int)):Int:=
  (match r52_0 a0 a0 0 ([]) with | .k0 w0_0 w1_0 w2_0=>(m54 w0_0))
theorem e52 {l0_0:Nat} {a0:(List Int)} (hy0:length a0≤1000):Ev F X (.call 52 [(.one (.bor l0_0 (map b_i a0)))] [] [] [(.one (.val (.int .i64 (m52 a0))))]):=by
  unfold m52
  cases h0:r52_0 a0 a0 0 ([]) with
  |k0 w0_0 w1_0 w2_0=>
    try dsimp only
    have f0:(⟨[(3,(.one (.ref ⟨(3,0,0),[],0,0⟩))),(7,(.one (.bor l0_0 (map b_i a0)))),(8,(.oi ((length (map b_i a0)):Int))),(9,(.oi 0))],[((3,0,0),.live ⟨1,[],[]⟩)]⟩:St)=h52_0 l0_0 a0 0 ([]):=(by rfl)
    exact cp (by kernel_rfl) (.f f0 (.f (ev_ (e:=ex52_0) (g:=(fin52_0 l0_0 a0)) h0 (t52_0 (l0_0:=l0_0) (a0:=a0) (by assumption) a0 [] ([]) rfl (by simp only[length_map,length_append,length_take,length_drop,length_cons,length_nil,high4] at*; omega))) (ln_y w0_0 (.h 12 (.loop (h52_0 l0_0 a0 0 ([])) (.exit 0) ⟨[(3,(.one (.ref ⟨(3,0,0),[],0,(length (map d_y w0_0))⟩))),(7,(.one (.bor l0_0 (map b_i a0)))),(8,(.one (.val (.int .i64 ((length (map b_i a0)):Int))))),(9,(.one (.val (.int .i64 w1_0)))),(10,(.one (.val (.bool w2_0))))],[((3,0,0),.live ⟨1,(map d_y w0_0),[]⟩)]⟩) (.r 16 [] [(map b_y w0_0)] (e54 (l0_0:=0) (a0:=w0_0) (by have q:=sl52 ‹_›; simp only[length_nil] at q; omega)) .nil)))))
/-! loop.example/g00539/impl.partner -/
def m53 (a0:(List Int)) (a1:Int):Int:=
  if(decide ((bitsV .xor .i64 a1 1) <((length (map b_i a0)):Int)))=true then(getD a0 (toNat (bitsV .xor .i64 a1 1)) 0) else
  (getD a0 (toNat a1) 0)
theorem e53 {l0_0:Nat} {a0:(List Int)} {a1:Int} (hy0:0≤a1) (hy1:a1 <(length a0:Int)) (hy2:length a0≤1000):Ev F X (.call 53 [(.one (.bor l0_0 (map b_i a0))),(.one (.val (.int .i64 a1)))] [] [] [(.one (.val (.int .i64 (m53 a0 a1))))]):=by
  unfold m53
  by_cases h0:(decide ((bitsV .xor .i64 a1 1) <((length (map b_i a0)):Int)))=true
  · try simp only[if_pos h0]
    have f1:0≤(bitsV .xor .i64 a1 1):=(by exact xor1 hy0 (by omega))
    exact cp (by kernel_rfl) (.f h0 (.f f1 (.f (mp_ b_i (getD_at a0 (toNat (bitsV .xor .i64 a1 1)) 0 (by simp only[decide_eq_true_eq,length_map] at*; omega))) (.h 12 (.b true) (.h 20 (.row [(.val (.int .i64 (getD a0 (toNat (bitsV .xor .i64 a1 1)) 0)))]) .nil)))))
  · try simp only[if_neg h0]
    have f1:0≤a1:=‹_›
    exact cp (by kernel_rfl) (.f (nt h0) (.f f1 (.f (mp_ b_i (getD_at a0 (toNat a1) 0 (by omega))) (.h 12 (.b false) (.h 18 (.row [(.val (.int .i64 (getD a0 (toNat a1) 0)))]) .nil)))))
end Go.Proofs.Ytjgebnhpklkjcaa.JobsFault
