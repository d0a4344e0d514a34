/- What the functions compute. -/
import Derived.Test.YtjgebnhpklkjcaaEJobsFaultA
import Derived.KernelRfl
namespace Go.Proofs.Ytjgebnhpklkjcaa.JobsFault
open Go Go.Proofs.Ytjgebnhpklkjcaa.V
set_option linter.unusedVariables false
set_option linter.unusedSimpArgs false
set_option maxRecDepth 20000
open Go.IntKind (wrap)
open Int (toNat)
open List (length_replicate length_map length_set length_append length_cons length_nil length_take length_drop take_of_length_le map_take map_drop map_set append_assoc getElem?_map map length take drop getD set)
attribute [local simp] toBR_i fullR_i pureR_i lenB_i lenD_i fromBR_i copy_i toBR_iiLiE fullR_iiLiE pureR_iiLiE lenB_iiLiE lenD_iiLiE toBR_iLiE fullR_iLiE pureR_iLiE lenB_iLiE lenD_iLiE toBR_iLiiLiEELiLiEE fullR_iLiiLiEELiLiEE pureR_iLiiLiEELiLiEE lenB_iLiiLiEELiLiEE lenD_iLiiLiEELiLiEE toBR_iiiiiLiLiiLiEELiLiEEE fullR_iiiiiLiLiiLiEELiLiEEE pureR_iiiiiLiLiiLiEELiLiEEE lenB_iiiiiLiLiiLiEELiLiEEE lenD_iiiiiLiLiiLiEELiLiEEE toBR_LiiiiiLiLiiLiEELiLiEEEE fullR_LiiiiiLiLiiLiEELiLiEEEE pureR_LiiiiiLiLiiLiEELiLiEEEE lenB_LiiiiiLiLiiLiEELiLiEEEE lenD_LiiiiiLiLiiLiEELiLiEEEE toBR_b fullR_b pureR_b lenB_b lenD_b fromBR_b copy_b toBR_iiiiLiLiiLiEELiLiEEE fullR_iiiiLiLiiLiEELiLiEEE pureR_iiiiLiLiiLiEELiLiEEE lenB_iiiiLiLiiLiEELiLiEEE lenD_iiiiLiLiiLiEELiLiEEE toBR_LiE fullR_LiE pureR_LiE lenB_LiE lenD_LiE toBR_LiLiiLiEELiLiEEE fullR_LiLiiLiEELiLiEEE pureR_LiLiiLiEELiLiEEE lenB_LiLiiLiEELiLiEEE lenD_LiLiiLiEELiLiEEE toBR_LiiLiEE fullR_LiiLiEE pureR_LiiLiEE lenB_LiiLiEE lenD_LiiLiEE toBR_LiLiEE fullR_LiLiEE pureR_LiLiEE lenB_LiLiEE lenD_LiLiEE strInts_len byteRows_len toBR_y fullR_y pureR_y lenB_y lenD_y fromBR_y copy_y toBR_LyE fullR_LyE pureR_LyE lenB_LyE lenD_LyE toBR_LLyEE fullR_LLyEE pureR_LLyEE lenB_LLyEE lenD_LLyEE
/-! loop.example/g00539/spec.l4Twin -/
def m43 (a0:(List Int)):Bool:=
  (match r43_0 (length a0) a0 with | .k0 w0_0 w1_0=>false | .k1=>true)
theorem e43 {a0:(List Int)} (hy0:length a0≤1000):Ev F X (.call 43 [(.one (.ref ⟨(0,0,0),[],0,(length (map d_i a0))⟩))] [((0,0,0),⟨1,(map d_i a0),[]⟩)] [] [(.one (.val (.bool (m43 a0))))]):=by
  unfold m43
  cases h0:r43_0 (length a0) a0 with
  |k0 w0_0 w1_0=>
    try dsimp only
    have f2:(⟨[(3,(.one (.ref ⟨(3,0,0),[],0,(length (map d_i a0))⟩)))],[((3,0,0),.live ⟨1,(map d_i a0),[]⟩)]⟩:St)=h43_0 a0 a0:=(by rfl)
    exact cq [] (by kernel_rfl) (pe 0 (pe (length (map d_i a0)) (.f f2 (.f (ev_ (e:=ex43_0) (g:=(fin43_0 a0)) h0 (t43_0 (a0:=a0) (by assumption) (length a0) a0 (by omega) (Nat.le_refl _))) (.h 6 (.loop (h43_0 a0 a0) (.exit 0) ⟨[(3,(.one (.ref ⟨(3,0,0),[],0,(length (map d_i w0_0))⟩))),(8,(.one (.val (.bool w1_0))))],[((3,0,0),.live ⟨1,(map d_i w0_0),[]⟩)]⟩) .nil)))))
  |k1=>
    try dsimp only
    have f2:(⟨[(3,(.one (.ref ⟨(3,0,0),[],0,(length (map d_i a0))⟩)))],[((3,0,0),.live ⟨1,(map d_i a0),[]⟩)]⟩:St)=h43_0 a0 a0:=(by rfl)
    exact cq [] (by kernel_rfl) (pe 0 (pe (length (map d_i a0)) (.f f2 (.f (ev_ (e:=ex43_0) (g:=(fin43_0 a0)) h0 (t43_0 (a0:=a0) (by assumption) (length a0) a0 (by omega) (Nat.le_refl _))) (.h 6 (.loop (h43_0 a0 a0) .ret ⟨[(2,(.one (.val (.bool true))))],[]⟩) .nil)))))
/-! loop.example/g00539/spec.l3Put -/
def m92 (a0:Int):(List Int):=
  if(decide (a0 < 253))=true then[(wrap .u8 (a0))] else
  [253,(wrap .u8 ((Int.tmod a0 256))),(wrap .u8 ((wrap .i64 (Int.tdiv a0 256))))]
theorem e92 {a0:Int}:Ev F X (.call 92 [(.one (.val (.int .i64 a0)))] [] [] [(.one (.own 1 (map d_y (m92 a0))))]):=by
  unfold m92
  by_cases h0:(decide (a0 < 253))=true
  · try simp only[if_pos h0]
    have f3:pureR [[(.val (.int .u8 (wrap .u8 (a0))))]]=true:=(by simp only[List.drop_zero,tbr,tsi,ly_y,ly0_y,← List.map_append,List.take_length,List.cons_append,List.nil_append,append_assoc,toBR_y,fullR_y,pureR_y,copy_y,ints_y]; done)
    exact cp (by kernel_rfl) (.f h0 (pe 0 (pe 1 (.f f3 (.h 6 (.b true) .nil)))))
  · try simp only[if_neg h0]
    have f1:(256:Int)≠0:=(by omega)
    have f5:pureR [[(.val (.int .u8 253))],[(.val (.int .u8 (wrap .u8 ((Int.tmod a0 256)))))],[(.val (.int .u8 (wrap .u8 ((wrap .i64 (Int.tdiv a0 256))))))]]=true:=(by simp only[List.drop_zero,tbr,tsi,ly_y,ly0_y,← List.map_append,List.take_length,List.cons_append,List.nil_append,append_assoc,toBR_y,fullR_y,pureR_y,copy_y,ints_y]; done)
    exact cp (by kernel_rfl) (.f (nt h0) (.f f1 (.f f1 (pe 0 (pe 3 (.f f5 (.h 6 (.b false) .nil)))))))
theorem pl92 (a:Int):length (m92 a)≤3:=by
  unfold m92; split<;>simp
/-! loop.example/g00539/spec.l3Big -/
def m93 (a0:Int):(List Int):=
  ((m92 (Int.tmod a0 65536))++(m92 (wrap .i64 (Int.tdiv a0 65536))))
theorem e93 {a0:Int}:Ev F X (.call 93 [(.one (.val (.int .i64 a0)))] [] [] [(.one (.own 1 (map d_y (m93 a0))))]):=by
  have f0:(65536:Int)≠0:=(by omega)
  have f4:0+(length (map d_y (m92 (Int.tmod a0 65536))))≤(length (map d_y (m92 (Int.tmod a0 65536)))):=(by omega)
  have f5:0+(length (map d_y (m92 (wrap .i64 (Int.tdiv a0 65536)))))≤(length (map d_y (m92 (wrap .i64 (Int.tdiv a0 65536))))):=(by omega)
  have f6:((take (length (map d_y (m92 (wrap .i64 (Int.tdiv a0 65536))))) (drop 0 (map d_y (m92 (wrap .i64 (Int.tdiv a0 65536)))))).all fun x=>x.all copyable)=true:=(ct_y _ _ _)
  have f7:(length ((take (length (map d_y (m92 (Int.tmod a0 65536)))) (drop 0 (map d_y (m92 (Int.tmod a0 65536)))))++(take (length (map d_y (m92 (wrap .i64 (Int.tdiv a0 65536))))) (drop 0 (map d_y (m92 (wrap .i64 (Int.tdiv a0 65536))))))))*1≤70368744177664:=(by unfold m92;(repeat' split)<;>simp_all<;>omega)
  have f8:∀r∈((take (length (map d_y (m92 (wrap .i64 (Int.tdiv a0 65536))))) (drop 0 (map d_y (m92 (wrap .i64 (Int.tdiv a0 65536)))))):List (List D)),r.length=1:=(by simp only[List.drop_zero,tbr,tsi,ly_y,ly0_y,← List.map_append,List.take_length,List.cons_append,List.nil_append,append_assoc]; exact lenD_y _)
  have f9:((take (length (map d_y (m92 (Int.tmod a0 65536)))) (drop 0 (map d_y (m92 (Int.tmod a0 65536)))))++(take (length (map d_y (m92 (wrap .i64 (Int.tdiv a0 65536))))) (drop 0 (map d_y (m92 (wrap .i64 (Int.tdiv a0 65536)))))))=(map d_y ((m92 (Int.tmod a0 65536))++(m92 (wrap .i64 (Int.tdiv a0 65536))))):=(by simp[byteRows_eq,ints_y,take_of_length_le,d_i,d_iiLiE,d_iLiE,d_iLiiLiEELiLiEE,d_iiiiiLiLiiLiEELiLiEEE,d_LiiiiiLiLiiLiEELiLiEEEE,d_b,d_iiiiLiLiiLiEELiLiEEE,d_LiE,d_LiLiiLiEELiLiEEE,d_LiiLiEE,d_LiLiEE,d_y,d_LyE,d_LLyEE,fromBR_i,fromBR_b,fromBR_y,four_len]; done)
  have f11:(length ((take (length (map d_y (m92 (Int.tmod a0 65536)))) (drop 0 (map d_y (m92 (Int.tmod a0 65536)))))++(take (length (map d_y (m92 (wrap .i64 (Int.tdiv a0 65536))))) (drop 0 (map d_y (m92 (wrap .i64 (Int.tdiv a0 65536))))))))=(length (map d_y ((m92 (Int.tmod a0 65536))++(m92 (wrap .i64 (Int.tdiv a0 65536)))))):=(by simp only[List.drop_zero,tbr,tsi,ly_y,ly0_y,← List.map_append,List.take_length,List.cons_append,List.nil_append,append_assoc,toBR_y,fullR_y,pureR_y,copy_y,ints_y]; done)
  exact cp (by kernel_rfl) (.f f0 (.r 7 [] [] (e92 (a0:=(Int.tmod a0 65536))) (.f f0 (.r 13 [] [] (e92 (a0:=(wrap .i64 (Int.tdiv a0 65536)))) (.f f4 (.f f5 (.f f6 (.f f7 (.f f8 (.f f9 (pe 0 (.f f11 (.f (pureR_y ((m92 (Int.tmod a0 65536))++(m92 (wrap .i64 (Int.tdiv a0 65536))))) (.h 15 (.b true) (.h 18 (.norm (2,0,0) (map d_y ((m92 (Int.tmod a0 65536))++(m92 (wrap .i64 (Int.tdiv a0 65536)))))) .nil)))))))))))))))
theorem pb93 (a:Int):length (m93 a)≤6:=by
  unfold m93; rw[length_append]
  exact Nat.add_le_add (pl92 _) (pl92 _)
/-! loop 94_0 -/
inductive O94_0 where
  |k0 (w0:List Int) (w1:Int) (w2:Bool)
def r94_0 (a0:(List Int)):List Int→Int→List Int→O94_0
  |x0::y0,i,v0=>
    (r94_0 a0 y0 (i+1) (v0++(m92 x0)))
  |[],i,v0=>(O94_0.k0 v0 i (decide (i <((length (map b_i a0)):Int))))
def h94_0 (l0_0:Nat) (a0:(List Int)) (i:Int) (v0:List Int):St:=⟨[(0,(.one (.bor l0_0 (map b_i a0)))),(3,(.one (.ref ⟨(3,0,0),[],0,(length (map d_y v0))⟩))),(4,(.one (.val (.int .i64 i))))],[((3,0,0),.live ⟨1,(map d_y v0),[]⟩)]⟩
def ex94_0:O94_0→VX.Exit
  |.k0 _ _ _=>(.exit 0)
def fin94_0 (l0_0:Nat) (a0:(List Int)):O94_0→St
  |.k0 w0 w1 w2=>⟨[(0,(.one (.bor l0_0 (map b_i a0)))),(3,(.one (.ref ⟨(3,0,0),[],0,(length (map d_y w0))⟩))),(4,(.one (.val (.int .i64 w1)))),(11,(.one (.val (.bool w2))))],[((3,0,0),.live ⟨1,(map d_y w0),[]⟩)]⟩
theorem t94_0 {l0_0:Nat} {a0:(List Int)} (hy0:length a0≤1000):∀(y0:List Int) (p:List Int) (v0:List Int),p++y0=a0→length v0+3*length y0≤3003→Ev F X (.code l94_0 (h94_0 l0_0 a0 (length p:Int) v0) (ex94_0 (r94_0 a0 y0 (length p:Int) v0)) (fin94_0 l0_0 a0 (r94_0 a0 y0 (length p:Int) v0)))
  |[],p,v0,hp0,hi0=>by
    have hc:¬(decide ((length p:Int) <((length (map b_i a0)):Int)))=true:=by
      rw[← hp0]; simp only[length_map,length_set,length_append,length_replicate,length_cons,length_nil,decide_eq_true_eq]; omega
    have hj0:=hi0; try simp only[length_map,length_set,length_append,length_replicate,length_cons,length_nil,Int.toNat_natCast] at hj0
    have st:=ch b94_0 (h94_0 l0_0 a0 (length p:Int) v0) ⟨[(0,(.one (.bor l0_0 (map b_i a0)))),(3,(.one (.ref ⟨(3,0,0),[],0,(length (map d_y v0))⟩))),(4,(.oi (length p:Int))),(11,(.one (.val (.bool (decide ((length p:Int) <((length (map b_i a0)):Int)))))))],[((3,0,0),.live ⟨1,(map d_y v0),[]⟩)]⟩ (.exit 0) 9 (by kernel_rfl) (.f (nt hc) (.h 8 (.b false) .nil))
    rw[show (⟨[(0,(.one (.bor l0_0 (map b_i a0)))),(3,(.one (.ref ⟨(3,0,0),[],0,(length (map d_y v0))⟩))),(4,(.oi (length p:Int))),(11,(.one (.val (.bool (decide ((length p:Int) <((length (map b_i a0)):Int)))))))],[((3,0,0),.live ⟨1,(map d_y v0),[]⟩)]⟩:St)=fin94_0 l0_0 a0 (.k0 v0 (length p:Int) (decide ((length p:Int) <((length (map b_i a0)):Int)))) from(by rfl)] at st
    exact .loopX st (show ((.exit 0):VX.Exit)≠.normal from by simp)
  |x0::y0,p,v0,hp0,hi0=>by
    have hc:(decide ((length p:Int) <((length (map b_i a0)):Int)))=true:=by
      rw[← hp0]; simp only[length_map,length_set,length_append,length_replicate,length_cons,length_nil,decide_eq_true_eq]; omega
    have Hx0:(a0)[toNat (length p:Int)]?=some x0:=by
      rw[← hp0,Int.toNat_natCast]; simp
    have hlen:length (a0)=length p+length y0+1:=by rw[← hp0]; simp; omega
    have hw:wrap .i64 ((length p:Int)+1)=(length p:Int)+1:=wrap64 (by omega)
    have hj0:=hi0; try simp only[length_map,length_set,length_append,length_replicate,length_cons,length_nil,Int.toNat_natCast] at hj0
    simp only[r94_0]
    have f1:0≤(length p:Int):=(by omega)
    have f4:0+(length (map d_y v0))≤(length (map d_y v0)):=(by omega)
    have f5:0+(length (map d_y (m92 x0)))≤(length (map d_y (m92 x0))):=(by omega)
    have f6:((take (length (map d_y (m92 x0))) (drop 0 (map d_y (m92 x0)))).all fun x=>x.all copyable)=true:=(ct_y _ _ _)
    have f7:(length ((take (length (map d_y v0)) (drop 0 (map d_y v0)))++(take (length (map d_y (m92 x0))) (drop 0 (map d_y (m92 x0))))))*1≤70368744177664:=(by have q0:=pl92 x0; simp only[length_map,length_append,length_take,length_drop,length_cons,length_nil,List.length_flatten,List.map_cons,List.map_nil,List.sum_cons,List.sum_nil] at*; omega)
    have f8:∀r∈((take (length (map d_y (m92 x0))) (drop 0 (map d_y (m92 x0)))):List (List D)),r.length=1:=(by simp only[List.drop_zero,tbr,tsi,ly_y,ly0_y,← List.map_append,List.take_length,List.cons_append,List.nil_append,append_assoc]; exact lenD_y _)
    have f9:((take (length (map d_y v0)) (drop 0 (map d_y v0)))++(take (length (map d_y (m92 x0))) (drop 0 (map d_y (m92 x0)))))=(map d_y (v0++(m92 x0))):=(by simp[byteRows_eq,ints_y,take_of_length_le,d_i,d_iiLiE,d_iLiE,d_iLiiLiEELiLiEE,d_iiiiiLiLiiLiEELiLiEEE,d_LiiiiiLiLiiLiEELiLiEEEE,d_b,d_iiiiLiLiiLiEELiLiEEE,d_LiE,d_LiLiiLiEELiLiEEE,d_LiiLiEE,d_LiLiEE,d_y,d_LyE,d_LLyEE,fromBR_i,fromBR_b,fromBR_y,four_len]; done)
    have st:=ch b94_0 (h94_0 l0_0 a0 (length p:Int) v0) ⟨[(0,(.one (.bor l0_0 (map b_i a0)))),(3,(.one (.ref ⟨(3,0,0),[],0,(length ((take (length (map d_y v0)) (drop 0 (map d_y v0)))++(take (length (map d_y (m92 x0))) (drop 0 (map d_y (m92 x0))))))⟩))),(4,(.oi (wrap .i64 ((length p:Int)+1))))],[((3,0,0),.live ⟨1,(map d_y (v0++(m92 x0))),[]⟩)]⟩ .normal 32 (by kernel_rfl) (.f hc (.f f1 (.f (mp_ b_i Hx0) (.h 8 (.b true) (.h 16 (.row [(.i x0)]) (.r 20 [] [] (e92 (a0:=x0)) (.f f4 (.f f5 (.f f6 (.f f7 (.f f8 (.f f9 (.f trivial (.h 22 (.b true) (.h 25 (.norm (3,0,0) (map d_y (v0++(m92 x0)))) .nil)))))))))))))))
    have ih:=t94_0 (l0_0:=l0_0) (a0:=a0) hy0 y0 (p++ [x0]) (v0++(m92 x0)) (by rw[append_assoc]; exact hp0) (by have q0:=pl92 x0; simp only[length_map,length_append,length_take,length_drop,length_cons,length_nil,List.length_flatten,List.map_cons,List.map_nil,List.sum_cons,List.sum_nil] at*; omega)
    rw[show ((p++ [x0]).length:Int)=(p.length:Int)+1 from by simp] at ih
    rw[show (⟨[(0,(.one (.bor l0_0 (map b_i a0)))),(3,(.one (.ref ⟨(3,0,0),[],0,(length ((take (length (map d_y v0)) (drop 0 (map d_y v0)))++(take (length (map d_y (m92 x0))) (drop 0 (map d_y (m92 x0))))))⟩))),(4,(.oi (wrap .i64 ((length p:Int)+1))))],[((3,0,0),.live ⟨1,(map d_y (v0++(m92 x0))),[]⟩)]⟩:St)=h94_0 l0_0 a0 ((length p:Int)+1) (v0++(m92 x0)) from(by unfold h94_0; simp[hw,byteRows_eq,ints_y,take_of_length_le,d_i,d_iiLiE,d_iLiE,d_iLiiLiEELiLiEE,d_iiiiiLiLiiLiEELiLiEEE,d_LiiiiiLiLiiLiEELiLiEEEE,d_b,d_iiiiLiLiiLiEELiLiEEE,d_LiE,d_LiLiiLiEELiLiEEE,d_LiiLiEE,d_LiLiEE,d_y,d_LyE,d_LLyEE,fromBR_i,fromBR_b,fromBR_y,four_len]; done)] at st
    exact .loopN st ih
theorem ll94 {a:List Int}:∀ {l:List Int} {i:Int} {v w:List Int} {j b},r94_0 a l i v=.k0 w j b→w.length≤v.length+3*l.length
  |[],i,v,w,j,b,h=>by simp only[r94_0] at h; injection h with h; subst h; simp
  |x::l,i,v,w,j,b,h=>by
    simp only[r94_0] at h
    have q:=ll94 h
    have q0:=pl92 x
    simp only[length_append,length_cons] at q⊢; omega
/-! loop.example/g00539/spec.l3List -/
def m94 (a0:(List Int)):(List Int):=
  (match r94_0 a0 a0 0 (m92 ((length (map b_i a0)):Int)) with | .k0 w0_1 w1_1 w2_1=>w0_1)
theorem e94 {l0_0:Nat} {a0:(List Int)} (hy0:length a0≤1000):Ev F X (.call 94 [(.one (.bor l0_0 (map b_i a0)))] [] [] [(.one (.own 1 (map d_y (m94 a0))))]):=by
  unfold m94
  cases h0:r94_0 a0 a0 0 (m92 ((length (map b_i a0)):Int)) with
  |k0 w0_1 w1_1 w2_1=>
    try dsimp only
    have f1:(⟨[(0,(.one (.bor l0_0 (map b_i a0)))),(3,(.one (.ref ⟨(3,0,0),[],0,(length (map d_y (m92 ((length (map b_i a0)):Int))))⟩))),(4,(.oi 0))],[((3,0,0),.live ⟨1,(map d_y (m92 ((length (map b_i a0)):Int))),[]⟩)]⟩:St)=h94_0 l0_0 a0 0 (m92 ((length (map b_i a0)):Int)):=(by rfl)
    exact cp (by kernel_rfl) (.r 7 [] [] (e92 (a0:=((length (map b_i a0)):Int))) (.f f1 (.f (ev_ (e:=ex94_0) (g:=(fin94_0 l0_0 a0)) h0 (t94_0 (l0_0:=l0_0) (a0:=a0) (by assumption) a0 [] (m92 ((length (map b_i a0)):Int)) rfl (by have q:=pl92 ((length (map b_i a0)):Int); omega))) (pe 0 (pe (length (map d_y w0_1)) (.f (pureR_y w0_1) (.h 12 (.loop (h94_0 l0_0 a0 0 (m92 ((length (map b_i a0)):Int))) (.exit 0) ⟨[(0,(.one (.bor l0_0 (map b_i a0)))),(3,(.one (.ref ⟨(3,0,0),[],0,(length (map d_y w0_1))⟩))),(4,(.one (.val (.int .i64 w1_1)))),(11,(.one (.val (.bool w2_1))))],[((3,0,0),.live ⟨1,(map d_y w0_1),[]⟩)]⟩) .nil)))))))
theorem pn94 (a:List Int):length (m94 a)≤3+3*a.length:=by
  unfold m94
  cases h:r94_0 a a 0 (m92 ((length (map b_i a)):Int)) with
  |k0 w j b=>
    have q:=ll94 h
    have q0:=pl92 ((length (map b_i a)):Int)
    show w.length≤_
    omega
/-! loop 83_0 -/
inductive O83_0 where
  |k0 (w0:List Int) (w1:Int) (w2:Bool)
def r83_0 (a0:K_iLiiLiEELiLiEE) (a1:Bool):List K_iiLiE→Int→List Int→O83_0
  |x0::y0,i,v0=>
    if a1=true then(r83_0 a0 a1 y0 (i+1) (((v0++(m93 x0.f0))++(m92 x0.f1))++(m94 x0.f2))) else
    (r83_0 a0 a1 y0 (i+1) (((v0++(m93 x0.f0))++(m92 x0.f1))++([0])))
  |[],i,v0=>(O83_0.k0 v0 i (decide (i <((length (map b_iiLiE a0.f1)):Int))))
def h83_0 (l0:Nat) (a0:K_iLiiLiEELiLiEE) (a1:Bool) (i:Int) (v0:List Int):St:=⟨[(0,(.bptr l0 (b_iLiiLiEELiLiEE a0))),(1,(.one (.val (.bool a1)))),(5,(.one (.ref ⟨(5,0,0),[],0,(length (map d_y v0))⟩))),(6,(.one (.val (.int .i64 i))))],[((5,0,0),.live ⟨1,(map d_y v0),[]⟩)]⟩
def ex83_0:O83_0→VX.Exit
  |.k0 _ _ _=>(.exit 0)
def fin83_0 (l0:Nat) (a0:K_iLiiLiEELiLiEE) (a1:Bool):O83_0→St
  |.k0 w0 w1 w2=>⟨[(0,(.bptr l0 (b_iLiiLiEELiLiEE a0))),(1,(.one (.val (.bool a1)))),(5,(.one (.ref ⟨(5,0,0),[],0,(length (map d_y w0))⟩))),(6,(.one (.val (.int .i64 w1)))),(26,(.one (.val (.bool w2))))],[((5,0,0),.live ⟨1,(map d_y w0),[]⟩)]⟩
theorem t83_0 {l0:Nat} {a0:K_iLiiLiEELiLiEE} {a1:Bool} (hy0:length a0.f1*40≤140737488351232) (hy1:∀z∈a0.f1,ok_iiLiE z) (hy2:length a0.f2*32≤140737488351232) (hy3:∀z∈a0.f2,ok_iLiE z) (hy4:length a0.f1≤4) (hy5:∀z∈a0.f1,length z.f2≤8) (hy6:length a0.f2≤4) (hy7:∀z∈a0.f2,length z.f1≤12):∀(y0:List K_iiLiE) (p:List K_iiLiE) (v0:List Int),p++y0=a0.f1→length v0+60*length y0≤260→Ev F X (.code l83_0 (h83_0 l0 a0 a1 (length p:Int) v0) (ex83_0 (r83_0 a0 a1 y0 (length p:Int) v0)) (fin83_0 l0 a0 a1 (r83_0 a0 a1 y0 (length p:Int) v0)))
  |[],p,v0,hp0,hi0=>by
    have hc:¬(decide ((length p:Int) <((length (map b_iiLiE a0.f1)):Int)))=true:=by
      rw[← hp0]; simp only[length_map,length_set,length_append,length_replicate,length_cons,length_nil,decide_eq_true_eq]; omega
    have hj0:=hi0; try simp only[length_map,length_set,length_append,length_replicate,length_cons,length_nil,Int.toNat_natCast] at hj0
    have st:=ch b83_0 (h83_0 l0 a0 a1 (length p:Int) v0) ⟨[(0,(.bptr l0 (b_iLiiLiEELiLiEE a0))),(1,(.one (.val (.bool a1)))),(5,(.one (.ref ⟨(5,0,0),[],0,(length (map d_y v0))⟩))),(6,(.oi (length p:Int))),(26,(.one (.val (.bool (decide ((length p:Int) <((length (map b_iiLiE a0.f1)):Int)))))))],[((5,0,0),.live ⟨1,(map d_y v0),[]⟩)]⟩ (.exit 0) 15 (by kernel_rfl) (.f (nt hc) (.h 14 (.b false) .nil))
    rw[show (⟨[(0,(.bptr l0 (b_iLiiLiEELiLiEE a0))),(1,(.one (.val (.bool a1)))),(5,(.one (.ref ⟨(5,0,0),[],0,(length (map d_y v0))⟩))),(6,(.oi (length p:Int))),(26,(.one (.val (.bool (decide ((length p:Int) <((length (map b_iiLiE a0.f1)):Int)))))))],[((5,0,0),.live ⟨1,(map d_y v0),[]⟩)]⟩:St)=fin83_0 l0 a0 a1 (.k0 v0 (length p:Int) (decide ((length p:Int) <((length (map b_iiLiE a0.f1)):Int)))) from(by rfl)] at st
    exact .loopX st (show ((.exit 0):VX.Exit)≠.normal from by simp)
  |x0::y0,p,v0,hp0,hi0=>by
    have hc:(decide ((length p:Int) <((length (map b_iiLiE a0.f1)):Int)))=true:=by
      rw[← hp0]; simp only[length_map,length_set,length_append,length_replicate,length_cons,length_nil,decide_eq_true_eq]; omega
    have Hx0:(a0.f1)[toNat (length p:Int)]?=some x0:=by
      rw[← hp0,Int.toNat_natCast]; simp
    have Nx0_5:=hy5 x0 (List.mem_of_getElem? Hx0)
    have Mx0_0:=hy1 x0 (List.mem_of_getElem? Hx0)
    have hlen:length (a0.f1)=length p+length y0+1:=by rw[← hp0]; simp; omega
    have hw:wrap .i64 ((length p:Int)+1)=(length p:Int)+1:=wrap64 (by omega)
    have hj0:=hi0; try simp only[length_map,length_set,length_append,length_replicate,length_cons,length_nil,Int.toNat_natCast] at hj0
    simp only[r83_0]
    have f1:0≤(length p:Int):=(by omega)
    have f4:0+(length (map d_y v0))≤(length (map d_y v0)):=(by omega)
    have f5:0+(length (map d_y (m93 x0.f0)))≤(length (map d_y (m93 x0.f0))):=(by omega)
    have f6:((take (length (map d_y (m93 x0.f0))) (drop 0 (map d_y (m93 x0.f0)))).all fun x=>x.all copyable)=true:=(ct_y _ _ _)
    have f7:(length ((take (length (map d_y v0)) (drop 0 (map d_y v0)))++(take (length (map d_y (m93 x0.f0))) (drop 0 (map d_y (m93 x0.f0))))))*1≤70368744177664:=(by have q0:=hy5 x0 (List.mem_of_getElem? Hx0); have q1:=pl92 x0.f1; have q2:=pb93 x0.f0; have q3:=pn94 x0.f2; simp only[length_map,length_append,length_take,length_drop,length_cons,length_nil,List.length_flatten,List.map_cons,List.map_nil,List.sum_cons,List.sum_nil] at*; omega)
    have f8:∀r∈((take (length (map d_y (m93 x0.f0))) (drop 0 (map d_y (m93 x0.f0)))):List (List D)),r.length=1:=(by simp only[List.drop_zero,tbr,tsi,ly_y,ly0_y,← List.map_append,List.take_length,List.cons_append,List.nil_append,append_assoc]; exact lenD_y _)
    have f12:0+(length ((take (length (map d_y v0)) (drop 0 (map d_y v0)))++(take (length (map d_y (m93 x0.f0))) (drop 0 (map d_y (m93 x0.f0))))))≤(length ((take (length (map d_y v0)) (drop 0 (map d_y v0)))++(take (length (map d_y (m93 x0.f0))) (drop 0 (map d_y (m93 x0.f0)))))):=(by omega)
    have f13:0+(length (map d_y (m92 x0.f1)))≤(length (map d_y (m92 x0.f1))):=(by omega)
    have f14:((take (length (map d_y (m92 x0.f1))) (drop 0 (map d_y (m92 x0.f1)))).all fun x=>x.all copyable)=true:=(ct_y _ _ _)
    have f15:(length ((take (length ((take (length (map d_y v0)) (drop 0 (map d_y v0)))++(take (length (map d_y (m93 x0.f0))) (drop 0 (map d_y (m93 x0.f0)))))) (drop 0 ((take (length (map d_y v0)) (drop 0 (map d_y v0)))++(take (length (map d_y (m93 x0.f0))) (drop 0 (map d_y (m93 x0.f0)))))))++(take (length (map d_y (m92 x0.f1))) (drop 0 (map d_y (m92 x0.f1))))))*1≤70368744177664:=(by have q0:=hy5 x0 (List.mem_of_getElem? Hx0); have q1:=pl92 x0.f1; have q2:=pb93 x0.f0; have q3:=pn94 x0.f2; simp only[length_map,length_append,length_take,length_drop,length_cons,length_nil,List.length_flatten,List.map_cons,List.map_nil,List.sum_cons,List.sum_nil] at*; omega)
    have f16:∀r∈((take (length (map d_y (m92 x0.f1))) (drop 0 (map d_y (m92 x0.f1)))):List (List D)),r.length=1:=(by simp only[List.drop_zero,tbr,tsi,ly_y,ly0_y,← List.map_append,List.take_length,List.cons_append,List.nil_append,append_assoc]; exact lenD_y _)
    have f17:((take (length ((take (length (map d_y v0)) (drop 0 (map d_y v0)))++(take (length (map d_y (m93 x0.f0))) (drop 0 (map d_y (m93 x0.f0)))))) (drop 0 ((take (length (map d_y v0)) (drop 0 (map d_y v0)))++(take (length (map d_y (m93 x0.f0))) (drop 0 (map d_y (m93 x0.f0)))))))++(take (length (map d_y (m92 x0.f1))) (drop 0 (map d_y (m92 x0.f1)))))=(map d_y ((v0++(m93 x0.f0))++(m92 x0.f1))):=(by simp[byteRows_eq,ints_y,take_of_length_le,d_i,d_iiLiE,d_iLiE,d_iLiiLiEELiLiEE,d_iiiiiLiLiiLiEELiLiEEE,d_LiiiiiLiLiiLiEELiLiEEEE,d_b,d_iiiiLiLiiLiEELiLiEEE,d_LiE,d_LiLiiLiEELiLiEEE,d_LiiLiEE,d_LiLiEE,d_y,d_LyE,d_LLyEE,fromBR_i,fromBR_b,fromBR_y,four_len]; done)
    have P1 {hs q} (r:PS F X hs q):=(PS.f hc (.f f1 (.f (mp_ b_iiLiE Hx0) (.h 14 (.b true) (.h 28 (.row (b_iiLiE x0)) (.r 34 [] [] (e93 (a0:=x0.f0)) (.f f4 (.f f5 (.f f6 (.f f7 (.f f8 (.f f1 (.f (mp_ b_iiLiE Hx0) (.h 36 (.b true) (.h 48 (.row (b_iiLiE x0)) (.r 54 [] [] (e92 (a0:=x0.f1)) (.f f12 (.f f13 (.f f14 (.f f15 (.f f16 (.f f17 (.h 56 (.b true) (.h 59 (.norm (5,0,0) (map d_y ((v0++(m93 x0.f0))++(m92 x0.f1)))) r))))))))))))))))))))))))
    by_cases h_1:a1=true
    · try simp only[if_pos h_1]
      have f22:0+(length ((take (length ((take (length (map d_y v0)) (drop 0 (map d_y v0)))++(take (length (map d_y (m93 x0.f0))) (drop 0 (map d_y (m93 x0.f0)))))) (drop 0 ((take (length (map d_y v0)) (drop 0 (map d_y v0)))++(take (length (map d_y (m93 x0.f0))) (drop 0 (map d_y (m93 x0.f0)))))))++(take (length (map d_y (m92 x0.f1))) (drop 0 (map d_y (m92 x0.f1))))))≤(length (map d_y ((v0++(m93 x0.f0))++(m92 x0.f1)))):=(by simp only[List.drop_zero,tbr,tsi,ly_y,ly0_y,← List.map_append,List.take_length,List.cons_append,List.nil_append,append_assoc]; simp only[length_map,length_append,length_cons,length_nil,strInts_len,four_len]; omega)
      have f23:0+(length (map d_y (m94 x0.f2)))≤(length (map d_y (m94 x0.f2))):=(by omega)
      have f24:((take (length (map d_y (m94 x0.f2))) (drop 0 (map d_y (m94 x0.f2)))).all fun x=>x.all copyable)=true:=(ct_y _ _ _)
      have f25:(length ((take (length ((take (length ((take (length (map d_y v0)) (drop 0 (map d_y v0)))++(take (length (map d_y (m93 x0.f0))) (drop 0 (map d_y (m93 x0.f0)))))) (drop 0 ((take (length (map d_y v0)) (drop 0 (map d_y v0)))++(take (length (map d_y (m93 x0.f0))) (drop 0 (map d_y (m93 x0.f0)))))))++(take (length (map d_y (m92 x0.f1))) (drop 0 (map d_y (m92 x0.f1)))))) (drop 0 (map d_y ((v0++(m93 x0.f0))++(m92 x0.f1)))))++(take (length (map d_y (m94 x0.f2))) (drop 0 (map d_y (m94 x0.f2))))))*1≤70368744177664:=(by have q0:=hy5 x0 (List.mem_of_getElem? Hx0); have q1:=pl92 x0.f1; have q2:=pb93 x0.f0; have q3:=pn94 x0.f2; simp only[length_map,length_append,length_take,length_drop,length_cons,length_nil,List.length_flatten,List.map_cons,List.map_nil,List.sum_cons,List.sum_nil] at*; omega)
      have f26:∀r∈((take (length (map d_y (m94 x0.f2))) (drop 0 (map d_y (m94 x0.f2)))):List (List D)),r.length=1:=(by simp only[List.drop_zero,tbr,tsi,ly_y,ly0_y,← List.map_append,List.take_length,List.cons_append,List.nil_append,append_assoc]; exact lenD_y _)
      have f27:((take (length ((take (length ((take (length (map d_y v0)) (drop 0 (map d_y v0)))++(take (length (map d_y (m93 x0.f0))) (drop 0 (map d_y (m93 x0.f0)))))) (drop 0 ((take (length (map d_y v0)) (drop 0 (map d_y v0)))++(take (length (map d_y (m93 x0.f0))) (drop 0 (map d_y (m93 x0.f0)))))))++(take (length (map d_y (m92 x0.f1))) (drop 0 (map d_y (m92 x0.f1)))))) (drop 0 (map d_y ((v0++(m93 x0.f0))++(m92 x0.f1)))))++(take (length (map d_y (m94 x0.f2))) (drop 0 (map d_y (m94 x0.f2)))))=(map d_y (((v0++(m93 x0.f0))++(m92 x0.f1))++(m94 x0.f2))):=(by simp[byteRows_eq,ints_y,take_of_length_le,d_i,d_iiLiE,d_iLiE,d_iLiiLiEELiLiEE,d_iiiiiLiLiiLiEELiLiEEE,d_LiiiiiLiLiiLiEELiLiEEEE,d_b,d_iiiiLiLiiLiEELiLiEEE,d_LiE,d_LiLiiLiEELiLiEEE,d_LiiLiEE,d_LiLiEE,d_y,d_LyE,d_LLyEE,fromBR_i,fromBR_b,fromBR_y,four_len]; done)
      have st:=ch b83_0 (h83_0 l0 a0 a1 (length p:Int) v0) ⟨[(0,(.bptr l0 (b_iLiiLiEELiLiEE a0))),(1,(.one (.val (.bool a1)))),(5,(.one (.ref ⟨(5,0,0),[],0,(length ((take (length ((take (length ((take (length (map d_y v0)) (drop 0 (map d_y v0)))++(take (length (map d_y (m93 x0.f0))) (drop 0 (map d_y (m93 x0.f0)))))) (drop 0 ((take (length (map d_y v0)) (drop 0 (map d_y v0)))++(take (length (map d_y (m93 x0.f0))) (drop 0 (map d_y (m93 x0.f0)))))))++(take (length (map d_y (m92 x0.f1))) (drop 0 (map d_y (m92 x0.f1)))))) (drop 0 (map d_y ((v0++(m93 x0.f0))++(m92 x0.f1)))))++(take (length (map d_y (m94 x0.f2))) (drop 0 (map d_y (m94 x0.f2))))))⟩))),(6,(.oi (wrap .i64 ((length p:Int)+1))))],[((5,0,0),.live ⟨1,(map d_y (((v0++(m93 x0.f0))++(m92 x0.f1))++(m94 x0.f2))),[]⟩)]⟩ .normal 94 (by kernel_rfl) (P1 (.f h_1 (.f f1 (.f (mp_ b_iiLiE Hx0) (.h 62 (.b true) (.h 76 (.row (b_iiLiE x0)) (.r 82 [] [] (e94 (l0_0:=(l0+1)) (a0:=x0.f2) (by omega)) (.f f22 (.f f23 (.f f24 (.f f25 (.f f26 (.f f27 (.f trivial (.h 84 (.b true) (.h 87 (.norm (5,0,0) (map d_y (((v0++(m93 x0.f0))++(m92 x0.f1))++(m94 x0.f2)))) .nil))))))))))))))))
      have ih:=t83_0 (l0:=l0) (a0:=a0) (a1:=a1) hy0 hy1 hy2 hy3 hy4 hy5 hy6 hy7 y0 (p++ [x0]) (((v0++(m93 x0.f0))++(m92 x0.f1))++(m94 x0.f2)) (by rw[append_assoc]; exact hp0) (by have q0:=hy5 x0 (List.mem_of_getElem? Hx0); have q1:=pl92 x0.f1; have q2:=pb93 x0.f0; have q3:=pn94 x0.f2; simp only[length_map,length_append,length_take,length_drop,length_cons,length_nil,List.length_flatten,List.map_cons,List.map_nil,List.sum_cons,List.sum_nil] at*; omega)
      rw[show ((p++ [x0]).length:Int)=(p.length:Int)+1 from by simp] at ih
      rw[show (⟨[(0,(.bptr l0 (b_iLiiLiEELiLiEE a0))),(1,(.one (.val (.bool a1)))),(5,(.one (.ref ⟨(5,0,0),[],0,(length ((take (length ((take (length ((take (length (map d_y v0)) (drop 0 (map d_y v0)))++(take (length (map d_y (m93 x0.f0))) (drop 0 (map d_y (m93 x0.f0)))))) (drop 0 ((take (length (map d_y v0)) (drop 0 (map d_y v0)))++(take (length (map d_y (m93 x0.f0))) (drop 0 (map d_y (m93 x0.f0)))))))++(take (length (map d_y (m92 x0.f1))) (drop 0 (map d_y (m92 x0.f1)))))) (drop 0 (map d_y ((v0++(m93 x0.f0))++(m92 x0.f1)))))++(take (length (map d_y (m94 x0.f2))) (drop 0 (map d_y (m94 x0.f2))))))⟩))),(6,(.oi (wrap .i64 ((length p:Int)+1))))],[((5,0,0),.live ⟨1,(map d_y (((v0++(m93 x0.f0))++(m92 x0.f1))++(m94 x0.f2))),[]⟩)]⟩:St)=h83_0 l0 a0 a1 ((length p:Int)+1) (((v0++(m93 x0.f0))++(m92 x0.f1))++(m94 x0.f2)) from(by unfold h83_0; simp[hw,byteRows_eq,ints_y,take_of_length_le,d_i,d_iiLiE,d_iLiE,d_iLiiLiEELiLiEE,d_iiiiiLiLiiLiEELiLiEEE,d_LiiiiiLiLiiLiEELiLiEEEE,d_b,d_iiiiLiLiiLiEELiLiEEE,d_LiE,d_LiLiiLiEELiLiEEE,d_LiiLiEE,d_LiLiEE,d_y,d_LyE,d_LLyEE,fromBR_i,fromBR_b,fromBR_y,four_len]; done)] at st
      exact .loopN st ih
    · try simp only[if_neg h_1]
      have f19:0+(length ((take (length ((take (length (map d_y v0)) (drop 0 (map d_y v0)))++(take (length (map d_y (m93 x0.f0))) (drop 0 (map d_y (m93 x0.f0)))))) (drop 0 ((take (length (map d_y v0)) (drop 0 (map d_y v0)))++(take (length (map d_y (m93 x0.f0))) (drop 0 (map d_y (m93 x0.f0)))))))++(take (length (map d_y (m92 x0.f1))) (drop 0 (map d_y (m92 x0.f1))))))≤(length (map d_y ((v0++(m93 x0.f0))++(m92 x0.f1)))):=(by simp only[List.drop_zero,tbr,tsi,ly_y,ly0_y,← List.map_append,List.take_length,List.cons_append,List.nil_append,append_assoc]; simp only[length_map,length_append,length_cons,length_nil,strInts_len,four_len]; omega)
      have f20:1≤1:=(by omega)
      have f21:((take 1 (drop 0 [[(.val (.int .u8 0))]])).all fun x=>x.all copyable)=true:=(by trivial)
      have f22:(length ((take (length ((take (length ((take (length (map d_y v0)) (drop 0 (map d_y v0)))++(take (length (map d_y (m93 x0.f0))) (drop 0 (map d_y (m93 x0.f0)))))) (drop 0 ((take (length (map d_y v0)) (drop 0 (map d_y v0)))++(take (length (map d_y (m93 x0.f0))) (drop 0 (map d_y (m93 x0.f0)))))))++(take (length (map d_y (m92 x0.f1))) (drop 0 (map d_y (m92 x0.f1)))))) (drop 0 (map d_y ((v0++(m93 x0.f0))++(m92 x0.f1)))))++([[(.val (.int .u8 0))]]:List (List D))))*1≤70368744177664:=(by have q0:=hy5 x0 (List.mem_of_getElem? Hx0); have q1:=pl92 x0.f1; have q2:=pb93 x0.f0; have q3:=pn94 x0.f2; simp only[length_map,length_append,length_take,length_drop,length_cons,length_nil,List.length_flatten,List.map_cons,List.map_nil,List.sum_cons,List.sum_nil] at*; omega)
      have f23:∀r∈([[(.val (.int .u8 0))]]:List (List D)),r.length=1:=(by simp only[List.drop_zero,tbr,tsi,ly_y,ly0_y,← List.map_append,List.take_length,List.cons_append,List.nil_append,append_assoc]; exact lenD_y _)
      have f24:((take (length ((take (length ((take (length (map d_y v0)) (drop 0 (map d_y v0)))++(take (length (map d_y (m93 x0.f0))) (drop 0 (map d_y (m93 x0.f0)))))) (drop 0 ((take (length (map d_y v0)) (drop 0 (map d_y v0)))++(take (length (map d_y (m93 x0.f0))) (drop 0 (map d_y (m93 x0.f0)))))))++(take (length (map d_y (m92 x0.f1))) (drop 0 (map d_y (m92 x0.f1)))))) (drop 0 (map d_y ((v0++(m93 x0.f0))++(m92 x0.f1)))))++([[(.val (.int .u8 0))]]:List (List D)))=(map d_y (((v0++(m93 x0.f0))++(m92 x0.f1))++([0]))):=(by simp[byteRows_eq,ints_y,take_of_length_le,d_i,d_iiLiE,d_iLiE,d_iLiiLiEELiLiEE,d_iiiiiLiLiiLiEELiLiEEE,d_LiiiiiLiLiiLiEELiLiEEEE,d_b,d_iiiiLiLiiLiEELiLiEEE,d_LiE,d_LiLiiLiEELiLiEEE,d_LiiLiEE,d_LiLiEE,d_y,d_LyE,d_LLyEE,fromBR_i,fromBR_b,fromBR_y,four_len]; done)
      have st:=ch b83_0 (h83_0 l0 a0 a1 (length p:Int) v0) ⟨[(0,(.bptr l0 (b_iLiiLiEELiLiEE a0))),(1,(.one (.val (.bool a1)))),(5,(.one (.ref ⟨(5,0,0),[],0,(length ((take (length ((take (length ((take (length (map d_y v0)) (drop 0 (map d_y v0)))++(take (length (map d_y (m93 x0.f0))) (drop 0 (map d_y (m93 x0.f0)))))) (drop 0 ((take (length (map d_y v0)) (drop 0 (map d_y v0)))++(take (length (map d_y (m93 x0.f0))) (drop 0 (map d_y (m93 x0.f0)))))))++(take (length (map d_y (m92 x0.f1))) (drop 0 (map d_y (m92 x0.f1)))))) (drop 0 (map d_y ((v0++(m93 x0.f0))++(m92 x0.f1)))))++([[(.val (.int .u8 0))]]:List (List D))))⟩))),(6,(.oi (wrap .i64 ((length p:Int)+1))))],[((5,0,0),.live ⟨1,(map d_y (((v0++(m93 x0.f0))++(m92 x0.f1))++([0]))),[]⟩)]⟩ .normal 78 (by kernel_rfl) (P1 (.f (nt h_1) (.f f19 (.f f20 (.f f21 (.f f22 (.f f23 (.f f24 (.f trivial (.h 62 (.b false) (.h 68 (.b true) (.h 71 (.norm (5,0,0) (map d_y (((v0++(m93 x0.f0))++(m92 x0.f1))++([0])))) .nil))))))))))))
      have ih:=t83_0 (l0:=l0) (a0:=a0) (a1:=a1) hy0 hy1 hy2 hy3 hy4 hy5 hy6 hy7 y0 (p++ [x0]) (((v0++(m93 x0.f0))++(m92 x0.f1))++([0])) (by rw[append_assoc]; exact hp0) (by have q0:=hy5 x0 (List.mem_of_getElem? Hx0); have q1:=pl92 x0.f1; have q2:=pb93 x0.f0; have q3:=pn94 x0.f2; simp only[length_map,length_append,length_take,length_drop,length_cons,length_nil,List.length_flatten,List.map_cons,List.map_nil,List.sum_cons,List.sum_nil] at*; omega)
      rw[show ((p++ [x0]).length:Int)=(p.length:Int)+1 from by simp] at ih
      rw[show (⟨[(0,(.bptr l0 (b_iLiiLiEELiLiEE a0))),(1,(.one (.val (.bool a1)))),(5,(.one (.ref ⟨(5,0,0),[],0,(length ((take (length ((take (length ((take (length (map d_y v0)) (drop 0 (map d_y v0)))++(take (length (map d_y (m93 x0.f0))) (drop 0 (map d_y (m93 x0.f0)))))) (drop 0 ((take (length (map d_y v0)) (drop 0 (map d_y v0)))++(take (length (map d_y (m93 x0.f0))) (drop 0 (map d_y (m93 x0.f0)))))))++(take (length (map d_y (m92 x0.f1))) (drop 0 (map d_y (m92 x0.f1)))))) (drop 0 (map d_y ((v0++(m93 x0.f0))++(m92 x0.f1)))))++([[(.val (.int .u8 0))]]:List (List D))))⟩))),(6,(.oi (wrap .i64 ((length p:Int)+1))))],[((5,0,0),.live ⟨1,(map d_y (((v0++(m93 x0.f0))++(m92 x0.f1))++([0]))),[]⟩)]⟩:St)=h83_0 l0 a0 a1 ((length p:Int)+1) (((v0++(m93 x0.f0))++(m92 x0.f1))++([0])) from(by unfold h83_0; simp[hw,byteRows_eq,ints_y,take_of_length_le,d_i,d_iiLiE,d_iLiE,d_iLiiLiEELiLiEE,d_iiiiiLiLiiLiEELiLiEEE,d_LiiiiiLiLiiLiEELiLiEEEE,d_b,d_iiiiLiLiiLiEELiLiEEE,d_LiE,d_LiLiiLiEELiLiEEE,d_LiiLiEE,d_LiLiEE,d_y,d_LyE,d_LLyEE,fromBR_i,fromBR_b,fromBR_y,four_len]; done)] at st
      exact .loopN st ih
theorem lk83_0 {a:K_iLiiLiEELiLiEE} {c:Bool}:∀ {l:List K_iiLiE} {i:Int} {v w:List Int} {j b},(∀z∈l,length z.f2≤8)→r83_0 a c l i v=.k0 w j b→w.length≤v.length+60*l.length
  |[],i,v,w,j,b,_,h=>by simp only[r83_0] at h; injection h with h; subst h; simp
  |x::l,i,v,w,j,b,z,h=>by
    simp only[r83_0] at h
    have q0:=z x (List.mem_cons_self ..)
    have z1:=fun u hu=>z u (List.mem_cons_of_mem _ hu)
    have q1:=pl92 x.f1
    have q2:=pb93 x.f0
    have q3:=pn94 x.f2
    split at h<;>(have q:=lk83_0 z1 h; simp only[length_append,length_cons,length_nil] at q⊢; omega)
/-! loop 83_1 -/
inductive O83_1 where
  |k0 (w0:List Int) (w1:Int) (w2:Bool)
def r83_1 (a0:K_iLiiLiEELiLiEE):List K_iLiE→Int→List Int→O83_1
  |x0::y0,i,v0=>
    (r83_1 a0 y0 (i+1) ((v0++(m93 x0.f0))++(m94 x0.f1)))
  |[],i,v0=>(O83_1.k0 v0 i (decide (i <((length (map b_iLiE a0.f2)):Int))))
def h83_1 (l0:Nat) (a0:K_iLiiLiEELiLiEE) (a1:Bool) (c0_83_1:List Int) (i:Int) (v0:List Int):St:=⟨[(0,(.bptr l0 (b_iLiiLiEELiLiEE a0))),(5,(.one (.ref ⟨(5,0,0),[],0,(length (map d_y v0))⟩))),(7,(.one (.val (.int .i64 i))))],[((5,0,0),.live ⟨1,(map d_y v0),[]⟩)]⟩
def ex83_1:O83_1→VX.Exit
  |.k0 _ _ _=>(.exit 2)
def fin83_1 (l0:Nat) (a0:K_iLiiLiEELiLiEE) (a1:Bool) (c0_83_1:List Int):O83_1→St
  |.k0 w0 w1 w2=>⟨[(0,(.bptr l0 (b_iLiiLiEELiLiEE a0))),(5,(.one (.ref ⟨(5,0,0),[],0,(length (map d_y w0))⟩))),(7,(.one (.val (.int .i64 w1)))),(79,(.one (.val (.bool w2))))],[((5,0,0),.live ⟨1,(map d_y w0),[]⟩)]⟩
theorem t83_1 {l0:Nat} {a0:K_iLiiLiEELiLiEE} {a1:Bool} {c0_83_1:List Int} (hy0:length a0.f1*40≤140737488351232) (hy1:∀z∈a0.f1,ok_iiLiE z) (hy2:length a0.f2*32≤140737488351232) (hy3:∀z∈a0.f2,ok_iLiE z) (hy4:length a0.f1≤4) (hy5:∀z∈a0.f1,length z.f2≤8) (hy6:length a0.f2≤4) (hy7:∀z∈a0.f2,length z.f1≤12) (hy8:length c0_83_1≤140737488351232):∀(y0:List K_iLiE) (p:List K_iLiE) (v0:List Int),p++y0=a0.f2→length v0+60*length y0≤520→Ev F X (.code l83_1 (h83_1 l0 a0 a1 c0_83_1 (length p:Int) v0) (ex83_1 (r83_1 a0 y0 (length p:Int) v0)) (fin83_1 l0 a0 a1 c0_83_1 (r83_1 a0 y0 (length p:Int) v0)))
  |[],p,v0,hp0,hi0=>by
    have hc:¬(decide ((length p:Int) <((length (map b_iLiE a0.f2)):Int)))=true:=by
      rw[← hp0]; simp only[length_map,length_set,length_append,length_replicate,length_cons,length_nil,decide_eq_true_eq]; omega
    have hj0:=hi0; try simp only[length_map,length_set,length_append,length_replicate,length_cons,length_nil,Int.toNat_natCast] at hj0
    have st:=ch b83_1 (h83_1 l0 a0 a1 c0_83_1 (length p:Int) v0) ⟨[(0,(.bptr l0 (b_iLiiLiEELiLiEE a0))),(5,(.one (.ref ⟨(5,0,0),[],0,(length (map d_y v0))⟩))),(7,(.oi (length p:Int))),(79,(.one (.val (.bool (decide ((length p:Int) <((length (map b_iLiE a0.f2)):Int)))))))],[((5,0,0),.live ⟨1,(map d_y v0),[]⟩)]⟩ (.exit 2) 15 (by kernel_rfl) (.f (nt hc) (.h 14 (.b false) .nil))
    rw[show (⟨[(0,(.bptr l0 (b_iLiiLiEELiLiEE a0))),(5,(.one (.ref ⟨(5,0,0),[],0,(length (map d_y v0))⟩))),(7,(.oi (length p:Int))),(79,(.one (.val (.bool (decide ((length p:Int) <((length (map b_iLiE a0.f2)):Int)))))))],[((5,0,0),.live ⟨1,(map d_y v0),[]⟩)]⟩:St)=fin83_1 l0 a0 a1 c0_83_1 (.k0 v0 (length p:Int) (decide ((length p:Int) <((length (map b_iLiE a0.f2)):Int)))) from(by rfl)] at st
    exact .loopX st (show ((.exit 2):VX.Exit)≠.normal from by simp)
  |x0::y0,p,v0,hp0,hi0=>by
    have hc:(decide ((length p:Int) <((length (map b_iLiE a0.f2)):Int)))=true:=by
      rw[← hp0]; simp only[length_map,length_set,length_append,length_replicate,length_cons,length_nil,decide_eq_true_eq]; omega
    have Hx0:(a0.f2)[toNat (length p:Int)]?=some x0:=by
      rw[← hp0,Int.toNat_natCast]; simp
    have Nx0_7:=hy7 x0 (List.mem_of_getElem? Hx0)
    have Mx0_0:=hy3 x0 (List.mem_of_getElem? Hx0)
    have hlen:length (a0.f2)=length p+length y0+1:=by rw[← hp0]; simp; omega
    have hw:wrap .i64 ((length p:Int)+1)=(length p:Int)+1:=wrap64 (by omega)
    have hj0:=hi0; try simp only[length_map,length_set,length_append,length_replicate,length_cons,length_nil,Int.toNat_natCast] at hj0
    simp only[r83_1]
    have f1:0≤(length p:Int):=(by omega)
    have f4:0+(length (map d_y v0))≤(length (map d_y v0)):=(by omega)
    have f5:0+(length (map d_y (m93 x0.f0)))≤(length (map d_y (m93 x0.f0))):=(by omega)
    have f6:((take (length (map d_y (m93 x0.f0))) (drop 0 (map d_y (m93 x0.f0)))).all fun x=>x.all copyable)=true:=(ct_y _ _ _)
    have f7:(length ((take (length (map d_y v0)) (drop 0 (map d_y v0)))++(take (length (map d_y (m93 x0.f0))) (drop 0 (map d_y (m93 x0.f0))))))*1≤70368744177664:=(by have q0:=hy7 x0 (List.mem_of_getElem? Hx0); have q2:=pb93 x0.f0; have q3:=pn94 x0.f1; simp only[length_map,length_append,length_take,length_drop,length_cons,length_nil,List.length_flatten,List.map_cons,List.map_nil,List.sum_cons,List.sum_nil] at*; omega)
    have f8:∀r∈((take (length (map d_y (m93 x0.f0))) (drop 0 (map d_y (m93 x0.f0)))):List (List D)),r.length=1:=(by simp only[List.drop_zero,tbr,tsi,ly_y,ly0_y,← List.map_append,List.take_length,List.cons_append,List.nil_append,append_assoc]; exact lenD_y _)
    have f12:0+(length ((take (length (map d_y v0)) (drop 0 (map d_y v0)))++(take (length (map d_y (m93 x0.f0))) (drop 0 (map d_y (m93 x0.f0))))))≤(length ((take (length (map d_y v0)) (drop 0 (map d_y v0)))++(take (length (map d_y (m93 x0.f0))) (drop 0 (map d_y (m93 x0.f0)))))):=(by omega)
    have f13:0+(length (map d_y (m94 x0.f1)))≤(length (map d_y (m94 x0.f1))):=(by omega)
    have f14:((take (length (map d_y (m94 x0.f1))) (drop 0 (map d_y (m94 x0.f1)))).all fun x=>x.all copyable)=true:=(ct_y _ _ _)
    have f15:(length ((take (length ((take (length (map d_y v0)) (drop 0 (map d_y v0)))++(take (length (map d_y (m93 x0.f0))) (drop 0 (map d_y (m93 x0.f0)))))) (drop 0 ((take (length (map d_y v0)) (drop 0 (map d_y v0)))++(take (length (map d_y (m93 x0.f0))) (drop 0 (map d_y (m93 x0.f0)))))))++(take (length (map d_y (m94 x0.f1))) (drop 0 (map d_y (m94 x0.f1))))))*1≤70368744177664:=(by have q0:=hy7 x0 (List.mem_of_getElem? Hx0); have q2:=pb93 x0.f0; have q3:=pn94 x0.f1; simp only[length_map,length_append,length_take,length_drop,length_cons,length_nil,List.length_flatten,List.map_cons,List.map_nil,List.sum_cons,List.sum_nil] at*; omega)
    have f16:∀r∈((take (length (map d_y (m94 x0.f1))) (drop 0 (map d_y (m94 x0.f1)))):List (List D)),r.length=1:=(by simp only[List.drop_zero,tbr,tsi,ly_y,ly0_y,← List.map_append,List.take_length,List.cons_append,List.nil_append,append_assoc]; exact lenD_y _)
    have f17:((take (length ((take (length (map d_y v0)) (drop 0 (map d_y v0)))++(take (length (map d_y (m93 x0.f0))) (drop 0 (map d_y (m93 x0.f0)))))) (drop 0 ((take (length (map d_y v0)) (drop 0 (map d_y v0)))++(take (length (map d_y (m93 x0.f0))) (drop 0 (map d_y (m93 x0.f0)))))))++(take (length (map d_y (m94 x0.f1))) (drop 0 (map d_y (m94 x0.f1)))))=(map d_y ((v0++(m93 x0.f0))++(m94 x0.f1))):=(by simp[byteRows_eq,ints_y,take_of_length_le,d_i,d_iiLiE,d_iLiE,d_iLiiLiEELiLiEE,d_iiiiiLiLiiLiEELiLiEEE,d_LiiiiiLiLiiLiEELiLiEEEE,d_b,d_iiiiLiLiiLiEELiLiEEE,d_LiE,d_LiLiiLiEELiLiEEE,d_LiiLiEE,d_LiLiEE,d_y,d_LyE,d_LLyEE,fromBR_i,fromBR_b,fromBR_y,four_len]; done)
    have st:=ch b83_1 (h83_1 l0 a0 a1 c0_83_1 (length p:Int) v0) ⟨[(0,(.bptr l0 (b_iLiiLiEELiLiEE a0))),(5,(.one (.ref ⟨(5,0,0),[],0,(length ((take (length ((take (length (map d_y v0)) (drop 0 (map d_y v0)))++(take (length (map d_y (m93 x0.f0))) (drop 0 (map d_y (m93 x0.f0)))))) (drop 0 ((take (length (map d_y v0)) (drop 0 (map d_y v0)))++(take (length (map d_y (m93 x0.f0))) (drop 0 (map d_y (m93 x0.f0)))))))++(take (length (map d_y (m94 x0.f1))) (drop 0 (map d_y (m94 x0.f1))))))⟩))),(7,(.oi (wrap .i64 ((length p:Int)+1))))],[((5,0,0),.live ⟨1,(map d_y ((v0++(m93 x0.f0))++(m94 x0.f1))),[]⟩)]⟩ .normal 66 (by kernel_rfl) (.f hc (.f f1 (.f (mp_ b_iLiE Hx0) (.h 14 (.b true) (.h 28 (.row (b_iLiE x0)) (.r 34 [] [] (e93 (a0:=x0.f0)) (.f f4 (.f f5 (.f f6 (.f f7 (.f f8 (.f f1 (.f (mp_ b_iLiE Hx0) (.h 36 (.b true) (.h 48 (.row (b_iLiE x0)) (.r 54 [] [] (e94 (l0_0:=(l0+1)) (a0:=x0.f1) (by omega)) (.f f12 (.f f13 (.f f14 (.f f15 (.f f16 (.f f17 (.f trivial (.h 56 (.b true) (.h 59 (.norm (5,0,0) (map d_y ((v0++(m93 x0.f0))++(m94 x0.f1)))) .nil)))))))))))))))))))))))))
    have ih:=t83_1 (l0:=l0) (a0:=a0) (a1:=a1) (c0_83_1:=c0_83_1) hy0 hy1 hy2 hy3 hy4 hy5 hy6 hy7 hy8 y0 (p++ [x0]) ((v0++(m93 x0.f0))++(m94 x0.f1)) (by rw[append_assoc]; exact hp0) (by have q0:=hy7 x0 (List.mem_of_getElem? Hx0); have q2:=pb93 x0.f0; have q3:=pn94 x0.f1; simp only[length_map,length_append,length_take,length_drop,length_cons,length_nil,List.length_flatten,List.map_cons,List.map_nil,List.sum_cons,List.sum_nil] at*; omega)
    rw[show ((p++ [x0]).length:Int)=(p.length:Int)+1 from by simp] at ih
    rw[show (⟨[(0,(.bptr l0 (b_iLiiLiEELiLiEE a0))),(5,(.one (.ref ⟨(5,0,0),[],0,(length ((take (length ((take (length (map d_y v0)) (drop 0 (map d_y v0)))++(take (length (map d_y (m93 x0.f0))) (drop 0 (map d_y (m93 x0.f0)))))) (drop 0 ((take (length (map d_y v0)) (drop 0 (map d_y v0)))++(take (length (map d_y (m93 x0.f0))) (drop 0 (map d_y (m93 x0.f0)))))))++(take (length (map d_y (m94 x0.f1))) (drop 0 (map d_y (m94 x0.f1))))))⟩))),(7,(.oi (wrap .i64 ((length p:Int)+1))))],[((5,0,0),.live ⟨1,(map d_y ((v0++(m93 x0.f0))++(m94 x0.f1))),[]⟩)]⟩:St)=h83_1 l0 a0 a1 c0_83_1 ((length p:Int)+1) ((v0++(m93 x0.f0))++(m94 x0.f1)) from(by unfold h83_1; simp[hw,byteRows_eq,ints_y,take_of_length_le,d_i,d_iiLiE,d_iLiE,d_iLiiLiEELiLiEE,d_iiiiiLiLiiLiEELiLiEEE,d_LiiiiiLiLiiLiEELiLiEEEE,d_b,d_iiiiLiLiiLiEELiLiEEE,d_LiE,d_LiLiiLiEELiLiEEE,d_LiiLiEE,d_LiLiEE,d_y,d_LyE,d_LLyEE,fromBR_i,fromBR_b,fromBR_y,four_len]; done)] at st
    exact .loopN st ih
theorem lk83_1 {a:K_iLiiLiEELiLiEE}:∀ {l:List K_iLiE} {i:Int} {v w:List Int} {j b},(∀z∈l,length z.f1≤12)→r83_1 a l i v=.k0 w j b→w.length≤v.length+60*l.length
  |[],i,v,w,j,b,_,h=>by simp only[r83_1] at h; injection h with h; subst h; simp
  |x::l,i,v,w,j,b,z,h=>by
    simp only[r83_1] at h
    have q0:=z x (List.mem_cons_self ..)
    have z1:=fun u hu=>z u (List.mem_cons_of_mem _ hu)
    have q2:=pb93 x.f0
    have q3:=pn94 x.f1
    have q:=lk83_1 z1 h
    simp only[length_append,length_cons,length_nil] at q⊢; omega
/-! loop.example/g00539/spec.l3Pack -/
def m83 (a0:K_iLiiLiEELiLiEE) (a1:Bool):(List Int):=
  (match r83_0 a0 a1 a0.f1 0 ((m92 a0.f0)++(m92 ((length (map b_iiLiE a0.f1)):Int))) with | .k0 w0_4 w1_4 w2_4=>(match r83_1 a0 a0.f2 0 (w0_4++(m92 ((length (map b_iLiE a0.f2)):Int))) with | .k0 w0_8 w1_8 w2_8=>w0_8))
theorem e83 {l0:Nat} {a0:K_iLiiLiEELiLiEE} {a1:Bool} (hy0:length a0.f1*40≤140737488351232) (hy1:∀z∈a0.f1,ok_iiLiE z) (hy2:length a0.f2*32≤140737488351232) (hy3:∀z∈a0.f2,ok_iLiE z) (hy4:length a0.f1≤4) (hy5:∀z∈a0.f1,length z.f2≤8) (hy6:length a0.f2≤4) (hy7:∀z∈a0.f2,length z.f1≤12):Ev F X (.call 83 [(.bptr l0 (b_iLiiLiEELiLiEE a0)),(.one (.val (.bool a1)))] [] [] [(.one (.own 1 (map d_y (m83 a0 a1))))]):=by
  unfold m83
  have f2:0+(length (map d_y (m92 a0.f0)))≤(length (map d_y (m92 a0.f0))):=(by omega)
  have f3:0+(length (map d_y (m92 ((length (map b_iiLiE a0.f1)):Int))))≤(length (map d_y (m92 ((length (map b_iiLiE a0.f1)):Int)))):=(by omega)
  have f4:((take (length (map d_y (m92 ((length (map b_iiLiE a0.f1)):Int)))) (drop 0 (map d_y (m92 ((length (map b_iiLiE a0.f1)):Int))))).all fun x=>x.all copyable)=true:=(ct_y _ _ _)
  have f5:(length ((take (length (map d_y (m92 a0.f0))) (drop 0 (map d_y (m92 a0.f0))))++(take (length (map d_y (m92 ((length (map b_iiLiE a0.f1)):Int)))) (drop 0 (map d_y (m92 ((length (map b_iiLiE a0.f1)):Int)))))))*1≤70368744177664:=(by have q4:=pl92 a0.f0; have q5:=pl92 ((length (map b_iiLiE a0.f1)):Int); have q6:=pl92 ((length (map b_iLiE a0.f2)):Int); simp only[length_map,length_append,length_take,length_drop,length_cons,length_nil,List.length_flatten,List.map_cons,List.map_nil,List.sum_cons,List.sum_nil] at*; omega)
  have f6:∀r∈((take (length (map d_y (m92 ((length (map b_iiLiE a0.f1)):Int)))) (drop 0 (map d_y (m92 ((length (map b_iiLiE a0.f1)):Int))))):List (List D)),r.length=1:=(by simp only[List.drop_zero,tbr,tsi,ly_y,ly0_y,← List.map_append,List.take_length,List.cons_append,List.nil_append,append_assoc]; exact lenD_y _)
  have f7:((take (length (map d_y (m92 a0.f0))) (drop 0 (map d_y (m92 a0.f0))))++(take (length (map d_y (m92 ((length (map b_iiLiE a0.f1)):Int)))) (drop 0 (map d_y (m92 ((length (map b_iiLiE a0.f1)):Int))))))=(map d_y ((m92 a0.f0)++(m92 ((length (map b_iiLiE a0.f1)):Int)))):=(by simp[byteRows_eq,ints_y,take_of_length_le,d_i,d_iiLiE,d_iLiE,d_iLiiLiEELiLiEE,d_iiiiiLiLiiLiEELiLiEEE,d_LiiiiiLiLiiLiEELiLiEEEE,d_b,d_iiiiLiLiiLiEELiLiEEE,d_LiE,d_LiLiiLiEELiLiEEE,d_LiiLiEE,d_LiLiEE,d_y,d_LyE,d_LLyEE,fromBR_i,fromBR_b,fromBR_y,four_len]; done)
  cases h0:r83_0 a0 a1 a0.f1 0 ((m92 a0.f0)++(m92 ((length (map b_iiLiE a0.f1)):Int))) with
  |k0 w0_4 w1_4 w2_4=>
    try dsimp only
    have f8:(⟨[(0,(.bptr l0 (b_iLiiLiEELiLiEE a0))),(1,(.one (.val (.bool a1)))),(5,(.one (.ref ⟨(5,0,0),[],0,(length ((take (length (map d_y (m92 a0.f0))) (drop 0 (map d_y (m92 a0.f0))))++(take (length (map d_y (m92 ((length (map b_iiLiE a0.f1)):Int)))) (drop 0 (map d_y (m92 ((length (map b_iiLiE a0.f1)):Int)))))))⟩))),(6,(.oi 0))],[((5,0,0),.live ⟨1,(map d_y ((m92 a0.f0)++(m92 ((length (map b_iiLiE a0.f1)):Int)))),[]⟩)]⟩:St)=h83_0 l0 a0 a1 0 ((m92 a0.f0)++(m92 ((length (map b_iiLiE a0.f1)):Int))):=(by unfold h83_0; simp[byteRows_eq,ints_y,take_of_length_le,d_i,d_iiLiE,d_iLiE,d_iLiiLiEELiLiEE,d_iiiiiLiLiiLiEELiLiEEE,d_LiiiiiLiLiiLiEELiLiEEEE,d_b,d_iiiiLiLiiLiEELiLiEEE,d_LiE,d_LiLiiLiEELiLiEEE,d_LiiLiEE,d_LiLiEE,d_y,d_LyE,d_LLyEE,fromBR_i,fromBR_b,fromBR_y,four_len]; done)
    have f11:0+(length (map d_y w0_4))≤(length (map d_y w0_4)):=(by omega)
    have f12:0+(length (map d_y (m92 ((length (map b_iLiE a0.f2)):Int))))≤(length (map d_y (m92 ((length (map b_iLiE a0.f2)):Int)))):=(by omega)
    have f13:((take (length (map d_y (m92 ((length (map b_iLiE a0.f2)):Int)))) (drop 0 (map d_y (m92 ((length (map b_iLiE a0.f2)):Int))))).all fun x=>x.all copyable)=true:=(ct_y _ _ _)
    have f14:(length ((take (length (map d_y w0_4)) (drop 0 (map d_y w0_4)))++(take (length (map d_y (m92 ((length (map b_iLiE a0.f2)):Int)))) (drop 0 (map d_y (m92 ((length (map b_iLiE a0.f2)):Int)))))))*1≤70368744177664:=(by have q7:=lk83_0 hy5 ‹_›; have q4:=pl92 a0.f0; have q5:=pl92 ((length (map b_iiLiE a0.f1)):Int); have q6:=pl92 ((length (map b_iLiE a0.f2)):Int); simp only[length_map,length_append,length_take,length_drop,length_cons,length_nil,List.length_flatten,List.map_cons,List.map_nil,List.sum_cons,List.sum_nil] at*; omega)
    have f15:∀r∈((take (length (map d_y (m92 ((length (map b_iLiE a0.f2)):Int)))) (drop 0 (map d_y (m92 ((length (map b_iLiE a0.f2)):Int))))):List (List D)),r.length=1:=(by simp only[List.drop_zero,tbr,tsi,ly_y,ly0_y,← List.map_append,List.take_length,List.cons_append,List.nil_append,append_assoc]; exact lenD_y _)
    have f16:((take (length (map d_y w0_4)) (drop 0 (map d_y w0_4)))++(take (length (map d_y (m92 ((length (map b_iLiE a0.f2)):Int)))) (drop 0 (map d_y (m92 ((length (map b_iLiE a0.f2)):Int))))))=(map d_y (w0_4++(m92 ((length (map b_iLiE a0.f2)):Int)))):=(by simp[byteRows_eq,ints_y,take_of_length_le,d_i,d_iiLiE,d_iLiE,d_iLiiLiEELiLiEE,d_iiiiiLiLiiLiEELiLiEEE,d_LiiiiiLiLiiLiEELiLiEEEE,d_b,d_iiiiLiLiiLiEELiLiEEE,d_LiE,d_LiLiiLiEELiLiEEE,d_LiiLiEE,d_LiLiEE,d_y,d_LyE,d_LLyEE,fromBR_i,fromBR_b,fromBR_y,four_len]; done)
    cases h1:r83_1 a0 a0.f2 0 (w0_4++(m92 ((length (map b_iLiE a0.f2)):Int))) with
    |k0 w0_8 w1_8 w2_8=>
      try dsimp only
      have f17:(⟨[(0,(.bptr l0 (b_iLiiLiEELiLiEE a0))),(5,(.one (.ref ⟨(5,0,0),[],0,(length ((take (length (map d_y w0_4)) (drop 0 (map d_y w0_4)))++(take (length (map d_y (m92 ((length (map b_iLiE a0.f2)):Int)))) (drop 0 (map d_y (m92 ((length (map b_iLiE a0.f2)):Int)))))))⟩))),(7,(.oi 0))],[((5,0,0),.live ⟨1,(map d_y (w0_4++(m92 ((length (map b_iLiE a0.f2)):Int)))),[]⟩)]⟩:St)=h83_1 l0 a0 a1 w0_4 0 (w0_4++(m92 ((length (map b_iLiE a0.f2)):Int))):=(by unfold h83_1; simp[byteRows_eq,ints_y,take_of_length_le,d_i,d_iiLiE,d_iLiE,d_iLiiLiEELiLiEE,d_iiiiiLiLiiLiEELiLiEEE,d_LiiiiiLiLiiLiEELiLiEEEE,d_b,d_iiiiLiLiiLiEELiLiEEE,d_LiE,d_LiLiiLiEELiLiEEE,d_LiiLiEE,d_LiLiEE,d_y,d_LyE,d_LLyEE,fromBR_i,fromBR_b,fromBR_y,four_len]; done)
      exact cp (by kernel_rfl) (.r 11 [] [] (e92 (a0:=a0.f0)) (.r 23 [] [] (e92 (a0:=((length (map b_iiLiE a0.f1)):Int))) (.f f2 (.f f3 (.f f4 (.f f5 (.f f6 (.f f7 (.f f8 (.f (ev_ (e:=ex83_0) (g:=(fin83_0 l0 a0 a1)) h0 (t83_0 (l0:=l0) (a0:=a0) (a1:=a1) (by assumption) (by assumption) (by assumption) (by assumption) (by assumption) (by assumption) (by assumption) (by assumption) a0.f1 [] ((m92 a0.f0)++(m92 ((length (map b_iiLiE a0.f1)):Int))) rfl (by have q4:=pl92 a0.f0; have q5:=pl92 ((length (map b_iiLiE a0.f1)):Int); have q6:=pl92 ((length (map b_iLiE a0.f2)):Int); simp only[length_map,length_append,length_take,length_drop,length_cons,length_nil,List.length_flatten,List.map_cons,List.map_nil,List.sum_cons,List.sum_nil] at*; omega))) (.h 25 (.b true) (.h 28 (.norm (5,0,0) (map d_y ((m92 a0.f0)++(m92 ((length (map b_iiLiE a0.f1)):Int))))) (.h 31 (.loop (h83_0 l0 a0 a1 0 ((m92 a0.f0)++(m92 ((length (map b_iiLiE a0.f1)):Int)))) (.exit 0) ⟨[(0,(.bptr l0 (b_iLiiLiEELiLiEE a0))),(1,(.one (.val (.bool a1)))),(5,(.one (.ref ⟨(5,0,0),[],0,(length (map d_y w0_4))⟩))),(6,(.one (.val (.int .i64 w1_4)))),(26,(.one (.val (.bool w2_4))))],[((5,0,0),.live ⟨1,(map d_y w0_4),[]⟩)]⟩) (.r 45 [] [] (e92 (a0:=((length (map b_iLiE a0.f2)):Int))) (.f f11 (.f f12 (.f f13 (.f f14 (.f f15 (.f f16 (.f f17 (.f (ev_ (e:=ex83_1) (g:=(fin83_1 l0 a0 a1 w0_4)) h1 (t83_1 (l0:=l0) (a0:=a0) (a1:=a1) (c0_83_1:=w0_4) (by assumption) (by assumption) (by assumption) (by assumption) (by assumption) (by assumption) (by assumption) (by assumption) (by have q4:=pl92 a0.f0; have q5:=pl92 ((length (map b_iiLiE a0.f1)):Int); have q6:=pl92 ((length (map b_iLiE a0.f2)):Int); simp only[length_map,length_append,length_take,length_drop,length_cons,length_nil,List.length_flatten,List.map_cons,List.map_nil,List.sum_cons,List.sum_nil] at*; omega) a0.f2 [] (w0_4++(m92 ((length (map b_iLiE a0.f2)):Int))) rfl (by have q7:=lk83_0 hy5 ‹_›; have q4:=pl92 a0.f0; have q5:=pl92 ((length (map b_iiLiE a0.f1)):Int); have q6:=pl92 ((length (map b_iLiE a0.f2)):Int); simp only[length_map,length_append,length_take,length_drop,length_cons,length_nil,List.length_flatten,List.map_cons,List.map_nil,List.sum_cons,List.sum_nil] at*; omega))) (pe 0 (pe (length (map d_y w0_8)) (.f (pureR_y w0_8) (.h 47 (.b true) (.h 50 (.norm (5,0,0) (map d_y (w0_4++(m92 ((length (map b_iLiE a0.f2)):Int))))) (.h 53 (.loop (h83_1 l0 a0 a1 w0_4 0 (w0_4++(m92 ((length (map b_iLiE a0.f2)):Int)))) (.exit 2) ⟨[(0,(.bptr l0 (b_iLiiLiEELiLiEE a0))),(5,(.one (.ref ⟨(5,0,0),[],0,(length (map d_y w0_8))⟩))),(7,(.one (.val (.int .i64 w1_8)))),(79,(.one (.val (.bool w2_8))))],[((5,0,0),.live ⟨1,(map d_y w0_8),[]⟩)]⟩) .nil))))))))))))))))))))))))))))
theorem pt83 (a:K_iLiiLiEELiLiEE) (c:Bool) (h:SmT a):length (m83 a c)≤1000:=by
  obtain⟨a1,a2,a3,a4⟩:=h
  unfold m83
  cases h:r83_0 a c a.f1 0 ((m92 a.f0)++(m92 ((length (map b_iiLiE a.f1)):Int))) with
  |k0 w j b=>
    have q:=lk83_0 a2 h
    have q0:=pl92 a.f0
    have q1:=pl92 ((length (map b_iiLiE a.f1)):Int)
    have q2:=pl92 ((length (map b_iLiE a.f2)):Int)
    simp only[length_append] at q
    simp only[]
    cases h2:r83_1 a a.f2 0 (w++(m92 ((length (map b_iLiE a.f2)):Int))) with
    |k0 w2 j2 b2=>
      have q3:=lk83_1 a4 h2
      simp only[length_append] at q3
      show w2.length≤_
      omega
theorem e62 {l0:Nat} {a0:K_iLiiLiEELiLiEE} (hy0:length a0.f1*40≤140737488351232) (hy1:∀z∈a0.f1,ok_iiLiE z) (hy2:length a0.f2*32≤140737488351232) (hy3:∀z∈a0.f2,ok_iLiE z) (hy4:SmT a0):Ev F X (.call 62 [(.bptr l0 (b_iLiiLiEELiLiEE a0))] [] [] [(.one (.val (.int .i64 (m82 (m83 a0 false)))))]):=by
  exact cp (by kernel_rfl) (.r 5 [] [] (e83 (l0:=(l0+1)) (a0:=a0) (a1:=false) ‹_› ‹_› ‹_› ‹_› (by exact hy4.1) (by exact hy4.2.1) (by exact hy4.2.2.1) (by exact hy4.2.2.2)) (ln_y (m83 a0 false) (.r 7 [] [(map b_y (m83 a0 false))] (e82 (l0_0:=0) (a0:=(m83 a0 false)) (by have q:=pt83 a0 false hy4; omega)) .nil)))
/-! loop 44_0 -/
inductive O44_0 where
  |k0 (w0:List Int) (w1:Int) (w2:Bool)
def r44_0 (a0:K_iiiiLiLiiLiEELiLiEEE):List K_iLiiLiEELiLiEE→Int→List Int→O44_0
  |x0::y0,i,v0=>
    (r44_0 a0 y0 (i+1) (v0++([(m82 (m83 x0 false))])))
  |[],i,v0=>(O44_0.k0 v0 i (decide (i <((length (map b_iLiiLiEELiLiEE a0.f4)):Int))))
def h44_0 (l0:Nat) (a0:K_iiiiLiLiiLiEELiLiEEE) (i:Int) (v0:List Int):St:=⟨[(0,(.bptr l0 (b_iiiiLiLiiLiEELiLiEEE a0))),(3,(.one (.ref ⟨(3,0,0),[],0,(length (map d_i v0))⟩))),(4,(.one (.val (.int .i64 i))))],[((3,0,0),.live ⟨1,(map d_i v0),[]⟩)]⟩
def ex44_0:O44_0→VX.Exit
  |.k0 _ _ _=>(.exit 0)
def fin44_0 (l0:Nat) (a0:K_iiiiLiLiiLiEELiLiEEE):O44_0→St
  |.k0 w0 w1 w2=>⟨[(0,(.bptr l0 (b_iiiiLiLiiLiEELiLiEEE a0))),(3,(.one (.ref ⟨(3,0,0),[],0,(length (map d_i w0))⟩))),(4,(.one (.val (.int .i64 w1)))),(12,(.one (.val (.bool w2))))],[((3,0,0),.live ⟨1,(map d_i w0),[]⟩)]⟩
theorem t44_0 {l0:Nat} {a0:K_iiiiLiLiiLiEELiLiEEE} (hy0:length a0.f4*56≤140737488351232) (hy1:∀z∈a0.f4,ok_iLiiLiEELiLiEE z) (hy2:length a0.f4≤4) (hy3:∀z∈a0.f4,SmT z):∀(y0:List K_iLiiLiEELiLiEE) (p:List K_iLiiLiEELiLiEE) (v0:List Int),p++y0=a0.f4→(length v0+length y0)*8≤70368744177664→length v0+length y0≤4→Ev F X (.code l44_0 (h44_0 l0 a0 (length p:Int) v0) (ex44_0 (r44_0 a0 y0 (length p:Int) v0)) (fin44_0 l0 a0 (r44_0 a0 y0 (length p:Int) v0)))
  |[],p,v0,hp0,hi0,hi1=>by
    have hc:¬(decide ((length p:Int) <((length (map b_iLiiLiEELiLiEE a0.f4)):Int)))=true:=by
      rw[← hp0]; simp only[length_map,length_set,length_append,length_replicate,length_cons,length_nil,decide_eq_true_eq]; omega
    have hj0:=hi0; try simp only[length_map,length_set,length_append,length_replicate,length_cons,length_nil,Int.toNat_natCast] at hj0
    have hj1:=hi1; try simp only[length_map,length_set,length_append,length_replicate,length_cons,length_nil,Int.toNat_natCast] at hj1
    have st:=ch b44_0 (h44_0 l0 a0 (length p:Int) v0) ⟨[(0,(.bptr l0 (b_iiiiLiLiiLiEELiLiEEE a0))),(3,(.one (.ref ⟨(3,0,0),[],0,(length (map d_i v0))⟩))),(4,(.oi (length p:Int))),(12,(.one (.val (.bool (decide ((length p:Int) <((length (map b_iLiiLiEELiLiEE a0.f4)):Int)))))))],[((3,0,0),.live ⟨1,(map d_i v0),[]⟩)]⟩ (.exit 0) 15 (by kernel_rfl) (.f (nt hc) (.h 14 (.b false) .nil))
    rw[show (⟨[(0,(.bptr l0 (b_iiiiLiLiiLiEELiLiEEE a0))),(3,(.one (.ref ⟨(3,0,0),[],0,(length (map d_i v0))⟩))),(4,(.oi (length p:Int))),(12,(.one (.val (.bool (decide ((length p:Int) <((length (map b_iLiiLiEELiLiEE a0.f4)):Int)))))))],[((3,0,0),.live ⟨1,(map d_i v0),[]⟩)]⟩:St)=fin44_0 l0 a0 (.k0 v0 (length p:Int) (decide ((length p:Int) <((length (map b_iLiiLiEELiLiEE a0.f4)):Int)))) from(by rfl)] at st
    exact .loopX st (show ((.exit 0):VX.Exit)≠.normal from by simp)
  |x0::y0,p,v0,hp0,hi0,hi1=>by
    have hc:(decide ((length p:Int) <((length (map b_iLiiLiEELiLiEE a0.f4)):Int)))=true:=by
      rw[← hp0]; simp only[length_map,length_set,length_append,length_replicate,length_cons,length_nil,decide_eq_true_eq]; omega
    have Hx0:(a0.f4)[toNat (length p:Int)]?=some x0:=by
      rw[← hp0,Int.toNat_natCast]; simp
    obtain⟨Mx0_0,Mx0_1,Mx0_2,Mx0_3⟩:=hy1 x0 (List.mem_of_getElem? Hx0)
    have hlen:length (a0.f4)=length p+length y0+1:=by rw[← hp0]; simp; omega
    have hw:wrap .i64 ((length p:Int)+1)=(length p:Int)+1:=wrap64 (by omega)
    have hj0:=hi0; try simp only[length_map,length_set,length_append,length_replicate,length_cons,length_nil,Int.toNat_natCast] at hj0
    have hj1:=hi1; try simp only[length_map,length_set,length_append,length_replicate,length_cons,length_nil,Int.toNat_natCast] at hj1
    simp only[r44_0]
    have f1:0≤(length p:Int):=(by omega)
    have f4:0+(length (map d_i v0))≤(length (map d_i v0)):=(by omega)
    have f5:1≤1:=(by omega)
    have f6:((take 1 (drop 0 [[(.val (.int .i64 (m82 (m83 x0 false))))]])).all fun x=>x.all copyable)=true:=(by trivial)
    have f7:(length ((take (length (map d_i v0)) (drop 0 (map d_i v0)))++([[(.val (.int .i64 (m82 (m83 x0 false))))]]:List (List D))))*8≤70368744177664:=(by simp only[length_map,length_append,length_take,length_drop,length_cons,length_nil,List.length_flatten,List.map_cons,List.map_nil,List.sum_cons,List.sum_nil] at*; omega)
    have f8:∀r∈([[(.val (.int .i64 (m82 (m83 x0 false))))]]:List (List D)),r.length=1:=(by unfold m82 m83;(repeat' split)<;>simp_all<;>omega)
    have f9:((take (length (map d_i v0)) (drop 0 (map d_i v0)))++([[(.val (.int .i64 (m82 (m83 x0 false))))]]:List (List D)))=(map d_i (v0++([(m82 (m83 x0 false))]))):=(by simp[byteRows_eq,ints_y,take_of_length_le,d_i,d_iiLiE,d_iLiE,d_iLiiLiEELiLiEE,d_iiiiiLiLiiLiEELiLiEEE,d_LiiiiiLiLiiLiEELiLiEEEE,d_b,d_iiiiLiLiiLiEELiLiEEE,d_LiE,d_LiLiiLiEELiLiEEE,d_LiiLiEE,d_LiLiEE,d_y,d_LyE,d_LLyEE,fromBR_i,fromBR_b,fromBR_y,four_len]; done)
    have st:=ch b44_0 (h44_0 l0 a0 (length p:Int) v0) ⟨[(0,(.bptr l0 (b_iiiiLiLiiLiEELiLiEEE a0))),(3,(.one (.ref ⟨(3,0,0),[],0,(length ((take (length (map d_i v0)) (drop 0 (map d_i v0)))++([[(.i (m82 (m83 x0 false)))]]:List (List D))))⟩))),(4,(.oi (wrap .i64 ((length p:Int)+1))))],[((3,0,0),.live ⟨1,(map d_i (v0++([(m82 (m83 x0 false))]))),[]⟩)]⟩ .normal 44 (by kernel_rfl) (.f hc (.f f1 (.f (mp_ b_iLiiLiEELiLiEE Hx0) (.h 14 (.b true) (.h 28 (.row (b_iLiiLiEELiLiEE x0)) (.r 30 [] [] (e62 (l0:=(l0+1)) (a0:=x0) ‹_› ‹_› ‹_› ‹_› (by exact hy3 _ (List.mem_of_getElem? ‹_›))) (.f f4 (.f f5 (.f f6 (.f f7 (.f f8 (.f f9 (.f trivial (.h 34 (.b true) (.h 37 (.norm (3,0,0) (map d_i (v0++([(m82 (m83 x0 false))])))) .nil)))))))))))))))
    have ih:=t44_0 (l0:=l0) (a0:=a0) hy0 hy1 hy2 hy3 y0 (p++ [x0]) (v0++([(m82 (m83 x0 false))])) (by rw[append_assoc]; exact hp0) (by simp only[length_map,length_set,length_append,length_replicate,length_cons,length_nil]; omega) (by simp only[length_map,length_set,length_append,length_replicate,length_cons,length_nil]; omega)
    rw[show ((p++ [x0]).length:Int)=(p.length:Int)+1 from by simp] at ih
    rw[show (⟨[(0,(.bptr l0 (b_iiiiLiLiiLiEELiLiEEE a0))),(3,(.one (.ref ⟨(3,0,0),[],0,(length ((take (length (map d_i v0)) (drop 0 (map d_i v0)))++([[(.i (m82 (m83 x0 false)))]]:List (List D))))⟩))),(4,(.oi (wrap .i64 ((length p:Int)+1))))],[((3,0,0),.live ⟨1,(map d_i (v0++([(m82 (m83 x0 false))]))),[]⟩)]⟩:St)=h44_0 l0 a0 ((length p:Int)+1) (v0++([(m82 (m83 x0 false))])) from(by unfold h44_0; simp[hw,byteRows_eq,ints_y,take_of_length_le,d_i,d_iiLiE,d_iLiE,d_iLiiLiEELiLiEE,d_iiiiiLiLiiLiEELiLiEEE,d_LiiiiiLiLiiLiEELiLiEEEE,d_b,d_iiiiLiLiiLiEELiLiEEE,d_LiE,d_LiLiiLiEELiLiEEE,d_LiiLiEE,d_LiLiEE,d_y,d_LyE,d_LLyEE,fromBR_i,fromBR_b,fromBR_y,four_len]; done)] at st
    exact .loopN st ih
def post44_0 (n0:Nat):O44_0→Prop
  |.k0 w0 _ _=>length w0=n0
theorem z44_0 {a0:K_iiiiLiLiiLiEELiLiEEE}:∀(y0:List K_iLiiLiEELiLiEE) (i:Int) (v0:List Int),post44_0 (length v0+length y0) (r44_0 a0 y0 i v0)
  |[],i,v0=>by
    first | trivial |(simp only[post44_0,length_nil,Nat.add_zero]; done) |(simp[post44_0]; done)
  |x0::y0,i,v0=>by
    simp only[r44_0]
    have z:=z44_0 (a0:=a0) y0 (i+1) (v0++([(m82 (m83 x0 false))]))
    rw[show (length v0+length (x0::y0))=(length (v0++([(m82 (m83 x0 false))]))+length y0) from by first | omega |(simp only[length_map,length_set,length_append,length_replicate,length_cons,length_nil]; done) |(simp only[length_map,length_set,length_append,length_replicate,length_cons,length_nil]; omega)]
    exact z
theorem ls44 {a:K_iiiiLiLiiLiEELiLiEEE}:∀ {l:List K_iLiiLiEELiLiEE} {i:Int} {v w:List Int} {j b},r44_0 a l i v=.k0 w j b→w.length=v.length+l.length
  |[],i,v,w,j,b,h=>by simp only[r44_0] at h; injection h with h; subst h; simp
  |x::l,i,v,w,j,b,h=>by
    simp only[r44_0] at h
    have q:=ls44 h
    simp only[length_append,length_cons,length_nil] at q⊢; omega
/-! loop.example/g00539/spec.l6Sums -/
def m44 (a0:K_iiiiLiLiiLiEELiLiEEE):(List Int):=
  (match r44_0 a0 a0.f4 0 ([]) with | .k0 w0_0 w1_0 w2_0=>w0_0)
theorem e44 {l0:Nat} {a0:K_iiiiLiLiiLiEELiLiEEE} (hy0:length a0.f4*56≤140737488351232) (hy1:∀z∈a0.f4,ok_iLiiLiEELiLiEE z) (hy2:length a0.f4≤4) (hy3:∀z∈a0.f4,SmT z):Ev F X (.call 44 [(.bptr l0 (b_iiiiLiLiiLiEELiLiEEE a0))] [] [] [(.one (.own 1 (map d_i (m44 a0))))]):=by
  unfold m44
  cases h0:r44_0 a0 a0.f4 0 ([]) with
  |k0 w0_0 w1_0 w2_0=>
    try dsimp only
    have zh0:=z44_0 (a0:=a0) a0.f4 0 ([]); rw[h0] at zh0; simp only[post44_0,length_map,length_set,length_append,length_replicate,length_cons,length_nil,Int.toNat_natCast] at zh0
    have f0:(⟨[(0,(.bptr l0 (b_iiiiLiLiiLiEELiLiEEE a0))),(3,(.one (.ref ⟨(3,0,0),[],0,0⟩))),(4,(.oi 0))],[((3,0,0),.live ⟨1,[],[]⟩)]⟩:St)=h44_0 l0 a0 0 ([]):=(by rfl)
    exact cp (by kernel_rfl) (.f f0 (.f (ev_ (e:=ex44_0) (g:=(fin44_0 l0 a0)) h0 (t44_0 (l0:=l0) (a0:=a0) (by assumption) (by assumption) (by assumption) (by assumption) a0.f4 [] ([]) rfl (by simp only[length_map,length_append,length_take,length_drop,length_cons,length_nil,List.length_flatten,List.map_cons,List.map_nil,List.sum_cons,List.sum_nil] at*; omega) (by simp only[length_map,length_append,length_take,length_drop,length_cons,length_nil,List.length_flatten,List.map_cons,List.map_nil,List.sum_cons,List.sum_nil] at*; omega))) (pe 0 (pe (length (map d_i w0_0)) (.f (pureR_i w0_0) (.h 8 (.loop (h44_0 l0 a0 0 ([])) (.exit 0) ⟨[(0,(.bptr l0 (b_iiiiLiLiiLiEELiLiEEE a0))),(3,(.one (.ref ⟨(3,0,0),[],0,(length (map d_i w0_0))⟩))),(4,(.one (.val (.int .i64 w1_0)))),(12,(.one (.val (.bool w2_0))))],[((3,0,0),.live ⟨1,(map d_i w0_0),[]⟩)]⟩) .nil))))))
theorem ln44 (a:K_iiiiLiLiiLiEELiLiEEE):length (m44 a)=length a.f4:=by
  unfold m44
  cases h:r44_0 a a.f4 0 [] with
  |k0 w j b=>
    have q:=ls44 h
    show w.length=_
    simpa using q
/-! loop 28_0 -/
inductive O28_0 where
  |k0 (w0:Int) (w1:Bool)
  |k1 (w0:Int)
def r28_0 (a0:K_iiiiLiLiiLiEELiLiEEE):List K_iLiiLiEELiLiEE→Int→O28_0
  |x0::y0,i=>
    if((m41 x0) !=0)=true then(O28_0.k1 (m41 x0)) else
    (r28_0 a0 y0 (i+1))
  |[],i=>(O28_0.k0 i (decide (i <((length (map b_iLiiLiEELiLiEE a0.f4)):Int))))
def h28_0 (l0:Nat) (a0:K_iiiiLiLiiLiEELiLiEEE) (i:Int) :St:=⟨[(0,(.bptr l0 (b_iiiiLiLiiLiEELiLiEEE a0))),(3,(.one (.val (.int .i64 i))))],[]⟩
def ex28_0:O28_0→VX.Exit
  |.k0 _ _=>(.exit 0)
  |.k1 _=>.ret
def fin28_0 (l0:Nat) (a0:K_iiiiLiLiiLiEELiLiEEE):O28_0→St
  |.k0 w0 w1=>⟨[(0,(.bptr l0 (b_iiiiLiLiiLiEELiLiEEE a0))),(3,(.one (.val (.int .i64 w0)))),(55,(.one (.val (.bool w1))))],[]⟩
  |.k1 w0=>⟨[(2,(.one (.val (.int .i64 w0))))],[]⟩
theorem t28_0 {l0:Nat} {a0:K_iiiiLiLiiLiEELiLiEEE} (hy0:length a0.f4*56≤140737488351232) (hy1:∀z∈a0.f4,ok_iLiiLiEELiLiEE z):∀(y0:List K_iLiiLiEELiLiEE) (p:List K_iLiiLiEELiLiEE),p++y0=a0.f4→Ev F X (.code l28_0 (h28_0 l0 a0 (length p:Int)) (ex28_0 (r28_0 a0 y0 (length p:Int))) (fin28_0 l0 a0 (r28_0 a0 y0 (length p:Int))))
  |[],p,hp0=>by
    have hc:¬(decide ((length p:Int) <((length (map b_iLiiLiEELiLiEE a0.f4)):Int)))=true:=by
      rw[← hp0]; simp only[length_map,length_set,length_append,length_replicate,length_cons,length_nil,decide_eq_true_eq]; omega
    have st:=ch b28_0 (h28_0 l0 a0 (length p:Int)) ⟨[(0,(.bptr l0 (b_iiiiLiLiiLiEELiLiEEE a0))),(3,(.oi (length p:Int))),(55,(.one (.val (.bool (decide ((length p:Int) <((length (map b_iLiiLiEELiLiEE a0.f4)):Int)))))))],[]⟩ (.exit 0) 15 (by kernel_rfl) (.f (nt hc) (.h 14 (.b false) .nil))
    rw[show (⟨[(0,(.bptr l0 (b_iiiiLiLiiLiEELiLiEEE a0))),(3,(.oi (length p:Int))),(55,(.one (.val (.bool (decide ((length p:Int) <((length (map b_iLiiLiEELiLiEE a0.f4)):Int)))))))],[]⟩:St)=fin28_0 l0 a0 (.k0 (length p:Int) (decide ((length p:Int) <((length (map b_iLiiLiEELiLiEE a0.f4)):Int)))) from(by rfl)] at st
    exact .loopX st (show ((.exit 0):VX.Exit)≠.normal from by simp)
  |x0::y0,p,hp0=>by
    have hc:(decide ((length p:Int) <((length (map b_iLiiLiEELiLiEE a0.f4)):Int)))=true:=by
      rw[← hp0]; simp only[length_map,length_set,length_append,length_replicate,length_cons,length_nil,decide_eq_true_eq]; omega
    have Hx0:(a0.f4)[toNat (length p:Int)]?=some x0:=by
      rw[← hp0,Int.toNat_natCast]; simp
    obtain⟨Mx0_0,Mx0_1,Mx0_2,Mx0_3⟩:=hy1 x0 (List.mem_of_getElem? Hx0)
    have hlen:length (a0.f4)=length p+length y0+1:=by rw[← hp0]; simp; omega
    have hw:wrap .i64 ((length p:Int)+1)=(length p:Int)+1:=wrap64 (by omega)
    simp only[r28_0]
    have f1:0≤(length p:Int):=(by omega)
    have P1 {hs q} (r:PS F X hs q):=(PS.f hc (.f f1 (.f (mp_ b_iLiiLiEELiLiEE Hx0) (.h 14 (.b true) (.h 26 (.row (b_iLiiLiEELiLiEE x0)) (.r 28 [] [] (e41 (l0:=(l0+1)) (a0:=x0) ‹_› ‹_› ‹_› ‹_›) r))))))
    by_cases h_1:((m41 x0) !=0)=true
    · try simp only[if_pos h_1]
      have st:=ch b28_0 (h28_0 l0 a0 (length p:Int)) ⟨[(2,(.oi (m41 x0)))],[]⟩ .ret 40 (by kernel_rfl) (P1 (.f h_1 (.h 35 (.b true) .nil)))
      rw[show (⟨[(2,(.oi (m41 x0)))],[]⟩:St)=fin28_0 l0 a0 (.k1 (m41 x0)) from(by rfl)] at st
      exact .loopX st (show (.ret:VX.Exit)≠.normal from by simp)
    · try simp only[if_neg h_1]
      have st:=ch b28_0 (h28_0 l0 a0 (length p:Int)) ⟨[(0,(.bptr l0 (b_iiiiLiLiiLiEELiLiEEE a0))),(3,(.oi (wrap .i64 ((length p:Int)+1))))],[]⟩ .normal 42 (by kernel_rfl) (P1 (.f (nt h_1) (.f trivial (.h 35 (.b false) .nil))))
      have ih:=t28_0 (l0:=l0) (a0:=a0) hy0 hy1 y0 (p++ [x0]) (by rw[append_assoc]; exact hp0)
      rw[show ((p++ [x0]).length:Int)=(p.length:Int)+1 from by simp] at ih
      rw[show (⟨[(0,(.bptr l0 (b_iiiiLiLiiLiEELiLiEEE a0))),(3,(.oi (wrap .i64 ((length p:Int)+1))))],[]⟩:St)=h28_0 l0 a0 ((length p:Int)+1)  from(by unfold h28_0; simp only[hw]; done)] at st
      exact .loopN st ih
theorem lb28 {a:K_iiiiLiLiiLiEELiLiEEE}:∀ {l:List K_iLiiLiEELiLiEE} {i:Int} {j b},r28_0 a l i=.k0 j b→∀x∈l,m41 x=0
  |[],i,j,b,h,x,hx=>by cases hx
  |y::l,i,j,b,h,x,hx=>by
    simp only[r28_0] at h
    split at h
    · cases h
    · rename_i h1
      rcases List.mem_cons.1 hx with rfl | hx
      · simpa using h1
      · exact lb28 h x hx
theorem ne28 {a:K_iiiiLiLiiLiEELiLiEEE}:∀(l:List K_iLiiLiEELiLiEE) (i:Int),r28_0 a l i≠.k1 0
  |[],i=>by simp only[r28_0]; intro h; cases h
  |y::l,i=>by
    simp only[r28_0]
    split
    · rename_i h; intro q; injection q with q; rw[q] at h; exact absurd h (by decide)
    · exact ne28 l _
/-! loop.example/g00539/spec.l6Fault -/
def m28 (a0:K_iiiiLiLiiLiEELiLiEEE):Int:=
  if(!(m27 a0.f0 0 2147483646))=true then 3 else
  if(!(m27 a0.f1 1 99999))=true then 3 else
    if(!(m40 a0.f2))=true then 3 else
      if(!(m27 a0.f3 0 65535))=true then 3 else
        if(decide (((length (map b_iLiiLiEELiLiEE a0.f4)):Int) < 1))=true then 2 else
          if(decide (((length (map b_iLiiLiEELiLiEE a0.f4)):Int) > 4))=true then 2 else
            (match r28_0 a0 a0.f4 0 with | .k0 w0_34 w1_34=>(if(!(m42 a0))=true then 1 else if(m43 (m44 a0))=true then 6 else 0) | .k1 w0_34=>w0_34)
theorem e28 {l0:Nat} {a0:K_iiiiLiLiiLiEELiLiEEE} (hy0:length a0.f4*56≤140737488351232) (hy1:∀z∈a0.f4,ok_iLiiLiEELiLiEE z):Ev F X (.call 28 [(.bptr l0 (b_iiiiLiLiiLiEELiLiEEE a0))] [] [] [(.one (.val (.int .i64 (m28 a0))))]):=by
  unfold m28
  have P0 {hs q} (r:PS F X hs q):=(PS.r 11 [] [] (e39 (a0:=a0.f0)) r)
  by_cases h0:(!(m27 a0.f0 0 2147483646))=true
  · try simp only[if_pos h0]
    exact cp (by kernel_rfl) (P0 (.f h0 (.f h0 (.f h0 (.f h0 (.f h0 (.f h0 (.f h0 (.h 16 (.b true) (.h 18 (.b true) (.h 20 (.b true) (.h 22 (.b true) (.h 24 (.b true) (.h 26 (.b true) (.h 29 (.b true) .nil)))))))))))))))
  · try simp only[if_neg h0]
    have P1 {hs q} (r:PS F X hs q):=(P0 (.f (nt h0) (.f (nt h0) (.f (nt h0) (.f (nt h0) (.f (nt h0) (.h 16 (.b false) (.h 18 (.b false) (.h 20 (.b false) (.h 22 (.b false) (.h 24 (.b false) (.r 25 [] [] (e27 (a0:=a0.f1) (a1:=1) (a2:=99999)) (.f (nt h0) (.f (nt h0) (.h 26 (.b false) (.h 29 (.b false) r))))))))))))))))
    by_cases h1:(!(m27 a0.f1 1 99999))=true
    · try simp only[if_pos h1]
      exact cp (by kernel_rfl) (P1 (.f h1 (.f h1 (.f h1 (.f h1 (.f h1 (.f h1 (.f h1 (.h 32 (.b true) (.h 34 (.b true) (.h 36 (.b true) (.h 38 (.b true) (.h 40 (.b true) (.h 42 (.b true) (.h 45 (.b true) .nil)))))))))))))))
    · try simp only[if_neg h1]
      have P2 {hs q} (r:PS F X hs q):=(P1 (.f (nt h1) (.f (nt h1) (.f (nt h1) (.f (nt h1) (.f (nt h1) (.h 32 (.b false) (.h 34 (.b false) (.h 36 (.b false) (.h 38 (.b false) (.h 40 (.b false) (.r 41 [] [] (e40 (a0:=a0.f2)) (.f (nt h1) (.f (nt h1) (.h 42 (.b false) (.h 45 (.b false) r))))))))))))))))
      by_cases h2:(!(m40 a0.f2))=true
      · try simp only[if_pos h2]
        exact cp (by kernel_rfl) (P2 (.f h2 (.f h2 (.f h2 (.f h2 (.f h2 (.f h2 (.f h2 (.h 48 (.b true) (.h 50 (.b true) (.h 52 (.b true) (.h 54 (.b true) (.h 56 (.b true) (.h 58 (.b true) (.h 61 (.b true) .nil)))))))))))))))
      · try simp only[if_neg h2]
        have P3 {hs q} (r:PS F X hs q):=(P2 (.f (nt h2) (.f (nt h2) (.f (nt h2) (.f (nt h2) (.f (nt h2) (.h 48 (.b false) (.h 50 (.b false) (.h 52 (.b false) (.h 54 (.b false) (.h 56 (.b false) (.r 57 [] [] (e27 (a0:=a0.f3) (a1:=0) (a2:=65535)) (.f (nt h2) (.f (nt h2) (.h 58 (.b false) (.h 61 (.b false) r))))))))))))))))
        by_cases h3:(!(m27 a0.f3 0 65535))=true
        · try simp only[if_pos h3]
          exact cp (by kernel_rfl) (P3 (.f h3 (.h 62 (.b true) .nil)))
        · try simp only[if_neg h3]
          have P4 {hs q} (r:PS F X hs q):=(P3 (.f (nt h3) (.h 62 (.b false) r)))
          by_cases h4:(decide (((length (map b_iLiiLiEELiLiEE a0.f4)):Int) < 1))=true
          · try simp only[if_pos h4]
            exact cp (by kernel_rfl) (P4 (.f h4 (.f h4 (.f h4 (.f h4 (.f h4 (.f h4 (.f h4 (.h 77 (.b true) (.h 79 (.b true) (.h 81 (.b true) (.h 83 (.b true) (.h 85 (.b true) (.h 87 (.b true) (.h 90 (.b true) .nil)))))))))))))))
          · try simp only[if_neg h4]
            have P5 {hs q} (r:PS F X hs q):=(P4 (.f (nt h4) (.f (nt h4) (.f (nt h4) (.f (nt h4) (.f (nt h4) (.f (nt h4) (.f (nt h4) (.h 77 (.b false) (.h 79 (.b false) (.h 81 (.b false) (.h 83 (.b false) (.h 85 (.b false) (.h 87 (.b false) (.h 90 (.b false) r)))))))))))))))
            by_cases h5:(decide (((length (map b_iLiiLiEELiLiEE a0.f4)):Int) > 4))=true
            · try simp only[if_pos h5]
              exact cp (by kernel_rfl) (P5 (.f h5 (.h 91 (.b true) .nil)))
            · try simp only[if_neg h5]
              have P6 {hs q} (r:PS F X hs q):=(P5 (.f (nt h5) (.h 91 (.b false) r)))
              cases h6:r28_0 a0 a0.f4 0 with
              |k0 w0_34 w1_34=>
                try dsimp only
                have f34:(⟨[(0,(.bptr l0 (b_iiiiLiLiiLiEELiLiEEE a0))),(3,(.oi 0))],[]⟩:St)=h28_0 l0 a0 0 :=(by rfl)
                have P7 {hs q} (r:PS F X hs q):=(P6 (.f f34 (.f (ev_ (e:=ex28_0) (g:=(fin28_0 l0 a0)) h6 (t28_0 (l0:=l0) (a0:=a0) (by assumption) (by assumption) a0.f4 []  rfl)) (.h 94 (.loop (h28_0 l0 a0 0) (.exit 0) ⟨[(0,(.bptr l0 (b_iiiiLiLiiLiEELiLiEEE a0))),(3,(.one (.val (.int .i64 w0_34)))),(55,(.one (.val (.bool w1_34))))],[]⟩) (.r 98 [] [] (e42 (l0:=(l0+1)) (a0:=a0) ‹_› ‹_›) r)))))
                by_cases h7:(!(m42 a0))=true
                · try simp only[if_pos h7]
                  exact cp (by kernel_rfl) (P7 (.f h7 (.h 101 (.b true) .nil)))
                · try simp only[if_neg h7]
                  have f40:Ev F X (.call 43 [(.one (.ref ⟨(0,0,0),[],0,(length (map d_i (m44 a0)))⟩))] [((0,0,0),⟨1,(map d_i (m44 a0)),[]⟩)] [] [(.one (.val (.bool (m43 (m44 a0)))))]):=(e43 (a0:=(m44 a0)) (by rw[ln44]; simp only[decide_eq_true_eq,length_map] at*; omega))
                  have P8 {hs q} (r:PS F X hs q):=(P7 (.f (nt h7) (.h 101 (.b false) (.r 105 [] [] (e44 (l0:=(l0+1)) (a0:=a0) ‹_› ‹_› (by simp only[decide_eq_true_eq,length_map] at*; omega) (by exact fun z hz=>ft41 (lb28 ‹_› z hz))) (.f (pureR_i (m44 a0)) (.r 107 [true] [] f40 r))))))
                  by_cases h8:(m43 (m44 a0))=true
                  · try simp only[if_pos h8]
                    exact cp (by kernel_rfl) (P8 (.f h8 (.h 108 (.b true) .nil)))
                  · try simp only[if_neg h8]
                    exact cp (by kernel_rfl) (P8 (.f (nt h8) (.h 108 (.b false) .nil)))
              |k1 w0_34=>
                try dsimp only
                have f34:(⟨[(0,(.bptr l0 (b_iiiiLiLiiLiEELiLiEEE a0))),(3,(.oi 0))],[]⟩:St)=h28_0 l0 a0 0 :=(by rfl)
                exact cp (by kernel_rfl) (P6 (.f f34 (.f (ev_ (e:=ex28_0) (g:=(fin28_0 l0 a0)) h6 (t28_0 (l0:=l0) (a0:=a0) (by assumption) (by assumption) a0.f4 []  rfl)) (.h 94 (.loop (h28_0 l0 a0 0) .ret ⟨[(2,(.one (.val (.int .i64 w0_34))))],[]⟩) .nil))))
theorem bs28 {a:K_iiiiLiLiiLiEELiLiEEE} (h:m28 a=0):1≤length a.f4∧length a.f4≤4∧∀z∈a.f4,SmT z:=by
  unfold m28 at h
  iterate 6 (split at h; exact absurd h (by decide))
  rename_i c1 c2
  simp only[decide_eq_true_eq,length_map] at c1 c2
  cases hr:r28_0 a a.f4 0 with
  |k1 w=>rw[hr] at h; simp only[] at h; subst h; exact absurd hr (ne28 _ _)
  |k0 j b=>exact⟨by omega,by omega,fun z hz=>ft41 (lb28 hr z hz)⟩
/-! loop.example/g00539/spec.l11One -/
def m16 (a0:K_iiiiiLiLiiLiEELiLiEEE):Int:=
  if(!(m27 a0.f0 0 9999))=true then 3 else
  if((m28 (K_iiiiLiLiiLiEELiLiEEE.mk a0.f1 a0.f2 a0.f3 a0.f4 a0.f5)) !=0)=true then(m28 (K_iiiiLiLiiLiEELiLiEEE.mk a0.f1 a0.f2 a0.f3 a0.f4 a0.f5)) else
    if(((length (map b_iLiE ((getD a0.f5 0 (K_iLiiLiEELiLiEE.mk 0 [] [])).f2))):Int) !=2)=true then 1 else
      0
theorem e16 {l0:Nat} {a0:K_iiiiiLiLiiLiEELiLiEEE} (hy0:length a0.f5*56≤140737488351232) (hy1:∀z∈a0.f5,ok_iLiiLiEELiLiEE z):Ev F X (.call 16 [(.bptr l0 (b_iiiiiLiLiiLiEELiLiEEE a0))] [] [] [(.one (.val (.int .i64 (m16 a0))))]):=by
  unfold m16
  have P0 {hs q} (r:PS F X hs q):=(PS.r 11 [] [] (e27 (a0:=a0.f0) (a1:=0) (a2:=9999)) r)
  by_cases h0:(!(m27 a0.f0 0 9999))=true
  · try simp only[if_pos h0]
    exact cp (by kernel_rfl) (P0 (.f h0 (.h 14 (.b true) .nil)))
  · try simp only[if_neg h0]
    have P1 {hs q} (r:PS F X hs q):=(P0 (.f (nt h0) (.h 14 (.b false) (.r 22 [] [] (e28 (l0:=(l0+1)) (a0:=(K_iiiiLiLiiLiEELiLiEEE.mk a0.f1 a0.f2 a0.f3 a0.f4 a0.f5)) ‹_› ‹_›) r))))
    by_cases h1:((m28 (K_iiiiLiLiiLiEELiLiEEE.mk a0.f1 a0.f2 a0.f3 a0.f4 a0.f5)) !=0)=true
    · try simp only[if_pos h1]
      exact cp (by kernel_rfl) (P1 (.f h1 (.h 29 (.b true) .nil)))
    · try simp only[if_neg h1]
      have f4:0≤(0:Int):=(by omega)
      have P2 {hs q} (r:PS F X hs q):=(P1 (.f (nt h1) (.f f4 (.f (mp_ b_iLiiLiEELiLiEE (getD_at a0.f5 0 (K_iLiiLiEELiLiEE.mk 0 [] []) (by have q:=(bs28 (a:=K_iiiiLiLiiLiEELiLiEEE.mk a0.f1 a0.f2 a0.f3 a0.f4 a0.f5) (by simpa using h1)).1; simp only[length_map] at*; omega))) (.h 29 (.b false) (.h 41 (.row (b_iLiiLiEELiLiEE (getD a0.f5 0 (K_iLiiLiEELiLiEE.mk 0 [] [])))) r))))))
      by_cases h2:(((length (map b_iLiE ((getD a0.f5 0 (K_iLiiLiEELiLiEE.mk 0 [] [])).f2))):Int) !=2)=true
      · try simp only[if_pos h2]
        exact cp (by kernel_rfl) (P2 (.f h2 (.h 50 (.b true) .nil)))
      · try simp only[if_neg h2]
        exact cp (by kernel_rfl) (P2 (.f (nt h2) (.h 50 (.b false) .nil)))
/-! loop 10_0 -/
inductive O10_0 where
  |k0 (w0:Int) (w1:Bool)
  |k1 (w0:Int)
  |k2
def r10_0 (a0:(List K_iiiiiLiLiiLiEELiLiEEE)):List K_iiiiiLiLiiLiEELiLiEEE→Int→O10_0
  |x0::y0,i=>
    if((m16 x0) !=0)=true then(O10_0.k1 (m16 x0)) else
    if (decide (i > 0)) = true then (if (decide (x0.f0 ≤ ((getD a0 (toNat (wrap .i64 (i - 1))) (K_iiiiiLiLiiLiEELiLiEEE.mk 0 0 0 0 0 [])).f0))) = true then (O10_0.k2) else
        (r10_0 a0 y0 (i+1))) else
      (r10_0 a0 y0 (i+1))
  |[],i=>(O10_0.k0 i (decide (i <((length (map b_iiiiiLiLiiLiEELiLiEEE a0)):Int))))
def h10_0 (l0_0:Nat) (a0:(List K_iiiiiLiLiiLiEELiLiEEE)) (i:Int) :St:=⟨[(0,(.one (.bor l0_0 (map b_iiiiiLiLiiLiEELiLiEEE a0)))),(3,(.one (.val (.int .i64 i))))],[]⟩
def ex10_0:O10_0→VX.Exit
  |.k0 _ _=>(.exit 0)
  |.k1 _=>.ret
  |.k2=>.ret
def fin10_0 (l0_0:Nat) (a0:(List K_iiiiiLiLiiLiEELiLiEEE)):O10_0→St
  |.k0 w0 w1=>⟨[(0,(.one (.bor l0_0 (map b_iiiiiLiLiiLiEELiLiEEE a0)))),(3,(.one (.val (.int .i64 w0)))),(11,(.one (.val (.bool w1))))],[]⟩
  |.k1 w0=>⟨[(2,(.one (.val (.int .i64 w0))))],[]⟩
  |.k2=>⟨[(2,(.one (.val (.int .i64 1))))],[]⟩
theorem t10_0 {l0_0:Nat} {a0:(List K_iiiiiLiLiiLiEELiLiEEE)} (hy0:length a0*64≤140737488351232) (hy1:∀z∈a0,ok_iiiiiLiLiiLiEELiLiEEE z):∀(y0:List K_iiiiiLiLiiLiEELiLiEEE) (p:List K_iiiiiLiLiiLiEELiLiEEE),p++y0=a0→Ev F X (.code l10_0 (h10_0 l0_0 a0 (length p:Int)) (ex10_0 (r10_0 a0 y0 (length p:Int))) (fin10_0 l0_0 a0 (r10_0 a0 y0 (length p:Int))))
  |[],p,hp0=>by
    have hc:¬(decide ((length p:Int) <((length (map b_iiiiiLiLiiLiEELiLiEEE a0)):Int)))=true:=by
      rw[← hp0]; simp only[length_map,length_set,length_append,length_replicate,length_cons,length_nil,decide_eq_true_eq]; omega
    have st:=ch b10_0 (h10_0 l0_0 a0 (length p:Int)) ⟨[(0,(.one (.bor l0_0 (map b_iiiiiLiLiiLiEELiLiEEE a0)))),(3,(.oi (length p:Int))),(11,(.one (.val (.bool (decide ((length p:Int) <((length (map b_iiiiiLiLiiLiEELiLiEEE a0)):Int)))))))],[]⟩ (.exit 0) 9 (by kernel_rfl) (.f (nt hc) (.h 8 (.b false) .nil))
    rw[show (⟨[(0,(.one (.bor l0_0 (map b_iiiiiLiLiiLiEELiLiEEE a0)))),(3,(.oi (length p:Int))),(11,(.one (.val (.bool (decide ((length p:Int) <((length (map b_iiiiiLiLiiLiEELiLiEEE a0)):Int)))))))],[]⟩:St)=fin10_0 l0_0 a0 (.k0 (length p:Int) (decide ((length p:Int) <((length (map b_iiiiiLiLiiLiEELiLiEEE a0)):Int)))) from(by rfl)] at st
    exact .loopX st (show ((.exit 0):VX.Exit)≠.normal from by simp)
  |x0::y0,p,hp0=>by
    have hc:(decide ((length p:Int) <((length (map b_iiiiiLiLiiLiEELiLiEEE a0)):Int)))=true:=by
      rw[← hp0]; simp only[length_map,length_set,length_append,length_replicate,length_cons,length_nil,decide_eq_true_eq]; omega
    have Hx0:(a0)[toNat (length p:Int)]?=some x0:=by
      rw[← hp0,Int.toNat_natCast]; simp
    obtain⟨Mx0_0,Mx0_1⟩:=hy1 x0 (List.mem_of_getElem? Hx0)
    have hlen:length (a0)=length p+length y0+1:=by rw[← hp0]; simp; omega
    have hw:wrap .i64 ((length p:Int)+1)=(length p:Int)+1:=wrap64 (by omega)
    simp only[r10_0]
    have f1:0≤(length p:Int):=(by omega)
    have P1 {hs q} (r:PS F X hs q):=(PS.f hc (.f f1 (.f (mp_ b_iiiiiLiLiiLiEELiLiEEE Hx0) (.h 8 (.b true) (.h 14 (.row (b_iiiiiLiLiiLiEELiLiEEE x0)) (.r 16 [] [] (e16 (l0:=(l0_0+1)) (a0:=x0) ‹_› ‹_›) r))))))
    by_cases h_1:((m16 x0) !=0)=true
    · try simp only[if_pos h_1]
      have st:=ch b10_0 (h10_0 l0_0 a0 (length p:Int)) ⟨[(2,(.oi (m16 x0)))],[]⟩ .ret 28 (by kernel_rfl) (P1 (.f h_1 (.h 23 (.b true) .nil)))
      rw[show (⟨[(2,(.oi (m16 x0)))],[]⟩:St)=fin10_0 l0_0 a0 (.k1 (m16 x0)) from(by rfl)] at st
      exact .loopX st (show (.ret:VX.Exit)≠.normal from by simp)
    · try simp only[if_neg h_1]
      have P2 {hs q} (r:PS F X hs q):=(P1 (.f (nt h_1) (.h 23 (.b false) r)))
      by_cases h_2:(decide ((length p:Int) > 0))=true
      · try simp only[if_pos h_2]
        have f16:0≤(wrap .i64 ((length p:Int) - 1)):=(by rw[wrap64 (by omega)]; simp only[decide_eq_true_eq,length_map] at*; omega)
        have P3 {hs q} (r:PS F X hs q):=(P2 (.f h_2 (.f h_2 (.f h_2 (.f f1 (.f (mp_ b_iiiiiLiLiiLiEELiLiEEE Hx0) (.f h_2 (.f h_2 (.f h_2 (.f h_2 (.f h_2 (.f h_2 (.f f16 (.f (mp_ b_iiiiiLiLiiLiEELiLiEEE (getD_at a0 (toNat (wrap .i64 ((length p:Int) - 1))) (K_iiiiiLiLiiLiEELiLiEEE.mk 0 0 0 0 0 []) (by rw[wrap64 (by omega)]; simp only[decide_eq_true_eq,length_map] at*; omega))) (.f h_2 (.f h_2 (.f h_2 (.f h_2 (.h 30 (.b true) (.h 32 (.b true) (.h 34 (.b true) (.h 35 (.row (b_iiiiiLiLiiLiEELiLiEEE x0)) (.h 36 (.b true) (.h 38 (.b true) (.h 40 (.b true) (.h 42 (.b true) (.h 44 (.b true) (.h 46 (.b true) (.h 47 (.row (b_iiiiiLiLiiLiEELiLiEEE (getD a0 (toNat (wrap .i64 ((length p:Int) - 1))) (K_iiiiiLiLiiLiEELiLiEEE.mk 0 0 0 0 0 [])))) (.h 48 (.b true) (.h 50 (.b true) (.h 52 (.b true) (.h 55 (.b true) r)))))))))))))))))))))))))))))))))
        by_cases h_3:(decide (x0.f0≤((getD a0 (toNat (wrap .i64 ((length p:Int) - 1))) (K_iiiiiLiLiiLiEELiLiEEE.mk 0 0 0 0 0 [])).f0)))=true
        · try simp only[if_pos h_3]
          have st:=ch b10_0 (h10_0 l0_0 a0 (length p:Int)) ⟨[(2,(.oi 1))],[]⟩ .ret 59 (by kernel_rfl) (P3 (.f h_3 (.h 56 (.b true) .nil)))
          rw[show (⟨[(2,(.oi 1))],[]⟩:St)=fin10_0 l0_0 a0 (.k2) from(by rfl)] at st
          exact .loopX st (show (.ret:VX.Exit)≠.normal from by simp)
        · try simp only[if_neg h_3]
          have st:=ch b10_0 (h10_0 l0_0 a0 (length p:Int)) ⟨[(0,(.one (.bor l0_0 (map b_iiiiiLiLiiLiEELiLiEEE a0)))),(3,(.oi (wrap .i64 ((length p:Int)+1))))],[]⟩ .normal 63 (by kernel_rfl) (P3 (.f (nt h_3) (.f trivial (.h 56 (.b false) .nil))))
          have ih:=t10_0 (l0_0:=l0_0) (a0:=a0) hy0 hy1 y0 (p++ [x0]) (by rw[append_assoc]; exact hp0)
          rw[show ((p++ [x0]).length:Int)=(p.length:Int)+1 from by simp] at ih
          rw[show (⟨[(0,(.one (.bor l0_0 (map b_iiiiiLiLiiLiEELiLiEEE a0)))),(3,(.oi (wrap .i64 ((length p:Int)+1))))],[]⟩:St)=h10_0 l0_0 a0 ((length p:Int)+1)  from(by unfold h10_0; simp only[hw]; done)] at st
          exact .loopN st ih
      · try simp only[if_neg h_2]
        have st:=ch b10_0 (h10_0 l0_0 a0 (length p:Int)) ⟨[(0,(.one (.bor l0_0 (map b_iiiiiLiLiiLiEELiLiEEE a0)))),(3,(.oi (wrap .i64 ((length p:Int)+1))))],[]⟩ .normal 63 (by kernel_rfl) (P2 (.f (nt h_2) (.f (nt h_2) (.f (nt h_2) (.f (nt h_2) (.f (nt h_2) (.f (nt h_2) (.f (nt h_2) (.f (nt h_2) (.f (nt h_2) (.f (nt h_2) (.f (nt h_2) (.f (nt h_2) (.f (nt h_2) (.f trivial (.h 30 (.b false) (.h 32 (.b false) (.h 34 (.b false) (.h 36 (.b false) (.h 38 (.b false) (.h 40 (.b false) (.h 42 (.b false) (.h 44 (.b false) (.h 46 (.b false) (.h 48 (.b false) (.h 50 (.b false) (.h 52 (.b false) (.h 55 (.b false) .nil))))))))))))))))))))))))))))
        have ih:=t10_0 (l0_0:=l0_0) (a0:=a0) hy0 hy1 y0 (p++ [x0]) (by rw[append_assoc]; exact hp0)
        rw[show ((p++ [x0]).length:Int)=(p.length:Int)+1 from by simp] at ih
        rw[show (⟨[(0,(.one (.bor l0_0 (map b_iiiiiLiLiiLiEELiLiEEE a0)))),(3,(.oi (wrap .i64 ((length p:Int)+1))))],[]⟩:St)=h10_0 l0_0 a0 ((length p:Int)+1)  from(by unfold h10_0; simp only[hw]; done)] at st
        exact .loopN st ih
end Go.Proofs.Ytjgebnhpklkjcaa.JobsFault
