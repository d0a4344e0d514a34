/- What the functions compute. -/
import Derived.Test.YtmdocdnidilaiaaGreatEPutJobB
import Derived.KernelRfl
namespace Go.Proofs.YtmdocdnidilaiaaGreat.PutJob
open Go Go.Proofs.YtmdocdnidilaiaaGreat.V
set_option linter.unusedVariables false
set_option linter.unusedSimpArgs false
set_option maxRecDepth 20000
open Go.IntKind (wrap)
open Int (toNat)
open List (length_replicate length_map length_set length_append length_cons length_nil length_take length_drop take_of_length_le map_take map_drop map_set append_assoc getElem?_map map length take drop getD set)
attribute [local simp] toBR_i fullR_i pureR_i lenB_i lenD_i fromBR_i copy_i toBR_N fullR_N pureR_N lenB_N lenD_N toBR_U fullR_U pureR_U lenB_U lenD_U toBR_T fullR_T pureR_T lenB_T lenD_T toBR_J fullR_J pureR_J lenB_J lenD_J toBR_JL fullR_JL pureR_JL lenB_JL lenD_JL toBR_b fullR_b pureR_b lenB_b lenD_b fromBR_b copy_b toBR_JR fullR_JR pureR_JR lenB_JR lenD_JR toBR_G fullR_G pureR_G lenB_G lenD_G toBR_TL fullR_TL pureR_TL lenB_TL lenD_TL toBR_LiE fullR_LiE pureR_LiE lenB_LiE lenD_LiE toBR_NL fullR_NL pureR_NL lenB_NL lenD_NL toBR_UL fullR_UL pureR_UL lenB_UL lenD_UL strInts_len byteRows_len toBR_y fullR_y pureR_y lenB_y lenD_y fromBR_y copy_y toBR_LyE fullR_LyE pureR_LyE lenB_LyE lenD_LyE toBR_LLyEE fullR_LLyEE pureR_LLyEE lenB_LLyEE lenD_LLyEE
/-! loop 69_0 -/
inductive O69_0 where
  |k0 (w0:List Int) (w1:Bool)
  |k1
def r69_0 :Nat→List Int→O69_0
  |n+1,v0=>
    if(decide (((length (map d_i v0)):Int) > 1))=true then(match r69_1 v0 (toNat ((length v0:Int) - 0)) 0 with | .k0 w0_1 w1_1=>(r69_0 n (m98 v0)) | .k1=>(O69_0.k1)) else
    (O69_0.k0 v0 (decide (((length (map d_i v0)):Int) > 1)))
  |0,v0=>(O69_0.k0 v0 (decide (((length (map d_i v0)):Int) > 1)))
def h69_0 (a0:(List Int)) (v0:List Int):St:=⟨[(3,(.one (.ref ⟨(3,0,0),[],0,(length (map d_i v0))⟩)))],[((3,0,0),.live ⟨1,(map d_i v0),[]⟩)]⟩
def ex69_0:O69_0→VX.Exit
  |.k0 _ _=>(.exit 0)
  |.k1=>.ret
def fin69_0 (a0:(List Int)):O69_0→St
  |.k0 w0 w1=>⟨[(3,(.one (.ref ⟨(3,0,0),[],0,(length (map d_i w0))⟩))),(8,(.one (.val (.bool w1))))],[((3,0,0),.live ⟨1,(map d_i w0),[]⟩)]⟩
  |.k1=>⟨[(2,(.one (.val (.bool true))))],[]⟩
theorem t69_0 {a0:(List Int)} (hy0:length a0≤1000):∀(n:Nat) (v0:List Int),length v0≤1000→length v0≤n→Ev F X (.code l69_0 (h69_0 a0 v0) (ex69_0 (r69_0 n v0)) (fin69_0 a0 (r69_0 n v0)))
  |0,v0,hi0,hn=>by
    have hc:¬(decide (((length (map d_i v0)):Int) > 1))=true:=by first |(simp only[decide_eq_true_eq,length_map]; omega) |(exact fuel64_zero hn) |(simp only[decide_eq_true_eq] at*; omega) |(simp at*; omega)
    exact lx 7 ya (.f (nt hc) (.h 6 (.b false) .nil)) rfl
  |n+1,v0,hi0,hn=>by
    simp only[r69_0]
    by_cases h_0:(decide (((length (map d_i v0)):Int) > 1))=true
    · try simp only[if_pos h_0]
      cases h_1:r69_1 v0 (toNat ((length v0:Int) - 0)) 0 with
      |k0 w0_1 w1_1=>
        try dsimp only
        have f1:=Eq.refl (h69_1 a0 v0 0)
        have ih:=t69_0 (a0:=a0) hy0 n (m98 v0) (by have q:=abl98 v0 yb; omega) (by have q:=abl98 v0 yb; simp only[decide_eq_true_eq,length_map] at h_0; omega)
        exact ly 16 ya (.f h_0 (.f f1 (.f (ev_ (e:=ex69_1) (g:=(fin69_1 a0 v0)) h_1 (t69_1 (a0:=a0) (c0_69_1:=v0) yb (toNat ((length v0:Int) - 0)) 0 yb yb yb (Nat.le_refl _))) (ln_i v0 (.h 6 (.b true) (.h 9 (.loop (h69_1 a0 v0 0) (.exit 2) ⟨[(3,(.one (.ref ⟨(3,0,0),[],0,(length (map d_i v0))⟩))),(4,(.oi w0_1)),(13,(.one (.val (.bool w1_1))))],[((3,0,0),.live ⟨1,(map d_i v0),[]⟩)]⟩) (.r 13 [] [(map b_i v0)] (e98 (l0_0:=0) (a0:=v0) ‹_›) (pe 0 (pe (length (map d_i (m98 v0))) .nil))))))))) ih
      |k1=>
        try dsimp only
        have f1:=Eq.refl (h69_1 a0 v0 0)
        exact lx 10 ya (.f h_0 (.f f1 (.f (ev_ (e:=ex69_1) (g:=(fin69_1 a0 v0)) h_1 (t69_1 (a0:=a0) (c0_69_1:=v0) yb (toNat ((length v0:Int) - 0)) 0 yb yb yb (Nat.le_refl _))) (.h 6 (.b true) (.h 9 (.loop (h69_1 a0 v0 0) .ret ⟨[(2,(.one (.val (.bool true))))],[]⟩) .nil))))) rfl
    · try simp only[if_neg h_0]
      exact lx 7 ya (.f (nt h_0) (.h 6 (.b false) .nil)) rfl
/-! loop.example/g00539/spec.l4Twin -/
def m69 (a0:(List Int)):Bool:=
  (match r69_0 (length a0) a0 with | .k0 w0_0 w1_0=>false | .k1=>true)
theorem e69 {a0:(List Int)} (hy0:length a0≤1000):Ev F X (.call 69 [(.one (.ref ⟨(0,0,0),[],0,(length (map d_i a0))⟩))] [((0,0,0),⟨1,(map d_i a0),[]⟩)] [] [(.one (.val (.bool (m69 a0))))]):=by
  unfold m69
  cases h0:r69_0 (length a0) a0 with
  |k0 w0_0 w1_0=>
    try dsimp only
    have f2:=Eq.refl (h69_0 a0 a0)
    exact cq [] ya (pe 0 (pe (length (map d_i a0)) (.f f2 (.f (ev_ (e:=ex69_0) (g:=(fin69_0 a0)) h0 (t69_0 (a0:=a0) (by assumption) (length a0) a0 yb (Nat.le_refl _))) (.h 6 (.loop (h69_0 a0 a0) (.exit 0) ⟨[(3,(.one (.ref ⟨(3,0,0),[],0,(length (map d_i w0_0))⟩))),(8,(.one (.val (.bool w1_0))))],[((3,0,0),.live ⟨1,(map d_i w0_0),[]⟩)]⟩) .nil)))))
  |k1=>
    try dsimp only
    have f2:=Eq.refl (h69_0 a0 a0)
    exact cq [] ya (pe 0 (pe (length (map d_i a0)) (.f f2 (.f (ev_ (e:=ex69_0) (g:=(fin69_0 a0)) h0 (t69_0 (a0:=a0) (by assumption) (length a0) a0 yb (Nat.le_refl _))) (.h 6 (.loop (h69_0 a0 a0) .ret ⟨[(2,(.one (.val (.bool true))))],[]⟩) .nil)))))
/-! loop.example/g00539/spec.l3Put -/
def m151 (a0:Int):(List Int):=
  if(decide (a0 < 253))=true then[(wrap .u8 (a0))] else
  [253,(wrap .u8 ((Int.tmod a0 256))),(wrap .u8 ((wrap .i64 (Int.tdiv a0 256))))]
theorem e151 {a0:Int}:Ev F X (.call 151 [(.one (.val (.int .i64 a0)))] [] [] [(.one (.own 1 (map d_y (m151 a0))))]):=by
  unfold m151
  by_cases h0:(decide (a0 < 253))=true
  · try simp only[if_pos h0]
    have f3:pureR [[(.val (.int .u8 (wrap .u8 (a0))))]]=true:=yi
    exact cp ya (.f h0 (pe 0 (pe 1 (.f f3 (.h 6 (.b true) .nil)))))
  · try simp only[if_neg h0]
    have f1:(256:Int)≠0:=yb
    have f5:pureR [[(.val (.int .u8 253))],[(.val (.int .u8 (wrap .u8 ((Int.tmod a0 256)))))],[(.val (.int .u8 (wrap .u8 ((wrap .i64 (Int.tdiv a0 256))))))]]=true:=yi
    exact cp ya (.f (nt h0) (.f f1 (.f f1 (pe 0 (pe 3 (.f f5 (.h 6 (.b false) .nil)))))))
theorem pl151 (a:Int):length (m151 a)≤3:=by
  unfold m151; split<;>simp
/-! loop.example/g00539/spec.l3Big -/
def m152 (a0:Int):(List Int):=
  ((m151 (Int.tmod a0 65536))++(m151 (wrap .i64 (Int.tdiv a0 65536))))
theorem e152 {a0:Int}:Ev F X (.call 152 [(.one (.val (.int .i64 a0)))] [] [] [(.one (.own 1 (map d_y (m152 a0))))]):=by
  have f0:(65536:Int)≠0:=yb
  have f4:0+(length (map d_y (m151 (Int.tmod a0 65536))))≤(length (map d_y (m151 (Int.tmod a0 65536)))):=yb
  have f5:0+(length (map d_y (m151 (wrap .i64 (Int.tdiv a0 65536)))))≤(length (map d_y (m151 (wrap .i64 (Int.tdiv a0 65536))))):=yb
  have f6:((take (length (map d_y (m151 (wrap .i64 (Int.tdiv a0 65536))))) (drop 0 (map d_y (m151 (wrap .i64 (Int.tdiv a0 65536)))))).all fun x=>x.all copyable)=true:=(ct_y _ _ _)
  have f7:(length ((take (length (map d_y (m151 (Int.tmod a0 65536)))) (drop 0 (map d_y (m151 (Int.tmod a0 65536)))))++(take (length (map d_y (m151 (wrap .i64 (Int.tdiv a0 65536))))) (drop 0 (map d_y (m151 (wrap .i64 (Int.tdiv a0 65536))))))))*1≤70368744177664:=(by unfold m151;(repeat' split)<;>simp_all<;>omega)
  have f8:∀r∈((take (length (map d_y (m151 (wrap .i64 (Int.tdiv a0 65536))))) (drop 0 (map d_y (m151 (wrap .i64 (Int.tdiv a0 65536)))))):List (List D)),r.length=1:=yd
  have f9:((take (length (map d_y (m151 (Int.tmod a0 65536)))) (drop 0 (map d_y (m151 (Int.tmod a0 65536)))))++(take (length (map d_y (m151 (wrap .i64 (Int.tdiv a0 65536))))) (drop 0 (map d_y (m151 (wrap .i64 (Int.tdiv a0 65536)))))))=(map d_y ((m151 (Int.tmod a0 65536))++(m151 (wrap .i64 (Int.tdiv a0 65536))))):=yn
  have f11:(length ((take (length (map d_y (m151 (Int.tmod a0 65536)))) (drop 0 (map d_y (m151 (Int.tmod a0 65536)))))++(take (length (map d_y (m151 (wrap .i64 (Int.tdiv a0 65536))))) (drop 0 (map d_y (m151 (wrap .i64 (Int.tdiv a0 65536))))))))=(length (map d_y ((m151 (Int.tmod a0 65536))++(m151 (wrap .i64 (Int.tdiv a0 65536)))))):=yi
  exact cp ya (.f f0 (.r 7 [] [] (e151 (a0:=(Int.tmod a0 65536))) (.f f0 (.r 13 [] [] (e151 (a0:=(wrap .i64 (Int.tdiv a0 65536)))) (.f f4 (.f f5 (.f f6 (.f f7 (.f f8 (.f f9 (pe 0 (.f f11 (.f (pureR_y ((m151 (Int.tmod a0 65536))++(m151 (wrap .i64 (Int.tdiv a0 65536))))) (.h 15 (.b true) (.h 18 (.norm (2,0,0) (map d_y ((m151 (Int.tmod a0 65536))++(m151 (wrap .i64 (Int.tdiv a0 65536)))))) .nil)))))))))))))))
theorem pb152 (a:Int):length (m152 a)≤6:=by
  unfold m152; rw[length_append]
  exact Nat.add_le_add (pl151 _) (pl151 _)
/-! loop 153_0 -/
inductive O153_0 where
  |k0 (w0:List Int) (w1:Int) (w2:Bool)
def r153_0 (a0:(List Int)):List Int→Int→List Int→O153_0
  |x0::y0,i,v0=>
    (r153_0 a0 y0 (i+1) (v0++(m151 x0)))
  |[],i,v0=>(O153_0.k0 v0 i (decide (i <((length (map b_i a0)):Int))))
def h153_0 (l0_0:Nat) (a0:(List Int)) (i:Int) (v0:List Int):St:=⟨[(0,(.one (.bor l0_0 (map b_i a0)))),(3,(.one (.ref ⟨(3,0,0),[],0,(length (map d_y v0))⟩))),(4,(.one (.val (.int .i64 i))))],[((3,0,0),.live ⟨1,(map d_y v0),[]⟩)]⟩
def ex153_0:O153_0→VX.Exit
  |.k0 _ _ _=>(.exit 0)
def fin153_0 (l0_0:Nat) (a0:(List Int)):O153_0→St
  |.k0 w0 w1 w2=>⟨[(0,(.one (.bor l0_0 (map b_i a0)))),(3,(.one (.ref ⟨(3,0,0),[],0,(length (map d_y w0))⟩))),(4,(.one (.val (.int .i64 w1)))),(11,(.one (.val (.bool w2))))],[((3,0,0),.live ⟨1,(map d_y w0),[]⟩)]⟩
theorem t153_0 {l0_0:Nat} {a0:(List Int)} (hy0:length a0≤1000):∀(y0:List Int) (p:List Int) (v0:List Int),p++y0=a0→length v0+3*length y0≤3003→Ev F X (.code l153_0 (h153_0 l0_0 a0 (length p:Int) v0) (ex153_0 (r153_0 a0 y0 (length p:Int) v0)) (fin153_0 l0_0 a0 (r153_0 a0 y0 (length p:Int) v0)))
  |[],p,v0,hp0,hi0=>by
    have hc:=hcn b_i hp0
    have hj0:=hi0; try simp only[LN,Int.toNat_natCast] at hj0
    exact lx 9 ya (.f (nt hc) (.h 8 (.b false) .nil)) rfl
  |x0::y0,p,v0,hp0,hi0=>by
    have hc:=hcy b_i hp0
    have Hx0:=hxy hp0
    have hlen:=hly hp0
    have hw:wrap .i64 ((length p:Int)+1)=(length p:Int)+1:=wrap64 yb
    have hj0:=hi0; try simp only[LN,Int.toNat_natCast] at hj0
    simp only[r153_0]
    have f1:0≤(length p:Int):=yb
    have f4:0+(length (map d_y v0))≤(length (map d_y v0)):=yb
    have f5:0+(length (map d_y (m151 x0)))≤(length (map d_y (m151 x0))):=yb
    have f6:((take (length (map d_y (m151 x0))) (drop 0 (map d_y (m151 x0)))).all fun x=>x.all copyable)=true:=(ct_y _ _ _)
    have f7:(length ((take (length (map d_y v0)) (drop 0 (map d_y v0)))++(take (length (map d_y (m151 x0))) (drop 0 (map d_y (m151 x0))))))*1≤70368744177664:=yG
    have f8:∀r∈((take (length (map d_y (m151 x0))) (drop 0 (map d_y (m151 x0)))):List (List D)),r.length=1:=yd
    have f9:((take (length (map d_y v0)) (drop 0 (map d_y v0)))++(take (length (map d_y (m151 x0))) (drop 0 (map d_y (m151 x0)))))=(map d_y (v0++(m151 x0))):=yn
    have st:=ch b153_0 (h153_0 l0_0 a0 (length p:Int) v0) ⟨[(0,(.one (.bor l0_0 (map b_i a0)))),(3,(.one (.ref ⟨(3,0,0),[],0,(length ((take (length (map d_y v0)) (drop 0 (map d_y v0)))++(take (length (map d_y (m151 x0))) (drop 0 (map d_y (m151 x0))))))⟩))),(4,(.oi (wrap .i64 ((length p:Int)+1))))],[((3,0,0),.live ⟨1,(map d_y (v0++(m151 x0))),[]⟩)]⟩ .normal 32 ya (.f hc (.f f1 (.f (mp_ b_i Hx0) (.h 8 (.b true) (.h 16 (.row [(.i x0)]) (.r 20 [] [] (e151 (a0:=x0)) (.f f4 (.f f5 (.f f6 (.f f7 (.f f8 (.f f9 (.f trivial (.h 22 (.b true) (.h 25 (.norm (3,0,0) (map d_y (v0++(m151 x0)))) .nil)))))))))))))))
    have ih:=t153_0 (l0_0:=l0_0) (a0:=a0) hy0 y0 (p++ [x0]) (v0++(m151 x0)) ye yG
    rw[pl1] at ih
    rw[show (⟨[(0,(.one (.bor l0_0 (map b_i a0)))),(3,(.one (.ref ⟨(3,0,0),[],0,(length ((take (length (map d_y v0)) (drop 0 (map d_y v0)))++(take (length (map d_y (m151 x0))) (drop 0 (map d_y (m151 x0))))))⟩))),(4,(.oi (wrap .i64 ((length p:Int)+1))))],[((3,0,0),.live ⟨1,(map d_y (v0++(m151 x0))),[]⟩)]⟩:St)=h153_0 l0_0 a0 ((length p:Int)+1) (v0++(m151 x0)) from(by unfold h153_0; simp[hw,take_of_length_le,d_y,ol112,ol83,ol84,ol51,ol45_0,ol12_0,four_len]; done)] at st
    exact .loopN st ih
theorem ll153 {a:List Int}:∀ {l:List Int} {i:Int} {v w:List Int} {j b},r153_0 a l i v=.k0 w j b→w.length≤v.length+3*l.length
  |[],i,v,w,j,b,h=>by simp only[r153_0] at h; injection h with h; subst h; simp
  |x::l,i,v,w,j,b,h=>by
    simp only[r153_0] at h
    have q:=ll153 h
    have q0:=pl151 x
    simp only[length_append,length_cons] at q⊢; omega
/-! loop.example/g00539/spec.l3List -/
def m153 (a0:(List Int)):(List Int):=
  (match r153_0 a0 a0 0 (m151 ((length (map b_i a0)):Int)) with | .k0 w0_1 w1_1 w2_1=>w0_1)
theorem e153 {l0_0:Nat} {a0:(List Int)} (hy0:length a0≤1000):Ev F X (.call 153 [(.one (.bor l0_0 (map b_i a0)))] [] [] [(.one (.own 1 (map d_y (m153 a0))))]):=by
  unfold m153
  cases h0:r153_0 a0 a0 0 (m151 ((length (map b_i a0)):Int)) with
  |k0 w0_1 w1_1 w2_1=>
    try dsimp only
    have f1:=Eq.refl (h153_0 l0_0 a0 0 (m151 ((length (map b_i a0)):Int)))
    exact cp ya (.r 7 [] [] (e151 (a0:=((length (map b_i a0)):Int))) (.f f1 (.f (ev_ (e:=ex153_0) (g:=(fin153_0 l0_0 a0)) h0 (t153_0 (l0_0:=l0_0) (a0:=a0) (by assumption) a0 [] (m151 ((length (map b_i a0)):Int)) rfl (by have q:=pl151 ((length (map b_i a0)):Int); omega))) (pe 0 (pe (length (map d_y w0_1)) (.f (pureR_y w0_1) (.h 12 (.loop (h153_0 l0_0 a0 0 (m151 ((length (map b_i a0)):Int))) (.exit 0) ⟨[(0,(.one (.bor l0_0 (map b_i a0)))),(3,(.one (.ref ⟨(3,0,0),[],0,(length (map d_y w0_1))⟩))),(4,(.oi w1_1)),(11,(.one (.val (.bool w2_1))))],[((3,0,0),.live ⟨1,(map d_y w0_1),[]⟩)]⟩) .nil)))))))
theorem pn153 (a:List Int):length (m153 a)≤3+3*a.length:=by
  unfold m153
  cases h:r153_0 a a 0 (m151 ((length (map b_i a)):Int)) with
  |k0 w j b=>
    have q:=ll153 h
    have q0:=pl151 ((length (map b_i a)):Int)
    show w.length≤_
    omega
/-! loop 129_0 -/
inductive O129_0 where
  |k0 (w0:List Int) (w1:Int) (w2:Bool)
def r129_0 (a0:K_T) (a1:Bool):List K_N→Int→List Int→O129_0
  |x0::y0,i,v0=>
    if a1=true then(r129_0 a0 a1 y0 (i+1) (((v0++(m152 x0.f0))++(m151 x0.f1))++(m153 x0.f2))) else
    (r129_0 a0 a1 y0 (i+1) (((v0++(m152 x0.f0))++(m151 x0.f1))++([0])))
  |[],i,v0=>(O129_0.k0 v0 i (decide (i <((length (map b_N a0.f1)):Int))))
def h129_0 (l0:Nat) (a0:K_T) (a1:Bool) (i:Int) (v0:List Int):St:=⟨[(0,(.bptr l0 (b_T a0))),(1,(.one (.val (.bool a1)))),(5,(.one (.ref ⟨(5,0,0),[],0,(length (map d_y v0))⟩))),(6,(.one (.val (.int .i64 i))))],[((5,0,0),.live ⟨1,(map d_y v0),[]⟩)]⟩
def ex129_0:O129_0→VX.Exit
  |.k0 _ _ _=>(.exit 0)
def fin129_0 (l0:Nat) (a0:K_T) (a1:Bool):O129_0→St
  |.k0 w0 w1 w2=>⟨[(0,(.bptr l0 (b_T a0))),(1,(.one (.val (.bool a1)))),(5,(.one (.ref ⟨(5,0,0),[],0,(length (map d_y w0))⟩))),(6,(.one (.val (.int .i64 w1)))),(26,(.one (.val (.bool w2))))],[((5,0,0),.live ⟨1,(map d_y w0),[]⟩)]⟩
theorem t129_0 {l0:Nat} {a0:K_T} {a1:Bool} (hy0:length a0.f1*40≤140737488351232) (hy1:∀z∈a0.f1,ok_N z) (hy2:length a0.f2*32≤140737488351232) (hy3:∀z∈a0.f2,ok_U z) (hy4:length a0.f1≤4) (hy5:∀z∈a0.f1,length z.f2≤8) (hy6:length a0.f2≤4) (hy7:∀z∈a0.f2,length z.f1≤12):∀(y0:List K_N) (p:List K_N) (v0:List Int),p++y0=a0.f1→length v0+60*length y0≤260→Ev F X (.code l129_0 (h129_0 l0 a0 a1 (length p:Int) v0) (ex129_0 (r129_0 a0 a1 y0 (length p:Int) v0)) (fin129_0 l0 a0 a1 (r129_0 a0 a1 y0 (length p:Int) v0)))
  |[],p,v0,hp0,hi0=>by
    have hc:=hcn b_N hp0
    have hj0:=hi0; try simp only[LN,Int.toNat_natCast] at hj0
    exact lx 15 (by kernel_rfl) (.f (nt hc) (.h 14 (.b false) .nil)) rfl
  |x0::y0,p,v0,hp0,hi0=>by
    have hc:=hcy b_N hp0
    have Hx0:=hxy hp0
    have Nx0_5:=hy5 x0 (List.mem_of_getElem? Hx0)
    have Mx0_0:=hy1 x0 (List.mem_of_getElem? Hx0)
    have hlen:=hly hp0
    have hw:wrap .i64 ((length p:Int)+1)=(length p:Int)+1:=wrap64 (by omega)
    have hj0:=hi0; try simp only[LN,Int.toNat_natCast] at hj0
    simp only[r129_0]
    have f1:0≤(length p:Int):=(by omega)
    have f4:0+(length (map d_y v0))≤(length (map d_y v0)):=(by omega)
    have f5:0+(length (map d_y (m152 x0.f0)))≤(length (map d_y (m152 x0.f0))):=(by omega)
    have f6:((take (length (map d_y (m152 x0.f0))) (drop 0 (map d_y (m152 x0.f0)))).all fun x=>x.all copyable)=true:=(ct_y _ _ _)
    have f7:(length ((take (length (map d_y v0)) (drop 0 (map d_y v0)))++(take (length (map d_y (m152 x0.f0))) (drop 0 (map d_y (m152 x0.f0))))))*1≤70368744177664:=(by have q0:=hy5 x0 (List.mem_of_getElem? Hx0); have q1:=pl151 x0.f1; have q2:=pb152 x0.f0; have q3:=pn153 x0.f2; simp only[length_map,length_append,length_take,length_drop,length_cons,length_nil,List.length_flatten,List.map_cons,List.map_nil,List.sum_cons,List.sum_nil] at*; omega)
    have f8:∀r∈((take (length (map d_y (m152 x0.f0))) (drop 0 (map d_y (m152 x0.f0)))):List (List D)),r.length=1:=(by simp only[List.drop_zero,tbr,tsi,ly_y,ly0_y,← List.map_append,List.take_length,List.cons_append,List.nil_append,append_assoc]; exact lenD_y _)
    have f12:0+(length ((take (length (map d_y v0)) (drop 0 (map d_y v0)))++(take (length (map d_y (m152 x0.f0))) (drop 0 (map d_y (m152 x0.f0))))))≤(length ((take (length (map d_y v0)) (drop 0 (map d_y v0)))++(take (length (map d_y (m152 x0.f0))) (drop 0 (map d_y (m152 x0.f0)))))):=(by omega)
    have f13:0+(length (map d_y (m151 x0.f1)))≤(length (map d_y (m151 x0.f1))):=(by omega)
    have f14:((take (length (map d_y (m151 x0.f1))) (drop 0 (map d_y (m151 x0.f1)))).all fun x=>x.all copyable)=true:=(ct_y _ _ _)
    have f15:(length ((take (length ((take (length (map d_y v0)) (drop 0 (map d_y v0)))++(take (length (map d_y (m152 x0.f0))) (drop 0 (map d_y (m152 x0.f0)))))) (drop 0 ((take (length (map d_y v0)) (drop 0 (map d_y v0)))++(take (length (map d_y (m152 x0.f0))) (drop 0 (map d_y (m152 x0.f0)))))))++(take (length (map d_y (m151 x0.f1))) (drop 0 (map d_y (m151 x0.f1))))))*1≤70368744177664:=(by have q0:=hy5 x0 (List.mem_of_getElem? Hx0); have q1:=pl151 x0.f1; have q2:=pb152 x0.f0; have q3:=pn153 x0.f2; simp only[length_map,length_append,length_take,length_drop,length_cons,length_nil,List.length_flatten,List.map_cons,List.map_nil,List.sum_cons,List.sum_nil] at*; omega)
    have f16:∀r∈((take (length (map d_y (m151 x0.f1))) (drop 0 (map d_y (m151 x0.f1)))):List (List D)),r.length=1:=(by simp only[List.drop_zero,tbr,tsi,ly_y,ly0_y,← List.map_append,List.take_length,List.cons_append,List.nil_append,append_assoc]; exact lenD_y _)
    have f17:((take (length ((take (length (map d_y v0)) (drop 0 (map d_y v0)))++(take (length (map d_y (m152 x0.f0))) (drop 0 (map d_y (m152 x0.f0)))))) (drop 0 ((take (length (map d_y v0)) (drop 0 (map d_y v0)))++(take (length (map d_y (m152 x0.f0))) (drop 0 (map d_y (m152 x0.f0)))))))++(take (length (map d_y (m151 x0.f1))) (drop 0 (map d_y (m151 x0.f1)))))=(map d_y ((v0++(m152 x0.f0))++(m151 x0.f1))):=(by simp[take_of_length_le,d_y,ol112,ol83,ol84,ol51,ol45_0,ol12_0,four_len]; done)
    have P1 {hs q} (r:PS F X hs q):=(PS.f hc (.f f1 (.f (mp_ b_N Hx0) (.h 14 (.b true) (.h 28 (.row (b_N x0)) (.r 34 [] [] (e152 (a0:=x0.f0)) (.f f4 (.f f5 (.f f6 (.f f7 (.f f8 (.f f1 (.f (mp_ b_N Hx0) (.h 36 (.b true) (.h 48 (.row (b_N x0)) (.r 54 [] [] (e151 (a0:=x0.f1)) (.f f12 (.f f13 (.f f14 (.f f15 (.f f16 (.f f17 (.h 56 (.b true) (.h 59 (.norm (5,0,0) (map d_y ((v0++(m152 x0.f0))++(m151 x0.f1)))) r))))))))))))))))))))))))
    by_cases h_1:a1=true
    · try simp only[if_pos h_1]
      have f22:0+(length ((take (length ((take (length (map d_y v0)) (drop 0 (map d_y v0)))++(take (length (map d_y (m152 x0.f0))) (drop 0 (map d_y (m152 x0.f0)))))) (drop 0 ((take (length (map d_y v0)) (drop 0 (map d_y v0)))++(take (length (map d_y (m152 x0.f0))) (drop 0 (map d_y (m152 x0.f0)))))))++(take (length (map d_y (m151 x0.f1))) (drop 0 (map d_y (m151 x0.f1))))))≤(length (map d_y ((v0++(m152 x0.f0))++(m151 x0.f1)))):=(by simp only[List.drop_zero,tbr,tsi,ly_y,ly0_y,← List.map_append,List.take_length,List.cons_append,List.nil_append,append_assoc]; simp only[length_map,length_append,length_cons,length_nil,strInts_len,ol112,ol83,ol84,ol51,ol45_0,ol12_0,four_len]; omega)
      have f23:0+(length (map d_y (m153 x0.f2)))≤(length (map d_y (m153 x0.f2))):=(by omega)
      have f24:((take (length (map d_y (m153 x0.f2))) (drop 0 (map d_y (m153 x0.f2)))).all fun x=>x.all copyable)=true:=(ct_y _ _ _)
      have f25:(length ((take (length ((take (length ((take (length (map d_y v0)) (drop 0 (map d_y v0)))++(take (length (map d_y (m152 x0.f0))) (drop 0 (map d_y (m152 x0.f0)))))) (drop 0 ((take (length (map d_y v0)) (drop 0 (map d_y v0)))++(take (length (map d_y (m152 x0.f0))) (drop 0 (map d_y (m152 x0.f0)))))))++(take (length (map d_y (m151 x0.f1))) (drop 0 (map d_y (m151 x0.f1)))))) (drop 0 (map d_y ((v0++(m152 x0.f0))++(m151 x0.f1)))))++(take (length (map d_y (m153 x0.f2))) (drop 0 (map d_y (m153 x0.f2))))))*1≤70368744177664:=(by have q0:=hy5 x0 (List.mem_of_getElem? Hx0); have q1:=pl151 x0.f1; have q2:=pb152 x0.f0; have q3:=pn153 x0.f2; simp only[length_map,length_append,length_take,length_drop,length_cons,length_nil,List.length_flatten,List.map_cons,List.map_nil,List.sum_cons,List.sum_nil] at*; omega)
      have f26:∀r∈((take (length (map d_y (m153 x0.f2))) (drop 0 (map d_y (m153 x0.f2)))):List (List D)),r.length=1:=(by simp only[List.drop_zero,tbr,tsi,ly_y,ly0_y,← List.map_append,List.take_length,List.cons_append,List.nil_append,append_assoc]; exact lenD_y _)
      have f27:((take (length ((take (length ((take (length (map d_y v0)) (drop 0 (map d_y v0)))++(take (length (map d_y (m152 x0.f0))) (drop 0 (map d_y (m152 x0.f0)))))) (drop 0 ((take (length (map d_y v0)) (drop 0 (map d_y v0)))++(take (length (map d_y (m152 x0.f0))) (drop 0 (map d_y (m152 x0.f0)))))))++(take (length (map d_y (m151 x0.f1))) (drop 0 (map d_y (m151 x0.f1)))))) (drop 0 (map d_y ((v0++(m152 x0.f0))++(m151 x0.f1)))))++(take (length (map d_y (m153 x0.f2))) (drop 0 (map d_y (m153 x0.f2)))))=(map d_y (((v0++(m152 x0.f0))++(m151 x0.f1))++(m153 x0.f2))):=(by simp[take_of_length_le,d_y,ol112,ol83,ol84,ol51,ol45_0,ol12_0,four_len]; done)
      have st:=ch b129_0 (h129_0 l0 a0 a1 (length p:Int) v0) ⟨[(0,(.bptr l0 (b_T a0))),(1,(.one (.val (.bool a1)))),(5,(.one (.ref ⟨(5,0,0),[],0,(length ((take (length ((take (length ((take (length (map d_y v0)) (drop 0 (map d_y v0)))++(take (length (map d_y (m152 x0.f0))) (drop 0 (map d_y (m152 x0.f0)))))) (drop 0 ((take (length (map d_y v0)) (drop 0 (map d_y v0)))++(take (length (map d_y (m152 x0.f0))) (drop 0 (map d_y (m152 x0.f0)))))))++(take (length (map d_y (m151 x0.f1))) (drop 0 (map d_y (m151 x0.f1)))))) (drop 0 (map d_y ((v0++(m152 x0.f0))++(m151 x0.f1)))))++(take (length (map d_y (m153 x0.f2))) (drop 0 (map d_y (m153 x0.f2))))))⟩))),(6,(.oi (wrap .i64 ((length p:Int)+1))))],[((5,0,0),.live ⟨1,(map d_y (((v0++(m152 x0.f0))++(m151 x0.f1))++(m153 x0.f2))),[]⟩)]⟩ .normal 94 (by kernel_rfl) (P1 (.f h_1 (.f f1 (.f (mp_ b_N Hx0) (.h 62 (.b true) (.h 76 (.row (b_N x0)) (.r 82 [] [] (e153 (l0_0:=(l0+1)) (a0:=x0.f2) (by omega)) (.f f22 (.f f23 (.f f24 (.f f25 (.f f26 (.f f27 (.f trivial (.h 84 (.b true) (.h 87 (.norm (5,0,0) (map d_y (((v0++(m152 x0.f0))++(m151 x0.f1))++(m153 x0.f2)))) .nil))))))))))))))))
      have ih:=t129_0 (l0:=l0) (a0:=a0) (a1:=a1) hy0 hy1 hy2 hy3 hy4 hy5 hy6 hy7 y0 (p++ [x0]) (((v0++(m152 x0.f0))++(m151 x0.f1))++(m153 x0.f2)) (by rw[append_assoc]; exact hp0) (by have q0:=hy5 x0 (List.mem_of_getElem? Hx0); have q1:=pl151 x0.f1; have q2:=pb152 x0.f0; have q3:=pn153 x0.f2; simp only[length_map,length_append,length_take,length_drop,length_cons,length_nil,List.length_flatten,List.map_cons,List.map_nil,List.sum_cons,List.sum_nil] at*; omega)
      rw[pl1] at ih
      rw[show (⟨[(0,(.bptr l0 (b_T a0))),(1,(.one (.val (.bool a1)))),(5,(.one (.ref ⟨(5,0,0),[],0,(length ((take (length ((take (length ((take (length (map d_y v0)) (drop 0 (map d_y v0)))++(take (length (map d_y (m152 x0.f0))) (drop 0 (map d_y (m152 x0.f0)))))) (drop 0 ((take (length (map d_y v0)) (drop 0 (map d_y v0)))++(take (length (map d_y (m152 x0.f0))) (drop 0 (map d_y (m152 x0.f0)))))))++(take (length (map d_y (m151 x0.f1))) (drop 0 (map d_y (m151 x0.f1)))))) (drop 0 (map d_y ((v0++(m152 x0.f0))++(m151 x0.f1)))))++(take (length (map d_y (m153 x0.f2))) (drop 0 (map d_y (m153 x0.f2))))))⟩))),(6,(.oi (wrap .i64 ((length p:Int)+1))))],[((5,0,0),.live ⟨1,(map d_y (((v0++(m152 x0.f0))++(m151 x0.f1))++(m153 x0.f2))),[]⟩)]⟩:St)=h129_0 l0 a0 a1 ((length p:Int)+1) (((v0++(m152 x0.f0))++(m151 x0.f1))++(m153 x0.f2)) from(by unfold h129_0; simp[hw,take_of_length_le,d_y,ol112,ol83,ol84,ol51,ol45_0,ol12_0,four_len]; done)] at st
      exact .loopN st ih
    · try simp only[if_neg h_1]
      have f19:0+(length ((take (length ((take (length (map d_y v0)) (drop 0 (map d_y v0)))++(take (length (map d_y (m152 x0.f0))) (drop 0 (map d_y (m152 x0.f0)))))) (drop 0 ((take (length (map d_y v0)) (drop 0 (map d_y v0)))++(take (length (map d_y (m152 x0.f0))) (drop 0 (map d_y (m152 x0.f0)))))))++(take (length (map d_y (m151 x0.f1))) (drop 0 (map d_y (m151 x0.f1))))))≤(length (map d_y ((v0++(m152 x0.f0))++(m151 x0.f1)))):=(by simp only[List.drop_zero,tbr,tsi,ly_y,ly0_y,← List.map_append,List.take_length,List.cons_append,List.nil_append,append_assoc]; simp only[length_map,length_append,length_cons,length_nil,strInts_len,ol112,ol83,ol84,ol51,ol45_0,ol12_0,four_len]; omega)
      have f20:1≤1:=(by omega)
      have f21:((take 1 (drop 0 [[(.val (.int .u8 0))]])).all fun x=>x.all copyable)=true:=(by trivial)
      have f22:(length ((take (length ((take (length ((take (length (map d_y v0)) (drop 0 (map d_y v0)))++(take (length (map d_y (m152 x0.f0))) (drop 0 (map d_y (m152 x0.f0)))))) (drop 0 ((take (length (map d_y v0)) (drop 0 (map d_y v0)))++(take (length (map d_y (m152 x0.f0))) (drop 0 (map d_y (m152 x0.f0)))))))++(take (length (map d_y (m151 x0.f1))) (drop 0 (map d_y (m151 x0.f1)))))) (drop 0 (map d_y ((v0++(m152 x0.f0))++(m151 x0.f1)))))++([[(.val (.int .u8 0))]]:List (List D))))*1≤70368744177664:=(by have q0:=hy5 x0 (List.mem_of_getElem? Hx0); have q1:=pl151 x0.f1; have q2:=pb152 x0.f0; have q3:=pn153 x0.f2; simp only[length_map,length_append,length_take,length_drop,length_cons,length_nil,List.length_flatten,List.map_cons,List.map_nil,List.sum_cons,List.sum_nil] at*; omega)
      have f23:∀r∈([[(.val (.int .u8 0))]]:List (List D)),r.length=1:=(by simp only[List.drop_zero,tbr,tsi,ly_y,ly0_y,← List.map_append,List.take_length,List.cons_append,List.nil_append,append_assoc]; exact lenD_y _)
      have f24:((take (length ((take (length ((take (length (map d_y v0)) (drop 0 (map d_y v0)))++(take (length (map d_y (m152 x0.f0))) (drop 0 (map d_y (m152 x0.f0)))))) (drop 0 ((take (length (map d_y v0)) (drop 0 (map d_y v0)))++(take (length (map d_y (m152 x0.f0))) (drop 0 (map d_y (m152 x0.f0)))))))++(take (length (map d_y (m151 x0.f1))) (drop 0 (map d_y (m151 x0.f1)))))) (drop 0 (map d_y ((v0++(m152 x0.f0))++(m151 x0.f1)))))++([[(.val (.int .u8 0))]]:List (List D)))=(map d_y (((v0++(m152 x0.f0))++(m151 x0.f1))++([0]))):=(by simp[take_of_length_le,d_y,ol112,ol83,ol84,ol51,ol45_0,ol12_0,four_len]; done)
      have st:=ch b129_0 (h129_0 l0 a0 a1 (length p:Int) v0) ⟨[(0,(.bptr l0 (b_T a0))),(1,(.one (.val (.bool a1)))),(5,(.one (.ref ⟨(5,0,0),[],0,(length ((take (length ((take (length ((take (length (map d_y v0)) (drop 0 (map d_y v0)))++(take (length (map d_y (m152 x0.f0))) (drop 0 (map d_y (m152 x0.f0)))))) (drop 0 ((take (length (map d_y v0)) (drop 0 (map d_y v0)))++(take (length (map d_y (m152 x0.f0))) (drop 0 (map d_y (m152 x0.f0)))))))++(take (length (map d_y (m151 x0.f1))) (drop 0 (map d_y (m151 x0.f1)))))) (drop 0 (map d_y ((v0++(m152 x0.f0))++(m151 x0.f1)))))++([[(.val (.int .u8 0))]]:List (List D))))⟩))),(6,(.oi (wrap .i64 ((length p:Int)+1))))],[((5,0,0),.live ⟨1,(map d_y (((v0++(m152 x0.f0))++(m151 x0.f1))++([0]))),[]⟩)]⟩ .normal 78 (by kernel_rfl) (P1 (.f (nt h_1) (.f f19 (.f f20 (.f f21 (.f f22 (.f f23 (.f f24 (.f trivial (.h 62 (.b false) (.h 68 (.b true) (.h 71 (.norm (5,0,0) (map d_y (((v0++(m152 x0.f0))++(m151 x0.f1))++([0])))) .nil))))))))))))
      have ih:=t129_0 (l0:=l0) (a0:=a0) (a1:=a1) hy0 hy1 hy2 hy3 hy4 hy5 hy6 hy7 y0 (p++ [x0]) (((v0++(m152 x0.f0))++(m151 x0.f1))++([0])) (by rw[append_assoc]; exact hp0) (by have q0:=hy5 x0 (List.mem_of_getElem? Hx0); have q1:=pl151 x0.f1; have q2:=pb152 x0.f0; have q3:=pn153 x0.f2; simp only[length_map,length_append,length_take,length_drop,length_cons,length_nil,List.length_flatten,List.map_cons,List.map_nil,List.sum_cons,List.sum_nil] at*; omega)
      rw[pl1] at ih
      rw[show (⟨[(0,(.bptr l0 (b_T a0))),(1,(.one (.val (.bool a1)))),(5,(.one (.ref ⟨(5,0,0),[],0,(length ((take (length ((take (length ((take (length (map d_y v0)) (drop 0 (map d_y v0)))++(take (length (map d_y (m152 x0.f0))) (drop 0 (map d_y (m152 x0.f0)))))) (drop 0 ((take (length (map d_y v0)) (drop 0 (map d_y v0)))++(take (length (map d_y (m152 x0.f0))) (drop 0 (map d_y (m152 x0.f0)))))))++(take (length (map d_y (m151 x0.f1))) (drop 0 (map d_y (m151 x0.f1)))))) (drop 0 (map d_y ((v0++(m152 x0.f0))++(m151 x0.f1)))))++([[(.val (.int .u8 0))]]:List (List D))))⟩))),(6,(.oi (wrap .i64 ((length p:Int)+1))))],[((5,0,0),.live ⟨1,(map d_y (((v0++(m152 x0.f0))++(m151 x0.f1))++([0]))),[]⟩)]⟩:St)=h129_0 l0 a0 a1 ((length p:Int)+1) (((v0++(m152 x0.f0))++(m151 x0.f1))++([0])) from(by unfold h129_0; simp[hw,take_of_length_le,d_y,ol112,ol83,ol84,ol51,ol45_0,ol12_0,four_len]; done)] at st
      exact .loopN st ih
theorem lk129_0 {a:K_T} {c:Bool}:∀ {l:List K_N} {i:Int} {v w:List Int} {j b},(∀z∈l,length z.f2≤8)→r129_0 a c l i v=.k0 w j b→w.length≤v.length+60*l.length
  |[],i,v,w,j,b,_,h=>by simp only[r129_0] at h; injection h with h; subst h; simp
  |x::l,i,v,w,j,b,z,h=>by
    simp only[r129_0] at h
    have q0:=z x (List.mem_cons_self ..)
    have z1:=fun u hu=>z u (List.mem_cons_of_mem _ hu)
    have q1:=pl151 x.f1
    have q2:=pb152 x.f0
    have q3:=pn153 x.f2
    split at h<;>(have q:=lk129_0 z1 h; simp only[length_append,length_cons,length_nil] at q⊢; omega)
/-! loop 129_1 -/
inductive O129_1 where
  |k0 (w0:List Int) (w1:Int) (w2:Bool)
def r129_1 (a0:K_T):List K_U→Int→List Int→O129_1
  |x0::y0,i,v0=>
    (r129_1 a0 y0 (i+1) ((v0++(m152 x0.f0))++(m153 x0.f1)))
  |[],i,v0=>(O129_1.k0 v0 i (decide (i <((length (map b_U a0.f2)):Int))))
def h129_1 (l0:Nat) (a0:K_T) (a1:Bool) (c0_129_1:List Int) (i:Int) (v0:List Int):St:=⟨[(0,(.bptr l0 (b_T a0))),(5,(.one (.ref ⟨(5,0,0),[],0,(length (map d_y v0))⟩))),(7,(.one (.val (.int .i64 i))))],[((5,0,0),.live ⟨1,(map d_y v0),[]⟩)]⟩
def ex129_1:O129_1→VX.Exit
  |.k0 _ _ _=>(.exit 2)
def fin129_1 (l0:Nat) (a0:K_T) (a1:Bool) (c0_129_1:List Int):O129_1→St
  |.k0 w0 w1 w2=>⟨[(0,(.bptr l0 (b_T a0))),(5,(.one (.ref ⟨(5,0,0),[],0,(length (map d_y w0))⟩))),(7,(.one (.val (.int .i64 w1)))),(79,(.one (.val (.bool w2))))],[((5,0,0),.live ⟨1,(map d_y w0),[]⟩)]⟩
theorem t129_1 {l0:Nat} {a0:K_T} {a1:Bool} {c0_129_1:List Int} (hy0:length a0.f1*40≤140737488351232) (hy1:∀z∈a0.f1,ok_N z) (hy2:length a0.f2*32≤140737488351232) (hy3:∀z∈a0.f2,ok_U z) (hy4:length a0.f1≤4) (hy5:∀z∈a0.f1,length z.f2≤8) (hy6:length a0.f2≤4) (hy7:∀z∈a0.f2,length z.f1≤12) (hy8:length c0_129_1≤140737488351232):∀(y0:List K_U) (p:List K_U) (v0:List Int),p++y0=a0.f2→length v0+60*length y0≤520→Ev F X (.code l129_1 (h129_1 l0 a0 a1 c0_129_1 (length p:Int) v0) (ex129_1 (r129_1 a0 y0 (length p:Int) v0)) (fin129_1 l0 a0 a1 c0_129_1 (r129_1 a0 y0 (length p:Int) v0)))
  |[],p,v0,hp0,hi0=>by
    have hc:=hcn b_U hp0
    have hj0:=hi0; try simp only[LN,Int.toNat_natCast] at hj0
    exact lx 15 ya (.f (nt hc) (.h 14 (.b false) .nil)) rfl
  |x0::y0,p,v0,hp0,hi0=>by
    have hc:=hcy b_U hp0
    have Hx0:=hxy hp0
    have Nx0_7:=hy7 x0 (List.mem_of_getElem? Hx0)
    have Mx0_0:=hy3 x0 (List.mem_of_getElem? Hx0)
    have hlen:=hly hp0
    have hw:wrap .i64 ((length p:Int)+1)=(length p:Int)+1:=wrap64 yb
    have hj0:=hi0; try simp only[LN,Int.toNat_natCast] at hj0
    simp only[r129_1]
    have f1:0≤(length p:Int):=yb
    have f4:0+(length (map d_y v0))≤(length (map d_y v0)):=yb
    have f5:0+(length (map d_y (m152 x0.f0)))≤(length (map d_y (m152 x0.f0))):=yb
    have f6:((take (length (map d_y (m152 x0.f0))) (drop 0 (map d_y (m152 x0.f0)))).all fun x=>x.all copyable)=true:=(ct_y _ _ _)
    have f7:(length ((take (length (map d_y v0)) (drop 0 (map d_y v0)))++(take (length (map d_y (m152 x0.f0))) (drop 0 (map d_y (m152 x0.f0))))))*1≤70368744177664:=yt
    have f8:∀r∈((take (length (map d_y (m152 x0.f0))) (drop 0 (map d_y (m152 x0.f0)))):List (List D)),r.length=1:=yd
    have f12:0+(length ((take (length (map d_y v0)) (drop 0 (map d_y v0)))++(take (length (map d_y (m152 x0.f0))) (drop 0 (map d_y (m152 x0.f0))))))≤(length ((take (length (map d_y v0)) (drop 0 (map d_y v0)))++(take (length (map d_y (m152 x0.f0))) (drop 0 (map d_y (m152 x0.f0)))))):=yb
    have f13:0+(length (map d_y (m153 x0.f1)))≤(length (map d_y (m153 x0.f1))):=yb
    have f14:((take (length (map d_y (m153 x0.f1))) (drop 0 (map d_y (m153 x0.f1)))).all fun x=>x.all copyable)=true:=(ct_y _ _ _)
    have f15:(length ((take (length ((take (length (map d_y v0)) (drop 0 (map d_y v0)))++(take (length (map d_y (m152 x0.f0))) (drop 0 (map d_y (m152 x0.f0)))))) (drop 0 ((take (length (map d_y v0)) (drop 0 (map d_y v0)))++(take (length (map d_y (m152 x0.f0))) (drop 0 (map d_y (m152 x0.f0)))))))++(take (length (map d_y (m153 x0.f1))) (drop 0 (map d_y (m153 x0.f1))))))*1≤70368744177664:=yt
    have f16:∀r∈((take (length (map d_y (m153 x0.f1))) (drop 0 (map d_y (m153 x0.f1)))):List (List D)),r.length=1:=yd
    have f17:((take (length ((take (length (map d_y v0)) (drop 0 (map d_y v0)))++(take (length (map d_y (m152 x0.f0))) (drop 0 (map d_y (m152 x0.f0)))))) (drop 0 ((take (length (map d_y v0)) (drop 0 (map d_y v0)))++(take (length (map d_y (m152 x0.f0))) (drop 0 (map d_y (m152 x0.f0)))))))++(take (length (map d_y (m153 x0.f1))) (drop 0 (map d_y (m153 x0.f1)))))=(map d_y ((v0++(m152 x0.f0))++(m153 x0.f1))):=yn
    have st:=ch b129_1 (h129_1 l0 a0 a1 c0_129_1 (length p:Int) v0) ⟨[(0,(.bptr l0 (b_T a0))),(5,(.one (.ref ⟨(5,0,0),[],0,(length ((take (length ((take (length (map d_y v0)) (drop 0 (map d_y v0)))++(take (length (map d_y (m152 x0.f0))) (drop 0 (map d_y (m152 x0.f0)))))) (drop 0 ((take (length (map d_y v0)) (drop 0 (map d_y v0)))++(take (length (map d_y (m152 x0.f0))) (drop 0 (map d_y (m152 x0.f0)))))))++(take (length (map d_y (m153 x0.f1))) (drop 0 (map d_y (m153 x0.f1))))))⟩))),(7,(.oi (wrap .i64 ((length p:Int)+1))))],[((5,0,0),.live ⟨1,(map d_y ((v0++(m152 x0.f0))++(m153 x0.f1))),[]⟩)]⟩ .normal 66 ya (.f hc (.f f1 (.f (mp_ b_U Hx0) (.h 14 (.b true) (.h 28 (.row (b_U x0)) (.r 34 [] [] (e152 (a0:=x0.f0)) (.f f4 (.f f5 (.f f6 (.f f7 (.f f8 (.f f1 (.f (mp_ b_U Hx0) (.h 36 (.b true) (.h 48 (.row (b_U x0)) (.r 54 [] [] (e153 (l0_0:=(l0+1)) (a0:=x0.f1) yb) (.f f12 (.f f13 (.f f14 (.f f15 (.f f16 (.f f17 (.f trivial (.h 56 (.b true) (.h 59 (.norm (5,0,0) (map d_y ((v0++(m152 x0.f0))++(m153 x0.f1)))) .nil)))))))))))))))))))))))))
    have ih:=t129_1 (l0:=l0) (a0:=a0) (a1:=a1) (c0_129_1:=c0_129_1) hy0 hy1 hy2 hy3 hy4 hy5 hy6 hy7 hy8 y0 (p++ [x0]) ((v0++(m152 x0.f0))++(m153 x0.f1)) ye yt
    rw[pl1] at ih
    rw[show (⟨[(0,(.bptr l0 (b_T a0))),(5,(.one (.ref ⟨(5,0,0),[],0,(length ((take (length ((take (length (map d_y v0)) (drop 0 (map d_y v0)))++(take (length (map d_y (m152 x0.f0))) (drop 0 (map d_y (m152 x0.f0)))))) (drop 0 ((take (length (map d_y v0)) (drop 0 (map d_y v0)))++(take (length (map d_y (m152 x0.f0))) (drop 0 (map d_y (m152 x0.f0)))))))++(take (length (map d_y (m153 x0.f1))) (drop 0 (map d_y (m153 x0.f1))))))⟩))),(7,(.oi (wrap .i64 ((length p:Int)+1))))],[((5,0,0),.live ⟨1,(map d_y ((v0++(m152 x0.f0))++(m153 x0.f1))),[]⟩)]⟩:St)=h129_1 l0 a0 a1 c0_129_1 ((length p:Int)+1) ((v0++(m152 x0.f0))++(m153 x0.f1)) from(by unfold h129_1; simp[hw,take_of_length_le,d_y,ol112,ol83,ol84,ol51,ol45_0,ol12_0,four_len]; done)] at st
    exact .loopN st ih
theorem lk129_1 {a:K_T}:∀ {l:List K_U} {i:Int} {v w:List Int} {j b},(∀z∈l,length z.f1≤12)→r129_1 a l i v=.k0 w j b→w.length≤v.length+60*l.length
  |[],i,v,w,j,b,_,h=>by simp only[r129_1] at h; injection h with h; subst h; simp
  |x::l,i,v,w,j,b,z,h=>by
    simp only[r129_1] at h
    have q0:=z x (List.mem_cons_self ..)
    have z1:=fun u hu=>z u (List.mem_cons_of_mem _ hu)
    have q2:=pb152 x.f0
    have q3:=pn153 x.f1
    have q:=lk129_1 z1 h
    simp only[length_append,length_cons,length_nil] at q⊢; omega
/-! loop.example/g00539/spec.l3Pack -/
def m129 (a0:K_T) (a1:Bool):(List Int):=
  (match r129_0 a0 a1 a0.f1 0 ((m151 a0.f0)++(m151 ((length (map b_N a0.f1)):Int))) with | .k0 w0_4 w1_4 w2_4=>(match r129_1 a0 a0.f2 0 (w0_4++(m151 ((length (map b_U a0.f2)):Int))) with | .k0 w0_8 w1_8 w2_8=>w0_8))
theorem e129 {l0:Nat} {a0:K_T} {a1:Bool} (hy0:length a0.f1*40≤140737488351232) (hy1:∀z∈a0.f1,ok_N z) (hy2:length a0.f2*32≤140737488351232) (hy3:∀z∈a0.f2,ok_U z) (hy4:length a0.f1≤4) (hy5:∀z∈a0.f1,length z.f2≤8) (hy6:length a0.f2≤4) (hy7:∀z∈a0.f2,length z.f1≤12):Ev F X (.call 129 [(.bptr l0 (b_T a0)),(.one (.val (.bool a1)))] [] [] [(.one (.own 1 (map d_y (m129 a0 a1))))]):=by
  unfold m129
  have f2:0+(length (map d_y (m151 a0.f0)))≤(length (map d_y (m151 a0.f0))):=yb
  have f3:0+(length (map d_y (m151 ((length (map b_N a0.f1)):Int))))≤(length (map d_y (m151 ((length (map b_N a0.f1)):Int)))):=yb
  have f4:((take (length (map d_y (m151 ((length (map b_N a0.f1)):Int)))) (drop 0 (map d_y (m151 ((length (map b_N a0.f1)):Int))))).all fun x=>x.all copyable)=true:=(ct_y _ _ _)
  have f5:(length ((take (length (map d_y (m151 a0.f0))) (drop 0 (map d_y (m151 a0.f0))))++(take (length (map d_y (m151 ((length (map b_N a0.f1)):Int)))) (drop 0 (map d_y (m151 ((length (map b_N a0.f1)):Int)))))))*1≤70368744177664:=yo
  have f6:∀r∈((take (length (map d_y (m151 ((length (map b_N a0.f1)):Int)))) (drop 0 (map d_y (m151 ((length (map b_N a0.f1)):Int))))):List (List D)),r.length=1:=yd
  have f7:((take (length (map d_y (m151 a0.f0))) (drop 0 (map d_y (m151 a0.f0))))++(take (length (map d_y (m151 ((length (map b_N a0.f1)):Int)))) (drop 0 (map d_y (m151 ((length (map b_N a0.f1)):Int))))))=(map d_y ((m151 a0.f0)++(m151 ((length (map b_N a0.f1)):Int)))):=yn
  cases h0:r129_0 a0 a1 a0.f1 0 ((m151 a0.f0)++(m151 ((length (map b_N a0.f1)):Int))) with
  |k0 w0_4 w1_4 w2_4=>
    try dsimp only
    have f8:(⟨[(0,(.bptr l0 (b_T a0))),(1,(.one (.val (.bool a1)))),(5,(.one (.ref ⟨(5,0,0),[],0,(length ((take (length (map d_y (m151 a0.f0))) (drop 0 (map d_y (m151 a0.f0))))++(take (length (map d_y (m151 ((length (map b_N a0.f1)):Int)))) (drop 0 (map d_y (m151 ((length (map b_N a0.f1)):Int)))))))⟩))),(6,(.oi 0))],[((5,0,0),.live ⟨1,(map d_y ((m151 a0.f0)++(m151 ((length (map b_N a0.f1)):Int)))),[]⟩)]⟩:St)=h129_0 l0 a0 a1 0 ((m151 a0.f0)++(m151 ((length (map b_N a0.f1)):Int))):=(by unfold h129_0; simp[take_of_length_le,d_y,ol112,ol83,ol84,ol51,ol45_0,ol12_0,four_len]; done)
    have f11:0+(length (map d_y w0_4))≤(length (map d_y w0_4)):=yb
    have f12:0+(length (map d_y (m151 ((length (map b_U a0.f2)):Int))))≤(length (map d_y (m151 ((length (map b_U a0.f2)):Int)))):=yb
    have f13:((take (length (map d_y (m151 ((length (map b_U a0.f2)):Int)))) (drop 0 (map d_y (m151 ((length (map b_U a0.f2)):Int))))).all fun x=>x.all copyable)=true:=(ct_y _ _ _)
    have f14:(length ((take (length (map d_y w0_4)) (drop 0 (map d_y w0_4)))++(take (length (map d_y (m151 ((length (map b_U a0.f2)):Int)))) (drop 0 (map d_y (m151 ((length (map b_U a0.f2)):Int)))))))*1≤70368744177664:=yv
    have f15:∀r∈((take (length (map d_y (m151 ((length (map b_U a0.f2)):Int)))) (drop 0 (map d_y (m151 ((length (map b_U a0.f2)):Int))))):List (List D)),r.length=1:=yd
    have f16:((take (length (map d_y w0_4)) (drop 0 (map d_y w0_4)))++(take (length (map d_y (m151 ((length (map b_U a0.f2)):Int)))) (drop 0 (map d_y (m151 ((length (map b_U a0.f2)):Int))))))=(map d_y (w0_4++(m151 ((length (map b_U a0.f2)):Int)))):=yn
    cases h1:r129_1 a0 a0.f2 0 (w0_4++(m151 ((length (map b_U a0.f2)):Int))) with
    |k0 w0_8 w1_8 w2_8=>
      try dsimp only
      have f17:(⟨[(0,(.bptr l0 (b_T a0))),(5,(.one (.ref ⟨(5,0,0),[],0,(length ((take (length (map d_y w0_4)) (drop 0 (map d_y w0_4)))++(take (length (map d_y (m151 ((length (map b_U a0.f2)):Int)))) (drop 0 (map d_y (m151 ((length (map b_U a0.f2)):Int)))))))⟩))),(7,(.oi 0))],[((5,0,0),.live ⟨1,(map d_y (w0_4++(m151 ((length (map b_U a0.f2)):Int)))),[]⟩)]⟩:St)=h129_1 l0 a0 a1 w0_4 0 (w0_4++(m151 ((length (map b_U a0.f2)):Int))):=(by unfold h129_1; simp[take_of_length_le,d_y,ol112,ol83,ol84,ol51,ol45_0,ol12_0,four_len]; done)
      exact cp ya (.r 11 [] [] (e151 (a0:=a0.f0)) (.r 23 [] [] (e151 (a0:=((length (map b_N a0.f1)):Int))) (.f f2 (.f f3 (.f f4 (.f f5 (.f f6 (.f f7 (.f f8 (.f (ev_ (e:=ex129_0) (g:=(fin129_0 l0 a0 a1)) h0 (t129_0 (l0:=l0) (a0:=a0) (a1:=a1) (by assumption) (by assumption) (by assumption) (by assumption) (by assumption) (by assumption) (by assumption) (by assumption) a0.f1 [] ((m151 a0.f0)++(m151 ((length (map b_N a0.f1)):Int))) rfl yo)) (.h 25 (.b true) (.h 28 (.norm (5,0,0) (map d_y ((m151 a0.f0)++(m151 ((length (map b_N a0.f1)):Int))))) (.h 31 (.loop (h129_0 l0 a0 a1 0 ((m151 a0.f0)++(m151 ((length (map b_N a0.f1)):Int)))) (.exit 0) ⟨[(0,(.bptr l0 (b_T a0))),(1,(.one (.val (.bool a1)))),(5,(.one (.ref ⟨(5,0,0),[],0,(length (map d_y w0_4))⟩))),(6,(.oi w1_4)),(26,(.one (.val (.bool w2_4))))],[((5,0,0),.live ⟨1,(map d_y w0_4),[]⟩)]⟩) (.r 45 [] [] (e151 (a0:=((length (map b_U a0.f2)):Int))) (.f f11 (.f f12 (.f f13 (.f f14 (.f f15 (.f f16 (.f f17 (.f (ev_ (e:=ex129_1) (g:=(fin129_1 l0 a0 a1 w0_4)) h1 (t129_1 (l0:=l0) (a0:=a0) (a1:=a1) (c0_129_1:=w0_4) (by assumption) (by assumption) (by assumption) (by assumption) (by assumption) (by assumption) (by assumption) (by assumption) yo a0.f2 [] (w0_4++(m151 ((length (map b_U a0.f2)):Int))) rfl yv)) (pe 0 (pe (length (map d_y w0_8)) (.f (pureR_y w0_8) (.h 47 (.b true) (.h 50 (.norm (5,0,0) (map d_y (w0_4++(m151 ((length (map b_U a0.f2)):Int))))) (.h 53 (.loop (h129_1 l0 a0 a1 w0_4 0 (w0_4++(m151 ((length (map b_U a0.f2)):Int)))) (.exit 2) ⟨[(0,(.bptr l0 (b_T a0))),(5,(.one (.ref ⟨(5,0,0),[],0,(length (map d_y w0_8))⟩))),(7,(.oi w1_8)),(79,(.one (.val (.bool w2_8))))],[((5,0,0),.live ⟨1,(map d_y w0_8),[]⟩)]⟩) .nil))))))))))))))))))))))))))))
theorem pt129 (a:K_T) (c:Bool) (h:SmT a):length (m129 a c)≤1000:=by
  obtain⟨a1,a2,a3,a4⟩:=h
  unfold m129
  cases h:r129_0 a c a.f1 0 ((m151 a.f0)++(m151 ((length (map b_N a.f1)):Int))) with
  |k0 w j b=>
    have q:=lk129_0 a2 h
    have q0:=pl151 a.f0
    have q1:=pl151 ((length (map b_N a.f1)):Int)
    have q2:=pl151 ((length (map b_U a.f2)):Int)
    simp only[length_append] at q
    simp only[]
    cases h2:r129_1 a a.f2 0 (w++(m151 ((length (map b_U a.f2)):Int))) with
    |k0 w2 j2 b2=>
      have q3:=lk129_1 a4 h2
      simp only[length_append] at q3
      show w2.length≤_
      omega
theorem e99 {l0:Nat} {a0:K_T} (hy0:length a0.f1*40≤140737488351232) (hy1:∀z∈a0.f1,ok_N z) (hy2:length a0.f2*32≤140737488351232) (hy3:∀z∈a0.f2,ok_U z) (hy4:SmT a0):Ev F X (.call 99 [(.bptr l0 (b_T a0))] [] [] [(.one (.val (.int .i64 (m128 (m129 a0 false)))))]):=by
  exact cp ya (.r 5 [] [] (e129 (l0:=(l0+1)) (a0:=a0) (a1:=false) ‹_› ‹_› ‹_› ‹_› (by exact hy4.1) (by exact hy4.2.1) (by exact hy4.2.2.1) (by exact hy4.2.2.2)) (ln_y (m129 a0 false) (.r 7 [] [(map b_y (m129 a0 false))] (e128 (l0_0:=0) (a0:=(m129 a0 false)) (by have q:=pt129 a0 false hy4; omega)) .nil)))
/-! loop 70_0 -/
inductive O70_0 where
  |k0 (w0:List Int) (w1:Int) (w2:Bool)
def r70_0 (a0:K_G):List K_T→Int→List Int→O70_0
  |x0::y0,i,v0=>
    (r70_0 a0 y0 (i+1) (v0++([(m128 (m129 x0 false))])))
  |[],i,v0=>(O70_0.k0 v0 i (decide (i <((length (map b_T a0.f4)):Int))))
def h70_0 (l0:Nat) (a0:K_G) (i:Int) (v0:List Int):St:=⟨[(0,(.bptr l0 (b_G a0))),(3,(.one (.ref ⟨(3,0,0),[],0,(length (map d_i v0))⟩))),(4,(.one (.val (.int .i64 i))))],[((3,0,0),.live ⟨1,(map d_i v0),[]⟩)]⟩
def ex70_0:O70_0→VX.Exit
  |.k0 _ _ _=>(.exit 0)
def fin70_0 (l0:Nat) (a0:K_G):O70_0→St
  |.k0 w0 w1 w2=>⟨[(0,(.bptr l0 (b_G a0))),(3,(.one (.ref ⟨(3,0,0),[],0,(length (map d_i w0))⟩))),(4,(.one (.val (.int .i64 w1)))),(12,(.one (.val (.bool w2))))],[((3,0,0),.live ⟨1,(map d_i w0),[]⟩)]⟩
theorem t70_0 {l0:Nat} {a0:K_G} (hy0:length a0.f4*56≤140737488351232) (hy1:∀z∈a0.f4,ok_T z) (hy2:length a0.f4≤4) (hy3:∀z∈a0.f4,SmT z):∀(y0:List K_T) (p:List K_T) (v0:List Int),p++y0=a0.f4→(length v0+length y0)*8≤70368744177664→length v0+length y0≤4→Ev F X (.code l70_0 (h70_0 l0 a0 (length p:Int) v0) (ex70_0 (r70_0 a0 y0 (length p:Int) v0)) (fin70_0 l0 a0 (r70_0 a0 y0 (length p:Int) v0)))
  |[],p,v0,hp0,hi0,hi1=>by
    have hc:=hcn b_T hp0
    have hj0:=hi0; try simp only[LN,Int.toNat_natCast] at hj0
    have hj1:=hi1; try simp only[LN,Int.toNat_natCast] at hj1
    exact lx 15 ya (.f (nt hc) (.h 14 (.b false) .nil)) rfl
  |x0::y0,p,v0,hp0,hi0,hi1=>by
    have hc:=hcy b_T hp0
    have Hx0:=hxy hp0
    obtain⟨Mx0_0,Mx0_1,Mx0_2,Mx0_3⟩:=hy1 x0 (List.mem_of_getElem? Hx0)
    have hlen:=hly hp0
    have hw:wrap .i64 ((length p:Int)+1)=(length p:Int)+1:=wrap64 yb
    have hj0:=hi0; try simp only[LN,Int.toNat_natCast] at hj0
    have hj1:=hi1; try simp only[LN,Int.toNat_natCast] at hj1
    simp only[r70_0]
    have f1:0≤(length p:Int):=yb
    have f4:0+(length (map d_i v0))≤(length (map d_i v0)):=yb
    have f5:1≤1:=yb
    have f6:((take 1 (drop 0 [[(.i (m128 (m129 x0 false)))]])).all fun x=>x.all copyable)=true:=yL
    have f7:(length ((take (length (map d_i v0)) (drop 0 (map d_i v0)))++([[(.i (m128 (m129 x0 false)))]]:List (List D))))*8≤70368744177664:=yk
    have f8:∀r∈([[(.i (m128 (m129 x0 false)))]]:List (List D)),r.length=1:=(by unfold m128 m129;(repeat' split)<;>simp_all<;>omega)
    have f9:((take (length (map d_i v0)) (drop 0 (map d_i v0)))++([[(.i (m128 (m129 x0 false)))]]:List (List D)))=(map d_i (v0++([(m128 (m129 x0 false))]))):=yV
    have st:=ch b70_0 (h70_0 l0 a0 (length p:Int) v0) ⟨[(0,(.bptr l0 (b_G a0))),(3,(.one (.ref ⟨(3,0,0),[],0,(length ((take (length (map d_i v0)) (drop 0 (map d_i v0)))++([[(.i (m128 (m129 x0 false)))]]:List (List D))))⟩))),(4,(.oi (wrap .i64 ((length p:Int)+1))))],[((3,0,0),.live ⟨1,(map d_i (v0++([(m128 (m129 x0 false))]))),[]⟩)]⟩ .normal 44 ya (.f hc (.f f1 (.f (mp_ b_T Hx0) (.h 14 (.b true) (.h 28 (.row (b_T x0)) (.r 30 [] [] (e99 (l0:=(l0+1)) (a0:=x0) ‹_› ‹_› ‹_› ‹_› (by exact hy3 _ (List.mem_of_getElem? ‹_›))) (.f f4 (.f f5 (.f f6 (.f f7 (.f f8 (.f f9 (.f trivial (.h 34 (.b true) (.h 37 (.norm (3,0,0) (map d_i (v0++([(m128 (m129 x0 false))])))) .nil)))))))))))))))
    have ih:=t70_0 (l0:=l0) (a0:=a0) hy0 hy1 hy2 hy3 y0 (p++ [x0]) (v0++([(m128 (m129 x0 false))])) ye yq yq
    rw[pl1] at ih
    rw[show (⟨[(0,(.bptr l0 (b_G a0))),(3,(.one (.ref ⟨(3,0,0),[],0,(length ((take (length (map d_i v0)) (drop 0 (map d_i v0)))++([[(.i (m128 (m129 x0 false)))]]:List (List D))))⟩))),(4,(.oi (wrap .i64 ((length p:Int)+1))))],[((3,0,0),.live ⟨1,(map d_i (v0++([(m128 (m129 x0 false))]))),[]⟩)]⟩:St)=h70_0 l0 a0 ((length p:Int)+1) (v0++([(m128 (m129 x0 false))])) from(by unfold h70_0; simp[hw,take_of_length_le,d_i,ol112,ol83,ol84,ol51,ol45_0,ol12_0,four_len]; done)] at st
    exact .loopN st ih
def post70_0 (n0:Nat):O70_0→Prop
  |.k0 w0 _ _=>length w0=n0
theorem z70_0 {a0:K_G}:∀(y0:List K_T) (i:Int) (v0:List Int),post70_0 (length v0+length y0) (r70_0 a0 y0 i v0)
  |[],i,v0=>by
    first | trivial |(simp only[post70_0,length_nil,Nat.add_zero]; done) |(simp[post70_0]; done)
  |x0::y0,i,v0=>by
    simp only[r70_0]
    have z:=z70_0 (a0:=a0) y0 (i+1) (v0++([(m128 (m129 x0 false))]))
    rw[show (length v0+length (x0::y0))=(length (v0++([(m128 (m129 x0 false))]))+length y0) from by first | omega |(simp only[LN]; done) |(simp only[LN]; omega)]
    exact z
theorem ls70 {a:K_G}:∀ {l:List K_T} {i:Int} {v w:List Int} {j b},r70_0 a l i v=.k0 w j b→w.length=v.length+l.length
  |[],i,v,w,j,b,h=>by simp only[r70_0] at h; injection h with h; subst h; simp
  |x::l,i,v,w,j,b,h=>by
    simp only[r70_0] at h
    have q:=ls70 h
    simp only[length_append,length_cons,length_nil] at q⊢; omega
/-! loop.example/g00539/spec.l6Sums -/
def m70 (a0:K_G):(List Int):=
  (match r70_0 a0 a0.f4 0 ([]) with | .k0 w0_0 w1_0 w2_0=>w0_0)
theorem e70 {l0:Nat} {a0:K_G} (hy0:length a0.f4*56≤140737488351232) (hy1:∀z∈a0.f4,ok_T z) (hy2:length a0.f4≤4) (hy3:∀z∈a0.f4,SmT z):Ev F X (.call 70 [(.bptr l0 (b_G a0))] [] [] [(.one (.own 1 (map d_i (m70 a0))))]):=by
  unfold m70
  cases h0:r70_0 a0 a0.f4 0 ([]) with
  |k0 w0_0 w1_0 w2_0=>
    try dsimp only
    have zh0:=z70_0 (a0:=a0) a0.f4 0 ([]); rw[h0] at zh0; simp only[post70_0,length_map,length_set,length_append,length_replicate,length_cons,length_nil,Int.toNat_natCast] at zh0
    have f0:=Eq.refl (h70_0 l0 a0 0 ([]))
    exact cp ya (.f f0 (.f (ev_ (e:=ex70_0) (g:=(fin70_0 l0 a0)) h0 (t70_0 (l0:=l0) (a0:=a0) (by assumption) (by assumption) (by assumption) (by assumption) a0.f4 [] ([]) rfl yk yk)) (pe 0 (pe (length (map d_i w0_0)) (.f (pureR_i w0_0) (.h 8 (.loop (h70_0 l0 a0 0 ([])) (.exit 0) ⟨[(0,(.bptr l0 (b_G a0))),(3,(.one (.ref ⟨(3,0,0),[],0,(length (map d_i w0_0))⟩))),(4,(.oi w1_0)),(12,(.one (.val (.bool w2_0))))],[((3,0,0),.live ⟨1,(map d_i w0_0),[]⟩)]⟩) .nil))))))
theorem ln70 (a:K_G):length (m70 a)=length a.f4:=by
  unfold m70
  cases h:r70_0 a a.f4 0 [] with
  |k0 w j b=>
    have q:=ls70 h
    show w.length=_
    simpa using q
/-! loop 38_0 -/
inductive O38_0 where
  |k0 (w0:Int) (w1:Bool)
  |k1 (w0:Int)
def r38_0 (a0:K_G):List K_T→Int→O38_0
  |x0::y0,i=>
    if((m67 x0) !=0)=true then(O38_0.k1 (m67 x0)) else
    (r38_0 a0 y0 (i+1))
  |[],i=>(O38_0.k0 i (decide (i <((length (map b_T a0.f4)):Int))))
def h38_0 (l0:Nat) (a0:K_G) (i:Int) :St:=⟨[(0,(.bptr l0 (b_G a0))),(3,(.one (.val (.int .i64 i))))],[]⟩
def ex38_0:O38_0→VX.Exit
  |.k0 _ _=>(.exit 0)
  |.k1 _=>.ret
def fin38_0 (l0:Nat) (a0:K_G):O38_0→St
  |.k0 w0 w1=>⟨[(0,(.bptr l0 (b_G a0))),(3,(.one (.val (.int .i64 w0)))),(55,(.one (.val (.bool w1))))],[]⟩
  |.k1 w0=>⟨[(2,(.one (.val (.int .i64 w0))))],[]⟩
theorem t38_0 {l0:Nat} {a0:K_G} (hy0:length a0.f4*56≤140737488351232) (hy1:∀z∈a0.f4,ok_T z):∀(y0:List K_T) (p:List K_T),p++y0=a0.f4→Ev F X (.code l38_0 (h38_0 l0 a0 (length p:Int)) (ex38_0 (r38_0 a0 y0 (length p:Int))) (fin38_0 l0 a0 (r38_0 a0 y0 (length p:Int))))
  |[],p,hp0=>by
    have hc:=hcn b_T hp0
    exact lx 15 ya (.f (nt hc) (.h 14 (.b false) .nil)) rfl
  |x0::y0,p,hp0=>by
    have hc:=hcy b_T hp0
    have Hx0:=hxy hp0
    obtain⟨Mx0_0,Mx0_1,Mx0_2,Mx0_3⟩:=hy1 x0 (List.mem_of_getElem? Hx0)
    have hlen:=hly hp0
    have hw:wrap .i64 ((length p:Int)+1)=(length p:Int)+1:=wrap64 yb
    simp only[r38_0]
    have f1:0≤(length p:Int):=yb
    have P1 {hs q} (r:PS F X hs q):=(PS.f hc (.f f1 (.f (mp_ b_T Hx0) (.h 14 (.b true) (.h 26 (.row (b_T x0)) (.r 28 [] [] (e67 (l0:=(l0+1)) (a0:=x0) ‹_› ‹_› ‹_› ‹_›) r))))))
    by_cases h_1:((m67 x0) !=0)=true
    · try simp only[if_pos h_1]
      exact lx 40 ya (P1 (.f h_1 (.h 35 (.b true) .nil))) rfl
    · try simp only[if_neg h_1]
      have ih:=t38_0 (l0:=l0) (a0:=a0) hy0 hy1 y0 (p++ [x0]) ye
      rw[pl1,← hw] at ih; rw[← hw]
      exact ly 42 ya (P1 (.f (nt h_1) (.f trivial (.h 35 (.b false) .nil)))) ih
theorem lb38 {a:K_G}:∀ {l:List K_T} {i:Int} {j b},r38_0 a l i=.k0 j b→∀x∈l,m67 x=0
  |[],i,j,b,h,x,hx=>by cases hx
  |y::l,i,j,b,h,x,hx=>by
    simp only[r38_0] at h
    split at h
    · cases h
    · rename_i h1
      rcases List.mem_cons.1 hx with rfl | hx
      · simpa using h1
      · exact lb38 h x hx
theorem ne38 {a:K_G}:∀(l:List K_T) (i:Int),r38_0 a l i≠.k1 0
  |[],i=>by simp only[r38_0]; intro h; cases h
  |y::l,i=>by
    simp only[r38_0]
    split
    · rename_i h; intro q; injection q with q; rw[q] at h; exact absurd h yM
    · exact ne38 l _
end Go.Proofs.YtmdocdnidilaiaaGreat.PutJob
