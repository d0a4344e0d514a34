/- What the functions compute. -/
import Derived.Test.YtmdocdnidilaiaaGreatECheckShareB
import Derived.KernelRfl
namespace Go.Proofs.YtmdocdnidilaiaaGreat.CheckShare
open Go Go.Proofs.YtmdocdnidilaiaaGreat.V
set_option linter.unusedVariables false
set_option linter.unusedSimpArgs false
set_option maxRecDepth 20000
open Go.IntKind (wrap)
open Int (toNat)
open List (length_replicate length_map length_set length_append length_cons length_nil length_take length_drop take_of_length_le map_take map_drop map_set append_assoc getElem?_map map length take drop getD set)
attribute [local simp] toBR_i fullR_i pureR_i lenB_i lenD_i fromBR_i copy_i toBR_N fullR_N pureR_N lenB_N lenD_N toBR_U fullR_U pureR_U lenB_U lenD_U toBR_T fullR_T pureR_T lenB_T lenD_T toBR_J fullR_J pureR_J lenB_J lenD_J toBR_JL fullR_JL pureR_JL lenB_JL lenD_JL toBR_KY fullR_KY pureR_KY lenB_KY lenD_KY fromBR_KY copy_KY toBR_LiiiiE fullR_LiiiiE pureR_LiiiiE lenB_LiiiiE lenD_LiiiiE toBR_b fullR_b pureR_b lenB_b lenD_b fromBR_b copy_b toBR_SR fullR_SR pureR_SR lenB_SR lenD_SR toBR_G fullR_G pureR_G lenB_G lenD_G toBR_TL fullR_TL pureR_TL lenB_TL lenD_TL toBR_LiE fullR_LiE pureR_LiE lenB_LiE lenD_LiE toBR_NL fullR_NL pureR_NL lenB_NL lenD_NL toBR_UL fullR_UL pureR_UL lenB_UL lenD_UL strInts_len byteRows_len toBR_y fullR_y pureR_y lenB_y lenD_y fromBR_y copy_y toBR_LyE fullR_LyE pureR_LyE lenB_LyE lenD_LyE toBR_LLyEE fullR_LLyEE pureR_LLyEE lenB_LLyEE lenD_LLyEE
inductive O68_0 where
  |k0 (w0:Int) (w1:Bool)
  |k1
def r68_0 (a0:K_G):List K_T→Int→O68_0
  |x0::y0,i=>
    if(!((((length (map b_N x0.f1)):Int)==0)==(i==0)))=true then(O68_0.k1) else
    (r68_0 a0 y0 (i+1))
  |[],i=>(O68_0.k0 i (decide (i <((length (map b_T a0.f4)):Int))))
def h68_0 (l0:Nat) (a0:K_G) (i:Int) :St:=⟨[(0,(.bptr l0 (b_G a0))),(3,(.one (.val (.int .i64 i))))],[]⟩
def ex68_0:O68_0→VX.Exit
  |.k0 _ _=>(.exit 0)
  |.k1=>.ret
def fin68_0 (l0:Nat) (a0:K_G):O68_0→St
  |.k0 w0 w1=>⟨[(0,(.bptr l0 (b_G a0))),(3,(.one (.val (.int .i64 w0)))),(10,(.one (.val (.bool w1))))],[]⟩
  |.k1=>⟨[(2,(.one (.val (.bool false))))],[]⟩
theorem t68_0 {l0:Nat} {a0:K_G} (hy0:length a0.f4*56≤140737488351232) (hy1:∀z∈a0.f4,ok_T z):∀(y0:List K_T) (p:List K_T),p++y0=a0.f4→Ev F X (.code l68_0 (h68_0 l0 a0 (length p:Int)) (ex68_0 (r68_0 a0 y0 (length p:Int))) (fin68_0 l0 a0 (r68_0 a0 y0 (length p:Int))))
  |[],p,hp0=>by
    have hc:=hcn b_T hp0
    exact lx 15 ya (.f (nt hc) (.h 14 (.b false) .nil)) rfl
  |x0::y0,p,hp0=>by
    have hc:=hcy b_T hp0
    have Hx0:=hxy hp0
    obtain⟨Mx0_0,Mx0_1,Mx0_2,Mx0_3⟩:=hy1 x0 (List.mem_of_getElem? Hx0)
    have hlen:=hly hp0
    have hw:wrap .i64 ((length p:Int)+1)=(length p:Int)+1:=wrap64 yb
    simp only[r68_0]
    have f1:0≤(length p:Int):=yb
    have P1 {hs q} (r:PS F X hs q):=(PS.f hc (.f f1 (.f (mp_ b_T Hx0) (.h 14 (.b true) (.h 26 (.row (b_T x0)) r)))))
    by_cases h_1:(!((((length (map b_N x0.f1)):Int)==0)==((length p:Int)==0)))=true
    · try simp only[if_pos h_1]
      exact lx 44 ya (P1 (.f h_1 (.h 41 (.b true) .nil))) rfl
    · try simp only[if_neg h_1]
      have ih:=t68_0 (l0:=l0) (a0:=a0) hy0 hy1 y0 (p++ [x0]) yd
      rw[pl1,← hw] at ih; rw[← hw]
      exact ly 48 ya (P1 (.f (nt h_1) (.f trivial (.h 41 (.b false) .nil)))) ih
def m68 (a0:K_G):Bool:=
  (match r68_0 a0 a0.f4 0 with | .k0 w0_0 w1_0=>true | .k1=>false)
theorem e68 {l0:Nat} {a0:K_G} (hy0:length a0.f4*56≤140737488351232) (hy1:∀z∈a0.f4,ok_T z):Ev F X (.call 68 [(.bptr l0 (b_G a0))] [] [] [(.one (.val (.bool (m68 a0))))]):=by
  unfold m68
  cases h0:r68_0 a0 a0.f4 0 with
  |k0 w0_0 w1_0=>
    try dsimp only
    have f0:=Eq.refl (h68_0 l0 a0 0 )
    exact cp ya (.f f0 (.f (ev_ (e:=ex68_0) (g:=(fin68_0 l0 a0)) h0 (t68_0 (l0:=l0) (a0:=a0) (by assumption) (by assumption) a0.f4 []  rfl)) (.h 4 (.loop (h68_0 l0 a0 0) (.exit 0) (fin68_0 l0 a0 (.k0 w0_0 w1_0))) .nil)))
  |k1=>
    try dsimp only
    have f0:=Eq.refl (h68_0 l0 a0 0 )
    exact cp ya (.f f0 (.f (ev_ (e:=ex68_0) (g:=(fin68_0 l0 a0)) h0 (t68_0 (l0:=l0) (a0:=a0) (by assumption) (by assumption) a0.f4 []  rfl)) (.h 4 (.loop (h68_0 l0 a0 0) .ret (fin68_0 l0 a0 (.k1))) .nil)))
inductive O128_0 where
  |k0 (w0:Int) (w1:Int) (w2:Bool)
def r128_0 (a0:(List Int)):List Int→Int→Int→O128_0
  |x0::y0,i,v0=>
    (r128_0 a0 y0 (i+1) (Int.tmod (wrap .i64 ((wrap .i64 ((wrap .i64 (v0*33))+(wrap .i64 (x0))))+1)) 2147483647))
  |[],i,v0=>(O128_0.k0 v0 i (decide (i <((length (map b_y a0)):Int))))
def h128_0 (l0_0:Nat) (a0:(List Int)) (i:Int) (v0:Int):St:=⟨[(0,(.one (.bor l0_0 (map b_y a0)))),(3,(.one (.val (.int .i64 v0)))),(4,(.one (.val (.int .i64 i))))],[]⟩
def ex128_0:O128_0→VX.Exit
  |.k0 _ _ _=>(.exit 0)
def fin128_0 (l0_0:Nat) (a0:(List Int)):O128_0→St
  |.k0 w0 w1 w2=>⟨[(0,(.one (.bor l0_0 (map b_y a0)))),(3,(.one (.val (.int .i64 w0)))),(4,(.one (.val (.int .i64 w1)))),(8,(.one (.val (.bool w2))))],[]⟩
theorem t128_0 {l0_0:Nat} {a0:(List Int)} (hy0:length a0*1≤140737488351232):∀(y0:List Int) (p:List Int) (v0:Int),p++y0=a0→Ev F X (.code l128_0 (h128_0 l0_0 a0 (length p:Int) v0) (ex128_0 (r128_0 a0 y0 (length p:Int) v0)) (fin128_0 l0_0 a0 (r128_0 a0 y0 (length p:Int) v0)))
  |[],p,v0,hp0=>by
    have hc:=hcn b_y hp0
    exact lx 9 ya (.f (nt hc) (.h 8 (.b false) .nil)) rfl
  |x0::y0,p,v0,hp0=>by
    have hc:=hcy b_y hp0
    have Hx0:=hxy hp0
    have hlen:=hly hp0
    have hw:wrap .i64 ((length p:Int)+1)=(length p:Int)+1:=wrap64 yb
    simp only[r128_0]
    have f1:0≤(length p:Int):=yb
    have f5:(2147483647:Int)≠0:=yb
    have ih:=t128_0 (l0_0:=l0_0) (a0:=a0) hy0 y0 (p++ [x0]) (Int.tmod (wrap .i64 ((wrap .i64 ((wrap .i64 (v0*33))+(wrap .i64 (x0))))+1)) 2147483647) yd
    rw[pl1,← hw] at ih; rw[← hw]
    exact ly 37 ya (.f hc (.f f1 (.f (mp_ b_y Hx0) (.f trivial (.f trivial (.f f5 (.f trivial (.h 8 (.b true) (.h 18 (.row [(.val (.int .u8 x0))]) .nil))))))))) ih
def m128 (a0:(List Int)):Int:=
  (match r128_0 a0 a0 0 5381 with | .k0 w0_0 w1_0 w2_0=>w0_0)
theorem e128 {l0_0:Nat} {a0:(List Int)} (hy0:length a0*1≤140737488351232):Ev F X (.call 128 [(.one (.bor l0_0 (map b_y a0)))] [] [] [(.one (.val (.int .i64 (m128 a0))))]):=by
  unfold m128
  cases h0:r128_0 a0 a0 0 5381 with
  |k0 w0_0 w1_0 w2_0=>
    try dsimp only
    have f0:=Eq.refl (h128_0 l0_0 a0 0 5381)
    exact cp ya (.f f0 (.f (ev_ (e:=ex128_0) (g:=(fin128_0 l0_0 a0)) h0 (t128_0 (l0_0:=l0_0) (a0:=a0) (by assumption) a0 [] 5381 rfl)) (.h 6 (.loop (h128_0 l0_0 a0 0 5381) (.exit 0) (fin128_0 l0_0 a0 (.k0 w0_0 w1_0 w2_0))) .nil)))
def m145 (a0:Int):(List Int):=
  [(wrap .u8 ((Int.fdiv a0 (2 ^(min (toNat 24) (IntKind.bits .i64)))))),(wrap .u8 ((Int.fdiv a0 (2 ^(min (toNat 16) (IntKind.bits .i64)))))),(wrap .u8 ((Int.fdiv a0 (2 ^(min (toNat 8) (IntKind.bits .i64)))))),(wrap .u8 (a0))]
theorem e145 {a0:Int}:Ev F X (.call 145 [(.one (.val (.int .i64 a0)))] [] [] [(.one (.own 1 (map d_y (m145 a0))))]):=by
  have f0:0≤(24:Int):=yb
  have f1:0≤(16:Int):=yb
  have f2:0≤(8:Int):=yb
  have f5:pureR [[(.val (.int .u8 (wrap .u8 ((Int.fdiv a0 (2 ^(min (toNat 24) (IntKind.bits .i64))))))))],[(.val (.int .u8 (wrap .u8 ((Int.fdiv a0 (2 ^(min (toNat 16) (IntKind.bits .i64))))))))],[(.val (.int .u8 (wrap .u8 ((Int.fdiv a0 (2 ^(min (toNat 8) (IntKind.bits .i64))))))))],[(.val (.int .u8 (wrap .u8 (a0))))]]=true:=yh
  exact cp ya (.f f0 (.f f1 (.f f2 (pe 0 (pe 4 (.f f5 .nil))))))
theorem four_len (a:Int):length (m145 a)=4:=rfl
inductive O113_0 where
  |k0 (w0:List Int) (w1:Int) (w2:Bool)
def r113_0 (a0:(List Int)):List Int→Int→List Int→O113_0
  |x0::y0,i,v0=>
    (r113_0 a0 y0 (i+1) (v0++(m145 x0)))
  |[],i,v0=>(O113_0.k0 v0 i (decide (i <((length (map b_i a0)):Int))))
def h113_0 (l0_0:Nat) (a0:(List Int)) (i:Int) (v0:List Int):St:=⟨[(0,(.one (.bor l0_0 (map b_i a0)))),(3,(.one (.ref ⟨(3,0,0),[],0,(length (map d_y v0))⟩))),(4,(.one (.val (.int .i64 i))))],[((3,0,0),.live ⟨1,(map d_y v0),[]⟩)]⟩
def ex113_0:O113_0→VX.Exit
  |.k0 _ _ _=>(.exit 0)
def fin113_0 (l0_0:Nat) (a0:(List Int)):O113_0→St
  |.k0 w0 w1 w2=>⟨[(0,(.one (.bor l0_0 (map b_i a0)))),(3,(.one (.ref ⟨(3,0,0),[],0,(length (map d_y w0))⟩))),(4,(.one (.val (.int .i64 w1)))),(9,(.one (.val (.bool w2))))],[((3,0,0),.live ⟨1,(map d_y w0),[]⟩)]⟩
theorem t113_0 {l0_0:Nat} {a0:(List Int)} (hy0:length a0≤1000):∀(y0:List Int) (p:List Int) (v0:List Int),p++y0=a0→length v0+4*length y0≤4000→Ev F X (.code l113_0 (h113_0 l0_0 a0 (length p:Int) v0) (ex113_0 (r113_0 a0 y0 (length p:Int) v0)) (fin113_0 l0_0 a0 (r113_0 a0 y0 (length p:Int) v0)))
  |[],p,v0,hp0,hi0=>by
    have hc:=hcn b_i hp0
    have hj0:=hi0; try simp only[LN,Int.toNat_natCast] at hj0
    exact lx 9 ya (.f (nt hc) (.h 8 (.b false) .nil)) rfl
  |x0::y0,p,v0,hp0,hi0=>by
    have hc:=hcy b_i hp0
    have Hx0:=hxy hp0
    have hlen:=hly hp0
    have hw:wrap .i64 ((length p:Int)+1)=(length p:Int)+1:=wrap64 yb
    have hj0:=hi0; try simp only[LN,Int.toNat_natCast] at hj0
    simp only[r113_0]
    have f1:0≤(length p:Int):=yb
    have f4:0+(length (map d_y v0))≤(length (map d_y v0)):=yb
    have f5:0+(length (map d_y (m145 x0)))≤(length (map d_y (m145 x0))):=yb
    have f6:((take (length (map d_y (m145 x0))) (drop 0 (map d_y (m145 x0)))).all fun x=>x.all copyable)=true:=(ct_y _ _ _)
    have f7:(length ((take (length (map d_y v0)) (drop 0 (map d_y v0)))++(take (length (map d_y (m145 x0))) (drop 0 (map d_y (m145 x0))))))*1≤70368744177664:=yO
    have f8:∀r∈((take (length (map d_y (m145 x0))) (drop 0 (map d_y (m145 x0)))):List (List D)),r.length=1:=ye
    have f9:((take (length (map d_y v0)) (drop 0 (map d_y v0)))++(take (length (map d_y (m145 x0))) (drop 0 (map d_y (m145 x0)))))=(map d_y (v0++(m145 x0))):=yq
    have st:=ch b113_0 (h113_0 l0_0 a0 (length p:Int) v0) ⟨[(0,(.one (.bor l0_0 (map b_i a0)))),(3,(.one (.ref ⟨(3,0,0),[],0,(length ((take (length (map d_y v0)) (drop 0 (map d_y v0)))++(take (length (map d_y (m145 x0))) (drop 0 (map d_y (m145 x0))))))⟩))),(4,(.oi (wrap .i64 ((length p:Int)+1))))],[((3,0,0),.live ⟨1,(map d_y (v0++(m145 x0))),[]⟩)]⟩ .normal 32 ya (.f hc (.f f1 (.f (mp_ b_i Hx0) (.h 8 (.b true) (.h 16 (.row [(.i x0)]) (.r 20 [] [] (e145 (a0:=x0)) (.f f4 (.f f5 (.f f6 (.f f7 (.f f8 (.f f9 (.f trivial (.h 22 (.b true) (.h 25 (.norm (3,0,0) (map d_y (v0++(m145 x0)))) .nil)))))))))))))))
    have ih:=t113_0 (l0_0:=l0_0) (a0:=a0) hy0 y0 (p++ [x0]) (v0++(m145 x0)) yd yO
    rw[pl1] at ih
    rw[show (⟨[(0,(.one (.bor l0_0 (map b_i a0)))),(3,(.one (.ref ⟨(3,0,0),[],0,(length ((take (length (map d_y v0)) (drop 0 (map d_y v0)))++(take (length (map d_y (m145 x0))) (drop 0 (map d_y (m145 x0))))))⟩))),(4,(.oi (wrap .i64 ((length p:Int)+1))))],[((3,0,0),.live ⟨1,(map d_y (v0++(m145 x0))),[]⟩)]⟩:St)=h113_0 l0_0 a0 ((length p:Int)+1) (v0++(m145 x0)) from(by unfold h113_0; simp[hw,take_of_length_le,d_y,ol112,ol83,ol84,ol51,ol21,four_len]; done)] at st
    exact .loopN st ih
theorem sl113 {a:List Int}:∀ {l:List Int} {i:Int} {v w:List Int} {j b},r113_0 a l i v=.k0 w j b→w.length=v.length+4*l.length
  |[],i,v,w,j,b,h=>by simp only[r113_0] at h; injection h with h; subst h; simp
  |x::l,i,v,w,j,b,h=>by
    simp only[r113_0] at h
    have q:=sl113 h
    simp only[length_append,length_cons,four_len] at q⊢; omega
def m113 (a0:(List Int)):Int:=
  (match r113_0 a0 a0 0 ([]) with | .k0 w0_0 w1_0 w2_0=>(m128 w0_0))
theorem e113 {l0_0:Nat} {a0:(List Int)} (hy0:length a0≤1000):Ev F X (.call 113 [(.one (.bor l0_0 (map b_i a0)))] [] [] [(.one (.val (.int .i64 (m113 a0))))]):=by
  unfold m113
  cases h0:r113_0 a0 a0 0 ([]) with
  |k0 w0_0 w1_0 w2_0=>
    try dsimp only
    have f0:=Eq.refl (h113_0 l0_0 a0 0 ([]))
    exact cp ya (.f f0 (.f (ev_ (e:=ex113_0) (g:=(fin113_0 l0_0 a0)) h0 (t113_0 (l0_0:=l0_0) (a0:=a0) (by assumption) a0 [] ([]) rfl yO)) (ln_y w0_0 (.h 8 (.loop (h113_0 l0_0 a0 0 ([])) (.exit 0) (fin113_0 l0_0 a0 (.k0 w0_0 w1_0 w2_0))) (.r 12 [] [(map b_y w0_0)] (e128 (l0_0:=0) (a0:=w0_0) (by have q:=sl113 ‹_›; simp only[length_nil] at q; omega)) .nil)))))
theorem e126 {a0:Int} {a1:Int}:Ev F X (.call 126 [(.one (.val (.int .i64 a0))),(.one (.val (.int .i64 a1)))] [] [] [(.one (.val (.int .i64 (m113 [a0,a1]))))]):=by
  have f0:2≤2:=yb
  have f1:fullR (take 2 (drop 0 [[(.i a0)],[(.i a1)]]))=true:=yE
  have f2:toBR (take 2 (drop 0 [[(.i a0)],[(.i a1)]]))=[[(.i a0)],[(.i a1)]]:=yE
  exact cp ya (.f f0 (.f f1 (.f f2 (.r 9 [] [[[(.i a0)],[(.i a1)]]] (e113 (l0_0:=0) (a0:=[a0,a1]) (by simp only[length_cons,length_nil]; omega)) .nil))))
def m127 (a0:(List Int)) (a1:Int):Int:=
  if ((Int.tmod a1 2) == 1) = true then (if (decide ((wrap .i64 (a1 - 1)) ≥ ((length (map b_i a0)) : Int))) = true then (getD a0 (toNat a1) 0) else
    (getD a0 (toNat (wrap .i64 (a1 - 1))) 0)) else
  if(decide ((wrap .i64 (a1+1))≥((length (map b_i a0)):Int)))=true then(getD a0 (toNat a1) 0) else
    (getD a0 (toNat (wrap .i64 (a1+1))) 0)
theorem e127 {l0_0:Nat} {a0:(List Int)} {a1:Int} (hy0:0≤a1) (hy1:a1 <(length a0:Int)) (hy2:length a0≤1000):Ev F X (.call 127 [(.one (.bor l0_0 (map b_i a0))),(.one (.val (.int .i64 a1)))] [] [] [(.one (.val (.int .i64 (m127 a0 a1))))]):=by
  unfold m127
  have f1:(2:Int)≠0:=yb
  by_cases h0:((Int.tmod a1 2)==1)=true
  · try simp only[if_pos h0]
    by_cases h1:(decide ((wrap .i64 (a1 - 1))≥((length (map b_i a0)):Int)))=true
    · try simp only[if_pos h1]
      have f4:0≤a1:=‹_›
      exact cp ya (.f trivial (.f f1 (.f h0 (.f h1 (.f f4 (.f (mp_ b_i (getD_at a0 (toNat a1) 0 yb)) (.h 14 (.b true) (.h 29 (.b true) (.h 39 (.row [(.i (getD a0 (toNat a1) 0))]) .nil)))))))))
    · try simp only[if_neg h1]
      have f4:0≤(wrap .i64 (a1 - 1)):=(by have q:=md1 hy0 ‹_›; rw[wrap64 yb]; omega)
      exact cp ya (.f trivial (.f f1 (.f h0 (.f (nt h1) (.f f4 (.f (mp_ b_i (getD_at a0 (toNat (wrap .i64 (a1 - 1))) 0 (by have q:=md1 hy0 ‹_›; rw[wrap64 yb]; omega))) (.h 14 (.b true) (.h 29 (.b false) (.h 35 (.row [(.i (getD a0 (toNat (wrap .i64 (a1 - 1))) 0))]) .nil)))))))))
  · try simp only[if_neg h0]
    by_cases h1:(decide ((wrap .i64 (a1+1))≥((length (map b_i a0)):Int)))=true
    · try simp only[if_pos h1]
      have f4:0≤a1:=‹_›
      exact cp ya (.f trivial (.f f1 (.f (nt h0) (.f h1 (.f f4 (.f (mp_ b_i (getD_at a0 (toNat a1) 0 yb)) (.h 14 (.b false) (.h 23 (.b true) (.h 33 (.row [(.i (getD a0 (toNat a1) 0))]) .nil)))))))))
    · try simp only[if_neg h1]
      have f4:0≤(wrap .i64 (a1+1)):=yak
      exact cp ya (.f trivial (.f f1 (.f (nt h0) (.f (nt h1) (.f f4 (.f (mp_ b_i (getD_at a0 (toNat (wrap .i64 (a1+1))) 0 yal)) (.h 14 (.b false) (.h 23 (.b false) (.h 29 (.row [(.i (getD a0 (toNat (wrap .i64 (a1+1))) 0))]) .nil)))))))))
inductive O98_0 where
  |k0 (w0:List Int) (w1:Int) (w2:Bool)
def r98_0 (a0:(List Int)):Nat→List Int→Int→O98_0
  |n+1,v0,v2=>
    if(decide (v2 <((length (map b_i a0)):Int)))=true then(r98_0 a0 n (v0++([(m113 [(getD a0 (toNat v2) 0),(m127 a0 v2)])])) (wrap .i64 (v2+2))) else
    (O98_0.k0 v0 v2 (decide (v2 <((length (map b_i a0)):Int))))
  |0,v0,v2=>(O98_0.k0 v0 v2 (decide (v2 <((length (map b_i a0)):Int))))
def h98_0 (l0_0:Nat) (a0:(List Int)) (v0:List Int) (v2:Int):St:=⟨[(0,(.one (.bor l0_0 (map b_i a0)))),(3,(.one (.ref ⟨(3,0,0),[],0,(length (map d_i v0))⟩))),(4,(.one (.val (.int .i64 v2))))],[((3,0,0),.live ⟨1,(map d_i v0),[]⟩)]⟩
def ex98_0:O98_0→VX.Exit
  |.k0 _ _ _=>(.exit 0)
def fin98_0 (l0_0:Nat) (a0:(List Int)):O98_0→St
  |.k0 w0 w1 w2=>⟨[(0,(.one (.bor l0_0 (map b_i a0)))),(3,(.one (.ref ⟨(3,0,0),[],0,(length (map d_i w0))⟩))),(4,(.one (.val (.int .i64 w1)))),(9,(.one (.val (.bool w2))))],[((3,0,0),.live ⟨1,(map d_i w0),[]⟩)]⟩
theorem t98_0 {l0_0:Nat} {a0:(List Int)} (hy0:length a0≤1000):∀(n:Nat) (v0:List Int) (v2:Int),0≤v2→v2≤(length a0:Int)+1→2*(length v0:Int)=v2→toNat ((length a0:Int) - v2)≤n→Ev F X (.code l98_0 (h98_0 l0_0 a0 v0 v2) (ex98_0 (r98_0 a0 n v0 v2)) (fin98_0 l0_0 a0 (r98_0 a0 n v0 v2)))
  |0,v0,v2,hi0,hi1,hi2,hn=>by
    have hc:¬(decide (v2 <((length (map b_i a0)):Int)))=true:=by first |(exact fuel64_zero hn) |(simp only[decide_eq_true_eq] at*; omega) |(simp at*; omega)
    exact lx 9 ya (.f (nt hc) (.h 8 (.b false) .nil)) rfl
  |n+1,v0,v2,hi0,hi1,hi2,hn=>by
    simp only[r98_0]
    by_cases h_0:(decide (v2 <((length (map b_i a0)):Int)))=true
    · try simp only[if_pos h_0]
      have f1:0≤v2:=‹_›
      have f5:0+(length (map d_i v0))≤(length (map d_i v0)):=yb
      have f6:1≤1:=yb
      have f7:((take 1 (drop 0 [[(.i (m113 [(getD a0 (toNat v2) 0),(m127 a0 v2)]))]])).all fun x=>x.all copyable)=true:=yE
      have f8:(length ((take (length (map d_i v0)) (drop 0 (map d_i v0)))++([[(.i (m113 [(getD a0 (toNat v2) 0),(m127 a0 v2)]))]]:List (List D))))*8≤70368744177664:=yp
      have f9:∀r∈([[(.i (m113 [(getD a0 (toNat v2) 0),(m127 a0 v2)]))]]:List (List D)),r.length=1:=(by unfold m113 m127;(repeat' split)<;>simp_all<;>omega)
      have f10:((take (length (map d_i v0)) (drop 0 (map d_i v0)))++([[(.i (m113 [(getD a0 (toNat v2) 0),(m127 a0 v2)]))]]:List (List D)))=(map d_i (v0++([(m113 [(getD a0 (toNat v2) 0),(m127 a0 v2)])]))):=yaa
      have st:=ch b98_0 (h98_0 l0_0 a0 v0 v2) ⟨[(0,(.one (.bor l0_0 (map b_i a0)))),(3,(.one (.ref ⟨(3,0,0),[],0,(length ((take (length (map d_i v0)) (drop 0 (map d_i v0)))++([[(.i (m113 [(getD a0 (toNat v2) 0),(m127 a0 v2)]))]]:List (List D))))⟩))),(4,(.oi (wrap .i64 (v2+2))))],[((3,0,0),.live ⟨1,(map d_i (v0++([(m113 [(getD a0 (toNat v2) 0),(m127 a0 v2)])]))),[]⟩)]⟩ .normal 40 ya (.f h_0 (.f f1 (.f (mp_ b_i (getD_at a0 (toNat v2) 0 yp)) (.h 8 (.b true) (.h 16 (.row [(.i (getD a0 (toNat v2) 0))]) (.r 24 [] [] (e127 (l0_0:=(l0_0+1)) (a0:=a0) (a1:=v2) ‹_› yp ‹_›) (.r 26 [] [] (e126 (a0:=(getD a0 (toNat v2) 0)) (a1:=(m127 a0 v2))) (.f f5 (.f f6 (.f f7 (.f f8 (.f f9 (.f f10 (.f trivial (.h 30 (.b true) (.h 33 (.norm (3,0,0) (map d_i (v0++([(m113 [(getD a0 (toNat v2) 0),(m127 a0 v2)])])))) .nil))))))))))))))))
      have ih:=t98_0 (l0_0:=l0_0) (a0:=a0) hy0 n (v0++([(m113 [(getD a0 (toNat v2) 0),(m127 a0 v2)])])) (wrap .i64 (v2+2)) yg yg yg yg
      rw[show (⟨[(0,(.one (.bor l0_0 (map b_i a0)))),(3,(.one (.ref ⟨(3,0,0),[],0,(length ((take (length (map d_i v0)) (drop 0 (map d_i v0)))++([[(.i (m113 [(getD a0 (toNat v2) 0),(m127 a0 v2)]))]]:List (List D))))⟩))),(4,(.oi (wrap .i64 (v2+2))))],[((3,0,0),.live ⟨1,(map d_i (v0++([(m113 [(getD a0 (toNat v2) 0),(m127 a0 v2)])]))),[]⟩)]⟩:St)=h98_0 l0_0 a0 (v0++([(m113 [(getD a0 (toNat v2) 0),(m127 a0 v2)])])) (wrap .i64 (v2+2)) from(by unfold h98_0; simp[take_of_length_le,d_i,ol112,ol83,ol84,ol51,ol21,four_len]; done)] at st
      exact .loopN st ih
    · try simp only[if_neg h_0]
      exact lx 9 ya (.f (nt h_0) (.h 8 (.b false) .nil)) rfl
def post98_0 (a0:(List Int)):O98_0→Prop
  |.k0 w0 _ _=>2*(length w0:Int)≤(length a0:Int)+1
theorem z98_0 {a0:(List Int)} (hy0:length a0≤1000):∀(n:Nat) (v0:List Int) (v2:Int),0≤v2→v2≤(length a0:Int)+1→2*(length v0:Int)=v2→post98_0 a0 (r98_0 a0 n v0 v2)
  |0,v0,v2,hi0,hi1,hi2=>by
    simp only[r98_0]
    first | trivial |(show _ ; simp only[post98_0]; omega) |(simp only[post98_0] at*; omega) |(simp only[decide_eq_true_eq,length_map,length_append,length_cons,length_nil] at*; rw[wrap64 yb]; omega) |(simp; done) |(simp only[decide_eq_true_eq] at*; omega)
  |n+1,v0,v2,hi0,hi1,hi2=>by
    simp only[r98_0]
    by_cases h_0:(decide (v2 <((length (map b_i a0)):Int)))=true
    · try simp only[if_pos h_0]
      exact z98_0 (a0:=a0) hy0 n (v0++([(m113 [(getD a0 (toNat v2) 0),(m127 a0 v2)])])) (wrap .i64 (v2+2)) yg yg yg
    · try simp only[if_neg h_0]
      first | trivial |(show _ ; simp only[post98_0]; omega) |(simp only[post98_0] at*; omega) |(simp only[decide_eq_true_eq,length_map,length_append,length_cons,length_nil] at*; rw[wrap64 yb]; omega) |(simp; done) |(simp only[decide_eq_true_eq] at*; omega)
def m98 (a0:(List Int)):(List Int):=
  (match r98_0 a0 (toNat ((length a0:Int) - 0)) ([]) 0 with | .k0 w0_0 w1_0 w2_0=>w0_0)
theorem e98 {l0_0:Nat} {a0:(List Int)} (hy0:length a0≤1000):Ev F X (.call 98 [(.one (.bor l0_0 (map b_i a0)))] [] [] [(.one (.own 1 (map d_i (m98 a0))))]):=by
  unfold m98
  cases h0:r98_0 a0 (toNat ((length a0:Int) - 0)) ([]) 0 with
  |k0 w0_0 w1_0 w2_0=>
    try dsimp only
    have zh0:=z98_0 (a0:=a0) (by assumption) (toNat ((length a0:Int) - 0)) ([]) 0 yb yb (by rfl); rw[h0] at zh0; simp only[post98_0] at zh0
    have f0:=Eq.refl (h98_0 l0_0 a0 ([]) 0)
    exact cp ya (.f f0 (.f (ev_ (e:=ex98_0) (g:=(fin98_0 l0_0 a0)) h0 (t98_0 (l0_0:=l0_0) (a0:=a0) (by assumption) (toNat ((length a0:Int) - 0)) ([]) 0 yb yb (by rfl) (Nat.le_refl _))) (pe 0 (pe (length (map d_i w0_0)) (.f (pureR_i w0_0) (.h 8 (.loop (h98_0 l0_0 a0 ([]) 0) (.exit 0) (fin98_0 l0_0 a0 (.k0 w0_0 w1_0 w2_0))) .nil))))))
theorem abl98 (a:List Int) (h:a.length≤1000):2*(m98 a).length≤a.length+1:=by
  have z:=z98_0 (a0:=a) h (toNat ((length a:Int) - 0)) [] 0 yb yb yay
  show 2*(match r98_0 a (toNat ((length a:Int) - 0)) [] 0 with | .k0 w _ _=>w).length≤a.length+1
  revert z
  generalize r98_0 a (toNat ((length a:Int) - 0)) [] 0=r
  intro z
  cases r with
  |k0 w0 w1 w2=>simp only[post98_0] at z; show 2*w0.length≤_; omega
theorem abr98 (a:List Int) (h:a.length≤1000):∀(k:Nat) (v:List Int) (i:Int),0≤i→i≤(a.length:Int)+1→2*(v.length:Int)=i→(a.length:Int) - i≤(k:Int)→a.length≤2*(match r98_0 a k v i with | .k0 w _ _=>w).length
  |0,v,i,h0,h1,h2,h3=>by simp only[r98_0]; omega
  |k+1,v,i,h0,h1,h2,h3=>by
    simp only[r98_0]
    by_cases c:(decide (i <((length (map b_i a)):Int)))=true
    · rw[if_pos c]
      simp only[decide_eq_true_eq,length_map] at c
      have e:wrap .i64 (i+2)=i+2:=wrap64 yb
      rw[e]
      exact abr98 a h k _ (i+2) yb yb (by simp only[length_append,length_cons,length_nil]; omega) yb
    · rw[if_neg c]
      simp only[decide_eq_true_eq,length_map] at c
      show a.length≤2*v.length
      omega
theorem abu98 (a:List Int) (h:a.length≤1000):a.length≤2*(m98 a).length:=
  abr98 a h (toNat ((length a:Int) - 0)) [] 0 yb yb yay yb
inductive O69_1 where
  |k0 (w0:Int) (w1:Bool)
  |k1
def r69_1 (c0_69_1:List Int):Nat→Int→O69_1
  |n+1,v0=>
    if (decide ((wrap .i64 (v0 + 1)) < ((length (map d_i c0_69_1)) : Int))) = true then (if ((getD c0_69_1 (toNat v0) 0) == (getD c0_69_1 (toNat (wrap .i64 (v0 + 1))) 0)) = true then (O69_1.k1) else
      (r69_1 c0_69_1 n (wrap .i64 (v0+2)))) else
    (O69_1.k0 v0 (decide ((wrap .i64 (v0+1)) <((length (map d_i c0_69_1)):Int))))
  |0,v0=>(O69_1.k0 v0 (decide ((wrap .i64 (v0+1)) <((length (map d_i c0_69_1)):Int))))
def h69_1 (a0:(List Int)) (c0_69_1:List Int) (v0:Int):St:=⟨[(3,(.one (.ref ⟨(3,0,0),[],0,(length (map d_i c0_69_1))⟩))),(4,(.one (.val (.int .i64 v0))))],[((3,0,0),.live ⟨1,(map d_i c0_69_1),[]⟩)]⟩
def ex69_1:O69_1→VX.Exit
  |.k0 _ _=>(.exit 2)
  |.k1=>.ret
def fin69_1 (a0:(List Int)) (c0_69_1:List Int):O69_1→St
  |.k0 w0 w1=>⟨[(3,(.one (.ref ⟨(3,0,0),[],0,(length (map d_i c0_69_1))⟩))),(4,(.one (.val (.int .i64 w0)))),(13,(.one (.val (.bool w1))))],[((3,0,0),.live ⟨1,(map d_i c0_69_1),[]⟩)]⟩
  |.k1=>⟨[(2,(.one (.val (.bool true))))],[]⟩
theorem t69_1 {a0:(List Int)} {c0_69_1:List Int} (hy0:length c0_69_1≤140737488351232):∀(n:Nat) (v0:Int),0≤v0→v0≤(length c0_69_1:Int)+2→length c0_69_1≤1000→toNat ((length c0_69_1:Int) - v0)≤n→Ev F X (.code l69_1 (h69_1 a0 c0_69_1 v0) (ex69_1 (r69_1 c0_69_1 n v0)) (fin69_1 a0 c0_69_1 (r69_1 c0_69_1 n v0)))
  |0,v0,hi0,hi1,hi2,hn=>by
    have hc:¬(decide ((wrap .i64 (v0+1)) <((length (map d_i c0_69_1)):Int)))=true:=by first |(have e1:wrap .i64 (v0+1)=v0+1:=wrap64 yb; have e0:wrap .i64 (v0 - 1)=v0 - 1:=wrap64 yb; have e2:wrap .i64 (v0+2)=v0+2:=wrap64 yb; simp only[decide_eq_true_eq,length_map,e1,e0,e2]; omega) |(exact fuel64_zero hn) |(simp only[decide_eq_true_eq] at*; omega) |(simp at*; omega)
    exact lx 11 ya (.f trivial (.f (nt hc) (.h 10 (.b false) .nil))) rfl
  |n+1,v0,hi0,hi1,hi2,hn=>by
    simp only[r69_1]
    by_cases h_0:(decide ((wrap .i64 (v0+1)) <((length (map d_i c0_69_1)):Int)))=true
    · try simp only[if_pos h_0]
      have f2:0+(length (map d_i c0_69_1))≤(length (map d_i c0_69_1)):=yb
      have f3:0≤v0∧v0 <((length (map d_i c0_69_1)):Int):=yc
      have f7:0≤(wrap .i64 (v0+1))∧(wrap .i64 (v0+1)) <((length (map d_i c0_69_1)):Int):=yc
      have P1 {hs q} (r:PS F X hs q):=(PS.f trivial (.f h_0 (.f f2 (.f f3 (.f (mz_ d_i (getD_at c0_69_1 (toNat v0) 0 yc)) (.f trivial (.f f2 (.f f7 (.f (mz_ d_i (getD_at c0_69_1 (toNat (wrap .i64 (v0+1))) 0 yc)) (.h 10 (.b true) (.h 18 (.rowD [(.i (getD c0_69_1 (toNat v0) 0))]) (.h 28 (.rowD [(.i (getD c0_69_1 (toNat (wrap .i64 (v0+1))) 0))]) r))))))))))))
      by_cases h_1:((getD c0_69_1 (toNat v0) 0)==(getD c0_69_1 (toNat (wrap .i64 (v0+1))) 0))=true
      · try simp only[if_pos h_1]
        exact lx 34 ya (P1 (.f h_1 (.h 31 (.b true) .nil))) rfl
      · try simp only[if_neg h_1]
        have ih:=t69_1 (a0:=a0) (c0_69_1:=c0_69_1) hy0 n (wrap .i64 (v0+2)) yc yc (by assumption) yc
        exact ly 38 ya (P1 (.f (nt h_1) (.f trivial (.h 31 (.b false) .nil)))) ih
    · try simp only[if_neg h_0]
      exact lx 11 ya (.f trivial (.f (nt h_0) (.h 10 (.b false) .nil))) rfl
inductive O69_0 where
  |k0 (w0:List Int) (w1:Bool)
  |k1
def r69_0 :Nat→List Int→O69_0
  |n+1,v0=>
    if(decide (((length (map d_i v0)):Int) > 1))=true then(match r69_1 v0 (toNat ((length v0:Int) - 0)) 0 with | .k0 w0_1 w1_1=>(r69_0 n (m98 v0)) | .k1=>(O69_0.k1)) else
    (O69_0.k0 v0 (decide (((length (map d_i v0)):Int) > 1)))
  |0,v0=>(O69_0.k0 v0 (decide (((length (map d_i v0)):Int) > 1)))
def h69_0 (a0:(List Int)) (v0:List Int):St:=⟨[(3,(.one (.ref ⟨(3,0,0),[],0,(length (map d_i v0))⟩)))],[((3,0,0),.live ⟨1,(map d_i v0),[]⟩)]⟩
def ex69_0:O69_0→VX.Exit
  |.k0 _ _=>(.exit 0)
  |.k1=>.ret
def fin69_0 (a0:(List Int)):O69_0→St
  |.k0 w0 w1=>⟨[(3,(.one (.ref ⟨(3,0,0),[],0,(length (map d_i w0))⟩))),(8,(.one (.val (.bool w1))))],[((3,0,0),.live ⟨1,(map d_i w0),[]⟩)]⟩
  |.k1=>⟨[(2,(.one (.val (.bool true))))],[]⟩
theorem t69_0 {a0:(List Int)} (hy0:length a0≤1000):∀(n:Nat) (v0:List Int),length v0≤1000→length v0≤n→Ev F X (.code l69_0 (h69_0 a0 v0) (ex69_0 (r69_0 n v0)) (fin69_0 a0 (r69_0 n v0)))
  |0,v0,hi0,hn=>by
    have hc:¬(decide (((length (map d_i v0)):Int) > 1))=true:=by first |(simp only[decide_eq_true_eq,length_map]; omega) |(exact fuel64_zero hn) |(simp only[decide_eq_true_eq] at*; omega) |(simp at*; omega)
    exact lx 7 ya (.f (nt hc) (.h 6 (.b false) .nil)) rfl
  |n+1,v0,hi0,hn=>by
    simp only[r69_0]
    by_cases h_0:(decide (((length (map d_i v0)):Int) > 1))=true
    · try simp only[if_pos h_0]
      cases h_1:r69_1 v0 (toNat ((length v0:Int) - 0)) 0 with
      |k0 w0_1 w1_1=>
        try dsimp only
        have f1:=Eq.refl (h69_1 a0 v0 0)
        have ih:=t69_0 (a0:=a0) hy0 n (m98 v0) (by have q:=abl98 v0 yb; omega) (by have q:=abl98 v0 yb; simp only[decide_eq_true_eq,length_map] at h_0; omega)
        exact ly 16 ya (.f h_0 (.f f1 (.f (ev_ (e:=ex69_1) (g:=(fin69_1 a0 v0)) h_1 (t69_1 (a0:=a0) (c0_69_1:=v0) yb (toNat ((length v0:Int) - 0)) 0 yb yb yb (Nat.le_refl _))) (ln_i v0 (.h 6 (.b true) (.h 9 (.loop (h69_1 a0 v0 0) (.exit 2) (fin69_1 a0 v0 (.k0 w0_1 w1_1))) (.r 13 [] [(map b_i v0)] (e98 (l0_0:=0) (a0:=v0) ‹_›) (pe 0 (pe (length (map d_i (m98 v0))) .nil))))))))) ih
      |k1=>
        try dsimp only
        have f1:=Eq.refl (h69_1 a0 v0 0)
        exact lx 10 ya (.f h_0 (.f f1 (.f (ev_ (e:=ex69_1) (g:=(fin69_1 a0 v0)) h_1 (t69_1 (a0:=a0) (c0_69_1:=v0) yb (toNat ((length v0:Int) - 0)) 0 yb yb yb (Nat.le_refl _))) (.h 6 (.b true) (.h 9 (.loop (h69_1 a0 v0 0) .ret (fin69_1 a0 v0 (.k1))) .nil))))) rfl
    · try simp only[if_neg h_0]
      exact lx 7 ya (.f (nt h_0) (.h 6 (.b false) .nil)) rfl
def m69 (a0:(List Int)):Bool:=
  (match r69_0 (length a0) a0 with | .k0 w0_0 w1_0=>false | .k1=>true)
theorem e69 {a0:(List Int)} (hy0:length a0≤1000):Ev F X (.call 69 [(.one (.ref ⟨(0,0,0),[],0,(length (map d_i a0))⟩))] [((0,0,0),⟨1,(map d_i a0),[]⟩)] [] [(.one (.val (.bool (m69 a0))))]):=by
  unfold m69
  cases h0:r69_0 (length a0) a0 with
  |k0 w0_0 w1_0=>
    try dsimp only
    have f2:=Eq.refl (h69_0 a0 a0)
    exact cq [] ya (pe 0 (pe (length (map d_i a0)) (.f f2 (.f (ev_ (e:=ex69_0) (g:=(fin69_0 a0)) h0 (t69_0 (a0:=a0) (by assumption) (length a0) a0 yb (Nat.le_refl _))) (.h 6 (.loop (h69_0 a0 a0) (.exit 0) (fin69_0 a0 (.k0 w0_0 w1_0))) .nil)))))
  |k1=>
    try dsimp only
    have f2:=Eq.refl (h69_0 a0 a0)
    exact cq [] ya (pe 0 (pe (length (map d_i a0)) (.f f2 (.f (ev_ (e:=ex69_0) (g:=(fin69_0 a0)) h0 (t69_0 (a0:=a0) (by assumption) (length a0) a0 yb (Nat.le_refl _))) (.h 6 (.loop (h69_0 a0 a0) .ret (fin69_0 a0 (.k1))) .nil)))))
def m151 (a0:Int):(List Int):=
  if(decide (a0 < 253))=true then[(wrap .u8 (a0))] else
  [253,(wrap .u8 ((Int.tmod a0 256))),(wrap .u8 ((wrap .i64 (Int.tdiv a0 256))))]
theorem e151 {a0:Int}:Ev F X (.call 151 [(.one (.val (.int .i64 a0)))] [] [] [(.one (.own 1 (map d_y (m151 a0))))]):=by
  unfold m151
  by_cases h0:(decide (a0 < 253))=true
  · try simp only[if_pos h0]
    have f3:pureR [[(.val (.int .u8 (wrap .u8 (a0))))]]=true:=yh
    exact cp ya (.f h0 (pe 0 (pe 1 (.f f3 (.h 6 (.b true) .nil)))))
  · try simp only[if_neg h0]
    have f1:(256:Int)≠0:=yb
    have f5:pureR [[(.val (.int .u8 253))],[(.val (.int .u8 (wrap .u8 ((Int.tmod a0 256)))))],[(.val (.int .u8 (wrap .u8 ((wrap .i64 (Int.tdiv a0 256))))))]]=true:=yh
    exact cp ya (.f (nt h0) (.f f1 (.f f1 (pe 0 (pe 3 (.f f5 (.h 6 (.b false) .nil)))))))
theorem pl151 (a:Int):length (m151 a)≤3:=by
  unfold m151; split<;>simp
def m152 (a0:Int):(List Int):=
  ((m151 (Int.tmod a0 65536))++(m151 (wrap .i64 (Int.tdiv a0 65536))))
theorem e152 {a0:Int}:Ev F X (.call 152 [(.one (.val (.int .i64 a0)))] [] [] [(.one (.own 1 (map d_y (m152 a0))))]):=by
  have f0:(65536:Int)≠0:=yb
  have f4:0+(length (map d_y (m151 (Int.tmod a0 65536))))≤(length (map d_y (m151 (Int.tmod a0 65536)))):=yb
  have f5:0+(length (map d_y (m151 (wrap .i64 (Int.tdiv a0 65536)))))≤(length (map d_y (m151 (wrap .i64 (Int.tdiv a0 65536))))):=yb
  have f6:((take (length (map d_y (m151 (wrap .i64 (Int.tdiv a0 65536))))) (drop 0 (map d_y (m151 (wrap .i64 (Int.tdiv a0 65536)))))).all fun x=>x.all copyable)=true:=(ct_y _ _ _)
  have f7:(length ((take (length (map d_y (m151 (Int.tmod a0 65536)))) (drop 0 (map d_y (m151 (Int.tmod a0 65536)))))++(take (length (map d_y (m151 (wrap .i64 (Int.tdiv a0 65536))))) (drop 0 (map d_y (m151 (wrap .i64 (Int.tdiv a0 65536))))))))*1≤70368744177664:=(by unfold m151;(repeat' split)<;>simp_all<;>omega)
  have f8:∀r∈((take (length (map d_y (m151 (wrap .i64 (Int.tdiv a0 65536))))) (drop 0 (map d_y (m151 (wrap .i64 (Int.tdiv a0 65536)))))):List (List D)),r.length=1:=ye
  have f9:((take (length (map d_y (m151 (Int.tmod a0 65536)))) (drop 0 (map d_y (m151 (Int.tmod a0 65536)))))++(take (length (map d_y (m151 (wrap .i64 (Int.tdiv a0 65536))))) (drop 0 (map d_y (m151 (wrap .i64 (Int.tdiv a0 65536)))))))=(map d_y ((m151 (Int.tmod a0 65536))++(m151 (wrap .i64 (Int.tdiv a0 65536))))):=yq
  have f11:(length ((take (length (map d_y (m151 (Int.tmod a0 65536)))) (drop 0 (map d_y (m151 (Int.tmod a0 65536)))))++(take (length (map d_y (m151 (wrap .i64 (Int.tdiv a0 65536))))) (drop 0 (map d_y (m151 (wrap .i64 (Int.tdiv a0 65536))))))))=(length (map d_y ((m151 (Int.tmod a0 65536))++(m151 (wrap .i64 (Int.tdiv a0 65536)))))):=yh
  exact cp ya (.f f0 (.r 7 [] [] (e151 (a0:=(Int.tmod a0 65536))) (.f f0 (.r 13 [] [] (e151 (a0:=(wrap .i64 (Int.tdiv a0 65536)))) (.f f4 (.f f5 (.f f6 (.f f7 (.f f8 (.f f9 (pe 0 (.f f11 (.f (pureR_y ((m151 (Int.tmod a0 65536))++(m151 (wrap .i64 (Int.tdiv a0 65536))))) (.h 15 (.b true) (.h 18 (.norm (2,0,0) (map d_y ((m151 (Int.tmod a0 65536))++(m151 (wrap .i64 (Int.tdiv a0 65536)))))) .nil)))))))))))))))
theorem pb152 (a:Int):length (m152 a)≤6:=by
  unfold m152; rw[length_append]
  exact Nat.add_le_add (pl151 _) (pl151 _)
inductive O153_0 where
  |k0 (w0:List Int) (w1:Int) (w2:Bool)
def r153_0 (a0:(List Int)):List Int→Int→List Int→O153_0
  |x0::y0,i,v0=>
    (r153_0 a0 y0 (i+1) (v0++(m151 x0)))
  |[],i,v0=>(O153_0.k0 v0 i (decide (i <((length (map b_i a0)):Int))))
def h153_0 (l0_0:Nat) (a0:(List Int)) (i:Int) (v0:List Int):St:=⟨[(0,(.one (.bor l0_0 (map b_i a0)))),(3,(.one (.ref ⟨(3,0,0),[],0,(length (map d_y v0))⟩))),(4,(.one (.val (.int .i64 i))))],[((3,0,0),.live ⟨1,(map d_y v0),[]⟩)]⟩
def ex153_0:O153_0→VX.Exit
  |.k0 _ _ _=>(.exit 0)
def fin153_0 (l0_0:Nat) (a0:(List Int)):O153_0→St
  |.k0 w0 w1 w2=>⟨[(0,(.one (.bor l0_0 (map b_i a0)))),(3,(.one (.ref ⟨(3,0,0),[],0,(length (map d_y w0))⟩))),(4,(.one (.val (.int .i64 w1)))),(11,(.one (.val (.bool w2))))],[((3,0,0),.live ⟨1,(map d_y w0),[]⟩)]⟩
theorem t153_0 {l0_0:Nat} {a0:(List Int)} (hy0:length a0≤1000):∀(y0:List Int) (p:List Int) (v0:List Int),p++y0=a0→length v0+3*length y0≤3003→Ev F X (.code l153_0 (h153_0 l0_0 a0 (length p:Int) v0) (ex153_0 (r153_0 a0 y0 (length p:Int) v0)) (fin153_0 l0_0 a0 (r153_0 a0 y0 (length p:Int) v0)))
  |[],p,v0,hp0,hi0=>by
    have hc:=hcn b_i hp0
    have hj0:=hi0; try simp only[LN,Int.toNat_natCast] at hj0
    exact lx 9 ya (.f (nt hc) (.h 8 (.b false) .nil)) rfl
  |x0::y0,p,v0,hp0,hi0=>by
    have hc:=hcy b_i hp0
    have Hx0:=hxy hp0
    have hlen:=hly hp0
    have hw:wrap .i64 ((length p:Int)+1)=(length p:Int)+1:=wrap64 yb
    have hj0:=hi0; try simp only[LN,Int.toNat_natCast] at hj0
    simp only[r153_0]
    have f1:0≤(length p:Int):=yb
    have f4:0+(length (map d_y v0))≤(length (map d_y v0)):=yb
    have f5:0+(length (map d_y (m151 x0)))≤(length (map d_y (m151 x0))):=yb
    have f6:((take (length (map d_y (m151 x0))) (drop 0 (map d_y (m151 x0)))).all fun x=>x.all copyable)=true:=(ct_y _ _ _)
    have f7:(length ((take (length (map d_y v0)) (drop 0 (map d_y v0)))++(take (length (map d_y (m151 x0))) (drop 0 (map d_y (m151 x0))))))*1≤70368744177664:=yI
    have f8:∀r∈((take (length (map d_y (m151 x0))) (drop 0 (map d_y (m151 x0)))):List (List D)),r.length=1:=ye
    have f9:((take (length (map d_y v0)) (drop 0 (map d_y v0)))++(take (length (map d_y (m151 x0))) (drop 0 (map d_y (m151 x0)))))=(map d_y (v0++(m151 x0))):=yq
    have st:=ch b153_0 (h153_0 l0_0 a0 (length p:Int) v0) ⟨[(0,(.one (.bor l0_0 (map b_i a0)))),(3,(.one (.ref ⟨(3,0,0),[],0,(length ((take (length (map d_y v0)) (drop 0 (map d_y v0)))++(take (length (map d_y (m151 x0))) (drop 0 (map d_y (m151 x0))))))⟩))),(4,(.oi (wrap .i64 ((length p:Int)+1))))],[((3,0,0),.live ⟨1,(map d_y (v0++(m151 x0))),[]⟩)]⟩ .normal 32 ya (.f hc (.f f1 (.f (mp_ b_i Hx0) (.h 8 (.b true) (.h 16 (.row [(.i x0)]) (.r 20 [] [] (e151 (a0:=x0)) (.f f4 (.f f5 (.f f6 (.f f7 (.f f8 (.f f9 (.f trivial (.h 22 (.b true) (.h 25 (.norm (3,0,0) (map d_y (v0++(m151 x0)))) .nil)))))))))))))))
    have ih:=t153_0 (l0_0:=l0_0) (a0:=a0) hy0 y0 (p++ [x0]) (v0++(m151 x0)) yd yI
    rw[pl1] at ih
    rw[show (⟨[(0,(.one (.bor l0_0 (map b_i a0)))),(3,(.one (.ref ⟨(3,0,0),[],0,(length ((take (length (map d_y v0)) (drop 0 (map d_y v0)))++(take (length (map d_y (m151 x0))) (drop 0 (map d_y (m151 x0))))))⟩))),(4,(.oi (wrap .i64 ((length p:Int)+1))))],[((3,0,0),.live ⟨1,(map d_y (v0++(m151 x0))),[]⟩)]⟩:St)=h153_0 l0_0 a0 ((length p:Int)+1) (v0++(m151 x0)) from(by unfold h153_0; simp[hw,take_of_length_le,d_y,ol112,ol83,ol84,ol51,ol21,four_len]; done)] at st
    exact .loopN st ih
theorem ll153 {a:List Int}:∀ {l:List Int} {i:Int} {v w:List Int} {j b},r153_0 a l i v=.k0 w j b→w.length≤v.length+3*l.length
  |[],i,v,w,j,b,h=>by simp only[r153_0] at h; injection h with h; subst h; simp
  |x::l,i,v,w,j,b,h=>by
    simp only[r153_0] at h
    have q:=ll153 h
    have q0:=pl151 x
    simp only[length_append,length_cons] at q⊢; omega
def m153 (a0:(List Int)):(List Int):=
  (match r153_0 a0 a0 0 (m151 ((length (map b_i a0)):Int)) with | .k0 w0_1 w1_1 w2_1=>w0_1)
theorem e153 {l0_0:Nat} {a0:(List Int)} (hy0:length a0≤1000):Ev F X (.call 153 [(.one (.bor l0_0 (map b_i a0)))] [] [] [(.one (.own 1 (map d_y (m153 a0))))]):=by
  unfold m153
  cases h0:r153_0 a0 a0 0 (m151 ((length (map b_i a0)):Int)) with
  |k0 w0_1 w1_1 w2_1=>
    try dsimp only
    have f1:=Eq.refl (h153_0 l0_0 a0 0 (m151 ((length (map b_i a0)):Int)))
    exact cp ya (.r 7 [] [] (e151 (a0:=((length (map b_i a0)):Int))) (.f f1 (.f (ev_ (e:=ex153_0) (g:=(fin153_0 l0_0 a0)) h0 (t153_0 (l0_0:=l0_0) (a0:=a0) (by assumption) a0 [] (m151 ((length (map b_i a0)):Int)) rfl (by have q:=pl151 ((length (map b_i a0)):Int); omega))) (pe 0 (pe (length (map d_y w0_1)) (.f (pureR_y w0_1) (.h 12 (.loop (h153_0 l0_0 a0 0 (m151 ((length (map b_i a0)):Int))) (.exit 0) (fin153_0 l0_0 a0 (.k0 w0_1 w1_1 w2_1))) .nil)))))))
theorem pn153 (a:List Int):length (m153 a)≤3+3*a.length:=by
  unfold m153
  cases h:r153_0 a a 0 (m151 ((length (map b_i a)):Int)) with
  |k0 w j b=>
    have q:=ll153 h
    have q0:=pl151 ((length (map b_i a)):Int)
    show w.length≤_
    omega
inductive O129_0 where
  |k0 (w0:List Int) (w1:Int) (w2:Bool)
def r129_0 (a0:K_T) (a1:Bool):List K_N→Int→List Int→O129_0
  |x0::y0,i,v0=>
    if a1=true then(r129_0 a0 a1 y0 (i+1) (((v0++(m152 x0.f0))++(m151 x0.f1))++(m153 x0.f2))) else
    (r129_0 a0 a1 y0 (i+1) (((v0++(m152 x0.f0))++(m151 x0.f1))++([0])))
  |[],i,v0=>(O129_0.k0 v0 i (decide (i <((length (map b_N a0.f1)):Int))))
def h129_0 (l0:Nat) (a0:K_T) (a1:Bool) (i:Int) (v0:List Int):St:=⟨[(0,(.bptr l0 (b_T a0))),(1,(.one (.val (.bool a1)))),(5,(.one (.ref ⟨(5,0,0),[],0,(length (map d_y v0))⟩))),(6,(.one (.val (.int .i64 i))))],[((5,0,0),.live ⟨1,(map d_y v0),[]⟩)]⟩
def ex129_0:O129_0→VX.Exit
  |.k0 _ _ _=>(.exit 0)
def fin129_0 (l0:Nat) (a0:K_T) (a1:Bool):O129_0→St
  |.k0 w0 w1 w2=>⟨[(0,(.bptr l0 (b_T a0))),(1,(.one (.val (.bool a1)))),(5,(.one (.ref ⟨(5,0,0),[],0,(length (map d_y w0))⟩))),(6,(.one (.val (.int .i64 w1)))),(26,(.one (.val (.bool w2))))],[((5,0,0),.live ⟨1,(map d_y w0),[]⟩)]⟩
theorem t129_0 {l0:Nat} {a0:K_T} {a1:Bool} (hy0:length a0.f1*40≤140737488351232) (hy1:∀z∈a0.f1,ok_N z) (hy2:length a0.f2*32≤140737488351232) (hy3:∀z∈a0.f2,ok_U z) (hy4:length a0.f1≤4) (hy5:∀z∈a0.f1,length z.f2≤8) (hy6:length a0.f2≤4) (hy7:∀z∈a0.f2,length z.f1≤12):∀(y0:List K_N) (p:List K_N) (v0:List Int),p++y0=a0.f1→length v0+60*length y0≤260→Ev F X (.code l129_0 (h129_0 l0 a0 a1 (length p:Int) v0) (ex129_0 (r129_0 a0 a1 y0 (length p:Int) v0)) (fin129_0 l0 a0 a1 (r129_0 a0 a1 y0 (length p:Int) v0)))
  |[],p,v0,hp0,hi0=>by
    have hc:=hcn b_N hp0
    have hj0:=hi0; try simp only[LN,Int.toNat_natCast] at hj0
    exact lx 15 (by kernel_rfl) (.f (nt hc) (.h 14 (.b false) .nil)) rfl
  |x0::y0,p,v0,hp0,hi0=>by
    have hc:=hcy b_N hp0
    have Hx0:=hxy hp0
    have Nx0_5:=hy5 x0 (List.mem_of_getElem? Hx0)
    have Mx0_0:=hy1 x0 (List.mem_of_getElem? Hx0)
    have hlen:=hly hp0
    have hw:wrap .i64 ((length p:Int)+1)=(length p:Int)+1:=wrap64 (by omega)
    have hj0:=hi0; try simp only[LN,Int.toNat_natCast] at hj0
    simp only[r129_0]
    have f1:0≤(length p:Int):=(by omega)
    have f4:0+(length (map d_y v0))≤(length (map d_y v0)):=(by omega)
    have f5:0+(length (map d_y (m152 x0.f0)))≤(length (map d_y (m152 x0.f0))):=(by omega)
    have f6:((take (length (map d_y (m152 x0.f0))) (drop 0 (map d_y (m152 x0.f0)))).all fun x=>x.all copyable)=true:=(ct_y _ _ _)
    have f7:(length ((take (length (map d_y v0)) (drop 0 (map d_y v0)))++(take (length (map d_y (m152 x0.f0))) (drop 0 (map d_y (m152 x0.f0))))))*1≤70368744177664:=(by have q0:=hy5 x0 (List.mem_of_getElem? Hx0); have q1:=pl151 x0.f1; have q2:=pb152 x0.f0; have q3:=pn153 x0.f2; simp only[length_map,length_append,length_take,length_drop,length_cons,length_nil,List.length_flatten,List.map_cons,List.map_nil,List.sum_cons,List.sum_nil] at*; omega)
    have f8:∀r∈((take (length (map d_y (m152 x0.f0))) (drop 0 (map d_y (m152 x0.f0)))):List (List D)),r.length=1:=(by simp only[List.drop_zero,tbr,tsi,ly_y,ly0_y,← List.map_append,List.take_length,List.cons_append,List.nil_append,append_assoc]; exact lenD_y _)
    have f12:0+(length ((take (length (map d_y v0)) (drop 0 (map d_y v0)))++(take (length (map d_y (m152 x0.f0))) (drop 0 (map d_y (m152 x0.f0))))))≤(length ((take (length (map d_y v0)) (drop 0 (map d_y v0)))++(take (length (map d_y (m152 x0.f0))) (drop 0 (map d_y (m152 x0.f0)))))):=(by omega)
    have f13:0+(length (map d_y (m151 x0.f1)))≤(length (map d_y (m151 x0.f1))):=(by omega)
    have f14:((take (length (map d_y (m151 x0.f1))) (drop 0 (map d_y (m151 x0.f1)))).all fun x=>x.all copyable)=true:=(ct_y _ _ _)
    have f15:(length ((take (length ((take (length (map d_y v0)) (drop 0 (map d_y v0)))++(take (length (map d_y (m152 x0.f0))) (drop 0 (map d_y (m152 x0.f0)))))) (drop 0 ((take (length (map d_y v0)) (drop 0 (map d_y v0)))++(take (length (map d_y (m152 x0.f0))) (drop 0 (map d_y (m152 x0.f0)))))))++(take (length (map d_y (m151 x0.f1))) (drop 0 (map d_y (m151 x0.f1))))))*1≤70368744177664:=(by have q0:=hy5 x0 (List.mem_of_getElem? Hx0); have q1:=pl151 x0.f1; have q2:=pb152 x0.f0; have q3:=pn153 x0.f2; simp only[length_map,length_append,length_take,length_drop,length_cons,length_nil,List.length_flatten,List.map_cons,List.map_nil,List.sum_cons,List.sum_nil] at*; omega)
    have f16:∀r∈((take (length (map d_y (m151 x0.f1))) (drop 0 (map d_y (m151 x0.f1)))):List (List D)),r.length=1:=(by simp only[List.drop_zero,tbr,tsi,ly_y,ly0_y,← List.map_append,List.take_length,List.cons_append,List.nil_append,append_assoc]; exact lenD_y _)
    have f17:((take (length ((take (length (map d_y v0)) (drop 0 (map d_y v0)))++(take (length (map d_y (m152 x0.f0))) (drop 0 (map d_y (m152 x0.f0)))))) (drop 0 ((take (length (map d_y v0)) (drop 0 (map d_y v0)))++(take (length (map d_y (m152 x0.f0))) (drop 0 (map d_y (m152 x0.f0)))))))++(take (length (map d_y (m151 x0.f1))) (drop 0 (map d_y (m151 x0.f1)))))=(map d_y ((v0++(m152 x0.f0))++(m151 x0.f1))):=(by simp[take_of_length_le,d_y,ol112,ol83,ol84,ol51,ol21,four_len]; done)
    have P1 {hs q} (r:PS F X hs q):=(PS.f hc (.f f1 (.f (mp_ b_N Hx0) (.h 14 (.b true) (.h 28 (.row (b_N x0)) (.r 34 [] [] (e152 (a0:=x0.f0)) (.f f4 (.f f5 (.f f6 (.f f7 (.f f8 (.f f1 (.f (mp_ b_N Hx0) (.h 36 (.b true) (.h 48 (.row (b_N x0)) (.r 54 [] [] (e151 (a0:=x0.f1)) (.f f12 (.f f13 (.f f14 (.f f15 (.f f16 (.f f17 (.h 56 (.b true) (.h 59 (.norm (5,0,0) (map d_y ((v0++(m152 x0.f0))++(m151 x0.f1)))) r))))))))))))))))))))))))
    by_cases h_1:a1=true
    · try simp only[if_pos h_1]
      have f22:0+(length ((take (length ((take (length (map d_y v0)) (drop 0 (map d_y v0)))++(take (length (map d_y (m152 x0.f0))) (drop 0 (map d_y (m152 x0.f0)))))) (drop 0 ((take (length (map d_y v0)) (drop 0 (map d_y v0)))++(take (length (map d_y (m152 x0.f0))) (drop 0 (map d_y (m152 x0.f0)))))))++(take (length (map d_y (m151 x0.f1))) (drop 0 (map d_y (m151 x0.f1))))))≤(length (map d_y ((v0++(m152 x0.f0))++(m151 x0.f1)))):=(by simp only[List.drop_zero,tbr,tsi,ly_y,ly0_y,← List.map_append,List.take_length,List.cons_append,List.nil_append,append_assoc]; simp only[length_map,length_append,length_cons,length_nil,strInts_len,ol112,ol83,ol84,ol51,ol21,four_len]; omega)
      have f23:0+(length (map d_y (m153 x0.f2)))≤(length (map d_y (m153 x0.f2))):=(by omega)
      have f24:((take (length (map d_y (m153 x0.f2))) (drop 0 (map d_y (m153 x0.f2)))).all fun x=>x.all copyable)=true:=(ct_y _ _ _)
      have f25:(length ((take (length ((take (length ((take (length (map d_y v0)) (drop 0 (map d_y v0)))++(take (length (map d_y (m152 x0.f0))) (drop 0 (map d_y (m152 x0.f0)))))) (drop 0 ((take (length (map d_y v0)) (drop 0 (map d_y v0)))++(take (length (map d_y (m152 x0.f0))) (drop 0 (map d_y (m152 x0.f0)))))))++(take (length (map d_y (m151 x0.f1))) (drop 0 (map d_y (m151 x0.f1)))))) (drop 0 (map d_y ((v0++(m152 x0.f0))++(m151 x0.f1)))))++(take (length (map d_y (m153 x0.f2))) (drop 0 (map d_y (m153 x0.f2))))))*1≤70368744177664:=(by have q0:=hy5 x0 (List.mem_of_getElem? Hx0); have q1:=pl151 x0.f1; have q2:=pb152 x0.f0; have q3:=pn153 x0.f2; simp only[length_map,length_append,length_take,length_drop,length_cons,length_nil,List.length_flatten,List.map_cons,List.map_nil,List.sum_cons,List.sum_nil] at*; omega)
      have f26:∀r∈((take (length (map d_y (m153 x0.f2))) (drop 0 (map d_y (m153 x0.f2)))):List (List D)),r.length=1:=(by simp only[List.drop_zero,tbr,tsi,ly_y,ly0_y,← List.map_append,List.take_length,List.cons_append,List.nil_append,append_assoc]; exact lenD_y _)
      have f27:((take (length ((take (length ((take (length (map d_y v0)) (drop 0 (map d_y v0)))++(take (length (map d_y (m152 x0.f0))) (drop 0 (map d_y (m152 x0.f0)))))) (drop 0 ((take (length (map d_y v0)) (drop 0 (map d_y v0)))++(take (length (map d_y (m152 x0.f0))) (drop 0 (map d_y (m152 x0.f0)))))))++(take (length (map d_y (m151 x0.f1))) (drop 0 (map d_y (m151 x0.f1)))))) (drop 0 (map d_y ((v0++(m152 x0.f0))++(m151 x0.f1)))))++(take (length (map d_y (m153 x0.f2))) (drop 0 (map d_y (m153 x0.f2)))))=(map d_y (((v0++(m152 x0.f0))++(m151 x0.f1))++(m153 x0.f2))):=(by simp[take_of_length_le,d_y,ol112,ol83,ol84,ol51,ol21,four_len]; done)
      have st:=ch b129_0 (h129_0 l0 a0 a1 (length p:Int) v0) ⟨[(0,(.bptr l0 (b_T a0))),(1,(.one (.val (.bool a1)))),(5,(.one (.ref ⟨(5,0,0),[],0,(length ((take (length ((take (length ((take (length (map d_y v0)) (drop 0 (map d_y v0)))++(take (length (map d_y (m152 x0.f0))) (drop 0 (map d_y (m152 x0.f0)))))) (drop 0 ((take (length (map d_y v0)) (drop 0 (map d_y v0)))++(take (length (map d_y (m152 x0.f0))) (drop 0 (map d_y (m152 x0.f0)))))))++(take (length (map d_y (m151 x0.f1))) (drop 0 (map d_y (m151 x0.f1)))))) (drop 0 (map d_y ((v0++(m152 x0.f0))++(m151 x0.f1)))))++(take (length (map d_y (m153 x0.f2))) (drop 0 (map d_y (m153 x0.f2))))))⟩))),(6,(.oi (wrap .i64 ((length p:Int)+1))))],[((5,0,0),.live ⟨1,(map d_y (((v0++(m152 x0.f0))++(m151 x0.f1))++(m153 x0.f2))),[]⟩)]⟩ .normal 94 (by kernel_rfl) (P1 (.f h_1 (.f f1 (.f (mp_ b_N Hx0) (.h 62 (.b true) (.h 76 (.row (b_N x0)) (.r 82 [] [] (e153 (l0_0:=(l0+1)) (a0:=x0.f2) (by omega)) (.f f22 (.f f23 (.f f24 (.f f25 (.f f26 (.f f27 (.f trivial (.h 84 (.b true) (.h 87 (.norm (5,0,0) (map d_y (((v0++(m152 x0.f0))++(m151 x0.f1))++(m153 x0.f2)))) .nil))))))))))))))))
      have ih:=t129_0 (l0:=l0) (a0:=a0) (a1:=a1) hy0 hy1 hy2 hy3 hy4 hy5 hy6 hy7 y0 (p++ [x0]) (((v0++(m152 x0.f0))++(m151 x0.f1))++(m153 x0.f2)) (by rw[append_assoc]; exact hp0) (by have q0:=hy5 x0 (List.mem_of_getElem? Hx0); have q1:=pl151 x0.f1; have q2:=pb152 x0.f0; have q3:=pn153 x0.f2; simp only[length_map,length_append,length_take,length_drop,length_cons,length_nil,List.length_flatten,List.map_cons,List.map_nil,List.sum_cons,List.sum_nil] at*; omega)
      rw[pl1] at ih
      rw[show (⟨[(0,(.bptr l0 (b_T a0))),(1,(.one (.val (.bool a1)))),(5,(.one (.ref ⟨(5,0,0),[],0,(length ((take (length ((take (length ((take (length (map d_y v0)) (drop 0 (map d_y v0)))++(take (length (map d_y (m152 x0.f0))) (drop 0 (map d_y (m152 x0.f0)))))) (drop 0 ((take (length (map d_y v0)) (drop 0 (map d_y v0)))++(take (length (map d_y (m152 x0.f0))) (drop 0 (map d_y (m152 x0.f0)))))))++(take (length (map d_y (m151 x0.f1))) (drop 0 (map d_y (m151 x0.f1)))))) (drop 0 (map d_y ((v0++(m152 x0.f0))++(m151 x0.f1)))))++(take (length (map d_y (m153 x0.f2))) (drop 0 (map d_y (m153 x0.f2))))))⟩))),(6,(.oi (wrap .i64 ((length p:Int)+1))))],[((5,0,0),.live ⟨1,(map d_y (((v0++(m152 x0.f0))++(m151 x0.f1))++(m153 x0.f2))),[]⟩)]⟩:St)=h129_0 l0 a0 a1 ((length p:Int)+1) (((v0++(m152 x0.f0))++(m151 x0.f1))++(m153 x0.f2)) from(by unfold h129_0; simp[hw,take_of_length_le,d_y,ol112,ol83,ol84,ol51,ol21,four_len]; done)] at st
      exact .loopN st ih
    · try simp only[if_neg h_1]
      have f19:0+(length ((take (length ((take (length (map d_y v0)) (drop 0 (map d_y v0)))++(take (length (map d_y (m152 x0.f0))) (drop 0 (map d_y (m152 x0.f0)))))) (drop 0 ((take (length (map d_y v0)) (drop 0 (map d_y v0)))++(take (length (map d_y (m152 x0.f0))) (drop 0 (map d_y (m152 x0.f0)))))))++(take (length (map d_y (m151 x0.f1))) (drop 0 (map d_y (m151 x0.f1))))))≤(length (map d_y ((v0++(m152 x0.f0))++(m151 x0.f1)))):=(by simp only[List.drop_zero,tbr,tsi,ly_y,ly0_y,← List.map_append,List.take_length,List.cons_append,List.nil_append,append_assoc]; simp only[length_map,length_append,length_cons,length_nil,strInts_len,ol112,ol83,ol84,ol51,ol21,four_len]; omega)
      have f20:1≤1:=(by omega)
      have f21:((take 1 (drop 0 [[(.val (.int .u8 0))]])).all fun x=>x.all copyable)=true:=(by trivial)
      have f22:(length ((take (length ((take (length ((take (length (map d_y v0)) (drop 0 (map d_y v0)))++(take (length (map d_y (m152 x0.f0))) (drop 0 (map d_y (m152 x0.f0)))))) (drop 0 ((take (length (map d_y v0)) (drop 0 (map d_y v0)))++(take (length (map d_y (m152 x0.f0))) (drop 0 (map d_y (m152 x0.f0)))))))++(take (length (map d_y (m151 x0.f1))) (drop 0 (map d_y (m151 x0.f1)))))) (drop 0 (map d_y ((v0++(m152 x0.f0))++(m151 x0.f1)))))++([[(.val (.int .u8 0))]]:List (List D))))*1≤70368744177664:=(by have q0:=hy5 x0 (List.mem_of_getElem? Hx0); have q1:=pl151 x0.f1; have q2:=pb152 x0.f0; have q3:=pn153 x0.f2; simp only[length_map,length_append,length_take,length_drop,length_cons,length_nil,List.length_flatten,List.map_cons,List.map_nil,List.sum_cons,List.sum_nil] at*; omega)
      have f23:∀r∈([[(.val (.int .u8 0))]]:List (List D)),r.length=1:=(by simp only[List.drop_zero,tbr,tsi,ly_y,ly0_y,← List.map_append,List.take_length,List.cons_append,List.nil_append,append_assoc]; exact lenD_y _)
      have f24:((take (length ((take (length ((take (length (map d_y v0)) (drop 0 (map d_y v0)))++(take (length (map d_y (m152 x0.f0))) (drop 0 (map d_y (m152 x0.f0)))))) (drop 0 ((take (length (map d_y v0)) (drop 0 (map d_y v0)))++(take (length (map d_y (m152 x0.f0))) (drop 0 (map d_y (m152 x0.f0)))))))++(take (length (map d_y (m151 x0.f1))) (drop 0 (map d_y (m151 x0.f1)))))) (drop 0 (map d_y ((v0++(m152 x0.f0))++(m151 x0.f1)))))++([[(.val (.int .u8 0))]]:List (List D)))=(map d_y (((v0++(m152 x0.f0))++(m151 x0.f1))++([0]))):=(by simp[take_of_length_le,d_y,ol112,ol83,ol84,ol51,ol21,four_len]; done)
      have st:=ch b129_0 (h129_0 l0 a0 a1 (length p:Int) v0) ⟨[(0,(.bptr l0 (b_T a0))),(1,(.one (.val (.bool a1)))),(5,(.one (.ref ⟨(5,0,0),[],0,(length ((take (length ((take (length ((take (length (map d_y v0)) (drop 0 (map d_y v0)))++(take (length (map d_y (m152 x0.f0))) (drop 0 (map d_y (m152 x0.f0)))))) (drop 0 ((take (length (map d_y v0)) (drop 0 (map d_y v0)))++(take (length (map d_y (m152 x0.f0))) (drop 0 (map d_y (m152 x0.f0)))))))++(take (length (map d_y (m151 x0.f1))) (drop 0 (map d_y (m151 x0.f1)))))) (drop 0 (map d_y ((v0++(m152 x0.f0))++(m151 x0.f1)))))++([[(.val (.int .u8 0))]]:List (List D))))⟩))),(6,(.oi (wrap .i64 ((length p:Int)+1))))],[((5,0,0),.live ⟨1,(map d_y (((v0++(m152 x0.f0))++(m151 x0.f1))++([0]))),[]⟩)]⟩ .normal 78 (by kernel_rfl) (P1 (.f (nt h_1) (.f f19 (.f f20 (.f f21 (.f f22 (.f f23 (.f f24 (.f trivial (.h 62 (.b false) (.h 68 (.b true) (.h 71 (.norm (5,0,0) (map d_y (((v0++(m152 x0.f0))++(m151 x0.f1))++([0])))) .nil))))))))))))
      have ih:=t129_0 (l0:=l0) (a0:=a0) (a1:=a1) hy0 hy1 hy2 hy3 hy4 hy5 hy6 hy7 y0 (p++ [x0]) (((v0++(m152 x0.f0))++(m151 x0.f1))++([0])) (by rw[append_assoc]; exact hp0) (by have q0:=hy5 x0 (List.mem_of_getElem? Hx0); have q1:=pl151 x0.f1; have q2:=pb152 x0.f0; have q3:=pn153 x0.f2; simp only[length_map,length_append,length_take,length_drop,length_cons,length_nil,List.length_flatten,List.map_cons,List.map_nil,List.sum_cons,List.sum_nil] at*; omega)
      rw[pl1] at ih
      rw[show (⟨[(0,(.bptr l0 (b_T a0))),(1,(.one (.val (.bool a1)))),(5,(.one (.ref ⟨(5,0,0),[],0,(length ((take (length ((take (length ((take (length (map d_y v0)) (drop 0 (map d_y v0)))++(take (length (map d_y (m152 x0.f0))) (drop 0 (map d_y (m152 x0.f0)))))) (drop 0 ((take (length (map d_y v0)) (drop 0 (map d_y v0)))++(take (length (map d_y (m152 x0.f0))) (drop 0 (map d_y (m152 x0.f0)))))))++(take (length (map d_y (m151 x0.f1))) (drop 0 (map d_y (m151 x0.f1)))))) (drop 0 (map d_y ((v0++(m152 x0.f0))++(m151 x0.f1)))))++([[(.val (.int .u8 0))]]:List (List D))))⟩))),(6,(.oi (wrap .i64 ((length p:Int)+1))))],[((5,0,0),.live ⟨1,(map d_y (((v0++(m152 x0.f0))++(m151 x0.f1))++([0]))),[]⟩)]⟩:St)=h129_0 l0 a0 a1 ((length p:Int)+1) (((v0++(m152 x0.f0))++(m151 x0.f1))++([0])) from(by unfold h129_0; simp[hw,take_of_length_le,d_y,ol112,ol83,ol84,ol51,ol21,four_len]; done)] at st
      exact .loopN st ih
theorem lk129_0 {a:K_T} {c:Bool}:∀ {l:List K_N} {i:Int} {v w:List Int} {j b},(∀z∈l,length z.f2≤8)→r129_0 a c l i v=.k0 w j b→w.length≤v.length+60*l.length
  |[],i,v,w,j,b,_,h=>by simp only[r129_0] at h; injection h with h; subst h; simp
  |x::l,i,v,w,j,b,z,h=>by
    simp only[r129_0] at h
    have q0:=z x (List.mem_cons_self ..)
    have z1:=fun u hu=>z u (List.mem_cons_of_mem _ hu)
    have q1:=pl151 x.f1
    have q2:=pb152 x.f0
    have q3:=pn153 x.f2
    split at h<;>(have q:=lk129_0 z1 h; simp only[length_append,length_cons,length_nil] at q⊢; omega)
inductive O129_1 where
  |k0 (w0:List Int) (w1:Int) (w2:Bool)
def r129_1 (a0:K_T):List K_U→Int→List Int→O129_1
  |x0::y0,i,v0=>
    (r129_1 a0 y0 (i+1) ((v0++(m152 x0.f0))++(m153 x0.f1)))
  |[],i,v0=>(O129_1.k0 v0 i (decide (i <((length (map b_U a0.f2)):Int))))
def h129_1 (l0:Nat) (a0:K_T) (a1:Bool) (c0_129_1:List Int) (i:Int) (v0:List Int):St:=⟨[(0,(.bptr l0 (b_T a0))),(5,(.one (.ref ⟨(5,0,0),[],0,(length (map d_y v0))⟩))),(7,(.one (.val (.int .i64 i))))],[((5,0,0),.live ⟨1,(map d_y v0),[]⟩)]⟩
def ex129_1:O129_1→VX.Exit
  |.k0 _ _ _=>(.exit 2)
def fin129_1 (l0:Nat) (a0:K_T) (a1:Bool) (c0_129_1:List Int):O129_1→St
  |.k0 w0 w1 w2=>⟨[(0,(.bptr l0 (b_T a0))),(5,(.one (.ref ⟨(5,0,0),[],0,(length (map d_y w0))⟩))),(7,(.one (.val (.int .i64 w1)))),(79,(.one (.val (.bool w2))))],[((5,0,0),.live ⟨1,(map d_y w0),[]⟩)]⟩
theorem t129_1 {l0:Nat} {a0:K_T} {a1:Bool} {c0_129_1:List Int} (hy0:length a0.f1*40≤140737488351232) (hy1:∀z∈a0.f1,ok_N z) (hy2:length a0.f2*32≤140737488351232) (hy3:∀z∈a0.f2,ok_U z) (hy4:length a0.f1≤4) (hy5:∀z∈a0.f1,length z.f2≤8) (hy6:length a0.f2≤4) (hy7:∀z∈a0.f2,length z.f1≤12) (hy8:length c0_129_1≤140737488351232):∀(y0:List K_U) (p:List K_U) (v0:List Int),p++y0=a0.f2→length v0+60*length y0≤520→Ev F X (.code l129_1 (h129_1 l0 a0 a1 c0_129_1 (length p:Int) v0) (ex129_1 (r129_1 a0 y0 (length p:Int) v0)) (fin129_1 l0 a0 a1 c0_129_1 (r129_1 a0 y0 (length p:Int) v0)))
  |[],p,v0,hp0,hi0=>by
    have hc:=hcn b_U hp0
    have hj0:=hi0; try simp only[LN,Int.toNat_natCast] at hj0
    exact lx 15 ya (.f (nt hc) (.h 14 (.b false) .nil)) rfl
  |x0::y0,p,v0,hp0,hi0=>by
    have hc:=hcy b_U hp0
    have Hx0:=hxy hp0
    have Nx0_7:=hy7 x0 (List.mem_of_getElem? Hx0)
    have Mx0_0:=hy3 x0 (List.mem_of_getElem? Hx0)
    have hlen:=hly hp0
    have hw:wrap .i64 ((length p:Int)+1)=(length p:Int)+1:=wrap64 yb
    have hj0:=hi0; try simp only[LN,Int.toNat_natCast] at hj0
    simp only[r129_1]
    have f1:0≤(length p:Int):=yb
    have f4:0+(length (map d_y v0))≤(length (map d_y v0)):=yb
    have f5:0+(length (map d_y (m152 x0.f0)))≤(length (map d_y (m152 x0.f0))):=yb
    have f6:((take (length (map d_y (m152 x0.f0))) (drop 0 (map d_y (m152 x0.f0)))).all fun x=>x.all copyable)=true:=(ct_y _ _ _)
    have f7:(length ((take (length (map d_y v0)) (drop 0 (map d_y v0)))++(take (length (map d_y (m152 x0.f0))) (drop 0 (map d_y (m152 x0.f0))))))*1≤70368744177664:=yt
    have f8:∀r∈((take (length (map d_y (m152 x0.f0))) (drop 0 (map d_y (m152 x0.f0)))):List (List D)),r.length=1:=ye
    have f12:0+(length ((take (length (map d_y v0)) (drop 0 (map d_y v0)))++(take (length (map d_y (m152 x0.f0))) (drop 0 (map d_y (m152 x0.f0))))))≤(length ((take (length (map d_y v0)) (drop 0 (map d_y v0)))++(take (length (map d_y (m152 x0.f0))) (drop 0 (map d_y (m152 x0.f0)))))):=yb
    have f13:0+(length (map d_y (m153 x0.f1)))≤(length (map d_y (m153 x0.f1))):=yb
    have f14:((take (length (map d_y (m153 x0.f1))) (drop 0 (map d_y (m153 x0.f1)))).all fun x=>x.all copyable)=true:=(ct_y _ _ _)
    have f15:(length ((take (length ((take (length (map d_y v0)) (drop 0 (map d_y v0)))++(take (length (map d_y (m152 x0.f0))) (drop 0 (map d_y (m152 x0.f0)))))) (drop 0 ((take (length (map d_y v0)) (drop 0 (map d_y v0)))++(take (length (map d_y (m152 x0.f0))) (drop 0 (map d_y (m152 x0.f0)))))))++(take (length (map d_y (m153 x0.f1))) (drop 0 (map d_y (m153 x0.f1))))))*1≤70368744177664:=yt
    have f16:∀r∈((take (length (map d_y (m153 x0.f1))) (drop 0 (map d_y (m153 x0.f1)))):List (List D)),r.length=1:=ye
    have f17:((take (length ((take (length (map d_y v0)) (drop 0 (map d_y v0)))++(take (length (map d_y (m152 x0.f0))) (drop 0 (map d_y (m152 x0.f0)))))) (drop 0 ((take (length (map d_y v0)) (drop 0 (map d_y v0)))++(take (length (map d_y (m152 x0.f0))) (drop 0 (map d_y (m152 x0.f0)))))))++(take (length (map d_y (m153 x0.f1))) (drop 0 (map d_y (m153 x0.f1)))))=(map d_y ((v0++(m152 x0.f0))++(m153 x0.f1))):=yq
    have st:=ch b129_1 (h129_1 l0 a0 a1 c0_129_1 (length p:Int) v0) ⟨[(0,(.bptr l0 (b_T a0))),(5,(.one (.ref ⟨(5,0,0),[],0,(length ((take (length ((take (length (map d_y v0)) (drop 0 (map d_y v0)))++(take (length (map d_y (m152 x0.f0))) (drop 0 (map d_y (m152 x0.f0)))))) (drop 0 ((take (length (map d_y v0)) (drop 0 (map d_y v0)))++(take (length (map d_y (m152 x0.f0))) (drop 0 (map d_y (m152 x0.f0)))))))++(take (length (map d_y (m153 x0.f1))) (drop 0 (map d_y (m153 x0.f1))))))⟩))),(7,(.oi (wrap .i64 ((length p:Int)+1))))],[((5,0,0),.live ⟨1,(map d_y ((v0++(m152 x0.f0))++(m153 x0.f1))),[]⟩)]⟩ .normal 66 ya (.f hc (.f f1 (.f (mp_ b_U Hx0) (.h 14 (.b true) (.h 28 (.row (b_U x0)) (.r 34 [] [] (e152 (a0:=x0.f0)) (.f f4 (.f f5 (.f f6 (.f f7 (.f f8 (.f f1 (.f (mp_ b_U Hx0) (.h 36 (.b true) (.h 48 (.row (b_U x0)) (.r 54 [] [] (e153 (l0_0:=(l0+1)) (a0:=x0.f1) yb) (.f f12 (.f f13 (.f f14 (.f f15 (.f f16 (.f f17 (.f trivial (.h 56 (.b true) (.h 59 (.norm (5,0,0) (map d_y ((v0++(m152 x0.f0))++(m153 x0.f1)))) .nil)))))))))))))))))))))))))
    have ih:=t129_1 (l0:=l0) (a0:=a0) (a1:=a1) (c0_129_1:=c0_129_1) hy0 hy1 hy2 hy3 hy4 hy5 hy6 hy7 hy8 y0 (p++ [x0]) ((v0++(m152 x0.f0))++(m153 x0.f1)) yd yt
    rw[pl1] at ih
    rw[show (⟨[(0,(.bptr l0 (b_T a0))),(5,(.one (.ref ⟨(5,0,0),[],0,(length ((take (length ((take (length (map d_y v0)) (drop 0 (map d_y v0)))++(take (length (map d_y (m152 x0.f0))) (drop 0 (map d_y (m152 x0.f0)))))) (drop 0 ((take (length (map d_y v0)) (drop 0 (map d_y v0)))++(take (length (map d_y (m152 x0.f0))) (drop 0 (map d_y (m152 x0.f0)))))))++(take (length (map d_y (m153 x0.f1))) (drop 0 (map d_y (m153 x0.f1))))))⟩))),(7,(.oi (wrap .i64 ((length p:Int)+1))))],[((5,0,0),.live ⟨1,(map d_y ((v0++(m152 x0.f0))++(m153 x0.f1))),[]⟩)]⟩:St)=h129_1 l0 a0 a1 c0_129_1 ((length p:Int)+1) ((v0++(m152 x0.f0))++(m153 x0.f1)) from(by unfold h129_1; simp[hw,take_of_length_le,d_y,ol112,ol83,ol84,ol51,ol21,four_len]; done)] at st
    exact .loopN st ih
theorem lk129_1 {a:K_T}:∀ {l:List K_U} {i:Int} {v w:List Int} {j b},(∀z∈l,length z.f1≤12)→r129_1 a l i v=.k0 w j b→w.length≤v.length+60*l.length
  |[],i,v,w,j,b,_,h=>by simp only[r129_1] at h; injection h with h; subst h; simp
  |x::l,i,v,w,j,b,z,h=>by
    simp only[r129_1] at h
    have q0:=z x (List.mem_cons_self ..)
    have z1:=fun u hu=>z u (List.mem_cons_of_mem _ hu)
    have q2:=pb152 x.f0
    have q3:=pn153 x.f1
    have q:=lk129_1 z1 h
    simp only[length_append,length_cons,length_nil] at q⊢; omega
end Go.Proofs.YtmdocdnidilaiaaGreat.CheckShare
