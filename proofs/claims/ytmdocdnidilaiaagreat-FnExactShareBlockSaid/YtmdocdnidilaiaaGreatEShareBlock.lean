/- What the functions compute. -/
import Derived.Test.YtmdocdnidilaiaaGreatEShareBlockF
import Derived.KernelRfl
namespace Go.Proofs.YtmdocdnidilaiaaGreat.ShareBlock
open Go Go.Proofs.YtmdocdnidilaiaaGreat.V
set_option linter.unusedVariables false
set_option linter.unusedSimpArgs false
set_option maxRecDepth 20000
open Go.IntKind (wrap)
open Int (toNat)
open List (length_replicate length_map length_set length_append length_cons length_nil length_take length_drop take_of_length_le map_take map_drop map_set append_assoc getElem?_map map length take drop getD set)
attribute [local simp] toBR_i fullR_i pureR_i lenB_i lenD_i fromBR_i copy_i toBR_N fullR_N pureR_N lenB_N lenD_N toBR_U fullR_U pureR_U lenB_U lenD_U toBR_T fullR_T pureR_T lenB_T lenD_T toBR_J fullR_J pureR_J lenB_J lenD_J toBR_b fullR_b pureR_b lenB_b lenD_b fromBR_b copy_b toBR_G fullR_G pureR_G lenB_G lenD_G toBR_JL fullR_JL pureR_JL lenB_JL lenD_JL toBR_TL fullR_TL pureR_TL lenB_TL lenD_TL toBR_LiE fullR_LiE pureR_LiE lenB_LiE lenD_LiE toBR_NL fullR_NL pureR_NL lenB_NL lenD_NL toBR_UL fullR_UL pureR_UL lenB_UL lenD_UL strInts_len byteRows_len toBR_y fullR_y pureR_y lenB_y lenD_y fromBR_y copy_y toBR_LyE fullR_LyE pureR_LyE lenB_LyE lenD_LyE toBR_LLyEE fullR_LLyEE pureR_LLyEE lenB_LLyEE lenD_LLyEE
/-! loop 144_0 -/
inductive O144_0 where
  |k0 (w0:Int) (w1:Int) (w2:Bool)
  |k1
def r144_0 (a0:(List Int)):List Int→Int→Int→O144_0
  |x0::y0,i,v0=>
    if(x0 !=v0)=true then(O144_0.k1) else
    (r144_0 a0 y0 (i+1) (wrap .i64 (v0+1)))
  |[],i,v0=>(O144_0.k0 v0 i (decide (i <((length (map b_i a0)):Int))))
def h144_0 (l0_0:Nat) (a0:(List Int)) (a1:Int) (i:Int) (v0:Int):St:=⟨[(0,(.one (.bor l0_0 (map b_i a0)))),(1,(.one (.val (.int .i64 v0)))),(5,(.one (.val (.int .i64 i))))],[]⟩
def ex144_0:O144_0→VX.Exit
  |.k0 _ _ _=>(.exit 0)
  |.k1=>.ret
def fin144_0 (l0_0:Nat) (a0:(List Int)) (a1:Int):O144_0→St
  |.k0 w0 w1 w2=>⟨[(0,(.one (.bor l0_0 (map b_i a0)))),(1,(.one (.val (.int .i64 w0)))),(5,(.one (.val (.int .i64 w1)))),(9,(.one (.val (.bool w2))))],[]⟩
  |.k1=>⟨[(4,(.one (.val (.int .i64 (-1)))))],[]⟩
theorem t144_0 {l0_0:Nat} {a0:(List Int)} {a1:Int} (hy0:length a0*8≤140737488351232):∀(y0:List Int) (p:List Int) (v0:Int),p++y0=a0→Ev F X (.code l144_0 (h144_0 l0_0 a0 a1 (length p:Int) v0) (ex144_0 (r144_0 a0 y0 (length p:Int) v0)) (fin144_0 l0_0 a0 a1 (r144_0 a0 y0 (length p:Int) v0)))
  |[],p,v0,hp0=>by
    have hc:¬(decide ((length p:Int) <((length (map b_i a0)):Int)))=true:=by
      rw[← hp0]; simp only[LN,decide_eq_true_eq]; omega
    have st:=ch b144_0 (h144_0 l0_0 a0 a1 (length p:Int) v0) ⟨[(0,(.one (.bor l0_0 (map b_i a0)))),(1,(.oi v0)),(5,(.oi (length p:Int))),(9,(.one (.val (.bool (decide ((length p:Int) <((length (map b_i a0)):Int)))))))],[]⟩ (.exit 0) 9 (by kernel_rfl) (.f (nt hc) (.h 8 (.b false) .nil))
    rw[show (⟨[(0,(.one (.bor l0_0 (map b_i a0)))),(1,(.oi v0)),(5,(.oi (length p:Int))),(9,(.one (.val (.bool (decide ((length p:Int) <((length (map b_i a0)):Int)))))))],[]⟩:St)=fin144_0 l0_0 a0 a1 (.k0 v0 (length p:Int) (decide ((length p:Int) <((length (map b_i a0)):Int)))) from(by rfl)] at st
    exact .loopX st (show ((.exit 0):VX.Exit)≠.normal from by simp)
  |x0::y0,p,v0,hp0=>by
    have hc:(decide ((length p:Int) <((length (map b_i a0)):Int)))=true:=by
      rw[← hp0]; simp only[LN,decide_eq_true_eq]; omega
    have Hx0:(a0)[toNat (length p:Int)]?=some x0:=by
      rw[← hp0,Int.toNat_natCast]; simp
    have hlen:length (a0)=length p+length y0+1:=by rw[← hp0]; simp; omega
    have hw:wrap .i64 ((length p:Int)+1)=(length p:Int)+1:=wrap64 (by omega)
    simp only[r144_0]
    have f1:0≤(length p:Int):=(by omega)
    have P1 {hs q} (r:PS F X hs q):=(PS.f hc (.f f1 (.f (mp_ b_i Hx0) (.h 8 (.b true) (.h 14 (.row [(.i x0)]) r)))))
    by_cases h_1:(x0 !=v0)=true
    · try simp only[if_pos h_1]
      have st:=ch b144_0 (h144_0 l0_0 a0 a1 (length p:Int) v0) ⟨[(4,(.oi (-1)))],[]⟩ .ret 24 (by kernel_rfl) (P1 (.f h_1 (.h 21 (.b true) .nil)))
      rw[show (⟨[(4,(.oi (-1)))],[]⟩:St)=fin144_0 l0_0 a0 a1 (.k1) from(by rfl)] at st
      exact .loopX st (show (.ret:VX.Exit)≠.normal from by simp)
    · try simp only[if_neg h_1]
      have st:=ch b144_0 (h144_0 l0_0 a0 a1 (length p:Int) v0) ⟨[(0,(.one (.bor l0_0 (map b_i a0)))),(1,(.oi (wrap .i64 (v0+1)))),(5,(.oi (wrap .i64 ((length p:Int)+1))))],[]⟩ .normal 34 (by kernel_rfl) (P1 (.f (nt h_1) (.f trivial (.f trivial (.h 21 (.b false) .nil)))))
      have ih:=t144_0 (l0_0:=l0_0) (a0:=a0) (a1:=a1) hy0 y0 (p++ [x0]) (wrap .i64 (v0+1)) (by rw[append_assoc]; exact hp0)
      rw[show ((p++ [x0]).length:Int)=(p.length:Int)+1 from by simp] at ih
      rw[show (⟨[(0,(.one (.bor l0_0 (map b_i a0)))),(1,(.oi (wrap .i64 (v0+1)))),(5,(.oi (wrap .i64 ((length p:Int)+1))))],[]⟩:St)=h144_0 l0_0 a0 a1 ((length p:Int)+1) (wrap .i64 (v0+1)) from(by unfold h144_0; simp only[hw]; done)] at st
      exact .loopN st ih
/-! loop.example/g00539/laws.heldInt64S -/
def m144 (a0:(List Int)) (a1:Int):Int:=
  (match r144_0 a0 a0 0 a1 with | .k0 w0_0 w1_0 w2_0=>w0_0 | .k1=>(-1))
theorem e144 {l0_0:Nat} {a0:(List Int)} {a1:Int} (hy0:length a0*8≤140737488351232):Ev F X (.call 144 [(.one (.bor l0_0 (map b_i a0))),(.one (.val (.int .i64 a1)))] [] [] [(.one (.val (.int .i64 (m144 a0 a1))))]):=by
  unfold m144
  cases h0:r144_0 a0 a0 0 a1 with
  |k0 w0_0 w1_0 w2_0=>
    try dsimp only
    have f0:(⟨[(0,(.one (.bor l0_0 (map b_i a0)))),(1,(.oi a1)),(5,(.oi 0))],[]⟩:St)=h144_0 l0_0 a0 a1 0 a1:=yf
    exact cp ya (.f f0 (.f (ev_ (e:=ex144_0) (g:=(fin144_0 l0_0 a0 a1)) h0 (t144_0 (l0_0:=l0_0) (a0:=a0) (a1:=a1) (by assumption) a0 [] a1 rfl)) (.h 4 (.loop (h144_0 l0_0 a0 a1 0 a1) (.exit 0) ⟨[(0,(.one (.bor l0_0 (map b_i a0)))),(1,(.oi w0_0)),(5,(.oi w1_0)),(9,(.one (.val (.bool w2_0))))],[]⟩) .nil)))
  |k1=>
    try dsimp only
    have f0:(⟨[(0,(.one (.bor l0_0 (map b_i a0)))),(1,(.oi a1)),(5,(.oi 0))],[]⟩:St)=h144_0 l0_0 a0 a1 0 a1:=yf
    exact cp ya (.f f0 (.f (ev_ (e:=ex144_0) (g:=(fin144_0 l0_0 a0 a1)) h0 (t144_0 (l0_0:=l0_0) (a0:=a0) (a1:=a1) (by assumption) a0 [] a1 rfl)) (.h 4 (.loop (h144_0 l0_0 a0 a1 0 a1) .ret ⟨[(4,(.oi (-1)))],[]⟩) .nil)))
/-! loop 110_0 -/
inductive O110_0 where
  |k0 (w0:Int) (w1:Int) (w2:Bool)
  |k1
def r110_0 (a0:(List K_N)):List K_N→Int→Int→O110_0
  |x0::y0,i,v0=>
    if(x0.f0 !=v0)=true then(O110_0.k1) else
    if(x0.f1 !=(wrap .i64 (v0+1)))=true then(O110_0.k1) else
      if(decide ((m144 x0.f2 (wrap .i64 ((wrap .i64 (v0+1))+1))) < 0))=true then(O110_0.k1) else
        (r110_0 a0 y0 (i+1) (m144 x0.f2 (wrap .i64 ((wrap .i64 (v0+1))+1))))
  |[],i,v0=>(O110_0.k0 v0 i (decide (i <((length (map b_N a0)):Int))))
def h110_0 (l0_0:Nat) (a0:(List K_N)) (a1:Int) (i:Int) (v0:Int):St:=⟨[(0,(.one (.bor l0_0 (map b_N a0)))),(1,(.one (.val (.int .i64 v0)))),(5,(.one (.val (.int .i64 i))))],[]⟩
def ex110_0:O110_0→VX.Exit
  |.k0 _ _ _=>(.exit 0)
  |.k1=>.ret
def fin110_0 (l0_0:Nat) (a0:(List K_N)) (a1:Int):O110_0→St
  |.k0 w0 w1 w2=>⟨[(0,(.one (.bor l0_0 (map b_N a0)))),(1,(.one (.val (.int .i64 w0)))),(5,(.one (.val (.int .i64 w1)))),(9,(.one (.val (.bool w2))))],[]⟩
  |.k1=>⟨[(4,(.one (.val (.int .i64 (-1)))))],[]⟩
theorem t110_0 {l0_0:Nat} {a0:(List K_N)} {a1:Int} (hy0:length a0*40≤140737488351232) (hy1:∀z∈a0,ok_N z):∀(y0:List K_N) (p:List K_N) (v0:Int),p++y0=a0→Ev F X (.code l110_0 (h110_0 l0_0 a0 a1 (length p:Int) v0) (ex110_0 (r110_0 a0 y0 (length p:Int) v0)) (fin110_0 l0_0 a0 a1 (r110_0 a0 y0 (length p:Int) v0)))
  |[],p,v0,hp0=>by
    have hc:¬(decide ((length p:Int) <((length (map b_N a0)):Int)))=true:=by
      rw[← hp0]; simp only[LN,decide_eq_true_eq]; omega
    have st:=ch b110_0 (h110_0 l0_0 a0 a1 (length p:Int) v0) ⟨[(0,(.one (.bor l0_0 (map b_N a0)))),(1,(.oi v0)),(5,(.oi (length p:Int))),(9,(.one (.val (.bool (decide ((length p:Int) <((length (map b_N a0)):Int)))))))],[]⟩ (.exit 0) 9 (by kernel_rfl) (.f (nt hc) (.h 8 (.b false) .nil))
    rw[show (⟨[(0,(.one (.bor l0_0 (map b_N a0)))),(1,(.oi v0)),(5,(.oi (length p:Int))),(9,(.one (.val (.bool (decide ((length p:Int) <((length (map b_N a0)):Int)))))))],[]⟩:St)=fin110_0 l0_0 a0 a1 (.k0 v0 (length p:Int) (decide ((length p:Int) <((length (map b_N a0)):Int)))) from(by rfl)] at st
    exact .loopX st (show ((.exit 0):VX.Exit)≠.normal from by simp)
  |x0::y0,p,v0,hp0=>by
    have hc:(decide ((length p:Int) <((length (map b_N a0)):Int)))=true:=by
      rw[← hp0]; simp only[LN,decide_eq_true_eq]; omega
    have Hx0:(a0)[toNat (length p:Int)]?=some x0:=by
      rw[← hp0,Int.toNat_natCast]; simp
    have Mx0_0:=hy1 x0 (List.mem_of_getElem? Hx0)
    have hlen:length (a0)=length p+length y0+1:=by rw[← hp0]; simp; omega
    have hw:wrap .i64 ((length p:Int)+1)=(length p:Int)+1:=wrap64 (by omega)
    simp only[r110_0]
    have f1:0≤(length p:Int):=(by omega)
    have P1 {hs q} (r:PS F X hs q):=(PS.f hc (.f f1 (.f (mp_ b_N Hx0) (.h 8 (.b true) (.h 14 (.row (b_N x0)) r)))))
    by_cases h_1:(x0.f0 !=v0)=true
    · try simp only[if_pos h_1]
      have st:=ch b110_0 (h110_0 l0_0 a0 a1 (length p:Int) v0) ⟨[(4,(.oi (-1)))],[]⟩ .ret 26 (by kernel_rfl) (P1 (.f h_1 (.h 23 (.b true) .nil)))
      rw[show (⟨[(4,(.oi (-1)))],[]⟩:St)=fin110_0 l0_0 a0 a1 (.k1) from(by rfl)] at st
      exact .loopX st (show (.ret:VX.Exit)≠.normal from by simp)
    · try simp only[if_neg h_1]
      have P2 {hs q} (r:PS F X hs q):=(P1 (.f (nt h_1) (.f trivial (.f f1 (.f (mp_ b_N Hx0) (.h 23 (.b false) (.h 35 (.row (b_N x0)) r)))))))
      by_cases h_2:(x0.f1 !=(wrap .i64 (v0+1)))=true
      · try simp only[if_pos h_2]
        have st:=ch b110_0 (h110_0 l0_0 a0 a1 (length p:Int) v0) ⟨[(4,(.oi (-1)))],[]⟩ .ret 47 (by kernel_rfl) (P2 (.f h_2 (.h 44 (.b true) .nil)))
        rw[show (⟨[(4,(.oi (-1)))],[]⟩:St)=fin110_0 l0_0 a0 a1 (.k1) from(by rfl)] at st
        exact .loopX st (show (.ret:VX.Exit)≠.normal from by simp)
      · try simp only[if_neg h_2]
        have P3 {hs q} (r:PS F X hs q):=(P2 (.f (nt h_2) (.f trivial (.f f1 (.f (mp_ b_N Hx0) (.h 44 (.b false) (.h 56 (.row (b_N x0)) (.r 64 [] [] (e144 (l0_0:=(l0_0+1)) (a0:=x0.f2) (a1:=(wrap .i64 ((wrap .i64 (v0+1))+1))) (by assumption)) r))))))))
        by_cases h_3:(decide ((m144 x0.f2 (wrap .i64 ((wrap .i64 (v0+1))+1))) < 0))=true
        · try simp only[if_pos h_3]
          have st:=ch b110_0 (h110_0 l0_0 a0 a1 (length p:Int) v0) ⟨[(4,(.oi (-1)))],[]⟩ .ret 74 (by kernel_rfl) (P3 (.f h_3 (.h 71 (.b true) .nil)))
          rw[show (⟨[(4,(.oi (-1)))],[]⟩:St)=fin110_0 l0_0 a0 a1 (.k1) from(by rfl)] at st
          exact .loopX st (show (.ret:VX.Exit)≠.normal from by simp)
        · try simp only[if_neg h_3]
          have st:=ch b110_0 (h110_0 l0_0 a0 a1 (length p:Int) v0) ⟨[(0,(.one (.bor l0_0 (map b_N a0)))),(1,(.oi (m144 x0.f2 (wrap .i64 ((wrap .i64 (v0+1))+1))))),(5,(.oi (wrap .i64 ((length p:Int)+1))))],[]⟩ .normal 78 (by kernel_rfl) (P3 (.f (nt h_3) (.f trivial (.h 71 (.b false) .nil))))
          have ih:=t110_0 (l0_0:=l0_0) (a0:=a0) (a1:=a1) hy0 hy1 y0 (p++ [x0]) (m144 x0.f2 (wrap .i64 ((wrap .i64 (v0+1))+1))) (by rw[append_assoc]; exact hp0)
          rw[show ((p++ [x0]).length:Int)=(p.length:Int)+1 from by simp] at ih
          rw[show (⟨[(0,(.one (.bor l0_0 (map b_N a0)))),(1,(.oi (m144 x0.f2 (wrap .i64 ((wrap .i64 (v0+1))+1))))),(5,(.oi (wrap .i64 ((length p:Int)+1))))],[]⟩:St)=h110_0 l0_0 a0 a1 ((length p:Int)+1) (m144 x0.f2 (wrap .i64 ((wrap .i64 (v0+1))+1))) from(by unfold h110_0; simp only[hw]; done)] at st
          exact .loopN st ih
/-! loop.example/g00539/laws.heldInS -/
def m110 (a0:(List K_N)) (a1:Int):Int:=
  (match r110_0 a0 a0 0 a1 with | .k0 w0_0 w1_0 w2_0=>w0_0 | .k1=>(-1))
theorem e110 {l0_0:Nat} {a0:(List K_N)} {a1:Int} (hy0:length a0*40≤140737488351232) (hy1:∀z∈a0,ok_N z):Ev F X (.call 110 [(.one (.bor l0_0 (map b_N a0))),(.one (.val (.int .i64 a1)))] [] [] [(.one (.val (.int .i64 (m110 a0 a1))))]):=by
  unfold m110
  cases h0:r110_0 a0 a0 0 a1 with
  |k0 w0_0 w1_0 w2_0=>
    try dsimp only
    have f0:(⟨[(0,(.one (.bor l0_0 (map b_N a0)))),(1,(.oi a1)),(5,(.oi 0))],[]⟩:St)=h110_0 l0_0 a0 a1 0 a1:=yf
    exact cp ya (.f f0 (.f (ev_ (e:=ex110_0) (g:=(fin110_0 l0_0 a0 a1)) h0 (t110_0 (l0_0:=l0_0) (a0:=a0) (a1:=a1) (by assumption) (by assumption) a0 [] a1 rfl)) (.h 4 (.loop (h110_0 l0_0 a0 a1 0 a1) (.exit 0) ⟨[(0,(.one (.bor l0_0 (map b_N a0)))),(1,(.oi w0_0)),(5,(.oi w1_0)),(9,(.one (.val (.bool w2_0))))],[]⟩) .nil)))
  |k1=>
    try dsimp only
    have f0:(⟨[(0,(.one (.bor l0_0 (map b_N a0)))),(1,(.oi a1)),(5,(.oi 0))],[]⟩:St)=h110_0 l0_0 a0 a1 0 a1:=yf
    exact cp ya (.f f0 (.f (ev_ (e:=ex110_0) (g:=(fin110_0 l0_0 a0 a1)) h0 (t110_0 (l0_0:=l0_0) (a0:=a0) (a1:=a1) (by assumption) (by assumption) a0 [] a1 rfl)) (.h 4 (.loop (h110_0 l0_0 a0 a1 0 a1) .ret ⟨[(4,(.oi (-1)))],[]⟩) .nil)))
/-! loop 111_0 -/
inductive O111_0 where
  |k0 (w0:Int) (w1:Int) (w2:Bool)
  |k1
def r111_0 (a0:(List K_U)):List K_U→Int→Int→O111_0
  |x0::y0,i,v0=>
    if(x0.f0 !=v0)=true then(O111_0.k1) else
    if(decide ((m144 x0.f1 (wrap .i64 (v0+1))) < 0))=true then(O111_0.k1) else
      (r111_0 a0 y0 (i+1) (m144 x0.f1 (wrap .i64 (v0+1))))
  |[],i,v0=>(O111_0.k0 v0 i (decide (i <((length (map b_U a0)):Int))))
def h111_0 (l0_0:Nat) (a0:(List K_U)) (a1:Int) (i:Int) (v0:Int):St:=⟨[(0,(.one (.bor l0_0 (map b_U a0)))),(1,(.one (.val (.int .i64 v0)))),(5,(.one (.val (.int .i64 i))))],[]⟩
def ex111_0:O111_0→VX.Exit
  |.k0 _ _ _=>(.exit 0)
  |.k1=>.ret
def fin111_0 (l0_0:Nat) (a0:(List K_U)) (a1:Int):O111_0→St
  |.k0 w0 w1 w2=>⟨[(0,(.one (.bor l0_0 (map b_U a0)))),(1,(.one (.val (.int .i64 w0)))),(5,(.one (.val (.int .i64 w1)))),(9,(.one (.val (.bool w2))))],[]⟩
  |.k1=>⟨[(4,(.one (.val (.int .i64 (-1)))))],[]⟩
theorem t111_0 {l0_0:Nat} {a0:(List K_U)} {a1:Int} (hy0:length a0*32≤140737488351232) (hy1:∀z∈a0,ok_U z):∀(y0:List K_U) (p:List K_U) (v0:Int),p++y0=a0→Ev F X (.code l111_0 (h111_0 l0_0 a0 a1 (length p:Int) v0) (ex111_0 (r111_0 a0 y0 (length p:Int) v0)) (fin111_0 l0_0 a0 a1 (r111_0 a0 y0 (length p:Int) v0)))
  |[],p,v0,hp0=>by
    have hc:¬(decide ((length p:Int) <((length (map b_U a0)):Int)))=true:=by
      rw[← hp0]; simp only[LN,decide_eq_true_eq]; omega
    have st:=ch b111_0 (h111_0 l0_0 a0 a1 (length p:Int) v0) ⟨[(0,(.one (.bor l0_0 (map b_U a0)))),(1,(.oi v0)),(5,(.oi (length p:Int))),(9,(.one (.val (.bool (decide ((length p:Int) <((length (map b_U a0)):Int)))))))],[]⟩ (.exit 0) 9 (by kernel_rfl) (.f (nt hc) (.h 8 (.b false) .nil))
    rw[show (⟨[(0,(.one (.bor l0_0 (map b_U a0)))),(1,(.oi v0)),(5,(.oi (length p:Int))),(9,(.one (.val (.bool (decide ((length p:Int) <((length (map b_U a0)):Int)))))))],[]⟩:St)=fin111_0 l0_0 a0 a1 (.k0 v0 (length p:Int) (decide ((length p:Int) <((length (map b_U a0)):Int)))) from(by rfl)] at st
    exact .loopX st (show ((.exit 0):VX.Exit)≠.normal from by simp)
  |x0::y0,p,v0,hp0=>by
    have hc:(decide ((length p:Int) <((length (map b_U a0)):Int)))=true:=by
      rw[← hp0]; simp only[LN,decide_eq_true_eq]; omega
    have Hx0:(a0)[toNat (length p:Int)]?=some x0:=by
      rw[← hp0,Int.toNat_natCast]; simp
    have Mx0_0:=hy1 x0 (List.mem_of_getElem? Hx0)
    have hlen:length (a0)=length p+length y0+1:=by rw[← hp0]; simp; omega
    have hw:wrap .i64 ((length p:Int)+1)=(length p:Int)+1:=wrap64 (by omega)
    simp only[r111_0]
    have f1:0≤(length p:Int):=(by omega)
    have P1 {hs q} (r:PS F X hs q):=(PS.f hc (.f f1 (.f (mp_ b_U Hx0) (.h 8 (.b true) (.h 14 (.row (b_U x0)) r)))))
    by_cases h_1:(x0.f0 !=v0)=true
    · try simp only[if_pos h_1]
      have st:=ch b111_0 (h111_0 l0_0 a0 a1 (length p:Int) v0) ⟨[(4,(.oi (-1)))],[]⟩ .ret 26 (by kernel_rfl) (P1 (.f h_1 (.h 23 (.b true) .nil)))
      rw[show (⟨[(4,(.oi (-1)))],[]⟩:St)=fin111_0 l0_0 a0 a1 (.k1) from(by rfl)] at st
      exact .loopX st (show (.ret:VX.Exit)≠.normal from by simp)
    · try simp only[if_neg h_1]
      have P2 {hs q} (r:PS F X hs q):=(P1 (.f (nt h_1) (.f trivial (.f f1 (.f (mp_ b_U Hx0) (.h 23 (.b false) (.h 35 (.row (b_U x0)) (.r 43 [] [] (e144 (l0_0:=(l0_0+1)) (a0:=x0.f1) (a1:=(wrap .i64 (v0+1))) (by assumption)) r))))))))
      by_cases h_2:(decide ((m144 x0.f1 (wrap .i64 (v0+1))) < 0))=true
      · try simp only[if_pos h_2]
        have st:=ch b111_0 (h111_0 l0_0 a0 a1 (length p:Int) v0) ⟨[(4,(.oi (-1)))],[]⟩ .ret 53 (by kernel_rfl) (P2 (.f h_2 (.h 50 (.b true) .nil)))
        rw[show (⟨[(4,(.oi (-1)))],[]⟩:St)=fin111_0 l0_0 a0 a1 (.k1) from(by rfl)] at st
        exact .loopX st (show (.ret:VX.Exit)≠.normal from by simp)
      · try simp only[if_neg h_2]
        have st:=ch b111_0 (h111_0 l0_0 a0 a1 (length p:Int) v0) ⟨[(0,(.one (.bor l0_0 (map b_U a0)))),(1,(.oi (m144 x0.f1 (wrap .i64 (v0+1))))),(5,(.oi (wrap .i64 ((length p:Int)+1))))],[]⟩ .normal 57 (by kernel_rfl) (P2 (.f (nt h_2) (.f trivial (.h 50 (.b false) .nil))))
        have ih:=t111_0 (l0_0:=l0_0) (a0:=a0) (a1:=a1) hy0 hy1 y0 (p++ [x0]) (m144 x0.f1 (wrap .i64 (v0+1))) (by rw[append_assoc]; exact hp0)
        rw[show ((p++ [x0]).length:Int)=(p.length:Int)+1 from by simp] at ih
        rw[show (⟨[(0,(.one (.bor l0_0 (map b_U a0)))),(1,(.oi (m144 x0.f1 (wrap .i64 (v0+1))))),(5,(.oi (wrap .i64 ((length p:Int)+1))))],[]⟩:St)=h111_0 l0_0 a0 a1 ((length p:Int)+1) (m144 x0.f1 (wrap .i64 (v0+1))) from(by unfold h111_0; simp only[hw]; done)] at st
        exact .loopN st ih
/-! loop.example/g00539/laws.heldOutS -/
def m111 (a0:(List K_U)) (a1:Int):Int:=
  (match r111_0 a0 a0 0 a1 with | .k0 w0_0 w1_0 w2_0=>w0_0 | .k1=>(-1))
theorem e111 {l0_0:Nat} {a0:(List K_U)} {a1:Int} (hy0:length a0*32≤140737488351232) (hy1:∀z∈a0,ok_U z):Ev F X (.call 111 [(.one (.bor l0_0 (map b_U a0))),(.one (.val (.int .i64 a1)))] [] [] [(.one (.val (.int .i64 (m111 a0 a1))))]):=by
  unfold m111
  cases h0:r111_0 a0 a0 0 a1 with
  |k0 w0_0 w1_0 w2_0=>
    try dsimp only
    have f0:(⟨[(0,(.one (.bor l0_0 (map b_U a0)))),(1,(.oi a1)),(5,(.oi 0))],[]⟩:St)=h111_0 l0_0 a0 a1 0 a1:=yf
    exact cp ya (.f f0 (.f (ev_ (e:=ex111_0) (g:=(fin111_0 l0_0 a0 a1)) h0 (t111_0 (l0_0:=l0_0) (a0:=a0) (a1:=a1) (by assumption) (by assumption) a0 [] a1 rfl)) (.h 4 (.loop (h111_0 l0_0 a0 a1 0 a1) (.exit 0) ⟨[(0,(.one (.bor l0_0 (map b_U a0)))),(1,(.oi w0_0)),(5,(.oi w1_0)),(9,(.one (.val (.bool w2_0))))],[]⟩) .nil)))
  |k1=>
    try dsimp only
    have f0:(⟨[(0,(.one (.bor l0_0 (map b_U a0)))),(1,(.oi a1)),(5,(.oi 0))],[]⟩:St)=h111_0 l0_0 a0 a1 0 a1:=yf
    exact cp ya (.f f0 (.f (ev_ (e:=ex111_0) (g:=(fin111_0 l0_0 a0 a1)) h0 (t111_0 (l0_0:=l0_0) (a0:=a0) (a1:=a1) (by assumption) (by assumption) a0 [] a1 rfl)) (.h 4 (.loop (h111_0 l0_0 a0 a1 0 a1) .ret ⟨[(4,(.oi (-1)))],[]⟩) .nil)))
/-! loop 81_0 -/
inductive O81_0 where
  |k0 (w0:Int) (w1:Int) (w2:Bool)
  |k1
def r81_0 (a0:(List K_T)):List K_T→Int→Int→O81_0
  |x0::y0,i,v0=>
    if(x0.f0 !=v0)=true then(O81_0.k1) else
    if(decide ((m110 x0.f1 (wrap .i64 (v0+1))) < 0))=true then(O81_0.k1) else
      if(decide ((m111 x0.f2 (m110 x0.f1 (wrap .i64 (v0+1)))) < 0))=true then(O81_0.k1) else
        (r81_0 a0 y0 (i+1) (m111 x0.f2 (m110 x0.f1 (wrap .i64 (v0+1)))))
  |[],i,v0=>(O81_0.k0 v0 i (decide (i <((length (map b_T a0)):Int))))
def h81_0 (l0_0:Nat) (a0:(List K_T)) (a1:Int) (i:Int) (v0:Int):St:=⟨[(0,(.one (.bor l0_0 (map b_T a0)))),(1,(.one (.val (.int .i64 v0)))),(5,(.one (.val (.int .i64 i))))],[]⟩
def ex81_0:O81_0→VX.Exit
  |.k0 _ _ _=>(.exit 0)
  |.k1=>.ret
def fin81_0 (l0_0:Nat) (a0:(List K_T)) (a1:Int):O81_0→St
  |.k0 w0 w1 w2=>⟨[(0,(.one (.bor l0_0 (map b_T a0)))),(1,(.one (.val (.int .i64 w0)))),(5,(.one (.val (.int .i64 w1)))),(9,(.one (.val (.bool w2))))],[]⟩
  |.k1=>⟨[(4,(.one (.val (.int .i64 (-1)))))],[]⟩
theorem t81_0 {l0_0:Nat} {a0:(List K_T)} {a1:Int} (hy0:length a0*56≤140737488351232) (hy1:∀z∈a0,ok_T z):∀(y0:List K_T) (p:List K_T) (v0:Int),p++y0=a0→Ev F X (.code l81_0 (h81_0 l0_0 a0 a1 (length p:Int) v0) (ex81_0 (r81_0 a0 y0 (length p:Int) v0)) (fin81_0 l0_0 a0 a1 (r81_0 a0 y0 (length p:Int) v0)))
  |[],p,v0,hp0=>by
    have hc:¬(decide ((length p:Int) <((length (map b_T a0)):Int)))=true:=by
      rw[← hp0]; simp only[LN,decide_eq_true_eq]; omega
    have st:=ch b81_0 (h81_0 l0_0 a0 a1 (length p:Int) v0) ⟨[(0,(.one (.bor l0_0 (map b_T a0)))),(1,(.oi v0)),(5,(.oi (length p:Int))),(9,(.one (.val (.bool (decide ((length p:Int) <((length (map b_T a0)):Int)))))))],[]⟩ (.exit 0) 9 (by kernel_rfl) (.f (nt hc) (.h 8 (.b false) .nil))
    rw[show (⟨[(0,(.one (.bor l0_0 (map b_T a0)))),(1,(.oi v0)),(5,(.oi (length p:Int))),(9,(.one (.val (.bool (decide ((length p:Int) <((length (map b_T a0)):Int)))))))],[]⟩:St)=fin81_0 l0_0 a0 a1 (.k0 v0 (length p:Int) (decide ((length p:Int) <((length (map b_T a0)):Int)))) from(by rfl)] at st
    exact .loopX st (show ((.exit 0):VX.Exit)≠.normal from by simp)
  |x0::y0,p,v0,hp0=>by
    have hc:(decide ((length p:Int) <((length (map b_T a0)):Int)))=true:=by
      rw[← hp0]; simp only[LN,decide_eq_true_eq]; omega
    have Hx0:(a0)[toNat (length p:Int)]?=some x0:=by
      rw[← hp0,Int.toNat_natCast]; simp
    obtain⟨Mx0_0,Mx0_1,Mx0_2,Mx0_3⟩:=hy1 x0 (List.mem_of_getElem? Hx0)
    have hlen:length (a0)=length p+length y0+1:=by rw[← hp0]; simp; omega
    have hw:wrap .i64 ((length p:Int)+1)=(length p:Int)+1:=wrap64 (by omega)
    simp only[r81_0]
    have f1:0≤(length p:Int):=(by omega)
    have P1 {hs q} (r:PS F X hs q):=(PS.f hc (.f f1 (.f (mp_ b_T Hx0) (.h 8 (.b true) (.h 14 (.row (b_T x0)) r)))))
    by_cases h_1:(x0.f0 !=v0)=true
    · try simp only[if_pos h_1]
      have st:=ch b81_0 (h81_0 l0_0 a0 a1 (length p:Int) v0) ⟨[(4,(.oi (-1)))],[]⟩ .ret 26 (by kernel_rfl) (P1 (.f h_1 (.h 23 (.b true) .nil)))
      rw[show (⟨[(4,(.oi (-1)))],[]⟩:St)=fin81_0 l0_0 a0 a1 (.k1) from(by rfl)] at st
      exact .loopX st (show (.ret:VX.Exit)≠.normal from by simp)
    · try simp only[if_neg h_1]
      have P2 {hs q} (r:PS F X hs q):=(P1 (.f (nt h_1) (.f trivial (.f f1 (.f (mp_ b_T Hx0) (.h 23 (.b false) (.h 35 (.row (b_T x0)) (.r 43 [] [] (e110 (l0_0:=(l0_0+1)) (a0:=x0.f1) (a1:=(wrap .i64 (v0+1))) ‹_› ‹_›) r))))))))
      by_cases h_2:(decide ((m110 x0.f1 (wrap .i64 (v0+1))) < 0))=true
      · try simp only[if_pos h_2]
        have st:=ch b81_0 (h81_0 l0_0 a0 a1 (length p:Int) v0) ⟨[(4,(.oi (-1)))],[]⟩ .ret 53 (by kernel_rfl) (P2 (.f h_2 (.h 50 (.b true) .nil)))
        rw[show (⟨[(4,(.oi (-1)))],[]⟩:St)=fin81_0 l0_0 a0 a1 (.k1) from(by rfl)] at st
        exact .loopX st (show (.ret:VX.Exit)≠.normal from by simp)
      · try simp only[if_neg h_2]
        have P3 {hs q} (r:PS F X hs q):=(P2 (.f (nt h_2) (.f f1 (.f (mp_ b_T Hx0) (.h 50 (.b false) (.h 56 (.row (b_T x0)) (.r 64 [] [] (e111 (l0_0:=(l0_0+1)) (a0:=x0.f2) (a1:=(m110 x0.f1 (wrap .i64 (v0+1)))) ‹_› ‹_›) r)))))))
        by_cases h_3:(decide ((m111 x0.f2 (m110 x0.f1 (wrap .i64 (v0+1)))) < 0))=true
        · try simp only[if_pos h_3]
          have st:=ch b81_0 (h81_0 l0_0 a0 a1 (length p:Int) v0) ⟨[(4,(.oi (-1)))],[]⟩ .ret 74 (by kernel_rfl) (P3 (.f h_3 (.h 71 (.b true) .nil)))
          rw[show (⟨[(4,(.oi (-1)))],[]⟩:St)=fin81_0 l0_0 a0 a1 (.k1) from(by rfl)] at st
          exact .loopX st (show (.ret:VX.Exit)≠.normal from by simp)
        · try simp only[if_neg h_3]
          have st:=ch b81_0 (h81_0 l0_0 a0 a1 (length p:Int) v0) ⟨[(0,(.one (.bor l0_0 (map b_T a0)))),(1,(.oi (m111 x0.f2 (m110 x0.f1 (wrap .i64 (v0+1)))))),(5,(.oi (wrap .i64 ((length p:Int)+1))))],[]⟩ .normal 78 (by kernel_rfl) (P3 (.f (nt h_3) (.f trivial (.h 71 (.b false) .nil))))
          have ih:=t81_0 (l0_0:=l0_0) (a0:=a0) (a1:=a1) hy0 hy1 y0 (p++ [x0]) (m111 x0.f2 (m110 x0.f1 (wrap .i64 (v0+1)))) (by rw[append_assoc]; exact hp0)
          rw[show ((p++ [x0]).length:Int)=(p.length:Int)+1 from by simp] at ih
          rw[show (⟨[(0,(.one (.bor l0_0 (map b_T a0)))),(1,(.oi (m111 x0.f2 (m110 x0.f1 (wrap .i64 (v0+1)))))),(5,(.oi (wrap .i64 ((length p:Int)+1))))],[]⟩:St)=h81_0 l0_0 a0 a1 ((length p:Int)+1) (m111 x0.f2 (m110 x0.f1 (wrap .i64 (v0+1)))) from(by unfold h81_0; simp only[hw]; done)] at st
          exact .loopN st ih
/-! loop.example/g00539/laws.heldTxS -/
def m81 (a0:(List K_T)) (a1:Int):Int:=
  (match r81_0 a0 a0 0 a1 with | .k0 w0_0 w1_0 w2_0=>w0_0 | .k1=>(-1))
theorem e81 {l0_0:Nat} {a0:(List K_T)} {a1:Int} (hy0:length a0*56≤140737488351232) (hy1:∀z∈a0,ok_T z):Ev F X (.call 81 [(.one (.bor l0_0 (map b_T a0))),(.one (.val (.int .i64 a1)))] [] [] [(.one (.val (.int .i64 (m81 a0 a1))))]):=by
  unfold m81
  cases h0:r81_0 a0 a0 0 a1 with
  |k0 w0_0 w1_0 w2_0=>
    try dsimp only
    have f0:(⟨[(0,(.one (.bor l0_0 (map b_T a0)))),(1,(.oi a1)),(5,(.oi 0))],[]⟩:St)=h81_0 l0_0 a0 a1 0 a1:=yf
    exact cp ya (.f f0 (.f (ev_ (e:=ex81_0) (g:=(fin81_0 l0_0 a0 a1)) h0 (t81_0 (l0_0:=l0_0) (a0:=a0) (a1:=a1) (by assumption) (by assumption) a0 [] a1 rfl)) (.h 4 (.loop (h81_0 l0_0 a0 a1 0 a1) (.exit 0) ⟨[(0,(.one (.bor l0_0 (map b_T a0)))),(1,(.oi w0_0)),(5,(.oi w1_0)),(9,(.one (.val (.bool w2_0))))],[]⟩) .nil)))
  |k1=>
    try dsimp only
    have f0:(⟨[(0,(.one (.bor l0_0 (map b_T a0)))),(1,(.oi a1)),(5,(.oi 0))],[]⟩:St)=h81_0 l0_0 a0 a1 0 a1:=yf
    exact cp ya (.f f0 (.f (ev_ (e:=ex81_0) (g:=(fin81_0 l0_0 a0 a1)) h0 (t81_0 (l0_0:=l0_0) (a0:=a0) (a1:=a1) (by assumption) (by assumption) a0 [] a1 rfl)) (.h 4 (.loop (h81_0 l0_0 a0 a1 0 a1) .ret ⟨[(4,(.oi (-1)))],[]⟩) .nil)))
/-! loop.example/g00539/laws.heldBlock -/
def m46 (a0:K_G) (a1:Int):Int:=
  if(decide ((m81 a0.f4 a1) < 0))=true then(-1) else
  (m81 a0.f4 a1)
theorem e46 {l0_4:Nat} {a0:K_G} {a1:Int} (hy0:length a0.f4*56≤140737488351232) (hy1:∀z∈a0.f4,ok_T z):Ev F X (.call 46 [(.agg (k_G l0_4 a0)),(.one (.val (.int .i64 a1)))] [] [] [(.one (.val (.int .i64 (m46 a0 a1))))]):=by
  unfold m46
  have P0 {hs q} (r:PS F X hs q):=(PS.r 11 [] [] (e81 (l0_0:=(l0_4+1)) (a0:=a0.f4) (a1:=a1) ‹_› ‹_›) r)
  by_cases h0:(decide ((m81 a0.f4 a1) < 0))=true
  · try simp only[if_pos h0]
    exact cp ya (P0 (.f h0 (.h 18 (.b true) .nil)))
  · try simp only[if_neg h0]
    exact cp ya (P0 (.f (nt h0) (.h 18 (.b false) .nil)))
/-! loop.example/g00539/laws.heldBlockResult -/
def m14 (a0:K_J) (a1:Int):Int:=
  if(decide ((m46 (K_G.mk a0.f1 a0.f2 a0.f3 a0.f4 a0.f5) a1) < 0))=true then(-1) else
  (m46 (K_G.mk a0.f1 a0.f2 a0.f3 a0.f4 a0.f5) a1)
theorem e14 {l0_5:Nat} {a0:K_J} {a1:Int} (hy0:length a0.f5*56≤140737488351232) (hy1:∀z∈a0.f5,ok_T z):Ev F X (.call 14 [(.agg (k_J l0_5 a0)),(.one (.val (.int .i64 a1)))] [] [] [(.one (.val (.int .i64 (m14 a0 a1))))]):=by
  unfold m14
  have P0 {hs q} (r:PS F X hs q):=(PS.r 11 [] [] (e46 (l0_4:=(l0_5+1)) (a0:=(K_G.mk a0.f1 a0.f2 a0.f3 a0.f4 a0.f5)) (a1:=a1) ‹_› ‹_›) r)
  by_cases h0:(decide ((m46 (K_G.mk a0.f1 a0.f2 a0.f3 a0.f4 a0.f5) a1) < 0))=true
  · try simp only[if_pos h0]
    exact cp ya (P0 (.f h0 (.h 18 (.b true) .nil)))
  · try simp only[if_neg h0]
    exact cp ya (P0 (.f (nt h0) (.h 18 (.b false) .nil)))
/-! loop.example/g00539/laws.FnExactShareBlock -/
def m3 (a0:K_J) (a1:Int) (a2:Int) (a3:Int):Bool:=
  if(decide ((m6 a0 1048576) < 0))=true then true else
  if(!(m10 (m9 a0 a1 a2 a3) (m7 a0 a1 a2 a3)))=true then false else
    if(!(m11 a0 a0))=true then false else
      if(decide ((m12 a0 1) < 0))=true then false else
        if(decide ((m14 (K_J.mk ((m9 a0 a1 a2 a3).f0) ((m9 a0 a1 a2 a3).f1) ((m9 a0 a1 a2 a3).f2) ((m9 a0 a1 a2 a3).f3) ((m9 a0 a1 a2 a3).f4) (o13_0 (m9 a0 a1 a2 a3) 1)) 1) < 0))=true then false else
          if((m14 (K_J.mk ((m9 a0 a1 a2 a3).f0) ((m9 a0 a1 a2 a3).f1) ((m9 a0 a1 a2 a3).f2) ((m9 a0 a1 a2 a3).f3) ((m9 a0 a1 a2 a3).f4) (o13_0 (m9 a0 a1 a2 a3) 1)) 1) !=(m13 (m9 a0 a1 a2 a3) 1))=true then false else
            true
set_option maxHeartbeats 8000000 in
theorem e3 {l0_5:Nat} {a0:K_J} {a1:Int} {a2:Int} {a3:Int} (hy0:length a0.f5*56≤140737488351232) (hy1:∀z∈a0.f5,ok_T z):Ev F X (.call 3 [(.agg (k_J l0_5 a0)),(.one (.val (.int .i64 a1))),(.one (.val (.int .i64 a2))),(.one (.val (.int .i64 a3)))] [] [] [(.one (.val (.bool (m3 a0 a1 a2 a3))))]):=by
  unfold m3
  have P0 {hs q} (r:PS F X hs q):=(PS.r 11 [] [] (e6 (l0_5:=(l0_5+1)) (a0:=a0) (a1:=1048576) ‹_› ‹_›) r)
  by_cases h0:(decide ((m6 a0 1048576) < 0))=true
  · try simp only[if_pos h0]
    exact cp ya (P0 (.f h0 (.h 18 (.b true) .nil)))
  · try simp only[if_neg h0]
    have f2:=(e8 (l0_5:=(l0_5+1)) (a0:=a0) ‹_› ‹_›)
    have P1 {hs q} (r:PS F X hs q):=(P0 (.f (nt h0) (.h 18 (.b false) (.r 22 [] [] f2 (ln_T a0.f5 (.r 30 [] [(map b_T a0.f5)] (e7 (l0_5:=0) (a0:=a0) (a1:=a1) (a2:=a2) (a3:=a3) ‹_› ‹_›) (pe 0 (pe (length (map d_T ((m7 a0 a1 a2 a3).f5))) (.r 38 [] [] f2 (pe 0 (pe (length (map d_T a0.f5)) (ln_T a0.f5 (.r 52 [] [(map b_T a0.f5)] (e9 (l0_5:=0) (a0:=a0) (a1:=a1) (a2:=a2) (a3:=a3) ‹_› ‹_›) (pe 0 (pe (length (map d_T ((m9 a0 a1 a2 a3).f5))) (ln_T ((m9 a0 a1 a2 a3).f5) (ln_T ((m7 a0 a1 a2 a3).f5) (.r 62 [] [(map b_T ((m9 a0 a1 a2 a3).f5)),(map b_T ((m7 a0 a1 a2 a3).f5))] (e10 (l0_5:=0) (l1_5:=0) (a0:=(m9 a0 a1 a2 a3)) (a1:=(m7 a0 a1 a2 a3)) yU yV yah yai) r))))))))))))))))))
    by_cases h1:(!(m10 (m9 a0 a1 a2 a3) (m7 a0 a1 a2 a3)))=true
    · try simp only[if_pos h1]
      exact cp ya (P1 (.f h1 (.h 65 (.b true) .nil)))
    · try simp only[if_neg h1]
      have P2 {hs q} (r:PS F X hs q):=(P1 (.f (nt h1) (.h 65 (.b false) (.r 71 [] [] f2 (ln_T a0.f5 (ln_T a0.f5 (.r 73 [] [(map b_T a0.f5),(map b_T a0.f5)] (e11 (l0_5:=0) (l1_5:=0) (a0:=a0) (a1:=a0) ‹_› ‹_› ‹_› ‹_›) r)))))))
      by_cases h2:(!(m11 a0 a0))=true
      · try simp only[if_pos h2]
        exact cp ya (P2 (.f h2 (.h 76 (.b true) .nil)))
      · try simp only[if_neg h2]
        have P3 {hs q} (r:PS F X hs q):=(P2 (.f (nt h2) (.f (pureR_T a0.f5) (.h 76 (.b false) (.r 84 [true] [] (e12 (a0:=a0) (a1:=1) ‹_› ‹_›) r)))))
        by_cases h3:(decide ((m12 a0 1) < 0))=true
        · try simp only[if_pos h3]
          exact cp ya (P3 (.f h3 (.f h3 (.f h3 (.f h3 (.f h3 (.h 93 (.b true) (.h 95 (.b true) (.h 97 (.b true) (.h 99 (.b true) (.h 102 (.b true) .nil)))))))))))
        · try simp only[if_neg h3]
          have P4 {hs q} (r:PS F X hs q):=(P3 (.f (nt h3) (.f (nt h3) (.f (nt h3) (ln_T ((m9 a0 a1 a2 a3).f5) (ln_T ((m7 a0 a1 a2 a3).f5) (.h 93 (.b false) (.h 95 (.b false) (.h 97 (.b false) (.r 98 [] [(map b_T ((m9 a0 a1 a2 a3).f5)),(map b_T ((m7 a0 a1 a2 a3).f5))] (e10 (l0_5:=0) (l1_5:=0) (a0:=(m9 a0 a1 a2 a3)) (a1:=(m7 a0 a1 a2 a3)) yU yV yah yai) (.f (nt h3) (.f (nt h3) (.f (nt h1) (.f (pureR_T ((m9 a0 a1 a2 a3).f5)) (.h 99 (.b false) (.h 102 (.b false) (.h 103 (.b false) (.r 111 [true] [] (e13 (a0:=(m9 a0 a1 a2 a3)) (a1:=1) yU yV) (ln_T (o13_0 (m9 a0 a1 a2 a3) 1) (.r 121 [] [(map b_T (o13_0 (m9 a0 a1 a2 a3) 1))] (e14 (l0_5:=0) (a0:=(K_J.mk ((m9 a0 a1 a2 a3).f0) ((m9 a0 a1 a2 a3).f1) ((m9 a0 a1 a2 a3).f2) ((m9 a0 a1 a2 a3).f3) ((m9 a0 a1 a2 a3).f4) (o13_0 (m9 a0 a1 a2 a3) 1))) (a1:=1) (by have q:=okm9 a0 a1 a2 a3; rw[ol13_0]; exact q.1) (by have q:=okm9 a0 a1 a2 a3; exact oo51 _ _ q.2)) r))))))))))))))))))))
          by_cases h4:(decide ((m14 (K_J.mk ((m9 a0 a1 a2 a3).f0) ((m9 a0 a1 a2 a3).f1) ((m9 a0 a1 a2 a3).f2) ((m9 a0 a1 a2 a3).f3) ((m9 a0 a1 a2 a3).f4) (o13_0 (m9 a0 a1 a2 a3) 1)) 1) < 0))=true
          · try simp only[if_pos h4]
            exact cp ya (P4 (.f h4 (.h 128 (.b true) .nil)))
          · try simp only[if_neg h4]
            by_cases h5:((m14 (K_J.mk ((m9 a0 a1 a2 a3).f0) ((m9 a0 a1 a2 a3).f1) ((m9 a0 a1 a2 a3).f2) ((m9 a0 a1 a2 a3).f3) ((m9 a0 a1 a2 a3).f4) (o13_0 (m9 a0 a1 a2 a3) 1)) 1) !=(m13 (m9 a0 a1 a2 a3) 1))=true
            · try simp only[if_pos h5]
              exact cp ya (P4 (.f (nt h4) (.f h5 (.h 128 (.b false) (.h 135 (.b true) .nil)))))
            · try simp only[if_neg h5]
              exact cp ya (P4 (.f (nt h4) (.f (nt h5) (.h 128 (.b false) (.h 135 (.b false) (.r 139 [] [] f2 (ln_T a0.f5 (.r 147 [] [(map b_T a0.f5)] (e9 (l0_5:=0) (a0:=a0) (a1:=a1) (a2:=a2) (a3:=a3) ‹_› ‹_›) (pe 0 (pe (length (map d_T ((m9 a0 a1 a2 a3).f5))) (ln_T ((m9 a0 a1 a2 a3).f5) (ln_T ((m7 a0 a1 a2 a3).f5) (.r 157 [] [(map b_T ((m9 a0 a1 a2 a3).f5)),(map b_T ((m7 a0 a1 a2 a3).f5))] (e10 (l0_5:=0) (l1_5:=0) (a0:=(m9 a0 a1 a2 a3)) (a1:=(m7 a0 a1 a2 a3)) yU yV yah yai) (.f (nt h1) (ln_T (o13_0 (m9 a0 a1 a2 a3) 1) (.h 160 (.b false) (.r 168 [] [(map b_T (o13_0 (m9 a0 a1 a2 a3) 1))] (e14 (l0_5:=0) (a0:=(K_J.mk ((m9 a0 a1 a2 a3).f0) ((m9 a0 a1 a2 a3).f1) ((m9 a0 a1 a2 a3).f2) ((m9 a0 a1 a2 a3).f3) ((m9 a0 a1 a2 a3).f4) (o13_0 (m9 a0 a1 a2 a3) 1))) (a1:=1) (by have q:=okm9 a0 a1 a2 a3; rw[ol13_0]; exact q.1) (by have q:=okm9 a0 a1 a2 a3; exact oo51 _ _ q.2)) (.f (nt h4) (.f (nt h5) (.h 175 (.b false) (.h 182 (.b false) .nil)))))))))))))))))))))
/-! weights -/
def wt_i (x:Int):Nat:=1
theorem wts_i:∀(l:List Int),(map wt_i l).sum=l.length*1
  |[]=>rfl
  |x::l=>by simp only[List.map_cons,List.sum_cons,wts_i l,length_cons,wt_i]; omega
def wt_N (x:K_N):Nat:=2+(map wt_i x.f2).sum
def wt_U (x:K_U):Nat:=1+(map wt_i x.f1).sum
def wt_T (x:K_T):Nat:=1+(map wt_N x.f1).sum+(map wt_U x.f2).sum
def wt_J (x:K_J):Nat:=5+(map wt_T x.f5).sum
def wt_b (x:Bool):Nat:=1
def wt_G (x:K_G):Nat:=4+(map wt_T x.f4).sum
def wt_JL (x:(List K_J)):Nat:=0+(map wt_J x).sum
def wt_TL (x:(List K_T)):Nat:=0+(map wt_T x).sum
def wt_LiE (x:(List Int)):Nat:=0+(map wt_i x).sum
def wt_NL (x:(List K_N)):Nat:=0+(map wt_N x).sum
def wt_UL (x:(List K_U)):Nat:=0+(map wt_U x).sum
def wt_y (x:Int):Nat:=1
def wt_LyE (x:(List Int)):Nat:=0+(map wt_y x).sum
def wt_LLyEE (x:(List (List Int))):Nat:=0+(map wt_LyE x).sum
/-! marks of loop.example/g00539/laws.markInt64S -/
theorem mr112_0 (a0:List Int):∀(l p:List Int) (v1:Int),0≤v1→v1+((map wt_i l).sum:Nat)≤4611686018427387904→∃(q:List Int) (k':Int) (w2:_) (w3:_),r112_0 a0 l (p.length:Int) (p++l) v1=.k0 (p++q) k' w2 w3∧q.length=l.length∧v1≤k'∧k'≤v1+((map wt_i l).sum:Nat)∧∀(c:List Int) (j:Int),∃u1 u2,r144_0 c q j v1=.k0 k' u1 u2
  |[],p,v1,h0,h1=>⟨[],v1,(p.length:Int),(decide ((p.length:Int) <((length (map d_i a0)):Int))),rfl,rfl,by omega,by simp,fun c j=>⟨j,(decide (j <((length (map b_i c)):Int))),rfl⟩⟩
  |x0::l,p,v1,h0,h1=>by
    simp only[List.map_cons,List.sum_cons,wt_i] at h1⊢
    obtain⟨q,k',w2,w3,e1,e2,e3,e4,e5⟩:=mr112_0 a0 l (p++ [v1]) (v1+1) yc yc
    refine⟨v1::q,k',w2,w3,?_,by simp[e2],by omega,by omega,?_⟩
    · have e:set (p++x0::l) (toNat (p.length:Int)) v1=(p++ [v1])++l:=by simp
      have e0:((p++ [v1]).length:Int)=(p.length:Int)+1:=by simp
      rw[e0] at e1
      simp(disch:=omega) only[r112_0,wrap64d]
      first |(rw[e,e1]; simp; done) |(simp only[e,e1]; simp; done)
    · intro c j
      obtain⟨u1,u2,g⟩:=e5 c (j+1)
      refine⟨u1,u2,?_⟩
      simp(disch:=omega) only[r144_0,wrap64d]
      first |(simpa using g) |(simp_all; done)
theorem mh112 (a:List Int) (k:Int) (h0:0≤k) (h1:k+((map wt_i a).sum:Nat)≤4611686018427387904):m144 (o112_0 a k) k=m112 a k∧k≤m112 a k∧m112 a k≤k+((map wt_i a).sum:Nat):=by
  obtain⟨q,k',w2,w3,e1,e2,e3,e4,e5⟩:=mr112_0 a a [] k h0 h1
  obtain⟨u1,u2,g⟩:=e5 q 0
  simp only[List.nil_append,length_nil] at e1
  rw[show ((0:Nat):Int)=0 from rfl] at e1
  unfold m112 o112_0 m144
  rw[e1]; simp only[]; rw[g]; exact⟨rfl,e3,e4⟩
/-! marks of loop.example/g00539/laws.markInS -/
theorem mr83_0 (a0:List K_N):∀(l p:List K_N) (v1:Int),0≤v1→v1+((map wt_N l).sum:Nat)≤4611686018427387904→∃(q:List K_N) (k':Int) (w2:_) (w3:_),r83_0 a0 l (p.length:Int) (p++l) v1=.k0 (p++q) k' w2 w3∧q.length=l.length∧v1≤k'∧k'≤v1+((map wt_N l).sum:Nat)∧∀(c:List K_N) (j:Int),∃u1 u2,r110_0 c q j v1=.k0 k' u1 u2
  |[],p,v1,h0,h1=>⟨[],v1,(p.length:Int),(decide ((p.length:Int) <((length (map d_N a0)):Int))),rfl,rfl,by omega,by simp,fun c j=>⟨j,(decide (j <((length (map b_N c)):Int))),rfl⟩⟩
  |x0::l,p,v1,h0,h1=>by
    simp only[List.map_cons,List.sum_cons,wt_N] at h1⊢
    have s0:=mh112 x0.f2 ((v1+1)+1) yc yc
    obtain⟨q,k',w2,w3,e1,e2,e3,e4,e5⟩:=mr83_0 a0 l (p++ [(K_N.mk v1 (v1+1) (o112_0 x0.f2 ((v1+1)+1)))]) (m112 x0.f2 ((v1+1)+1)) yc yc
    refine⟨(K_N.mk v1 (v1+1) (o112_0 x0.f2 ((v1+1)+1)))::q,k',w2,w3,?_,by simp[e2],by omega,by omega,?_⟩
    · have e:set (p++x0::l) (toNat (p.length:Int)) (K_N.mk v1 (v1+1) (o112_0 x0.f2 ((v1+1)+1)))=(p++ [(K_N.mk v1 (v1+1) (o112_0 x0.f2 ((v1+1)+1)))])++l:=by simp
      have e0:((p++ [(K_N.mk v1 (v1+1) (o112_0 x0.f2 ((v1+1)+1)))]).length:Int)=(p.length:Int)+1:=by simp
      rw[e0] at e1
      simp(disch:=omega) only[r83_0,wrap64d]
      first |(rw[e,e1]; simp; done) |(simp only[e,e1]; simp; done)
    · intro c j
      obtain⟨u1,u2,g⟩:=e5 c (j+1)
      refine⟨u1,u2,?_⟩
      have t0:=s0.1
      have n0:¬(m112 x0.f2 ((v1+1)+1) < 0):=by omega
      simp(disch:=omega) only[r110_0,wrap64d,t0]
      first |(simpa[n0] using g) |(simp_all; done)
theorem mh83 (a:List K_N) (k:Int) (h0:0≤k) (h1:k+((map wt_N a).sum:Nat)≤4611686018427387904):m110 (o83_0 a k) k=m83 a k∧k≤m83 a k∧m83 a k≤k+((map wt_N a).sum:Nat):=by
  obtain⟨q,k',w2,w3,e1,e2,e3,e4,e5⟩:=mr83_0 a a [] k h0 h1
  obtain⟨u1,u2,g⟩:=e5 q 0
  simp only[List.nil_append,length_nil] at e1
  rw[show ((0:Nat):Int)=0 from rfl] at e1
  unfold m83 o83_0 m110
  rw[e1]; simp only[]; rw[g]; exact⟨rfl,e3,e4⟩
/-! marks of loop.example/g00539/laws.markOutS -/
theorem mr84_0 (a0:List K_U):∀(l p:List K_U) (v1:Int),0≤v1→v1+((map wt_U l).sum:Nat)≤4611686018427387904→∃(q:List K_U) (k':Int) (w2:_) (w3:_),r84_0 a0 l (p.length:Int) (p++l) v1=.k0 (p++q) k' w2 w3∧q.length=l.length∧v1≤k'∧k'≤v1+((map wt_U l).sum:Nat)∧∀(c:List K_U) (j:Int),∃u1 u2,r111_0 c q j v1=.k0 k' u1 u2
  |[],p,v1,h0,h1=>⟨[],v1,(p.length:Int),(decide ((p.length:Int) <((length (map d_U a0)):Int))),rfl,rfl,by omega,by simp,fun c j=>⟨j,(decide (j <((length (map b_U c)):Int))),rfl⟩⟩
  |x0::l,p,v1,h0,h1=>by
    simp only[List.map_cons,List.sum_cons,wt_U] at h1⊢
    have s0:=mh112 x0.f1 (v1+1) yc yc
    obtain⟨q,k',w2,w3,e1,e2,e3,e4,e5⟩:=mr84_0 a0 l (p++ [(K_U.mk v1 (o112_0 x0.f1 (v1+1)))]) (m112 x0.f1 (v1+1)) yc yc
    refine⟨(K_U.mk v1 (o112_0 x0.f1 (v1+1)))::q,k',w2,w3,?_,by simp[e2],by omega,by omega,?_⟩
    · have e:set (p++x0::l) (toNat (p.length:Int)) (K_U.mk v1 (o112_0 x0.f1 (v1+1)))=(p++ [(K_U.mk v1 (o112_0 x0.f1 (v1+1)))])++l:=by simp
      have e0:((p++ [(K_U.mk v1 (o112_0 x0.f1 (v1+1)))]).length:Int)=(p.length:Int)+1:=by simp
      rw[e0] at e1
      simp(disch:=omega) only[r84_0,wrap64d]
      first |(rw[e,e1]; simp; done) |(simp only[e,e1]; simp; done)
    · intro c j
      obtain⟨u1,u2,g⟩:=e5 c (j+1)
      refine⟨u1,u2,?_⟩
      have t0:=s0.1
      have n0:¬(m112 x0.f1 (v1+1) < 0):=by omega
      simp(disch:=omega) only[r111_0,wrap64d,t0]
      first |(simpa[n0] using g) |(simp_all; done)
theorem mh84 (a:List K_U) (k:Int) (h0:0≤k) (h1:k+((map wt_U a).sum:Nat)≤4611686018427387904):m111 (o84_0 a k) k=m84 a k∧k≤m84 a k∧m84 a k≤k+((map wt_U a).sum:Nat):=by
  obtain⟨q,k',w2,w3,e1,e2,e3,e4,e5⟩:=mr84_0 a a [] k h0 h1
  obtain⟨u1,u2,g⟩:=e5 q 0
  simp only[List.nil_append,length_nil] at e1
  rw[show ((0:Nat):Int)=0 from rfl] at e1
  unfold m84 o84_0 m111
  rw[e1]; simp only[]; rw[g]; exact⟨rfl,e3,e4⟩
/-! marks of loop.example/g00539/laws.markTxS -/
theorem mr51_0 (a0:List K_T):∀(l p:List K_T) (v1:Int),0≤v1→v1+((map wt_T l).sum:Nat)≤4611686018427387904→∃(q:List K_T) (k':Int) (w2:_) (w3:_),r51_0 a0 l (p.length:Int) (p++l) v1=.k0 (p++q) k' w2 w3∧q.length=l.length∧v1≤k'∧k'≤v1+((map wt_T l).sum:Nat)∧∀(c:List K_T) (j:Int),∃u1 u2,r81_0 c q j v1=.k0 k' u1 u2
  |[],p,v1,h0,h1=>⟨[],v1,(p.length:Int),(decide ((p.length:Int) <((length (map d_T a0)):Int))),rfl,rfl,by omega,by simp,fun c j=>⟨j,(decide (j <((length (map b_T c)):Int))),rfl⟩⟩
  |x0::l,p,v1,h0,h1=>by
    simp only[List.map_cons,List.sum_cons,wt_T] at h1⊢
    have s0:=mh83 x0.f1 (v1+1) yc yc
    have s1:=mh84 x0.f2 (m83 x0.f1 (v1+1)) yc yc
    obtain⟨q,k',w2,w3,e1,e2,e3,e4,e5⟩:=mr51_0 a0 l (p++ [(K_T.mk v1 (o83_0 x0.f1 (v1+1)) (o84_0 x0.f2 (m83 x0.f1 (v1+1))))]) (m84 x0.f2 (m83 x0.f1 (v1+1))) yc yc
    refine⟨(K_T.mk v1 (o83_0 x0.f1 (v1+1)) (o84_0 x0.f2 (m83 x0.f1 (v1+1))))::q,k',w2,w3,?_,by simp[e2],by omega,by omega,?_⟩
    · have e:set (p++x0::l) (toNat (p.length:Int)) (K_T.mk v1 (o83_0 x0.f1 (v1+1)) (o84_0 x0.f2 (m83 x0.f1 (v1+1))))=(p++ [(K_T.mk v1 (o83_0 x0.f1 (v1+1)) (o84_0 x0.f2 (m83 x0.f1 (v1+1))))])++l:=by simp
      have e0:((p++ [(K_T.mk v1 (o83_0 x0.f1 (v1+1)) (o84_0 x0.f2 (m83 x0.f1 (v1+1))))]).length:Int)=(p.length:Int)+1:=by simp
      rw[e0] at e1
      simp(disch:=omega) only[r51_0,wrap64d]
      first |(rw[e,e1]; simp; done) |(simp only[e,e1]; simp; done)
    · intro c j
      obtain⟨u1,u2,g⟩:=e5 c (j+1)
      refine⟨u1,u2,?_⟩
      have t0:=s0.1
      have n0:¬(m83 x0.f1 (v1+1) < 0):=by omega
      have t1:=s1.1
      have n1:¬(m84 x0.f2 (m83 x0.f1 (v1+1)) < 0):=by omega
      simp(disch:=omega) only[r81_0,wrap64d,t0,t1]
      first |(simpa[n0,n1] using g) |(simp_all; done)
theorem mh51 (a:List K_T) (k:Int) (h0:0≤k) (h1:k+((map wt_T a).sum:Nat)≤4611686018427387904):m81 (o51_0 a k) k=m51 a k∧k≤m51 a k∧m51 a k≤k+((map wt_T a).sum:Nat):=by
  obtain⟨q,k',w2,w3,e1,e2,e3,e4,e5⟩:=mr51_0 a a [] k h0 h1
  obtain⟨u1,u2,g⟩:=e5 q 0
  simp only[List.nil_append,length_nil] at e1
  rw[show ((0:Nat):Int)=0 from rfl] at e1
  unfold m51 o51_0 m81
  rw[e1]; simp only[]; rw[g]; exact⟨rfl,e3,e4⟩
/-! marks of loop.example/g00539/laws.markBlock -/
theorem mh45 (a:K_G) (k:Int) (h0:0≤k) (h1:k+(wt_G a:Nat)≤4611686018427387904):m46 (K_G.mk a.f0 a.f1 a.f2 a.f3 (o45_0 a k)) k=m45 a k∧k≤m45 a k∧m45 a k≤k+(wt_G a:Nat):=by
  simp only[wt_G] at h1⊢
  have s0:=mh51 a.f4 k yc yc
  have t0:=s0.1
  try simp only[length_map,wt_i,wt_N,wt_U,wt_T,wt_J,wt_b,wt_G,wt_JL,wt_TL,wt_LiE,wt_NL,wt_UL,wt_y,wt_LyE,wt_LLyEE] at*
  unfold m46 m45 o45_0
  simp(disch:=omega) only[wrap64d,t0]
  refine⟨?_,by omega,by omega⟩
  (repeat' rw[if_neg yag])<;>rfl
/-! marks of loop.example/g00539/laws.markBlockResult -/
theorem mh13 (a:K_J) (k:Int) (h0:0≤k) (h1:k+(wt_J a:Nat)≤4611686018427387904):m14 (K_J.mk a.f0 a.f1 a.f2 a.f3 a.f4 (o13_0 a k)) k=m13 a k∧k≤m13 a k∧m13 a k≤k+(wt_J a:Nat):=by
  simp only[wt_J] at h1⊢
  have s0:=mh45 (K_G.mk a.f1 a.f2 a.f3 a.f4 a.f5) k yc (by simp only[wt_i,wt_N,wt_U,wt_T,wt_J,wt_b,wt_G,wt_JL,wt_TL,wt_LiE,wt_NL,wt_UL,wt_y,wt_LyE,wt_LLyEE] at*; omega)
  have t0:=s0.1
  try simp only[length_map,wt_i,wt_N,wt_U,wt_T,wt_J,wt_b,wt_G,wt_JL,wt_TL,wt_LiE,wt_NL,wt_UL,wt_y,wt_LyE,wt_LLyEE] at*
  unfold m14 m13 o13_0
  simp(disch:=omega) only[wrap64d,t0]
  refine⟨?_,by omega,by omega⟩
  (repeat' rw[if_neg yag])<;>rfl
theorem ck156 (F:FuncId→Option VFun) (X:Ext):CkD F X 100 2 1 8 [(.val (.int .i64 0))]:=by
  intro l rows h1 h2
  exact codeH_ok (t:=0) (hs:=[]) (q:=[0+0≤0,(([]:List (List D))++fromBR l rows).length*8≤70368744177664,∀r∈fromBR l rows,r.length=1]) yf ⟨by simp,by simpa using h1,h2,trivial⟩
theorem X_ok (f:FuncId) (args:List SV) (objs:List (V.Id × VObj)) (rs:List Ret) (h:X f args objs rs):CallOK Tryz.prog f args objs [] [] rs:=by
  rcases h with⟨rfl,rfl,h⟩
  · exact clone_ok (X:=fun _ _ _ _=>False) (T:=100) (E:=2) (k:=1) (kb:=8) (zero:=[(.i 0)]) ya F_ok (fun _ _ _ _ h=>h.elim) ya (ck156 _ _) h
end Go.Proofs.YtmdocdnidilaiaaGreat.ShareBlock
