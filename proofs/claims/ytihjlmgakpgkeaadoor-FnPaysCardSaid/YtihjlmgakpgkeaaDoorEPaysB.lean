/- What the functions compute. -/
import Derived.Test.YtihjlmgakpgkeaaDoorEPaysA
import Derived.KernelRfl
namespace Go.Proofs.YtihjlmgakpgkeaaDoor.Pays
open Go Go.Proofs.YtihjlmgakpgkeaaDoor.V
set_option linter.unusedVariables false
set_option linter.unusedSimpArgs false
set_option maxRecDepth 20000
open Go.IntKind (wrap)
open Int (toNat)
open List (length_replicate length_map length_set length_append length_cons length_nil length_take length_drop take_of_length_le map_take map_drop map_set append_assoc getElem?_map map length take drop getD set)
attribute [local simp] strInts_len byteRows_len toBR_y fullR_y pureR_y lenB_y lenD_y fromBR_y copy_y toBR_LyE fullR_LyE pureR_LyE lenB_LyE lenD_LyE toBR_b fullR_b pureR_b lenB_b lenD_b fromBR_b copy_b toBR_si fullR_si pureR_si lenB_si lenD_si fromBR_si copy_si toBR_R fullR_R pureR_R lenB_R lenD_R toBR_B fullR_B pureR_B lenB_B lenD_B toBR_s fullR_s pureR_s lenB_s lenD_s fromBR_s copy_s toBR_i fullR_i pureR_i lenB_i lenD_i fromBR_i copy_i toBR_C fullR_C pureR_C lenB_C lenD_C toBR_ii fullR_ii pureR_ii lenB_ii lenD_ii fromBR_ii copy_ii toBR_LyEi fullR_LyEi pureR_LyEi lenB_LyEi lenD_LyEi toBR_LiE fullR_LiE pureR_LiE lenB_LiE lenD_LiE toBR_LsiE fullR_LsiE pureR_LsiE lenB_LsiE lenD_LsiE toBR_iLsiE fullR_iLsiE pureR_iLsiE lenB_iLsiE lenD_iLsiE toBR_Q fullR_Q pureR_Q lenB_Q lenD_Q
/-! loop 100_0 -/
inductive O100_0 where
  |k0 (w0:Int) (w1:Int) (w2:Bool)
def r100_0 (a0:(List K_R)) (a1:Bool):List K_R→Int→Int→O100_0
  |x0::y0,i,v0=>
    if(!a1)=true then(r100_0 a0 a1 y0 (i+1) (wrap .i64 (v0+x0.f1))) else
    if(x0.f4==2)=true then(r100_0 a0 a1 y0 (i+1) (wrap .i64 (v0+x0.f1))) else
      (r100_0 a0 a1 y0 (i+1) v0)
  |[],i,v0=>(O100_0.k0 v0 i (decide (i <((length (map b_R a0)):Int))))
def h100_0 (l0_0:Nat) (a0:(List K_R)) (a1:Bool) (i:Int) (v0:Int):St:=⟨[(0,(.one (.bor l0_0 (map b_R a0)))),(1,(.one (.val (.bool a1)))),(5,(.one (.val (.int .i64 v0)))),(6,(.one (.val (.int .i64 i))))],[]⟩
def ex100_0:O100_0→VX.Exit
  |.k0 _ _ _=>(.exit 0)
def fin100_0 (l0_0:Nat) (a0:(List K_R)) (a1:Bool):O100_0→St
  |.k0 w0 w1 w2=>⟨[(0,(.one (.bor l0_0 (map b_R a0)))),(1,(.one (.val (.bool a1)))),(5,(.one (.val (.int .i64 w0)))),(6,(.one (.val (.int .i64 w1)))),(10,(.one (.val (.bool w2))))],[]⟩
theorem t100_0 {l0_0:Nat} {a0:(List K_R)} {a1:Bool} (hy0:length a0*56≤140737488351232) (hy1:∀z∈a0,ok_R z):∀(y0:List K_R) (p:List K_R) (v0:Int),p++y0=a0→Ev F X (.code l100_0 (h100_0 l0_0 a0 a1 (length p:Int) v0) (ex100_0 (r100_0 a0 a1 y0 (length p:Int) v0)) (fin100_0 l0_0 a0 a1 (r100_0 a0 a1 y0 (length p:Int) v0)))
  |[],p,v0,hp0=>by
    have hc:¬(decide ((length p:Int) <((length (map b_R a0)):Int)))=true:=by
      rw[← hp0]; simp only[length_map,length_set,length_append,length_replicate,length_cons,length_nil,decide_eq_true_eq]; omega
    have st:=ch b100_0 (h100_0 l0_0 a0 a1 (length p:Int) v0) ⟨[(0,(.one (.bor l0_0 (map b_R a0)))),(1,(.one (.val (.bool a1)))),(5,(.oi v0)),(6,(.oi (length p:Int))),(10,(.one (.val (.bool (decide ((length p:Int) <((length (map b_R a0)):Int)))))))],[]⟩ (.exit 0) 9 (by kernel_rfl) (.f (nt hc) (.h 8 (.b false) .nil))
    rw[show (⟨[(0,(.one (.bor l0_0 (map b_R a0)))),(1,(.one (.val (.bool a1)))),(5,(.oi v0)),(6,(.oi (length p:Int))),(10,(.one (.val (.bool (decide ((length p:Int) <((length (map b_R a0)):Int)))))))],[]⟩:St)=fin100_0 l0_0 a0 a1 (.k0 v0 (length p:Int) (decide ((length p:Int) <((length (map b_R a0)):Int)))) from(by rfl)] at st
    exact .loopX st (show ((.exit 0):VX.Exit)≠.normal from by simp)
  |x0::y0,p,v0,hp0=>by
    have hc:(decide ((length p:Int) <((length (map b_R a0)):Int)))=true:=by
      rw[← hp0]; simp only[length_map,length_set,length_append,length_replicate,length_cons,length_nil,decide_eq_true_eq]; omega
    have Hx0:(a0)[toNat (length p:Int)]?=some x0:=by
      rw[← hp0,Int.toNat_natCast]; simp
    have Mx0_0:=hy1 x0 (List.mem_of_getElem? Hx0)
    have hlen:length (a0)=length p+length y0+1:=by rw[← hp0]; simp; omega
    have hw:wrap .i64 ((length p:Int)+1)=(length p:Int)+1:=wrap64 (by omega)
    simp only[r100_0]
    by_cases h_1:(!a1)=true
    · try simp only[if_pos h_1]
      have f8:0≤(length p:Int):=(by omega)
      have f9:(map b_R a0)[(toNat (length p:Int))]?=some (b_R x0):=(by rw[getElem?_map,Hx0]; rfl)
      have st:=ch b100_0 (h100_0 l0_0 a0 a1 (length p:Int) v0) ⟨[(0,(.one (.bor l0_0 (map b_R a0)))),(1,(.one (.val (.bool a1)))),(5,(.oi (wrap .i64 (v0+x0.f1)))),(6,(.oi (wrap .i64 ((length p:Int)+1))))],[]⟩ .normal 52 (by kernel_rfl) (.f hc (.f h_1 (.f h_1 (.f h_1 (.f h_1 (.f h_1 (.f h_1 (.f h_1 (.f f8 (.f f9 (.f trivial (.f trivial (.h 8 (.b true) (.h 15 (.b true) (.h 17 (.b true) (.h 19 (.b true) (.h 21 (.b true) (.h 23 (.b true) (.h 25 (.b true) (.h 28 (.b true) (.h 37 (.row (b_R x0)) .nil)))))))))))))))))))))
      have ih:=t100_0 (l0_0:=l0_0) (a0:=a0) (a1:=a1) hy0 hy1 y0 (p++ [x0]) (wrap .i64 (v0+x0.f1)) (by rw[append_assoc]; exact hp0)
      rw[show ((p++ [x0]).length:Int)=(p.length:Int)+1 from by simp] at ih
      rw[show (⟨[(0,(.one (.bor l0_0 (map b_R a0)))),(1,(.one (.val (.bool a1)))),(5,(.oi (wrap .i64 (v0+x0.f1)))),(6,(.oi (wrap .i64 ((length p:Int)+1))))],[]⟩:St)=h100_0 l0_0 a0 a1 ((length p:Int)+1) (wrap .i64 (v0+x0.f1)) from(by unfold h100_0; simp only[hw]; done)] at st
      exact .loopN st ih
    · try simp only[if_neg h_1]
      have f4:0≤(length p:Int):=(by omega)
      have f5:(map b_R a0)[(toNat (length p:Int))]?=some (b_R x0):=(by rw[getElem?_map,Hx0]; rfl)
      have P2 {hs q} (r:PS F X hs q):=(PS.f hc (.f (nt h_1) (.f (nt h_1) (.f (nt h_1) (.f f4 (.f f5 (.f (nt h_1) (.f (nt h_1) (.f (nt h_1) (.f (nt h_1) (.h 8 (.b true) (.h 15 (.b false) (.h 17 (.b false) (.h 19 (.b false) (.h 20 (.row (b_R x0)) (.h 21 (.b false) (.h 23 (.b false) (.h 25 (.b false) (.h 28 (.b false) r)))))))))))))))))))
      by_cases h_2:(x0.f4==2)=true
      · try simp only[if_pos h_2]
        have st:=ch b100_0 (h100_0 l0_0 a0 a1 (length p:Int) v0) ⟨[(0,(.one (.bor l0_0 (map b_R a0)))),(1,(.one (.val (.bool a1)))),(5,(.oi (wrap .i64 (v0+x0.f1)))),(6,(.oi (wrap .i64 ((length p:Int)+1))))],[]⟩ .normal 52 (by kernel_rfl) (P2 (.f h_2 (.f f4 (.f f5 (.f trivial (.f trivial (.h 29 (.b true) (.h 37 (.row (b_R x0)) .nil))))))))
        have ih:=t100_0 (l0_0:=l0_0) (a0:=a0) (a1:=a1) hy0 hy1 y0 (p++ [x0]) (wrap .i64 (v0+x0.f1)) (by rw[append_assoc]; exact hp0)
        rw[show ((p++ [x0]).length:Int)=(p.length:Int)+1 from by simp] at ih
        rw[show (⟨[(0,(.one (.bor l0_0 (map b_R a0)))),(1,(.one (.val (.bool a1)))),(5,(.oi (wrap .i64 (v0+x0.f1)))),(6,(.oi (wrap .i64 ((length p:Int)+1))))],[]⟩:St)=h100_0 l0_0 a0 a1 ((length p:Int)+1) (wrap .i64 (v0+x0.f1)) from(by unfold h100_0; simp only[hw]; done)] at st
        exact .loopN st ih
      · try simp only[if_neg h_2]
        have st:=ch b100_0 (h100_0 l0_0 a0 a1 (length p:Int) v0) ⟨[(0,(.one (.bor l0_0 (map b_R a0)))),(1,(.one (.val (.bool a1)))),(5,(.oi v0)),(6,(.oi (wrap .i64 ((length p:Int)+1))))],[]⟩ .normal 36 (by kernel_rfl) (P2 (.f (nt h_2) (.f trivial (.h 29 (.b false) .nil))))
        have ih:=t100_0 (l0_0:=l0_0) (a0:=a0) (a1:=a1) hy0 hy1 y0 (p++ [x0]) v0 (by rw[append_assoc]; exact hp0)
        rw[show ((p++ [x0]).length:Int)=(p.length:Int)+1 from by simp] at ih
        rw[show (⟨[(0,(.one (.bor l0_0 (map b_R a0)))),(1,(.one (.val (.bool a1)))),(5,(.oi v0)),(6,(.oi (wrap .i64 ((length p:Int)+1))))],[]⟩:St)=h100_0 l0_0 a0 a1 ((length p:Int)+1) v0 from(by unfold h100_0; simp only[hw]; done)] at st
        exact .loopN st ih
/-! loop.example/g00539/spec.l14Totals -/
def m100 (a0:(List K_R)) (a1:Bool):Int:=
  (match r100_0 a0 a1 a0 0 0 with | .k0 w0_0 w1_0 w2_0=>w0_0)
theorem e100 {l0_0:Nat} {a0:(List K_R)} {a1:Bool} (hy0:length a0*56≤140737488351232) (hy1:∀z∈a0,ok_R z):Ev F X (.call 100 [(.one (.bor l0_0 (map b_R a0))),(.one (.val (.bool a1)))] [] [] [(.one (.val (.int .i64 (m100 a0 a1))))]):=by
  unfold m100
  cases h0:r100_0 a0 a1 a0 0 0 with
  |k0 w0_0 w1_0 w2_0=>
    try dsimp only
    have f0:(⟨[(0,(.one (.bor l0_0 (map b_R a0)))),(1,(.one (.val (.bool a1)))),(5,(.oi 0)),(6,(.oi 0))],[]⟩:St)=h100_0 l0_0 a0 a1 0 0:=(by rfl)
    have f1:Ev F X (.code l100_0 (h100_0 l0_0 a0 a1 0 0) (.exit 0) ⟨[(0,(.one (.bor l0_0 (map b_R a0)))),(1,(.one (.val (.bool a1)))),(5,(.oi w0_0)),(6,(.oi w1_0)),(10,(.one (.val (.bool w2_0))))],[]⟩):=(by have t:Ev F X (.code l100_0 (h100_0 l0_0 a0 a1 0 0) (ex100_0 (r100_0 a0 a1 a0 0 0)) (fin100_0 l0_0 a0 a1 (r100_0 a0 a1 a0 0 0))):=t100_0 (l0_0:=l0_0) (a0:=a0) (a1:=a1) (by assumption) (by assumption) a0 [] 0 rfl; rw[h0] at t; exact t)
    exact cp (by kernel_rfl) (.f f0 (.f f1 (.h 6 (.loop (h100_0 l0_0 a0 a1 0 0) (.exit 0) ⟨[(0,(.one (.bor l0_0 (map b_R a0)))),(1,(.one (.val (.bool a1)))),(5,(.one (.val (.int .i64 w0_0)))),(6,(.one (.val (.int .i64 w1_0)))),(10,(.one (.val (.bool w2_0))))],[]⟩) .nil)))
/-! loop.example/g00539/spec.l4Sum -/
def m116 (a0:Int):Bool:=
  (m105 a0 0 2147483646)
theorem e116 {a0:Int}:Ev F X (.call 116 [(.one (.val (.int .i64 a0)))] [] [] [(.one (.val (.bool (m105 a0 0 2147483646))))]):=by
  exact cp (by kernel_rfl) (.r 5 [] [] (e105 (a0:=a0) (a1:=0) (a2:=2147483646)) .nil)
/-! loop 99_0 -/
inductive O99_0 where
  |k0 (w0:Int) (w1:Int) (w2:Bool)
def r99_0 (a0:(List K_si)):List K_si→Int→Int→O99_0
  |x0::y0,i,v0=>
    (r99_0 a0 y0 (i+1) (wrap .i64 (v0+x0.f1)))
  |[],i,v0=>(O99_0.k0 v0 i (decide (i <((length (map b_si a0)):Int))))
def h99_0 (l0_0:Nat) (a0:(List K_si)) (i:Int) (v0:Int):St:=⟨[(0,(.one (.bor l0_0 (map b_si a0)))),(3,(.one (.val (.int .i64 v0)))),(4,(.one (.val (.int .i64 i))))],[]⟩
def ex99_0:O99_0→VX.Exit
  |.k0 _ _ _=>(.exit 0)
def fin99_0 (l0_0:Nat) (a0:(List K_si)):O99_0→St
  |.k0 w0 w1 w2=>⟨[(0,(.one (.bor l0_0 (map b_si a0)))),(3,(.one (.val (.int .i64 w0)))),(4,(.one (.val (.int .i64 w1)))),(8,(.one (.val (.bool w2))))],[]⟩
theorem t99_0 {l0_0:Nat} {a0:(List K_si)} (hy0:length a0*24≤140737488351232):∀(y0:List K_si) (p:List K_si) (v0:Int),p++y0=a0→Ev F X (.code l99_0 (h99_0 l0_0 a0 (length p:Int) v0) (ex99_0 (r99_0 a0 y0 (length p:Int) v0)) (fin99_0 l0_0 a0 (r99_0 a0 y0 (length p:Int) v0)))
  |[],p,v0,hp0=>by
    have hc:¬(decide ((length p:Int) <((length (map b_si a0)):Int)))=true:=by
      rw[← hp0]; simp only[length_map,length_set,length_append,length_replicate,length_cons,length_nil,decide_eq_true_eq]; omega
    have st:=ch b99_0 (h99_0 l0_0 a0 (length p:Int) v0) ⟨[(0,(.one (.bor l0_0 (map b_si a0)))),(3,(.oi v0)),(4,(.oi (length p:Int))),(8,(.one (.val (.bool (decide ((length p:Int) <((length (map b_si a0)):Int)))))))],[]⟩ (.exit 0) 9 (by kernel_rfl) (.f (nt hc) (.h 8 (.b false) .nil))
    rw[show (⟨[(0,(.one (.bor l0_0 (map b_si a0)))),(3,(.oi v0)),(4,(.oi (length p:Int))),(8,(.one (.val (.bool (decide ((length p:Int) <((length (map b_si a0)):Int)))))))],[]⟩:St)=fin99_0 l0_0 a0 (.k0 v0 (length p:Int) (decide ((length p:Int) <((length (map b_si a0)):Int)))) from(by rfl)] at st
    exact .loopX st (show ((.exit 0):VX.Exit)≠.normal from by simp)
  |x0::y0,p,v0,hp0=>by
    have hc:(decide ((length p:Int) <((length (map b_si a0)):Int)))=true:=by
      rw[← hp0]; simp only[length_map,length_set,length_append,length_replicate,length_cons,length_nil,decide_eq_true_eq]; omega
    have Hx0:(a0)[toNat (length p:Int)]?=some x0:=by
      rw[← hp0,Int.toNat_natCast]; simp
    have hlen:length (a0)=length p+length y0+1:=by rw[← hp0]; simp; omega
    have hw:wrap .i64 ((length p:Int)+1)=(length p:Int)+1:=wrap64 (by omega)
    simp only[r99_0]
    have f1:0≤(length p:Int):=(by omega)
    have f2:(map b_si a0)[(toNat (length p:Int))]?=some (b_si x0):=(by rw[getElem?_map,Hx0]; rfl)
    have st:=ch b99_0 (h99_0 l0_0 a0 (length p:Int) v0) ⟨[(0,(.one (.bor l0_0 (map b_si a0)))),(3,(.oi (wrap .i64 (v0+x0.f1)))),(4,(.oi (wrap .i64 ((length p:Int)+1))))],[]⟩ .normal 31 (by kernel_rfl) (.f hc (.f f1 (.f f2 (.f trivial (.f trivial (.h 8 (.b true) (.h 16 (.row (b_si x0)) .nil)))))))
    have ih:=t99_0 (l0_0:=l0_0) (a0:=a0) hy0 y0 (p++ [x0]) (wrap .i64 (v0+x0.f1)) (by rw[append_assoc]; exact hp0)
    rw[show ((p++ [x0]).length:Int)=(p.length:Int)+1 from by simp] at ih
    rw[show (⟨[(0,(.one (.bor l0_0 (map b_si a0)))),(3,(.oi (wrap .i64 (v0+x0.f1)))),(4,(.oi (wrap .i64 ((length p:Int)+1))))],[]⟩:St)=h99_0 l0_0 a0 ((length p:Int)+1) (wrap .i64 (v0+x0.f1)) from(by unfold h99_0; simp only[hw]; done)] at st
    exact .loopN st ih
/-! loop.example/g00539/spec.l13Total -/
def m99 (a0:(List K_si)):Int:=
  (match r99_0 a0 a0 0 0 with | .k0 w0_0 w1_0 w2_0=>w0_0)
theorem e99 {l0_0:Nat} {a0:(List K_si)} (hy0:length a0*24≤140737488351232):Ev F X (.call 99 [(.one (.bor l0_0 (map b_si a0)))] [] [] [(.one (.val (.int .i64 (m99 a0))))]):=by
  unfold m99
  cases h0:r99_0 a0 a0 0 0 with
  |k0 w0_0 w1_0 w2_0=>
    try dsimp only
    have f0:(⟨[(0,(.one (.bor l0_0 (map b_si a0)))),(3,(.oi 0)),(4,(.oi 0))],[]⟩:St)=h99_0 l0_0 a0 0 0:=(by rfl)
    have f1:Ev F X (.code l99_0 (h99_0 l0_0 a0 0 0) (.exit 0) ⟨[(0,(.one (.bor l0_0 (map b_si a0)))),(3,(.oi w0_0)),(4,(.oi w1_0)),(8,(.one (.val (.bool w2_0))))],[]⟩):=(by have t:Ev F X (.code l99_0 (h99_0 l0_0 a0 0 0) (ex99_0 (r99_0 a0 a0 0 0)) (fin99_0 l0_0 a0 (r99_0 a0 a0 0 0))):=t99_0 (l0_0:=l0_0) (a0:=a0) (by assumption) a0 [] 0 rfl; rw[h0] at t; exact t)
    exact cp (by kernel_rfl) (.f f0 (.f f1 (.h 6 (.loop (h99_0 l0_0 a0 0 0) (.exit 0) ⟨[(0,(.one (.bor l0_0 (map b_si a0)))),(3,(.one (.val (.int .i64 w0_0)))),(4,(.one (.val (.int .i64 w1_0)))),(8,(.one (.val (.bool w2_0))))],[]⟩) .nil)))
theorem tot_r99 (a:List K_si):∀(l:List K_si) (i v:Int),(∀z∈l,1≤z.f1∧z.f1≤119988)→0≤v→v+119988*l.length≤1000000000→∃w j b,r99_0 a l i v=.k0 w j b∧v+l.length≤w∧w≤v+119988*l.length
  |[],i,v,_,_,_=>⟨v,_,_,rfl,by simp,by simp⟩
  |x::l,i,v,h,h0,hb=>by
    have hx:=h x (List.mem_cons_self ..)
    simp only[length_cons] at hb
    simp only[r99_0]
    rw[wrap64 (by omega)]
    obtain⟨w,j,b,e,h1,h2⟩:=tot_r99 a l (i+1) (v+x.f1) (fun z hz=>h z (List.mem_cons_of_mem _ hz)) (by omega) (by omega)
    exact⟨w,j,b,e,by simp only[length_cons]; omega,by simp only[length_cons]; omega⟩
theorem tot_99 (a:List K_si) (h:∀z∈a,1≤z.f1∧z.f1≤119988) (hl:a.length≤12):(a.length:Int)≤m99 a∧m99 a≤119988*a.length:=by
  obtain⟨w,j,b,e,h1,h2⟩:=tot_r99 a a 0 0 h (by omega) (by omega)
  unfold m99
  rw[e]; simp only[]; omega
/-! loop 157_0 -/
inductive O157_0 where
  |k0 (w0:List K_si) (w1:Int) (w2:Bool)
def r157_0 (a0:(List K_si)):List K_si→Int→List K_si→O157_0
  |x0::y0,i,v0=>
    if(decide ((m60 v0 x0.f0)≥0))=true then(r157_0 a0 y0 (i+1) (set v0 (toNat (m60 v0 x0.f0)) (K_si.mk ((getD v0 (toNat (m60 v0 x0.f0)) (K_si.mk (⟨#[]⟩:ByteArray) 0)).f0) (wrap .i64 (((getD v0 (toNat (m60 v0 x0.f0)) (K_si.mk (⟨#[]⟩:ByteArray) 0)).f1)+x0.f1))))) else
    (r157_0 a0 y0 (i+1) (v0++([x0])))
  |[],i,v0=>(O157_0.k0 v0 i (decide (i <((length (map b_si a0)):Int))))
def h157_0 (l0_0:Nat) (a0:(List K_si)) (i:Int) (v0:List K_si):St:=⟨[(0,(.one (.bor l0_0 (map b_si a0)))),(3,(.one (.ref ⟨(3,0,0),[],0,(length (map d_si v0))⟩))),(4,(.one (.val (.int .i64 i))))],[((3,0,0),.live ⟨2,(map d_si v0),[]⟩)]⟩
def ex157_0:O157_0→VX.Exit
  |.k0 _ _ _=>(.exit 0)
def fin157_0 (l0_0:Nat) (a0:(List K_si)):O157_0→St
  |.k0 w0 w1 w2=>⟨[(0,(.one (.bor l0_0 (map b_si a0)))),(3,(.one (.ref ⟨(3,0,0),[],0,(length (map d_si w0))⟩))),(4,(.one (.val (.int .i64 w1)))),(10,(.one (.val (.bool w2))))],[((3,0,0),.live ⟨2,(map d_si w0),[]⟩)]⟩
theorem t157_0 {l0_0:Nat} {a0:(List K_si)} (hy0:length a0*24≤70368744177664):∀(y0:List K_si) (p:List K_si) (v0:List K_si),p++y0=a0→(length v0+length y0)*24≤70368744177664→Ev F X (.code l157_0 (h157_0 l0_0 a0 (length p:Int) v0) (ex157_0 (r157_0 a0 y0 (length p:Int) v0)) (fin157_0 l0_0 a0 (r157_0 a0 y0 (length p:Int) v0)))
  |[],p,v0,hp0,hi0=>by
    have hc:¬(decide ((length p:Int) <((length (map b_si a0)):Int)))=true:=by
      rw[← hp0]; simp only[length_map,length_set,length_append,length_replicate,length_cons,length_nil,decide_eq_true_eq]; omega
    have hj0:=hi0; try simp only[length_map,length_set,length_append,length_replicate,length_cons,length_nil,Int.toNat_natCast] at hj0
    have st:=ch b157_0 (h157_0 l0_0 a0 (length p:Int) v0) ⟨[(0,(.one (.bor l0_0 (map b_si a0)))),(3,(.one (.ref ⟨(3,0,0),[],0,(length (map d_si v0))⟩))),(4,(.oi (length p:Int))),(10,(.one (.val (.bool (decide ((length p:Int) <((length (map b_si a0)):Int)))))))],[((3,0,0),.live ⟨2,(map d_si v0),[]⟩)]⟩ (.exit 0) 9 (by kernel_rfl) (.f (nt hc) (.h 8 (.b false) .nil))
    rw[show (⟨[(0,(.one (.bor l0_0 (map b_si a0)))),(3,(.one (.ref ⟨(3,0,0),[],0,(length (map d_si v0))⟩))),(4,(.oi (length p:Int))),(10,(.one (.val (.bool (decide ((length p:Int) <((length (map b_si a0)):Int)))))))],[((3,0,0),.live ⟨2,(map d_si v0),[]⟩)]⟩:St)=fin157_0 l0_0 a0 (.k0 v0 (length p:Int) (decide ((length p:Int) <((length (map b_si a0)):Int)))) from(by rfl)] at st
    exact .loopX st (show ((.exit 0):VX.Exit)≠.normal from by simp)
  |x0::y0,p,v0,hp0,hi0=>by
    have hc:(decide ((length p:Int) <((length (map b_si a0)):Int)))=true:=by
      rw[← hp0]; simp only[length_map,length_set,length_append,length_replicate,length_cons,length_nil,decide_eq_true_eq]; omega
    have Hx0:(a0)[toNat (length p:Int)]?=some x0:=by
      rw[← hp0,Int.toNat_natCast]; simp
    have hlen:length (a0)=length p+length y0+1:=by rw[← hp0]; simp; omega
    have hw:wrap .i64 ((length p:Int)+1)=(length p:Int)+1:=wrap64 (by omega)
    have hj0:=hi0; try simp only[length_map,length_set,length_append,length_replicate,length_cons,length_nil,Int.toNat_natCast] at hj0
    simp only[r157_0]
    have f1:0≤(length p:Int):=(by omega)
    have f2:(map b_si a0)[(toNat (length p:Int))]?=some (b_si x0):=(by rw[getElem?_map,Hx0]; rfl)
    have P1 {hs q} (r:PS F X hs q):=(PS.f hc (.f f1 (.f f2 (ln_si v0 (.h 8 (.b true) (.h 16 (.row (b_si x0)) (.r 22 [] [(map b_si v0)] (e60 (l0_0:=0) (a0:=v0) (a1:=x0.f0) (by omega)) r)))))))
    by_cases h_1:(decide ((m60 v0 x0.f0)≥0))=true
    · try simp only[if_pos h_1]
      have f8:0+(length (map d_si v0))≤(length (map d_si v0)):=(by omega)
      have f9:0≤(m60 v0 x0.f0)∧(m60 v0 x0.f0) <((length (map d_si v0)):Int):=(by have q:=ix60 v0 x0.f0; simp only[decide_eq_true_eq,length_map] at*; omega)
      have f10:(map d_si v0)[(0+(toNat (m60 v0 x0.f0)))]?=some (d_si (getD v0 (toNat (m60 v0 x0.f0)) (K_si.mk (⟨#[]⟩:ByteArray) 0))):=(by rw[Nat.zero_add,getElem?_map,getD_at v0 (toNat (m60 v0 x0.f0)) (K_si.mk (⟨#[]⟩:ByteArray) 0) (by first | exact True.intro | with_reducible rfl | with_reducible assumption | omega |(have q:=ix60 v0 x0.f0; simp only[decide_eq_true_eq,length_map] at*; omega) |(unfold m60;(repeat' split)<;>simp_all<;>omega) |(simp only[decide_eq_true_eq] at*; omega) |(simp only[length_map]; omega) |(simp; omega) |(simp[take_of_length_le]; done) | assumption | trivial |(simp[*,byteRows_eq,ints_y]; done))]; rfl)
      have f17:(set (map d_si v0) (0+(toNat (m60 v0 x0.f0))) [(.val (.string ((getD v0 (toNat (m60 v0 x0.f0)) (K_si.mk (⟨#[]⟩:ByteArray) 0)).f0))),(.val (.int .i64 (wrap .i64 (((getD v0 (toNat (m60 v0 x0.f0)) (K_si.mk (⟨#[]⟩:ByteArray) 0)).f1)+x0.f1))))])=(map d_si (set v0 (toNat (m60 v0 x0.f0)) (K_si.mk ((getD v0 (toNat (m60 v0 x0.f0)) (K_si.mk (⟨#[]⟩:ByteArray) 0)).f0) (wrap .i64 (((getD v0 (toNat (m60 v0 x0.f0)) (K_si.mk (⟨#[]⟩:ByteArray) 0)).f1)+x0.f1))))):=(by simp[byteRows_eq,ints_y,take_of_length_le,d_y,d_LyE,d_b,d_si,d_R,d_B,d_s,d_i,d_C,d_ii,d_LyEi,d_LiE,d_LsiE,d_iLsiE,d_Q,fromBR_y,fromBR_b,fromBR_si,fromBR_s,fromBR_i,fromBR_ii]; done)
      have st:=ch b157_0 (h157_0 l0_0 a0 (length p:Int) v0) ⟨[(0,(.one (.bor l0_0 (map b_si a0)))),(3,(.one (.ref ⟨(3,0,0),[],0,(length (map d_si v0))⟩))),(4,(.oi (wrap .i64 ((length p:Int)+1))))],[((3,0,0),.live ⟨2,(map d_si (set v0 (toNat (m60 v0 x0.f0)) (K_si.mk ((getD v0 (toNat (m60 v0 x0.f0)) (K_si.mk (⟨#[]⟩:ByteArray) 0)).f0) (wrap .i64 (((getD v0 (toNat (m60 v0 x0.f0)) (K_si.mk (⟨#[]⟩:ByteArray) 0)).f1)+x0.f1))))),[]⟩)]⟩ .normal 69 (by kernel_rfl) (P1 (.f h_1 (.f f8 (.f f9 (.f f10 (.f f1 (.f f2 (.f trivial (.f f8 (.f f9 (.f f10 (.f f17 (.f trivial (.h 29 (.b true) (.h 43 (.rowD (d_si (getD v0 (toNat (m60 v0 x0.f0)) (K_si.mk (⟨#[]⟩:ByteArray) 0)))) (.h 49 (.row (b_si x0)) (.h 61 (.rowD (d_si (getD v0 (toNat (m60 v0 x0.f0)) (K_si.mk (⟨#[]⟩:ByteArray) 0)))) (.h 62 (.norm (3,0,0) (map d_si (set v0 (toNat (m60 v0 x0.f0)) (K_si.mk ((getD v0 (toNat (m60 v0 x0.f0)) (K_si.mk (⟨#[]⟩:ByteArray) 0)).f0) (wrap .i64 (((getD v0 (toNat (m60 v0 x0.f0)) (K_si.mk (⟨#[]⟩:ByteArray) 0)).f1)+x0.f1)))))) .nil))))))))))))))))))
      have ih:=t157_0 (l0_0:=l0_0) (a0:=a0) hy0 y0 (p++ [x0]) (set v0 (toNat (m60 v0 x0.f0)) (K_si.mk ((getD v0 (toNat (m60 v0 x0.f0)) (K_si.mk (⟨#[]⟩:ByteArray) 0)).f0) (wrap .i64 (((getD v0 (toNat (m60 v0 x0.f0)) (K_si.mk (⟨#[]⟩:ByteArray) 0)).f1)+x0.f1)))) (by rw[append_assoc]; exact hp0) (by simp only[length_map,length_set,length_append,length_replicate,length_cons,length_nil]; omega)
      rw[show ((p++ [x0]).length:Int)=(p.length:Int)+1 from by simp] at ih
      rw[show (⟨[(0,(.one (.bor l0_0 (map b_si a0)))),(3,(.one (.ref ⟨(3,0,0),[],0,(length (map d_si v0))⟩))),(4,(.oi (wrap .i64 ((length p:Int)+1))))],[((3,0,0),.live ⟨2,(map d_si (set v0 (toNat (m60 v0 x0.f0)) (K_si.mk ((getD v0 (toNat (m60 v0 x0.f0)) (K_si.mk (⟨#[]⟩:ByteArray) 0)).f0) (wrap .i64 (((getD v0 (toNat (m60 v0 x0.f0)) (K_si.mk (⟨#[]⟩:ByteArray) 0)).f1)+x0.f1))))),[]⟩)]⟩:St)=h157_0 l0_0 a0 ((length p:Int)+1) (set v0 (toNat (m60 v0 x0.f0)) (K_si.mk ((getD v0 (toNat (m60 v0 x0.f0)) (K_si.mk (⟨#[]⟩:ByteArray) 0)).f0) (wrap .i64 (((getD v0 (toNat (m60 v0 x0.f0)) (K_si.mk (⟨#[]⟩:ByteArray) 0)).f1)+x0.f1)))) from(by unfold h157_0; simp only[hw,length_map,length_set,length_append,length_replicate,length_cons,length_nil]; done)] at st
      exact .loopN st ih
    · try simp only[if_neg h_1]
      have f10:0+(length (map d_si v0))≤(length (map d_si v0)):=(by omega)
      have f11:1≤1:=(by omega)
      have f12:((take 1 (drop 0 [[(.val (.string x0.f0)),(.val (.int .i64 x0.f1))]])).all fun x=>x.all copyable)=true:=(by trivial)
      have f13:(length ((take (length (map d_si v0)) (drop 0 (map d_si v0)))++([[(.val (.string x0.f0)),(.val (.int .i64 x0.f1))]]:List (List D))))*24≤70368744177664:=(by simp only[length_map,length_append,length_cons,length_nil,length_take,length_drop]; omega)
      have f14:∀r∈([[(.val (.string x0.f0)),(.val (.int .i64 x0.f1))]]:List (List D)),r.length=2:=(by simp; done)
      have f15:((take (length (map d_si v0)) (drop 0 (map d_si v0)))++([[(.val (.string x0.f0)),(.val (.int .i64 x0.f1))]]:List (List D)))=(map d_si (v0++([x0]))):=(by simp[byteRows_eq,ints_y,take_of_length_le,d_y,d_LyE,d_b,d_si,d_R,d_B,d_s,d_i,d_C,d_ii,d_LyEi,d_LiE,d_LsiE,d_iLsiE,d_Q,fromBR_y,fromBR_b,fromBR_si,fromBR_s,fromBR_i,fromBR_ii]; done)
      have st:=ch b157_0 (h157_0 l0_0 a0 (length p:Int) v0) ⟨[(0,(.one (.bor l0_0 (map b_si a0)))),(3,(.one (.ref ⟨(3,0,0),[],0,(length ((take (length (map d_si v0)) (drop 0 (map d_si v0)))++([[(.val (.string x0.f0)),(.i x0.f1)]]:List (List D))))⟩))),(4,(.oi (wrap .i64 ((length p:Int)+1))))],[((3,0,0),.live ⟨2,(map d_si (v0++([x0]))),[]⟩)]⟩ .normal 53 (by kernel_rfl) (P1 (.f (nt h_1) (.f f1 (.f f2 (.f f10 (.f f11 (.f f12 (.f f13 (.f f14 (.f f15 (.f trivial (.h 29 (.b false) (.h 37 (.row (b_si x0)) (.h 43 (.b true) (.h 46 (.norm (3,0,0) (map d_si (v0++([x0])))) .nil)))))))))))))))
      have ih:=t157_0 (l0_0:=l0_0) (a0:=a0) hy0 y0 (p++ [x0]) (v0++([x0])) (by rw[append_assoc]; exact hp0) (by simp only[length_map,length_set,length_append,length_replicate,length_cons,length_nil]; omega)
      rw[show ((p++ [x0]).length:Int)=(p.length:Int)+1 from by simp] at ih
      rw[show (⟨[(0,(.one (.bor l0_0 (map b_si a0)))),(3,(.one (.ref ⟨(3,0,0),[],0,(length ((take (length (map d_si v0)) (drop 0 (map d_si v0)))++([[(.val (.string x0.f0)),(.i x0.f1)]]:List (List D))))⟩))),(4,(.oi (wrap .i64 ((length p:Int)+1))))],[((3,0,0),.live ⟨2,(map d_si (v0++([x0]))),[]⟩)]⟩:St)=h157_0 l0_0 a0 ((length p:Int)+1) (v0++([x0])) from(by unfold h157_0; simp[hw,byteRows_eq,ints_y,take_of_length_le,d_y,d_LyE,d_b,d_si,d_R,d_B,d_s,d_i,d_C,d_ii,d_LyEi,d_LiE,d_LsiE,d_iLsiE,d_Q,fromBR_y,fromBR_b,fromBR_si,fromBR_s,fromBR_i,fromBR_ii]; done)] at st
      exact .loopN st ih
/-! loop.example/g00539/spec.l13Merge -/
def m157 (a0:(List K_si)):(List K_si):=
  (match r157_0 a0 a0 0 ([]) with | .k0 w0_0 w1_0 w2_0=>w0_0)
theorem e157 {l0_0:Nat} {a0:(List K_si)} (hy0:length a0*24≤70368744177664):Ev F X (.call 157 [(.one (.bor l0_0 (map b_si a0)))] [] [] [(.one (.own 2 (map d_si (m157 a0))))]):=by
  unfold m157
  cases h0:r157_0 a0 a0 0 ([]) with
  |k0 w0_0 w1_0 w2_0=>
    try dsimp only
    have f0:(⟨[(0,(.one (.bor l0_0 (map b_si a0)))),(3,(.one (.ref ⟨(3,0,0),[],0,0⟩))),(4,(.oi 0))],[((3,0,0),.live ⟨2,[],[]⟩)]⟩:St)=h157_0 l0_0 a0 0 ([]):=(by rfl)
    have f1:Ev F X (.code l157_0 (h157_0 l0_0 a0 0 ([])) (.exit 0) ⟨[(0,(.one (.bor l0_0 (map b_si a0)))),(3,(.one (.ref ⟨(3,0,0),[],0,(length (map d_si w0_0))⟩))),(4,(.oi w1_0)),(10,(.one (.val (.bool w2_0))))],[((3,0,0),.live ⟨2,(map d_si w0_0),[]⟩)]⟩):=(by have t:Ev F X (.code l157_0 (h157_0 l0_0 a0 0 ([])) (ex157_0 (r157_0 a0 a0 0 ([]))) (fin157_0 l0_0 a0 (r157_0 a0 a0 0 ([])))):=t157_0 (l0_0:=l0_0) (a0:=a0) (by assumption) a0 [] ([]) rfl (by simp only[length_map,length_set,length_append,length_replicate,length_cons,length_nil]; omega); rw[h0] at t; exact t)
    exact cp (by kernel_rfl) (.f f0 (.f f1 (pe 0 (pe (length (map d_si w0_0)) (.f (pureR_si w0_0) (.h 8 (.loop (h157_0 l0_0 a0 0 ([])) (.exit 0) ⟨[(0,(.one (.bor l0_0 (map b_si a0)))),(3,(.one (.ref ⟨(3,0,0),[],0,(length (map d_si w0_0))⟩))),(4,(.one (.val (.int .i64 w1_0)))),(10,(.one (.val (.bool w2_0))))],[((3,0,0),.live ⟨2,(map d_si w0_0),[]⟩)]⟩) .nil))))))
theorem mlen_r157 (a:List K_si):∀(l:List K_si) (i:Int) (v:List K_si),∃w j b,r157_0 a l i v=.k0 w j b∧w.length≤v.length+l.length
  |[],i,v=>⟨_,_,_,rfl,by simp⟩
  |x::l,i,v=>by
    simp only[r157_0]
    split
    · obtain⟨w,j,b,h,h2⟩:=mlen_r157 a l (i+1) (set v (toNat (m60 v x.f0)) (K_si.mk ((getD v (toNat (m60 v x.f0)) (K_si.mk (⟨#[]⟩:ByteArray) 0)).f0) (wrap .i64 (((getD v (toNat (m60 v x.f0)) (K_si.mk (⟨#[]⟩:ByteArray) 0)).f1)+x.f1))))
      exact⟨w,j,b,h,by simp at h2⊢; omega⟩
    · obtain⟨w,j,b,h,h2⟩:=mlen_r157 a l (i+1) (v++ [x])
      exact⟨w,j,b,h,by simp at h2⊢; omega⟩
theorem mlen_157 (a:List K_si):(m157 a).length≤a.length:=by
  unfold m157
  obtain⟨w,j,b,h,h2⟩:=mlen_r157 a a 0 []
  rw[h]; simpa using h2
theorem mne_r157 (a:List K_si):∀(l:List K_si) (i:Int) (v:List K_si) (k:Nat),(∀z∈l,1≤z.f1∧z.f1≤9999)→(∀z∈v,1≤z.f1∧z.f1≤9999*(k:Int))→k+l.length≤1000→∃w j b,r157_0 a l i v=.k0 w j b∧v.length≤w.length∧(0 < l.length→0 < w.length)∧(∀z∈w,1≤z.f1∧z.f1≤9999*((k+l.length:Nat):Int))
  |[],i,v,k,_,hv,_=>⟨v,_,_,rfl,Nat.le_refl _,by simp,by simpa using hv⟩
  |x::l,i,v,k,hl,hv,hk=>by
    have hx:=hl x (List.mem_cons_self ..)
    have hl':∀z∈l,1≤z.f1∧z.f1≤9999:=fun z hz=>hl z (List.mem_cons_of_mem _ hz)
    simp only[length_cons] at hk
    simp only[r157_0]
    have q:=ix60 v x.f0
    by_cases h:(decide ((m60 v x.f0)≥0))=true
    · rw[if_pos h]
      simp only[decide_eq_true_eq] at h
      have hg:getD v (toNat (m60 v x.f0)) (K_si.mk (⟨#[]⟩:ByteArray) 0)∈v:=by
        rw[List.getD_eq_getElem?_getD,List.getElem?_eq_getElem (by omega)]; exact List.getElem_mem _
      have hgb:=hv _ hg
      obtain ⟨w, j, b, e, h1, h2, h3⟩ := mne_r157 a l (i + 1) (set v (toNat (m60 v x.f0)) (K_si.mk ((getD v (toNat (m60 v x.f0)) (K_si.mk (⟨#[]⟩ : ByteArray) 0)).f0) (wrap .i64 (((getD v (toNat (m60 v x.f0)) (K_si.mk (⟨#[]⟩ : ByteArray) 0)).f1) + x.f1)))) (k + 1) hl' (fun z hz => by
        rcases List.mem_or_eq_of_mem_set hz with hz | rfl
        · have:=hv z hz; omega
        · simp only[]
          rw[wrap64 (by omega)]; omega) (by omega)
      refine⟨w,j,b,e,by simpa using h1,fun _=>?_,fun z hz=>?_⟩
      · simp only[length_set] at h1
        have:0 < v.length:=by omega
        omega
      · have:=h3 z hz; simp only[length_cons]; omega
    · rw[if_neg h]
      obtain ⟨w, j, b, e, h1, h2, h3⟩ := mne_r157 a l (i + 1) (v ++ [x]) (k + 1) hl' (fun z hz => by
        rcases List.mem_append.1 hz with hz | hz
        · have:=hv z hz; omega
        · rw[List.mem_singleton.1 hz]; omega) (by omega)
      simp only[length_append,length_cons,length_nil] at h1
      refine⟨w,j,b,e,by omega,fun _=>by omega,fun z hz=>?_⟩
      have:=h3 z hz; simp only[length_cons]; omega
theorem mne_157 (a:List K_si) (h:∀z∈a,1≤z.f1∧z.f1≤9999) (hl:a.length≤12):(0 < a.length→0 <(m157 a).length)∧∀z∈m157 a,1≤z.f1∧z.f1≤119988:=by
  obtain⟨w,j,b,e,h1,h2,h3⟩:=mne_r157 a a 0 [] 0 h (by simp) (by omega)
  unfold m157
  rw[e]
  refine⟨h2,fun z hz=>?_⟩
  have:=h3 z hz
  omega
theorem msz_r (a:List K_si):∀(l:List K_si) (i:Int) (v:List K_si),(∀z∈l,ByteArray.size z.f0≤3)→(∀z∈v,ByteArray.size z.f0≤3)→∃w j b,r157_0 a l i v=.k0 w j b∧∀z∈w,ByteArray.size z.f0≤3
  |[],i,v,_,hv=>⟨_,_,_,rfl,hv⟩
  |x::l,i,v,hl,hv=>by
    have hl':∀z∈l,ByteArray.size z.f0≤3:=fun z hz=>hl z (List.mem_cons_of_mem _ hz)
    simp only[r157_0]
    split
    · exact msz_r a l _ _ hl' (by exact sz_set hv _ (sz_get hv _))
    · exact msz_r a l _ _ hl' (by exact sz_app hv (hl x (List.mem_cons_self ..)))
theorem msz {a:List K_si} (h:∀z∈a,ByteArray.size z.f0≤3):∀z∈m157 a,ByteArray.size z.f0≤3:=by
  obtain⟨w,j,b,e,hw⟩:=msz_r a a 0 [] h (fun z hz=>by cases hz)
  unfold m157
  rw[e]; exact hw
/-! loop 152_0 -/
inductive O152_0 where
  |k0 (w0:List K_si) (w1:List Int) (w2:Int) (w3:Int) (w4:Bool)
def r152_0 (a0:Int) (a1:(List K_si)):List K_si→Int→List K_si→List Int→Int→O152_0
  |x0::y0,i,v0,v1,v5=>
    (r152_0 a0 a1 y0 (i+1) (v0++([(K_si.mk x0.f0 (wrap .i64 (Int.tdiv (wrap .i64 (a0*x0.f1)) (m99 (m157 a1)))))])) (v1++([(Int.tmod (wrap .i64 (a0*x0.f1)) (m99 (m157 a1)))])) (wrap .i64 (v5 - (wrap .i64 (Int.tdiv (wrap .i64 (a0*x0.f1)) (m99 (m157 a1)))))))
  |[],i,v0,v1,v5=>(O152_0.k0 v0 v1 v5 i (decide (i <((length (map d_si (m157 a1))):Int))))
def h152_0 (l1_0:Nat) (a0:Int) (a1:(List K_si)) (i:Int) (v0:List K_si) (v1:List Int) (v5:Int):St:=⟨[(0,(.one (.val (.int .i64 a0)))),(5,(.one (.ref ⟨(5,0,0),[],0,(length (map d_si (m157 a1)))⟩))),(6,(.one (.val (.int .i64 (m99 (m157 a1)))))),(7,(.one (.ref ⟨(7,0,0),[],0,(length (map d_si v0))⟩))),(8,(.one (.ref ⟨(8,0,0),[],0,(length (map d_i v1))⟩))),(9,(.one (.val (.int .i64 v5)))),(10,(.one (.val (.int .i64 i))))],[((5,0,0),.live ⟨2,(map d_si (m157 a1)),[]⟩),((7,0,0),.live ⟨2,(map d_si v0),[]⟩),((8,0,0),.live ⟨1,(map d_i v1),[]⟩)]⟩
def ex152_0:O152_0→VX.Exit
  |.k0 _ _ _ _ _=>(.exit 0)
def fin152_0 (l1_0:Nat) (a0:Int) (a1:(List K_si)):O152_0→St
  |.k0 w0 w1 w2 w3 w4=>⟨[(0,(.one (.val (.int .i64 a0)))),(5,(.one (.ref ⟨(5,0,0),[],0,(length (map d_si (m157 a1)))⟩))),(6,(.one (.val (.int .i64 (m99 (m157 a1)))))),(7,(.one (.ref ⟨(7,0,0),[],0,(length (map d_si w0))⟩))),(8,(.one (.ref ⟨(8,0,0),[],0,(length (map d_i w1))⟩))),(9,(.one (.val (.int .i64 w2)))),(10,(.one (.val (.int .i64 w3)))),(24,(.one (.val (.bool w4))))],[((5,0,0),.live ⟨2,(map d_si (m157 a1)),[]⟩),((7,0,0),.live ⟨2,(map d_si w0),[]⟩),((8,0,0),.live ⟨1,(map d_i w1),[]⟩)]⟩
theorem t152_0 {l1_0:Nat} {a0:Int} {a1:(List K_si)} (hy0:0≤a0) (hy1:a0≤1000000) (hy2:0 < length a1) (hy3:length a1≤12) (hy4:∀z∈a1,1≤z.f1∧z.f1≤9999):∀(y0:List K_si) (p:List K_si) (v0:List K_si) (v1:List Int) (v5:Int),p++y0=m157 a1→(length v0+length y0)*24≤70368744177664→(length v1+length y0)*8≤70368744177664→Ev F X (.code l152_0 (h152_0 l1_0 a0 a1 (length p:Int) v0 v1 v5) (ex152_0 (r152_0 a0 a1 y0 (length p:Int) v0 v1 v5)) (fin152_0 l1_0 a0 a1 (r152_0 a0 a1 y0 (length p:Int) v0 v1 v5)))
  |[],p,v0,v1,v5,hp0,hi0,hi1=>by
    have hc:¬(decide ((length p:Int) <((length (map d_si (m157 a1))):Int)))=true:=by
      rw[← hp0]; simp only[length_map,length_set,length_append,length_replicate,length_cons,length_nil,decide_eq_true_eq]; omega
    have hj0:=hi0; try simp only[length_map,length_set,length_append,length_replicate,length_cons,length_nil,Int.toNat_natCast] at hj0
    have hj1:=hi1; try simp only[length_map,length_set,length_append,length_replicate,length_cons,length_nil,Int.toNat_natCast] at hj1
    have st:=ch b152_0 (h152_0 l1_0 a0 a1 (length p:Int) v0 v1 v5) ⟨[(0,(.oi a0)),(5,(.one (.ref ⟨(5,0,0),[],0,(length (map d_si (m157 a1)))⟩))),(6,(.oi (m99 (m157 a1)))),(7,(.one (.ref ⟨(7,0,0),[],0,(length (map d_si v0))⟩))),(8,(.one (.ref ⟨(8,0,0),[],0,(length (map d_i v1))⟩))),(9,(.oi v5)),(10,(.oi (length p:Int))),(24,(.one (.val (.bool (decide ((length p:Int) <((length (map d_si (m157 a1))):Int)))))))],[((5,0,0),.live ⟨2,(map d_si (m157 a1)),[]⟩),((7,0,0),.live ⟨2,(map d_si v0),[]⟩),((8,0,0),.live ⟨1,(map d_i v1),[]⟩)]⟩ (.exit 0) 9 (by kernel_rfl) (.f (nt hc) (.h 8 (.b false) .nil))
    rw[show (⟨[(0,(.oi a0)),(5,(.one (.ref ⟨(5,0,0),[],0,(length (map d_si (m157 a1)))⟩))),(6,(.oi (m99 (m157 a1)))),(7,(.one (.ref ⟨(7,0,0),[],0,(length (map d_si v0))⟩))),(8,(.one (.ref ⟨(8,0,0),[],0,(length (map d_i v1))⟩))),(9,(.oi v5)),(10,(.oi (length p:Int))),(24,(.one (.val (.bool (decide ((length p:Int) <((length (map d_si (m157 a1))):Int)))))))],[((5,0,0),.live ⟨2,(map d_si (m157 a1)),[]⟩),((7,0,0),.live ⟨2,(map d_si v0),[]⟩),((8,0,0),.live ⟨1,(map d_i v1),[]⟩)]⟩:St)=fin152_0 l1_0 a0 a1 (.k0 v0 v1 v5 (length p:Int) (decide ((length p:Int) <((length (map d_si (m157 a1))):Int)))) from(by rfl)] at st
    exact .loopX st (show ((.exit 0):VX.Exit)≠.normal from by simp)
  |x0::y0,p,v0,v1,v5,hp0,hi0,hi1=>by
    have hc:(decide ((length p:Int) <((length (map d_si (m157 a1))):Int)))=true:=by
      rw[← hp0]; simp only[length_map,length_set,length_append,length_replicate,length_cons,length_nil,decide_eq_true_eq]; omega
    have Hx0:(m157 a1)[toNat (length p:Int)]?=some x0:=by
      rw[← hp0,Int.toNat_natCast]; simp
    have hlen:length (m157 a1)=length p+length y0+1:=by rw[← hp0]; simp; omega
    have hw:wrap .i64 ((length p:Int)+1)=(length p:Int)+1:=wrap64 (by have hz:length (m157 a1)*24≤140737488351232:=(by first | with_reducible assumption | omega |(have q:=mlen_157 a1; simp only[length_map,length_nil,Nat.zero_add] at*; omega) |(have q:=mlen_157 a1; omega) |(have q1:=mne_157 a1 (by assumption) (by omega); have q2:=mlen_157 a1; have q:=(tot_99 (m157 a1) q1.2 (by omega)).1; have q3:=q1.1 (by omega); omega) |(simp only[decide_eq_true_eq,length_map] at*; omega) |(simp only[length_map] at*; omega) |(unfold m157;(repeat' split)<;>simp_all<;>omega) | assumption |(simp only[length_map]; omega) |(simp; omega)); omega)
    have hj0:=hi0; try simp only[length_map,length_set,length_append,length_replicate,length_cons,length_nil,Int.toNat_natCast] at hj0
    have hj1:=hi1; try simp only[length_map,length_set,length_append,length_replicate,length_cons,length_nil,Int.toNat_natCast] at hj1
    simp only[r152_0]
    have f1:0+(length (map d_si (m157 a1)))≤(length (map d_si (m157 a1))):=(by omega)
    have f2:0≤(length p:Int)∧(length p:Int) <((length (map d_si (m157 a1))):Int):=(by have q:=mlen_157 a1; simp only[length_map,length_nil,Nat.zero_add] at*; omega)
    have f3:(map d_si (m157 a1))[(0+(toNat (length p:Int)))]?=some (d_si x0):=(by rw[Nat.zero_add,getElem?_map,Hx0]; rfl)
    have f4:(m99 (m157 a1))≠0:=(by have q1:=mne_157 a1 (by assumption) (by omega); have q2:=mlen_157 a1; have q:=(tot_99 (m157 a1) q1.2 (by omega)).1; have q3:=q1.1 (by omega); omega)
    have f8:0+(length (map d_si v0))≤(length (map d_si v0)):=(by omega)
    have f9:1≤1:=(by omega)
    have f10:((take 1 (drop 0 [[(.val (.string x0.f0)),(.val (.int .i64 (wrap .i64 (Int.tdiv (wrap .i64 (a0*x0.f1)) (m99 (m157 a1))))))]])).all fun x=>x.all copyable)=true:=(by trivial)
    have f11:(length ((take (length (map d_si v0)) (drop 0 (map d_si v0)))++([[(.val (.string x0.f0)),(.val (.int .i64 (wrap .i64 (Int.tdiv (wrap .i64 (a0*x0.f1)) (m99 (m157 a1))))))]]:List (List D))))*24≤70368744177664:=(by unfold m99 m157;(repeat' split)<;>simp_all<;>omega)
    have f12:∀r∈([[(.val (.string x0.f0)),(.val (.int .i64 (wrap .i64 (Int.tdiv (wrap .i64 (a0*x0.f1)) (m99 (m157 a1))))))]]:List (List D)),r.length=2:=(by unfold m99 m157;(repeat' split)<;>simp_all<;>omega)
    have f13:((take (length (map d_si v0)) (drop 0 (map d_si v0)))++([[(.val (.string x0.f0)),(.val (.int .i64 (wrap .i64 (Int.tdiv (wrap .i64 (a0*x0.f1)) (m99 (m157 a1))))))]]:List (List D)))=(map d_si (v0++([(K_si.mk x0.f0 (wrap .i64 (Int.tdiv (wrap .i64 (a0*x0.f1)) (m99 (m157 a1)))))]))):=(by simp[byteRows_eq,ints_y,take_of_length_le,d_y,d_LyE,d_b,d_si,d_R,d_B,d_s,d_i,d_C,d_ii,d_LyEi,d_LiE,d_LsiE,d_iLsiE,d_Q,fromBR_y,fromBR_b,fromBR_si,fromBR_s,fromBR_i,fromBR_ii]; done)
    have f18:0+(length (map d_i v1))≤(length (map d_i v1)):=(by omega)
    have f20:((take 1 (drop 0 [[(.val (.int .i64 (Int.tmod (wrap .i64 (a0*x0.f1)) (m99 (m157 a1)))))]])).all fun x=>x.all copyable)=true:=(by assumption)
    have f21:(length ((take (length (map d_i v1)) (drop 0 (map d_i v1)))++([[(.val (.int .i64 (Int.tmod (wrap .i64 (a0*x0.f1)) (m99 (m157 a1)))))]]:List (List D))))*8≤70368744177664:=(by unfold m99 m157;(repeat' split)<;>simp_all<;>omega)
    have f22:∀r∈([[(.val (.int .i64 (Int.tmod (wrap .i64 (a0*x0.f1)) (m99 (m157 a1)))))]]:List (List D)),r.length=1:=(by unfold m99 m157;(repeat' split)<;>simp_all<;>omega)
    have f23:((take (length (map d_i v1)) (drop 0 (map d_i v1)))++([[(.val (.int .i64 (Int.tmod (wrap .i64 (a0*x0.f1)) (m99 (m157 a1)))))]]:List (List D)))=(map d_i (v1++([(Int.tmod (wrap .i64 (a0*x0.f1)) (m99 (m157 a1)))]))):=(by simp[byteRows_eq,ints_y,take_of_length_le,d_y,d_LyE,d_b,d_si,d_R,d_B,d_s,d_i,d_C,d_ii,d_LyEi,d_LiE,d_LsiE,d_iLsiE,d_Q,fromBR_y,fromBR_b,fromBR_si,fromBR_s,fromBR_i,fromBR_ii]; done)
    have st:=ch b152_0 (h152_0 l1_0 a0 a1 (length p:Int) v0 v1 v5) ⟨[(0,(.oi a0)),(5,(.one (.ref ⟨(5,0,0),[],0,(length (map d_si (m157 a1)))⟩))),(6,(.oi (m99 (m157 a1)))),(7,(.one (.ref ⟨(7,0,0),[],0,(length ((take (length (map d_si v0)) (drop 0 (map d_si v0)))++([[(.val (.string x0.f0)),(.i (wrap .i64 (Int.tdiv (wrap .i64 (a0*x0.f1)) (m99 (m157 a1)))))]]:List (List D))))⟩))),(8,(.one (.ref ⟨(8,0,0),[],0,(length ((take (length (map d_i v1)) (drop 0 (map d_i v1)))++([[(.i (Int.tmod (wrap .i64 (a0*x0.f1)) (m99 (m157 a1))))]]:List (List D))))⟩))),(9,(.oi (wrap .i64 (v5 - (wrap .i64 (Int.tdiv (wrap .i64 (a0*x0.f1)) (m99 (m157 a1)))))))),(10,(.oi (wrap .i64 ((length p:Int)+1))))],[((5,0,0),.live ⟨2,(map d_si (m157 a1)),[]⟩),((7,0,0),.live ⟨2,(map d_si (v0++([(K_si.mk x0.f0 (wrap .i64 (Int.tdiv (wrap .i64 (a0*x0.f1)) (m99 (m157 a1)))))]))),[]⟩),((8,0,0),.live ⟨1,(map d_i (v1++([(Int.tmod (wrap .i64 (a0*x0.f1)) (m99 (m157 a1)))]))),[]⟩)]⟩ .normal 93 (by kernel_rfl) (.f hc (.f f1 (.f f2 (.f f3 (.f f4 (.f f1 (.f f2 (.f f3 (.f f8 (.f f9 (.f f10 (.f f11 (.f f12 (.f f13 (.f f1 (.f f2 (.f f3 (.f f4 (.f f18 (.f f9 (.f f20 (.f f21 (.f f22 (.f f23 (.f trivial (.h 8 (.b true) (.h 20 (.rowD (d_si x0)) (.h 40 (.rowD (d_si x0)) (.h 48 (.b true) (.h 51 (.norm (7,0,0) (map d_si (v0++([(K_si.mk x0.f0 (wrap .i64 (Int.tdiv (wrap .i64 (a0*x0.f1)) (m99 (m157 a1)))))])))) (.h 65 (.rowD (d_si x0)) (.h 75 (.b true) (.h 78 (.norm (8,0,0) (map d_i (v1++([(Int.tmod (wrap .i64 (a0*x0.f1)) (m99 (m157 a1)))])))) .nil)))))))))))))))))))))))))))))))))
    have ih:=t152_0 (l1_0:=l1_0) (a0:=a0) (a1:=a1) hy0 hy1 hy2 hy3 hy4 y0 (p++ [x0]) (v0++([(K_si.mk x0.f0 (wrap .i64 (Int.tdiv (wrap .i64 (a0*x0.f1)) (m99 (m157 a1)))))])) (v1++([(Int.tmod (wrap .i64 (a0*x0.f1)) (m99 (m157 a1)))])) (wrap .i64 (v5 - (wrap .i64 (Int.tdiv (wrap .i64 (a0*x0.f1)) (m99 (m157 a1)))))) (by rw[append_assoc]; exact hp0) (by simp only[length_map,length_set,length_append,length_replicate,length_cons,length_nil]; omega) (by simp only[length_map,length_set,length_append,length_replicate,length_cons,length_nil]; omega)
    rw[show ((p++ [x0]).length:Int)=(p.length:Int)+1 from by simp] at ih
    rw[show (⟨[(0,(.oi a0)),(5,(.one (.ref ⟨(5,0,0),[],0,(length (map d_si (m157 a1)))⟩))),(6,(.oi (m99 (m157 a1)))),(7,(.one (.ref ⟨(7,0,0),[],0,(length ((take (length (map d_si v0)) (drop 0 (map d_si v0)))++([[(.val (.string x0.f0)),(.i (wrap .i64 (Int.tdiv (wrap .i64 (a0*x0.f1)) (m99 (m157 a1)))))]]:List (List D))))⟩))),(8,(.one (.ref ⟨(8,0,0),[],0,(length ((take (length (map d_i v1)) (drop 0 (map d_i v1)))++([[(.i (Int.tmod (wrap .i64 (a0*x0.f1)) (m99 (m157 a1))))]]:List (List D))))⟩))),(9,(.oi (wrap .i64 (v5 - (wrap .i64 (Int.tdiv (wrap .i64 (a0*x0.f1)) (m99 (m157 a1)))))))),(10,(.oi (wrap .i64 ((length p:Int)+1))))],[((5,0,0),.live ⟨2,(map d_si (m157 a1)),[]⟩),((7,0,0),.live ⟨2,(map d_si (v0++([(K_si.mk x0.f0 (wrap .i64 (Int.tdiv (wrap .i64 (a0*x0.f1)) (m99 (m157 a1)))))]))),[]⟩),((8,0,0),.live ⟨1,(map d_i (v1++([(Int.tmod (wrap .i64 (a0*x0.f1)) (m99 (m157 a1)))]))),[]⟩)]⟩:St)=h152_0 l1_0 a0 a1 ((length p:Int)+1) (v0++([(K_si.mk x0.f0 (wrap .i64 (Int.tdiv (wrap .i64 (a0*x0.f1)) (m99 (m157 a1)))))])) (v1++([(Int.tmod (wrap .i64 (a0*x0.f1)) (m99 (m157 a1)))])) (wrap .i64 (v5 - (wrap .i64 (Int.tdiv (wrap .i64 (a0*x0.f1)) (m99 (m157 a1)))))) from(by unfold h152_0; simp[hw,byteRows_eq,ints_y,take_of_length_le,d_y,d_LyE,d_b,d_si,d_R,d_B,d_s,d_i,d_C,d_ii,d_LyEi,d_LiE,d_LsiE,d_iLsiE,d_Q,fromBR_y,fromBR_b,fromBR_si,fromBR_s,fromBR_i,fromBR_ii]; done)] at st
    exact .loopN st ih
def post152_0 (n0 n1:Nat):O152_0→Prop
  |.k0 w0 w1 _ _ _=>length w0=n0∧length w1=n1
theorem z152_0 {a0:Int} {a1:(List K_si)}:∀(y0:List K_si) (i:Int) (v0:List K_si) (v1:List Int) (v5:Int),post152_0 (length v0+length y0) (length v1+length y0) (r152_0 a0 a1 y0 i v0 v1 v5)
  |[],i,v0,v1,v5=>by
    first | trivial |(simp only[post152_0,length_nil,Nat.add_zero]; done) |(simp[post152_0]; done)
  |x0::y0,i,v0,v1,v5=>by
    simp only[r152_0]
    have z:=z152_0 (a0:=a0) (a1:=a1) y0 (i+1) (v0++([(K_si.mk x0.f0 (wrap .i64 (Int.tdiv (wrap .i64 (a0*x0.f1)) (m99 (m157 a1)))))])) (v1++([(Int.tmod (wrap .i64 (a0*x0.f1)) (m99 (m157 a1)))])) (wrap .i64 (v5 - (wrap .i64 (Int.tdiv (wrap .i64 (a0*x0.f1)) (m99 (m157 a1))))))
    rw[show (length v0+length (x0::y0))=(length (v0++([(K_si.mk x0.f0 (wrap .i64 (Int.tdiv (wrap .i64 (a0*x0.f1)) (m99 (m157 a1)))))]))+length y0) from by first | omega |(simp only[length_map,length_set,length_append,length_replicate,length_cons,length_nil]; done) |(simp only[length_map,length_set,length_append,length_replicate,length_cons,length_nil]; omega),show (length v1+length (x0::y0))=(length (v1++([(Int.tmod (wrap .i64 (a0*x0.f1)) (m99 (m157 a1)))]))+length y0) from by first | omega |(simp only[length_map,length_set,length_append,length_replicate,length_cons,length_nil]; done) |(simp only[length_map,length_set,length_append,length_replicate,length_cons,length_nil]; omega)]
    exact z
theorem left_152 (a0:Int) (a1:List K_si):∀(l:List K_si) (i:Int) (v0:List K_si) (v1:List Int) (v4:Int),v4≤9223372036854775807→∀w0 w1 w2 w3 w4,r152_0 a0 a1 l i v0 v1 v4=.k0 w0 w1 w2 w3 w4→w2≤9223372036854775807
  |[],i,v0,v1,v4,h,w0,w1,w2,w3,w4,e=>by
    simp only[r152_0] at e
    injection e with e0 e1 e2 e3 e4
    omega
  |x::l,i,v0,v1,v4,h,w0,w1,w2,w3,w4,e=>by
    simp only[r152_0] at e
    exact left_152 a0 a1 l (i+1) _ _ _ (wrap64_range _).2 w0 w1 w2 w3 w4 e
/-! loop 152_2 -/
inductive O152_2 where
  |k0 (w0:Int) (w1:Int) (w2:Bool)
def r152_2 (c1_152_2:List Int) (c4_152_2:List Int):Nat→Int→Int→O152_2
  |n+1,v0,v1=>
    if (decide (v1 < ((length (map d_i c1_152_2)) : Int))) = true then (if (decide ((getD c4_152_2 (toNat v1) 0) > (getD c4_152_2 (toNat v0) 0))) = true then (r152_2 c1_152_2 c4_152_2 n v1 (wrap .i64 (v1 + 1))) else
      (r152_2 c1_152_2 c4_152_2 n v0 (wrap .i64 (v1+1)))) else
    (O152_2.k0 v0 v1 (decide (v1 <((length (map d_i c1_152_2)):Int))))
  |0,v0,v1=>(O152_2.k0 v0 v1 (decide (v1 <((length (map d_i c1_152_2)):Int))))
def h152_2 (l1_0:Nat) (a0:Int) (a1:(List K_si)) (c2_152_1:Int) (c0_152_2:List K_si) (c1_152_2:List Int) (c2_152_2:Int) (c3_152_2:List K_si) (c4_152_2:List Int) (v0:Int) (v1:Int):St:=⟨[(7,(.one (.ref ⟨(7,0,0),[],0,(length (map d_si c0_152_2))⟩))),(8,(.one (.ref ⟨(8,0,0),[],0,(length (map d_i c1_152_2))⟩))),(9,(.one (.val (.int .i64 c2_152_2)))),(12,(.one (.val (.int .i64 v0)))),(13,(.one (.val (.int .i64 v1))))],[((7,0,0),.live ⟨2,(map d_si c3_152_2),[]⟩),((8,0,0),.live ⟨1,(map d_i c4_152_2),[]⟩)]⟩
def ex152_2:O152_2→VX.Exit
  |.k0 _ _ _=>(.exit 4)
def fin152_2 (l1_0:Nat) (a0:Int) (a1:(List K_si)) (c2_152_1:Int) (c0_152_2:List K_si) (c1_152_2:List Int) (c2_152_2:Int) (c3_152_2:List K_si) (c4_152_2:List Int):O152_2→St
  |.k0 w0 w1 w2=>⟨[(7,(.one (.ref ⟨(7,0,0),[],0,(length (map d_si c0_152_2))⟩))),(8,(.one (.ref ⟨(8,0,0),[],0,(length (map d_i c1_152_2))⟩))),(9,(.one (.val (.int .i64 c2_152_2)))),(12,(.one (.val (.int .i64 w0)))),(13,(.one (.val (.int .i64 w1)))),(68,(.one (.val (.bool w2))))],[((7,0,0),.live ⟨2,(map d_si c3_152_2),[]⟩),((8,0,0),.live ⟨1,(map d_i c4_152_2),[]⟩)]⟩
theorem t152_2 {l1_0:Nat} {a0:Int} {a1:(List K_si)} {c2_152_1:Int} {c0_152_2:List K_si} {c1_152_2:List Int} {c2_152_2:Int} {c3_152_2:List K_si} {c4_152_2:List Int} (hy0:length c0_152_2≤140737488351232) (hy1:length c1_152_2≤140737488351232) (hy2:length c3_152_2≤140737488351232) (hy3:length c4_152_2≤140737488351232):∀(n:Nat) (v0:Int) (v1:Int),0≤v1→((length (map d_i c1_152_2)):Int)≤9223372036854775807→0≤v0→v0 <(length c4_152_2:Int)→length c4_152_2=length c1_152_2→length c4_152_2≤1000→toNat (((length (map d_i c1_152_2)):Int) - v1)≤n→Ev F X (.code l152_2 (h152_2 l1_0 a0 a1 c2_152_1 c0_152_2 c1_152_2 c2_152_2 c3_152_2 c4_152_2 v0 v1) (ex152_2 (r152_2 c1_152_2 c4_152_2 n v0 v1)) (fin152_2 l1_0 a0 a1 c2_152_1 c0_152_2 c1_152_2 c2_152_2 c3_152_2 c4_152_2 (r152_2 c1_152_2 c4_152_2 n v0 v1)))
  |0,v0,v1,hi0,hi1,hi2,hi3,hi4,hi5,hn=>by
    have hc:¬(decide (v1 <((length (map d_i c1_152_2)):Int)))=true:=by first |(exact fuel64_zero hn) |(simp only[decide_eq_true_eq] at*; omega) |(simp at*; omega)
    have st:=ch b152_2 (h152_2 l1_0 a0 a1 c2_152_1 c0_152_2 c1_152_2 c2_152_2 c3_152_2 c4_152_2 v0 v1) ⟨[(7,(.one (.ref ⟨(7,0,0),[],0,(length (map d_si c0_152_2))⟩))),(8,(.one (.ref ⟨(8,0,0),[],0,(length (map d_i c1_152_2))⟩))),(9,(.oi c2_152_2)),(12,(.oi v0)),(13,(.oi v1)),(68,(.one (.val (.bool (decide (v1 <((length (map d_i c1_152_2)):Int)))))))],[((7,0,0),.live ⟨2,(map d_si c3_152_2),[]⟩),((8,0,0),.live ⟨1,(map d_i c4_152_2),[]⟩)]⟩ (.exit 4) 9 (by kernel_rfl) (.f (nt hc) (.h 8 (.b false) .nil))
    rw[show (⟨[(7,(.one (.ref ⟨(7,0,0),[],0,(length (map d_si c0_152_2))⟩))),(8,(.one (.ref ⟨(8,0,0),[],0,(length (map d_i c1_152_2))⟩))),(9,(.oi c2_152_2)),(12,(.oi v0)),(13,(.oi v1)),(68,(.one (.val (.bool (decide (v1 <((length (map d_i c1_152_2)):Int)))))))],[((7,0,0),.live ⟨2,(map d_si c3_152_2),[]⟩),((8,0,0),.live ⟨1,(map d_i c4_152_2),[]⟩)]⟩:St)=fin152_2 l1_0 a0 a1 c2_152_1 c0_152_2 c1_152_2 c2_152_2 c3_152_2 c4_152_2 (.k0 v0 v1 (decide (v1 <((length (map d_i c1_152_2)):Int)))) from(by rfl)] at st
    exact .loopX st (show ((.exit 4):VX.Exit)≠.normal from by simp)
  |n+1,v0,v1,hi0,hi1,hi2,hi3,hi4,hi5,hn=>by
    simp only[r152_2]
    by_cases h_0:(decide (v1 <((length (map d_i c1_152_2)):Int)))=true
    · try simp only[if_pos h_0]
      have f1:0+(length (map d_i c1_152_2))≤(length (map d_i c4_152_2)):=(by have q:=mlen_157 a1; simp only[length_map,length_nil,Nat.zero_add] at*; omega)
      have f2:0≤v1∧v1 <((length (map d_i c1_152_2)):Int):=(by simp only[decide_eq_true_eq,length_map] at*; omega)
      have f3:(map d_i c4_152_2)[(0+(toNat v1))]?=some [(.val (.int .i64 (getD c4_152_2 (toNat v1) 0)))]:=(by rw[Nat.zero_add,getElem?_map,getD_at c4_152_2 (toNat v1) 0 (by first | exact True.intro | with_reducible rfl | with_reducible assumption | omega |(have q:=mlen_157 a1; simp only[length_map,length_nil,Nat.zero_add] at*; omega) |(have q:=mlen_157 a1; omega) |(have q1:=mne_157 a1 (by assumption) (by omega); have q2:=mlen_157 a1; have q:=(tot_99 (m157 a1) q1.2 (by omega)).1; have q3:=q1.1 (by omega); omega) |(simp only[decide_eq_true_eq,length_map] at*; omega) |(simp only[length_map] at*; omega) |(simp only[decide_eq_true_eq] at*; omega) |(simp only[length_map]; omega) |(simp; omega) |(simp[take_of_length_le]; done) | assumption | trivial |(simp[*,byteRows_eq,ints_y]; done))]; rfl)
      have f5:0≤v0∧v0 <((length (map d_i c1_152_2)):Int):=(by have q:=mlen_157 a1; simp only[length_map,length_nil,Nat.zero_add] at*; omega)
      have f6:(map d_i c4_152_2)[(0+(toNat v0))]?=some [(.val (.int .i64 (getD c4_152_2 (toNat v0) 0)))]:=(by rw[Nat.zero_add,getElem?_map,getD_at c4_152_2 (toNat v0) 0 (by first | exact True.intro | with_reducible rfl | with_reducible assumption | omega |(have q:=mlen_157 a1; simp only[length_map,length_nil,Nat.zero_add] at*; omega) |(have q:=mlen_157 a1; omega) |(have q1:=mne_157 a1 (by assumption) (by omega); have q2:=mlen_157 a1; have q:=(tot_99 (m157 a1) q1.2 (by omega)).1; have q3:=q1.1 (by omega); omega) |(simp only[decide_eq_true_eq,length_map] at*; omega) |(simp only[length_map] at*; omega) |(simp only[decide_eq_true_eq] at*; omega) |(simp only[length_map]; omega) |(simp; omega) |(simp[take_of_length_le]; done) | assumption | trivial |(simp[*,byteRows_eq,ints_y]; done))]; rfl)
      have P1 {hs q} (r:PS F X hs q):=(PS.f h_0 (.f f1 (.f f2 (.f f3 (.f f1 (.f f5 (.f f6 (.h 8 (.b true) (.h 16 (.rowD [(.val (.int .i64 (getD c4_152_2 (toNat v1) 0)))]) (.h 24 (.rowD [(.val (.int .i64 (getD c4_152_2 (toNat v0) 0)))]) r))))))))))
      by_cases h_1:(decide ((getD c4_152_2 (toNat v1) 0) >(getD c4_152_2 (toNat v0) 0)))=true
      · try simp only[if_pos h_1]
        have st:=ch b152_2 (h152_2 l1_0 a0 a1 c2_152_1 c0_152_2 c1_152_2 c2_152_2 c3_152_2 c4_152_2 v0 v1) ⟨[(7,(.one (.ref ⟨(7,0,0),[],0,(length (map d_si c0_152_2))⟩))),(8,(.one (.ref ⟨(8,0,0),[],0,(length (map d_i c1_152_2))⟩))),(9,(.oi c2_152_2)),(12,(.oi v1)),(13,(.oi (wrap .i64 (v1+1))))],[((7,0,0),.live ⟨2,(map d_si c3_152_2),[]⟩),((8,0,0),.live ⟨1,(map d_i c4_152_2),[]⟩)]⟩ .normal 38 (by kernel_rfl) (P1 (.f h_1 (.f trivial (.h 27 (.b true) .nil))))
        have ih:=t152_2 (l1_0:=l1_0) (a0:=a0) (a1:=a1) (c2_152_1:=c2_152_1) (c0_152_2:=c0_152_2) (c1_152_2:=c1_152_2) (c2_152_2:=c2_152_2) (c3_152_2:=c3_152_2) (c4_152_2:=c4_152_2) hy0 hy1 hy2 hy3 n v1 (wrap .i64 (v1+1)) (by rw[wrap64 (by simp only[decide_eq_true_eq] at*; omega)]; omega) (by assumption) (by assumption) (by simp only[decide_eq_true_eq,length_map] at*; omega) (by assumption) (by assumption) (by rw[wrap64 (by simp only[decide_eq_true_eq] at*; omega)]; simp only[decide_eq_true_eq] at*; omega)
        rw[show (⟨[(7,(.one (.ref ⟨(7,0,0),[],0,(length (map d_si c0_152_2))⟩))),(8,(.one (.ref ⟨(8,0,0),[],0,(length (map d_i c1_152_2))⟩))),(9,(.oi c2_152_2)),(12,(.oi v1)),(13,(.oi (wrap .i64 (v1+1))))],[((7,0,0),.live ⟨2,(map d_si c3_152_2),[]⟩),((8,0,0),.live ⟨1,(map d_i c4_152_2),[]⟩)]⟩:St)=h152_2 l1_0 a0 a1 c2_152_1 c0_152_2 c1_152_2 c2_152_2 c3_152_2 c4_152_2 v1 (wrap .i64 (v1+1)) from(by rfl)] at st
        exact .loopN st ih
      · try simp only[if_neg h_1]
        have st:=ch b152_2 (h152_2 l1_0 a0 a1 c2_152_1 c0_152_2 c1_152_2 c2_152_2 c3_152_2 c4_152_2 v0 v1) ⟨[(7,(.one (.ref ⟨(7,0,0),[],0,(length (map d_si c0_152_2))⟩))),(8,(.one (.ref ⟨(8,0,0),[],0,(length (map d_i c1_152_2))⟩))),(9,(.oi c2_152_2)),(12,(.oi v0)),(13,(.oi (wrap .i64 (v1+1))))],[((7,0,0),.live ⟨2,(map d_si c3_152_2),[]⟩),((8,0,0),.live ⟨1,(map d_i c4_152_2),[]⟩)]⟩ .normal 34 (by kernel_rfl) (P1 (.f (nt h_1) (.f trivial (.h 27 (.b false) .nil))))
        have ih:=t152_2 (l1_0:=l1_0) (a0:=a0) (a1:=a1) (c2_152_1:=c2_152_1) (c0_152_2:=c0_152_2) (c1_152_2:=c1_152_2) (c2_152_2:=c2_152_2) (c3_152_2:=c3_152_2) (c4_152_2:=c4_152_2) hy0 hy1 hy2 hy3 n v0 (wrap .i64 (v1+1)) (by rw[wrap64 (by simp only[decide_eq_true_eq] at*; omega)]; omega) (by assumption) (by assumption) (by assumption) (by assumption) (by assumption) (by rw[wrap64 (by simp only[decide_eq_true_eq] at*; omega)]; simp only[decide_eq_true_eq] at*; omega)
        rw[show (⟨[(7,(.one (.ref ⟨(7,0,0),[],0,(length (map d_si c0_152_2))⟩))),(8,(.one (.ref ⟨(8,0,0),[],0,(length (map d_i c1_152_2))⟩))),(9,(.oi c2_152_2)),(12,(.oi v0)),(13,(.oi (wrap .i64 (v1+1))))],[((7,0,0),.live ⟨2,(map d_si c3_152_2),[]⟩),((8,0,0),.live ⟨1,(map d_i c4_152_2),[]⟩)]⟩:St)=h152_2 l1_0 a0 a1 c2_152_1 c0_152_2 c1_152_2 c2_152_2 c3_152_2 c4_152_2 v0 (wrap .i64 (v1+1)) from(by rfl)] at st
        exact .loopN st ih
    · try simp only[if_neg h_0]
      have st:=ch b152_2 (h152_2 l1_0 a0 a1 c2_152_1 c0_152_2 c1_152_2 c2_152_2 c3_152_2 c4_152_2 v0 v1) ⟨[(7,(.one (.ref ⟨(7,0,0),[],0,(length (map d_si c0_152_2))⟩))),(8,(.one (.ref ⟨(8,0,0),[],0,(length (map d_i c1_152_2))⟩))),(9,(.oi c2_152_2)),(12,(.oi v0)),(13,(.oi v1)),(68,(.one (.val (.bool (decide (v1 <((length (map d_i c1_152_2)):Int)))))))],[((7,0,0),.live ⟨2,(map d_si c3_152_2),[]⟩),((8,0,0),.live ⟨1,(map d_i c4_152_2),[]⟩)]⟩ (.exit 4) 9 (by kernel_rfl) (.f (nt h_0) (.h 8 (.b false) .nil))
      rw[show (⟨[(7,(.one (.ref ⟨(7,0,0),[],0,(length (map d_si c0_152_2))⟩))),(8,(.one (.ref ⟨(8,0,0),[],0,(length (map d_i c1_152_2))⟩))),(9,(.oi c2_152_2)),(12,(.oi v0)),(13,(.oi v1)),(68,(.one (.val (.bool (decide (v1 <((length (map d_i c1_152_2)):Int)))))))],[((7,0,0),.live ⟨2,(map d_si c3_152_2),[]⟩),((8,0,0),.live ⟨1,(map d_i c4_152_2),[]⟩)]⟩:St)=fin152_2 l1_0 a0 a1 c2_152_1 c0_152_2 c1_152_2 c2_152_2 c3_152_2 c4_152_2 (.k0 v0 v1 (decide (v1 <((length (map d_i c1_152_2)):Int)))) from(by rfl)] at st
      exact .loopX st (show ((.exit 4):VX.Exit)≠.normal from by simp)
/-! loop 152_2,behind -/
def post152_2 (a0:Int) (a1:(List K_si)) (c2_152_1:Int) (c0_152_2:List K_si) (c1_152_2:List Int) (c2_152_2:Int) (c3_152_2:List K_si) (c4_152_2:List Int):O152_2→Prop
  |.k0 w0 _ _=>0≤w0∧w0 <(length c4_152_2:Int)
theorem z152_2 {a0:Int} {a1:(List K_si)} {c2_152_1:Int} {c0_152_2:List K_si} {c1_152_2:List Int} {c2_152_2:Int} {c3_152_2:List K_si} {c4_152_2:List Int} (hy0:length c0_152_2≤140737488351232) (hy1:length c1_152_2≤140737488351232) (hy2:length c3_152_2≤140737488351232) (hy3:length c4_152_2≤140737488351232):∀(n:Nat) (v0:Int) (v1:Int),0≤v1→((length (map d_i c1_152_2)):Int)≤9223372036854775807→0≤v0→v0 <(length c4_152_2:Int)→length c4_152_2=length c1_152_2→length c4_152_2≤1000→post152_2 a0 a1 c2_152_1 c0_152_2 c1_152_2 c2_152_2 c3_152_2 c4_152_2 (r152_2 c1_152_2 c4_152_2 n v0 v1)
  |0,v0,v1,hi0,hi1,hi2,hi3,hi4,hi5=>by
    simp only[r152_2]
    first | trivial |(show _ ; simp only[post152_2]; omega) |(simp only[post152_2] at*; omega) |(simp only[decide_eq_true_eq,length_map] at*; omega) |(rw[wrap64 (by simp only[decide_eq_true_eq] at*; omega)]; omega) |(simp only[decide_eq_true_eq] at*; omega)
  |n+1,v0,v1,hi0,hi1,hi2,hi3,hi4,hi5=>by
    simp only[r152_2]
    by_cases h_0:(decide (v1 <((length (map d_i c1_152_2)):Int)))=true
    · try simp only[if_pos h_0]
      by_cases h_1:(decide ((getD c4_152_2 (toNat v1) 0) >(getD c4_152_2 (toNat v0) 0)))=true
      · try simp only[if_pos h_1]
        exact z152_2 (a0:=a0) (a1:=a1) (c2_152_1:=c2_152_1) (c0_152_2:=c0_152_2) (c1_152_2:=c1_152_2) (c2_152_2:=c2_152_2) (c3_152_2:=c3_152_2) (c4_152_2:=c4_152_2) hy0 hy1 hy2 hy3 n v1 (wrap .i64 (v1+1)) (by rw[wrap64 (by simp only[decide_eq_true_eq] at*; omega)]; omega) (by assumption) (by assumption) (by simp only[decide_eq_true_eq,length_map] at*; omega) (by assumption) (by assumption)
      · try simp only[if_neg h_1]
        exact z152_2 (a0:=a0) (a1:=a1) (c2_152_1:=c2_152_1) (c0_152_2:=c0_152_2) (c1_152_2:=c1_152_2) (c2_152_2:=c2_152_2) (c3_152_2:=c3_152_2) (c4_152_2:=c4_152_2) hy0 hy1 hy2 hy3 n v0 (wrap .i64 (v1+1)) (by rw[wrap64 (by simp only[decide_eq_true_eq] at*; omega)]; omega) (by assumption) (by assumption) (by assumption) (by assumption) (by assumption)
    · try simp only[if_neg h_0]
      first | trivial |(show _ ; simp only[post152_2]; omega) |(simp only[post152_2] at*; omega) |(simp only[decide_eq_true_eq,length_map] at*; omega) |(rw[wrap64 (by simp only[decide_eq_true_eq] at*; omega)]; omega) |(simp only[decide_eq_true_eq] at*; omega)
/-! loop 152_1 -/
inductive O152_1 where
  |k0 (w0:List K_si) (w1:List Int) (w2:Int) (w3:Bool)
def r152_1 (c1_152_1:List Int):Nat→Int→List K_si→List Int→O152_1
  |n+1,i,v0,v1=>
    (match r152_2 c1_152_1 v1 (toNat (((length (map d_i c1_152_1)):Int) - 1)) 0 1 with | .k0 w0_1 w1_1 w2_1=>(r152_1 c1_152_1 n (i - 1) (set v0 (toNat w0_1) (K_si.mk ((getD v0 (toNat w0_1) (K_si.mk (⟨#[]⟩:ByteArray) 0)).f0) (wrap .i64 (((getD v0 (toNat w0_1) (K_si.mk (⟨#[]⟩:ByteArray) 0)).f1)+1)))) (set v1 (toNat w0_1) (-1))))
  |0,i,v0,v1=>(O152_1.k0 v0 v1 i (decide (i > 0)))
def h152_1 (l1_0:Nat) (a0:Int) (a1:(List K_si)) (c0_152_1:List K_si) (c1_152_1:List Int) (c2_152_1:Int) (i:Int) (v0:List K_si) (v1:List Int):St:=⟨[(7,(.one (.ref ⟨(7,0,0),[],0,(length (map d_si c0_152_1))⟩))),(8,(.one (.ref ⟨(8,0,0),[],0,(length (map d_i c1_152_1))⟩))),(9,(.one (.val (.int .i64 i))))],[((7,0,0),.live ⟨2,(map d_si v0),[]⟩),((8,0,0),.live ⟨1,(map d_i v1),[]⟩)]⟩
def ex152_1:O152_1→VX.Exit
  |.k0 _ _ _ _=>(.exit 2)
def fin152_1 (l1_0:Nat) (a0:Int) (a1:(List K_si)) (c0_152_1:List K_si) (c1_152_1:List Int) (c2_152_1:Int):O152_1→St
  |.k0 w0 w1 w2 w3=>⟨[(7,(.one (.ref ⟨(7,0,0),[],0,(length (map d_si c0_152_1))⟩))),(8,(.one (.ref ⟨(8,0,0),[],0,(length (map d_i c1_152_1))⟩))),(9,(.one (.val (.int .i64 w2)))),(62,(.one (.val (.bool w3))))],[((7,0,0),.live ⟨2,(map d_si w0),[]⟩),((8,0,0),.live ⟨1,(map d_i w1),[]⟩)]⟩
theorem t152_1 {l1_0:Nat} {a0:Int} {a1:(List K_si)} {c0_152_1:List K_si} {c1_152_1:List Int} {c2_152_1:Int} (hy0:0≤a0) (hy1:a0≤1000000) (hy2:0 < length a1) (hy3:length a1≤12) (hy4:∀z∈a1,1≤z.f1∧z.f1≤9999) (hy5:length c0_152_1≤140737488351232) (hy6:length c1_152_1≤140737488351232):∀(n:Nat) (i:Int) (v0:List K_si) (v1:List Int),n=toNat i→length v0=(length (map d_si c0_152_1))→length v1=(length (map d_i c1_152_1))→i≤9223372036854775807→length v0=length v1→1≤length v1→length v1≤1000→Ev F X (.code l152_1 (h152_1 l1_0 a0 a1 c0_152_1 c1_152_1 c2_152_1 i v0 v1) (ex152_1 (r152_1 c1_152_1 n i v0 v1)) (fin152_1 l1_0 a0 a1 c0_152_1 c1_152_1 c2_152_1 (r152_1 c1_152_1 n i v0 v1)))
  |0,i,v0,v1,hn,hi0,hi1,hi2,hi3,hi4,hi5=>by
    have hc:¬(decide (i > 0))=true:=by
      simp only[decide_eq_true_eq]; omega
    have st:=ch b152_1 (h152_1 l1_0 a0 a1 c0_152_1 c1_152_1 c2_152_1 i v0 v1) ⟨[(7,(.one (.ref ⟨(7,0,0),[],0,(length (map d_si c0_152_1))⟩))),(8,(.one (.ref ⟨(8,0,0),[],0,(length (map d_i c1_152_1))⟩))),(9,(.oi i)),(62,(.one (.val (.bool (decide (i > 0))))))],[((7,0,0),.live ⟨2,(map d_si v0),[]⟩),((8,0,0),.live ⟨1,(map d_i v1),[]⟩)]⟩ (.exit 2) 5 (by kernel_rfl) (.f (nt hc) (.h 4 (.b false) .nil))
    rw[show (⟨[(7,(.one (.ref ⟨(7,0,0),[],0,(length (map d_si c0_152_1))⟩))),(8,(.one (.ref ⟨(8,0,0),[],0,(length (map d_i c1_152_1))⟩))),(9,(.oi i)),(62,(.one (.val (.bool (decide (i > 0))))))],[((7,0,0),.live ⟨2,(map d_si v0),[]⟩),((8,0,0),.live ⟨1,(map d_i v1),[]⟩)]⟩:St)=fin152_1 l1_0 a0 a1 c0_152_1 c1_152_1 c2_152_1 (.k0 v0 v1 i (decide (i > 0))) from(by rfl)] at st
    exact .loopX st (show ((.exit 2):VX.Exit)≠.normal from by simp)
  |n+1,i,v0,v1,hn,hi0,hi1,hi2,hi3,hi4,hi5=>by
    have hc:(decide (i > 0))=true:=by
      simp only[decide_eq_true_eq]; omega
    have hw:wrap .i64 (i - 1)=i - 1:=wrap64 (by omega)
    have hj0:=hi0; try simp only[length_map,length_set,length_append,length_replicate,length_cons,length_nil,Int.toNat_natCast] at hj0
    have hj1:=hi1; try simp only[length_map,length_set,length_append,length_replicate,length_cons,length_nil,Int.toNat_natCast] at hj1
    have hj2:=hi2; try simp only[length_map,length_set,length_append,length_replicate,length_cons,length_nil,Int.toNat_natCast] at hj2
    have hj3:=hi3; try simp only[length_map,length_set,length_append,length_replicate,length_cons,length_nil,Int.toNat_natCast] at hj3
    have hj4:=hi4; try simp only[length_map,length_set,length_append,length_replicate,length_cons,length_nil,Int.toNat_natCast] at hj4
    have hj5:=hi5; try simp only[length_map,length_set,length_append,length_replicate,length_cons,length_nil,Int.toNat_natCast] at hj5
    simp only[r152_1]
    cases h_1:r152_2 c1_152_1 v1 (toNat (((length (map d_i c1_152_1)):Int) - 1)) 0 1 with
    |k0 w0_1 w1_1 w2_1=>
      try dsimp only
      have zh_152_1_1:=z152_2 (a0:=a0) (a1:=a1) (c2_152_1:=c2_152_1) (c0_152_2:=c0_152_1) (c1_152_2:=c1_152_1) (c2_152_2:=i) (c3_152_2:=v0) (c4_152_2:=v1) (by assumption) (by assumption) (by omega) (by omega) (toNat (((length (map d_i c1_152_1)):Int) - 1)) 0 1 (by omega) (by omega) (by omega) (by omega) (by omega) (by omega); rw[h_1] at zh_152_1_1; simp only[post152_2] at zh_152_1_1
      have f1:(⟨[(7,(.one (.ref ⟨(7,0,0),[],0,(length (map d_si c0_152_1))⟩))),(8,(.one (.ref ⟨(8,0,0),[],0,(length (map d_i c1_152_1))⟩))),(9,(.oi i)),(12,(.oi 0)),(13,(.oi 1))],[((7,0,0),.live ⟨2,(map d_si v0),[]⟩),((8,0,0),.live ⟨1,(map d_i v1),[]⟩)]⟩:St)=h152_2 l1_0 a0 a1 c2_152_1 c0_152_1 c1_152_1 i v0 v1 0 1:=(by rfl)
      have f2:Ev F X (.code l152_2 (h152_2 l1_0 a0 a1 c2_152_1 c0_152_1 c1_152_1 i v0 v1 0 1) (.exit 4) ⟨[(7,(.one (.ref ⟨(7,0,0),[],0,(length (map d_si c0_152_1))⟩))),(8,(.one (.ref ⟨(8,0,0),[],0,(length (map d_i c1_152_1))⟩))),(9,(.oi i)),(12,(.oi w0_1)),(13,(.oi w1_1)),(68,(.one (.val (.bool w2_1))))],[((7,0,0),.live ⟨2,(map d_si v0),[]⟩),((8,0,0),.live ⟨1,(map d_i v1),[]⟩)]⟩):=(by have t:Ev F X (.code l152_2 (h152_2 l1_0 a0 a1 c2_152_1 c0_152_1 c1_152_1 i v0 v1 0 1) (ex152_2 (r152_2 c1_152_1 v1 (toNat (((length (map d_i c1_152_1)):Int) - 1)) 0 1)) (fin152_2 l1_0 a0 a1 c2_152_1 c0_152_1 c1_152_1 i v0 v1 (r152_2 c1_152_1 v1 (toNat (((length (map d_i c1_152_1)):Int) - 1)) 0 1))):=t152_2 (l1_0:=l1_0) (a0:=a0) (a1:=a1) (c2_152_1:=c2_152_1) (c0_152_2:=c0_152_1) (c1_152_2:=c1_152_1) (c2_152_2:=i) (c3_152_2:=v0) (c4_152_2:=v1) (by assumption) (by assumption) (by omega) (by omega) (toNat (((length (map d_i c1_152_1)):Int) - 1)) 0 1 (by omega) (by omega) (by omega) (by omega) (by omega) (by omega) (Nat.le_refl _); rw[h_1] at t; exact t)
      have f3:0+(length (map d_si c0_152_1))≤(length (map d_si v0)):=(by have q:=mlen_157 a1; simp only[length_map,length_nil,Nat.zero_add] at*; omega)
      have f4:0≤w0_1∧w0_1 <((length (map d_si c0_152_1)):Int):=(by omega)
      have f5:(map d_si v0)[(0+(toNat w0_1))]?=some (d_si (getD v0 (toNat w0_1) (K_si.mk (⟨#[]⟩:ByteArray) 0))):=(by rw[Nat.zero_add,getElem?_map,getD_at v0 (toNat w0_1) (K_si.mk (⟨#[]⟩:ByteArray) 0) (by first | exact True.intro | with_reducible rfl | with_reducible assumption | omega |(have q:=mlen_157 a1; simp only[length_map,length_nil,Nat.zero_add] at*; omega) |(have q:=mlen_157 a1; omega) |(have q1:=mne_157 a1 (by assumption) (by omega); have q2:=mlen_157 a1; have q:=(tot_99 (m157 a1) q1.2 (by omega)).1; have q3:=q1.1 (by omega); omega) |(simp only[decide_eq_true_eq,length_map] at*; omega) |(simp only[length_map] at*; omega) |(simp only[decide_eq_true_eq] at*; omega) |(simp only[length_map]; omega) |(simp; omega) |(simp[take_of_length_le]; done) | assumption | trivial |(simp[*,byteRows_eq,ints_y]; done))]; rfl)
      have f10:(set (map d_si v0) (0+(toNat w0_1)) [(.val (.string ((getD v0 (toNat w0_1) (K_si.mk (⟨#[]⟩:ByteArray) 0)).f0))),(.val (.int .i64 (wrap .i64 (((getD v0 (toNat w0_1) (K_si.mk (⟨#[]⟩:ByteArray) 0)).f1)+1))))])=(map d_si (set v0 (toNat w0_1) (K_si.mk ((getD v0 (toNat w0_1) (K_si.mk (⟨#[]⟩:ByteArray) 0)).f0) (wrap .i64 (((getD v0 (toNat w0_1) (K_si.mk (⟨#[]⟩:ByteArray) 0)).f1)+1))))):=(by simp[byteRows_eq,ints_y,take_of_length_le,d_y,d_LyE,d_b,d_si,d_R,d_B,d_s,d_i,d_C,d_ii,d_LyEi,d_LiE,d_LsiE,d_iLsiE,d_Q,fromBR_y,fromBR_b,fromBR_si,fromBR_s,fromBR_i,fromBR_ii]; done)
      have f11:0+(length (map d_i c1_152_1))≤(length (map d_i v1)):=(by have q:=mlen_157 a1; simp only[length_map,length_nil,Nat.zero_add] at*; omega)
      have f12:0≤w0_1∧w0_1 <((length (map d_i c1_152_1)):Int):=(by omega)
      have f13:(map d_i v1)[(0+(toNat w0_1))]?=some [(.val (.int .i64 (getD v1 (toNat w0_1) 0)))]:=(by rw[Nat.zero_add,getElem?_map,getD_at v1 (toNat w0_1) 0 (by first | exact True.intro | with_reducible rfl | with_reducible assumption | omega |(have q:=mlen_157 a1; simp only[length_map,length_nil,Nat.zero_add] at*; omega) |(have q:=mlen_157 a1; omega) |(have q1:=mne_157 a1 (by assumption) (by omega); have q2:=mlen_157 a1; have q:=(tot_99 (m157 a1) q1.2 (by omega)).1; have q3:=q1.1 (by omega); omega) |(simp only[decide_eq_true_eq,length_map] at*; omega) |(simp only[length_map] at*; omega) |(simp only[decide_eq_true_eq] at*; omega) |(simp only[length_map]; omega) |(simp; omega) |(simp[take_of_length_le]; done) | assumption | trivial |(simp[*,byteRows_eq,ints_y]; done))]; rfl)
      have f14:(set (map d_i v1) (0+(toNat w0_1)) [(.val (.int .i64 (-1)))])=(map d_i (set v1 (toNat w0_1) (-1))):=(by simp[byteRows_eq,ints_y,take_of_length_le,d_y,d_LyE,d_b,d_si,d_R,d_B,d_s,d_i,d_C,d_ii,d_LyEi,d_LiE,d_LsiE,d_iLsiE,d_Q,fromBR_y,fromBR_b,fromBR_si,fromBR_s,fromBR_i,fromBR_ii]; done)
      have st:=ch b152_1 (h152_1 l1_0 a0 a1 c0_152_1 c1_152_1 c2_152_1 i v0 v1) ⟨[(7,(.one (.ref ⟨(7,0,0),[],0,(length (map d_si c0_152_1))⟩))),(8,(.one (.ref ⟨(8,0,0),[],0,(length (map d_i c1_152_1))⟩))),(9,(.oi (wrap .i64 (i - 1))))],[((7,0,0),.live ⟨2,(map d_si (set v0 (toNat w0_1) (K_si.mk ((getD v0 (toNat w0_1) (K_si.mk (⟨#[]⟩:ByteArray) 0)).f0) (wrap .i64 (((getD v0 (toNat w0_1) (K_si.mk (⟨#[]⟩:ByteArray) 0)).f1)+1))))),[]⟩),((8,0,0),.live ⟨1,(map d_i (set v1 (toNat w0_1) (-1))),[]⟩)]⟩ .normal 44 (by kernel_rfl) (.f hc (.f f1 (.f f2 (.f f3 (.f f4 (.f f5 (.f trivial (.f f3 (.f f4 (.f f5 (.f f10 (.f f11 (.f f12 (.f f13 (.f f14 (.h 4 (.b true) (.h 9 (.loop (h152_2 l1_0 a0 a1 c2_152_1 c0_152_1 c1_152_1 i v0 v1 0 1) (.exit 4) ⟨[(7,(.one (.ref ⟨(7,0,0),[],0,(length (map d_si c0_152_1))⟩))),(8,(.one (.ref ⟨(8,0,0),[],0,(length (map d_i c1_152_1))⟩))),(9,(.oi i)),(12,(.oi w0_1)),(13,(.oi w1_1)),(68,(.one (.val (.bool w2_1))))],[((7,0,0),.live ⟨2,(map d_si v0),[]⟩),((8,0,0),.live ⟨1,(map d_i v1),[]⟩)]⟩) (.h 19 (.rowD (d_si (getD v0 (toNat w0_1) (K_si.mk (⟨#[]⟩:ByteArray) 0)))) (.h 27 (.rowD (d_si (getD v0 (toNat w0_1) (K_si.mk (⟨#[]⟩:ByteArray) 0)))) (.h 28 (.norm (7,0,0) (map d_si (set v0 (toNat w0_1) (K_si.mk ((getD v0 (toNat w0_1) (K_si.mk (⟨#[]⟩:ByteArray) 0)).f0) (wrap .i64 (((getD v0 (toNat w0_1) (K_si.mk (⟨#[]⟩:ByteArray) 0)).f1)+1)))))) (.h 36 (.rowD [(.i (getD v1 (toNat w0_1) 0))]) (.h 37 (.norm (8,0,0) (map d_i (set v1 (toNat w0_1) (-1)))) .nil))))))))))))))))))))))
      have ih:=t152_1 (l1_0:=l1_0) (a0:=a0) (a1:=a1) (c0_152_1:=c0_152_1) (c1_152_1:=c1_152_1) (c2_152_1:=c2_152_1) hy0 hy1 hy2 hy3 hy4 hy5 hy6 n (i - 1) (set v0 (toNat w0_1) (K_si.mk ((getD v0 (toNat w0_1) (K_si.mk (⟨#[]⟩:ByteArray) 0)).f0) (wrap .i64 (((getD v0 (toNat w0_1) (K_si.mk (⟨#[]⟩:ByteArray) 0)).f1)+1)))) (set v1 (toNat w0_1) (-1)) (by omega) (by simp only[length_map,length_set,length_append,length_replicate,length_cons,length_nil]; omega) (by simp only[length_map,length_set,length_append,length_replicate,length_cons,length_nil]; omega) (by omega) (by simp only[length_map,length_set,length_append,length_replicate,length_cons,length_nil]; omega) (by simp only[length_map,length_set,length_append,length_replicate,length_cons,length_nil]; omega) (by simp only[length_map,length_set,length_append,length_replicate,length_cons,length_nil]; omega)
      rw[show (⟨[(7,(.one (.ref ⟨(7,0,0),[],0,(length (map d_si c0_152_1))⟩))),(8,(.one (.ref ⟨(8,0,0),[],0,(length (map d_i c1_152_1))⟩))),(9,(.oi (wrap .i64 (i - 1))))],[((7,0,0),.live ⟨2,(map d_si (set v0 (toNat w0_1) (K_si.mk ((getD v0 (toNat w0_1) (K_si.mk (⟨#[]⟩:ByteArray) 0)).f0) (wrap .i64 (((getD v0 (toNat w0_1) (K_si.mk (⟨#[]⟩:ByteArray) 0)).f1)+1))))),[]⟩),((8,0,0),.live ⟨1,(map d_i (set v1 (toNat w0_1) (-1))),[]⟩)]⟩:St)=h152_1 l1_0 a0 a1 c0_152_1 c1_152_1 c2_152_1 (i - 1) (set v0 (toNat w0_1) (K_si.mk ((getD v0 (toNat w0_1) (K_si.mk (⟨#[]⟩:ByteArray) 0)).f0) (wrap .i64 (((getD v0 (toNat w0_1) (K_si.mk (⟨#[]⟩:ByteArray) 0)).f1)+1)))) (set v1 (toNat w0_1) (-1)) from(by unfold h152_1; simp only[hw]; done)] at st
      exact .loopN st ih
def post152_1 (n0 n1:Nat):O152_1→Prop
  |.k0 w0 w1 _ _=>length w0=n0∧length w1=n1
theorem z152_1 {c1_152_1:List Int}:∀(n:Nat) (i:Int) (v0:List K_si) (v1:List Int),post152_1 (length v0) (length v1) (r152_1 c1_152_1 n i v0 v1)
  |0,i,v0,v1=>by
    first | trivial |(simp only[post152_1,length_nil,Nat.add_zero]; done) |(simp[post152_1]; done)
  |n+1,i,v0,v1=>by
    simp only[r152_1]
    cases h_1:r152_2 c1_152_1 v1 (toNat (((length (map d_i c1_152_1)):Int) - 1)) 0 1 with
    |k0 w0_1 w1_1 w2_1=>
      try dsimp only
      have z:=z152_1 (c1_152_1:=c1_152_1) n (i - 1) (set v0 (toNat w0_1) (K_si.mk ((getD v0 (toNat w0_1) (K_si.mk (⟨#[]⟩:ByteArray) 0)).f0) (wrap .i64 (((getD v0 (toNat w0_1) (K_si.mk (⟨#[]⟩:ByteArray) 0)).f1)+1)))) (set v1 (toNat w0_1) (-1))
      rw[show (length v0)=(length (set v0 (toNat w0_1) (K_si.mk ((getD v0 (toNat w0_1) (K_si.mk (⟨#[]⟩:ByteArray) 0)).f0) (wrap .i64 (((getD v0 (toNat w0_1) (K_si.mk (⟨#[]⟩:ByteArray) 0)).f1)+1))))) from by first | omega |(simp only[length_map,length_set,length_append,length_replicate,length_cons,length_nil]; done) |(simp only[length_map,length_set,length_append,length_replicate,length_cons,length_nil]; omega),show (length v1)=(length (set v1 (toNat w0_1) (-1))) from by first | omega |(simp only[length_map,length_set,length_append,length_replicate,length_cons,length_nil]; done) |(simp only[length_map,length_set,length_append,length_replicate,length_cons,length_nil]; omega)]
      exact z
/-! loop.example/g00539/spec.l13Split -/
def m152 (a0:Int) (a1:(List K_si)):(List K_si):=
  (match r152_0 a0 a1 (m157 a1) 0 ([]) ([]) a0 with | .k0 w0_2 w1_2 w2_2 w3_2 w4_2=>(match r152_1 w1_2 (toNat w2_2) w2_2 w0_2 w1_2 with | .k0 w0_3 w1_3 w2_3 w3_3=>w0_3))
theorem e152 {a0:Int} {l1_0:Nat} {a1:(List K_si)} (hy0:0≤a0) (hy1:a0≤1000000) (hy2:0 < length a1) (hy3:length a1≤12) (hy4:∀z∈a1,1≤z.f1∧z.f1≤9999):Ev F X (.call 152 [(.one (.val (.int .i64 a0))),(.one (.bor l1_0 (map b_si a1)))] [] [] [(.one (.own 2 (map d_si (m152 a0 a1))))]):=by
  unfold m152
  cases h0:r152_0 a0 a1 (m157 a1) 0 ([]) ([]) a0 with
  |k0 w0_2 w1_2 w2_2 w3_2 w4_2=>
    try dsimp only
    have zh0:=z152_0 (a0:=a0) (a1:=a1) (m157 a1) 0 ([]) ([]) a0; rw[h0] at zh0; simp only[post152_0,length_map,length_set,length_append,length_replicate,length_cons,length_nil,Int.toNat_natCast] at zh0; have qh0:=left_152 a0 a1 _ _ _ _ _ (by omega) _ _ _ _ _ h0
    have f5:(⟨[(0,(.oi a0)),(5,(.one (.ref ⟨(5,0,0),[],0,(length (map d_si (m157 a1)))⟩))),(6,(.oi (m99 (m157 a1)))),(7,(.one (.ref ⟨(7,0,0),[],0,0⟩))),(8,(.one (.ref ⟨(8,0,0),[],0,0⟩))),(9,(.oi a0)),(10,(.oi 0))],[((5,0,0),.live ⟨2,(map d_si (m157 a1)),[]⟩),((7,0,0),.live ⟨2,[],[]⟩),((8,0,0),.live ⟨1,[],[]⟩)]⟩:St)=h152_0 l1_0 a0 a1 0 ([]) ([]) a0:=(by rfl)
    have f6:Ev F X (.code l152_0 (h152_0 l1_0 a0 a1 0 ([]) ([]) a0) (.exit 0) ⟨[(0,(.oi a0)),(5,(.one (.ref ⟨(5,0,0),[],0,(length (map d_si (m157 a1)))⟩))),(6,(.oi (m99 (m157 a1)))),(7,(.one (.ref ⟨(7,0,0),[],0,(length (map d_si w0_2))⟩))),(8,(.one (.ref ⟨(8,0,0),[],0,(length (map d_i w1_2))⟩))),(9,(.oi w2_2)),(10,(.oi w3_2)),(24,(.one (.val (.bool w4_2))))],[((5,0,0),.live ⟨2,(map d_si (m157 a1)),[]⟩),((7,0,0),.live ⟨2,(map d_si w0_2),[]⟩),((8,0,0),.live ⟨1,(map d_i w1_2),[]⟩)]⟩):=(by have t:Ev F X (.code l152_0 (h152_0 l1_0 a0 a1 0 ([]) ([]) a0) (ex152_0 (r152_0 a0 a1 (m157 a1) 0 ([]) ([]) a0)) (fin152_0 l1_0 a0 a1 (r152_0 a0 a1 (m157 a1) 0 ([]) ([]) a0))):=t152_0 (l1_0:=l1_0) (a0:=a0) (a1:=a1) (by assumption) (by assumption) (by assumption) (by assumption) (by assumption) (m157 a1) [] ([]) ([]) a0 rfl (by have q1:=mlen_157 a1; have q2:=(mne_157 a1 (by assumption) (by omega)).1 (by omega); simp only[length_map,length_nil,length_set,Nat.zero_add] at*; omega) (by have q1:=mlen_157 a1; have q2:=(mne_157 a1 (by assumption) (by omega)).1 (by omega); simp only[length_map,length_nil,length_set,Nat.zero_add] at*; omega); rw[h0] at t; exact t)
    cases h1:r152_1 w1_2 (toNat w2_2) w2_2 w0_2 w1_2 with
    |k0 w0_3 w1_3 w2_3 w3_3=>
      try dsimp only
      have zh1:=z152_1 (c1_152_1:=w1_2) (toNat w2_2) w2_2 w0_2 w1_2; rw[h1] at zh1; simp only[post152_1,length_map,length_set,length_append,length_replicate,length_cons,length_nil,Int.toNat_natCast] at zh1
      have f7:(clean [7,8,9,18,19,45,57] ⟨[(0,(.one (.val (.int .i64 a0)))),(5,(.one (.ref ⟨(5,0,0),[],0,(length (map d_si (m157 a1)))⟩))),(6,(.one (.val (.int .i64 (m99 (m157 a1)))))),(7,(.one (.ref ⟨(7,0,0),[],0,(length (map d_si w0_2))⟩))),(8,(.one (.ref ⟨(8,0,0),[],0,(length (map d_i w1_2))⟩))),(9,(.one (.val (.int .i64 w2_2)))),(10,(.one (.val (.int .i64 w3_2)))),(24,(.one (.val (.bool w4_2))))],[((5,0,0),.live ⟨2,(map d_si (m157 a1)),[]⟩),((7,0,0),.live ⟨2,(map d_si w0_2),[]⟩),((8,0,0),.live ⟨1,(map d_i w1_2),[]⟩)]⟩:St)=h152_1 l1_0 a0 a1 w0_2 w1_2 w2_2 w2_2 w0_2 w1_2:=(by rfl)
      have f8:Ev F X (.code l152_1 (h152_1 l1_0 a0 a1 w0_2 w1_2 w2_2 w2_2 w0_2 w1_2) (.exit 2) ⟨[(7,(.one (.ref ⟨(7,0,0),[],0,(length (map d_si w0_2))⟩))),(8,(.one (.ref ⟨(8,0,0),[],0,(length (map d_i w1_2))⟩))),(9,(.oi w2_3)),(62,(.one (.val (.bool w3_3))))],[((7,0,0),.live ⟨2,(map d_si w0_3),[]⟩),((8,0,0),.live ⟨1,(map d_i w1_3),[]⟩)]⟩):=(by have t:Ev F X (.code l152_1 (h152_1 l1_0 a0 a1 w0_2 w1_2 w2_2 w2_2 w0_2 w1_2) (ex152_1 (r152_1 w1_2 (toNat w2_2) w2_2 w0_2 w1_2)) (fin152_1 l1_0 a0 a1 w0_2 w1_2 w2_2 (r152_1 w1_2 (toNat w2_2) w2_2 w0_2 w1_2))):=t152_1 (l1_0:=l1_0) (a0:=a0) (a1:=a1) (c0_152_1:=w0_2) (c1_152_1:=w1_2) (c2_152_1:=w2_2) (by assumption) (by assumption) (by assumption) (by assumption) (by assumption) (by have q:=mlen_157 a1; simp only[length_map,length_nil,Nat.zero_add] at*; omega) (by have q:=mlen_157 a1; simp only[length_map,length_nil,Nat.zero_add] at*; omega) _ w2_2 w0_2 w1_2 (by omega) (by simp only[length_map,length_set,length_append,length_replicate,length_cons,length_nil]; done) (by simp only[length_map,length_set,length_append,length_replicate,length_cons,length_nil]; done) (by omega) (by omega) (by have q1:=mlen_157 a1; have q2:=(mne_157 a1 (by assumption) (by omega)).1 (by omega); simp only[length_map,length_nil,length_set,Nat.zero_add] at*; omega) (by have q1:=mlen_157 a1; have q2:=(mne_157 a1 (by assumption) (by omega)).1 (by omega); simp only[length_map,length_nil,length_set,Nat.zero_add] at*; omega); rw[h1] at t; exact t)
      have f10:(length (map d_si w0_2))=(length (map d_si w0_3)):=(by have q:=mlen_157 a1; simp only[length_map,length_nil,Nat.zero_add] at*; omega)
      exact cp (by kernel_rfl) (.r 5 [] [] (e157 (l0_0:=(l1_0+1)) (a0:=a1) (by omega)) (ln_si (m157 a1) (.r 11 [] [(map b_si (m157 a1))] (e99 (l0_0:=0) (a0:=(m157 a1)) (by have q:=mlen_157 a1; simp only[length_map,length_nil,Nat.zero_add] at*; omega)) (.f f5 (.f f6 (.f f7 (.f f8 (pe 0 (.f f10 (.f (pureR_si w0_3) (.h 28 (.loop (h152_0 l1_0 a0 a1 0 ([]) ([]) a0) (.exit 0) ⟨[(0,(.one (.val (.int .i64 a0)))),(5,(.one (.ref ⟨(5,0,0),[],0,(length (map d_si (m157 a1)))⟩))),(6,(.one (.val (.int .i64 (m99 (m157 a1)))))),(7,(.one (.ref ⟨(7,0,0),[],0,(length (map d_si w0_2))⟩))),(8,(.one (.ref ⟨(8,0,0),[],0,(length (map d_i w1_2))⟩))),(9,(.one (.val (.int .i64 w2_2)))),(10,(.one (.val (.int .i64 w3_2)))),(24,(.one (.val (.bool w4_2))))],[((5,0,0),.live ⟨2,(map d_si (m157 a1)),[]⟩),((7,0,0),.live ⟨2,(map d_si w0_2),[]⟩),((8,0,0),.live ⟨1,(map d_i w1_2),[]⟩)]⟩) (.h 29 (.loopd [7,8,9,18,19,45,57] (h152_1 l1_0 a0 a1 w0_2 w1_2 w2_2 w2_2 w0_2 w1_2) (.exit 2) ⟨[(7,(.one (.ref ⟨(7,0,0),[],0,(length (map d_si w0_2))⟩))),(8,(.one (.ref ⟨(8,0,0),[],0,(length (map d_i w1_2))⟩))),(9,(.one (.val (.int .i64 w2_3)))),(62,(.one (.val (.bool w3_3))))],[((7,0,0),.live ⟨2,(map d_si w0_3),[]⟩),((8,0,0),.live ⟨1,(map d_i w1_3),[]⟩)]⟩) .nil))))))))))))
theorem dlen152 (t:Int) (a:List K_si):length (m152 t a)=length (m157 a):=by
  have z:=z152_0 (a0:=t) (a1:=a) (m157 a) 0 [] [] t
  unfold m152
  cases hr:r152_0 t a (m157 a) 0 [] [] t with
  |k0 w0 w1 w2 w3 w4=>
    rw[hr] at z
    have z1:=z152_1 (c1_152_1:=w1) (toNat w2) w2 w0 w1
    simp only[]
    cases hr1:r152_1 w1 (toNat w2) w2 w0 w1 with
    |k0 u0 u1 u2 u3=>
      rw[hr1] at z1
      simp only[post152_0,post152_1,length_nil,Nat.zero_add] at z z1
      simp only[]
      omega
theorem psz_0 (t:Int) (a:List K_si):∀(l:List K_si) (i:Int) (v:List K_si) (u:List Int) (k:Int),(∀z∈l,ByteArray.size z.f0≤3)→(∀z∈v,ByteArray.size z.f0≤3)→∀w0 w1 w2 w3 w4,r152_0 t a l i v u k=.k0 w0 w1 w2 w3 w4→∀z∈w0,ByteArray.size z.f0≤3
  |[],i,v,u,k,_,hv,w0,w1,w2,w3,w4,e=>by
    simp only[r152_0] at e
    injection e with e0 e1 e2 e3 e4
    subst e0; exact hv
  |x::l,i,v,u,k,hl,hv,w0,w1,w2,w3,w4,e=>by
    simp only[r152_0] at e
    exact psz_0 t a l _ _ _ _ (fun z hz=>hl z (List.mem_cons_of_mem _ hz)) (by exact sz_app hv (hl x (List.mem_cons_self ..))) w0 w1 w2 w3 w4 e
theorem psz_1 (c:List Int):∀(n:Nat) (i:Int) (v:List K_si) (u:List Int),(∀z∈v,ByteArray.size z.f0≤3)→∀w0 w1 w2 w3,r152_1 c n i v u=.k0 w0 w1 w2 w3→∀z∈w0,ByteArray.size z.f0≤3
  |0,i,v,u,hv,w0,w1,w2,w3,e=>by
    simp only[r152_1] at e
    injection e with e0 e1 e2 e3
    subst e0; exact hv
  |n+1,i,v,u,hv,w0,w1,w2,w3,e=>by
    simp only[r152_1] at e
    exact psz_1 c n _ _ _ (by exact sz_set hv _ (sz_get hv _)) w0 w1 w2 w3 e
theorem psz (t:Int) {a:List K_si} (h:∀z∈a,ByteArray.size z.f0≤3):∀z∈m152 t a,ByteArray.size z.f0≤3:=by
  unfold m152
  cases e:r152_0 t a (m157 a) 0 [] [] t with
  |k0 w0 w1 w2 w3 w4=>
    simp only[]
    cases e1:r152_1 w1 (toNat w2) w2 w0 w1 with
    |k0 u0 u1 u2 u3=>
      exact psz_1 w1 _ _ w0 w1 (psz_0 t a _ _ [] [] t (msz h) (fun z hz=>by cases hz) w0 w1 w2 w3 w4 e) u0 u1 u2 u3 e1
/-! loop.example/g00539/spec.l14Found -/
def m143 (a0:K_B) (a1:Int) (a2:Int):K_C:=
  if(!(m105 a1 0 2147483646))=true then(K_C.mk 3 0 0 0 ([]) ([]) ([]) 0 0 0) else
  if(!(m105 a2 0 1000000))=true then(K_C.mk 3 0 0 0 ([]) ([]) ([]) 0 0 0) else
    if(decide ((m124 a0.f3 a1)≥0))=true then(K_C.mk 6 0 0 0 ([]) ([]) ([]) 0 0 0) else
      if(decide (((length (map b_R a0.f3)):Int)≥6))=true then(K_C.mk 10 0 0 0 ([]) ([]) ([]) 0 0 0) else
        if(!(m105 (wrap .i64 ((m100 a0.f3 false)+a2)) 0 1000000))=true then(K_C.mk 7 0 0 0 ([]) ([]) ([]) 0 0 0) else
          if(decide (((length (map b_si a0.f2)):Int) > 0))=true then(K_C.mk 0 (wrap .i64 (Int.tdiv (wrap .i64 (a2*a0.f1)) 1000)) ((m103 a0).f0) ((m103 a0).f1) ((m103 a0).f2) (((m103 a0).f3)++([(K_R.mk a1 a2 (wrap .i64 (Int.tdiv (wrap .i64 (a2*a0.f1)) 1000)) (m152 (wrap .i64 (a2 - (wrap .i64 (Int.tdiv (wrap .i64 (a2*a0.f1)) 1000)))) a0.f2) 1)])) ((m103 a0).f4) ((m103 a0).f5) ((m103 a0).f6) ((m103 a0).f7)) else
            (K_C.mk 0 a2 ((m103 a0).f0) ((m103 a0).f1) ((m103 a0).f2) (((m103 a0).f3)++([(K_R.mk a1 a2 a2 [] 1)])) ((m103 a0).f4) ((m103 a0).f5) ((m103 a0).f6) ((m103 a0).f7))
theorem e143 {l0_2:Nat} {l0_3:Nat} {l0_4:Nat} {a0:K_B} {a1:Int} {a2:Int} (hy0:length a0.f2≤100) (hy1:length a0.f3≤100) (hy2:∀z∈a0.f3,length z.f3≤100) (hy3:length a0.f4≤100) (hy4:∀z∈a0.f3,ok_R z) (hy5:length a0.f2≤12) (hy6:∀z∈a0.f2,1≤z.f1∧z.f1≤9999) (hy7:0≤a0.f1∧a0.f1≤1000):Ev F X (.call 143 [(.agg (k_B l0_2 l0_3 l0_4 a0)),(.one (.val (.int .i64 a1))),(.one (.val (.int .i64 a2)))] [] [] [(.agg (d_C (m143 a0 a1 a2)))]):=by
  unfold m143
  have P0 {hs q} (r:PS F X hs q):=(PS.r 7 [] [] (e116 (a0:=a1)) r)
  by_cases h0:(!(m105 a1 0 2147483646))=true
  · try simp only[if_pos h0]
    exact cp (by kernel_rfl) (P0 (.f h0 (.f h0 (.f h0 (.f h0 (.h 12 (.b true) (.h 14 (.b true) (.h 16 (.b true) (.h 19 (.b true) (.r 22 [] [] (e52 (a0:=3)) (pe 0 (pe (length (map d_si ([]))) (pe 0 (pe (length (map d_R ([]))) (pe 0 (pe (length (map d_si ([]))) (.f (pureR_si ([])) (.f (pureR_R ([])) (.f (pureR_si ([])) .nil)))))))))))))))))))
  · try simp only[if_neg h0]
    have P1 {hs q} (r:PS F X hs q):=(P0 (.f (nt h0) (.f (nt h0) (.h 12 (.b false) (.h 14 (.b false) (.r 15 [] [] (e101 (a0:=a2)) (.f (nt h0) (.f (nt h0) (.h 16 (.b false) (.h 19 (.b false) r))))))))))
    by_cases h1:(!(m105 a2 0 1000000))=true
    · try simp only[if_pos h1]
      exact cp (by kernel_rfl) (P1 (.f h1 (.h 20 (.b true) (.r 22 [] [] (e52 (a0:=3)) (pe 0 (pe (length (map d_si ([]))) (pe 0 (pe (length (map d_R ([]))) (pe 0 (pe (length (map d_si ([]))) (.f (pureR_si ([])) (.f (pureR_R ([])) (.f (pureR_si ([])) .nil)))))))))))))
    · try simp only[if_neg h1]
      have P2 {hs q} (r:PS F X hs q):=(P1 (.f (nt h1) (.h 20 (.b false) (.r 28 [] [] (e124 (l0_0:=(l0_3+1)) (a0:=a0.f3) (a1:=a1) (by omega) (by with_reducible assumption)) r))))
      by_cases h2:(decide ((m124 a0.f3 a1)≥0))=true
      · try simp only[if_pos h2]
        exact cp (by kernel_rfl) (P2 (.f h2 (.h 31 (.b true) (.r 33 [] [] (e52 (a0:=6)) (pe 0 (pe (length (map d_si ([]))) (pe 0 (pe (length (map d_R ([]))) (pe 0 (pe (length (map d_si ([]))) (.f (pureR_si ([])) (.f (pureR_R ([])) (.f (pureR_si ([])) .nil)))))))))))))
      · try simp only[if_neg h2]
        have P3 {hs q} (r:PS F X hs q):=(P2 (.f (nt h2) (.h 31 (.b false) r)))
        by_cases h3:(decide (((length (map b_R a0.f3)):Int)≥6))=true
        · try simp only[if_pos h3]
          exact cp (by kernel_rfl) (P3 (.f h3 (.h 40 (.b true) (.r 42 [] [] (e52 (a0:=10)) (pe 0 (pe (length (map d_si ([]))) (pe 0 (pe (length (map d_R ([]))) (pe 0 (pe (length (map d_si ([]))) (.f (pureR_si ([])) (.f (pureR_R ([])) (.f (pureR_si ([])) .nil)))))))))))))
        · try simp only[if_neg h3]
          have P4 {hs q} (r:PS F X hs q):=(P3 (.f (nt h3) (.h 40 (.b false) (.r 46 [] [] (e100 (l0_0:=(l0_3+1)) (a0:=a0.f3) (a1:=false) (by omega) (by with_reducible assumption)) (.f trivial (.r 52 [] [] (e101 (a0:=(wrap .i64 ((m100 a0.f3 false)+a2)))) r))))))
          by_cases h4:(!(m105 (wrap .i64 ((m100 a0.f3 false)+a2)) 0 1000000))=true
          · try simp only[if_pos h4]
            exact cp (by kernel_rfl) (P4 (.f h4 (.h 55 (.b true) (.r 57 [] [] (e52 (a0:=7)) (pe 0 (pe (length (map d_si ([]))) (pe 0 (pe (length (map d_R ([]))) (pe 0 (pe (length (map d_si ([]))) (.f (pureR_si ([])) (.f (pureR_R ([])) (.f (pureR_si ([])) .nil)))))))))))))
          · try simp only[if_neg h4]
            by_cases h5:(decide (((length (map b_si a0.f2)):Int) > 0))=true
            · try simp only[if_pos h5]
              have f15:(1000:Int)≠0:=(by omega)
              have f28:0+(length (map d_R ((m103 a0).f3)))≤(length (map d_R ((m103 a0).f3))):=(by omega)
              have f29:1≤1:=(by omega)
              have f30:((take 1 (drop 0 [[(.val (.int .i64 a1)),(.val (.int .i64 a2)),(.val (.int .i64 (wrap .i64 (Int.tdiv (wrap .i64 (a2*a0.f1)) 1000)))),(.own 2 (map d_si (m152 (wrap .i64 (a2 - (wrap .i64 (Int.tdiv (wrap .i64 (a2*a0.f1)) 1000)))) a0.f2))),(.val (.int .i64 1))]])).all fun x=>x.all copyable)=false:=(by trivial)
              have f33:(length ((take (length (map d_R ((m103 a0).f3))) (drop 0 (map d_R ((m103 a0).f3))))++([[(.val (.int .i64 a1)),(.val (.int .i64 a2)),(.val (.int .i64 (wrap .i64 (Int.tdiv (wrap .i64 (a2*a0.f1)) 1000)))),(.own 2 (map d_si (m152 (wrap .i64 (a2 - (wrap .i64 (Int.tdiv (wrap .i64 (a2*a0.f1)) 1000)))) a0.f2))),(.val (.int .i64 1))]]:List (List D))))*56≤70368744177664:=(by simp only[cp103,length_map,length_append,length_cons,length_nil,length_take,length_drop]; omega)
              have f34:∀r∈([[(.val (.int .i64 a1)),(.val (.int .i64 a2)),(.val (.int .i64 (wrap .i64 (Int.tdiv (wrap .i64 (a2*a0.f1)) 1000)))),(.own 2 (map d_si (m152 (wrap .i64 (a2 - (wrap .i64 (Int.tdiv (wrap .i64 (a2*a0.f1)) 1000)))) a0.f2))),(.val (.int .i64 1))]]:List (List D)),r.length=5:=(by unfold m152;(repeat' split)<;>simp_all<;>omega)
              have f37:([[(.val (.int .i64 ((m103 a0).f0))),(.val (.int .i64 ((m103 a0).f1))),(.own 2 (map d_si ((m103 a0).f2))),(.own 5 ((take (length (map d_R ((m103 a0).f3))) (drop 0 (map d_R ((m103 a0).f3))))++([[(.val (.int .i64 a1)),(.val (.int .i64 a2)),(.val (.int .i64 (wrap .i64 (Int.tdiv (wrap .i64 (a2*a0.f1)) 1000)))),(.own 2 (map d_si (m152 (wrap .i64 (a2 - (wrap .i64 (Int.tdiv (wrap .i64 (a2*a0.f1)) 1000)))) a0.f2))),(.val (.int .i64 1))]]:List (List D)))),(.own 2 (map d_si ((m103 a0).f4))),(.val (.int .i64 ((m103 a0).f5))),(.val (.int .i64 ((m103 a0).f6))),(.val (.int .i64 ((m103 a0).f7)))]]:List (List D))=[[(.val (.int .i64 ((m103 a0).f0))),(.val (.int .i64 ((m103 a0).f1))),(.own 2 (map d_si ((m103 a0).f2))),(.own 5 (map d_R (((m103 a0).f3)++([(K_R.mk a1 a2 (wrap .i64 (Int.tdiv (wrap .i64 (a2*a0.f1)) 1000)) (m152 (wrap .i64 (a2 - (wrap .i64 (Int.tdiv (wrap .i64 (a2*a0.f1)) 1000)))) a0.f2) 1)])))),(.own 2 (map d_si ((m103 a0).f4))),(.val (.int .i64 ((m103 a0).f5))),(.val (.int .i64 ((m103 a0).f6))),(.val (.int .i64 ((m103 a0).f7)))]]:=(by simp[byteRows_eq,ints_y,take_of_length_le,d_y,d_LyE,d_b,d_si,d_R,d_B,d_s,d_i,d_C,d_ii,d_LyEi,d_LiE,d_LsiE,d_iLsiE,d_Q,fromBR_y,fromBR_b,fromBR_si,fromBR_s,fromBR_i,fromBR_ii]; done)
              exact cp (by kernel_rfl) (P4 (.f (nt h4) (.f h5 (.f f15 (.h 55 (.b false) (.h 76 (.b true) (.r 104 [] [] (e152 (l1_0:=(l0_2+1)) (a0:=(wrap .i64 (a2 - (wrap .i64 (Int.tdiv (wrap .i64 (a2*a0.f1)) 1000))))) (a1:=a0.f2) (by have j:=jn105 (a:=a2) (b:=0) (c:=1000000) (by with_reducible assumption); have p:=(by with_reducible assumption:0≤a0.f1∧a0.f1≤1000); have q:=fee_ok j.1 j.2 p.1 p.2; omega) (by have j:=jn105 (a:=a2) (b:=0) (c:=1000000) (by with_reducible assumption); have p:=(by with_reducible assumption:0≤a0.f1∧a0.f1≤1000); have q:=fee_ok j.1 j.2 p.1 p.2; omega) (by simp only[decide_eq_true_eq,length_map] at*; omega) (by with_reducible assumption) (by with_reducible assumption)) (pe 0 (pe (length (map d_si (m152 (wrap .i64 (a2 - (wrap .i64 (Int.tdiv (wrap .i64 (a2*a0.f1)) 1000)))) a0.f2))) (.r 112 [] [] (e103 (l0_2:=(l0_2+1)) (l0_3:=(l0_3+1)) (l0_4:=(l0_4+1)) (a0:=a0) (by with_reducible assumption) (by with_reducible assumption) (by with_reducible assumption) (by with_reducible assumption) (by with_reducible assumption)) (pe 0 (pe (length (map d_si ((m103 a0).f2))) (pe 0 (pe (length (map d_R ((m103 a0).f3))) (pe 0 (pe (length (map d_si ((m103 a0).f4))) (pe 0 (pe (length (map d_si (m152 (wrap .i64 (a2 - (wrap .i64 (Int.tdiv (wrap .i64 (a2*a0.f1)) 1000)))) a0.f2))) (.f f28 (.f f29 (.f f30 (pe 0 (pe 1 (.f f33 (.f f34 (pe 0 (pe (length ((take (length (map d_R ((m103 a0).f3))) (drop 0 (map d_R ((m103 a0).f3))))++([[(.val (.int .i64 a1)),(.val (.int .i64 a2)),(.val (.int .i64 (wrap .i64 (Int.tdiv (wrap .i64 (a2*a0.f1)) 1000)))),(.own 2 (map d_si (m152 (wrap .i64 (a2 - (wrap .i64 (Int.tdiv (wrap .i64 (a2*a0.f1)) 1000)))) a0.f2))),(.val (.int .i64 1))]]:List (List D)))) (.f f37 (pe 0 (pe (length (map d_si ((m103 a0).f2))) (pe 0 (pe (length (map d_R (((m103 a0).f3)++([(K_R.mk a1 a2 (wrap .i64 (Int.tdiv (wrap .i64 (a2*a0.f1)) 1000)) (m152 (wrap .i64 (a2 - (wrap .i64 (Int.tdiv (wrap .i64 (a2*a0.f1)) 1000)))) a0.f2) 1)])))) (pe 0 (pe (length (map d_si ((m103 a0).f4))) (.f (pureR_si ((m103 a0).f2)) (.f (pureR_R (((m103 a0).f3)++([(K_R.mk a1 a2 (wrap .i64 (Int.tdiv (wrap .i64 (a2*a0.f1)) 1000)) (m152 (wrap .i64 (a2 - (wrap .i64 (Int.tdiv (wrap .i64 (a2*a0.f1)) 1000)))) a0.f2) 1)]))) (.f (pureR_si ((m103 a0).f4)) (.h 126 (.b false) (.h 131 (.norm (8,0,0) [[(.val (.int .i64 ((m103 a0).f0))),(.val (.int .i64 ((m103 a0).f1))),(.own 2 (map d_si ((m103 a0).f2))),(.own 5 (map d_R (((m103 a0).f3)++([(K_R.mk a1 a2 (wrap .i64 (Int.tdiv (wrap .i64 (a2*a0.f1)) 1000)) (m152 (wrap .i64 (a2 - (wrap .i64 (Int.tdiv (wrap .i64 (a2*a0.f1)) 1000)))) a0.f2) 1)])))),(.own 2 (map d_si ((m103 a0).f4))),(.val (.int .i64 ((m103 a0).f5))),(.val (.int .i64 ((m103 a0).f6))),(.val (.int .i64 ((m103 a0).f7)))]]) .nil)))))))))))))))))))))))))))))))))))))))
            · try simp only[if_neg h5]
              have f24:0+(length (map d_R ((m103 a0).f3)))≤(length (map d_R ((m103 a0).f3))):=(by omega)
              have f25:1≤1:=(by omega)
              have f26:((take 1 (drop 0 [[(.val (.int .i64 a1)),(.val (.int .i64 a2)),(.val (.int .i64 a2)),(.own 2 []),(.val (.int .i64 1))]])).all fun x=>x.all copyable)=false:=(by trivial)
              have f29:(length ((take (length (map d_R ((m103 a0).f3))) (drop 0 (map d_R ((m103 a0).f3))))++([[(.val (.int .i64 a1)),(.val (.int .i64 a2)),(.val (.int .i64 a2)),(.own 2 []),(.val (.int .i64 1))]]:List (List D))))*56≤70368744177664:=(by simp only[cp103,length_map,length_append,length_cons,length_nil,length_take,length_drop]; omega)
              have f30:∀r∈([[(.val (.int .i64 a1)),(.val (.int .i64 a2)),(.val (.int .i64 a2)),(.own 2 []),(.val (.int .i64 1))]]:List (List D)),r.length=5:=(by simp; done)
              have f33:([[(.val (.int .i64 ((m103 a0).f0))),(.val (.int .i64 ((m103 a0).f1))),(.own 2 (map d_si ((m103 a0).f2))),(.own 5 ((take (length (map d_R ((m103 a0).f3))) (drop 0 (map d_R ((m103 a0).f3))))++([[(.val (.int .i64 a1)),(.val (.int .i64 a2)),(.val (.int .i64 a2)),(.own 2 []),(.val (.int .i64 1))]]:List (List D)))),(.own 2 (map d_si ((m103 a0).f4))),(.val (.int .i64 ((m103 a0).f5))),(.val (.int .i64 ((m103 a0).f6))),(.val (.int .i64 ((m103 a0).f7)))]]:List (List D))=[[(.val (.int .i64 ((m103 a0).f0))),(.val (.int .i64 ((m103 a0).f1))),(.own 2 (map d_si ((m103 a0).f2))),(.own 5 (map d_R (((m103 a0).f3)++([(K_R.mk a1 a2 a2 [] 1)])))),(.own 2 (map d_si ((m103 a0).f4))),(.val (.int .i64 ((m103 a0).f5))),(.val (.int .i64 ((m103 a0).f6))),(.val (.int .i64 ((m103 a0).f7)))]]:=(by simp[byteRows_eq,ints_y,take_of_length_le,d_y,d_LyE,d_b,d_si,d_R,d_B,d_s,d_i,d_C,d_ii,d_LyEi,d_LiE,d_LsiE,d_iLsiE,d_Q,fromBR_y,fromBR_b,fromBR_si,fromBR_s,fromBR_i,fromBR_ii]; done)
              exact cp (by kernel_rfl) (P4 (.f (nt h4) (.f (nt h5) (.h 55 (.b false) (.h 76 (.b false) (.r 80 [] [] (e103 (l0_2:=(l0_2+1)) (l0_3:=(l0_3+1)) (l0_4:=(l0_4+1)) (a0:=a0) (by with_reducible assumption) (by with_reducible assumption) (by with_reducible assumption) (by with_reducible assumption) (by with_reducible assumption)) (pe 0 (pe (length (map d_si ((m103 a0).f2))) (pe 0 (pe (length (map d_R ((m103 a0).f3))) (pe 0 (pe (length (map d_si ((m103 a0).f4))) (pe 0 (pe 0 (.f f24 (.f f25 (.f f26 (pe 0 (pe 1 (.f f29 (.f f30 (pe 0 (pe (length ((take (length (map d_R ((m103 a0).f3))) (drop 0 (map d_R ((m103 a0).f3))))++([[(.val (.int .i64 a1)),(.val (.int .i64 a2)),(.val (.int .i64 a2)),(.own 2 []),(.val (.int .i64 1))]]:List (List D)))) (.f f33 (pe 0 (pe (length (map d_si ((m103 a0).f2))) (pe 0 (pe (length (map d_R (((m103 a0).f3)++([(K_R.mk a1 a2 a2 [] 1)])))) (pe 0 (pe (length (map d_si ((m103 a0).f4))) (.f (pureR_si ((m103 a0).f2)) (.f (pureR_R (((m103 a0).f3)++([(K_R.mk a1 a2 a2 [] 1)]))) (.f (pureR_si ((m103 a0).f4)) (.h 94 (.b false) (.h 99 (.norm (8,0,0) [[(.val (.int .i64 ((m103 a0).f0))),(.val (.int .i64 ((m103 a0).f1))),(.own 2 (map d_si ((m103 a0).f2))),(.own 5 (map d_R (((m103 a0).f3)++([(K_R.mk a1 a2 a2 [] 1)])))),(.own 2 (map d_si ((m103 a0).f4))),(.val (.int .i64 ((m103 a0).f5))),(.val (.int .i64 ((m103 a0).f6))),(.val (.int .i64 ((m103 a0).f7)))]]) .nil)))))))))))))))))))))))))))))))))))
theorem foG {a:K_B} {i t:Int} (h:GL a) (hc:¬((m143 a i t).f0 !=0)=true):GL (K_B.mk (m143 a i t).f2 (m143 a i t).f3 (m143 a i t).f4 (m143 a i t).f5 (m143 a i t).f6 (m143 a i t).f7 (m143 a i t).f8 (m143 a i t).f9):=by
  obtain⟨h1,h2,h3,h4,h5⟩:=h
  generalize hr:m143 a i t=r at hc⊢
  unfold m143 at hr
  simp only[cp103] at hr
  (repeat' split at hr)<;>subst hr<;>first
    |(exfalso; simp at hc; done)
    | (refine ⟨h1, h2, h3, ?_, h5⟩
       simp only[length_map,decide_eq_true_eq] at*
       refine gr_le (gr_app (n:=5) ⟨by omega,h4.2⟩ ?_) (by decide)
       first | exact⟨by simp,fun z hz=>by cases hz⟩ | exact⟨by simp only[]; rw[dlen152]; exact Nat.le_trans (mlen_157 _) h3.1,psz _ h3.2.2⟩)
/-! loop.example/g00539/spec.l14Lose -/
def m144 (a0:K_B) (a1:Int):K_C:=
  if(decide ((m124 a0.f3 a1) < 0))=true then(K_C.mk 4 0 0 0 ([]) ([]) ([]) 0 0 0) else
  if(((getD a0.f3 (toNat (m124 a0.f3 a1)) (K_R.mk 0 0 0 [] 0)).f4)==3)=true then(K_C.mk 9 0 0 0 ([]) ([]) ([]) 0 0 0) else
    if (((getD a0.f3 (toNat (m124 a0.f3 a1)) (K_R.mk 0 0 0 [] 0)).f4) == 2) = true then (if (!(m105 (wrap .i64 (a0.f7 + ((getD a0.f3 (toNat (m124 a0.f3 a1)) (K_R.mk 0 0 0 [] 0)).f1))) 0 1000000)) = true then (K_C.mk 7 0 0 0 ([]) ([]) ([]) 0 0 0) else
        (K_C.mk 0 0 ((m103 a0).f0) ((m103 a0).f1) ((m103 a0).f2) (set ((m103 a0).f3) (toNat (m124 a0.f3 a1)) (K_R.mk ((getD ((m103 a0).f3) (toNat (m124 a0.f3 a1)) (K_R.mk 0 0 0 [] 0)).f0) ((getD ((m103 a0).f3) (toNat (m124 a0.f3 a1)) (K_R.mk 0 0 0 [] 0)).f1) ((getD ((m103 a0).f3) (toNat (m124 a0.f3 a1)) (K_R.mk 0 0 0 [] 0)).f2) ((getD ((m103 a0).f3) (toNat (m124 a0.f3 a1)) (K_R.mk 0 0 0 [] 0)).f3) 3)) ((m103 a0).f4) ((m103 a0).f5) ((m103 a0).f6) (wrap .i64 (a0.f7+((getD a0.f3 (toNat (m124 a0.f3 a1)) (K_R.mk 0 0 0 [] 0)).f1))))) else
      if(!(m105 ((m103 a0).f7) 0 1000000))=true then(K_C.mk 7 0 0 0 ([]) ([]) ([]) 0 0 0) else
        (K_C.mk 0 0 ((m103 a0).f0) ((m103 a0).f1) ((m103 a0).f2) (set ((m103 a0).f3) (toNat (m124 a0.f3 a1)) (K_R.mk ((getD ((m103 a0).f3) (toNat (m124 a0.f3 a1)) (K_R.mk 0 0 0 [] 0)).f0) ((getD ((m103 a0).f3) (toNat (m124 a0.f3 a1)) (K_R.mk 0 0 0 [] 0)).f1) ((getD ((m103 a0).f3) (toNat (m124 a0.f3 a1)) (K_R.mk 0 0 0 [] 0)).f2) ((getD ((m103 a0).f3) (toNat (m124 a0.f3 a1)) (K_R.mk 0 0 0 [] 0)).f3) 3)) ((m103 a0).f4) ((m103 a0).f5) ((m103 a0).f6) ((m103 a0).f7))
theorem e144 {l0_2:Nat} {l0_3:Nat} {l0_4:Nat} {a0:K_B} {a1:Int} (hy0:length a0.f2≤100) (hy1:length a0.f3≤100) (hy2:∀z∈a0.f3,length z.f3≤100) (hy3:length a0.f4≤100) (hy4:∀z∈a0.f3,ok_R z):Ev F X (.call 144 [(.agg (k_B l0_2 l0_3 l0_4 a0)),(.one (.val (.int .i64 a1)))] [] [] [(.agg (d_C (m144 a0 a1)))]):=by
  unfold m144
  have P0 {hs q} (r:PS F X hs q):=(PS.r 11 [] [] (e124 (l0_0:=(l0_3+1)) (a0:=a0.f3) (a1:=a1) (by omega) (by with_reducible assumption)) r)
  by_cases h0:(decide ((m124 a0.f3 a1) < 0))=true
  · try simp only[if_pos h0]
    exact cp (by kernel_rfl) (P0 (.f h0 (.h 18 (.b true) (.r 20 [] [] (e52 (a0:=4)) (pe 0 (pe (length (map d_si ([]))) (pe 0 (pe (length (map d_R ([]))) (pe 0 (pe (length (map d_si ([]))) (.f (pureR_si ([])) (.f (pureR_R ([])) (.f (pureR_si ([])) .nil)))))))))))))
  · try simp only[if_neg h0]
    have f2:0≤(m124 a0.f3 a1):=(by have q:=ix124 a0.f3 a1; simp only[decide_eq_true_eq,length_map] at*; omega)
    have f3:(map b_R a0.f3)[(toNat (m124 a0.f3 a1))]?=some (b_R (getD a0.f3 (toNat (m124 a0.f3 a1)) (K_R.mk 0 0 0 [] 0))):=(by rw[getElem?_map,getD_at a0.f3 (toNat (m124 a0.f3 a1)) (K_R.mk 0 0 0 [] 0) (by first | exact True.intro | with_reducible rfl | with_reducible assumption | omega |(rw[cp103]; omega) |(rw[cp103]; assumption) |(simp only[cp103,length_map]; have q:=ix124 a0.f3 a1; simp only[decide_eq_true_eq] at*; omega) |(have q:=ix124 a0.f3 a1; simp only[decide_eq_true_eq,length_map] at*; omega) |(unfold m124;(repeat' split)<;>simp_all<;>omega) |(simp only[decide_eq_true_eq] at*; omega) |(simp only[length_map]; omega) |(simp; omega) |(simp[take_of_length_le]; done) | assumption | trivial |(simp[*,byteRows_eq,ints_y]; done))]; rfl)
    have P1 {hs q} (r:PS F X hs q):=(P0 (.f (nt h0) (.f f2 (.f f3 (.h 18 (.b false) (.h 26 (.row (b_R (getD a0.f3 (toNat (m124 a0.f3 a1)) (K_R.mk 0 0 0 [] 0)))) r))))))
    by_cases h1:(((getD a0.f3 (toNat (m124 a0.f3 a1)) (K_R.mk 0 0 0 [] 0)).f4)==3)=true
    · try simp only[if_pos h1]
      exact cp (by kernel_rfl) (P1 (.f h1 (.h 39 (.b true) (.r 41 [] [] (e52 (a0:=9)) (pe 0 (pe (length (map d_si ([]))) (pe 0 (pe (length (map d_R ([]))) (pe 0 (pe (length (map d_si ([]))) (.f (pureR_si ([])) (.f (pureR_R ([])) (.f (pureR_si ([])) .nil)))))))))))))
    · try simp only[if_neg h1]
      have P2 {hs q} (r:PS F X hs q):=(P1 (.f (nt h1) (.h 39 (.b false) (.r 43 [] [] (e103 (l0_2:=(l0_2+1)) (l0_3:=(l0_3+1)) (l0_4:=(l0_4+1)) (a0:=a0) (by with_reducible assumption) (by with_reducible assumption) (by with_reducible assumption) (by with_reducible assumption) (by with_reducible assumption)) (pe 0 (pe (length (map d_si ((m103 a0).f2))) (pe 0 (pe (length (map d_R ((m103 a0).f3))) (pe 0 (pe (length (map d_si ((m103 a0).f4))) r))))))))))
      by_cases h2:(((getD a0.f3 (toNat (m124 a0.f3 a1)) (K_R.mk 0 0 0 [] 0)).f4)==2)=true
      · try simp only[if_pos h2]
        have P3 {hs q} (r:PS F X hs q):=(P2 (.f h2 (.f trivial (.h 58 (.b true) (.r 82 [] [] (e101 (a0:=(wrap .i64 (a0.f7+((getD a0.f3 (toNat (m124 a0.f3 a1)) (K_R.mk 0 0 0 [] 0)).f1))))) r)))))
        by_cases h3:(!(m105 (wrap .i64 (a0.f7+((getD a0.f3 (toNat (m124 a0.f3 a1)) (K_R.mk 0 0 0 [] 0)).f1))) 0 1000000))=true
        · try simp only[if_pos h3]
          exact cp (by kernel_rfl) (P3 (.f h3 (.h 85 (.b true) (.r 87 [] [] (e52 (a0:=7)) (pe 0 (pe (length (map d_si ([]))) (pe 0 (pe (length (map d_R ([]))) (pe 0 (pe (length (map d_si ([]))) (.f (pureR_si ([])) (.f (pureR_R ([])) (.f (pureR_si ([])) .nil)))))))))))))
        · try simp only[if_neg h3]
          have f16:0+(length (map d_R ((m103 a0).f3)))≤(length (map d_R ((m103 a0).f3))):=(by omega)
          have f17:0≤(m124 a0.f3 a1)∧(m124 a0.f3 a1) <((length (map d_R ((m103 a0).f3))):Int):=(by simp only[cp103,length_map]; have q:=ix124 a0.f3 a1; simp only[decide_eq_true_eq] at*; omega)
          have f18:(map d_R ((m103 a0).f3))[(0+(toNat (m124 a0.f3 a1)))]?=some (d_R (getD ((m103 a0).f3) (toNat (m124 a0.f3 a1)) (K_R.mk 0 0 0 [] 0))):=(by rw[Nat.zero_add,getElem?_map,getD_at ((m103 a0).f3) (toNat (m124 a0.f3 a1)) (K_R.mk 0 0 0 [] 0) (by first | exact True.intro | with_reducible rfl | with_reducible assumption | omega |(rw[cp103]; omega) |(rw[cp103]; assumption) |(simp only[cp103,length_map]; have q:=ix124 a0.f3 a1; simp only[decide_eq_true_eq] at*; omega) |(have q:=ix124 a0.f3 a1; simp only[decide_eq_true_eq,length_map] at*; omega) |(unfold m124 m103;(repeat' split)<;>simp_all<;>omega) |(simp only[decide_eq_true_eq] at*; omega) |(simp only[length_map]; omega) |(simp; omega) |(simp[take_of_length_le]; done) | assumption | trivial |(simp[*,byteRows_eq,ints_y]; done))]; rfl)
          have f19:([[(.val (.int .i64 ((m103 a0).f0))),(.val (.int .i64 ((m103 a0).f1))),(.own 2 (map d_si ((m103 a0).f2))),(.own 5 (set (map d_R ((m103 a0).f3)) (0+(toNat (m124 a0.f3 a1))) [(.val (.int .i64 ((getD ((m103 a0).f3) (toNat (m124 a0.f3 a1)) (K_R.mk 0 0 0 [] 0)).f0))),(.val (.int .i64 ((getD ((m103 a0).f3) (toNat (m124 a0.f3 a1)) (K_R.mk 0 0 0 [] 0)).f1))),(.val (.int .i64 ((getD ((m103 a0).f3) (toNat (m124 a0.f3 a1)) (K_R.mk 0 0 0 [] 0)).f2))),(.own 2 (map d_si ((getD ((m103 a0).f3) (toNat (m124 a0.f3 a1)) (K_R.mk 0 0 0 [] 0)).f3))),(.val (.int .i64 3))])),(.own 2 (map d_si ((m103 a0).f4))),(.val (.int .i64 ((m103 a0).f5))),(.val (.int .i64 ((m103 a0).f6))),(.val (.int .i64 (wrap .i64 (a0.f7+((getD a0.f3 (toNat (m124 a0.f3 a1)) (K_R.mk 0 0 0 [] 0)).f1)))))]]:List (List D))=[[(.val (.int .i64 ((m103 a0).f0))),(.val (.int .i64 ((m103 a0).f1))),(.own 2 (map d_si ((m103 a0).f2))),(.own 5 (map d_R (set ((m103 a0).f3) (toNat (m124 a0.f3 a1)) (K_R.mk ((getD ((m103 a0).f3) (toNat (m124 a0.f3 a1)) (K_R.mk 0 0 0 [] 0)).f0) ((getD ((m103 a0).f3) (toNat (m124 a0.f3 a1)) (K_R.mk 0 0 0 [] 0)).f1) ((getD ((m103 a0).f3) (toNat (m124 a0.f3 a1)) (K_R.mk 0 0 0 [] 0)).f2) ((getD ((m103 a0).f3) (toNat (m124 a0.f3 a1)) (K_R.mk 0 0 0 [] 0)).f3) 3)))),(.own 2 (map d_si ((m103 a0).f4))),(.val (.int .i64 ((m103 a0).f5))),(.val (.int .i64 ((m103 a0).f6))),(.val (.int .i64 (wrap .i64 (a0.f7+((getD a0.f3 (toNat (m124 a0.f3 a1)) (K_R.mk 0 0 0 [] 0)).f1)))))]]:=(by simp[byteRows_eq,ints_y,take_of_length_le,d_y,d_LyE,d_b,d_si,d_R,d_B,d_s,d_i,d_C,d_ii,d_LyEi,d_LiE,d_LsiE,d_iLsiE,d_Q,fromBR_y,fromBR_b,fromBR_si,fromBR_s,fromBR_i,fromBR_ii]; done)
          exact cp (by kernel_rfl) (P3 (.f (nt h3) (.f f16 (.f f17 (.f f18 (.f f19 (pe 0 (pe (length (map d_si ((m103 a0).f2))) (pe 0 (pe (length (map d_R (set ((m103 a0).f3) (toNat (m124 a0.f3 a1)) (K_R.mk ((getD ((m103 a0).f3) (toNat (m124 a0.f3 a1)) (K_R.mk 0 0 0 [] 0)).f0) ((getD ((m103 a0).f3) (toNat (m124 a0.f3 a1)) (K_R.mk 0 0 0 [] 0)).f1) ((getD ((m103 a0).f3) (toNat (m124 a0.f3 a1)) (K_R.mk 0 0 0 [] 0)).f2) ((getD ((m103 a0).f3) (toNat (m124 a0.f3 a1)) (K_R.mk 0 0 0 [] 0)).f3) 3)))) (pe 0 (pe (length (map d_si ((m103 a0).f4))) (.f (pureR_si ((m103 a0).f2)) (.f (pureR_R (set ((m103 a0).f3) (toNat (m124 a0.f3 a1)) (K_R.mk ((getD ((m103 a0).f3) (toNat (m124 a0.f3 a1)) (K_R.mk 0 0 0 [] 0)).f0) ((getD ((m103 a0).f3) (toNat (m124 a0.f3 a1)) (K_R.mk 0 0 0 [] 0)).f1) ((getD ((m103 a0).f3) (toNat (m124 a0.f3 a1)) (K_R.mk 0 0 0 [] 0)).f2) ((getD ((m103 a0).f3) (toNat (m124 a0.f3 a1)) (K_R.mk 0 0 0 [] 0)).f3) 3))) (.f (pureR_si ((m103 a0).f4)) (.h 85 (.b false) (.h 97 (.rowD (d_R (getD ((m103 a0).f3) (toNat (m124 a0.f3 a1)) (K_R.mk 0 0 0 [] 0)))) (.h 98 (.norm (7,0,0) [[(.val (.int .i64 ((m103 a0).f0))),(.val (.int .i64 ((m103 a0).f1))),(.own 2 (map d_si ((m103 a0).f2))),(.own 5 (map d_R (set ((m103 a0).f3) (toNat (m124 a0.f3 a1)) (K_R.mk ((getD ((m103 a0).f3) (toNat (m124 a0.f3 a1)) (K_R.mk 0 0 0 [] 0)).f0) ((getD ((m103 a0).f3) (toNat (m124 a0.f3 a1)) (K_R.mk 0 0 0 [] 0)).f1) ((getD ((m103 a0).f3) (toNat (m124 a0.f3 a1)) (K_R.mk 0 0 0 [] 0)).f2) ((getD ((m103 a0).f3) (toNat (m124 a0.f3 a1)) (K_R.mk 0 0 0 [] 0)).f3) 3)))),(.own 2 (map d_si ((m103 a0).f4))),(.val (.int .i64 ((m103 a0).f5))),(.val (.int .i64 ((m103 a0).f6))),(.val (.int .i64 (wrap .i64 (a0.f7+((getD a0.f3 (toNat (m124 a0.f3 a1)) (K_R.mk 0 0 0 [] 0)).f1)))))]]) .nil))))))))))))))))))
      · try simp only[if_neg h2]
        have P3 {hs q} (r:PS F X hs q):=(P2 (.f (nt h2) (.h 58 (.b false) (.r 64 [] [] (e101 (a0:=((m103 a0).f7))) r))))
        by_cases h3:(!(m105 ((m103 a0).f7) 0 1000000))=true
        · try simp only[if_pos h3]
          exact cp (by kernel_rfl) (P3 (.f h3 (.h 67 (.b true) (.r 69 [] [] (e52 (a0:=7)) (pe 0 (pe (length (map d_si ([]))) (pe 0 (pe (length (map d_R ([]))) (pe 0 (pe (length (map d_si ([]))) (.f (pureR_si ([])) (.f (pureR_R ([])) (.f (pureR_si ([])) .nil)))))))))))))
        · try simp only[if_neg h3]
          have f15:0+(length (map d_R ((m103 a0).f3)))≤(length (map d_R ((m103 a0).f3))):=(by omega)
          have f16:0≤(m124 a0.f3 a1)∧(m124 a0.f3 a1) <((length (map d_R ((m103 a0).f3))):Int):=(by simp only[cp103,length_map]; have q:=ix124 a0.f3 a1; simp only[decide_eq_true_eq] at*; omega)
          have f17:(map d_R ((m103 a0).f3))[(0+(toNat (m124 a0.f3 a1)))]?=some (d_R (getD ((m103 a0).f3) (toNat (m124 a0.f3 a1)) (K_R.mk 0 0 0 [] 0))):=(by rw[Nat.zero_add,getElem?_map,getD_at ((m103 a0).f3) (toNat (m124 a0.f3 a1)) (K_R.mk 0 0 0 [] 0) (by first | exact True.intro | with_reducible rfl | with_reducible assumption | omega |(rw[cp103]; omega) |(rw[cp103]; assumption) |(simp only[cp103,length_map]; have q:=ix124 a0.f3 a1; simp only[decide_eq_true_eq] at*; omega) |(have q:=ix124 a0.f3 a1; simp only[decide_eq_true_eq,length_map] at*; omega) |(unfold m124 m103;(repeat' split)<;>simp_all<;>omega) |(simp only[decide_eq_true_eq] at*; omega) |(simp only[length_map]; omega) |(simp; omega) |(simp[take_of_length_le]; done) | assumption | trivial |(simp[*,byteRows_eq,ints_y]; done))]; rfl)
          have f18:([[(.val (.int .i64 ((m103 a0).f0))),(.val (.int .i64 ((m103 a0).f1))),(.own 2 (map d_si ((m103 a0).f2))),(.own 5 (set (map d_R ((m103 a0).f3)) (0+(toNat (m124 a0.f3 a1))) [(.val (.int .i64 ((getD ((m103 a0).f3) (toNat (m124 a0.f3 a1)) (K_R.mk 0 0 0 [] 0)).f0))),(.val (.int .i64 ((getD ((m103 a0).f3) (toNat (m124 a0.f3 a1)) (K_R.mk 0 0 0 [] 0)).f1))),(.val (.int .i64 ((getD ((m103 a0).f3) (toNat (m124 a0.f3 a1)) (K_R.mk 0 0 0 [] 0)).f2))),(.own 2 (map d_si ((getD ((m103 a0).f3) (toNat (m124 a0.f3 a1)) (K_R.mk 0 0 0 [] 0)).f3))),(.val (.int .i64 3))])),(.own 2 (map d_si ((m103 a0).f4))),(.val (.int .i64 ((m103 a0).f5))),(.val (.int .i64 ((m103 a0).f6))),(.val (.int .i64 ((m103 a0).f7)))]]:List (List D))=[[(.val (.int .i64 ((m103 a0).f0))),(.val (.int .i64 ((m103 a0).f1))),(.own 2 (map d_si ((m103 a0).f2))),(.own 5 (map d_R (set ((m103 a0).f3) (toNat (m124 a0.f3 a1)) (K_R.mk ((getD ((m103 a0).f3) (toNat (m124 a0.f3 a1)) (K_R.mk 0 0 0 [] 0)).f0) ((getD ((m103 a0).f3) (toNat (m124 a0.f3 a1)) (K_R.mk 0 0 0 [] 0)).f1) ((getD ((m103 a0).f3) (toNat (m124 a0.f3 a1)) (K_R.mk 0 0 0 [] 0)).f2) ((getD ((m103 a0).f3) (toNat (m124 a0.f3 a1)) (K_R.mk 0 0 0 [] 0)).f3) 3)))),(.own 2 (map d_si ((m103 a0).f4))),(.val (.int .i64 ((m103 a0).f5))),(.val (.int .i64 ((m103 a0).f6))),(.val (.int .i64 ((m103 a0).f7)))]]:=(by simp[byteRows_eq,ints_y,take_of_length_le,d_y,d_LyE,d_b,d_si,d_R,d_B,d_s,d_i,d_C,d_ii,d_LyEi,d_LiE,d_LsiE,d_iLsiE,d_Q,fromBR_y,fromBR_b,fromBR_si,fromBR_s,fromBR_i,fromBR_ii]; done)
          exact cp (by kernel_rfl) (P3 (.f (nt h3) (.f f15 (.f f16 (.f f17 (.f f18 (pe 0 (pe (length (map d_si ((m103 a0).f2))) (pe 0 (pe (length (map d_R (set ((m103 a0).f3) (toNat (m124 a0.f3 a1)) (K_R.mk ((getD ((m103 a0).f3) (toNat (m124 a0.f3 a1)) (K_R.mk 0 0 0 [] 0)).f0) ((getD ((m103 a0).f3) (toNat (m124 a0.f3 a1)) (K_R.mk 0 0 0 [] 0)).f1) ((getD ((m103 a0).f3) (toNat (m124 a0.f3 a1)) (K_R.mk 0 0 0 [] 0)).f2) ((getD ((m103 a0).f3) (toNat (m124 a0.f3 a1)) (K_R.mk 0 0 0 [] 0)).f3) 3)))) (pe 0 (pe (length (map d_si ((m103 a0).f4))) (.f (pureR_si ((m103 a0).f2)) (.f (pureR_R (set ((m103 a0).f3) (toNat (m124 a0.f3 a1)) (K_R.mk ((getD ((m103 a0).f3) (toNat (m124 a0.f3 a1)) (K_R.mk 0 0 0 [] 0)).f0) ((getD ((m103 a0).f3) (toNat (m124 a0.f3 a1)) (K_R.mk 0 0 0 [] 0)).f1) ((getD ((m103 a0).f3) (toNat (m124 a0.f3 a1)) (K_R.mk 0 0 0 [] 0)).f2) ((getD ((m103 a0).f3) (toNat (m124 a0.f3 a1)) (K_R.mk 0 0 0 [] 0)).f3) 3))) (.f (pureR_si ((m103 a0).f4)) (.h 67 (.b false) (.h 79 (.rowD (d_R (getD ((m103 a0).f3) (toNat (m124 a0.f3 a1)) (K_R.mk 0 0 0 [] 0)))) (.h 80 (.norm (7,0,0) [[(.val (.int .i64 ((m103 a0).f0))),(.val (.int .i64 ((m103 a0).f1))),(.own 2 (map d_si ((m103 a0).f2))),(.own 5 (map d_R (set ((m103 a0).f3) (toNat (m124 a0.f3 a1)) (K_R.mk ((getD ((m103 a0).f3) (toNat (m124 a0.f3 a1)) (K_R.mk 0 0 0 [] 0)).f0) ((getD ((m103 a0).f3) (toNat (m124 a0.f3 a1)) (K_R.mk 0 0 0 [] 0)).f1) ((getD ((m103 a0).f3) (toNat (m124 a0.f3 a1)) (K_R.mk 0 0 0 [] 0)).f2) ((getD ((m103 a0).f3) (toNat (m124 a0.f3 a1)) (K_R.mk 0 0 0 [] 0)).f3) 3)))),(.own 2 (map d_si ((m103 a0).f4))),(.val (.int .i64 ((m103 a0).f5))),(.val (.int .i64 ((m103 a0).f6))),(.val (.int .i64 ((m103 a0).f7)))]]) .nil))))))))))))))))))
theorem loG {a:K_B} {i:Int} (h:GL a) (hc:¬((m144 a i).f0 !=0)=true):GL (K_B.mk (m144 a i).f2 (m144 a i).f3 (m144 a i).f4 (m144 a i).f5 (m144 a i).f6 (m144 a i).f7 (m144 a i).f8 (m144 a i).f9):=by
  obtain⟨h1,h2,h3,h4,h5⟩:=h
  generalize hr:m144 a i=r at hc⊢
  unfold m144 at hr
  simp only[cp103] at hr
  (repeat' split at hr)<;>subst hr<;>first
    |(exfalso; simp at hc; done)
    |exact⟨h1,h2,h3,gr_set h4 (gr_get h4 _),h5⟩
end Go.Proofs.YtihjlmgakpgkeaaDoor.Pays
