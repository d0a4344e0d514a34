/- What the functions compute. -/
import Derived.Test.YtihjlmgakpgkeaaGreatDoorELedgersC
import Derived.KernelRfl
namespace Go.Proofs.YtihjlmgakpgkeaaGreatDoor.Ledgers
open Go Go.Proofs.YtihjlmgakpgkeaaGreatDoor.V
set_option linter.unusedVariables false
set_option linter.unusedSimpArgs false
set_option maxRecDepth 20000
open Go.IntKind (wrap)
open Int (toNat)
open List (length_replicate length_map length_set length_append length_cons length_nil length_take length_drop take_of_length_le map_take map_drop map_set append_assoc getElem?_map map length take drop getD set)
attribute [local simp] strInts_len byteRows_len toBR_y fullR_y pureR_y lenB_y lenD_y fromBR_y copy_y toBR_LyE fullR_LyE pureR_LyE lenB_LyE lenD_LyE toBR_b fullR_b pureR_b lenB_b lenD_b fromBR_b copy_b toBR_si fullR_si pureR_si lenB_si lenD_si fromBR_si copy_si toBR_R fullR_R pureR_R lenB_R lenD_R toBR_B fullR_B pureR_B lenB_B lenD_B toBR_i fullR_i pureR_i lenB_i lenD_i fromBR_i copy_i toBR_C fullR_C pureR_C lenB_C lenD_C toBR_LyEi fullR_LyEi pureR_LyEi lenB_LyEi lenD_LyEi toBR_Q fullR_Q pureR_Q lenB_Q lenD_Q toBR_LiE fullR_LiE pureR_LiE lenB_LiE lenD_LiE toBR_LsiE fullR_LsiE pureR_LsiE lenB_LsiE lenD_LsiE toBR_s fullR_s pureR_s lenB_s lenD_s fromBR_s copy_s
def m82 (a0:ByteArray):Bool:=
  if(decide ((ByteArray.size a0:Int)≤12))=true then((trimB a0 (⟨#[97,98,99,100,101,102,103,104,105,106,107,108,109,110,111,112,113,114,115,116,117,118,119,120,121,122,65,66,67,68,69,70,71,72,73,74,75,76,77,78,79,80,81,82,83,84,85,86,87,88,89,90,48,49,50,51,52,53,54,55,56,57]⟩:ByteArray)).toList==(⟨#[]⟩:ByteArray).toList) else
  false
theorem e82 {a0:ByteArray}:Ev F X (.call 82 [(.one (.val (.string a0)))] [] [] [(.one (.val (.bool (m82 a0))))]):=by
  unfold m82
  by_cases h0:(decide ((ByteArray.size a0:Int)≤12))=true
  · try simp only[if_pos h0]
    have f2:Ev F X (.call 87 [(.one (.val (.string a0))),(.one (.val (.string (⟨#[97,98,99,100,101,102,103,104,105,106,107,108,109,110,111,112,113,114,115,116,117,118,119,120,121,122,65,66,67,68,69,70,71,72,73,74,75,76,77,78,79,80,81,82,83,84,85,86,87,88,89,90,48,49,50,51,52,53,54,55,56,57]⟩:ByteArray))))] [] [] [(.one (.val (.string (trimB a0 (⟨#[97,98,99,100,101,102,103,104,105,106,107,108,109,110,111,112,113,114,115,116,117,118,119,120,121,122,65,66,67,68,69,70,71,72,73,74,75,76,77,78,79,80,81,82,83,84,85,86,87,88,89,90,48,49,50,51,52,53,54,55,56,57]⟩:ByteArray)))))]):=(e87 (a0:=a0) (a1:=(⟨#[97,98,99,100,101,102,103,104,105,106,107,108,109,110,111,112,113,114,115,116,117,118,119,120,121,122,65,66,67,68,69,70,71,72,73,74,75,76,77,78,79,80,81,82,83,84,85,86,87,88,89,90,48,49,50,51,52,53,54,55,56,57]⟩:ByteArray)) yR (by decide) (by decide))
    exact cp ya (.f h0 (.f h0 (hT 10 (hT 12 (.r 13 [] [] f2 (.f h0 (.f h0 (hT 14 (hT 17 .nil)))))))))
  try simp only[if_neg h0]
  exact cp ya (N h0 (N h0 (N h0 (N h0 (U 10 (U 12 (U 14 (U 17 .nil))))))))
def m69 (a0:ByteArray):Bool:=
  if(!(a0.toList==(⟨#[]⟩:ByteArray).toList))=true then(m82 a0) else
  false
theorem e69 {a0:ByteArray}:Ev F X (.call 69 [(.one (.val (.string a0)))] [] [] [(.one (.val (.bool (m69 a0))))]):=by
  unfold m69
  by_cases h0:(!(a0.toList==(⟨#[]⟩:ByteArray).toList))=true
  · try simp only[if_pos h0]
    exact cp ya (.f h0 (.f h0 (hT 8 (hT 10 (.r 11 [] [] (e82 (a0:=a0)) (.f h0 (hT 13 .nil)))))))
  try simp only[if_neg h0]
  exact cp ya (N h0 (N h0 (N h0 (U 8 (U 10 (U 13 .nil))))))
inductive O39_0 where
  |k0 (w0:Int) (w1:Bool)
  |k1
  |k2
def r39_0 (a0:(List K_si)):List K_si→Int→O39_0
  |x0::y0,i=>
    if(!(m69 x0.f0))=true then(O39_0.k1) else
    if(!(m57 x0.f1 1 9999))=true then(O39_0.k2) else
      (r39_0 a0 y0 (i+1))
  |[],i=>(O39_0.k0 i (decide (i <((length (map b_si a0)):Int))))
def h39_0 (l0_0:Nat) (a0:(List K_si)) (i:Int) :St:=⟨[(8,(.one (.bor l0_0 (map b_si a0)))),(9,(.one (.val (.int .i64 ((length (map b_si a0)):Int))))),(10,(.one (.val (.int .i64 i))))],[]⟩
def ex39_0:O39_0→VX.Exit
  |.k0 _ _=>(.exit 0)
  |.k1=>.ret
  |.k2=>.ret
def fin39_0 (l0_0:Nat) (a0:(List K_si)):O39_0→St
  |.k0 w0 w1=>⟨[(8,(.one (.bor l0_0 (map b_si a0)))),(9,(.one (.val (.int .i64 ((length (map b_si a0)):Int))))),(10,(.one (.val (.int .i64 w0)))),(11,(.one (.val (.bool w1))))],[]⟩
  |.k1=>⟨[(2,(.one (.val (.int .i64 5))))],[]⟩
  |.k2=>⟨[(2,(.one (.val (.int .i64 3))))],[]⟩
theorem t39_0 {l0_0:Nat} {a0:(List K_si)} (hy0:length a0*24≤140737488351232):∀(y0:List K_si) (p:List K_si),p++y0=a0→Ev F X (.code l39_0 (h39_0 l0_0 a0 (length p:Int)) (ex39_0 (r39_0 a0 y0 (length p:Int))) (fin39_0 l0_0 a0 (r39_0 a0 y0 (length p:Int))))
  |[],p,hp0=>by
    have hc:¬(decide ((length p:Int) <((length (map b_si a0)):Int)))=true:=by
      rw[← hp0]; simp only[LN,decide_eq_true_eq]; omega
    have st:=ch b39_0 (h39_0 l0_0 a0 (length p:Int)) ⟨[(8,(.one (.bor l0_0 (map b_si a0)))),(9,(.oi ((length (map b_si a0)):Int))),(10,(.oi (length p:Int))),(11,(.one (.val (.bool (decide ((length p:Int) <((length (map b_si a0)):Int)))))))],[]⟩ (.exit 0) 3 (by kernel_rfl) (.f (nt hc) (U 2 .nil))
    rw[show (⟨[(8,(.one (.bor l0_0 (map b_si a0)))),(9,(.oi ((length (map b_si a0)):Int))),(10,(.oi (length p:Int))),(11,(.one (.val (.bool (decide ((length p:Int) <((length (map b_si a0)):Int)))))))],[]⟩:St)=fin39_0 l0_0 a0 (.k0 (length p:Int) (decide ((length p:Int) <((length (map b_si a0)):Int)))) from(by rfl)] at st
    exact .loopX st (show ((.exit 0):VX.Exit)≠.normal from by simp)
  |x0::y0,p,hp0=>by
    have hc:(decide ((length p:Int) <((length (map b_si a0)):Int)))=true:=by
      rw[← hp0]; simp only[LN,decide_eq_true_eq]; omega
    have Hx0:(a0)[toNat (length p:Int)]?=some x0:=by
      rw[← hp0,Int.toNat_natCast]; simp
    have hlen:length (a0)=length p+length y0+1:=by rw[← hp0]; simp; omega
    have hw:wrap .i64 ((length p:Int)+1)=(length p:Int)+1:=wrap64 (by omega)
    simp only[r39_0]
    have f1:0≤(length p:Int):=(by omega)
    have P1 {hs q} (r:PS F X hs q):=(PS.f hc (.f f1 (.f (mp_ b_si Hx0) (hT 2 (.h 4 (.row (b_si x0)) (.r 16 [] [] (e69 (a0:=x0.f0)) r))))))
    by_cases h_1:(!(m69 x0.f0))=true
    · try simp only[if_pos h_1]
      have st:=ch b39_0 (h39_0 l0_0 a0 (length p:Int)) ⟨[(2,(.oi 5))],[]⟩ .ret 24 (by kernel_rfl) (P1 (.f h_1 (hT 21 .nil)))
      rw[show (⟨[(2,(.oi 5))],[]⟩:St)=fin39_0 l0_0 a0 (.k1) from(by rfl)] at st
      exact .loopX st (show (.ret:VX.Exit)≠.normal from by simp)
    try simp only[if_neg h_1]
    have P2 {hs q} (r:PS F X hs q):=(P1 (.f (nt h_1) (U 21 (.r 27 [] [] (e57 (a0:=x0.f1) (a1:=1) (a2:=9999)) r))))
    by_cases h_2:(!(m57 x0.f1 1 9999))=true
    · try simp only[if_pos h_2]
      have st:=ch b39_0 (h39_0 l0_0 a0 (length p:Int)) ⟨[(2,(.oi 3))],[]⟩ .ret 35 (by kernel_rfl) (P2 (.f h_2 (hT 32 .nil)))
      rw[show (⟨[(2,(.oi 3))],[]⟩:St)=fin39_0 l0_0 a0 (.k2) from(by rfl)] at st
      exact .loopX st (show (.ret:VX.Exit)≠.normal from by simp)
    try simp only[if_neg h_2]
    have st:=ch b39_0 (h39_0 l0_0 a0 (length p:Int)) ⟨[(8,(.one (.bor l0_0 (map b_si a0)))),(9,(.oi ((length (map b_si a0)):Int))),(10,(.oi (wrap .i64 ((length p:Int)+1))))],[]⟩ .normal 37 (by kernel_rfl) (P2 (.f (nt h_2) (.f trivial (U 32 .nil))))
    have ih:=t39_0 (l0_0:=l0_0) (a0:=a0) hy0 y0 (p++ [x0]) (by rw[append_assoc]; exact hp0)
    rw[show ((p++ [x0]).length:Int)=(p.length:Int)+1 from by simp] at ih
    rw[show (⟨[(8,(.one (.bor l0_0 (map b_si a0)))),(9,(.oi ((length (map b_si a0)):Int))),(10,(.oi (wrap .i64 ((length p:Int)+1))))],[]⟩:St)=h39_0 l0_0 a0 ((length p:Int)+1)  from(by unfold h39_0; simp only[hw]; done)] at st
    exact .loopN st ih
def m39 (a0:(List K_si)):Int:=
  if(decide (((length (map b_si a0)):Int) > 12))=true then 2 else
  (match r39_0 a0 a0 0 with | .k0 w0_1 w1_1=>0 | .k1=>5 | .k2=>3)
theorem e39 {l0_0:Nat} {a0:(List K_si)} (hy0:length a0*24≤140737488351232):Ev F X (.call 39 [(.one (.bor l0_0 (map b_si a0)))] [] [] [(.one (.val (.int .i64 (m39 a0))))]):=by
  unfold m39
  by_cases h0:(decide (((length (map b_si a0)):Int) > 12))=true
  · try simp only[if_pos h0]
    exact cp ya (.f h0 (hT 8 .nil))
  try simp only[if_neg h0]
  cases h1:r39_0 a0 a0 0 with
  |k0 w0_1 w1_1=>
    try dsimp only
    have f1:(⟨[(8,(.one (.bor l0_0 (map b_si a0)))),(9,(.oi ((length (map b_si a0)):Int))),(10,(.oi 0))],[]⟩:St)=h39_0 l0_0 a0 0 :=yu
    exact cp ya (N h0 (.f f1 (.f (ev_ (e:=ex39_0) (g:=(fin39_0 l0_0 a0)) h1 (t39_0 (l0_0:=l0_0) (a0:=a0) (by assumption) a0 []  rfl)) (U 8 (.h 15 (.loop (h39_0 l0_0 a0 0) (.exit 0) ⟨[(8,(.one (.bor l0_0 (map b_si a0)))),(9,(.oi ((length (map b_si a0)):Int))),(10,(.oi w0_1)),(11,(.one (.val (.bool w1_1))))],[]⟩) .nil)))))
  |k1=>
    try dsimp only
    have f1:(⟨[(8,(.one (.bor l0_0 (map b_si a0)))),(9,(.oi ((length (map b_si a0)):Int))),(10,(.oi 0))],[]⟩:St)=h39_0 l0_0 a0 0 :=yu
    exact cp ya (N h0 (.f f1 (.f (ev_ (e:=ex39_0) (g:=(fin39_0 l0_0 a0)) h1 (t39_0 (l0_0:=l0_0) (a0:=a0) (by assumption) a0 []  rfl)) (U 8 (.h 15 (.loop (h39_0 l0_0 a0 0) .ret ⟨[(2,(.oi 5))],[]⟩) .nil)))))
  |k2=>
    try dsimp only
    have f1:(⟨[(8,(.one (.bor l0_0 (map b_si a0)))),(9,(.oi ((length (map b_si a0)):Int))),(10,(.oi 0))],[]⟩:St)=h39_0 l0_0 a0 0 :=yu
    exact cp ya (N h0 (.f f1 (.f (ev_ (e:=ex39_0) (g:=(fin39_0 l0_0 a0)) h1 (t39_0 (l0_0:=l0_0) (a0:=a0) (by assumption) a0 []  rfl)) (U 8 (.h 15 (.loop (h39_0 l0_0 a0 0) .ret ⟨[(2,(.oi 3))],[]⟩) .nil)))))
theorem len12_39 (a:List K_si) (h:¬((m39 a) !=0)=true):length a≤12:=by
  unfold m39 at h
  split at h
  · simp at h
  rename_i h2
  simp only[decide_eq_true_eq,length_map] at h2
  omega
theorem wok_r39 (a:List K_si):∀(l:List K_si) (i:Int),(match r39_0 a l i with | .k0 .. =>(0:Int) | .k1=>5 | .k2=>3)=0→∀z∈l,1≤z.f1∧z.f1≤9999
  |[],i,_,x,hx=>by cases hx
  |y::l,i,h,x,hx=>by
    simp only[r39_0] at h
    by_cases h1:(!(m69 y.f0))=true
    · simp[h1] at h
    by_cases h2:(!(m57 y.f1 1 9999))=true
    · simp[h1,h2] at h
    simp only[if_neg h1,if_neg h2] at h
    rcases List.mem_cons.1 hx with rfl | hx
    · exact jn57 h2
    exact wok_r39 a l (i+1) h x hx
theorem wok39 (a:List K_si) (h:¬((m39 a) !=0)=true):∀z∈a,1≤z.f1∧z.f1≤9999:=by
  have h2:m39 a=0:=by simpa using h
  unfold m39 at h2
  split at h2
  · cases h2
  exact wok_r39 a a 0 h2
theorem e1005400 {l0_3:Nat} {a0:K_R} {l101000:Nat} {a101001:Int}:Ev F X (.call 54 [(.agg (k_R l0_3 a0)),(.bptr l101000 [(.val (.int .i64 a101001))])] [] [] [(.one (.val (.bool (a0.f0==a101001))))]):=by
  exact cp ya .nil
inductive O1005300_0 where
  |k0 (w0:Int) (w1:Bool)
  |k1 (w0:Int)
def r1005300_0 (a0:(List K_R)) (a2001:Int):List K_R→Int→O1005300_0
  |x0::y0,i=>
    if(x0.f0==a2001)=true then(O1005300_0.k1 i) else
    (r1005300_0 a0 a2001 y0 (i+1))
  |[],i=>(O1005300_0.k0 i (decide (i <((length (map b_R a0)):Int))))
def h1005300_0 (l0_0:Nat) (l2000:Nat) (a0:(List K_R)) (a2001:Int) (i:Int) :St:=⟨[(0,(.one (.bor l0_0 (map b_R a0)))),(1,(.clo 54 [] [(.bptr l2000 [(.val (.int .i64 a2001))])])),(7,(.one (.val (.int .i64 ((length (map b_R a0)):Int))))),(8,(.one (.val (.int .i64 i))))],[]⟩
def ex1005300_0:O1005300_0→VX.Exit
  |.k0 _ _=>(.exit 0)
  |.k1 _=>.ret
def fin1005300_0 (l0_0:Nat) (l2000:Nat) (a0:(List K_R)) (a2001:Int):O1005300_0→St
  |.k0 w0 w1=>⟨[(0,(.one (.bor l0_0 (map b_R a0)))),(1,(.clo 54 [] [(.bptr l2000 [(.val (.int .i64 a2001))])])),(7,(.one (.val (.int .i64 ((length (map b_R a0)):Int))))),(8,(.one (.val (.int .i64 w0)))),(9,(.one (.val (.bool w1))))],[]⟩
  |.k1 w0=>⟨[(4,(.one (.val (.int .i64 w0))))],[]⟩
theorem t1005300_0 {l0_0:Nat} {l2000:Nat} {a0:(List K_R)} {a2001:Int} (hy0:length a0*56≤140737488351232) (hy1:∀z∈a0,ok_R z):∀(y0:List K_R) (p:List K_R),p++y0=a0→Ev F X (.code l53_0 (h1005300_0 l0_0 l2000 a0 a2001 (length p:Int)) (ex1005300_0 (r1005300_0 a0 a2001 y0 (length p:Int))) (fin1005300_0 l0_0 l2000 a0 a2001 (r1005300_0 a0 a2001 y0 (length p:Int))))
  |[],p,hp0=>by
    have hc:¬(decide ((length p:Int) <((length (map b_R a0)):Int)))=true:=by
      rw[← hp0]; simp only[LN,decide_eq_true_eq]; omega
    have st:=ch b53_0 (h1005300_0 l0_0 l2000 a0 a2001 (length p:Int)) ⟨[(0,(.one (.bor l0_0 (map b_R a0)))),(1,(.clo 54 [] [(.bptr l2000 [(.i a2001)])])),(7,(.oi ((length (map b_R a0)):Int))),(8,(.oi (length p:Int))),(9,(.one (.val (.bool (decide ((length p:Int) <((length (map b_R a0)):Int)))))))],[]⟩ (.exit 0) 3 (by kernel_rfl) (.f (nt hc) (U 2 .nil))
    rw[show (⟨[(0,(.one (.bor l0_0 (map b_R a0)))),(1,(.clo 54 [] [(.bptr l2000 [(.i a2001)])])),(7,(.oi ((length (map b_R a0)):Int))),(8,(.oi (length p:Int))),(9,(.one (.val (.bool (decide ((length p:Int) <((length (map b_R a0)):Int)))))))],[]⟩:St)=fin1005300_0 l0_0 l2000 a0 a2001 (.k0 (length p:Int) (decide ((length p:Int) <((length (map b_R a0)):Int)))) from(by rfl)] at st
    exact .loopX st (show ((.exit 0):VX.Exit)≠.normal from by simp)
  |x0::y0,p,hp0=>by
    have hc:(decide ((length p:Int) <((length (map b_R a0)):Int)))=true:=by
      rw[← hp0]; simp only[LN,decide_eq_true_eq]; omega
    have Hx0:(a0)[toNat (length p:Int)]?=some x0:=by
      rw[← hp0,Int.toNat_natCast]; simp
    have Mx0_0:=hy1 x0 (List.mem_of_getElem? Hx0)
    have hlen:length (a0)=length p+length y0+1:=by rw[← hp0]; simp; omega
    have hw:wrap .i64 ((length p:Int)+1)=(length p:Int)+1:=wrap64 (by omega)
    simp only[r1005300_0]
    have f1:0≤(length p:Int):=(by omega)
    have P1 {hs q} (r:PS F X hs q):=(PS.f hc (.f f1 (.f (mp_ b_R Hx0) (hT 2 (.h 14 (.row (b_R x0)) (.r 18 [] [] (e1005400 (l0_3:=(l0_0+1)) (l101000:=(l2000+1)) (a0:=x0) (a101001:=a2001)) r))))))
    by_cases h_1:(x0.f0==a2001)=true
    · try simp only[if_pos h_1]
      have st:=ch b53_0 (h1005300_0 l0_0 l2000 a0 a2001 (length p:Int)) ⟨[(4,(.oi (length p:Int)))],[]⟩ .ret 24 (by kernel_rfl) (P1 (.f h_1 (hT 19 .nil)))
      rw[show (⟨[(4,(.oi (length p:Int)))],[]⟩:St)=fin1005300_0 l0_0 l2000 a0 a2001 (.k1 (length p:Int)) from(by rfl)] at st
      exact .loopX st (show (.ret:VX.Exit)≠.normal from by simp)
    try simp only[if_neg h_1]
    have st:=ch b53_0 (h1005300_0 l0_0 l2000 a0 a2001 (length p:Int)) ⟨[(0,(.one (.bor l0_0 (map b_R a0)))),(1,(.clo 54 [] [(.bptr l2000 [(.i a2001)])])),(7,(.oi ((length (map b_R a0)):Int))),(8,(.oi (wrap .i64 ((length p:Int)+1))))],[]⟩ .normal 24 (by kernel_rfl) (P1 (.f (nt h_1) (.f trivial (U 19 .nil))))
    have ih:=t1005300_0 (l0_0:=l0_0) (l2000:=l2000) (a0:=a0) (a2001:=a2001) hy0 hy1 y0 (p++ [x0]) (by rw[append_assoc]; exact hp0)
    rw[show ((p++ [x0]).length:Int)=(p.length:Int)+1 from by simp] at ih
    rw[show (⟨[(0,(.one (.bor l0_0 (map b_R a0)))),(1,(.clo 54 [] [(.bptr l2000 [(.i a2001)])])),(7,(.oi ((length (map b_R a0)):Int))),(8,(.oi (wrap .i64 ((length p:Int)+1))))],[]⟩:St)=h1005300_0 l0_0 l2000 a0 a2001 ((length p:Int)+1)  from(by unfold h1005300_0; simp only[hw]; done)] at st
    exact .loopN st ih
def m1005300 (a0:(List K_R)) (a2001:Int):Int:=
  (match r1005300_0 a0 a2001 a0 0 with | .k0 w0_0 w1_0=>(-1) | .k1 w0_0=>w0_0)
theorem e1005300 {l0_0:Nat} {a0:(List K_R)} {l2000:Nat} {a2001:Int} (hy0:length a0*56≤140737488351232) (hy1:∀z∈a0,ok_R z):Ev F X (.call 53 [(.one (.bor l0_0 (map b_R a0))),(.clo 54 [] [(.bptr l2000 [(.val (.int .i64 a2001))])])] [] [] [(.one (.val (.int .i64 (m1005300 a0 a2001))))]):=by
  unfold m1005300
  cases h0:r1005300_0 a0 a2001 a0 0 with
  |k0 w0_0 w1_0=>
    try dsimp only
    have f0:(⟨[(0,(.one (.bor l0_0 (map b_R a0)))),(1,(.clo 54 [] [(.bptr l2000 [(.i a2001)])])),(7,(.oi ((length (map b_R a0)):Int))),(8,(.oi 0))],[]⟩:St)=h1005300_0 l0_0 l2000 a0 a2001 0 :=yu
    exact cp ya (.f f0 (.f (ev_ (e:=ex1005300_0) (g:=(fin1005300_0 l0_0 l2000 a0 a2001)) h0 (t1005300_0 (l0_0:=l0_0) (l2000:=l2000) (a0:=a0) (a2001:=a2001) (by assumption) (by assumption) a0 []  rfl)) (.h 8 (.loop (h1005300_0 l0_0 l2000 a0 a2001 0) (.exit 0) ⟨[(0,(.one (.bor l0_0 (map b_R a0)))),(1,(.clo 54 [] [(.bptr l2000 [(.i a2001)])])),(7,(.oi ((length (map b_R a0)):Int))),(8,(.oi w0_0)),(9,(.one (.val (.bool w1_0))))],[]⟩) .nil)))
  |k1 w0_0=>
    try dsimp only
    have f0:(⟨[(0,(.one (.bor l0_0 (map b_R a0)))),(1,(.clo 54 [] [(.bptr l2000 [(.i a2001)])])),(7,(.oi ((length (map b_R a0)):Int))),(8,(.oi 0))],[]⟩:St)=h1005300_0 l0_0 l2000 a0 a2001 0 :=yu
    exact cp ya (.f f0 (.f (ev_ (e:=ex1005300_0) (g:=(fin1005300_0 l0_0 l2000 a0 a2001)) h0 (t1005300_0 (l0_0:=l0_0) (l2000:=l2000) (a0:=a0) (a2001:=a2001) (by assumption) (by assumption) a0 []  rfl)) (.h 8 (.loop (h1005300_0 l0_0 l2000 a0 a2001 0) .ret ⟨[(4,(.oi w0_0))],[]⟩) .nil)))
theorem ixr1005300_0 (a0:(List K_R)) (a2001:Int):∀(l:List K_R) (i:Int),(∃(w0:_) (w1:_),r1005300_0 a0 a2001 l i=.k0 w0 w1)∨(∃w,r1005300_0 a0 a2001 l i=.k1 w∧i≤w∧w < i+l.length)
  |[],i=>.inl ⟨i,(decide (i <((length (map b_R a0)):Int))),rfl⟩
  |x::l,i=>by
    have ih:=ixr1005300_0 a0 a2001 l (i+1)
    simp only[r1005300_0]
    (repeat' split)
    all_goals first
      |exact .inr ⟨i,rfl,by omega,by simp only[length_cons]; omega⟩
      | (rcases ih with ⟨w0, w1, h⟩ | ⟨w, h, h1, h2⟩
         · exact .inl ⟨w0,w1,h⟩
         exact .inr ⟨w,h,by omega,by simp only[length_cons]; omega⟩)
theorem ix1005300 (a0:(List K_R)) (a2001:Int): -1≤m1005300 a0 a2001∧m1005300 a0 a2001 <(length a0:Int):=by
  unfold m1005300
  rcases ixr1005300_0 a0 a2001 a0 0 with⟨w0,w1,h⟩ |⟨w,h,h1,h2⟩<;>simp only[h]<;>omega
theorem e26 {l0_0:Nat} {a0:(List K_R)} {a1:Int} (hy0:length a0*56≤140737488351232) (hy1:∀z∈a0,ok_R z):Ev F X (.call 26 [(.one (.bor l0_0 (map b_R a0))),(.one (.val (.int .i64 a1)))] [] [] [(.one (.val (.int .i64 (m1005300 a0 a1))))]):=by
  have f0:fullL [(.i a1)]=true:=yA
  have f1:Ev F X (.call 53 [(.one (.bor (l0_0+1) (map b_R a0))),(.clo 54 [] [(.bptr 0 [(.i a1)])])] [] [] [(.oi (m1005300 a0 a1))]):=(e1005300 (a0:=a0) (a2001:=a1) ‹_› ‹_›)
  exact cp ya (.f f0 (.r 9 [] [] f1 .nil))
theorem e32 {a0:Int}:Ev F X (.call 32 [(.one (.val (.int .i64 a0)))] [] [] [(.one (.val (.bool (m57 a0 0 2147483646))))]):=by
  exact cp ya (.r 5 [] [] (e57 (a0:=a0) (a1:=0) (a2:=2147483646)) .nil)
theorem e1007700 {a0:K_si} {l101000:Nat} {a101001:ByteArray}:Ev F X (.call 77 [(.agg [(.val (.string a0.f0)),(.val (.int .i64 a0.f1))]),(.bptr l101000 [(.val (.string a101001))])] [] [] [(.one (.val (.bool (a0.f0.toList==a101001.toList))))]):=by
  exact cp ya .nil
inductive O1007600_0 where
  |k0 (w0:Int) (w1:Bool)
  |k1 (w0:Int)
def r1007600_0 (a0:(List K_si)) (a2001:ByteArray):List K_si→Int→O1007600_0
  |x0::y0,i=>
    if(x0.f0.toList==a2001.toList)=true then(O1007600_0.k1 i) else
    (r1007600_0 a0 a2001 y0 (i+1))
  |[],i=>(O1007600_0.k0 i (decide (i <((length (map b_si a0)):Int))))
def h1007600_0 (l0_0:Nat) (l2000:Nat) (a0:(List K_si)) (a2001:ByteArray) (i:Int) :St:=⟨[(0,(.one (.bor l0_0 (map b_si a0)))),(1,(.clo 77 [] [(.bptr l2000 [(.val (.string a2001))])])),(7,(.one (.val (.int .i64 ((length (map b_si a0)):Int))))),(8,(.one (.val (.int .i64 i))))],[]⟩
def ex1007600_0:O1007600_0→VX.Exit
  |.k0 _ _=>(.exit 0)
  |.k1 _=>.ret
def fin1007600_0 (l0_0:Nat) (l2000:Nat) (a0:(List K_si)) (a2001:ByteArray):O1007600_0→St
  |.k0 w0 w1=>⟨[(0,(.one (.bor l0_0 (map b_si a0)))),(1,(.clo 77 [] [(.bptr l2000 [(.val (.string a2001))])])),(7,(.one (.val (.int .i64 ((length (map b_si a0)):Int))))),(8,(.one (.val (.int .i64 w0)))),(9,(.one (.val (.bool w1))))],[]⟩
  |.k1 w0=>⟨[(4,(.one (.val (.int .i64 w0))))],[]⟩
theorem t1007600_0 {l0_0:Nat} {l2000:Nat} {a0:(List K_si)} {a2001:ByteArray} (hy0:length a0*24≤140737488351232):∀(y0:List K_si) (p:List K_si),p++y0=a0→Ev F X (.code l76_0 (h1007600_0 l0_0 l2000 a0 a2001 (length p:Int)) (ex1007600_0 (r1007600_0 a0 a2001 y0 (length p:Int))) (fin1007600_0 l0_0 l2000 a0 a2001 (r1007600_0 a0 a2001 y0 (length p:Int))))
  |[],p,hp0=>by
    have hc:¬(decide ((length p:Int) <((length (map b_si a0)):Int)))=true:=by
      rw[← hp0]; simp only[LN,decide_eq_true_eq]; omega
    have st:=ch b76_0 (h1007600_0 l0_0 l2000 a0 a2001 (length p:Int)) ⟨[(0,(.one (.bor l0_0 (map b_si a0)))),(1,(.clo 77 [] [(.bptr l2000 [(.val (.string a2001))])])),(7,(.oi ((length (map b_si a0)):Int))),(8,(.oi (length p:Int))),(9,(.one (.val (.bool (decide ((length p:Int) <((length (map b_si a0)):Int)))))))],[]⟩ (.exit 0) 3 (by kernel_rfl) (.f (nt hc) (U 2 .nil))
    rw[show (⟨[(0,(.one (.bor l0_0 (map b_si a0)))),(1,(.clo 77 [] [(.bptr l2000 [(.val (.string a2001))])])),(7,(.oi ((length (map b_si a0)):Int))),(8,(.oi (length p:Int))),(9,(.one (.val (.bool (decide ((length p:Int) <((length (map b_si a0)):Int)))))))],[]⟩:St)=fin1007600_0 l0_0 l2000 a0 a2001 (.k0 (length p:Int) (decide ((length p:Int) <((length (map b_si a0)):Int)))) from(by rfl)] at st
    exact .loopX st (show ((.exit 0):VX.Exit)≠.normal from by simp)
  |x0::y0,p,hp0=>by
    have hc:(decide ((length p:Int) <((length (map b_si a0)):Int)))=true:=by
      rw[← hp0]; simp only[LN,decide_eq_true_eq]; omega
    have Hx0:(a0)[toNat (length p:Int)]?=some x0:=by
      rw[← hp0,Int.toNat_natCast]; simp
    have hlen:length (a0)=length p+length y0+1:=by rw[← hp0]; simp; omega
    have hw:wrap .i64 ((length p:Int)+1)=(length p:Int)+1:=wrap64 (by omega)
    simp only[r1007600_0]
    have f1:0≤(length p:Int):=(by omega)
    have P1 {hs q} (r:PS F X hs q):=(PS.f hc (.f f1 (.f (mp_ b_si Hx0) (hT 2 (.h 14 (.row (b_si x0)) (.r 18 [] [] (e1007700 (l101000:=(l2000+1)) (a0:=x0) (a101001:=a2001)) r))))))
    by_cases h_1:(x0.f0.toList==a2001.toList)=true
    · try simp only[if_pos h_1]
      have st:=ch b76_0 (h1007600_0 l0_0 l2000 a0 a2001 (length p:Int)) ⟨[(4,(.oi (length p:Int)))],[]⟩ .ret 24 (by kernel_rfl) (P1 (.f h_1 (hT 19 .nil)))
      rw[show (⟨[(4,(.oi (length p:Int)))],[]⟩:St)=fin1007600_0 l0_0 l2000 a0 a2001 (.k1 (length p:Int)) from(by rfl)] at st
      exact .loopX st (show (.ret:VX.Exit)≠.normal from by simp)
    try simp only[if_neg h_1]
    have st:=ch b76_0 (h1007600_0 l0_0 l2000 a0 a2001 (length p:Int)) ⟨[(0,(.one (.bor l0_0 (map b_si a0)))),(1,(.clo 77 [] [(.bptr l2000 [(.val (.string a2001))])])),(7,(.oi ((length (map b_si a0)):Int))),(8,(.oi (wrap .i64 ((length p:Int)+1))))],[]⟩ .normal 24 (by kernel_rfl) (P1 (.f (nt h_1) (.f trivial (U 19 .nil))))
    have ih:=t1007600_0 (l0_0:=l0_0) (l2000:=l2000) (a0:=a0) (a2001:=a2001) hy0 y0 (p++ [x0]) (by rw[append_assoc]; exact hp0)
    rw[show ((p++ [x0]).length:Int)=(p.length:Int)+1 from by simp] at ih
    rw[show (⟨[(0,(.one (.bor l0_0 (map b_si a0)))),(1,(.clo 77 [] [(.bptr l2000 [(.val (.string a2001))])])),(7,(.oi ((length (map b_si a0)):Int))),(8,(.oi (wrap .i64 ((length p:Int)+1))))],[]⟩:St)=h1007600_0 l0_0 l2000 a0 a2001 ((length p:Int)+1)  from(by unfold h1007600_0; simp only[hw]; done)] at st
    exact .loopN st ih
def m1007600 (a0:(List K_si)) (a2001:ByteArray):Int:=
  (match r1007600_0 a0 a2001 a0 0 with | .k0 w0_0 w1_0=>(-1) | .k1 w0_0=>w0_0)
theorem e1007600 {l0_0:Nat} {a0:(List K_si)} {l2000:Nat} {a2001:ByteArray} (hy0:length a0*24≤140737488351232):Ev F X (.call 76 [(.one (.bor l0_0 (map b_si a0))),(.clo 77 [] [(.bptr l2000 [(.val (.string a2001))])])] [] [] [(.one (.val (.int .i64 (m1007600 a0 a2001))))]):=by
  unfold m1007600
  cases h0:r1007600_0 a0 a2001 a0 0 with
  |k0 w0_0 w1_0=>
    try dsimp only
    have f0:(⟨[(0,(.one (.bor l0_0 (map b_si a0)))),(1,(.clo 77 [] [(.bptr l2000 [(.val (.string a2001))])])),(7,(.oi ((length (map b_si a0)):Int))),(8,(.oi 0))],[]⟩:St)=h1007600_0 l0_0 l2000 a0 a2001 0 :=yu
    exact cp ya (.f f0 (.f (ev_ (e:=ex1007600_0) (g:=(fin1007600_0 l0_0 l2000 a0 a2001)) h0 (t1007600_0 (l0_0:=l0_0) (l2000:=l2000) (a0:=a0) (a2001:=a2001) (by assumption) a0 []  rfl)) (.h 8 (.loop (h1007600_0 l0_0 l2000 a0 a2001 0) (.exit 0) ⟨[(0,(.one (.bor l0_0 (map b_si a0)))),(1,(.clo 77 [] [(.bptr l2000 [(.val (.string a2001))])])),(7,(.oi ((length (map b_si a0)):Int))),(8,(.oi w0_0)),(9,(.one (.val (.bool w1_0))))],[]⟩) .nil)))
  |k1 w0_0=>
    try dsimp only
    have f0:(⟨[(0,(.one (.bor l0_0 (map b_si a0)))),(1,(.clo 77 [] [(.bptr l2000 [(.val (.string a2001))])])),(7,(.oi ((length (map b_si a0)):Int))),(8,(.oi 0))],[]⟩:St)=h1007600_0 l0_0 l2000 a0 a2001 0 :=yu
    exact cp ya (.f f0 (.f (ev_ (e:=ex1007600_0) (g:=(fin1007600_0 l0_0 l2000 a0 a2001)) h0 (t1007600_0 (l0_0:=l0_0) (l2000:=l2000) (a0:=a0) (a2001:=a2001) (by assumption) a0 []  rfl)) (.h 8 (.loop (h1007600_0 l0_0 l2000 a0 a2001 0) .ret ⟨[(4,(.oi w0_0))],[]⟩) .nil)))
theorem ixr1007600_0 (a0:(List K_si)) (a2001:ByteArray):∀(l:List K_si) (i:Int),(∃(w0:_) (w1:_),r1007600_0 a0 a2001 l i=.k0 w0 w1)∨(∃w,r1007600_0 a0 a2001 l i=.k1 w∧i≤w∧w < i+l.length)
  |[],i=>.inl ⟨i,(decide (i <((length (map b_si a0)):Int))),rfl⟩
  |x::l,i=>by
    have ih:=ixr1007600_0 a0 a2001 l (i+1)
    simp only[r1007600_0]
    (repeat' split)
    all_goals first
      |exact .inr ⟨i,rfl,by omega,by simp only[length_cons]; omega⟩
      | (rcases ih with ⟨w0, w1, h⟩ | ⟨w, h, h1, h2⟩
         · exact .inl ⟨w0,w1,h⟩
         exact .inr ⟨w,h,by omega,by simp only[length_cons]; omega⟩)
theorem ix1007600 (a0:(List K_si)) (a2001:ByteArray): -1≤m1007600 a0 a2001∧m1007600 a0 a2001 <(length a0:Int):=by
  unfold m1007600
  rcases ixr1007600_0 a0 a2001 a0 0 with⟨w0,w1,h⟩ |⟨w,h,h1,h2⟩<;>simp only[h]<;>omega
theorem e56 {l0_0:Nat} {a0:(List K_si)} {a1:ByteArray} (hy0:length a0*24≤140737488351232):Ev F X (.call 56 [(.one (.bor l0_0 (map b_si a0))),(.one (.val (.string a1)))] [] [] [(.one (.val (.int .i64 (m1007600 a0 a1))))]):=by
  have f0:fullL [(.val (.string a1))]=true:=yA
  have f1:Ev F X (.call 76 [(.one (.bor (l0_0+1) (map b_si a0))),(.clo 77 [] [(.bptr 0 [(.val (.string a1))])])] [] [] [(.oi (m1007600 a0 a1))]):=(e1007600 (a0:=a0) (a2001:=a1) ‹_›)
  exact cp ya (.f f0 (.r 9 [] [] f1 .nil))
inductive O41_0 where
  |k0 (w0:Int) (w1:Bool)
  |k1
def r41_0 (a0:(List K_si)):List K_si→Int→O41_0
  |x0::y0,i=>
    if(!(m69 x0.f0))=true then(O41_0.k1) else
    if(!(m57 x0.f1 0 1000000))=true then(O41_0.k1) else
      if(decide ((m1007600 (take (toNat i) a0) x0.f0)≥0))=true then(O41_0.k1) else
        (r41_0 a0 y0 (i+1))
  |[],i=>(O41_0.k0 i (decide (i <((length (map b_si a0)):Int))))
def h41_0 (l0_0:Nat) (a0:(List K_si)) (a1:Int) (i:Int) :St:=⟨[(0,(.one (.bor l0_0 (map b_si a0)))),(1,(.one (.val (.int .i64 a1)))),(7,(.one (.bor l0_0 (map b_si a0)))),(8,(.one (.val (.int .i64 ((length (map b_si a0)):Int))))),(9,(.one (.val (.int .i64 i))))],[]⟩
def ex41_0:O41_0→VX.Exit
  |.k0 _ _=>(.exit 0)
  |.k1=>.ret
def fin41_0 (l0_0:Nat) (a0:(List K_si)) (a1:Int):O41_0→St
  |.k0 w0 w1=>⟨[(0,(.one (.bor l0_0 (map b_si a0)))),(1,(.one (.val (.int .i64 a1)))),(7,(.one (.bor l0_0 (map b_si a0)))),(8,(.one (.val (.int .i64 ((length (map b_si a0)):Int))))),(9,(.one (.val (.int .i64 w0)))),(10,(.one (.val (.bool w1))))],[]⟩
  |.k1=>⟨[(4,(.one (.val (.bool false))))],[]⟩
theorem t41_0 {l0_0:Nat} {a0:(List K_si)} {a1:Int} (hy0:length a0*24≤140737488351232):∀(y0:List K_si) (p:List K_si),p++y0=a0→Ev F X (.code l41_0 (h41_0 l0_0 a0 a1 (length p:Int)) (ex41_0 (r41_0 a0 y0 (length p:Int))) (fin41_0 l0_0 a0 a1 (r41_0 a0 y0 (length p:Int))))
  |[],p,hp0=>by
    have hc:¬(decide ((length p:Int) <((length (map b_si a0)):Int)))=true:=by
      rw[← hp0]; simp only[LN,decide_eq_true_eq]; omega
    have st:=ch b41_0 (h41_0 l0_0 a0 a1 (length p:Int)) ⟨[(0,(.one (.bor l0_0 (map b_si a0)))),(1,(.oi a1)),(7,(.one (.bor l0_0 (map b_si a0)))),(8,(.oi ((length (map b_si a0)):Int))),(9,(.oi (length p:Int))),(10,(.one (.val (.bool (decide ((length p:Int) <((length (map b_si a0)):Int)))))))],[]⟩ (.exit 0) 3 (by kernel_rfl) (.f (nt hc) (U 2 .nil))
    rw[show (⟨[(0,(.one (.bor l0_0 (map b_si a0)))),(1,(.oi a1)),(7,(.one (.bor l0_0 (map b_si a0)))),(8,(.oi ((length (map b_si a0)):Int))),(9,(.oi (length p:Int))),(10,(.one (.val (.bool (decide ((length p:Int) <((length (map b_si a0)):Int)))))))],[]⟩:St)=fin41_0 l0_0 a0 a1 (.k0 (length p:Int) (decide ((length p:Int) <((length (map b_si a0)):Int)))) from(by rfl)] at st
    exact .loopX st (show ((.exit 0):VX.Exit)≠.normal from by simp)
  |x0::y0,p,hp0=>by
    have hc:(decide ((length p:Int) <((length (map b_si a0)):Int)))=true:=by
      rw[← hp0]; simp only[LN,decide_eq_true_eq]; omega
    have Hx0:(a0)[toNat (length p:Int)]?=some x0:=by
      rw[← hp0,Int.toNat_natCast]; simp
    have hlen:length (a0)=length p+length y0+1:=by rw[← hp0]; simp; omega
    have hw:wrap .i64 ((length p:Int)+1)=(length p:Int)+1:=wrap64 (by omega)
    simp only[r41_0]
    have f1:0≤(length p:Int):=(by omega)
    have P1 {hs q} (r:PS F X hs q):=(PS.f hc (.f f1 (.f (mp_ b_si Hx0) (hT 2 (.h 6 (.row (b_si x0)) (.r 20 [] [] (e69 (a0:=x0.f0)) r))))))
    by_cases h_1:(!(m69 x0.f0))=true
    · try simp only[if_pos h_1]
      have st:=ch b41_0 (h41_0 l0_0 a0 a1 (length p:Int)) ⟨[(4,(.one (.val (.bool false))))],[]⟩ .ret 56 (by kernel_rfl) (P1 (.f h_1 (.f h_1 (.f h_1 (.f h_1 (.f h_1 (hT 25 (hT 27 (hT 29 (hT 31 (hT 34 .nil)))))))))))
      rw[show (⟨[(4,(.one (.val (.bool false))))],[]⟩:St)=fin41_0 l0_0 a0 a1 (.k1) from(by rfl)] at st
      exact .loopX st (show (.ret:VX.Exit)≠.normal from by simp)
    try simp only[if_neg h_1]
    have P2 {hs q} (r:PS F X hs q):=(P1 (.f (nt h_1) (.f (nt h_1) (.f (nt h_1) (U 25 (U 27 (U 29 (.r 30 [] [] (e29 (a0:=x0.f1)) (.f (nt h_1) (.f (nt h_1) (U 31 (U 34 r))))))))))))
    by_cases h_2:(!(m57 x0.f1 0 1000000))=true
    · try simp only[if_pos h_2]
      have st:=ch b41_0 (h41_0 l0_0 a0 a1 (length p:Int)) ⟨[(4,(.one (.val (.bool false))))],[]⟩ .ret 56 (by kernel_rfl) (P2 (.f h_2 (.f h_2 (.f h_2 (.f h_2 (.f h_2 (.f h_2 (.f h_2 (.f h_2 (hT 37 (hT 39 (hT 41 (hT 43 (hT 45 (hT 47 (hT 49 (hT 52 .nil)))))))))))))))))
      rw[show (⟨[(4,(.one (.val (.bool false))))],[]⟩:St)=fin41_0 l0_0 a0 a1 (.k1) from(by rfl)] at st
      exact .loopX st (show (.ret:VX.Exit)≠.normal from by simp)
    try simp only[if_neg h_2]
    have f13:(0≤(0:Int)∧(0:Int)≤(length p:Int)∧(length p:Int)≤((length (map b_si a0)):Int))∧∀r∈((map b_si a0):List (List B)),r.length=2:=(by refine⟨?_,lenB_si _⟩; simp only[LN]; omega)
    have f17:Ev F X (.call 56 [(.one (.bor (l0_0+1) (take (toNat (length p:Int) - toNat 0) (drop 0 (map b_si a0))))),(.one (.val (.string x0.f0)))] [] [] [(.oi (m1007600 (take (toNat (length p:Int)) a0) x0.f0))]):=(by rw[show (take (toNat (length p:Int) - toNat 0) (drop 0 (map b_si a0)))=(map b_si (take (toNat (length p:Int)) a0)) from by first | rfl |(simp[map_take,map_drop]; done) |(simp[byteRows_eq,map_take,map_drop]; done) |(simp[*,map_take,map_drop]; done) |(rw[take_of_length_le (by simp only[length_drop,length_take,length_map,Int.toNat_natCast]; omega)]; simp only[← map_drop,← map_take])]; exact(e56 (l0_0:=(l0_0+1)) (a0:=(take (toNat (length p:Int)) a0)) (a1:=x0.f0) (by simp only[length_take]; omega)))
    have P3 {hs q} (r:PS F X hs q):=(P2 (.f (nt h_2) (.f (nt h_2) (.f (nt h_2) (.f f13 (.f (nt h_2) (.f (nt h_2) (.f (nt h_2) (U 37 (U 39 (U 41 (U 43 (U 45 (U 47 (.r 48 [] [] f17 (.f (nt h_2) (.f (nt h_2) (U 49 (U 52 r)))))))))))))))))))
    by_cases h_3:(decide ((m1007600 (take (toNat (length p:Int)) a0) x0.f0)≥0))=true
    · try simp only[if_pos h_3]
      have st:=ch b41_0 (h41_0 l0_0 a0 a1 (length p:Int)) ⟨[(4,(.one (.val (.bool false))))],[]⟩ .ret 56 (by kernel_rfl) (P3 (.f h_3 (hT 53 .nil)))
      rw[show (⟨[(4,(.one (.val (.bool false))))],[]⟩:St)=fin41_0 l0_0 a0 a1 (.k1) from(by rfl)] at st
      exact .loopX st (show (.ret:VX.Exit)≠.normal from by simp)
    try simp only[if_neg h_3]
    have st:=ch b41_0 (h41_0 l0_0 a0 a1 (length p:Int)) ⟨[(0,(.one (.bor l0_0 (map b_si a0)))),(1,(.oi a1)),(7,(.one (.bor l0_0 (map b_si a0)))),(8,(.oi ((length (map b_si a0)):Int))),(9,(.oi (wrap .i64 ((length p:Int)+1))))],[]⟩ .normal 58 (by kernel_rfl) (P3 (.f (nt h_3) (.f trivial (U 53 .nil))))
    have ih:=t41_0 (l0_0:=l0_0) (a0:=a0) (a1:=a1) hy0 y0 (p++ [x0]) (by rw[append_assoc]; exact hp0)
    rw[show ((p++ [x0]).length:Int)=(p.length:Int)+1 from by simp] at ih
    rw[show (⟨[(0,(.one (.bor l0_0 (map b_si a0)))),(1,(.oi a1)),(7,(.one (.bor l0_0 (map b_si a0)))),(8,(.oi ((length (map b_si a0)):Int))),(9,(.oi (wrap .i64 ((length p:Int)+1))))],[]⟩:St)=h41_0 l0_0 a0 a1 ((length p:Int)+1)  from(by unfold h41_0; simp only[hw]; done)] at st
    exact .loopN st ih
def m41 (a0:(List K_si)) (a1:Int):Bool:=
  (match r41_0 a0 a0 0 with | .k0 w0_0 w1_0=>(decide (((length (map b_si a0)):Int)≤a1)) | .k1=>false)
theorem e41 {l0_0:Nat} {a0:(List K_si)} {a1:Int} (hy0:length a0*24≤140737488351232):Ev F X (.call 41 [(.one (.bor l0_0 (map b_si a0))),(.one (.val (.int .i64 a1)))] [] [] [(.one (.val (.bool (m41 a0 a1))))]):=by
  unfold m41
  cases h0:r41_0 a0 a0 0 with
  |k0 w0_0 w1_0=>
    try dsimp only
    have f0:(⟨[(0,(.one (.bor l0_0 (map b_si a0)))),(1,(.oi a1)),(7,(.one (.bor l0_0 (map b_si a0)))),(8,(.oi ((length (map b_si a0)):Int))),(9,(.oi 0))],[]⟩:St)=h41_0 l0_0 a0 a1 0 :=yu
    exact cp ya (.f f0 (.f (ev_ (e:=ex41_0) (g:=(fin41_0 l0_0 a0 a1)) h0 (t41_0 (l0_0:=l0_0) (a0:=a0) (a1:=a1) (by assumption) a0 []  rfl)) (.h 8 (.loop (h41_0 l0_0 a0 a1 0) (.exit 0) ⟨[(0,(.one (.bor l0_0 (map b_si a0)))),(1,(.oi a1)),(7,(.one (.bor l0_0 (map b_si a0)))),(8,(.oi ((length (map b_si a0)):Int))),(9,(.oi w0_0)),(10,(.one (.val (.bool w1_0))))],[]⟩) .nil)))
  |k1=>
    try dsimp only
    have f0:(⟨[(0,(.one (.bor l0_0 (map b_si a0)))),(1,(.oi a1)),(7,(.one (.bor l0_0 (map b_si a0)))),(8,(.oi ((length (map b_si a0)):Int))),(9,(.oi 0))],[]⟩:St)=h41_0 l0_0 a0 a1 0 :=yu
    exact cp ya (.f f0 (.f (ev_ (e:=ex41_0) (g:=(fin41_0 l0_0 a0 a1)) h0 (t41_0 (l0_0:=l0_0) (a0:=a0) (a1:=a1) (by assumption) a0 []  rfl)) (.h 8 (.loop (h41_0 l0_0 a0 a1 0) .ret ⟨[(4,(.one (.val (.bool false))))],[]⟩) .nil)))
inductive O42_0 where
  |k0 (w0:Int) (w1:Int) (w2:Bool)
def r42_0 (a0:(List K_si)):List K_si→Int→Int→O42_0
  |x0::y0,i,v0=>
    (r42_0 a0 y0 (i+1) (wrap .i64 (v0+x0.f1)))
  |[],i,v0=>(O42_0.k0 v0 i (decide (i <((length (map b_si a0)):Int))))
def h42_0 (l0_0:Nat) (a0:(List K_si)) (i:Int) (v0:Int):St:=⟨[(3,(.one (.val (.int .i64 v0)))),(6,(.one (.bor l0_0 (map b_si a0)))),(7,(.one (.val (.int .i64 ((length (map b_si a0)):Int))))),(8,(.one (.val (.int .i64 i))))],[]⟩
def ex42_0:O42_0→VX.Exit
  |.k0 _ _ _=>(.exit 0)
def fin42_0 (l0_0:Nat) (a0:(List K_si)):O42_0→St
  |.k0 w0 w1 w2=>⟨[(3,(.one (.val (.int .i64 w0)))),(6,(.one (.bor l0_0 (map b_si a0)))),(7,(.one (.val (.int .i64 ((length (map b_si a0)):Int))))),(8,(.one (.val (.int .i64 w1)))),(9,(.one (.val (.bool w2))))],[]⟩
theorem t42_0 {l0_0:Nat} {a0:(List K_si)} (hy0:length a0*24≤140737488351232):∀(y0:List K_si) (p:List K_si) (v0:Int),p++y0=a0→Ev F X (.code l42_0 (h42_0 l0_0 a0 (length p:Int) v0) (ex42_0 (r42_0 a0 y0 (length p:Int) v0)) (fin42_0 l0_0 a0 (r42_0 a0 y0 (length p:Int) v0)))
  |[],p,v0,hp0=>by
    have hc:¬(decide ((length p:Int) <((length (map b_si a0)):Int)))=true:=by
      rw[← hp0]; simp only[LN,decide_eq_true_eq]; omega
    have st:=ch b42_0 (h42_0 l0_0 a0 (length p:Int) v0) ⟨[(3,(.oi v0)),(6,(.one (.bor l0_0 (map b_si a0)))),(7,(.oi ((length (map b_si a0)):Int))),(8,(.oi (length p:Int))),(9,(.one (.val (.bool (decide ((length p:Int) <((length (map b_si a0)):Int)))))))],[]⟩ (.exit 0) 3 (by kernel_rfl) (.f (nt hc) (U 2 .nil))
    rw[show (⟨[(3,(.oi v0)),(6,(.one (.bor l0_0 (map b_si a0)))),(7,(.oi ((length (map b_si a0)):Int))),(8,(.oi (length p:Int))),(9,(.one (.val (.bool (decide ((length p:Int) <((length (map b_si a0)):Int)))))))],[]⟩:St)=fin42_0 l0_0 a0 (.k0 v0 (length p:Int) (decide ((length p:Int) <((length (map b_si a0)):Int)))) from(by rfl)] at st
    exact .loopX st (show ((.exit 0):VX.Exit)≠.normal from by simp)
  |x0::y0,p,v0,hp0=>by
    have hc:(decide ((length p:Int) <((length (map b_si a0)):Int)))=true:=by
      rw[← hp0]; simp only[LN,decide_eq_true_eq]; omega
    have Hx0:(a0)[toNat (length p:Int)]?=some x0:=by
      rw[← hp0,Int.toNat_natCast]; simp
    have hlen:length (a0)=length p+length y0+1:=by rw[← hp0]; simp; omega
    have hw:wrap .i64 ((length p:Int)+1)=(length p:Int)+1:=wrap64 (by omega)
    simp only[r42_0]
    have f1:0≤(length p:Int):=(by omega)
    have st:=ch b42_0 (h42_0 l0_0 a0 (length p:Int) v0) ⟨[(3,(.oi (wrap .i64 (v0+x0.f1)))),(6,(.one (.bor l0_0 (map b_si a0)))),(7,(.oi ((length (map b_si a0)):Int))),(8,(.oi (wrap .i64 ((length p:Int)+1))))],[]⟩ .normal 25 (by kernel_rfl) (.f hc (.f f1 (.f (mp_ b_si Hx0) (.f trivial (.f trivial (hT 2 (.h 4 (.row (b_si x0)) .nil)))))))
    have ih:=t42_0 (l0_0:=l0_0) (a0:=a0) hy0 y0 (p++ [x0]) (wrap .i64 (v0+x0.f1)) (by rw[append_assoc]; exact hp0)
    rw[show ((p++ [x0]).length:Int)=(p.length:Int)+1 from by simp] at ih
    rw[show (⟨[(3,(.oi (wrap .i64 (v0+x0.f1)))),(6,(.one (.bor l0_0 (map b_si a0)))),(7,(.oi ((length (map b_si a0)):Int))),(8,(.oi (wrap .i64 ((length p:Int)+1))))],[]⟩:St)=h42_0 l0_0 a0 ((length p:Int)+1) (wrap .i64 (v0+x0.f1)) from(by unfold h42_0; simp only[hw]; done)] at st
    exact .loopN st ih
def m42 (a0:(List K_si)):Int:=
  (match r42_0 a0 a0 0 0 with | .k0 w0_0 w1_0 w2_0=>w0_0)
theorem e42 {l0_0:Nat} {a0:(List K_si)} (hy0:length a0*24≤140737488351232):Ev F X (.call 42 [(.one (.bor l0_0 (map b_si a0)))] [] [] [(.one (.val (.int .i64 (m42 a0))))]):=by
  unfold m42
  cases h0:r42_0 a0 a0 0 0 with
  |k0 w0_0 w1_0 w2_0=>
    try dsimp only
    have f0:(⟨[(3,(.oi 0)),(6,(.one (.bor l0_0 (map b_si a0)))),(7,(.oi ((length (map b_si a0)):Int))),(8,(.oi 0))],[]⟩:St)=h42_0 l0_0 a0 0 0:=yu
    exact cp ya (.f f0 (.f (ev_ (e:=ex42_0) (g:=(fin42_0 l0_0 a0)) h0 (t42_0 (l0_0:=l0_0) (a0:=a0) (by assumption) a0 [] 0 rfl)) (.h 10 (.loop (h42_0 l0_0 a0 0 0) (.exit 0) ⟨[(3,(.oi w0_0)),(6,(.one (.bor l0_0 (map b_si a0)))),(7,(.oi ((length (map b_si a0)):Int))),(8,(.oi w1_0)),(9,(.one (.val (.bool w2_0))))],[]⟩) .nil)))
theorem tot_r42 (a:List K_si):∀(l:List K_si) (i v:Int),(∀z∈l,1≤z.f1∧z.f1≤119988)→0≤v→v+119988*l.length≤1000000000→∃w j b,r42_0 a l i v=.k0 w j b∧v+l.length≤w∧w≤v+119988*l.length
  |[],i,v,_,_,_=>⟨v,_,_,rfl,by simp,by simp⟩
  |x::l,i,v,h,h0,hb=>by
    have hx:=h x (List.mem_cons_self ..)
    simp only[length_cons] at hb
    simp only[r42_0]
    rw[wrap64 yd]
    obtain⟨w,j,b,e,h1,h2⟩:=tot_r42 a l (i+1) (v+x.f1) (fun z hz=>h z (List.mem_cons_of_mem _ hz)) yd yd
    exact⟨w,j,b,e,by simp only[length_cons]; omega,by simp only[length_cons]; omega⟩
theorem tot_42 (a:List K_si) (h:∀z∈a,1≤z.f1∧z.f1≤119988) (hl:a.length≤12):(a.length:Int)≤m42 a∧m42 a≤119988*a.length:=by
  obtain⟨w,j,b,e,h1,h2⟩:=tot_r42 a a 0 0 h yd yd
  unfold m42
  rw[e]; simp only[]; omega
def m40 (a0:K_R) (a1:(List K_R)):Int:=
  if(!(m57 a0.f0 0 2147483646))=true then 3 else
  if(!(m57 a0.f1 0 1000000))=true then 3 else
    if(!(m57 a0.f2 0 1000000))=true then 3 else
      if(!(m57 a0.f4 1 3))=true then 3 else
        if(!(m41 a0.f3 12))=true then 1 else
          if((wrap .i64 ((m42 a0.f3)+a0.f2)) !=a0.f1)=true then 1 else
            if(decide ((m1005300 a1 a0.f0)≥0))=true then 6 else
              0
theorem e40 {l0_3:Nat} {a0:K_R} {l1_0:Nat} {a1:(List K_R)} (hy0:length a0.f3*24≤140737488351232) (hy1:length a1*56≤140737488351232) (hy2:∀z∈a1,ok_R z):Ev F X (.call 40 [(.agg (k_R l0_3 a0)),(.one (.bor l1_0 (map b_R a1)))] [] [] [(.one (.val (.int .i64 (m40 a0 a1))))]):=by
  unfold m40
  have P0 {hs q} (r:PS F X hs q):=(PS.r 9 [] [] (e32 (a0:=a0.f0)) r)
  by_cases h0:(!(m57 a0.f0 0 2147483646))=true
  · try simp only[if_pos h0]
    exact cp ya (P0 (.f h0 (.f h0 (.f h0 (.f h0 (.f h0 (hT 14 (hT 16 (hT 18 (hT 20 (hT 23 .nil)))))))))))
  try simp only[if_neg h0]
  have P1 {hs q} (r:PS F X hs q):=(P0 (N h0 (N h0 (N h0 (U 14 (U 16 (U 18 (.r 19 [] [] (e29 (a0:=a0.f1)) (N h0 (N h0 (U 20 (U 23 r))))))))))))
  by_cases h1:(!(m57 a0.f1 0 1000000))=true
  · try simp only[if_pos h1]
    exact cp ya (P1 (.f h1 (.f h1 (.f h1 (.f h1 (.f h1 (hT 26 (hT 28 (hT 30 (hT 32 (hT 35 .nil)))))))))))
  try simp only[if_neg h1]
  have P2 {hs q} (r:PS F X hs q):=(P1 (N h1 (N h1 (N h1 (U 26 (U 28 (U 30 (.r 31 [] [] (e29 (a0:=a0.f2)) (N h1 (N h1 (U 32 (U 35 r))))))))))))
  by_cases h2:(!(m57 a0.f2 0 1000000))=true
  · try simp only[if_pos h2]
    exact cp ya (P2 (.f h2 (.f h2 (.f h2 (.f h2 (.f h2 (hT 38 (hT 40 (hT 42 (hT 44 (hT 47 .nil)))))))))))
  try simp only[if_neg h2]
  have P3 {hs q} (r:PS F X hs q):=(P2 (N h2 (N h2 (N h2 (U 38 (U 40 (U 42 (.r 43 [] [] (e57 (a0:=a0.f4) (a1:=1) (a2:=3)) (N h2 (N h2 (U 44 (U 47 r))))))))))))
  by_cases h3:(!(m57 a0.f4 1 3))=true
  · try simp only[if_pos h3]
    exact cp ya (P3 (.f h3 (hT 50 .nil)))
  try simp only[if_neg h3]
  have P4 {hs q} (r:PS F X hs q):=(P3 (N h3 (U 50 (.r 56 [] [] (e41 (l0_0:=(l0_3+1)) (a0:=a0.f3) (a1:=12) ‹_›) r))))
  by_cases h4:(!(m41 a0.f3 12))=true
  · try simp only[if_pos h4]
    exact cp ya (P4 (.f h4 (.f h4 (.f h4 (.f h4 (.f h4 (.f h4 (.f h4 (.f h4 (.f h4 (.f h4 (hT 61 (hT 63 (hT 65 (hT 67 (hT 69 (hT 71 (hT 73 (hT 75 (hT 77 (hT 80 .nil)))))))))))))))))))))
  try simp only[if_neg h4]
  have P5 {hs q} (r:PS F X hs q):=(P4 (N h4 (N h4 (N h4 (U 61 (U 63 (U 65 (.r 66 [] [] (e42 (l0_0:=(l0_3+1)) (a0:=a0.f3) ‹_›) (N h4 (N h4 (N h4 (.f trivial (N h4 (N h4 (N h4 (N h4 (U 67 (U 69 (U 71 (U 73 (U 75 (U 77 (U 80 r)))))))))))))))))))))))
  by_cases h5:((wrap .i64 ((m42 a0.f3)+a0.f2)) !=a0.f1)=true
  · try simp only[if_pos h5]
    exact cp ya (P5 (.f h5 (hT 83 .nil)))
  try simp only[if_neg h5]
  have P6 {hs q} (r:PS F X hs q):=(P5 (N h5 (U 83 (.r 91 [] [] (e26 (l0_0:=(l1_0+1)) (a0:=a1) (a1:=a0.f0) ‹_› ‹_›) r))))
  by_cases h6:(decide ((m1005300 a1 a0.f0)≥0))=true
  · try simp only[if_pos h6]
    exact cp ya (P6 (.f h6 (hT 96 .nil)))
  try simp only[if_neg h6]
  exact cp ya (P6 (N h6 (U 96 .nil)))
inductive O14_0 where
  |k0 (w0:Int) (w1:Bool)
  |k1 (w0:Int)
def r14_0 (a0:K_B):List K_R→Int→O14_0
  |x0::y0,i=>
    if((m40 x0 (take (toNat i) a0.f3)) !=0)=true then(O14_0.k1 (m40 x0 (take (toNat i) a0.f3))) else
    (r14_0 a0 y0 (i+1))
  |[],i=>(O14_0.k0 i (decide (i <((length (map b_R a0.f3)):Int))))
def h14_0 (l0_2:Nat) (l0_3:Nat) (l0_4:Nat) (a0:K_B) (i:Int) :St:=⟨[(1,(.ptr ⟨(1,0,0),[],0,0,8⟩)),(56,(.one (.bor l0_3 (map b_R a0.f3)))),(57,(.one (.val (.int .i64 ((length (map b_R a0.f3)):Int))))),(58,(.one (.val (.int .i64 i))))],[((1,0,0),.live ⟨8,[[(.val (.int .i64 a0.f0)),(.val (.int .i64 a0.f1)),(.bor l0_2 (map b_si a0.f2)),(.bor l0_3 (map b_R a0.f3)),(.bor l0_4 (map b_si a0.f4)),(.val (.int .i64 a0.f5)),(.val (.int .i64 a0.f6)),(.val (.int .i64 a0.f7))]],[]⟩)]⟩
def ex14_0:O14_0→VX.Exit
  |.k0 _ _=>(.exit 0)
  |.k1 _=>.ret
def fin14_0 (l0_2:Nat) (l0_3:Nat) (l0_4:Nat) (a0:K_B):O14_0→St
  |.k0 w0 w1=>⟨[(1,(.ptr ⟨(1,0,0),[],0,0,8⟩)),(56,(.one (.bor l0_3 (map b_R a0.f3)))),(57,(.one (.val (.int .i64 ((length (map b_R a0.f3)):Int))))),(58,(.one (.val (.int .i64 w0)))),(59,(.one (.val (.bool w1))))],[((1,0,0),.live ⟨8,[[(.val (.int .i64 a0.f0)),(.val (.int .i64 a0.f1)),(.bor l0_2 (map b_si a0.f2)),(.bor l0_3 (map b_R a0.f3)),(.bor l0_4 (map b_si a0.f4)),(.val (.int .i64 a0.f5)),(.val (.int .i64 a0.f6)),(.val (.int .i64 a0.f7))]],[]⟩)]⟩
  |.k1 w0=>⟨[(2,(.one (.val (.int .i64 w0))))],[]⟩
theorem t14_0 {l0_2:Nat} {l0_3:Nat} {l0_4:Nat} {a0:K_B} (hy0:length a0.f2*24≤140737488351232) (hy1:length a0.f3*56≤140737488351232) (hy2:∀z∈a0.f3,ok_R z) (hy3:length a0.f4*24≤140737488351232):∀(y0:List K_R) (p:List K_R),p++y0=a0.f3→Ev F X (.code l14_0 (h14_0 l0_2 l0_3 l0_4 a0 (length p:Int)) (ex14_0 (r14_0 a0 y0 (length p:Int))) (fin14_0 l0_2 l0_3 l0_4 a0 (r14_0 a0 y0 (length p:Int))))
  |[],p,hp0=>by
    have hc:¬(decide ((length p:Int) <((length (map b_R a0.f3)):Int)))=true:=by
      rw[← hp0]; simp only[LN,decide_eq_true_eq]; omega
    have st:=ch b14_0 (h14_0 l0_2 l0_3 l0_4 a0 (length p:Int)) ⟨[(1,(.ptr ⟨(1,0,0),[],0,0,8⟩)),(56,(.one (.bor l0_3 (map b_R a0.f3)))),(57,(.oi ((length (map b_R a0.f3)):Int))),(58,(.oi (length p:Int))),(59,(.one (.val (.bool (decide ((length p:Int) <((length (map b_R a0.f3)):Int)))))))],[((1,0,0),.live ⟨8,[[(.i a0.f0),(.i a0.f1),(.bor l0_2 (map b_si a0.f2)),(.bor l0_3 (map b_R a0.f3)),(.bor l0_4 (map b_si a0.f4)),(.i a0.f5),(.i a0.f6),(.i a0.f7)]],[]⟩)]⟩ (.exit 0) 3 (by kernel_rfl) (.f (nt hc) (U 2 .nil))
    rw[show (⟨[(1,(.ptr ⟨(1,0,0),[],0,0,8⟩)),(56,(.one (.bor l0_3 (map b_R a0.f3)))),(57,(.oi ((length (map b_R a0.f3)):Int))),(58,(.oi (length p:Int))),(59,(.one (.val (.bool (decide ((length p:Int) <((length (map b_R a0.f3)):Int)))))))],[((1,0,0),.live ⟨8,[[(.i a0.f0),(.i a0.f1),(.bor l0_2 (map b_si a0.f2)),(.bor l0_3 (map b_R a0.f3)),(.bor l0_4 (map b_si a0.f4)),(.i a0.f5),(.i a0.f6),(.i a0.f7)]],[]⟩)]⟩:St)=fin14_0 l0_2 l0_3 l0_4 a0 (.k0 (length p:Int) (decide ((length p:Int) <((length (map b_R a0.f3)):Int)))) from(by rfl)] at st
    exact .loopX st (show ((.exit 0):VX.Exit)≠.normal from by simp)
  |x0::y0,p,hp0=>by
    have hc:(decide ((length p:Int) <((length (map b_R a0.f3)):Int)))=true:=by
      rw[← hp0]; simp only[LN,decide_eq_true_eq]; omega
    have Hx0:(a0.f3)[toNat (length p:Int)]?=some x0:=by
      rw[← hp0,Int.toNat_natCast]; simp
    have Mx0_0:=hy2 x0 (List.mem_of_getElem? Hx0)
    have hlen:length (a0.f3)=length p+length y0+1:=by rw[← hp0]; simp; omega
    have hw:wrap .i64 ((length p:Int)+1)=(length p:Int)+1:=wrap64 (by omega)
    simp only[r14_0]
    have f1:0≤(length p:Int):=(by omega)
    have f3:(0≤(0:Int)∧(0:Int)≤(length p:Int)∧(length p:Int)≤((length (map b_R a0.f3)):Int))∧∀r∈((map b_R a0.f3):List (List B)),r.length=5:=(by refine⟨?_,lenB_R _⟩; simp only[LN]; omega)
    have f4:Ev F X (.call 40 [(.agg (k_R (l0_3+1) x0)),(.one (.bor (l0_3+1) (take (toNat (length p:Int) - toNat 0) (drop 0 (map b_R a0.f3)))))] [] [] [(.oi (m40 x0 (take (toNat (length p:Int)) a0.f3)))]):=(by rw[show (take (toNat (length p:Int) - toNat 0) (drop 0 (map b_R a0.f3)))=(map b_R (take (toNat (length p:Int)) a0.f3)) from by first | rfl |(simp[map_take,map_drop]; done) |(simp[byteRows_eq,map_take,map_drop]; done) |(simp[*,map_take,map_drop]; done) |(rw[take_of_length_le (by simp only[length_drop,length_take,length_map,Int.toNat_natCast]; omega)]; simp only[← map_drop,← map_take])]; exact(e40 (l0_3:=(l0_3+1)) (l1_0:=(l0_3+1)) (a0:=x0) (a1:=(take (toNat (length p:Int)) a0.f3)) (by assumption) (by simp only[length_take]; omega) (by intro z hz; exact(by assumption:∀z∈_,ok_R z) z (List.mem_of_mem_take hz))))
    have P1 {hs q} (r:PS F X hs q):=(PS.f hc (.f f1 (.f (mp_ b_R Hx0) (.f f3 (hT 2 (.h 6 (.row (b_R x0)) (.r 26 [] [] f4 r)))))))
    by_cases h_1:((m40 x0 (take (toNat (length p:Int)) a0.f3)) !=0)=true
    · try simp only[if_pos h_1]
      have st:=ch b14_0 (h14_0 l0_2 l0_3 l0_4 a0 (length p:Int)) ⟨[(2,(.oi (m40 x0 (take (toNat (length p:Int)) a0.f3))))],[]⟩ .ret 38 (by kernel_rfl) (P1 (.f h_1 (hT 33 .nil)))
      rw[show (⟨[(2,(.oi (m40 x0 (take (toNat (length p:Int)) a0.f3))))],[]⟩:St)=fin14_0 l0_2 l0_3 l0_4 a0 (.k1 (m40 x0 (take (toNat (length p:Int)) a0.f3))) from(by rfl)] at st
      exact .loopX st (show (.ret:VX.Exit)≠.normal from by simp)
    try simp only[if_neg h_1]
    have st:=ch b14_0 (h14_0 l0_2 l0_3 l0_4 a0 (length p:Int)) ⟨[(1,(.ptr ⟨(1,0,0),[],0,0,8⟩)),(56,(.one (.bor l0_3 (map b_R a0.f3)))),(57,(.oi ((length (map b_R a0.f3)):Int))),(58,(.oi (wrap .i64 ((length p:Int)+1))))],[((1,0,0),.live ⟨8,[[(.i a0.f0),(.i a0.f1),(.bor l0_2 (map b_si a0.f2)),(.bor l0_3 (map b_R a0.f3)),(.bor l0_4 (map b_si a0.f4)),(.i a0.f5),(.i a0.f6),(.i a0.f7)]],[]⟩)]⟩ .normal 38 (by kernel_rfl) (P1 (.f (nt h_1) (.f trivial (U 33 .nil))))
    have ih:=t14_0 (l0_2:=l0_2) (l0_3:=l0_3) (l0_4:=l0_4) (a0:=a0) hy0 hy1 hy2 hy3 y0 (p++ [x0]) (by rw[append_assoc]; exact hp0)
    rw[show ((p++ [x0]).length:Int)=(p.length:Int)+1 from by simp] at ih
    rw[show (⟨[(1,(.ptr ⟨(1,0,0),[],0,0,8⟩)),(56,(.one (.bor l0_3 (map b_R a0.f3)))),(57,(.oi ((length (map b_R a0.f3)):Int))),(58,(.oi (wrap .i64 ((length p:Int)+1))))],[((1,0,0),.live ⟨8,[[(.i a0.f0),(.i a0.f1),(.bor l0_2 (map b_si a0.f2)),(.bor l0_3 (map b_R a0.f3)),(.bor l0_4 (map b_si a0.f4)),(.i a0.f5),(.i a0.f6),(.i a0.f7)]],[]⟩)]⟩:St)=h14_0 l0_2 l0_3 l0_4 a0 ((length p:Int)+1)  from(by unfold h14_0; simp only[hw]; done)] at st
    exact .loopN st ih
def m14 (a0:K_B):Int:=
  if(!(m35 a0.f0 a0.f1))=true then 3 else
  if(!(m57 a0.f5 0 1000000))=true then 3 else
    if(!(m57 a0.f6 0 1000000))=true then 3 else
      if(!(m57 a0.f7 0 1000000))=true then 3 else
        if((m39 a0.f2) !=0)=true then(m39 a0.f2) else
          if(decide (((length (map b_si a0.f2)):Int) > a0.f0))=true then 2 else
            if(decide (((length (map b_R a0.f3)):Int) > 6))=true then 2 else
              if(decide (((length (map b_si a0.f4)):Int) > 8))=true then 2 else
                (match r14_0 a0 a0.f3 0 with | .k0 w0_33 w1_33=>(if(!(m41 a0.f4 8))=true then 1 else if((wrap .i64 ((wrap .i64 ((m42 a0.f4)+a0.f6))+a0.f5)) !=(wrap .i64 ((m33 a0.f3 2)+a0.f7)))=true then 7 else if(!(m57 (m33 a0.f3 0) 0 1000000))=true then 7 else 0) | .k1 w0_33=>w0_33)
theorem e14 {l0_2:Nat} {l0_3:Nat} {l0_4:Nat} {a0:K_B} (hy0:length a0.f2*24≤140737488351232) (hy1:length a0.f3*56≤140737488351232) (hy2:∀z∈a0.f3,ok_R z) (hy3:length a0.f4*24≤140737488351232):Ev F X (.call 14 [(.agg (k_B l0_2 l0_3 l0_4 a0))] [] [] [(.one (.val (.int .i64 (m14 a0))))]):=by
  unfold m14
  have P0 {hs q} (r:PS F X hs q):=(PS.r 13 [] [] (e35 (a0:=a0.f0) (a1:=a0.f1)) r)
  by_cases h0:(!(m35 a0.f0 a0.f1))=true
  · try simp only[if_pos h0]
    exact cp ya (P0 (.f h0 (.f h0 (.f h0 (.f h0 (.f h0 (hT 18 (hT 20 (hT 22 (hT 24 (hT 27 .nil)))))))))))
  try simp only[if_neg h0]
  have P1 {hs q} (r:PS F X hs q):=(P0 (N h0 (N h0 (N h0 (U 18 (U 20 (U 22 (.r 23 [] [] (e29 (a0:=a0.f5)) (N h0 (N h0 (U 24 (U 27 r))))))))))))
  by_cases h1:(!(m57 a0.f5 0 1000000))=true
  · try simp only[if_pos h1]
    exact cp ya (P1 (.f h1 (.f h1 (.f h1 (.f h1 (.f h1 (hT 30 (hT 32 (hT 34 (hT 36 (hT 39 .nil)))))))))))
  try simp only[if_neg h1]
  have P2 {hs q} (r:PS F X hs q):=(P1 (N h1 (N h1 (N h1 (U 30 (U 32 (U 34 (.r 35 [] [] (e29 (a0:=a0.f6)) (N h1 (N h1 (U 36 (U 39 r))))))))))))
  by_cases h2:(!(m57 a0.f6 0 1000000))=true
  · try simp only[if_pos h2]
    exact cp ya (P2 (.f h2 (.f h2 (.f h2 (.f h2 (.f h2 (hT 42 (hT 44 (hT 46 (hT 48 (hT 51 .nil)))))))))))
  try simp only[if_neg h2]
  have P3 {hs q} (r:PS F X hs q):=(P2 (N h2 (N h2 (N h2 (U 42 (U 44 (U 46 (.r 47 [] [] (e29 (a0:=a0.f7)) (N h2 (N h2 (U 48 (U 51 r))))))))))))
  by_cases h3:(!(m57 a0.f7 0 1000000))=true
  · try simp only[if_pos h3]
    exact cp ya (P3 (.f h3 (hT 52 .nil)))
  try simp only[if_neg h3]
  have P4 {hs q} (r:PS F X hs q):=(P3 (N h3 (U 52 (.r 58 [] [] (e39 (l0_0:=(l0_2+1)) (a0:=a0.f2) ‹_›) r))))
  by_cases h4:((m39 a0.f2) !=0)=true
  · try simp only[if_pos h4]
    exact cp ya (P4 (.f h4 (hT 65 .nil)))
  try simp only[if_neg h4]
  have P5 {hs q} (r:PS F X hs q):=(P4 (N h4 (U 65 r)))
  by_cases h5:(decide (((length (map b_si a0.f2)):Int) > a0.f0))=true
  · try simp only[if_pos h5]
    exact cp ya (P5 (.f h5 (.f h5 (.f h5 (.f h5 (.f h5 (hT 80 (hT 82 (hT 84 (hT 86 (hT 89 .nil)))))))))))
  try simp only[if_neg h5]
  have P6 {hs q} (r:PS F X hs q):=(P5 (N h5 (N h5 (N h5 (N h5 (N h5 (U 80 (U 82 (U 84 (U 86 (U 89 r)))))))))))
  by_cases h6:(decide (((length (map b_R a0.f3)):Int) > 6))=true
  · try simp only[if_pos h6]
    exact cp ya (P6 (.f h6 (.f h6 (.f h6 (.f h6 (.f h6 (hT 92 (hT 94 (hT 96 (hT 98 (hT 101 .nil)))))))))))
  try simp only[if_neg h6]
  have P7 {hs q} (r:PS F X hs q):=(P6 (N h6 (N h6 (N h6 (N h6 (N h6 (U 92 (U 94 (U 96 (U 98 (U 101 r)))))))))))
  by_cases h7:(decide (((length (map b_si a0.f4)):Int) > 8))=true
  · try simp only[if_pos h7]
    exact cp ya (P7 (.f h7 (hT 102 .nil)))
  try simp only[if_neg h7]
  have P8 {hs q} (r:PS F X hs q):=(P7 (N h7 (U 102 r)))
  cases h8:r14_0 a0 a0.f3 0 with
  |k0 w0_33 w1_33=>
    try dsimp only
    have f33:(⟨[(1,(.ptr ⟨(1,0,0),[],0,0,8⟩)),(56,(.one (.bor l0_3 (map b_R a0.f3)))),(57,(.oi ((length (map b_R a0.f3)):Int))),(58,(.oi 0))],[((1,0,0),.live ⟨8,[[(.i a0.f0),(.i a0.f1),(.bor l0_2 (map b_si a0.f2)),(.bor l0_3 (map b_R a0.f3)),(.bor l0_4 (map b_si a0.f4)),(.i a0.f5),(.i a0.f6),(.i a0.f7)]],[]⟩)]⟩:St)=h14_0 l0_2 l0_3 l0_4 a0 0 :=yu
    have P9 {hs q} (r:PS F X hs q):=(P8 (.f f33 (.f (ev_ (e:=ex14_0) (g:=(fin14_0 l0_2 l0_3 l0_4 a0)) h8 (t14_0 (l0_2:=l0_2) (l0_3:=l0_3) (l0_4:=l0_4) (a0:=a0) (by assumption) (by assumption) (by assumption) (by assumption) a0.f3 []  rfl)) (.h 111 (.loop (h14_0 l0_2 l0_3 l0_4 a0 0) (.exit 0) ⟨[(1,(.ptr ⟨(1,0,0),[],0,0,8⟩)),(56,(.one (.bor l0_3 (map b_R a0.f3)))),(57,(.oi ((length (map b_R a0.f3)):Int))),(58,(.oi w0_33)),(59,(.one (.val (.bool w1_33))))],[((1,0,0),.live ⟨8,[[(.i a0.f0),(.i a0.f1),(.bor l0_2 (map b_si a0.f2)),(.bor l0_3 (map b_R a0.f3)),(.bor l0_4 (map b_si a0.f4)),(.i a0.f5),(.i a0.f6),(.i a0.f7)]],[]⟩)]⟩) (.r 117 [] [] (e41 (l0_0:=(l0_4+1)) (a0:=a0.f4) (a1:=8) ‹_›) r)))))
    by_cases h9:(!(m41 a0.f4 8))=true
    · try simp only[if_pos h9]
      exact cp ya (P9 (.f h9 (hT 122 .nil)))
    try simp only[if_neg h9]
    have P10 {hs q} (r:PS F X hs q):=(P9 (N h9 (U 122 (.r 128 [] [] (e42 (l0_0:=(l0_4+1)) (a0:=a0.f4) ‹_›) (.f trivial (.f trivial (.r 146 [] [] (e33 (l0_0:=(l0_3+1)) (a0:=a0.f3) (a1:=2) ‹_› ‹_›) (.f trivial r))))))))
    by_cases h10:((wrap .i64 ((wrap .i64 ((m42 a0.f4)+a0.f6))+a0.f5)) !=(wrap .i64 ((m33 a0.f3 2)+a0.f7)))=true
    · try simp only[if_pos h10]
      exact cp ya (P10 (.f h10 (.f h10 (.f h10 (.f h10 (.f h10 (.f h10 (hT 157 (hT 159 (hT 161 (hT 163 (hT 165 (hT 168 .nil)))))))))))))
    try simp only[if_neg h10]
    have P11 {hs q} (r:PS F X hs q):=(P10 (N h10 (N h10 (N h10 (U 157 (U 159 (U 161 (.r 162 [] [] (e33 (l0_0:=(l0_3+1)) (a0:=a0.f3) (a1:=0) ‹_› ‹_›) (N h10 (U 163 (.r 164 [] [] (e29 (a0:=(m33 a0.f3 0))) (N h10 (N h10 (U 165 (U 168 r)))))))))))))))
    by_cases h11:(!(m57 (m33 a0.f3 0) 0 1000000))=true
    · try simp only[if_pos h11]
      exact cp ya (P11 (.f h11 (hT 171 .nil)))
    try simp only[if_neg h11]
    exact cp ya (P11 (N h11 (U 171 .nil)))
  |k1 w0_33=>
    try dsimp only
    have f33:(⟨[(1,(.ptr ⟨(1,0,0),[],0,0,8⟩)),(56,(.one (.bor l0_3 (map b_R a0.f3)))),(57,(.oi ((length (map b_R a0.f3)):Int))),(58,(.oi 0))],[((1,0,0),.live ⟨8,[[(.i a0.f0),(.i a0.f1),(.bor l0_2 (map b_si a0.f2)),(.bor l0_3 (map b_R a0.f3)),(.bor l0_4 (map b_si a0.f4)),(.i a0.f5),(.i a0.f6),(.i a0.f7)]],[]⟩)]⟩:St)=h14_0 l0_2 l0_3 l0_4 a0 0 :=yu
    exact cp ya (P8 (.f f33 (.f (ev_ (e:=ex14_0) (g:=(fin14_0 l0_2 l0_3 l0_4 a0)) h8 (t14_0 (l0_2:=l0_2) (l0_3:=l0_3) (l0_4:=l0_4) (a0:=a0) (by assumption) (by assumption) (by assumption) (by assumption) a0.f3 []  rfl)) (.h 111 (.loop (h14_0 l0_2 l0_3 l0_4 a0 0) .ret ⟨[(2,(.oi w0_33))],[]⟩) .nil))))
theorem ow14 {a:List K_si} {k:Int} (h:m41 a k=true):(a.length:Int)≤k:=by
  unfold m41 at h
  split at h
  · simpa using h
  cases h
theorem rl40 {x:K_R} {a:List K_R} (h:m40 x a=0):x.f3.length≤12:=by
  unfold m40 at h
  by_cases c:m41 x.f3 12=true
  · have:=ow14 c; omega
  exfalso
  have c:m41 x.f3 12=false:=by simpa using c
  simp only[c,Bool.not_false,if_true] at h
  (repeat' split at h)<;>simp at h
theorem rz14 (a0:K_B):∀(l:List K_R) (i:Int),((∃u v,r14_0 a0 l i=.k0 u v)∧∀z∈l,z.f3.length≤12)∨(∃w,r14_0 a0 l i=.k1 w∧w≠0)
  |[],i=>.inl ⟨⟨_,_,rfl⟩,fun z hz=>by cases hz⟩
  |x::l,i=>by
    have ih:=rz14 a0 l (i+1)
    simp only[r14_0]
    by_cases c:((m40 x (take (toNat i) a0.f3)) !=0)=true
    · rw[if_pos c]; exact .inr ⟨_,rfl,by simpa using c⟩
    rw[if_neg c]
    rcases ih with⟨h1,h2⟩ | h
    · refine .inl ⟨h1,fun z hz=>?_⟩
      rcases List.mem_cons.1 hz with rfl | hz
      · exact rl40 (by simpa using c)
      exact h2 z hz
    exact .inr h
theorem fs14 {a0:K_B} (h:¬((m14 a0) !=0)=true):a0.f2.length≤12∧a0.f3.length≤6∧(∀z∈a0.f3,z.f3.length≤12)∧a0.f4.length≤8:=by
  have h:m14 a0=0:=by simpa using h
  unfold m14 at h
  split at h
  · cases h
  split at h
  · cases h
  split at h
  · cases h
  split at h
  · cases h
  split at h
  · rename_i h2; rw[h] at h2; simp at h2
  rename_i h2
  split at h
  · cases h
  split at h
  · cases h
  rename_i h4
  split at h
  · cases h
  rename_i h5
  simp only[length_map,decide_eq_true_eq] at h4 h5
  rcases rz14 a0 a0.f3 0 with⟨_,hz⟩ |⟨w,hw,hn⟩
  · exact⟨len12_39 _ h2,by omega,hz,by omega⟩
  rw[hw] at h; exact absurd h hn
theorem fw14 {a0:K_B} (h:¬((m14 a0) !=0)=true):(∀z∈a0.f2,1≤z.f1∧z.f1≤9999)∧(0≤a0.f1∧a0.f1≤1000):=by
  have h:m14 a0=0:=by simpa using h
  unfold m14 at h
  split at h
  · cases h
  rename_i h1
  split at h
  · cases h
  split at h
  · cases h
  split at h
  · cases h
  split at h
  · rename_i h2; rw[h] at h2; simp at h2
  rename_i h2
  refine⟨wok39 _ h2,?_⟩
  have hr:m35 a0.f0 a0.f1=true:=by simpa using h1
  unfold m35 at hr
  split at hr
  · exact jn57 (by rw[hr]; simp)
  cases hr
theorem e55 {a0:List K_si} {l0:Nat} (hy0:length a0*24≤70368744177664):Ev F X (.call 55 [(.one (.bor l0 (map b_si a0)))] [] [] [(.one (.own 2 (map d_si a0)))]):=by
  refine .ext (.inl ⟨rfl,rfl,?_⟩) rfl
  have e:fromBR l0 (map b_si a0)=map d_si a0:=by first | exact fromBR_si .. | simp[fromBR_si]
  refine⟨l0,_,rfl,by rw[e],by rw[e]; simpa using hy0,by rw[e]; exact lenD_si _,by rw[e]; first | exact pureR_si _ | simp[pureR_si]⟩
inductive O52_0 where
  |k0 (w0:List K_R) (w1:Int) (w2:Bool)
def r52_0 (a0:K_B):List K_R→Int→List K_R→O52_0
  |x0::y0,i,v0=>
    (r52_0 a0 y0 (i+1) (v0++([x0])))
  |[],i,v0=>(O52_0.k0 v0 i (decide (i <((length (map b_R a0.f3)):Int))))
def h52_0 (l0_2:Nat) (l0_3:Nat) (l0_4:Nat) (a0:K_B) (i:Int) (v0:List K_R):St:=⟨[(1,(.ptr ⟨(1,0,0),[],0,0,8⟩)),(2,(.ptr ⟨(2,0,0),[],0,0,8⟩)),(3,(.one (.ref ⟨(3,0,0),[],0,(length (map d_R v0))⟩))),(16,(.one (.bor l0_3 (map b_R a0.f3)))),(17,(.one (.val (.int .i64 ((length (map b_R a0.f3)):Int))))),(18,(.one (.val (.int .i64 i))))],[((1,0,0),.live ⟨8,[[(.val (.int .i64 a0.f0)),(.val (.int .i64 a0.f1)),(.own 2 (map d_si a0.f2)),(.bor l0_3 (map b_R a0.f3)),(.own 2 (map d_si a0.f4)),(.val (.int .i64 a0.f5)),(.val (.int .i64 a0.f6)),(.val (.int .i64 a0.f7))]],[]⟩),((2,0,0),.live ⟨8,[[(.val (.int .i64 0)),(.val (.int .i64 0)),(.own 2 []),(.own 5 []),(.own 2 []),(.val (.int .i64 0)),(.val (.int .i64 0)),(.val (.int .i64 0))]],[]⟩),((3,0,0),.live ⟨5,(map d_R v0),[]⟩)]⟩
def ex52_0:O52_0→VX.Exit
  |.k0 _ _ _=>(.exit 0)
def fin52_0 (l0_2:Nat) (l0_3:Nat) (l0_4:Nat) (a0:K_B):O52_0→St
  |.k0 w0 w1 w2=>⟨[(1,(.ptr ⟨(1,0,0),[],0,0,8⟩)),(2,(.ptr ⟨(2,0,0),[],0,0,8⟩)),(3,(.one (.ref ⟨(3,0,0),[],0,(length (map d_R w0))⟩))),(16,(.one (.bor l0_3 (map b_R a0.f3)))),(17,(.one (.val (.int .i64 ((length (map b_R a0.f3)):Int))))),(18,(.one (.val (.int .i64 w1)))),(19,(.one (.val (.bool w2))))],[((1,0,0),.live ⟨8,[[(.val (.int .i64 a0.f0)),(.val (.int .i64 a0.f1)),(.own 2 (map d_si a0.f2)),(.bor l0_3 (map b_R a0.f3)),(.own 2 (map d_si a0.f4)),(.val (.int .i64 a0.f5)),(.val (.int .i64 a0.f6)),(.val (.int .i64 a0.f7))]],[]⟩),((2,0,0),.live ⟨8,[[(.val (.int .i64 0)),(.val (.int .i64 0)),(.own 2 []),(.own 5 []),(.own 2 []),(.val (.int .i64 0)),(.val (.int .i64 0)),(.val (.int .i64 0))]],[]⟩),((3,0,0),.live ⟨5,(map d_R w0),[]⟩)]⟩
theorem t52_0 {l0_2:Nat} {l0_3:Nat} {l0_4:Nat} {a0:K_B} (hy0:length a0.f2≤100) (hy1:length a0.f3≤100) (hy2:∀z∈a0.f3,length z.f3≤100) (hy3:length a0.f4≤100) (hy4:∀z∈a0.f3,ok_R z):∀(y0:List K_R) (p:List K_R) (v0:List K_R),p++y0=a0.f3→(length v0+length y0)*56≤70368744177664→Ev F X (.code l52_0 (h52_0 l0_2 l0_3 l0_4 a0 (length p:Int) v0) (ex52_0 (r52_0 a0 y0 (length p:Int) v0)) (fin52_0 l0_2 l0_3 l0_4 a0 (r52_0 a0 y0 (length p:Int) v0)))
  |[],p,v0,hp0,hi0=>by
    have hc:¬(decide ((length p:Int) <((length (map b_R a0.f3)):Int)))=true:=by
      rw[← hp0]; simp only[LN,decide_eq_true_eq]; omega
    have hj0:=hi0; try simp only[LN,Int.toNat_natCast] at hj0
    have st:=ch b52_0 (h52_0 l0_2 l0_3 l0_4 a0 (length p:Int) v0) ⟨[(1,(.ptr ⟨(1,0,0),[],0,0,8⟩)),(2,(.ptr ⟨(2,0,0),[],0,0,8⟩)),(3,(.one (.ref ⟨(3,0,0),[],0,(length (map d_R v0))⟩))),(16,(.one (.bor l0_3 (map b_R a0.f3)))),(17,(.oi ((length (map b_R a0.f3)):Int))),(18,(.oi (length p:Int))),(19,(.one (.val (.bool (decide ((length p:Int) <((length (map b_R a0.f3)):Int)))))))],[((1,0,0),.live ⟨8,[[(.i a0.f0),(.i a0.f1),(.own 2 (map d_si a0.f2)),(.bor l0_3 (map b_R a0.f3)),(.own 2 (map d_si a0.f4)),(.i a0.f5),(.i a0.f6),(.i a0.f7)]],[]⟩),((2,0,0),.live ⟨8,[[(.i 0),(.i 0),(.own 2 []),(.own 5 []),(.own 2 []),(.i 0),(.i 0),(.i 0)]],[]⟩),((3,0,0),.live ⟨5,(map d_R v0),[]⟩)]⟩ (.exit 0) 3 (by kernel_rfl) (.f (nt hc) (U 2 .nil))
    rw[show (⟨[(1,(.ptr ⟨(1,0,0),[],0,0,8⟩)),(2,(.ptr ⟨(2,0,0),[],0,0,8⟩)),(3,(.one (.ref ⟨(3,0,0),[],0,(length (map d_R v0))⟩))),(16,(.one (.bor l0_3 (map b_R a0.f3)))),(17,(.oi ((length (map b_R a0.f3)):Int))),(18,(.oi (length p:Int))),(19,(.one (.val (.bool (decide ((length p:Int) <((length (map b_R a0.f3)):Int)))))))],[((1,0,0),.live ⟨8,[[(.i a0.f0),(.i a0.f1),(.own 2 (map d_si a0.f2)),(.bor l0_3 (map b_R a0.f3)),(.own 2 (map d_si a0.f4)),(.i a0.f5),(.i a0.f6),(.i a0.f7)]],[]⟩),((2,0,0),.live ⟨8,[[(.i 0),(.i 0),(.own 2 []),(.own 5 []),(.own 2 []),(.i 0),(.i 0),(.i 0)]],[]⟩),((3,0,0),.live ⟨5,(map d_R v0),[]⟩)]⟩:St)=fin52_0 l0_2 l0_3 l0_4 a0 (.k0 v0 (length p:Int) (decide ((length p:Int) <((length (map b_R a0.f3)):Int)))) from(by rfl)] at st
    exact .loopX st (show ((.exit 0):VX.Exit)≠.normal from by simp)
  |x0::y0,p,v0,hp0,hi0=>by
    have hc:(decide ((length p:Int) <((length (map b_R a0.f3)):Int)))=true:=by
      rw[← hp0]; simp only[LN,decide_eq_true_eq]; omega
    have Hx0:(a0.f3)[toNat (length p:Int)]?=some x0:=by
      rw[← hp0,Int.toNat_natCast]; simp
    have Nx0_2:=hy2 x0 (List.mem_of_getElem? Hx0)
    have Mx0_0:=hy4 x0 (List.mem_of_getElem? Hx0)
    have hlen:length (a0.f3)=length p+length y0+1:=by rw[← hp0]; simp; omega
    have hw:wrap .i64 ((length p:Int)+1)=(length p:Int)+1:=wrap64 (by omega)
    have hj0:=hi0; try simp only[LN,Int.toNat_natCast] at hj0
    simp only[r52_0]
    have f1:0≤(length p:Int):=(by omega)
    have f3:Ev F X (.call 55 [(.one (.bor (l0_3+1) (map b_si x0.f3)))] [] [] [(.one (.own 2 (map d_si x0.f3)))]):=(e55 (a0:=x0.f3) (by omega))
    have f8:0+(length (map d_R v0))≤(length (map d_R v0)):=(by omega)
    have f9:1≤1:=(by omega)
    have f10:((take 1 (drop 0 [[(.i x0.f0),(.i x0.f1),(.i x0.f2),(.own 2 (map d_si x0.f3)),(.i x0.f4)]])).all fun x=>x.all copyable)=false:=(by trivial)
    have f13:(length ((take (length (map d_R v0)) (drop 0 (map d_R v0)))++([[(.i x0.f0),(.i x0.f1),(.i x0.f2),(.own 2 (map d_si x0.f3)),(.i x0.f4)]]:List (List D))))*56≤70368744177664:=(by simp only[length_map,length_append,length_cons,length_nil,length_take,length_drop]; omega)
    have f14:∀r∈([[(.i x0.f0),(.i x0.f1),(.i x0.f2),(.own 2 (map d_si x0.f3)),(.i x0.f4)]]:List (List D)),r.length=5:=(by simp; done)
    have f15:((take (length (map d_R v0)) (drop 0 (map d_R v0)))++([[(.i x0.f0),(.i x0.f1),(.i x0.f2),(.own 2 (map d_si x0.f3)),(.i x0.f4)]]:List (List D)))=(map d_R (v0++([x0]))):=(by simp[take_of_length_le,d_si,d_R]; done)
    have st:=ch b52_0 (h52_0 l0_2 l0_3 l0_4 a0 (length p:Int) v0) ⟨[(1,(.ptr ⟨(1,0,0),[],0,0,8⟩)),(2,(.ptr ⟨(2,0,0),[],0,0,8⟩)),(3,(.one (.ref ⟨(3,0,0),[],0,(length ((take (length (map d_R v0)) (drop 0 (map d_R v0)))++([[(.i x0.f0),(.i x0.f1),(.i x0.f2),(.own 2 (map d_si x0.f3)),(.i x0.f4)]]:List (List D))))⟩))),(16,(.one (.bor l0_3 (map b_R a0.f3)))),(17,(.oi ((length (map b_R a0.f3)):Int))),(18,(.oi (wrap .i64 ((length p:Int)+1))))],[((1,0,0),.live ⟨8,[[(.i a0.f0),(.i a0.f1),(.own 2 (map d_si a0.f2)),(.bor l0_3 (map b_R a0.f3)),(.own 2 (map d_si a0.f4)),(.i a0.f5),(.i a0.f6),(.i a0.f7)]],[]⟩),((2,0,0),.live ⟨8,[[(.i 0),(.i 0),(.own 2 []),(.own 5 []),(.own 2 []),(.i 0),(.i 0),(.i 0)]],[]⟩),((3,0,0),.live ⟨5,(map d_R (v0++([x0]))),[]⟩)]⟩ .normal 36 (by kernel_rfl) (.f hc (.f f1 (.f (mp_ b_R Hx0) (hT 2 (.h 4 (.row [(.i x0.f0),(.i x0.f1),(.i x0.f2),(.sl (map b_si x0.f3)),(.i x0.f4)]) (.r 16 [] [] f3 (pe 0 (pe (length (map d_si x0.f3)) (pe 0 (pe (length (map d_si x0.f3)) (.f f8 (.f f9 (.f f10 (pe 0 (pe 1 (.f f13 (.f f14 (.f f15 (.f trivial (U 28 (.h 31 (.norm (3,0,0) (map d_R (v0++([x0])))) .nil)))))))))))))))))))))
    have ih:=t52_0 (l0_2:=l0_2) (l0_3:=l0_3) (l0_4:=l0_4) (a0:=a0) hy0 hy1 hy2 hy3 hy4 y0 (p++ [x0]) (v0++([x0])) (by rw[append_assoc]; exact hp0) (by simp only[LN]; omega)
    rw[show ((p++ [x0]).length:Int)=(p.length:Int)+1 from by simp] at ih
    rw[show (⟨[(1,(.ptr ⟨(1,0,0),[],0,0,8⟩)),(2,(.ptr ⟨(2,0,0),[],0,0,8⟩)),(3,(.one (.ref ⟨(3,0,0),[],0,(length ((take (length (map d_R v0)) (drop 0 (map d_R v0)))++([[(.i x0.f0),(.i x0.f1),(.i x0.f2),(.own 2 (map d_si x0.f3)),(.i x0.f4)]]:List (List D))))⟩))),(16,(.one (.bor l0_3 (map b_R a0.f3)))),(17,(.oi ((length (map b_R a0.f3)):Int))),(18,(.oi (wrap .i64 ((length p:Int)+1))))],[((1,0,0),.live ⟨8,[[(.i a0.f0),(.i a0.f1),(.own 2 (map d_si a0.f2)),(.bor l0_3 (map b_R a0.f3)),(.own 2 (map d_si a0.f4)),(.i a0.f5),(.i a0.f6),(.i a0.f7)]],[]⟩),((2,0,0),.live ⟨8,[[(.i 0),(.i 0),(.own 2 []),(.own 5 []),(.own 2 []),(.i 0),(.i 0),(.i 0)]],[]⟩),((3,0,0),.live ⟨5,(map d_R (v0++([x0]))),[]⟩)]⟩:St)=h52_0 l0_2 l0_3 l0_4 a0 ((length p:Int)+1) (v0++([x0])) from(by unfold h52_0; simp[hw,take_of_length_le,d_si,d_R]; done)] at st
    exact .loopN st ih
def post52_0 (n0:Nat):O52_0→Prop
  |.k0 w0 _ _=>length w0=n0
theorem z52_0 {a0:K_B}:∀(y0:List K_R) (i:Int) (v0:List K_R),post52_0 (length v0+length y0) (r52_0 a0 y0 i v0)
  |[],i,v0=>by
    first | trivial |(simp only[post52_0,length_nil,Nat.add_zero]; done) |(simp[post52_0]; done)
  |x0::y0,i,v0=>by
    simp only[r52_0]
    have z:=z52_0 (a0:=a0) y0 (i+1) (v0++([x0]))
    rw[show (length v0+length (x0::y0))=(length (v0++([x0]))+length y0) from by first | omega |(simp only[LN]; done) |(simp only[LN]; omega)]
    exact z
def m52 (a0:K_B):K_B:=
  (match r52_0 a0 a0.f3 0 ([]) with | .k0 w0_2 w1_2 w2_2=>(K_B.mk a0.f0 a0.f1 a0.f2 w0_2 a0.f4 a0.f5 a0.f6 a0.f7))
theorem e52 {l0_2:Nat} {l0_3:Nat} {l0_4:Nat} {a0:K_B} (hy0:length a0.f2≤100) (hy1:length a0.f3≤100) (hy2:∀z∈a0.f3,length z.f3≤100) (hy3:length a0.f4≤100) (hy4:∀z∈a0.f3,ok_R z):Ev F X (.call 52 [(.agg (k_B l0_2 l0_3 l0_4 a0))] [] [] [(.agg (d_B (m52 a0)))]):=by
  unfold m52
  have f0:Ev F X (.call 55 [(.one (.bor (l0_2+1) (map b_si a0.f2)))] [] [] [(.one (.own 2 (map d_si a0.f2)))]):=(e55 (a0:=a0.f2) yd)
  have f1:Ev F X (.call 55 [(.one (.bor (l0_4+1) (map b_si a0.f4)))] [] [] [(.one (.own 2 (map d_si a0.f4)))]):=(e55 (a0:=a0.f4) yd)
  cases h0:r52_0 a0 a0.f3 0 ([]) with
  |k0 w0_2 w1_2 w2_2=>
    try dsimp only
    have zh0:=z52_0 (a0:=a0) a0.f3 0 ([]); rw[h0] at zh0; simp only[post52_0,length_map,length_set,length_append,length_replicate,length_cons,length_nil,Int.toNat_natCast] at zh0
    have f6:(⟨[(1,(.ptr ⟨(1,0,0),[],0,0,8⟩)),(2,(.ptr ⟨(2,0,0),[],0,0,8⟩)),(3,(.one (.ref ⟨(3,0,0),[],0,0⟩))),(16,(.one (.bor l0_3 (map b_R a0.f3)))),(17,(.oi ((length (map b_R a0.f3)):Int))),(18,(.oi 0))],[((1,0,0),.live ⟨8,[[(.i a0.f0),(.i a0.f1),(.own 2 (map d_si a0.f2)),(.bor l0_3 (map b_R a0.f3)),(.own 2 (map d_si a0.f4)),(.i a0.f5),(.i a0.f6),(.i a0.f7)]],[]⟩),((2,0,0),.live ⟨8,[[(.i 0),(.i 0),(.own 2 []),(.own 5 []),(.own 2 []),(.i 0),(.i 0),(.i 0)]],[]⟩),((3,0,0),.live ⟨5,[],[]⟩)]⟩:St)=h52_0 l0_2 l0_3 l0_4 a0 0 ([]):=yu
    exact cp ya (.r 9 [] [] f0 (.r 15 [] [] f1 (pe 0 (pe (length (map d_si a0.f2)) (pe 0 (pe (length (map d_si a0.f4)) (.f f6 (.f (ev_ (e:=ex52_0) (g:=(fin52_0 l0_2 l0_3 l0_4 a0)) h0 (t52_0 (l0_2:=l0_2) (l0_3:=l0_3) (l0_4:=l0_4) (a0:=a0) (by assumption) (by assumption) (by assumption) (by assumption) (by assumption) a0.f3 [] ([]) rfl yy)) (pe 0 (pe (length (map d_R w0_2)) (p3 a0.f2 w0_2 a0.f4 (.f (pureR_si a0.f2) (.f (pureR_R w0_2) (.f (pureR_si a0.f4) (.h 36 (.loop (h52_0 l0_2 l0_3 l0_4 a0 0 ([])) (.exit 0) ⟨[(1,(.ptr ⟨(1,0,0),[],0,0,8⟩)),(2,(.ptr ⟨(2,0,0),[],0,0,8⟩)),(3,(.one (.ref ⟨(3,0,0),[],0,(length (map d_R w0_2))⟩))),(16,(.one (.bor l0_3 (map b_R a0.f3)))),(17,(.oi ((length (map b_R a0.f3)):Int))),(18,(.oi w1_2)),(19,(.one (.val (.bool w2_2))))],[((1,0,0),.live ⟨8,[[(.i a0.f0),(.i a0.f1),(.own 2 (map d_si a0.f2)),(.bor l0_3 (map b_R a0.f3)),(.own 2 (map d_si a0.f4)),(.i a0.f5),(.i a0.f6),(.i a0.f7)]],[]⟩),((2,0,0),.live ⟨8,[[(.i 0),(.i 0),(.own 2 []),(.own 5 []),(.own 2 []),(.i 0),(.i 0),(.i 0)]],[]⟩),((3,0,0),.live ⟨5,(map d_R w0_2),[]⟩)]⟩) .nil)))))))))))))))
theorem cl52 (a0:K_B):∀(l:List K_R) (i:Int) (v:List K_R),∃j b,r52_0 a0 l i v=.k0 (v++l) j b
  |[],i,v=>⟨_,_,by rw[List.append_nil]; rfl⟩
  |x::l,i,v=>by
    obtain⟨j,b,h⟩:=cl52 a0 l (i+1) (v++ [x])
    refine⟨j,b,?_⟩
    simp only[r52_0]
    rw[show v++x::l=(v++ [x])++l by simp,← h]
theorem cp52 (a0:K_B):m52 a0=a0:=by
  unfold m52
  obtain⟨j,b,h⟩:=cl52 a0 a0.f3 0 []
  rw[h]; rfl
inductive O27_0 where
  |k0 (w0:List K_si) (w1:Int) (w2:Bool)
def r27_0 (a0:K_B) (a1:Nat):List K_si→Int→List K_si→O27_0
  |x0::y0,i,v0=>
    if(decide ((m1007600 v0 x0.f0)≥0))=true then(r27_0 a0 a1 y0 (i+1) (set v0 (toNat (m1007600 v0 x0.f0)) (K_si.mk ((getD v0 (toNat (m1007600 v0 x0.f0)) (K_si.mk (⟨#[]⟩:ByteArray) 0)).f0) (wrap .i64 (((getD v0 (toNat (m1007600 v0 x0.f0)) (K_si.mk (⟨#[]⟩:ByteArray) 0)).f1)+x0.f1))))) else
    (r27_0 a0 a1 y0 (i+1) (v0++([x0])))
  |[],i,v0=>(O27_0.k0 v0 i (decide (i <((length (map d_si ((getD a0.f3 a1 (K_R.mk 0 0 0 [] 0)).f3))):Int))))
def h27_0 (a0:K_B) (a1:Nat) (i:Int) (v0:List K_si):St:=⟨[(0,(.ptr ⟨(0,0,0),[],0,0,8⟩)),(1,(.ptr ⟨(0,0,0),[(0,3)],a1,0,5⟩)),(5,(.one (.ref ⟨(5,0,0),[],0,(length (map d_si v0))⟩))),(17,(.one (.ref ⟨(0,0,0),[(0,3),(a1,3)],0,(length (map d_si ((getD a0.f3 a1 (K_R.mk 0 0 0 [] 0)).f3)))⟩))),(18,(.one (.val (.int .i64 ((length (map d_si ((getD a0.f3 a1 (K_R.mk 0 0 0 [] 0)).f3))):Int))))),(19,(.one (.val (.int .i64 i))))],[((0,0,0),.live ⟨8,[(d_B a0)],[]⟩),((5,0,0),.live ⟨2,(map d_si v0),[]⟩)]⟩
def ex27_0:O27_0→VX.Exit
  |.k0 _ _ _=>(.exit 0)
def fin27_0 (a0:K_B) (a1:Nat):O27_0→St
  |.k0 w0 w1 w2=>⟨[(0,(.ptr ⟨(0,0,0),[],0,0,8⟩)),(1,(.ptr ⟨(0,0,0),[(0,3)],a1,0,5⟩)),(5,(.one (.ref ⟨(5,0,0),[],0,(length (map d_si w0))⟩))),(17,(.one (.ref ⟨(0,0,0),[(0,3),(a1,3)],0,(length (map d_si ((getD a0.f3 a1 (K_R.mk 0 0 0 [] 0)).f3)))⟩))),(18,(.one (.val (.int .i64 ((length (map d_si ((getD a0.f3 a1 (K_R.mk 0 0 0 [] 0)).f3))):Int))))),(19,(.one (.val (.int .i64 w1)))),(20,(.one (.val (.bool w2))))],[((0,0,0),.live ⟨8,[(d_B a0)],[]⟩),((5,0,0),.live ⟨2,(map d_si w0),[]⟩)]⟩
theorem t27_0 {a0:K_B} {a1:Nat} (hy0:length a0.f2≤100) (hy1:length a0.f3≤100) (hy2:∀z∈a0.f3,length z.f3≤100) (hy3:length a0.f4≤100) (hy4:∀z∈a0.f3,ok_R z) (hy5:a1 < length a0.f3):∀(y0:List K_si) (p:List K_si) (v0:List K_si),p++y0=(getD a0.f3 a1 (K_R.mk 0 0 0 [] 0)).f3→(length v0+length y0)*24≤70368744177664→Ev F X (.code l27_0 (h27_0 a0 a1 (length p:Int) v0) (ex27_0 (r27_0 a0 a1 y0 (length p:Int) v0)) (fin27_0 a0 a1 (r27_0 a0 a1 y0 (length p:Int) v0)))
  |[],p,v0,hp0,hi0=>by
    have hc:¬(decide ((length p:Int) <((length (map d_si ((getD a0.f3 a1 (K_R.mk 0 0 0 [] 0)).f3))):Int)))=true:=by
      rw[← hp0]; simp only[length_map,length_set,length_append,length_replicate,length_cons,length_nil,decide_eq_true_eq]; omega
    have hj0:=hi0; try simp only[length_map,length_set,length_append,length_replicate,length_cons,length_nil,Int.toNat_natCast] at hj0
    have st:=ch b27_0 (h27_0 a0 a1 (length p:Int) v0) ⟨[(0,(.ptr ⟨(0,0,0),[],0,0,8⟩)),(1,(.ptr ⟨(0,0,0),[(0,3)],a1,0,5⟩)),(5,(.one (.ref ⟨(5,0,0),[],0,(length (map d_si v0))⟩))),(17,(.one (.ref ⟨(0,0,0),[(0,3),(a1,3)],0,(length (map d_si ((getD a0.f3 a1 (K_R.mk 0 0 0 [] 0)).f3)))⟩))),(18,(.oi ((length (map d_si ((getD a0.f3 a1 (K_R.mk 0 0 0 [] 0)).f3))):Int))),(19,(.oi (length p:Int))),(20,(.one (.val (.bool (decide ((length p:Int) <((length (map d_si ((getD a0.f3 a1 (K_R.mk 0 0 0 [] 0)).f3))):Int)))))))],[((0,0,0),.live ⟨8,[(d_B a0)],[]⟩),((5,0,0),.live ⟨2,(map d_si v0),[]⟩)]⟩ (.exit 0) 3 (by kernel_rfl) (.f (nt hc) (U 2 .nil))
    rw[show (⟨[(0,(.ptr ⟨(0,0,0),[],0,0,8⟩)),(1,(.ptr ⟨(0,0,0),[(0,3)],a1,0,5⟩)),(5,(.one (.ref ⟨(5,0,0),[],0,(length (map d_si v0))⟩))),(17,(.one (.ref ⟨(0,0,0),[(0,3),(a1,3)],0,(length (map d_si ((getD a0.f3 a1 (K_R.mk 0 0 0 [] 0)).f3)))⟩))),(18,(.oi ((length (map d_si ((getD a0.f3 a1 (K_R.mk 0 0 0 [] 0)).f3))):Int))),(19,(.oi (length p:Int))),(20,(.one (.val (.bool (decide ((length p:Int) <((length (map d_si ((getD a0.f3 a1 (K_R.mk 0 0 0 [] 0)).f3))):Int)))))))],[((0,0,0),.live ⟨8,[(d_B a0)],[]⟩),((5,0,0),.live ⟨2,(map d_si v0),[]⟩)]⟩:St)=fin27_0 a0 a1 (.k0 v0 (length p:Int) (decide ((length p:Int) <((length (map d_si ((getD a0.f3 a1 (K_R.mk 0 0 0 [] 0)).f3))):Int)))) from(by rfl)] at st
    exact .loopX st (show ((.exit 0):VX.Exit)≠.normal from by simp)
  |x0::y0,p,v0,hp0,hi0=>by
    have hc:(decide ((length p:Int) <((length (map d_si ((getD a0.f3 a1 (K_R.mk 0 0 0 [] 0)).f3))):Int)))=true:=by
      rw[← hp0]; simp only[length_map,length_set,length_append,length_replicate,length_cons,length_nil,decide_eq_true_eq]; omega
    have Hx0:((getD a0.f3 a1 (K_R.mk 0 0 0 [] 0)).f3)[toNat (length p:Int)]?=some x0:=by
      rw[← hp0,Int.toNat_natCast]; simp
    have hlen:length ((getD a0.f3 a1 (K_R.mk 0 0 0 [] 0)).f3)=length p+length y0+1:=by rw[← hp0]; simp; omega
    have hw:wrap .i64 ((length p:Int)+1)=(length p:Int)+1:=wrap64 (by have q2:=og100 ‹_› a1; omega)
    have hj0:=hi0; try simp only[length_map,length_set,length_append,length_replicate,length_cons,length_nil,Int.toNat_natCast] at hj0
    simp only[r27_0]
    have f1:nav 8 [(d_B a0)] [(0,3),(a1,3)]=some (2,(map d_si ((getD a0.f3 a1 (K_R.mk 0 0 0 [] 0)).f3))):=(by simp[nav, *,byteRows_eq,ints_y,take_of_length_le,d_y,d_LyE,d_b,d_si,d_R,d_B,d_i,d_C,d_LyEi,d_Q,d_LiE,d_LsiE,d_s,fromBR_y,fromBR_b,fromBR_si,fromBR_i,fromBR_s]; done)
    have f2:0+(length (map d_si ((getD a0.f3 a1 (K_R.mk 0 0 0 [] 0)).f3)))≤(length (map d_si ((getD a0.f3 a1 (K_R.mk 0 0 0 [] 0)).f3))):=(by omega)
    have f3:0≤(length p:Int)∧(length p:Int) <((length (map d_si ((getD a0.f3 a1 (K_R.mk 0 0 0 [] 0)).f3))):Int):=(by have q2:=og100 ‹_› a1; simp only[length_map] at*; omega)
    have P1 {hs q} (r:PS F X hs q):=(PS.f hc (.f f1 (.f f2 (.f f3 (.f f1 (.f (mz_ d_si Hx0) (ln_si v0 (hT 2 (.h 4 (.nav [((0,0,0),[3,3],2,(map d_si ((getD a0.f3 a1 (K_R.mk 0 0 0 [] 0)).f3)))] [] (.nop)) (.h 6 (.nav [((0,0,0),[3,3],2,(map d_si ((getD a0.f3 a1 (K_R.mk 0 0 0 [] 0)).f3)))] [] (.rowD (d_si x0))) (.r 18 [] [(map b_si v0)] (e56 (l0_0:=0) (a0:=v0) (a1:=x0.f0) (by omega)) r)))))))))))
    by_cases h_1:(decide ((m1007600 v0 x0.f0)≥0))=true
    · try simp only[if_pos h_1]
      have f11:0+(length (map d_si v0))≤(length (map d_si v0)):=(by omega)
      have f12:0≤(m1007600 v0 x0.f0)∧(m1007600 v0 x0.f0) <((length (map d_si v0)):Int):=(by have q:=ix1007600 v0 x0.f0; simp only[decide_eq_true_eq,length_map] at*; omega)
      have f18:(set (map d_si v0) (0+(toNat (m1007600 v0 x0.f0))) [(.val (.string ((getD v0 (toNat (m1007600 v0 x0.f0)) (K_si.mk (⟨#[]⟩:ByteArray) 0)).f0))),(.val (.int .i64 (wrap .i64 (((getD v0 (toNat (m1007600 v0 x0.f0)) (K_si.mk (⟨#[]⟩:ByteArray) 0)).f1)+x0.f1))))])=(map d_si (set v0 (toNat (m1007600 v0 x0.f0)) (K_si.mk ((getD v0 (toNat (m1007600 v0 x0.f0)) (K_si.mk (⟨#[]⟩:ByteArray) 0)).f0) (wrap .i64 (((getD v0 (toNat (m1007600 v0 x0.f0)) (K_si.mk (⟨#[]⟩:ByteArray) 0)).f1)+x0.f1))))):=(by simp[byteRows_eq,ints_y,take_of_length_le,d_y,d_LyE,d_b,d_si,d_R,d_B,d_i,d_C,d_LyEi,d_Q,d_LiE,d_LsiE,d_s,fromBR_y,fromBR_b,fromBR_si,fromBR_i,fromBR_s]; done)
      have st:=ch b27_0 (h27_0 a0 a1 (length p:Int) v0) ⟨[(0,(.ptr ⟨(0,0,0),[],0,0,8⟩)),(1,(.ptr ⟨(0,0,0),[(0,3)],a1,0,5⟩)),(5,(.one (.ref ⟨(5,0,0),[],0,(length (map d_si v0))⟩))),(17,(.one (.ref ⟨(0,0,0),[(0,3),(a1,3)],0,(length (map d_si ((getD a0.f3 a1 (K_R.mk 0 0 0 [] 0)).f3)))⟩))),(18,(.oi ((length (map d_si ((getD a0.f3 a1 (K_R.mk 0 0 0 [] 0)).f3))):Int))),(19,(.oi (wrap .i64 ((length p:Int)+1))))],[((0,0,0),.live ⟨8,[(d_B a0)],[]⟩),((5,0,0),.live ⟨2,(map d_si (set v0 (toNat (m1007600 v0 x0.f0)) (K_si.mk ((getD v0 (toNat (m1007600 v0 x0.f0)) (K_si.mk (⟨#[]⟩:ByteArray) 0)).f0) (wrap .i64 (((getD v0 (toNat (m1007600 v0 x0.f0)) (K_si.mk (⟨#[]⟩:ByteArray) 0)).f1)+x0.f1))))),[]⟩)]⟩ .normal 53 (by kernel_rfl) (P1 (.f h_1 (.f f11 (.f f12 (.f (mz_ d_si (getD_at v0 (toNat (m1007600 v0 x0.f0)) (K_si.mk (⟨#[]⟩:ByteArray) 0) (by have q2:=og100 ‹_› a1; simp only[length_map] at*; omega))) (.f trivial (.f f11 (.f f12 (.f (mz_ d_si (getD_at v0 (toNat (m1007600 v0 x0.f0)) (K_si.mk (⟨#[]⟩:ByteArray) 0) (by have q2:=og100 ‹_› a1; simp only[length_map] at*; omega))) (.f f18 (.f trivial (hT 25 (.h 35 (.rowD (d_si (getD v0 (toNat (m1007600 v0 x0.f0)) (K_si.mk (⟨#[]⟩:ByteArray) 0)))) (.h 47 (.rowD (d_si (getD v0 (toNat (m1007600 v0 x0.f0)) (K_si.mk (⟨#[]⟩:ByteArray) 0)))) (.h 48 (.norm (5,0,0) (map d_si (set v0 (toNat (m1007600 v0 x0.f0)) (K_si.mk ((getD v0 (toNat (m1007600 v0 x0.f0)) (K_si.mk (⟨#[]⟩:ByteArray) 0)).f0) (wrap .i64 (((getD v0 (toNat (m1007600 v0 x0.f0)) (K_si.mk (⟨#[]⟩:ByteArray) 0)).f1)+x0.f1)))))) .nil)))))))))))))))
      have ih:=t27_0 (a0:=a0) (a1:=a1) hy0 hy1 hy2 hy3 hy4 hy5 y0 (p++ [x0]) (set v0 (toNat (m1007600 v0 x0.f0)) (K_si.mk ((getD v0 (toNat (m1007600 v0 x0.f0)) (K_si.mk (⟨#[]⟩:ByteArray) 0)).f0) (wrap .i64 (((getD v0 (toNat (m1007600 v0 x0.f0)) (K_si.mk (⟨#[]⟩:ByteArray) 0)).f1)+x0.f1)))) (by rw[append_assoc]; exact hp0) (by simp only[length_map,length_set,length_append,length_replicate,length_cons,length_nil]; omega)
      rw[show ((p++ [x0]).length:Int)=(p.length:Int)+1 from by simp] at ih
      rw[show (⟨[(0,(.ptr ⟨(0,0,0),[],0,0,8⟩)),(1,(.ptr ⟨(0,0,0),[(0,3)],a1,0,5⟩)),(5,(.one (.ref ⟨(5,0,0),[],0,(length (map d_si v0))⟩))),(17,(.one (.ref ⟨(0,0,0),[(0,3),(a1,3)],0,(length (map d_si ((getD a0.f3 a1 (K_R.mk 0 0 0 [] 0)).f3)))⟩))),(18,(.oi ((length (map d_si ((getD a0.f3 a1 (K_R.mk 0 0 0 [] 0)).f3))):Int))),(19,(.oi (wrap .i64 ((length p:Int)+1))))],[((0,0,0),.live ⟨8,[(d_B a0)],[]⟩),((5,0,0),.live ⟨2,(map d_si (set v0 (toNat (m1007600 v0 x0.f0)) (K_si.mk ((getD v0 (toNat (m1007600 v0 x0.f0)) (K_si.mk (⟨#[]⟩:ByteArray) 0)).f0) (wrap .i64 (((getD v0 (toNat (m1007600 v0 x0.f0)) (K_si.mk (⟨#[]⟩:ByteArray) 0)).f1)+x0.f1))))),[]⟩)]⟩:St)=h27_0 a0 a1 ((length p:Int)+1) (set v0 (toNat (m1007600 v0 x0.f0)) (K_si.mk ((getD v0 (toNat (m1007600 v0 x0.f0)) (K_si.mk (⟨#[]⟩:ByteArray) 0)).f0) (wrap .i64 (((getD v0 (toNat (m1007600 v0 x0.f0)) (K_si.mk (⟨#[]⟩:ByteArray) 0)).f1)+x0.f1)))) from(by unfold h27_0; simp only[hw,length_map,length_set,length_append,length_replicate,length_cons,length_nil]; done)] at st
      exact .loopN st ih
    try simp only[if_neg h_1]
    have f11:0+(length (map d_si v0))≤(length (map d_si v0)):=(by omega)
    have f12:1≤1:=(by omega)
    have f13:((take 1 (drop 0 [[(.val (.string x0.f0)),(.val (.int .i64 x0.f1))]])).all fun x=>x.all copyable)=true:=(by trivial)
    have f14:(length ((take (length (map d_si v0)) (drop 0 (map d_si v0)))++([[(.val (.string x0.f0)),(.val (.int .i64 x0.f1))]]:List (List D))))*24≤70368744177664:=(by simp only[length_map,length_append,length_cons,length_nil,length_take,length_drop]; omega)
    have f15:∀r∈([[(.val (.string x0.f0)),(.val (.int .i64 x0.f1))]]:List (List D)),r.length=2:=(by simp; done)
    have f16:((take (length (map d_si v0)) (drop 0 (map d_si v0)))++([[(.val (.string x0.f0)),(.val (.int .i64 x0.f1))]]:List (List D)))=(map d_si (v0++([x0]))):=(by simp[byteRows_eq,ints_y,take_of_length_le,d_y,d_LyE,d_b,d_si,d_R,d_B,d_i,d_C,d_LyEi,d_Q,d_LiE,d_LsiE,d_s,fromBR_y,fromBR_b,fromBR_si,fromBR_i,fromBR_s]; done)
    have st:=ch b27_0 (h27_0 a0 a1 (length p:Int) v0) ⟨[(0,(.ptr ⟨(0,0,0),[],0,0,8⟩)),(1,(.ptr ⟨(0,0,0),[(0,3)],a1,0,5⟩)),(5,(.one (.ref ⟨(5,0,0),[],0,(length ((take (length (map d_si v0)) (drop 0 (map d_si v0)))++([[(.val (.string x0.f0)),(.i x0.f1)]]:List (List D))))⟩))),(17,(.one (.ref ⟨(0,0,0),[(0,3),(a1,3)],0,(length (map d_si ((getD a0.f3 a1 (K_R.mk 0 0 0 [] 0)).f3)))⟩))),(18,(.oi ((length (map d_si ((getD a0.f3 a1 (K_R.mk 0 0 0 [] 0)).f3))):Int))),(19,(.oi (wrap .i64 ((length p:Int)+1))))],[((0,0,0),.live ⟨8,[(d_B a0)],[]⟩),((5,0,0),.live ⟨2,(map d_si (v0++([x0]))),[]⟩)]⟩ .normal 41 (by kernel_rfl) (P1 (.f (nt h_1) (.f f11 (.f f12 (.f f13 (.f f14 (.f f15 (.f f16 (.f trivial (U 25 (hT 33 (.h 36 (.norm (5,0,0) (map d_si (v0++([x0])))) .nil))))))))))))
    have ih:=t27_0 (a0:=a0) (a1:=a1) hy0 hy1 hy2 hy3 hy4 hy5 y0 (p++ [x0]) (v0++([x0])) (by rw[append_assoc]; exact hp0) (by simp only[length_map,length_set,length_append,length_replicate,length_cons,length_nil]; omega)
    rw[show ((p++ [x0]).length:Int)=(p.length:Int)+1 from by simp] at ih
    rw[show (⟨[(0,(.ptr ⟨(0,0,0),[],0,0,8⟩)),(1,(.ptr ⟨(0,0,0),[(0,3)],a1,0,5⟩)),(5,(.one (.ref ⟨(5,0,0),[],0,(length ((take (length (map d_si v0)) (drop 0 (map d_si v0)))++([[(.val (.string x0.f0)),(.i x0.f1)]]:List (List D))))⟩))),(17,(.one (.ref ⟨(0,0,0),[(0,3),(a1,3)],0,(length (map d_si ((getD a0.f3 a1 (K_R.mk 0 0 0 [] 0)).f3)))⟩))),(18,(.oi ((length (map d_si ((getD a0.f3 a1 (K_R.mk 0 0 0 [] 0)).f3))):Int))),(19,(.oi (wrap .i64 ((length p:Int)+1))))],[((0,0,0),.live ⟨8,[(d_B a0)],[]⟩),((5,0,0),.live ⟨2,(map d_si (v0++([x0]))),[]⟩)]⟩:St)=h27_0 a0 a1 ((length p:Int)+1) (v0++([x0])) from(by unfold h27_0; simp[hw,byteRows_eq,ints_y,take_of_length_le,d_y,d_LyE,d_b,d_si,d_R,d_B,d_i,d_C,d_LyEi,d_Q,d_LiE,d_LsiE,d_s,fromBR_y,fromBR_b,fromBR_si,fromBR_i,fromBR_s]; done)] at st
    exact .loopN st ih
theorem al27 {a:K_B} {c:Nat}:∀ {l:List K_si} {i:Int} {v:List K_si} {w:List K_si} {j b},r27_0 a c l i v=.k0 w j b→w.length≤v.length+l.length
  |[],i,v,w,j,b,h=>by simp only[r27_0] at h; injection h with h; subst h; simp
  |x::l,i,v,w,j,b,h=>by
    simp only[r27_0] at h
    split at h
    · have q:=al27 h; simp only[length_set,length_cons] at q⊢; omega
    have q:=al27 h; simp only[length_append,length_cons,length_nil] at q⊢; omega
def o27_0 (a0:K_B) (a1:Nat):K_B:=
  (match r27_0 a0 a1 ((getD a0.f3 a1 (K_R.mk 0 0 0 [] 0)).f3) 0 a0.f4 with | .k0 w0_2 w1_2 w2_2=>(if(decide (((length (map d_si w0_2)):Int) > 8))=true then a0 else if(!(m57 (wrap .i64 (a0.f6+((getD a0.f3 a1 (K_R.mk 0 0 0 [] 0)).f2))) 0 1000000))=true then a0 else if(!(m41 w0_2 8))=true then a0 else(K_B.mk a0.f0 a0.f1 a0.f2 (set a0.f3 a1 (K_R.mk ((getD a0.f3 a1 (K_R.mk 0 0 0 [] 0)).f0) ((getD a0.f3 a1 (K_R.mk 0 0 0 [] 0)).f1) ((getD a0.f3 a1 (K_R.mk 0 0 0 [] 0)).f2) ((getD a0.f3 a1 (K_R.mk 0 0 0 [] 0)).f3) 2)) w0_2 a0.f5 (wrap .i64 (a0.f6+((getD a0.f3 a1 (K_R.mk 0 0 0 [] 0)).f2))) a0.f7)))
def m27 (a0:K_B) (a1:Nat):Int:=
  (match r27_0 a0 a1 ((getD a0.f3 a1 (K_R.mk 0 0 0 [] 0)).f3) 0 a0.f4 with | .k0 w0_2 w1_2 w2_2=>(if(decide (((length (map d_si w0_2)):Int) > 8))=true then 10 else if(!(m57 (wrap .i64 (a0.f6+((getD a0.f3 a1 (K_R.mk 0 0 0 [] 0)).f2))) 0 1000000))=true then 7 else if(!(m41 w0_2 8))=true then 7 else 0))
theorem e27 {a0:K_B} {a1:Nat} (hy0:length a0.f2≤100) (hy1:length a0.f3≤100) (hy2:∀z∈a0.f3,length z.f3≤100) (hy3:length a0.f4≤100) (hy4:∀z∈a0.f3,ok_R z) (hy5:a1 < length a0.f3):Ev F X (.call 27 [(.ptr ⟨(0,0,0),[],0,0,8⟩),(.ptr ⟨(0,0,0),[(0,3)],a1,0,5⟩)] [((0,0,0),⟨8,[(d_B a0)],[]⟩)] [[(d_B (o27_0 a0 a1))]] [(.one (.val (.int .i64 (m27 a0 a1))))]):=by
  unfold m27 o27_0
  have f3:Ev F X (.call 55 [(.one (.bor 0 (map b_si a0.f4)))] [] [] [(.one (.own 2 (map d_si a0.f4)))]):=(e55 (a0:=a0.f4) yd)
  have P0 {hs q} (r:PS F X hs q):=(ln_si a0.f4 (.r 11 [] [(map b_si a0.f4)] f3 (.f (mp_ d_R (getD_at a0.f3 a1 (K_R.mk 0 0 0 [] 0) ‹_›)) (.h 21 (.rowD (d_R (getD a0.f3 a1 (K_R.mk 0 0 0 [] 0)))) r))))
  cases h0:r27_0 a0 a1 ((getD a0.f3 a1 (K_R.mk 0 0 0 [] 0)).f3) 0 a0.f4 with
  |k0 w0_2 w1_2 w2_2=>
    try dsimp only
    have f5:(⟨[(0,(.ptr ⟨(0,0,0),[],0,0,8⟩)),(1,(.ptr ⟨(0,0,0),[(0,3)],a1,0,5⟩)),(5,(.one (.ref ⟨(5,0,0),[],0,(length (map d_si a0.f4))⟩))),(17,(.one (.ref ⟨(0,0,0),[(0,3),(a1,3)],0,(length (map d_si ((getD a0.f3 a1 (K_R.mk 0 0 0 [] 0)).f3)))⟩))),(18,(.oi ((length (map d_si ((getD a0.f3 a1 (K_R.mk 0 0 0 [] 0)).f3))):Int))),(19,(.oi 0))],[((0,0,0),.live ⟨8,[(d_B a0)],[]⟩),((5,0,0),.live ⟨2,(map d_si a0.f4),[]⟩)]⟩:St)=h27_0 a0 a1 0 a0.f4:=yu
    have P1 {hs q} (r:PS F X hs q):=(P0 (.f f5 (.f (ev_ (e:=ex27_0) (g:=(fin27_0 a0 a1)) h0 (t27_0 (a0:=a0) (a1:=a1) (by assumption) (by assumption) (by assumption) (by assumption) (by assumption) (by assumption) ((getD a0.f3 a1 (K_R.mk 0 0 0 [] 0)).f3) [] a0.f4 rfl yai)) (.h 26 (.loop (h27_0 a0 a1 0 a0.f4) (.exit 0) ⟨[(0,(.ptr ⟨(0,0,0),[],0,0,8⟩)),(1,(.ptr ⟨(0,0,0),[(0,3)],a1,0,5⟩)),(5,(.one (.ref ⟨(5,0,0),[],0,(length (map d_si w0_2))⟩))),(17,(.one (.ref ⟨(0,0,0),[(0,3),(a1,3)],0,(length (map d_si ((getD a0.f3 a1 (K_R.mk 0 0 0 [] 0)).f3)))⟩))),(18,(.oi ((length (map d_si ((getD a0.f3 a1 (K_R.mk 0 0 0 [] 0)).f3))):Int))),(19,(.oi w1_2)),(20,(.one (.val (.bool w2_2))))],[((0,0,0),.live ⟨8,[(d_B a0)],[]⟩),((5,0,0),.live ⟨2,(map d_si w0_2),[]⟩)]⟩) r))))
    by_cases h1:(decide (((length (map d_si w0_2)):Int) > 8))=true
    · try simp only[if_pos h1]
      exact cq [false] ya (P1 (.f h1 (.f (pureR_si a0.f2) (.f (pureR_R a0.f3) (.f (pureR_si a0.f4) (hT 35 .nil))))))
    try simp only[if_neg h1]
    have P2 {hs q} (r:PS F X hs q):=(P1 (N h1 (.f (mp_ d_R (getD_at a0.f3 a1 (K_R.mk 0 0 0 [] 0) ‹_›)) (.f trivial (U 35 (.h 51 (.rowD (d_R (getD a0.f3 a1 (K_R.mk 0 0 0 [] 0)))) (.r 55 [] [] (e29 (a0:=(wrap .i64 (a0.f6+((getD a0.f3 a1 (K_R.mk 0 0 0 [] 0)).f2))))) r)))))))
    by_cases h2:(!(m57 (wrap .i64 (a0.f6+((getD a0.f3 a1 (K_R.mk 0 0 0 [] 0)).f2))) 0 1000000))=true
    · try simp only[if_pos h2]
      exact cq [false] ya (P2 (.f h2 (.f h2 (.f h2 (.f h2 (.f (pureR_si a0.f2) (.f (pureR_R a0.f3) (.f (pureR_si a0.f4) (hT 60 (hT 62 (hT 64 (hT 67 .nil))))))))))))
    try simp only[if_neg h2]
    have P3 {hs q} (r:PS F X hs q):=(P2 (N h2 (N h2 (ln_si w0_2 (U 60 (U 62 (.r 63 [] [(map b_si w0_2)] (e41 (l0_0:=0) (a0:=w0_2) (a1:=8) (by have q:=al27 ‹_›; have q2:=og100 ‹_› a1; simp only[decide_eq_true_eq,length_map,length_append,length_nil,length_cons] at*; omega)) (N h2 (N h2 (U 64 (U 67 r)))))))))))
    by_cases h3:(!(m41 w0_2 8))=true
    · try simp only[if_pos h3]
      exact cq [false] ya (P3 (.f h3 (.f (pureR_si a0.f2) (.f (pureR_R a0.f3) (.f (pureR_si a0.f4) (hT 70 .nil))))))
    try simp only[if_neg h3]
    have f25:([[(.i a0.f0),(.i a0.f1),(.own 2 (map d_si a0.f2)),(.own 5 (set (map d_R a0.f3) a1 [(.i ((getD a0.f3 a1 (K_R.mk 0 0 0 [] 0)).f0)),(.i ((getD a0.f3 a1 (K_R.mk 0 0 0 [] 0)).f1)),(.i ((getD a0.f3 a1 (K_R.mk 0 0 0 [] 0)).f2)),(.own 2 (map d_si ((getD a0.f3 a1 (K_R.mk 0 0 0 [] 0)).f3))),(.i 2)])),(.own 2 (map d_si w0_2)),(.i a0.f5),(.i (wrap .i64 (a0.f6+((getD a0.f3 a1 (K_R.mk 0 0 0 [] 0)).f2)))),(.i a0.f7)]]:List (List D))=[[(.i a0.f0),(.i a0.f1),(.own 2 (map d_si a0.f2)),(.own 5 (map d_R (set a0.f3 a1 (K_R.mk ((getD a0.f3 a1 (K_R.mk 0 0 0 [] 0)).f0) ((getD a0.f3 a1 (K_R.mk 0 0 0 [] 0)).f1) ((getD a0.f3 a1 (K_R.mk 0 0 0 [] 0)).f2) ((getD a0.f3 a1 (K_R.mk 0 0 0 [] 0)).f3) 2)))),(.own 2 (map d_si w0_2)),(.i a0.f5),(.i (wrap .i64 (a0.f6+((getD a0.f3 a1 (K_R.mk 0 0 0 [] 0)).f2)))),(.i a0.f7)]]:=yI
    exact cq [false] ya (P3 (N h3 (.f (mp_ d_R (getD_at a0.f3 a1 (K_R.mk 0 0 0 [] 0) ‹_›)) (.f trivial (pe 0 (pe (length (map d_si w0_2)) (.f (mp_ d_R (getD_at a0.f3 a1 (K_R.mk 0 0 0 [] 0) ‹_›)) (.f f25 (.f (pureR_si a0.f2) (.f (pureR_R (set a0.f3 a1 (K_R.mk ((getD a0.f3 a1 (K_R.mk 0 0 0 [] 0)).f0) ((getD a0.f3 a1 (K_R.mk 0 0 0 [] 0)).f1) ((getD a0.f3 a1 (K_R.mk 0 0 0 [] 0)).f2) ((getD a0.f3 a1 (K_R.mk 0 0 0 [] 0)).f3) 2))) (.f (pureR_si w0_2) (U 70 (.h 94 (.rowD (d_R (getD a0.f3 a1 (K_R.mk 0 0 0 [] 0)))) (.h 114 (.rowD (d_R (getD a0.f3 a1 (K_R.mk 0 0 0 [] 0)))) (.h 115 (.norm (0,0,0) [[(.i a0.f0),(.i a0.f1),(.own 2 (map d_si a0.f2)),(.own 5 (map d_R (set a0.f3 a1 (K_R.mk ((getD a0.f3 a1 (K_R.mk 0 0 0 [] 0)).f0) ((getD a0.f3 a1 (K_R.mk 0 0 0 [] 0)).f1) ((getD a0.f3 a1 (K_R.mk 0 0 0 [] 0)).f2) ((getD a0.f3 a1 (K_R.mk 0 0 0 [] 0)).f3) 2)))),(.own 2 (map d_si w0_2)),(.i a0.f5),(.i (wrap .i64 (a0.f6+((getD a0.f3 a1 (K_R.mk 0 0 0 [] 0)).f2)))),(.i a0.f7)]]) .nil)))))))))))))))
theorem rp8 (a:K_B) (c:Nat) (h:a.f4.length≤8):(o27_0 a c).f4.length≤8:=by
  unfold o27_0
  cases h0:r27_0 a c ((getD a.f3 c (K_R.mk 0 0 0 [] 0)).f3) 0 a.f4 with
  |k0 w i b=>
    simp only[]
    split
    · exact h
    rename_i h1
    simp only[decide_eq_true_eq,length_map] at h1
    split
    · exact h
    split
    · exact h
    simp only[]; omega
theorem rpw (a:K_B) (c:Nat):(o27_0 a c).f2=a.f2:=by
  unfold o27_0
  cases h0:r27_0 a c ((getD a.f3 c (K_R.mk 0 0 0 [] 0)).f3) 0 a.f4 with
  |k0 w i b=>
    simp only[]
    (repeat' split)<;>rfl
theorem rpl (a:K_B) (c:Nat):(o27_0 a c).f3.length=a.f3.length:=by
  unfold o27_0
  cases h0:r27_0 a c ((getD a.f3 c (K_R.mk 0 0 0 [] 0)).f3) 0 a.f4 with
  |k0 w i b=>
    simp only[]
    (repeat' split)<;>first | rfl | simp only[length_set]
theorem rpr {a:K_B} (h:∀z∈a.f3,z.f3.length≤12) (c:Nat):∀z∈(o27_0 a c).f3,z.f3.length≤12:=by
  unfold o27_0
  cases h0:r27_0 a c ((getD a.f3 c (K_R.mk 0 0 0 [] 0)).f3) 0 a.f4 with
  |k0 w i b=>
    simp only[]
    split
    · exact h
    split
    · exact h
    split
    · exact h
    intro z hz
    rcases List.mem_or_eq_of_mem_set hz with hz | rfl
    · exact h z hz
    exact oget h _
def o1002500_0 (a0:K_B) (a101001:Int):K_B:=
  if(decide ((m1005300 a0.f3 a101001) < 0))=true then a0 else
  if(((getD a0.f3 (toNat (m1005300 a0.f3 a101001)) (K_R.mk 0 0 0 [] 0)).f4) !=1)=true then a0 else
    (o27_0 a0 (0+(toNat (m1005300 a0.f3 a101001))))
def m1002500 (a0:K_B) (a101001:Int):Int:=
  if(decide ((m1005300 a0.f3 a101001) < 0))=true then 4 else
  if(((getD a0.f3 (toNat (m1005300 a0.f3 a101001)) (K_R.mk 0 0 0 [] 0)).f4) !=1)=true then 9 else
    (m27 a0 (0+(toNat (m1005300 a0.f3 a101001))))
theorem e1002500 {a0:K_B} {l101000:Nat} {a101001:Int} (hy0:length a0.f2≤100) (hy1:length a0.f3≤100) (hy2:∀z∈a0.f3,length z.f3≤100) (hy3:length a0.f4≤100) (hy4:∀z∈a0.f3,ok_R z):Ev F X (.call 25 [(.ptr ⟨(0,0,0),[],0,0,8⟩),(.bptr l101000 [(.val (.int .i64 a101001))])] [((0,0,0),⟨8,[(d_B a0)],[]⟩)] [[(d_B (o1002500_0 a0 a101001))]] [(.one (.val (.int .i64 (m1002500 a0 a101001))))]):=by
  unfold m1002500 o1002500_0
  have P0 {hs q} (r:PS F X hs q):=(ln_R a0.f3 (.r 13 [] [(map b_R a0.f3)] (e26 (l0_0:=0) (a0:=a0.f3) (a1:=a101001) yd ‹_›) r))
  by_cases h0:(decide ((m1005300 a0.f3 a101001) < 0))=true
  · try simp only[if_pos h0]
    exact cq [false] ya (P0 (.f h0 (.f (pureR_si a0.f2) (.f (pureR_R a0.f3) (.f (pureR_si a0.f4) (hT 22 .nil))))))
  try simp only[if_neg h0]
  have f5:0+(length (map d_R a0.f3))≤(length (map d_R a0.f3)):=yd
  have f6:0≤(m1005300 a0.f3 a101001)∧(m1005300 a0.f3 a101001) <((length (map d_R a0.f3)):Int):=ys
  have P1 {hs q} (r:PS F X hs q):=(P0 (N h0 (.f f5 (.f f6 (.f (mz_ d_R (getD_at a0.f3 (toNat (m1005300 a0.f3 a101001)) (K_R.mk 0 0 0 [] 0) ys)) (U 22 (.h 38 (.rowD (d_R (getD a0.f3 (toNat (m1005300 a0.f3 a101001)) (K_R.mk 0 0 0 [] 0)))) r)))))))
  by_cases h1:(((getD a0.f3 (toNat (m1005300 a0.f3 a101001)) (K_R.mk 0 0 0 [] 0)).f4) !=1)=true
  · try simp only[if_pos h1]
    exact cq [false] ya (P1 (.f h1 (.f (pureR_si a0.f2) (.f (pureR_R a0.f3) (.f (pureR_si a0.f4) (hT 43 .nil))))))
  try simp only[if_neg h1]
  have f14:Ev F X (.call 27 [(.ptr ⟨(0,0,0),[],0,0,8⟩),(.ptr ⟨(0,0,0),[(0,3)],(0+(toNat (m1005300 a0.f3 a101001))),0,5⟩)] [((0,0,0),⟨8,[(d_B a0)],[]⟩)] [[(d_B (o27_0 a0 (0+(toNat (m1005300 a0.f3 a101001)))))]] [(.oi (m27 a0 (0+(toNat (m1005300 a0.f3 a101001)))))]):=(e27 (a0:=a0) (a1:=(0+(toNat (m1005300 a0.f3 a101001)))) ‹_› ‹_› ‹_› ‹_› ‹_› ys)
  exact cq [false] ya (P1 (N h1 (.f f5 (.f f6 (.f (pureR_si a0.f2) (.f (pureR_R a0.f3) (.f (pureR_si a0.f4) (U 43 (.r 59 [false] [] f14 (.f (pureR_si ((o27_0 a0 (0+(toNat (m1005300 a0.f3 a101001)))).f2)) (.f (pureR_R ((o27_0 a0 (0+(toNat (m1005300 a0.f3 a101001)))).f3)) (.f (pureR_si ((o27_0 a0 (0+(toNat (m1005300 a0.f3 a101001)))).f4)) .nil))))))))))))
def m1002400 (a0:K_B) (a2001:Int):K_C:=
  if((m14 a0) !=0)=true then(K_C.mk (m14 a0) 0 0 0 [] [] [] 0 0 0) else
  if((m1002500 (m52 a0) a2001) !=0)=true then(K_C.mk (m1002500 (m52 a0) a2001) 0 0 0 [] [] [] 0 0 0) else
    (K_C.mk 0 0 ((o1002500_0 (m52 a0) a2001).f0) ((o1002500_0 (m52 a0) a2001).f1) ((o1002500_0 (m52 a0) a2001).f2) ((o1002500_0 (m52 a0) a2001).f3) ((o1002500_0 (m52 a0) a2001).f4) ((o1002500_0 (m52 a0) a2001).f5) ((o1002500_0 (m52 a0) a2001).f6) ((o1002500_0 (m52 a0) a2001).f7))
theorem e1002400 {l0_2:Nat} {l0_3:Nat} {l0_4:Nat} {a0:K_B} {l2000:Nat} {a2001:Int} (hy0:length a0.f2*24≤140737488351232) (hy1:length a0.f3*56≤140737488351232) (hy2:∀z∈a0.f3,ok_R z) (hy3:length a0.f4*24≤140737488351232):Ev F X (.call 24 [(.agg (k_B l0_2 l0_3 l0_4 a0)),(.clo 25 [] [(.bptr l2000 [(.val (.int .i64 a2001))])])] [] [] [(.agg (d_C (m1002400 a0 a2001)))]):=by
  unfold m1002400
  have P0 {hs q} (r:PS F X hs q):=(PS.r 7 [] [] (e14 (l0_2:=(l0_2+1)) (l0_3:=(l0_3+1)) (l0_4:=(l0_4+1)) (a0:=a0) ‹_› ‹_› ‹_› ‹_›) r)
  by_cases h0:((m14 a0) !=0)=true
  · try simp only[if_pos h0]
    have f2:pureR []=true:=yA
    exact cp ya (P0 (.f h0 (.f f2 (.f f2 (.f f2 (hT 14 .nil))))))
  try simp only[if_neg h0]
  have P1 {hs q} (r:PS F X hs q):=(P0 (N h0 (U 14 (.r 18 [] [] (e52 (l0_2:=(l0_2+1)) (l0_3:=(l0_3+1)) (l0_4:=(l0_4+1)) (a0:=a0) yY yY yak yY ‹_›) (p3 ((m52 a0).f2) ((m52 a0).f3) ((m52 a0).f4) (.f (pureR_si ((m52 a0).f2)) (.f (pureR_R ((m52 a0).f3)) (.f (pureR_si ((m52 a0).f4)) (.r 26 [false] [] (e1002500 (l101000:=(l2000+1)) (a0:=(m52 a0)) (a101001:=a2001) yN yN yah yN (by rw[cp52]; assumption)) r)))))))))
  by_cases h1:((m1002500 (m52 a0) a2001) !=0)=true
  · try simp only[if_pos h1]
    have f14:pureR []=true:=yA
    exact cp ya (P1 (.f h1 (.f f14 (.f f14 (.f f14 (hT 33 .nil))))))
  try simp only[if_neg h1]
  exact cp ya (P1 (N h1 (p3 ((o1002500_0 (m52 a0) a2001).f2) ((o1002500_0 (m52 a0) a2001).f3) ((o1002500_0 (m52 a0) a2001).f4) (.f (pureR_si ((o1002500_0 (m52 a0) a2001).f2)) (.f (pureR_R ((o1002500_0 (m52 a0) a2001).f3)) (.f (pureR_si ((o1002500_0 (m52 a0) a2001).f4)) (U 33 .nil)))))))
theorem okm1002400 (a0:K_B) (a2001:Int):ok_C (m1002400 a0 a2001):=by
  unfold m1002400
  split
  · simp[ok_LyE,ok_R,ok_B,ok_C,ok_LyEi,ok_Q,ok_LiE,ok_LsiE]
  rename_i h
  obtain⟨q1,q2,q3,q4⟩:=fs14 h
  simp only[cp52]
  split
  · simp[ok_LyE,ok_R,ok_B,ok_C,ok_LyEi,ok_Q,ok_LiE,ok_LsiE]
  unfold o1002500_0
  (repeat' split)<;>simp only[ok_LyE,ok_R,ok_B,ok_C,ok_LyEi,ok_Q,ok_LiE,ok_LsiE]<;>first |(refine⟨?_,?_,?_,?_⟩<;>(simp; done)) |(refine⟨?_,?_,?_,?_⟩<;>first | omega | exact Nat.le_trans (Nat.mul_le_mul_right _ (rp8 _ _ q4)) (by decide) |(rw[rpw]; omega) |(rw[rpl]; omega) | exact oall (rpr q3 _) |(simp only[length_set,length_append,length_cons,length_nil,length_take,length_drop]; omega) | exact oall q3 | exact oset q3 (oget q3 _) | exact oset q3 yax | exact oapp q3 yax)
theorem e6 {l0_2:Nat} {l0_3:Nat} {l0_4:Nat} {a0:K_B} {a1:Int} (hy0:length a0.f2*24≤140737488351232) (hy1:length a0.f3*56≤140737488351232) (hy2:∀z∈a0.f3,ok_R z) (hy3:length a0.f4*24≤140737488351232):Ev F X (.call 6 [(.agg (k_B l0_2 l0_3 l0_4 a0)),(.one (.val (.int .i64 a1)))] [] [] [(.agg (d_C (m1002400 a0 a1)))]):=by
  have f0:fullL [(.i a1)]=true:=yA
  have f1:Ev F X (.call 24 [(.agg (k_B (l0_2+1) (l0_3+1) (l0_4+1) a0)),(.clo 25 [] [(.bptr 0 [(.i a1)])])] [] [] [(.agg (d_C (m1002400 a0 a1)))]):=(e1002400 (a0:=a0) (a2001:=a1) ‹_› ‹_› ‹_› ‹_›)
  exact cp ya (.f f0 (.r 11 [] [] f1 (p3 ((m1002400 a0 a1).f4) ((m1002400 a0 a1).f5) ((m1002400 a0 a1).f6) (.f (pureR_si ((m1002400 a0 a1).f4)) (.f (pureR_R ((m1002400 a0 a1).f5)) (.f (pureR_si ((m1002400 a0 a1).f6)) .nil))))))
def m7_0 (a0:(List Int)):K_B:=
  (m22 (m21 a0))
theorem e7 {l0_0:Nat} {a0:(List Int)} (hy0:∀z∈a0,(0:Int)≤z∧z≤255) (hy1:length a0≤140737488351232):Ev F X (.call 7 [(.one (.bor l0_0 (map b_y a0)))] [] [] [(.agg (d_B (m22 (m21 a0)))),(.one (.val (.int .i64 (m23 (K_LyEi.mk ((m21 a0).f0) ((o22_0 (m21 a0)).f1)) 6))))]):=by
  exact cp ya (.r 7 [] [] (e5 (l0_0:=(l0_0+1)) (a0:=a0) ‹_› ‹_›) (p3 ((m22 (m21 a0)).f2) ((m22 (m21 a0)).f3) ((m22 (m21 a0)).f4) (.f (pureR_si ((m22 (m21 a0)).f2)) (.f (pureR_R ((m22 (m21 a0)).f3)) (.f (pureR_si ((m22 (m21 a0)).f4)) .nil)))))
def o1002800_0 (a0:K_B) (a101001:Int):K_B:=
  if(decide ((m1005300 a0.f3 a101001) < 0))=true then a0 else
  if(((getD a0.f3 (toNat (m1005300 a0.f3 a101001)) (K_R.mk 0 0 0 [] 0)).f4)==3)=true then a0 else
    if (((getD a0.f3 (toNat (m1005300 a0.f3 a101001)) (K_R.mk 0 0 0 [] 0)).f4) == 2) = true then (if (!(m57 (wrap .i64 (a0.f7 + ((getD a0.f3 (toNat (m1005300 a0.f3 a101001)) (K_R.mk 0 0 0 [] 0)).f1))) 0 1000000)) = true then a0 else
        (K_B.mk a0.f0 a0.f1 a0.f2 (set a0.f3 (toNat (m1005300 a0.f3 a101001)) (K_R.mk ((getD a0.f3 (toNat (m1005300 a0.f3 a101001)) (K_R.mk 0 0 0 [] 0)).f0) ((getD a0.f3 (toNat (m1005300 a0.f3 a101001)) (K_R.mk 0 0 0 [] 0)).f1) ((getD a0.f3 (toNat (m1005300 a0.f3 a101001)) (K_R.mk 0 0 0 [] 0)).f2) ((getD a0.f3 (toNat (m1005300 a0.f3 a101001)) (K_R.mk 0 0 0 [] 0)).f3) 3)) a0.f4 a0.f5 a0.f6 (wrap .i64 (a0.f7+((getD a0.f3 (toNat (m1005300 a0.f3 a101001)) (K_R.mk 0 0 0 [] 0)).f1))))) else
      (K_B.mk a0.f0 a0.f1 a0.f2 (set a0.f3 (toNat (m1005300 a0.f3 a101001)) (K_R.mk ((getD a0.f3 (toNat (m1005300 a0.f3 a101001)) (K_R.mk 0 0 0 [] 0)).f0) ((getD a0.f3 (toNat (m1005300 a0.f3 a101001)) (K_R.mk 0 0 0 [] 0)).f1) ((getD a0.f3 (toNat (m1005300 a0.f3 a101001)) (K_R.mk 0 0 0 [] 0)).f2) ((getD a0.f3 (toNat (m1005300 a0.f3 a101001)) (K_R.mk 0 0 0 [] 0)).f3) 3)) a0.f4 a0.f5 a0.f6 a0.f7)
def m1002800 (a0:K_B) (a101001:Int):Int:=
  if(decide ((m1005300 a0.f3 a101001) < 0))=true then 4 else
  if(((getD a0.f3 (toNat (m1005300 a0.f3 a101001)) (K_R.mk 0 0 0 [] 0)).f4)==3)=true then 9 else
    if (((getD a0.f3 (toNat (m1005300 a0.f3 a101001)) (K_R.mk 0 0 0 [] 0)).f4) == 2) = true then (if (!(m57 (wrap .i64 (a0.f7 + ((getD a0.f3 (toNat (m1005300 a0.f3 a101001)) (K_R.mk 0 0 0 [] 0)).f1))) 0 1000000)) = true then 7 else
        0) else
      0
theorem e1002800 {a0:K_B} {l101000:Nat} {a101001:Int} (hy0:length a0.f2≤100) (hy1:length a0.f3≤100) (hy2:∀z∈a0.f3,length z.f3≤100) (hy3:length a0.f4≤100) (hy4:∀z∈a0.f3,ok_R z):Ev F X (.call 28 [(.ptr ⟨(0,0,0),[],0,0,8⟩),(.bptr l101000 [(.val (.int .i64 a101001))])] [((0,0,0),⟨8,[(d_B a0)],[]⟩)] [[(d_B (o1002800_0 a0 a101001))]] [(.one (.val (.int .i64 (m1002800 a0 a101001))))]):=by
  unfold m1002800 o1002800_0
  have P0 {hs q} (r:PS F X hs q):=(ln_R a0.f3 (.r 13 [] [(map b_R a0.f3)] (e26 (l0_0:=0) (a0:=a0.f3) (a1:=a101001) yd ‹_›) r))
  by_cases h0:(decide ((m1005300 a0.f3 a101001) < 0))=true
  · try simp only[if_pos h0]
    exact cq [false] ya (P0 (.f h0 (.f (pureR_si a0.f2) (.f (pureR_R a0.f3) (.f (pureR_si a0.f4) (hT 20 .nil))))))
  try simp only[if_neg h0]
  have f5:0+(length (map d_R a0.f3))≤(length (map d_R a0.f3)):=yd
  have f6:0≤(m1005300 a0.f3 a101001)∧(m1005300 a0.f3 a101001) <((length (map d_R a0.f3)):Int):=ys
  have P1 {hs q} (r:PS F X hs q):=(P0 (N h0 (.f f5 (.f f6 (.f (mz_ d_R (getD_at a0.f3 (toNat (m1005300 a0.f3 a101001)) (K_R.mk 0 0 0 [] 0) ys)) (U 20 (.h 42 (.rowD (d_R (getD a0.f3 (toNat (m1005300 a0.f3 a101001)) (K_R.mk 0 0 0 [] 0)))) r)))))))
  by_cases h1:(((getD a0.f3 (toNat (m1005300 a0.f3 a101001)) (K_R.mk 0 0 0 [] 0)).f4)==3)=true
  · try simp only[if_pos h1]
    exact cq [false] ya (P1 (.f h1 (.f (pureR_si a0.f2) (.f (pureR_R a0.f3) (.f (pureR_si a0.f4) (hT 47 .nil))))))
  try simp only[if_neg h1]
  have P2 {hs q} (r:PS F X hs q):=(P1 (N h1 (.f (mz_ d_R (getD_at a0.f3 (toNat (m1005300 a0.f3 a101001)) (K_R.mk 0 0 0 [] 0) ys)) (U 47 (.h 55 (.rowD (d_R (getD a0.f3 (toNat (m1005300 a0.f3 a101001)) (K_R.mk 0 0 0 [] 0)))) r)))))
  by_cases h2:(((getD a0.f3 (toNat (m1005300 a0.f3 a101001)) (K_R.mk 0 0 0 [] 0)).f4)==2)=true
  · try simp only[if_pos h2]
    have P3 {hs q} (r:PS F X hs q):=(P2 (.f h2 (.f h2 (.f h2 (.f h2 (.f h2 (.f h2 (.f h2 (.f h2 (.f (mz_ d_R (getD_at a0.f3 (toNat (m1005300 a0.f3 a101001)) (K_R.mk 0 0 0 [] 0) ys)) (.f h2 (.f trivial (.f h2 (hT 60 (hT 62 (hT 64 (hT 66 (hT 68 (hT 70 (hT 72 (hT 74 (.h 75 (.rowD (d_R (getD a0.f3 (toNat (m1005300 a0.f3 a101001)) (K_R.mk 0 0 0 [] 0)))) (hT 76 (hT 78 (.r 79 [] [] (e29 (a0:=(wrap .i64 (a0.f7+((getD a0.f3 (toNat (m1005300 a0.f3 a101001)) (K_R.mk 0 0 0 [] 0)).f1))))) (.f h2 (.f h2 (hT 80 (hT 83 r)))))))))))))))))))))))))))))
    by_cases h3:(!(m57 (wrap .i64 (a0.f7+((getD a0.f3 (toNat (m1005300 a0.f3 a101001)) (K_R.mk 0 0 0 [] 0)).f1))) 0 1000000))=true
    · try simp only[if_pos h3]
      exact cq [false] ya (P3 (.f h3 (.f (pureR_si a0.f2) (.f (pureR_R a0.f3) (.f (pureR_si a0.f4) (hT 86 .nil))))))
    try simp only[if_neg h3]
    have f31:([[(.i a0.f0),(.i a0.f1),(.own 2 (map d_si a0.f2)),(.own 5 (set (map d_R a0.f3) (0+(toNat (m1005300 a0.f3 a101001))) [(.i ((getD a0.f3 (toNat (m1005300 a0.f3 a101001)) (K_R.mk 0 0 0 [] 0)).f0)),(.i ((getD a0.f3 (toNat (m1005300 a0.f3 a101001)) (K_R.mk 0 0 0 [] 0)).f1)),(.i ((getD a0.f3 (toNat (m1005300 a0.f3 a101001)) (K_R.mk 0 0 0 [] 0)).f2)),(.own 2 (map d_si ((getD a0.f3 (toNat (m1005300 a0.f3 a101001)) (K_R.mk 0 0 0 [] 0)).f3))),(.i 3)])),(.own 2 (map d_si a0.f4)),(.i a0.f5),(.i a0.f6),(.i (wrap .i64 (a0.f7+((getD a0.f3 (toNat (m1005300 a0.f3 a101001)) (K_R.mk 0 0 0 [] 0)).f1))))]]:List (List D))=[[(.i a0.f0),(.i a0.f1),(.own 2 (map d_si a0.f2)),(.own 5 (map d_R (set a0.f3 (toNat (m1005300 a0.f3 a101001)) (K_R.mk ((getD a0.f3 (toNat (m1005300 a0.f3 a101001)) (K_R.mk 0 0 0 [] 0)).f0) ((getD a0.f3 (toNat (m1005300 a0.f3 a101001)) (K_R.mk 0 0 0 [] 0)).f1) ((getD a0.f3 (toNat (m1005300 a0.f3 a101001)) (K_R.mk 0 0 0 [] 0)).f2) ((getD a0.f3 (toNat (m1005300 a0.f3 a101001)) (K_R.mk 0 0 0 [] 0)).f3) 3)))),(.own 2 (map d_si a0.f4)),(.i a0.f5),(.i a0.f6),(.i (wrap .i64 (a0.f7+((getD a0.f3 (toNat (m1005300 a0.f3 a101001)) (K_R.mk 0 0 0 [] 0)).f1))))]]:=yI
    exact cq [false] ya (P3 (N h3 (.f (mz_ d_R (getD_at a0.f3 (toNat (m1005300 a0.f3 a101001)) (K_R.mk 0 0 0 [] 0) ys)) (.f h2 (.f (mz_ d_R (getD_at a0.f3 (toNat (m1005300 a0.f3 a101001)) (K_R.mk 0 0 0 [] 0) ys)) (.f trivial (.f (mz_ d_R (getD_at a0.f3 (toNat (m1005300 a0.f3 a101001)) (K_R.mk 0 0 0 [] 0) ys)) (.f f31 (.f (pureR_si a0.f2) (.f (pureR_R (set a0.f3 (toNat (m1005300 a0.f3 a101001)) (K_R.mk ((getD a0.f3 (toNat (m1005300 a0.f3 a101001)) (K_R.mk 0 0 0 [] 0)).f0) ((getD a0.f3 (toNat (m1005300 a0.f3 a101001)) (K_R.mk 0 0 0 [] 0)).f1) ((getD a0.f3 (toNat (m1005300 a0.f3 a101001)) (K_R.mk 0 0 0 [] 0)).f2) ((getD a0.f3 (toNat (m1005300 a0.f3 a101001)) (K_R.mk 0 0 0 [] 0)).f3) 3))) (.f (pureR_si a0.f4) (U 86 (.h 94 (.rowD (d_R (getD a0.f3 (toNat (m1005300 a0.f3 a101001)) (K_R.mk 0 0 0 [] 0)))) (hT 99 (.h 115 (.rowD (d_R (getD a0.f3 (toNat (m1005300 a0.f3 a101001)) (K_R.mk 0 0 0 [] 0)))) (.h 131 (.rowD (d_R (getD a0.f3 (toNat (m1005300 a0.f3 a101001)) (K_R.mk 0 0 0 [] 0)))) (.h 132 (.norm (0,0,0) [[(.i a0.f0),(.i a0.f1),(.own 2 (map d_si a0.f2)),(.own 5 (map d_R (set a0.f3 (toNat (m1005300 a0.f3 a101001)) (K_R.mk ((getD a0.f3 (toNat (m1005300 a0.f3 a101001)) (K_R.mk 0 0 0 [] 0)).f0) ((getD a0.f3 (toNat (m1005300 a0.f3 a101001)) (K_R.mk 0 0 0 [] 0)).f1) ((getD a0.f3 (toNat (m1005300 a0.f3 a101001)) (K_R.mk 0 0 0 [] 0)).f2) ((getD a0.f3 (toNat (m1005300 a0.f3 a101001)) (K_R.mk 0 0 0 [] 0)).f3) 3)))),(.own 2 (map d_si a0.f4)),(.i a0.f5),(.i a0.f6),(.i (wrap .i64 (a0.f7+((getD a0.f3 (toNat (m1005300 a0.f3 a101001)) (K_R.mk 0 0 0 [] 0)).f1))))]]) .nil)))))))))))))))))
  try simp only[if_neg h2]
  have f25:([[(.i a0.f0),(.i a0.f1),(.own 2 (map d_si a0.f2)),(.own 5 (set (map d_R a0.f3) (0+(toNat (m1005300 a0.f3 a101001))) [(.i ((getD a0.f3 (toNat (m1005300 a0.f3 a101001)) (K_R.mk 0 0 0 [] 0)).f0)),(.i ((getD a0.f3 (toNat (m1005300 a0.f3 a101001)) (K_R.mk 0 0 0 [] 0)).f1)),(.i ((getD a0.f3 (toNat (m1005300 a0.f3 a101001)) (K_R.mk 0 0 0 [] 0)).f2)),(.own 2 (map d_si ((getD a0.f3 (toNat (m1005300 a0.f3 a101001)) (K_R.mk 0 0 0 [] 0)).f3))),(.i 3)])),(.own 2 (map d_si a0.f4)),(.i a0.f5),(.i a0.f6),(.i a0.f7)]]:List (List D))=[[(.i a0.f0),(.i a0.f1),(.own 2 (map d_si a0.f2)),(.own 5 (map d_R (set a0.f3 (toNat (m1005300 a0.f3 a101001)) (K_R.mk ((getD a0.f3 (toNat (m1005300 a0.f3 a101001)) (K_R.mk 0 0 0 [] 0)).f0) ((getD a0.f3 (toNat (m1005300 a0.f3 a101001)) (K_R.mk 0 0 0 [] 0)).f1) ((getD a0.f3 (toNat (m1005300 a0.f3 a101001)) (K_R.mk 0 0 0 [] 0)).f2) ((getD a0.f3 (toNat (m1005300 a0.f3 a101001)) (K_R.mk 0 0 0 [] 0)).f3) 3)))),(.own 2 (map d_si a0.f4)),(.i a0.f5),(.i a0.f6),(.i a0.f7)]]:=yI
  exact cq [false] ya (P2 (N h2 (N h2 (N h2 (N h2 (N h2 (N h2 (N h2 (N h2 (N h2 (N h2 (N h2 (N h2 (.f (mz_ d_R (getD_at a0.f3 (toNat (m1005300 a0.f3 a101001)) (K_R.mk 0 0 0 [] 0) ys)) (N h2 (.f (mz_ d_R (getD_at a0.f3 (toNat (m1005300 a0.f3 a101001)) (K_R.mk 0 0 0 [] 0) ys)) (.f f25 (.f (pureR_si a0.f2) (.f (pureR_R (set a0.f3 (toNat (m1005300 a0.f3 a101001)) (K_R.mk ((getD a0.f3 (toNat (m1005300 a0.f3 a101001)) (K_R.mk 0 0 0 [] 0)).f0) ((getD a0.f3 (toNat (m1005300 a0.f3 a101001)) (K_R.mk 0 0 0 [] 0)).f1) ((getD a0.f3 (toNat (m1005300 a0.f3 a101001)) (K_R.mk 0 0 0 [] 0)).f2) ((getD a0.f3 (toNat (m1005300 a0.f3 a101001)) (K_R.mk 0 0 0 [] 0)).f3) 3))) (.f (pureR_si a0.f4) (U 60 (U 62 (U 64 (U 66 (U 68 (U 70 (U 72 (U 74 (U 76 (U 78 (U 80 (U 83 (.h 94 (.rowD (d_R (getD a0.f3 (toNat (m1005300 a0.f3 a101001)) (K_R.mk 0 0 0 [] 0)))) (U 99 (.h 107 (.rowD (d_R (getD a0.f3 (toNat (m1005300 a0.f3 a101001)) (K_R.mk 0 0 0 [] 0)))) (.h 108 (.norm (0,0,0) [[(.i a0.f0),(.i a0.f1),(.own 2 (map d_si a0.f2)),(.own 5 (map d_R (set a0.f3 (toNat (m1005300 a0.f3 a101001)) (K_R.mk ((getD a0.f3 (toNat (m1005300 a0.f3 a101001)) (K_R.mk 0 0 0 [] 0)).f0) ((getD a0.f3 (toNat (m1005300 a0.f3 a101001)) (K_R.mk 0 0 0 [] 0)).f1) ((getD a0.f3 (toNat (m1005300 a0.f3 a101001)) (K_R.mk 0 0 0 [] 0)).f2) ((getD a0.f3 (toNat (m1005300 a0.f3 a101001)) (K_R.mk 0 0 0 [] 0)).f3) 3)))),(.own 2 (map d_si a0.f4)),(.i a0.f5),(.i a0.f6),(.i a0.f7)]]) .nil))))))))))))))))))))))))))))))))))))
def m1002401 (a0:K_B) (a2001:Int):K_C:=
  if((m14 a0) !=0)=true then(K_C.mk (m14 a0) 0 0 0 [] [] [] 0 0 0) else
  if((m1002800 (m52 a0) a2001) !=0)=true then(K_C.mk (m1002800 (m52 a0) a2001) 0 0 0 [] [] [] 0 0 0) else
    (K_C.mk 0 0 ((o1002800_0 (m52 a0) a2001).f0) ((o1002800_0 (m52 a0) a2001).f1) ((o1002800_0 (m52 a0) a2001).f2) ((o1002800_0 (m52 a0) a2001).f3) ((o1002800_0 (m52 a0) a2001).f4) ((o1002800_0 (m52 a0) a2001).f5) ((o1002800_0 (m52 a0) a2001).f6) ((o1002800_0 (m52 a0) a2001).f7))
theorem e1002401 {l0_2:Nat} {l0_3:Nat} {l0_4:Nat} {a0:K_B} {l2000:Nat} {a2001:Int} (hy0:length a0.f2*24≤140737488351232) (hy1:length a0.f3*56≤140737488351232) (hy2:∀z∈a0.f3,ok_R z) (hy3:length a0.f4*24≤140737488351232):Ev F X (.call 24 [(.agg (k_B l0_2 l0_3 l0_4 a0)),(.clo 28 [] [(.bptr l2000 [(.val (.int .i64 a2001))])])] [] [] [(.agg (d_C (m1002401 a0 a2001)))]):=by
  unfold m1002401
  have P0 {hs q} (r:PS F X hs q):=(PS.r 7 [] [] (e14 (l0_2:=(l0_2+1)) (l0_3:=(l0_3+1)) (l0_4:=(l0_4+1)) (a0:=a0) ‹_› ‹_› ‹_› ‹_›) r)
  by_cases h0:((m14 a0) !=0)=true
  · try simp only[if_pos h0]
    have f2:pureR []=true:=yA
    exact cp ya (P0 (.f h0 (.f f2 (.f f2 (.f f2 (hT 14 .nil))))))
  try simp only[if_neg h0]
  have P1 {hs q} (r:PS F X hs q):=(P0 (N h0 (U 14 (.r 18 [] [] (e52 (l0_2:=(l0_2+1)) (l0_3:=(l0_3+1)) (l0_4:=(l0_4+1)) (a0:=a0) yY yY yak yY ‹_›) (p3 ((m52 a0).f2) ((m52 a0).f3) ((m52 a0).f4) (.f (pureR_si ((m52 a0).f2)) (.f (pureR_R ((m52 a0).f3)) (.f (pureR_si ((m52 a0).f4)) (.r 26 [false] [] (e1002800 (l101000:=(l2000+1)) (a0:=(m52 a0)) (a101001:=a2001) yN yN yah yN (by rw[cp52]; assumption)) r)))))))))
  by_cases h1:((m1002800 (m52 a0) a2001) !=0)=true
  · try simp only[if_pos h1]
    have f14:pureR []=true:=yA
    exact cp ya (P1 (.f h1 (.f f14 (.f f14 (.f f14 (hT 33 .nil))))))
  try simp only[if_neg h1]
  exact cp ya (P1 (N h1 (p3 ((o1002800_0 (m52 a0) a2001).f2) ((o1002800_0 (m52 a0) a2001).f3) ((o1002800_0 (m52 a0) a2001).f4) (.f (pureR_si ((o1002800_0 (m52 a0) a2001).f2)) (.f (pureR_R ((o1002800_0 (m52 a0) a2001).f3)) (.f (pureR_si ((o1002800_0 (m52 a0) a2001).f4)) (U 33 .nil)))))))
theorem okm1002401 (a0:K_B) (a2001:Int):ok_C (m1002401 a0 a2001):=by
  unfold m1002401
  split
  · simp[ok_LyE,ok_R,ok_B,ok_C,ok_LyEi,ok_Q,ok_LiE,ok_LsiE]
  rename_i h
  obtain⟨q1,q2,q3,q4⟩:=fs14 h
  simp only[cp52]
  split
  · simp[ok_LyE,ok_R,ok_B,ok_C,ok_LyEi,ok_Q,ok_LiE,ok_LsiE]
  unfold o1002800_0
  (repeat' split)<;>simp only[ok_LyE,ok_R,ok_B,ok_C,ok_LyEi,ok_Q,ok_LiE,ok_LsiE]<;>first |(refine⟨?_,?_,?_,?_⟩<;>(simp; done)) |(refine⟨?_,?_,?_,?_⟩<;>first | omega |(simp only[length_set,length_append,length_cons,length_nil,length_take,length_drop]; omega) | exact oall q3 | exact oset q3 (oget q3 _) | exact oset q3 yax | exact oapp q3 yax)
theorem e8 {l0_2:Nat} {l0_3:Nat} {l0_4:Nat} {a0:K_B} {a1:Int} (hy0:length a0.f2*24≤140737488351232) (hy1:length a0.f3*56≤140737488351232) (hy2:∀z∈a0.f3,ok_R z) (hy3:length a0.f4*24≤140737488351232):Ev F X (.call 8 [(.agg (k_B l0_2 l0_3 l0_4 a0)),(.one (.val (.int .i64 a1)))] [] [] [(.agg (d_C (m1002401 a0 a1)))]):=by
  have f0:fullL [(.i a1)]=true:=yA
  have f1:Ev F X (.call 24 [(.agg (k_B (l0_2+1) (l0_3+1) (l0_4+1) a0)),(.clo 28 [] [(.bptr 0 [(.i a1)])])] [] [] [(.agg (d_C (m1002401 a0 a1)))]):=(e1002401 (a0:=a0) (a2001:=a1) ‹_› ‹_› ‹_› ‹_›)
  exact cp ya (.f f0 (.r 11 [] [] f1 (p3 ((m1002401 a0 a1).f4) ((m1002401 a0 a1).f5) ((m1002401 a0 a1).f6) (.f (pureR_si ((m1002401 a0 a1).f4)) (.f (pureR_R ((m1002401 a0 a1).f5)) (.f (pureR_si ((m1002401 a0 a1).f6)) .nil))))))
def m9_0 (a0:(List Int)):K_B:=
  (m22 (m21 a0))
def m9_1 (a0:(List Int)):Int:=
  (m30 (K_LyEi.mk ((m21 a0).f0) ((o22_0 (m21 a0)).f1)) [0,1,7,8,(-1)])
def m9_2 (a0:(List Int)):Int:=
  (m30 (K_LyEi.mk ((m21 a0).f0) ((o30_0 (K_LyEi.mk ((m21 a0).f0) ((o22_0 (m21 a0)).f1)) [0,1,7,8,(-1)]).f1)) [50,0,999999,1000000,1000001])
theorem e9 {l0_0:Nat} {a0:(List Int)} (hy0:∀z∈a0,(0:Int)≤z∧z≤255) (hy1:length a0≤140737488351232):Ev F X (.call 9 [(.one (.bor l0_0 (map b_y a0)))] [] [] [(.agg (d_B (m9_0 a0))),(.one (.val (.int .i64 (m9_1 a0)))),(.one (.val (.int .i64 (m9_2 a0))))]):=by
  have f2:5≤5:=yd
  have f3:fullR (take 5 (drop 0 [[(.i 0)],[(.i 1)],[(.i 7)],[(.i 8)],[(.i (-1))]]))=true:=yA
  have f4:toBR (take 5 (drop 0 [[(.i 0)],[(.i 1)],[(.i 7)],[(.i 8)],[(.i (-1))]]))=[[(.i 0)],[(.i 1)],[(.i 7)],[(.i 8)],[(.i (-1))]]:=yA
  have f7:fullR (take 5 (drop 0 [[(.i 50)],[(.i 0)],[(.i 999999)],[(.i 1000000)],[(.i 1000001)]]))=true:=(by assumption)
  have f8:toBR (take 5 (drop 0 [[(.i 50)],[(.i 0)],[(.i 999999)],[(.i 1000000)],[(.i 1000001)]]))=[[(.i 50)],[(.i 0)],[(.i 999999)],[(.i 1000000)],[(.i 1000001)]]:=yA
  exact cp ya (.r 9 [] [] (e21 (l0_0:=l0_0) (a0:=a0)) (.r 15 [false] [] (e22 (l0_0:=l0_0) (a0:=(m21 a0)) yj) (.f f2 (.f f3 (.f f4 (.r 21 [false] [[[(.i 0)],[(.i 1)],[(.i 7)],[(.i 8)],[(.i (-1))]]] (e30 (l0_0:=l0_0) (l1_0:=0) (a0:=(zz (m21 a0) (o22_0 (m21 a0)))) (a1:=[0,1,7,8,(-1)]) yj yP yP) (.f f2 (.f f7 (.f f8 (.r 27 [false] [[[(.i 50)],[(.i 0)],[(.i 999999)],[(.i 1000000)],[(.i 1000001)]]] (e30 (l0_0:=l0_0) (l1_0:=0) (a0:=(zz (m21 a0) (o30_0 (zz (m21 a0) (o22_0 (m21 a0))) [0,1,7,8,(-1)]))) (a1:=[50,0,999999,1000000,1000001]) yj yP yP) (p3 ((m22 (m21 a0)).f2) ((m22 (m21 a0)).f3) ((m22 (m21 a0)).f4) (.f (pureR_si ((m22 (m21 a0)).f2)) (.f (pureR_R ((m22 (m21 a0)).f3)) (.f (pureR_si ((m22 (m21 a0)).f4)) .nil))))))))))))))
end Go.Proofs.YtihjlmgakpgkeaaGreatDoor.Ledgers
