/- What the functions compute. -/
import Derived.Test.YtihjlmgakpgkeaaGreatDoorELedgersA
import Derived.KernelRfl
namespace Go.Proofs.YtihjlmgakpgkeaaGreatDoor.Ledgers
open Go Go.Proofs.YtihjlmgakpgkeaaGreatDoor.V
set_option linter.unusedVariables false
set_option linter.unusedSimpArgs false
set_option maxRecDepth 20000
open Go.IntKind (wrap)
open Int (toNat)
open List (length_replicate length_map length_set length_append length_cons length_nil length_take length_drop take_of_length_le map_take map_drop map_set append_assoc getElem?_map map length take drop getD set)
attribute [local simp] strInts_len byteRows_len toBR_y fullR_y pureR_y lenB_y lenD_y fromBR_y copy_y toBR_LyE fullR_LyE pureR_LyE lenB_LyE lenD_LyE toBR_b fullR_b pureR_b lenB_b lenD_b fromBR_b copy_b toBR_si fullR_si pureR_si lenB_si lenD_si fromBR_si copy_si toBR_R fullR_R pureR_R lenB_R lenD_R toBR_B fullR_B pureR_B lenB_B lenD_B toBR_i fullR_i pureR_i lenB_i lenD_i fromBR_i copy_i toBR_C fullR_C pureR_C lenB_C lenD_C toBR_LyEi fullR_LyEi pureR_LyEi lenB_LyEi lenD_LyEi toBR_Q fullR_Q pureR_Q lenB_Q lenD_Q toBR_LiE fullR_LiE pureR_LiE lenB_LiE lenD_LiE toBR_LsiE fullR_LsiE pureR_LsiE lenB_LsiE lenD_LsiE toBR_s fullR_s pureR_s lenB_s lenD_s fromBR_s copy_s
inductive O71_1 where
  |k0 (w0:List K_si) (w1:List Int) (w2:Int) (w3:Bool)
def r71_1 (c1_71_1:List Int):Nat→Int→List K_si→List Int→O71_1
  |n+1,i,v0,v1=>
    (match r71_2 c1_71_1 v1 (toNat (((length (map d_i c1_71_1)):Int) - 1)) 0 1 with | .k0 w0_1 w1_1 w2_1=>(r71_1 c1_71_1 n (i - 1) (set v0 (toNat w0_1) (K_si.mk ((getD v0 (toNat w0_1) (K_si.mk (⟨#[]⟩:ByteArray) 0)).f0) (wrap .i64 (((getD v0 (toNat w0_1) (K_si.mk (⟨#[]⟩:ByteArray) 0)).f1)+1)))) (set v1 (toNat w0_1) (-1))))
  |0,i,v0,v1=>(O71_1.k0 v0 v1 i (decide (i > 0)))
def h71_1 (l1_0:Nat) (a0:Int) (a1:(List K_si)) (c0_71_1:List K_si) (c1_71_1:List Int) (c2_71_1:Int) (i:Int) (v0:List K_si) (v1:List Int):St:=⟨[(7,(.one (.ref ⟨(7,0,0),[],0,(length (map d_si c0_71_1))⟩))),(8,(.one (.ref ⟨(8,0,0),[],0,(length (map d_i c1_71_1))⟩))),(9,(.one (.val (.int .i64 i))))],[((7,0,0),.live ⟨2,(map d_si v0),[]⟩),((8,0,0),.live ⟨1,(map d_i v1),[]⟩)]⟩
def ex71_1:O71_1→VX.Exit
  |.k0 _ _ _ _=>(.exit 2)
def fin71_1 (l1_0:Nat) (a0:Int) (a1:(List K_si)) (c0_71_1:List K_si) (c1_71_1:List Int) (c2_71_1:Int):O71_1→St
  |.k0 w0 w1 w2 w3=>⟨[(7,(.one (.ref ⟨(7,0,0),[],0,(length (map d_si c0_71_1))⟩))),(8,(.one (.ref ⟨(8,0,0),[],0,(length (map d_i c1_71_1))⟩))),(9,(.one (.val (.int .i64 w2)))),(62,(.one (.val (.bool w3))))],[((7,0,0),.live ⟨2,(map d_si w0),[]⟩),((8,0,0),.live ⟨1,(map d_i w1),[]⟩)]⟩
theorem t71_1 {l1_0:Nat} {a0:Int} {a1:(List K_si)} {c0_71_1:List K_si} {c1_71_1:List Int} {c2_71_1:Int} (hy0:0≤a0) (hy1:a0≤1000000) (hy2:0 < length a1) (hy3:length a1≤12) (hy4:∀z∈a1,1≤z.f1∧z.f1≤9999) (hy5:length c0_71_1≤140737488351232) (hy6:length c1_71_1≤140737488351232):∀(n:Nat) (i:Int) (v0:List K_si) (v1:List Int),n=toNat i→length v0=(length (map d_si c0_71_1))→length v1=(length (map d_i c1_71_1))→i≤9223372036854775807→length v0=length v1→1≤length v1→length v1≤1000→Ev F X (.code l71_1 (h71_1 l1_0 a0 a1 c0_71_1 c1_71_1 c2_71_1 i v0 v1) (ex71_1 (r71_1 c1_71_1 n i v0 v1)) (fin71_1 l1_0 a0 a1 c0_71_1 c1_71_1 c2_71_1 (r71_1 c1_71_1 n i v0 v1)))
  |0,i,v0,v1,hn,hi0,hi1,hi2,hi3,hi4,hi5=>by
    have hc:¬(decide (i > 0))=true:=by
      simp only[decide_eq_true_eq]; omega
    have st:=ch b71_1 (h71_1 l1_0 a0 a1 c0_71_1 c1_71_1 c2_71_1 i v0 v1) ⟨[(7,(.one (.ref ⟨(7,0,0),[],0,(length (map d_si c0_71_1))⟩))),(8,(.one (.ref ⟨(8,0,0),[],0,(length (map d_i c1_71_1))⟩))),(9,(.oi i)),(62,(.one (.val (.bool (decide (i > 0))))))],[((7,0,0),.live ⟨2,(map d_si v0),[]⟩),((8,0,0),.live ⟨1,(map d_i v1),[]⟩)]⟩ (.exit 2) 5 (by kernel_rfl) (.f (nt hc) (U 4 .nil))
    rw[show (⟨[(7,(.one (.ref ⟨(7,0,0),[],0,(length (map d_si c0_71_1))⟩))),(8,(.one (.ref ⟨(8,0,0),[],0,(length (map d_i c1_71_1))⟩))),(9,(.oi i)),(62,(.one (.val (.bool (decide (i > 0))))))],[((7,0,0),.live ⟨2,(map d_si v0),[]⟩),((8,0,0),.live ⟨1,(map d_i v1),[]⟩)]⟩:St)=fin71_1 l1_0 a0 a1 c0_71_1 c1_71_1 c2_71_1 (.k0 v0 v1 i (decide (i > 0))) from(by rfl)] at st
    exact .loopX st (show ((.exit 2):VX.Exit)≠.normal from by simp)
  |n+1,i,v0,v1,hn,hi0,hi1,hi2,hi3,hi4,hi5=>by
    have hc:(decide (i > 0))=true:=by
      simp only[decide_eq_true_eq]; omega
    have hw:wrap .i64 (i - 1)=i - 1:=wrap64 (by omega)
    have hj0:=hi0; try simp only[LN,Int.toNat_natCast] at hj0
    have hj1:=hi1; try simp only[LN,Int.toNat_natCast] at hj1
    have hj2:=hi2; try simp only[LN,Int.toNat_natCast] at hj2
    have hj3:=hi3; try simp only[LN,Int.toNat_natCast] at hj3
    have hj4:=hi4; try simp only[LN,Int.toNat_natCast] at hj4
    have hj5:=hi5; try simp only[LN,Int.toNat_natCast] at hj5
    simp only[r71_1]
    cases h_1:r71_2 c1_71_1 v1 (toNat (((length (map d_i c1_71_1)):Int) - 1)) 0 1 with
    |k0 w0_1 w1_1 w2_1=>
      try dsimp only
      have zh_71_1_1:=z71_2 (a0:=a0) (a1:=a1) (c2_71_1:=c2_71_1) (c0_71_2:=c0_71_1) (c1_71_2:=c1_71_1) (c2_71_2:=i) (c3_71_2:=v0) (c4_71_2:=v1) (by assumption) (by assumption) (by omega) (by omega) (toNat (((length (map d_i c1_71_1)):Int) - 1)) 0 1 (by omega) (by omega) (by omega) (by omega) (by omega) (by omega); rw[h_1] at zh_71_1_1; simp only[post71_2] at zh_71_1_1
      have f1:(⟨[(7,(.one (.ref ⟨(7,0,0),[],0,(length (map d_si c0_71_1))⟩))),(8,(.one (.ref ⟨(8,0,0),[],0,(length (map d_i c1_71_1))⟩))),(9,(.oi i)),(12,(.oi 0)),(13,(.oi 1))],[((7,0,0),.live ⟨2,(map d_si v0),[]⟩),((8,0,0),.live ⟨1,(map d_i v1),[]⟩)]⟩:St)=h71_2 l1_0 a0 a1 c2_71_1 c0_71_1 c1_71_1 i v0 v1 0 1:=(by rfl)
      have f3:0+(length (map d_si c0_71_1))≤(length (map d_si v0)):=(by have q:=mlen_83 a1; simp only[length_map,length_nil,Nat.zero_add] at*; omega)
      have f4:0≤w0_1∧w0_1 <((length (map d_si c0_71_1)):Int):=(by omega)
      have f10:(set (map d_si v0) (0+(toNat w0_1)) [(.val (.string ((getD v0 (toNat w0_1) (K_si.mk (⟨#[]⟩:ByteArray) 0)).f0))),(.i (wrap .i64 (((getD v0 (toNat w0_1) (K_si.mk (⟨#[]⟩:ByteArray) 0)).f1)+1)))])=(map d_si (set v0 (toNat w0_1) (K_si.mk ((getD v0 (toNat w0_1) (K_si.mk (⟨#[]⟩:ByteArray) 0)).f0) (wrap .i64 (((getD v0 (toNat w0_1) (K_si.mk (⟨#[]⟩:ByteArray) 0)).f1)+1))))):=(by simp[take_of_length_le,d_si]; done)
      have f11:0+(length (map d_i c1_71_1))≤(length (map d_i v1)):=(by have q:=mlen_83 a1; simp only[length_map,length_nil,Nat.zero_add] at*; omega)
      have f12:0≤w0_1∧w0_1 <((length (map d_i c1_71_1)):Int):=(by omega)
      have f14:(set (map d_i v1) (0+(toNat w0_1)) [(.i (-1))])=(map d_i (set v1 (toNat w0_1) (-1))):=(by simp[take_of_length_le,d_i]; done)
      have st:=ch b71_1 (h71_1 l1_0 a0 a1 c0_71_1 c1_71_1 c2_71_1 i v0 v1) ⟨[(7,(.one (.ref ⟨(7,0,0),[],0,(length (map d_si c0_71_1))⟩))),(8,(.one (.ref ⟨(8,0,0),[],0,(length (map d_i c1_71_1))⟩))),(9,(.oi (wrap .i64 (i - 1))))],[((7,0,0),.live ⟨2,(map d_si (set v0 (toNat w0_1) (K_si.mk ((getD v0 (toNat w0_1) (K_si.mk (⟨#[]⟩:ByteArray) 0)).f0) (wrap .i64 (((getD v0 (toNat w0_1) (K_si.mk (⟨#[]⟩:ByteArray) 0)).f1)+1))))),[]⟩),((8,0,0),.live ⟨1,(map d_i (set v1 (toNat w0_1) (-1))),[]⟩)]⟩ .normal 44 (by kernel_rfl) (.f hc (.f f1 (.f (ev_ (e:=ex71_2) (g:=(fin71_2 l1_0 a0 a1 c2_71_1 c0_71_1 c1_71_1 i v0 v1)) h_1 (t71_2 (l1_0:=l1_0) (a0:=a0) (a1:=a1) (c2_71_1:=c2_71_1) (c0_71_2:=c0_71_1) (c1_71_2:=c1_71_1) (c2_71_2:=i) (c3_71_2:=v0) (c4_71_2:=v1) (by assumption) (by assumption) (by omega) (by omega) (toNat (((length (map d_i c1_71_1)):Int) - 1)) 0 1 (by omega) (by omega) (by omega) (by omega) (by omega) (by omega) (Nat.le_refl _))) (.f f3 (.f f4 (.f (mz_ d_si (getD_at v0 (toNat w0_1) (K_si.mk (⟨#[]⟩:ByteArray) 0) (by omega))) (.f trivial (.f f3 (.f f4 (.f (mz_ d_si (getD_at v0 (toNat w0_1) (K_si.mk (⟨#[]⟩:ByteArray) 0) (by omega))) (.f f10 (.f f11 (.f f12 (.f (mz_ d_i (getD_at v1 (toNat w0_1) 0 (by omega))) (.f f14 (hT 4 (.h 9 (.loop (h71_2 l1_0 a0 a1 c2_71_1 c0_71_1 c1_71_1 i v0 v1 0 1) (.exit 4) ⟨[(7,(.one (.ref ⟨(7,0,0),[],0,(length (map d_si c0_71_1))⟩))),(8,(.one (.ref ⟨(8,0,0),[],0,(length (map d_i c1_71_1))⟩))),(9,(.oi i)),(12,(.oi w0_1)),(13,(.oi w1_1)),(68,(.one (.val (.bool w2_1))))],[((7,0,0),.live ⟨2,(map d_si v0),[]⟩),((8,0,0),.live ⟨1,(map d_i v1),[]⟩)]⟩) (.h 19 (.rowD (d_si (getD v0 (toNat w0_1) (K_si.mk (⟨#[]⟩:ByteArray) 0)))) (.h 27 (.rowD (d_si (getD v0 (toNat w0_1) (K_si.mk (⟨#[]⟩:ByteArray) 0)))) (.h 28 (.norm (7,0,0) (map d_si (set v0 (toNat w0_1) (K_si.mk ((getD v0 (toNat w0_1) (K_si.mk (⟨#[]⟩:ByteArray) 0)).f0) (wrap .i64 (((getD v0 (toNat w0_1) (K_si.mk (⟨#[]⟩:ByteArray) 0)).f1)+1)))))) (.h 36 (.rowD [(.i (getD v1 (toNat w0_1) 0))]) (.h 37 (.norm (8,0,0) (map d_i (set v1 (toNat w0_1) (-1)))) .nil))))))))))))))))))))))
      have ih:=t71_1 (l1_0:=l1_0) (a0:=a0) (a1:=a1) (c0_71_1:=c0_71_1) (c1_71_1:=c1_71_1) (c2_71_1:=c2_71_1) hy0 hy1 hy2 hy3 hy4 hy5 hy6 n (i - 1) (set v0 (toNat w0_1) (K_si.mk ((getD v0 (toNat w0_1) (K_si.mk (⟨#[]⟩:ByteArray) 0)).f0) (wrap .i64 (((getD v0 (toNat w0_1) (K_si.mk (⟨#[]⟩:ByteArray) 0)).f1)+1)))) (set v1 (toNat w0_1) (-1)) (by omega) (by simp only[LN]; omega) (by simp only[LN]; omega) (by omega) (by simp only[LN]; omega) (by simp only[LN]; omega) (by simp only[LN]; omega)
      rw[show (⟨[(7,(.one (.ref ⟨(7,0,0),[],0,(length (map d_si c0_71_1))⟩))),(8,(.one (.ref ⟨(8,0,0),[],0,(length (map d_i c1_71_1))⟩))),(9,(.oi (wrap .i64 (i - 1))))],[((7,0,0),.live ⟨2,(map d_si (set v0 (toNat w0_1) (K_si.mk ((getD v0 (toNat w0_1) (K_si.mk (⟨#[]⟩:ByteArray) 0)).f0) (wrap .i64 (((getD v0 (toNat w0_1) (K_si.mk (⟨#[]⟩:ByteArray) 0)).f1)+1))))),[]⟩),((8,0,0),.live ⟨1,(map d_i (set v1 (toNat w0_1) (-1))),[]⟩)]⟩:St)=h71_1 l1_0 a0 a1 c0_71_1 c1_71_1 c2_71_1 (i - 1) (set v0 (toNat w0_1) (K_si.mk ((getD v0 (toNat w0_1) (K_si.mk (⟨#[]⟩:ByteArray) 0)).f0) (wrap .i64 (((getD v0 (toNat w0_1) (K_si.mk (⟨#[]⟩:ByteArray) 0)).f1)+1)))) (set v1 (toNat w0_1) (-1)) from(by unfold h71_1; simp only[hw]; done)] at st
      exact .loopN st ih
def post71_1 (n0 n1:Nat):O71_1→Prop
  |.k0 w0 w1 _ _=>length w0=n0∧length w1=n1
theorem z71_1 {c1_71_1:List Int}:∀(n:Nat) (i:Int) (v0:List K_si) (v1:List Int),post71_1 (length v0) (length v1) (r71_1 c1_71_1 n i v0 v1)
  |0,i,v0,v1=>by
    first | trivial |(simp only[post71_1,length_nil,Nat.add_zero]; done) |(simp[post71_1]; done)
  |n+1,i,v0,v1=>by
    simp only[r71_1]
    cases h_1:r71_2 c1_71_1 v1 (toNat (((length (map d_i c1_71_1)):Int) - 1)) 0 1 with
    |k0 w0_1 w1_1 w2_1=>
      try dsimp only
      have z:=z71_1 (c1_71_1:=c1_71_1) n (i - 1) (set v0 (toNat w0_1) (K_si.mk ((getD v0 (toNat w0_1) (K_si.mk (⟨#[]⟩:ByteArray) 0)).f0) (wrap .i64 (((getD v0 (toNat w0_1) (K_si.mk (⟨#[]⟩:ByteArray) 0)).f1)+1)))) (set v1 (toNat w0_1) (-1))
      rw[show (length v0)=(length (set v0 (toNat w0_1) (K_si.mk ((getD v0 (toNat w0_1) (K_si.mk (⟨#[]⟩:ByteArray) 0)).f0) (wrap .i64 (((getD v0 (toNat w0_1) (K_si.mk (⟨#[]⟩:ByteArray) 0)).f1)+1))))) from by first | omega |(simp only[LN]; done) |(simp only[LN]; omega),show (length v1)=(length (set v1 (toNat w0_1) (-1))) from by first | omega |(simp only[LN]; done) |(simp only[LN]; omega)]
      exact z
def m71 (a0:Int) (a1:(List K_si)):(List K_si):=
  (match r71_0 a0 a1 (m83 a1) 0 ([]) ([]) a0 with | .k0 w0_2 w1_2 w2_2 w3_2 w4_2=>(match r71_1 w1_2 (toNat w2_2) w2_2 w0_2 w1_2 with | .k0 w0_3 w1_3 w2_3 w3_3=>w0_3))
theorem e71 {a0:Int} {l1_0:Nat} {a1:(List K_si)} (hy0:0≤a0) (hy1:a0≤1000000) (hy2:0 < length a1) (hy3:length a1≤12) (hy4:∀z∈a1,1≤z.f1∧z.f1≤9999):Ev F X (.call 71 [(.one (.val (.int .i64 a0))),(.one (.bor l1_0 (map b_si a1)))] [] [] [(.one (.own 2 (map d_si (m71 a0 a1))))]):=by
  unfold m71
  cases h0:r71_0 a0 a1 (m83 a1) 0 ([]) ([]) a0 with
  |k0 w0_2 w1_2 w2_2 w3_2 w4_2=>
    try dsimp only
    have zh0:=z71_0 (a0:=a0) (a1:=a1) (m83 a1) 0 ([]) ([]) a0; rw[h0] at zh0; simp only[post71_0,length_map,length_set,length_append,length_replicate,length_cons,length_nil,Int.toNat_natCast] at zh0; have qh0:=left_71 a0 a1 _ _ _ _ _ (by omega) _ _ _ _ _ h0
    have f5:(⟨[(0,(.oi a0)),(5,(.one (.ref ⟨(5,0,0),[],0,(length (map d_si (m83 a1)))⟩))),(6,(.oi (m64 (m83 a1)))),(7,(.one (.ref ⟨(7,0,0),[],0,0⟩))),(8,(.one (.ref ⟨(8,0,0),[],0,0⟩))),(9,(.oi a0)),(10,(.oi 0))],[((5,0,0),.live ⟨2,(map d_si (m83 a1)),[]⟩),((7,0,0),.live ⟨2,[],[]⟩),((8,0,0),.live ⟨1,[],[]⟩)]⟩:St)=h71_0 l1_0 a0 a1 0 ([]) ([]) a0:=(by rfl)
    cases h1:r71_1 w1_2 (toNat w2_2) w2_2 w0_2 w1_2 with
    |k0 w0_3 w1_3 w2_3 w3_3=>
      try dsimp only
      have zh1:=z71_1 (c1_71_1:=w1_2) (toNat w2_2) w2_2 w0_2 w1_2; rw[h1] at zh1; simp only[post71_1,length_map,length_set,length_append,length_replicate,length_cons,length_nil,Int.toNat_natCast] at zh1
      have f7:(clean [7,8,9,18,19,45,57] ⟨[(0,(.oi a0)),(5,(.one (.ref ⟨(5,0,0),[],0,(length (map d_si (m83 a1)))⟩))),(6,(.oi (m64 (m83 a1)))),(7,(.one (.ref ⟨(7,0,0),[],0,(length (map d_si w0_2))⟩))),(8,(.one (.ref ⟨(8,0,0),[],0,(length (map d_i w1_2))⟩))),(9,(.oi w2_2)),(10,(.oi w3_2)),(24,(.one (.val (.bool w4_2))))],[((5,0,0),.live ⟨2,(map d_si (m83 a1)),[]⟩),((7,0,0),.live ⟨2,(map d_si w0_2),[]⟩),((8,0,0),.live ⟨1,(map d_i w1_2),[]⟩)]⟩:St)=h71_1 l1_0 a0 a1 w0_2 w1_2 w2_2 w2_2 w0_2 w1_2:=(by rfl)
      have f10:(length (map d_si w0_2))=(length (map d_si w0_3)):=(by have q:=mlen_83 a1; simp only[length_map,length_nil,Nat.zero_add] at*; omega)
      exact cp (by kernel_rfl) (.r 5 [] [] (e83 (l0_0:=(l1_0+1)) (a0:=a1) (by omega)) (ln_si (m83 a1) (.r 11 [] [(map b_si (m83 a1))] (e64 (l0_0:=0) (a0:=(m83 a1)) (by have q:=mlen_83 a1; simp only[length_map,length_nil,Nat.zero_add] at*; omega)) (.f f5 (.f (ev_ (e:=ex71_0) (g:=(fin71_0 l1_0 a0 a1)) h0 (t71_0 (l1_0:=l1_0) (a0:=a0) (a1:=a1) (by assumption) (by assumption) (by assumption) (by assumption) (by assumption) (m83 a1) [] ([]) ([]) a0 rfl (by have q1:=mlen_83 a1; have q2:=(mne_83 a1 (by assumption) (by omega)).1 (by omega); simp only[length_map,length_nil,length_set,Nat.zero_add] at*; omega) (by have q1:=mlen_83 a1; have q2:=(mne_83 a1 (by assumption) (by omega)).1 (by omega); simp only[length_map,length_nil,length_set,Nat.zero_add] at*; omega))) (.f f7 (.f (ev_ (e:=ex71_1) (g:=(fin71_1 l1_0 a0 a1 w0_2 w1_2 w2_2)) h1 (t71_1 (l1_0:=l1_0) (a0:=a0) (a1:=a1) (c0_71_1:=w0_2) (c1_71_1:=w1_2) (c2_71_1:=w2_2) (by assumption) (by assumption) (by assumption) (by assumption) (by assumption) (by have q:=mlen_83 a1; simp only[length_map,length_nil,Nat.zero_add] at*; omega) (by have q:=mlen_83 a1; simp only[length_map,length_nil,Nat.zero_add] at*; omega) _ w2_2 w0_2 w1_2 (by omega) (by simp only[LN]; done) (by simp only[LN]; done) (by omega) (by omega) (by have q1:=mlen_83 a1; have q2:=(mne_83 a1 (by assumption) (by omega)).1 (by omega); simp only[length_map,length_nil,length_set,Nat.zero_add] at*; omega) (by have q1:=mlen_83 a1; have q2:=(mne_83 a1 (by assumption) (by omega)).1 (by omega); simp only[length_map,length_nil,length_set,Nat.zero_add] at*; omega))) (pe 0 (.f f10 (.f (pureR_si w0_3) (.h 28 (.loop (h71_0 l1_0 a0 a1 0 ([]) ([]) a0) (.exit 0) ⟨[(0,(.oi a0)),(5,(.one (.ref ⟨(5,0,0),[],0,(length (map d_si (m83 a1)))⟩))),(6,(.oi (m64 (m83 a1)))),(7,(.one (.ref ⟨(7,0,0),[],0,(length (map d_si w0_2))⟩))),(8,(.one (.ref ⟨(8,0,0),[],0,(length (map d_i w1_2))⟩))),(9,(.oi w2_2)),(10,(.oi w3_2)),(24,(.one (.val (.bool w4_2))))],[((5,0,0),.live ⟨2,(map d_si (m83 a1)),[]⟩),((7,0,0),.live ⟨2,(map d_si w0_2),[]⟩),((8,0,0),.live ⟨1,(map d_i w1_2),[]⟩)]⟩) (.h 29 (.loopd [7,8,9,18,19,45,57] (h71_1 l1_0 a0 a1 w0_2 w1_2 w2_2 w2_2 w0_2 w1_2) (.exit 2) ⟨[(7,(.one (.ref ⟨(7,0,0),[],0,(length (map d_si w0_2))⟩))),(8,(.one (.ref ⟨(8,0,0),[],0,(length (map d_i w1_2))⟩))),(9,(.oi w2_3)),(62,(.one (.val (.bool w3_3))))],[((7,0,0),.live ⟨2,(map d_si w0_3),[]⟩),((8,0,0),.live ⟨1,(map d_i w1_3),[]⟩)]⟩) .nil))))))))))))
theorem dlen71 (t:Int) (a:List K_si):length (m71 t a)=length (m83 a):=by
  have z:=z71_0 (a0:=t) (a1:=a) (m83 a) 0 [] [] t
  unfold m71
  cases hr:r71_0 t a (m83 a) 0 [] [] t with
  |k0 w0 w1 w2 w3 w4=>
    rw[hr] at z
    have z1:=z71_1 (c1_71_1:=w1) (toNat w2) w2 w0 w1
    simp only[]
    cases hr1:r71_1 w1 (toNat w2) w2 w0 w1 with
    |k0 u0 u1 u2 u3=>
      rw[hr1] at z1
      simp only[post71_0,post71_1,length_nil,Nat.zero_add] at z z1
      simp only[]
      omega
theorem psz_0 (t:Int) (a:List K_si):∀(l:List K_si) (i:Int) (v:List K_si) (u:List Int) (k:Int),(∀z∈l,ByteArray.size z.f0≤3)→(∀z∈v,ByteArray.size z.f0≤3)→∀w0 w1 w2 w3 w4,r71_0 t a l i v u k=.k0 w0 w1 w2 w3 w4→∀z∈w0,ByteArray.size z.f0≤3
  |[],i,v,u,k,_,hv,w0,w1,w2,w3,w4,e=>by
    simp only[r71_0] at e
    injection e with e0 e1 e2 e3 e4
    subst e0; exact hv
  |x::l,i,v,u,k,hl,hv,w0,w1,w2,w3,w4,e=>by
    simp only[r71_0] at e
    exact psz_0 t a l _ _ _ _ (fun z hz=>hl z (List.mem_cons_of_mem _ hz)) yav w0 w1 w2 w3 w4 e
theorem psz_1 (c:List Int):∀(n:Nat) (i:Int) (v:List K_si) (u:List Int),(∀z∈v,ByteArray.size z.f0≤3)→∀w0 w1 w2 w3,r71_1 c n i v u=.k0 w0 w1 w2 w3→∀z∈w0,ByteArray.size z.f0≤3
  |0,i,v,u,hv,w0,w1,w2,w3,e=>by
    simp only[r71_1] at e
    injection e with e0 e1 e2 e3
    subst e0; exact hv
  |n+1,i,v,u,hv,w0,w1,w2,w3,e=>by
    simp only[r71_1] at e
    exact psz_1 c n _ _ _ yaC w0 w1 w2 w3 e
theorem psz (t:Int) {a:List K_si} (h:∀z∈a,ByteArray.size z.f0≤3):∀z∈m71 t a,ByteArray.size z.f0≤3:=by
  unfold m71
  cases e:r71_0 t a (m83 a) 0 [] [] t with
  |k0 w0 w1 w2 w3 w4=>
    simp only[]
    cases e1:r71_1 w1 (toNat w2) w2 w0 w1 with
    |k0 u0 u1 u2 u3=>
      exact psz_1 w1 _ _ w0 w1 (psz_0 t a _ _ [] [] t (msz h) (fun z hz=>by cases hz) w0 w1 w2 w3 w4 e) u0 u1 u2 u3 e1
def m43 (a0:K_B) (a1:Int) (a2:Int):K_C:=
  if(!(m72 a1 0 2147483646))=true then(K_C.mk 3 0 0 0 ([]) ([]) ([]) 0 0 0) else
  if(!(m72 a2 0 1000000))=true then(K_C.mk 3 0 0 0 ([]) ([]) ([]) 0 0 0) else
    if(decide ((m67 a0.f3 a1)≥0))=true then(K_C.mk 6 0 0 0 ([]) ([]) ([]) 0 0 0) else
      if(decide (((length (map b_R a0.f3)):Int)≥6))=true then(K_C.mk 10 0 0 0 ([]) ([]) ([]) 0 0 0) else
        if(!(m72 (wrap .i64 ((m65 a0.f3 false)+a2)) 0 1000000))=true then(K_C.mk 7 0 0 0 ([]) ([]) ([]) 0 0 0) else
          if(decide (((length (map b_si a0.f2)):Int) > 0))=true then(K_C.mk 0 (wrap .i64 (Int.tdiv (wrap .i64 (a2*a0.f1)) 1000)) ((m68 a0).f0) ((m68 a0).f1) ((m68 a0).f2) (((m68 a0).f3)++([(K_R.mk a1 a2 (wrap .i64 (Int.tdiv (wrap .i64 (a2*a0.f1)) 1000)) (m71 (wrap .i64 (a2 - (wrap .i64 (Int.tdiv (wrap .i64 (a2*a0.f1)) 1000)))) a0.f2) 1)])) ((m68 a0).f4) ((m68 a0).f5) ((m68 a0).f6) ((m68 a0).f7)) else
            (K_C.mk 0 a2 ((m68 a0).f0) ((m68 a0).f1) ((m68 a0).f2) (((m68 a0).f3)++([(K_R.mk a1 a2 a2 [] 1)])) ((m68 a0).f4) ((m68 a0).f5) ((m68 a0).f6) ((m68 a0).f7))
theorem e43 {l0_2:Nat} {l0_3:Nat} {l0_4:Nat} {a0:K_B} {a1:Int} {a2:Int} (hy0:length a0.f2≤100) (hy1:length a0.f3≤100) (hy2:∀z∈a0.f3,length z.f3≤100) (hy3:length a0.f4≤100) (hy4:∀z∈a0.f3,ok_R z) (hy5:length a0.f2≤12) (hy6:∀z∈a0.f2,1≤z.f1∧z.f1≤9999) (hy7:0≤a0.f1∧a0.f1≤1000):Ev F X (.call 43 [(.agg (k_B l0_2 l0_3 l0_4 a0)),(.one (.val (.int .i64 a1))),(.one (.val (.int .i64 a2)))] [] [] [(.agg (d_C (m43 a0 a1 a2)))]):=by
  unfold m43
  have P0 {hs q} (r:PS F X hs q):=(PS.r 7 [] [] (e70 (a0:=a1)) r)
  by_cases h0:(!(m72 a1 0 2147483646))=true
  · try simp only[if_pos h0]
    exact cp ya (P0 (.f h0 (.f h0 (.f h0 (.f h0 (hT 12 (hT 14 (hT 16 (hT 19 (.r 22 [] [] (e37 (a0:=3)) (p3 ([]) ([]) ([]) (.f (pureR_si ([])) (.f (pureR_R ([])) (.f (pureR_si ([])) .nil))))))))))))))
  try simp only[if_neg h0]
  have P1 {hs q} (r:PS F X hs q):=(P0 (N h0 (N h0 (U 12 (U 14 (.r 15 [] [] (e66 (a0:=a2)) (N h0 (N h0 (U 16 (U 19 r))))))))))
  by_cases h1:(!(m72 a2 0 1000000))=true
  · try simp only[if_pos h1]
    exact cp ya (P1 (.f h1 (hT 20 (.r 22 [] [] (e37 (a0:=3)) (p3 ([]) ([]) ([]) (.f (pureR_si ([])) (.f (pureR_R ([])) (.f (pureR_si ([])) .nil))))))))
  try simp only[if_neg h1]
  have P2 {hs q} (r:PS F X hs q):=(P1 (N h1 (U 20 (.r 28 [] [] (e67 (l0_0:=(l0_3+1)) (a0:=a0.f3) (a1:=a1) yd ‹_›) r))))
  by_cases h2:(decide ((m67 a0.f3 a1)≥0))=true
  · try simp only[if_pos h2]
    exact cp ya (P2 (.f h2 (hT 31 (.r 33 [] [] (e37 (a0:=6)) (p3 ([]) ([]) ([]) (.f (pureR_si ([])) (.f (pureR_R ([])) (.f (pureR_si ([])) .nil))))))))
  try simp only[if_neg h2]
  have P3 {hs q} (r:PS F X hs q):=(P2 (N h2 (U 31 r)))
  by_cases h3:(decide (((length (map b_R a0.f3)):Int)≥6))=true
  · try simp only[if_pos h3]
    exact cp ya (P3 (.f h3 (hT 40 (.r 42 [] [] (e37 (a0:=10)) (p3 ([]) ([]) ([]) (.f (pureR_si ([])) (.f (pureR_R ([])) (.f (pureR_si ([])) .nil))))))))
  try simp only[if_neg h3]
  have P4 {hs q} (r:PS F X hs q):=(P3 (N h3 (U 40 (.r 46 [] [] (e65 (l0_0:=(l0_3+1)) (a0:=a0.f3) (a1:=false) yd ‹_›) (.f trivial (.r 52 [] [] (e66 (a0:=(wrap .i64 ((m65 a0.f3 false)+a2)))) r))))))
  by_cases h4:(!(m72 (wrap .i64 ((m65 a0.f3 false)+a2)) 0 1000000))=true
  · try simp only[if_pos h4]
    exact cp ya (P4 (.f h4 (hT 55 (.r 57 [] [] (e37 (a0:=7)) (p3 ([]) ([]) ([]) (.f (pureR_si ([])) (.f (pureR_R ([])) (.f (pureR_si ([])) .nil))))))))
  try simp only[if_neg h4]
  by_cases h5:(decide (((length (map b_si a0.f2)):Int) > 0))=true
  · try simp only[if_pos h5]
    have f15:(1000:Int)≠0:=yd
    have f28:0+(length (map d_R ((m68 a0).f3)))≤(length (map d_R ((m68 a0).f3))):=yd
    have f29:1≤1:=yd
    have f30:((take 1 (drop 0 [[(.i a1),(.i a2),(.i (wrap .i64 (Int.tdiv (wrap .i64 (a2*a0.f1)) 1000))),(.own 2 (map d_si (m71 (wrap .i64 (a2 - (wrap .i64 (Int.tdiv (wrap .i64 (a2*a0.f1)) 1000)))) a0.f2))),(.i 1)]])).all fun x=>x.all copyable)=false:=yA
    have f33:(length ((take (length (map d_R ((m68 a0).f3))) (drop 0 (map d_R ((m68 a0).f3))))++([[(.i a1),(.i a2),(.i (wrap .i64 (Int.tdiv (wrap .i64 (a2*a0.f1)) 1000))),(.own 2 (map d_si (m71 (wrap .i64 (a2 - (wrap .i64 (Int.tdiv (wrap .i64 (a2*a0.f1)) 1000)))) a0.f2))),(.i 1)]]:List (List D))))*56≤70368744177664:=yan
    have f34:∀r∈([[(.i a1),(.i a2),(.i (wrap .i64 (Int.tdiv (wrap .i64 (a2*a0.f1)) 1000))),(.own 2 (map d_si (m71 (wrap .i64 (a2 - (wrap .i64 (Int.tdiv (wrap .i64 (a2*a0.f1)) 1000)))) a0.f2))),(.i 1)]]:List (List D)),r.length=5:=(by unfold m71;(repeat' split)<;>simp_all<;>omega)
    have f37:([[(.i ((m68 a0).f0)),(.i ((m68 a0).f1)),(.own 2 (map d_si ((m68 a0).f2))),(.own 5 ((take (length (map d_R ((m68 a0).f3))) (drop 0 (map d_R ((m68 a0).f3))))++([[(.i a1),(.i a2),(.i (wrap .i64 (Int.tdiv (wrap .i64 (a2*a0.f1)) 1000))),(.own 2 (map d_si (m71 (wrap .i64 (a2 - (wrap .i64 (Int.tdiv (wrap .i64 (a2*a0.f1)) 1000)))) a0.f2))),(.i 1)]]:List (List D)))),(.own 2 (map d_si ((m68 a0).f4))),(.i ((m68 a0).f5)),(.i ((m68 a0).f6)),(.i ((m68 a0).f7))]]:List (List D))=[[(.i ((m68 a0).f0)),(.i ((m68 a0).f1)),(.own 2 (map d_si ((m68 a0).f2))),(.own 5 (map d_R (((m68 a0).f3)++([(K_R.mk a1 a2 (wrap .i64 (Int.tdiv (wrap .i64 (a2*a0.f1)) 1000)) (m71 (wrap .i64 (a2 - (wrap .i64 (Int.tdiv (wrap .i64 (a2*a0.f1)) 1000)))) a0.f2) 1)])))),(.own 2 (map d_si ((m68 a0).f4))),(.i ((m68 a0).f5)),(.i ((m68 a0).f6)),(.i ((m68 a0).f7))]]:=yI
    exact cp ya (P4 (N h4 (.f h5 (.f f15 (U 55 (hT 76 (.r 104 [] [] (e71 (l1_0:=(l0_2+1)) (a0:=(wrap .i64 (a2 - (wrap .i64 (Int.tdiv (wrap .i64 (a2*a0.f1)) 1000))))) (a1:=a0.f2) yad yad yab ‹_› ‹_›) (pe 0 (pe (length (map d_si (m71 (wrap .i64 (a2 - (wrap .i64 (Int.tdiv (wrap .i64 (a2*a0.f1)) 1000)))) a0.f2))) (.r 112 [] [] (e68 (l0_2:=(l0_2+1)) (l0_3:=(l0_3+1)) (l0_4:=(l0_4+1)) (a0:=a0) ‹_› ‹_› ‹_› ‹_› ‹_›) (p3 ((m68 a0).f2) ((m68 a0).f3) ((m68 a0).f4) (pe 0 (pe (length (map d_si (m71 (wrap .i64 (a2 - (wrap .i64 (Int.tdiv (wrap .i64 (a2*a0.f1)) 1000)))) a0.f2))) (.f f28 (.f f29 (.f f30 (pe 0 (pe 1 (.f f33 (.f f34 (pe 0 (pe (length ((take (length (map d_R ((m68 a0).f3))) (drop 0 (map d_R ((m68 a0).f3))))++([[(.i a1),(.i a2),(.i (wrap .i64 (Int.tdiv (wrap .i64 (a2*a0.f1)) 1000))),(.own 2 (map d_si (m71 (wrap .i64 (a2 - (wrap .i64 (Int.tdiv (wrap .i64 (a2*a0.f1)) 1000)))) a0.f2))),(.i 1)]]:List (List D)))) (.f f37 (p3 ((m68 a0).f2) (((m68 a0).f3)++([(K_R.mk a1 a2 (wrap .i64 (Int.tdiv (wrap .i64 (a2*a0.f1)) 1000)) (m71 (wrap .i64 (a2 - (wrap .i64 (Int.tdiv (wrap .i64 (a2*a0.f1)) 1000)))) a0.f2) 1)])) ((m68 a0).f4) (.f (pureR_si ((m68 a0).f2)) (.f (pureR_R (((m68 a0).f3)++([(K_R.mk a1 a2 (wrap .i64 (Int.tdiv (wrap .i64 (a2*a0.f1)) 1000)) (m71 (wrap .i64 (a2 - (wrap .i64 (Int.tdiv (wrap .i64 (a2*a0.f1)) 1000)))) a0.f2) 1)]))) (.f (pureR_si ((m68 a0).f4)) (U 126 (.h 131 (.norm (8,0,0) [[(.i ((m68 a0).f0)),(.i ((m68 a0).f1)),(.own 2 (map d_si ((m68 a0).f2))),(.own 5 (map d_R (((m68 a0).f3)++([(K_R.mk a1 a2 (wrap .i64 (Int.tdiv (wrap .i64 (a2*a0.f1)) 1000)) (m71 (wrap .i64 (a2 - (wrap .i64 (Int.tdiv (wrap .i64 (a2*a0.f1)) 1000)))) a0.f2) 1)])))),(.own 2 (map d_si ((m68 a0).f4))),(.i ((m68 a0).f5)),(.i ((m68 a0).f6)),(.i ((m68 a0).f7))]]) .nil)))))))))))))))))))))))))))))
  try simp only[if_neg h5]
  have f24:0+(length (map d_R ((m68 a0).f3)))≤(length (map d_R ((m68 a0).f3))):=yd
  have f25:1≤1:=yd
  have f26:((take 1 (drop 0 [[(.i a1),(.i a2),(.i a2),(.own 2 []),(.i 1)]])).all fun x=>x.all copyable)=false:=yA
  have f29:(length ((take (length (map d_R ((m68 a0).f3))) (drop 0 (map d_R ((m68 a0).f3))))++([[(.i a1),(.i a2),(.i a2),(.own 2 []),(.i 1)]]:List (List D))))*56≤70368744177664:=yan
  have f30:∀r∈([[(.i a1),(.i a2),(.i a2),(.own 2 []),(.i 1)]]:List (List D)),r.length=5:=yP
  have f33:([[(.i ((m68 a0).f0)),(.i ((m68 a0).f1)),(.own 2 (map d_si ((m68 a0).f2))),(.own 5 ((take (length (map d_R ((m68 a0).f3))) (drop 0 (map d_R ((m68 a0).f3))))++([[(.i a1),(.i a2),(.i a2),(.own 2 []),(.i 1)]]:List (List D)))),(.own 2 (map d_si ((m68 a0).f4))),(.i ((m68 a0).f5)),(.i ((m68 a0).f6)),(.i ((m68 a0).f7))]]:List (List D))=[[(.i ((m68 a0).f0)),(.i ((m68 a0).f1)),(.own 2 (map d_si ((m68 a0).f2))),(.own 5 (map d_R (((m68 a0).f3)++([(K_R.mk a1 a2 a2 [] 1)])))),(.own 2 (map d_si ((m68 a0).f4))),(.i ((m68 a0).f5)),(.i ((m68 a0).f6)),(.i ((m68 a0).f7))]]:=yI
  exact cp ya (P4 (N h4 (N h5 (U 55 (U 76 (.r 80 [] [] (e68 (l0_2:=(l0_2+1)) (l0_3:=(l0_3+1)) (l0_4:=(l0_4+1)) (a0:=a0) ‹_› ‹_› ‹_› ‹_› ‹_›) (p3 ((m68 a0).f2) ((m68 a0).f3) ((m68 a0).f4) (pe 0 (pe 0 (.f f24 (.f f25 (.f f26 (pe 0 (pe 1 (.f f29 (.f f30 (pe 0 (pe (length ((take (length (map d_R ((m68 a0).f3))) (drop 0 (map d_R ((m68 a0).f3))))++([[(.i a1),(.i a2),(.i a2),(.own 2 []),(.i 1)]]:List (List D)))) (.f f33 (p3 ((m68 a0).f2) (((m68 a0).f3)++([(K_R.mk a1 a2 a2 [] 1)])) ((m68 a0).f4) (.f (pureR_si ((m68 a0).f2)) (.f (pureR_R (((m68 a0).f3)++([(K_R.mk a1 a2 a2 [] 1)]))) (.f (pureR_si ((m68 a0).f4)) (U 94 (.h 99 (.norm (8,0,0) [[(.i ((m68 a0).f0)),(.i ((m68 a0).f1)),(.own 2 (map d_si ((m68 a0).f2))),(.own 5 (map d_R (((m68 a0).f3)++([(K_R.mk a1 a2 a2 [] 1)])))),(.own 2 (map d_si ((m68 a0).f4))),(.i ((m68 a0).f5)),(.i ((m68 a0).f6)),(.i ((m68 a0).f7))]]) .nil)))))))))))))))))))))))))
theorem foG {a:K_B} {i t:Int} (h:GL a) (hc:¬((m43 a i t).f0 !=0)=true):GL (K_B.mk (m43 a i t).f2 (m43 a i t).f3 (m43 a i t).f4 (m43 a i t).f5 (m43 a i t).f6 (m43 a i t).f7 (m43 a i t).f8 (m43 a i t).f9):=by
  obtain⟨h1,h2,h3,h4,h5⟩:=h
  generalize hr:m43 a i t=r at hc⊢
  unfold m43 at hr
  simp only[cp68] at hr
  (repeat' split at hr)<;>subst hr<;>first
    |(exfalso; simp at hc; done)
    | (refine ⟨h1, h2, h3, ?_, h5⟩
       simp only[length_map,decide_eq_true_eq] at*
       refine gr_le (gr_app (n:=5) ⟨by omega,h4.2⟩ ?_) (by decide)
       first | exact⟨by simp,fun z hz=>by cases hz⟩ | exact⟨by simp only[]; rw[dlen71]; exact Nat.le_trans (mlen_83 _) h3.1,psz _ h3.2.2⟩)
inductive O73_0 where
  |k0 (w0:List K_si) (w1:Int) (w2:Bool)
def r73_0 (a1:(List K_si)):List K_si→Int→List K_si→O73_0
  |x0::y0,i,v0=>
    if(decide ((m80 v0 x0.f0)≥0))=true then(r73_0 a1 y0 (i+1) (set v0 (toNat (m80 v0 x0.f0)) (K_si.mk ((getD v0 (toNat (m80 v0 x0.f0)) (K_si.mk (⟨#[]⟩:ByteArray) 0)).f0) (wrap .i64 (((getD v0 (toNat (m80 v0 x0.f0)) (K_si.mk (⟨#[]⟩:ByteArray) 0)).f1)+x0.f1))))) else
    (r73_0 a1 y0 (i+1) (v0++([x0])))
  |[],i,v0=>(O73_0.k0 v0 i (decide (i <((length (map b_si a1)):Int))))
def h73_0 (l0_0:Nat) (l1_0:Nat) (a0:(List K_si)) (a1:(List K_si)) (i:Int) (v0:List K_si):St:=⟨[(1,(.one (.bor l1_0 (map b_si a1)))),(6,(.one (.ref ⟨(6,0,0),[],0,(length (map d_si v0))⟩))),(7,(.one (.val (.int .i64 i))))],[((6,0,0),.live ⟨2,(map d_si v0),[]⟩)]⟩
def ex73_0:O73_0→VX.Exit
  |.k0 _ _ _=>(.exit 0)
def fin73_0 (l0_0:Nat) (l1_0:Nat) (a0:(List K_si)) (a1:(List K_si)):O73_0→St
  |.k0 w0 w1 w2=>⟨[(1,(.one (.bor l1_0 (map b_si a1)))),(6,(.one (.ref ⟨(6,0,0),[],0,(length (map d_si w0))⟩))),(7,(.one (.val (.int .i64 w1)))),(15,(.one (.val (.bool w2))))],[((6,0,0),.live ⟨2,(map d_si w0),[]⟩)]⟩
theorem t73_0 {l0_0:Nat} {l1_0:Nat} {a0:(List K_si)} {a1:(List K_si)} (hy0:length a0≤100) (hy1:length a1≤100):∀(y0:List K_si) (p:List K_si) (v0:List K_si),p++y0=a1→(length v0+length y0)*24≤70368744177664→Ev F X (.code l73_0 (h73_0 l0_0 l1_0 a0 a1 (length p:Int) v0) (ex73_0 (r73_0 a1 y0 (length p:Int) v0)) (fin73_0 l0_0 l1_0 a0 a1 (r73_0 a1 y0 (length p:Int) v0)))
  |[],p,v0,hp0,hi0=>by
    have hc:¬(decide ((length p:Int) <((length (map b_si a1)):Int)))=true:=by
      rw[← hp0]; simp only[LN,decide_eq_true_eq]; omega
    have hj0:=hi0; try simp only[LN,Int.toNat_natCast] at hj0
    have st:=ch b73_0 (h73_0 l0_0 l1_0 a0 a1 (length p:Int) v0) ⟨[(1,(.one (.bor l1_0 (map b_si a1)))),(6,(.one (.ref ⟨(6,0,0),[],0,(length (map d_si v0))⟩))),(7,(.oi (length p:Int))),(15,(.one (.val (.bool (decide ((length p:Int) <((length (map b_si a1)):Int)))))))],[((6,0,0),.live ⟨2,(map d_si v0),[]⟩)]⟩ (.exit 0) 9 (by kernel_rfl) (.f (nt hc) (U 8 .nil))
    rw[show (⟨[(1,(.one (.bor l1_0 (map b_si a1)))),(6,(.one (.ref ⟨(6,0,0),[],0,(length (map d_si v0))⟩))),(7,(.oi (length p:Int))),(15,(.one (.val (.bool (decide ((length p:Int) <((length (map b_si a1)):Int)))))))],[((6,0,0),.live ⟨2,(map d_si v0),[]⟩)]⟩:St)=fin73_0 l0_0 l1_0 a0 a1 (.k0 v0 (length p:Int) (decide ((length p:Int) <((length (map b_si a1)):Int)))) from(by rfl)] at st
    exact .loopX st (show ((.exit 0):VX.Exit)≠.normal from by simp)
  |x0::y0,p,v0,hp0,hi0=>by
    have hc:(decide ((length p:Int) <((length (map b_si a1)):Int)))=true:=by
      rw[← hp0]; simp only[LN,decide_eq_true_eq]; omega
    have Hx0:(a1)[toNat (length p:Int)]?=some x0:=by
      rw[← hp0,Int.toNat_natCast]; simp
    have hlen:length (a1)=length p+length y0+1:=by rw[← hp0]; simp; omega
    have hw:wrap .i64 ((length p:Int)+1)=(length p:Int)+1:=wrap64 (by omega)
    have hj0:=hi0; try simp only[LN,Int.toNat_natCast] at hj0
    simp only[r73_0]
    have f1:0≤(length p:Int):=(by omega)
    have P1 {hs q} (r:PS F X hs q):=(PS.f hc (.f f1 (.f (mp_ b_si Hx0) (ln_si v0 (hT 8 (.h 16 (.row (b_si x0)) (.r 22 [] [(map b_si v0)] (e80 (l0_0:=0) (a0:=v0) (a1:=x0.f0) (by omega)) r)))))))
    by_cases h_1:(decide ((m80 v0 x0.f0)≥0))=true
    · try simp only[if_pos h_1]
      have f8:0+(length (map d_si v0))≤(length (map d_si v0)):=(by omega)
      have f9:0≤(m80 v0 x0.f0)∧(m80 v0 x0.f0) <((length (map d_si v0)):Int):=(by have q:=ix80 v0 x0.f0; simp only[decide_eq_true_eq,length_map] at*; omega)
      have f17:(set (map d_si v0) (0+(toNat (m80 v0 x0.f0))) [(.val (.string ((getD v0 (toNat (m80 v0 x0.f0)) (K_si.mk (⟨#[]⟩:ByteArray) 0)).f0))),(.i (wrap .i64 (((getD v0 (toNat (m80 v0 x0.f0)) (K_si.mk (⟨#[]⟩:ByteArray) 0)).f1)+x0.f1)))])=(map d_si (set v0 (toNat (m80 v0 x0.f0)) (K_si.mk ((getD v0 (toNat (m80 v0 x0.f0)) (K_si.mk (⟨#[]⟩:ByteArray) 0)).f0) (wrap .i64 (((getD v0 (toNat (m80 v0 x0.f0)) (K_si.mk (⟨#[]⟩:ByteArray) 0)).f1)+x0.f1))))):=(by simp[take_of_length_le,d_si]; done)
      have st:=ch b73_0 (h73_0 l0_0 l1_0 a0 a1 (length p:Int) v0) ⟨[(1,(.one (.bor l1_0 (map b_si a1)))),(6,(.one (.ref ⟨(6,0,0),[],0,(length (map d_si v0))⟩))),(7,(.oi (wrap .i64 ((length p:Int)+1))))],[((6,0,0),.live ⟨2,(map d_si (set v0 (toNat (m80 v0 x0.f0)) (K_si.mk ((getD v0 (toNat (m80 v0 x0.f0)) (K_si.mk (⟨#[]⟩:ByteArray) 0)).f0) (wrap .i64 (((getD v0 (toNat (m80 v0 x0.f0)) (K_si.mk (⟨#[]⟩:ByteArray) 0)).f1)+x0.f1))))),[]⟩)]⟩ .normal 69 (by kernel_rfl) (P1 (.f h_1 (.f f8 (.f f9 (.f (mz_ d_si (getD_at v0 (toNat (m80 v0 x0.f0)) (K_si.mk (⟨#[]⟩:ByteArray) 0) (by have q:=ix80 v0 x0.f0; simp only[decide_eq_true_eq,length_map] at*; omega))) (.f f1 (.f (mp_ b_si Hx0) (.f trivial (.f f8 (.f f9 (.f (mz_ d_si (getD_at v0 (toNat (m80 v0 x0.f0)) (K_si.mk (⟨#[]⟩:ByteArray) 0) (by have q:=ix80 v0 x0.f0; simp only[decide_eq_true_eq,length_map] at*; omega))) (.f f17 (.f trivial (hT 29 (.h 43 (.rowD (d_si (getD v0 (toNat (m80 v0 x0.f0)) (K_si.mk (⟨#[]⟩:ByteArray) 0)))) (.h 49 (.row (b_si x0)) (.h 61 (.rowD (d_si (getD v0 (toNat (m80 v0 x0.f0)) (K_si.mk (⟨#[]⟩:ByteArray) 0)))) (.h 62 (.norm (6,0,0) (map d_si (set v0 (toNat (m80 v0 x0.f0)) (K_si.mk ((getD v0 (toNat (m80 v0 x0.f0)) (K_si.mk (⟨#[]⟩:ByteArray) 0)).f0) (wrap .i64 (((getD v0 (toNat (m80 v0 x0.f0)) (K_si.mk (⟨#[]⟩:ByteArray) 0)).f1)+x0.f1)))))) .nil))))))))))))))))))
      have ih:=t73_0 (l0_0:=l0_0) (l1_0:=l1_0) (a0:=a0) (a1:=a1) hy0 hy1 y0 (p++ [x0]) (set v0 (toNat (m80 v0 x0.f0)) (K_si.mk ((getD v0 (toNat (m80 v0 x0.f0)) (K_si.mk (⟨#[]⟩:ByteArray) 0)).f0) (wrap .i64 (((getD v0 (toNat (m80 v0 x0.f0)) (K_si.mk (⟨#[]⟩:ByteArray) 0)).f1)+x0.f1)))) (by rw[append_assoc]; exact hp0) (by simp only[LN]; omega)
      rw[show ((p++ [x0]).length:Int)=(p.length:Int)+1 from by simp] at ih
      rw[show (⟨[(1,(.one (.bor l1_0 (map b_si a1)))),(6,(.one (.ref ⟨(6,0,0),[],0,(length (map d_si v0))⟩))),(7,(.oi (wrap .i64 ((length p:Int)+1))))],[((6,0,0),.live ⟨2,(map d_si (set v0 (toNat (m80 v0 x0.f0)) (K_si.mk ((getD v0 (toNat (m80 v0 x0.f0)) (K_si.mk (⟨#[]⟩:ByteArray) 0)).f0) (wrap .i64 (((getD v0 (toNat (m80 v0 x0.f0)) (K_si.mk (⟨#[]⟩:ByteArray) 0)).f1)+x0.f1))))),[]⟩)]⟩:St)=h73_0 l0_0 l1_0 a0 a1 ((length p:Int)+1) (set v0 (toNat (m80 v0 x0.f0)) (K_si.mk ((getD v0 (toNat (m80 v0 x0.f0)) (K_si.mk (⟨#[]⟩:ByteArray) 0)).f0) (wrap .i64 (((getD v0 (toNat (m80 v0 x0.f0)) (K_si.mk (⟨#[]⟩:ByteArray) 0)).f1)+x0.f1)))) from(by unfold h73_0; simp only[hw,length_map,length_set,length_append,length_replicate,length_cons,length_nil]; done)] at st
      exact .loopN st ih
    try simp only[if_neg h_1]
    have f10:0+(length (map d_si v0))≤(length (map d_si v0)):=(by omega)
    have f11:1≤1:=(by omega)
    have f12:((take 1 (drop 0 [[(.val (.string x0.f0)),(.i x0.f1)]])).all fun x=>x.all copyable)=true:=(by trivial)
    have f13:(length ((take (length (map d_si v0)) (drop 0 (map d_si v0)))++([[(.val (.string x0.f0)),(.i x0.f1)]]:List (List D))))*24≤70368744177664:=(by simp only[length_map,length_append,length_cons,length_nil,length_take,length_drop]; omega)
    have f14:∀r∈([[(.val (.string x0.f0)),(.i x0.f1)]]:List (List D)),r.length=2:=(by simp; done)
    have f15:((take (length (map d_si v0)) (drop 0 (map d_si v0)))++([[(.val (.string x0.f0)),(.i x0.f1)]]:List (List D)))=(map d_si (v0++([x0]))):=(by simp[take_of_length_le,d_si]; done)
    have st:=ch b73_0 (h73_0 l0_0 l1_0 a0 a1 (length p:Int) v0) ⟨[(1,(.one (.bor l1_0 (map b_si a1)))),(6,(.one (.ref ⟨(6,0,0),[],0,(length ((take (length (map d_si v0)) (drop 0 (map d_si v0)))++([[(.val (.string x0.f0)),(.i x0.f1)]]:List (List D))))⟩))),(7,(.oi (wrap .i64 ((length p:Int)+1))))],[((6,0,0),.live ⟨2,(map d_si (v0++([x0]))),[]⟩)]⟩ .normal 53 (by kernel_rfl) (P1 (.f (nt h_1) (.f f1 (.f (mp_ b_si Hx0) (.f f10 (.f f11 (.f f12 (.f f13 (.f f14 (.f f15 (.f trivial (U 29 (.h 37 (.row (b_si x0)) (hT 43 (.h 46 (.norm (6,0,0) (map d_si (v0++([x0])))) .nil)))))))))))))))
    have ih:=t73_0 (l0_0:=l0_0) (l1_0:=l1_0) (a0:=a0) (a1:=a1) hy0 hy1 y0 (p++ [x0]) (v0++([x0])) (by rw[append_assoc]; exact hp0) (by simp only[LN]; omega)
    rw[show ((p++ [x0]).length:Int)=(p.length:Int)+1 from by simp] at ih
    rw[show (⟨[(1,(.one (.bor l1_0 (map b_si a1)))),(6,(.one (.ref ⟨(6,0,0),[],0,(length ((take (length (map d_si v0)) (drop 0 (map d_si v0)))++([[(.val (.string x0.f0)),(.i x0.f1)]]:List (List D))))⟩))),(7,(.oi (wrap .i64 ((length p:Int)+1))))],[((6,0,0),.live ⟨2,(map d_si (v0++([x0]))),[]⟩)]⟩:St)=h73_0 l0_0 l1_0 a0 a1 ((length p:Int)+1) (v0++([x0])) from(by unfold h73_0; simp[hw,take_of_length_le,d_si]; done)] at st
    exact .loopN st ih
theorem og100 {l:List K_R} (h:∀z∈l,z.f3.length≤100) (i:Nat):(getD l i (K_R.mk 0 0 0 [] 0)).f3.length≤100:=by
  rw[List.getD_eq_getElem?_getD]
  cases h2:l[i]? with
  |none=>simp
  |some x=>exact h x (List.mem_of_getElem? h2)
theorem al73 {a:List K_si}:∀ {l:List K_si} {i:Int} {v:List K_si} {w:List K_si} {j b},r73_0 a l i v=.k0 w j b→w.length≤v.length+l.length
  |[],i,v,w,j,b,h=>by simp only[r73_0] at h; injection h with h; subst h; simp
  |x::l,i,v,w,j,b,h=>by
    simp only[r73_0] at h
    split at h
    · have q:=al73 h; simp only[length_set,length_cons] at q⊢; omega
    have q:=al73 h; simp only[length_append,length_cons,length_nil] at q⊢; omega
inductive O73_1 where
  |k0 (w0:Int) (w1:Bool)
  |k1
def r73_1 (c0_73_1:List K_si):List K_si→Int→O73_1
  |x0::y0,i=>
    if(!(m72 x0.f1 0 1000000))=true then(O73_1.k1) else
    (r73_1 c0_73_1 y0 (i+1))
  |[],i=>(O73_1.k0 i (decide (i <((length (map d_si c0_73_1)):Int))))
def h73_1 (l0_0:Nat) (l1_0:Nat) (a0:(List K_si)) (a1:(List K_si)) (c0_73_1:List K_si) (i:Int) :St:=⟨[(6,(.one (.ref ⟨(6,0,0),[],0,(length (map d_si c0_73_1))⟩))),(9,(.one (.val (.int .i64 i))))],[((6,0,0),.live ⟨2,(map d_si c0_73_1),[]⟩)]⟩
def ex73_1:O73_1→VX.Exit
  |.k0 _ _=>(.exit 2)
  |.k1=>.ret
def fin73_1 (l0_0:Nat) (l1_0:Nat) (a0:(List K_si)) (a1:(List K_si)) (c0_73_1:List K_si):O73_1→St
  |.k0 w0 w1=>⟨[(6,(.one (.ref ⟨(6,0,0),[],0,(length (map d_si c0_73_1))⟩))),(9,(.one (.val (.int .i64 w0)))),(55,(.one (.val (.bool w1))))],[((6,0,0),.live ⟨2,(map d_si c0_73_1),[]⟩)]⟩
  |.k1=>⟨[(6,(.one (.ref ⟨(6,0,0),[],0,(length (map d_si c0_73_1))⟩))),(4,(.one (.nl 2))),(5,(.one (.val (.int .i64 7))))],[((6,0,0),.live ⟨2,(map d_si c0_73_1),[]⟩)]⟩
theorem t73_1 {l0_0:Nat} {l1_0:Nat} {a0:(List K_si)} {a1:(List K_si)} {c0_73_1:List K_si} (hy0:length a0≤100) (hy1:length a1≤100) (hy2:length c0_73_1≤140737488351232):∀(y0:List K_si) (p:List K_si),p++y0=c0_73_1→Ev F X (.code l73_1 (h73_1 l0_0 l1_0 a0 a1 c0_73_1 (length p:Int)) (ex73_1 (r73_1 c0_73_1 y0 (length p:Int))) (fin73_1 l0_0 l1_0 a0 a1 c0_73_1 (r73_1 c0_73_1 y0 (length p:Int))))
  |[],p,hp0=>by
    have hc:¬(decide ((length p:Int) <((length (map d_si c0_73_1)):Int)))=true:=by
      rw[← hp0]; simp only[LN,decide_eq_true_eq]; omega
    have st:=ch b73_1 (h73_1 l0_0 l1_0 a0 a1 c0_73_1 (length p:Int)) ⟨[(6,(.one (.ref ⟨(6,0,0),[],0,(length (map d_si c0_73_1))⟩))),(9,(.oi (length p:Int))),(55,(.one (.val (.bool (decide ((length p:Int) <((length (map d_si c0_73_1)):Int)))))))],[((6,0,0),.live ⟨2,(map d_si c0_73_1),[]⟩)]⟩ (.exit 2) 9 (by kernel_rfl) (.f (nt hc) (U 8 .nil))
    rw[show (⟨[(6,(.one (.ref ⟨(6,0,0),[],0,(length (map d_si c0_73_1))⟩))),(9,(.oi (length p:Int))),(55,(.one (.val (.bool (decide ((length p:Int) <((length (map d_si c0_73_1)):Int)))))))],[((6,0,0),.live ⟨2,(map d_si c0_73_1),[]⟩)]⟩:St)=fin73_1 l0_0 l1_0 a0 a1 c0_73_1 (.k0 (length p:Int) (decide ((length p:Int) <((length (map d_si c0_73_1)):Int)))) from(by rfl)] at st
    exact .loopX st (show ((.exit 2):VX.Exit)≠.normal from by simp)
  |x0::y0,p,hp0=>by
    have hc:(decide ((length p:Int) <((length (map d_si c0_73_1)):Int)))=true:=by
      rw[← hp0]; simp only[LN,decide_eq_true_eq]; omega
    have Hx0:(c0_73_1)[toNat (length p:Int)]?=some x0:=by
      rw[← hp0,Int.toNat_natCast]; simp
    have hlen:length (c0_73_1)=length p+length y0+1:=by rw[← hp0]; simp; omega
    have hw:wrap .i64 ((length p:Int)+1)=(length p:Int)+1:=wrap64 (by omega)
    simp only[r73_1]
    have f1:0+(length (map d_si c0_73_1))≤(length (map d_si c0_73_1)):=(by omega)
    have f2:0≤(length p:Int)∧(length p:Int) <((length (map d_si c0_73_1)):Int):=(by simp only[decide_eq_true_eq] at*; omega)
    have P1 {hs q} (r:PS F X hs q):=(PS.f hc (.f f1 (.f f2 (.f (mz_ d_si Hx0) (hT 8 (.h 18 (.rowD (d_si x0)) (.r 20 [] [] (e66 (a0:=x0.f1)) r)))))))
    by_cases h_1:(!(m72 x0.f1 0 1000000))=true
    · try simp only[if_pos h_1]
      have st:=ch b73_1 (h73_1 l0_0 l1_0 a0 a1 c0_73_1 (length p:Int)) ⟨[(6,(.one (.ref ⟨(6,0,0),[],0,(length (map d_si c0_73_1))⟩))),(4,(.one (.nl 2))),(5,(.oi 7))],[((6,0,0),.live ⟨2,(map d_si c0_73_1),[]⟩)]⟩ .ret 28 (by kernel_rfl) (P1 (.f h_1 (hT 23 .nil)))
      rw[show (⟨[(6,(.one (.ref ⟨(6,0,0),[],0,(length (map d_si c0_73_1))⟩))),(4,(.one (.nl 2))),(5,(.oi 7))],[((6,0,0),.live ⟨2,(map d_si c0_73_1),[]⟩)]⟩:St)=fin73_1 l0_0 l1_0 a0 a1 c0_73_1 (.k1) from(by rfl)] at st
      exact .loopX st (show (.ret:VX.Exit)≠.normal from by simp)
    try simp only[if_neg h_1]
    have st:=ch b73_1 (h73_1 l0_0 l1_0 a0 a1 c0_73_1 (length p:Int)) ⟨[(6,(.one (.ref ⟨(6,0,0),[],0,(length (map d_si c0_73_1))⟩))),(9,(.oi (wrap .i64 ((length p:Int)+1))))],[((6,0,0),.live ⟨2,(map d_si c0_73_1),[]⟩)]⟩ .normal 30 (by kernel_rfl) (P1 (.f (nt h_1) (.f trivial (U 23 .nil))))
    have ih:=t73_1 (l0_0:=l0_0) (l1_0:=l1_0) (a0:=a0) (a1:=a1) (c0_73_1:=c0_73_1) hy0 hy1 hy2 y0 (p++ [x0]) (by rw[append_assoc]; exact hp0)
    rw[show ((p++ [x0]).length:Int)=(p.length:Int)+1 from by simp] at ih
    rw[show (⟨[(6,(.one (.ref ⟨(6,0,0),[],0,(length (map d_si c0_73_1))⟩))),(9,(.oi (wrap .i64 ((length p:Int)+1))))],[((6,0,0),.live ⟨2,(map d_si c0_73_1),[]⟩)]⟩:St)=h73_1 l0_0 l1_0 a0 a1 c0_73_1 ((length p:Int)+1)  from(by unfold h73_1; simp only[hw]; done)] at st
    exact .loopN st ih
def m73_0 (a0:(List K_si)) (a1:(List K_si)):(List K_si):=
  (match r73_0 a1 a1 0 (([])++a0) with | .k0 w0_1 w1_1 w2_1=>(if(decide (((length (map d_si w0_1)):Int) > 8))=true then[] else(match r73_1 w0_1 w0_1 0 with | .k0 w0_3 w1_3=>w0_1 | .k1=>[])))
def m73_1 (a0:(List K_si)) (a1:(List K_si)):Int:=
  (match r73_0 a1 a1 0 (([])++a0) with | .k0 w0_1 w1_1 w2_1=>(if(decide (((length (map d_si w0_1)):Int) > 8))=true then 10 else(match r73_1 w0_1 w0_1 0 with | .k0 w0_3 w1_3=>0 | .k1=>7)))
theorem e73 {l0_0:Nat} {a0:(List K_si)} {l1_0:Nat} {a1:(List K_si)} (hy0:length a0≤100) (hy1:length a1≤100):Ev F X (.call 73 [(.one (.bor l0_0 (map b_si a0))),(.one (.bor l1_0 (map b_si a1)))] [] [] [(.one (.own 2 (map d_si (m73_0 a0 a1)))),(.one (.val (.int .i64 (m73_1 a0 a1))))]):=by
  unfold m73_0 m73_1
  have P0 {hs q} (r:PS F X hs q):=(PS.r 7 [] [] (e81 (l0_0:=(l0_0+1)) (a0:=a0) yd) r)
  cases h0:r73_0 a1 a1 0 (([])++a0) with
  |k0 w0_1 w1_1 w2_1=>
    try dsimp only
    have f1:(⟨[(1,(.one (.bor l1_0 (map b_si a1)))),(6,(.one (.ref ⟨(6,0,0),[],0,(length (map d_si (([])++a0)))⟩))),(7,(.oi 0))],[((6,0,0),.live ⟨2,(map d_si (([])++a0)),[]⟩)]⟩:St)=h73_0 l0_0 l1_0 a0 a1 0 (([])++a0):=yu
    have P1 {hs q} (r:PS F X hs q):=(P0 (.f f1 (.f (ev_ (e:=ex73_0) (g:=(fin73_0 l0_0 l1_0 a0 a1)) h0 (t73_0 (l0_0:=l0_0) (l1_0:=l1_0) (a0:=a0) (a1:=a1) (by assumption) (by assumption) a1 [] (([])++a0) rfl yy)) (.h 12 (.loop (h73_0 l0_0 l1_0 a0 a1 0 (([])++a0)) (.exit 0) ⟨[(1,(.one (.bor l1_0 (map b_si a1)))),(6,(.one (.ref ⟨(6,0,0),[],0,(length (map d_si w0_1))⟩))),(7,(.oi w1_1)),(15,(.one (.val (.bool w2_1))))],[((6,0,0),.live ⟨2,(map d_si w0_1),[]⟩)]⟩) r))))
    by_cases h1:(decide (((length (map d_si w0_1)):Int) > 8))=true
    · try simp only[if_pos h1]
      have f4:pureR []=true:=yA
      exact cp ya (P1 (.f h1 (.f f4 (hT 19 .nil))))
    try simp only[if_neg h1]
    cases h2:r73_1 w0_1 w0_1 0 with
    |k0 w0_3 w1_3=>
      try dsimp only
      have f4:(⟨[(6,(.one (.ref ⟨(6,0,0),[],0,(length (map d_si w0_1))⟩))),(9,(.oi 0))],[((6,0,0),.live ⟨2,(map d_si w0_1),[]⟩)]⟩:St)=h73_1 l0_0 l1_0 a0 a1 w0_1 0 :=yu
      exact cp ya (P1 (N h1 (.f f4 (.f (ev_ (e:=ex73_1) (g:=(fin73_1 l0_0 l1_0 a0 a1 w0_1)) h2 (t73_1 (l0_0:=l0_0) (l1_0:=l1_0) (a0:=a0) (a1:=a1) (c0_73_1:=w0_1) (by assumption) (by assumption) yaj w0_1 []  rfl)) (pe 0 (pe (length (map d_si w0_1)) (.f (pureR_si w0_1) (U 19 (.h 22 (.loop (h73_1 l0_0 l1_0 a0 a1 w0_1 0) (.exit 2) ⟨[(6,(.one (.ref ⟨(6,0,0),[],0,(length (map d_si w0_1))⟩))),(9,(.oi w0_3)),(55,(.one (.val (.bool w1_3))))],[((6,0,0),.live ⟨2,(map d_si w0_1),[]⟩)]⟩) .nil)))))))))
    |k1=>
      try dsimp only
      have f4:(⟨[(6,(.one (.ref ⟨(6,0,0),[],0,(length (map d_si w0_1))⟩))),(9,(.oi 0))],[((6,0,0),.live ⟨2,(map d_si w0_1),[]⟩)]⟩:St)=h73_1 l0_0 l1_0 a0 a1 w0_1 0 :=yu
      have f6:pureR []=true:=yA
      exact cp ya (P1 (N h1 (.f f4 (.f (ev_ (e:=ex73_1) (g:=(fin73_1 l0_0 l1_0 a0 a1 w0_1)) h2 (t73_1 (l0_0:=l0_0) (l1_0:=l1_0) (a0:=a0) (a1:=a1) (c0_73_1:=w0_1) (by assumption) (by assumption) yaj w0_1 []  rfl)) (.f f6 (U 19 (.h 22 (.loop (h73_1 l0_0 l1_0 a0 a1 w0_1 0) .ret ⟨[(6,(.one (.ref ⟨(6,0,0),[],0,(length (map d_si w0_1))⟩))),(4,(.one (.nl 2))),(5,(.oi 7))],[((6,0,0),.live ⟨2,(map d_si w0_1),[]⟩)]⟩) .nil)))))))
theorem ad8 (a b:List K_si):(m73_0 a b).length≤8:=by
  unfold m73_0
  cases h0:r73_0 b b 0 (([])++a) with
  |k0 w i c=>
    simp only[]
    split
    · simp
    rename_i h1
    cases r73_1 w w 0 with
    |k0 u v=>simp only[decide_eq_true_eq,length_map] at h1; simp only[]; omega
    |k1=>simp
theorem asz_r (a:List K_si):∀(l:List K_si) (i:Int) (v:List K_si),(∀z∈l,ByteArray.size z.f0≤3)→(∀z∈v,ByteArray.size z.f0≤3)→∀w j b,r73_0 a l i v=.k0 w j b→∀z∈w,ByteArray.size z.f0≤3
  |[],i,v,_,hv,w,j,b,e=>by
    simp only[r73_0] at e
    injection e with e0 e1 e2
    subst e0; exact hv
  |x::l,i,v,hl,hv,w,j,b,e=>by
    have hl':∀z∈l,ByteArray.size z.f0≤3:=fun z hz=>hl z (List.mem_cons_of_mem _ hz)
    simp only[r73_0] at e
    split at e
    · exact asz_r a l _ _ hl' yaC w j b e
    exact asz_r a l _ _ hl' yav w j b e
theorem adG {a b:List K_si} (h:∀z∈a,ByteArray.size z.f0≤3) (hb:∀z∈b,ByteArray.size z.f0≤3):GP 8 (m73_0 a b):=by
  refine⟨ad8 a b,?_⟩
  unfold m73_0
  cases e:r73_0 b b 0 (([])++a) with
  |k0 w j c=>
    simp only[]
    have hw:=asz_r b b 0 _ hb (by simpa using h) w j c e
    split
    · intro z hz; cases hz
    cases r73_1 w w 0 with
    |k0 u v=>exact hw
    |k1=>intro z hz; cases hz
def m45 (a0:K_B) (a1:Int):K_C:=
  if(decide ((m67 a0.f3 a1) < 0))=true then(K_C.mk 4 0 0 0 ([]) ([]) ([]) 0 0 0) else
  if(((getD a0.f3 (toNat (m67 a0.f3 a1)) (K_R.mk 0 0 0 [] 0)).f4) !=1)=true then(K_C.mk 9 0 0 0 ([]) ([]) ([]) 0 0 0) else
    if((m73_1 a0.f4 ((getD a0.f3 (toNat (m67 a0.f3 a1)) (K_R.mk 0 0 0 [] 0)).f3)) !=0)=true then(K_C.mk (m73_1 a0.f4 ((getD a0.f3 (toNat (m67 a0.f3 a1)) (K_R.mk 0 0 0 [] 0)).f3)) 0 0 0 ([]) ([]) ([]) 0 0 0) else
      if(!(m72 (wrap .i64 (a0.f6+((getD a0.f3 (toNat (m67 a0.f3 a1)) (K_R.mk 0 0 0 [] 0)).f2))) 0 1000000))=true then(K_C.mk 7 0 0 0 ([]) ([]) ([]) 0 0 0) else
        (K_C.mk 0 0 ((m68 a0).f0) ((m68 a0).f1) ((m68 a0).f2) (set ((m68 a0).f3) (toNat (m67 a0.f3 a1)) (K_R.mk ((getD ((m68 a0).f3) (toNat (m67 a0.f3 a1)) (K_R.mk 0 0 0 [] 0)).f0) ((getD ((m68 a0).f3) (toNat (m67 a0.f3 a1)) (K_R.mk 0 0 0 [] 0)).f1) ((getD ((m68 a0).f3) (toNat (m67 a0.f3 a1)) (K_R.mk 0 0 0 [] 0)).f2) ((getD ((m68 a0).f3) (toNat (m67 a0.f3 a1)) (K_R.mk 0 0 0 [] 0)).f3) 2)) (m73_0 a0.f4 ((getD a0.f3 (toNat (m67 a0.f3 a1)) (K_R.mk 0 0 0 [] 0)).f3)) ((m68 a0).f5) (wrap .i64 (a0.f6+((getD a0.f3 (toNat (m67 a0.f3 a1)) (K_R.mk 0 0 0 [] 0)).f2))) ((m68 a0).f7))
theorem e45 {l0_2:Nat} {l0_3:Nat} {l0_4:Nat} {a0:K_B} {a1:Int} (hy0:length a0.f2≤100) (hy1:length a0.f3≤100) (hy2:∀z∈a0.f3,length z.f3≤100) (hy3:length a0.f4≤100) (hy4:∀z∈a0.f3,ok_R z):Ev F X (.call 45 [(.agg (k_B l0_2 l0_3 l0_4 a0)),(.one (.val (.int .i64 a1)))] [] [] [(.agg (d_C (m45 a0 a1)))]):=by
  unfold m45
  have P0 {hs q} (r:PS F X hs q):=(PS.r 11 [] [] (e67 (l0_0:=(l0_3+1)) (a0:=a0.f3) (a1:=a1) yd ‹_›) r)
  by_cases h0:(decide ((m67 a0.f3 a1) < 0))=true
  · try simp only[if_pos h0]
    exact cp ya (P0 (.f h0 (hT 18 (.r 20 [] [] (e37 (a0:=4)) (p3 ([]) ([]) ([]) (.f (pureR_si ([])) (.f (pureR_R ([])) (.f (pureR_si ([])) .nil))))))))
  try simp only[if_neg h0]
  have f2:0≤(m67 a0.f3 a1):=yae
  have P1 {hs q} (r:PS F X hs q):=(P0 (N h0 (.f f2 (.f (mp_ b_R (getD_at a0.f3 (toNat (m67 a0.f3 a1)) (K_R.mk 0 0 0 [] 0) yae)) (U 18 (.h 26 (.row (b_R (getD a0.f3 (toNat (m67 a0.f3 a1)) (K_R.mk 0 0 0 [] 0)))) r))))))
  by_cases h1:(((getD a0.f3 (toNat (m67 a0.f3 a1)) (K_R.mk 0 0 0 [] 0)).f4) !=1)=true
  · try simp only[if_pos h1]
    exact cp ya (P1 (.f h1 (hT 39 (.r 41 [] [] (e37 (a0:=9)) (p3 ([]) ([]) ([]) (.f (pureR_si ([])) (.f (pureR_R ([])) (.f (pureR_si ([])) .nil))))))))
  try simp only[if_neg h1]
  have P2 {hs q} (r:PS F X hs q):=(P1 (N h1 (U 39 (.r 53 [] [] (e73 (l0_0:=(l0_4+1)) (l1_0:=(l0_3+1)) (a0:=a0.f4) (a1:=((getD a0.f3 (toNat (m67 a0.f3 a1)) (K_R.mk 0 0 0 [] 0)).f3)) ‹_› (by exact og100 ‹_› _)) r))))
  by_cases h2:((m73_1 a0.f4 ((getD a0.f3 (toNat (m67 a0.f3 a1)) (K_R.mk 0 0 0 [] 0)).f3)) !=0)=true
  · try simp only[if_pos h2]
    exact cp ya (P2 (.f h2 (hT 68 (.r 72 [] [] (e37 (a0:=(m73_1 a0.f4 ((getD a0.f3 (toNat (m67 a0.f3 a1)) (K_R.mk 0 0 0 [] 0)).f3)))) (p3 ([]) ([]) ([]) (.f (pureR_si ([])) (.f (pureR_R ([])) (.f (pureR_si ([])) .nil))))))))
  try simp only[if_neg h2]
  have P3 {hs q} (r:PS F X hs q):=(P2 (N h2 (.f trivial (U 68 (.r 84 [] [] (e66 (a0:=(wrap .i64 (a0.f6+((getD a0.f3 (toNat (m67 a0.f3 a1)) (K_R.mk 0 0 0 [] 0)).f2))))) r)))))
  by_cases h3:(!(m72 (wrap .i64 (a0.f6+((getD a0.f3 (toNat (m67 a0.f3 a1)) (K_R.mk 0 0 0 [] 0)).f2))) 0 1000000))=true
  · try simp only[if_pos h3]
    exact cp ya (P3 (.f h3 (hT 87 (.r 89 [] [] (e37 (a0:=7)) (p3 ([]) ([]) ([]) (.f (pureR_si ([])) (.f (pureR_R ([])) (.f (pureR_si ([])) .nil))))))))
  try simp only[if_neg h3]
  have f17:0+(length (map d_R ((m68 a0).f3)))≤(length (map d_R ((m68 a0).f3))):=yd
  have f18:0≤(m67 a0.f3 a1)∧(m67 a0.f3 a1) <((length (map d_R ((m68 a0).f3))):Int):=yL
  have f20:([[(.i ((m68 a0).f0)),(.i ((m68 a0).f1)),(.own 2 (map d_si ((m68 a0).f2))),(.own 5 (set (map d_R ((m68 a0).f3)) (0+(toNat (m67 a0.f3 a1))) [(.i ((getD ((m68 a0).f3) (toNat (m67 a0.f3 a1)) (K_R.mk 0 0 0 [] 0)).f0)),(.i ((getD ((m68 a0).f3) (toNat (m67 a0.f3 a1)) (K_R.mk 0 0 0 [] 0)).f1)),(.i ((getD ((m68 a0).f3) (toNat (m67 a0.f3 a1)) (K_R.mk 0 0 0 [] 0)).f2)),(.own 2 (map d_si ((getD ((m68 a0).f3) (toNat (m67 a0.f3 a1)) (K_R.mk 0 0 0 [] 0)).f3))),(.i 2)])),(.own 2 (map d_si ((m68 a0).f4))),(.i ((m68 a0).f5)),(.i ((m68 a0).f6)),(.i ((m68 a0).f7))]]:List (List D))=[[(.i ((m68 a0).f0)),(.i ((m68 a0).f1)),(.own 2 (map d_si ((m68 a0).f2))),(.own 5 (map d_R (set ((m68 a0).f3) (toNat (m67 a0.f3 a1)) (K_R.mk ((getD ((m68 a0).f3) (toNat (m67 a0.f3 a1)) (K_R.mk 0 0 0 [] 0)).f0) ((getD ((m68 a0).f3) (toNat (m67 a0.f3 a1)) (K_R.mk 0 0 0 [] 0)).f1) ((getD ((m68 a0).f3) (toNat (m67 a0.f3 a1)) (K_R.mk 0 0 0 [] 0)).f2) ((getD ((m68 a0).f3) (toNat (m67 a0.f3 a1)) (K_R.mk 0 0 0 [] 0)).f3) 2)))),(.own 2 (map d_si ((m68 a0).f4))),(.i ((m68 a0).f5)),(.i ((m68 a0).f6)),(.i ((m68 a0).f7))]]:=yI
  exact cp ya (P3 (N h3 (U 87 (.r 91 [] [] (e68 (l0_2:=(l0_2+1)) (l0_3:=(l0_3+1)) (l0_4:=(l0_4+1)) (a0:=a0) ‹_› ‹_› ‹_› ‹_› ‹_›) (p3 ((m68 a0).f2) ((m68 a0).f3) ((m68 a0).f4) (.f f17 (.f f18 (.f (mz_ d_R (getD_at ((m68 a0).f3) (toNat (m67 a0.f3 a1)) (K_R.mk 0 0 0 [] 0) yL)) (.f f20 (.f trivial (pe 0 (pe (length (map d_si (m73_0 a0.f4 ((getD a0.f3 (toNat (m67 a0.f3 a1)) (K_R.mk 0 0 0 [] 0)).f3)))) (p3 ((m68 a0).f2) (set ((m68 a0).f3) (toNat (m67 a0.f3 a1)) (K_R.mk ((getD ((m68 a0).f3) (toNat (m67 a0.f3 a1)) (K_R.mk 0 0 0 [] 0)).f0) ((getD ((m68 a0).f3) (toNat (m67 a0.f3 a1)) (K_R.mk 0 0 0 [] 0)).f1) ((getD ((m68 a0).f3) (toNat (m67 a0.f3 a1)) (K_R.mk 0 0 0 [] 0)).f2) ((getD ((m68 a0).f3) (toNat (m67 a0.f3 a1)) (K_R.mk 0 0 0 [] 0)).f3) 2)) (m73_0 a0.f4 ((getD a0.f3 (toNat (m67 a0.f3 a1)) (K_R.mk 0 0 0 [] 0)).f3)) (.f (pureR_si ((m68 a0).f2)) (.f (pureR_R (set ((m68 a0).f3) (toNat (m67 a0.f3 a1)) (K_R.mk ((getD ((m68 a0).f3) (toNat (m67 a0.f3 a1)) (K_R.mk 0 0 0 [] 0)).f0) ((getD ((m68 a0).f3) (toNat (m67 a0.f3 a1)) (K_R.mk 0 0 0 [] 0)).f1) ((getD ((m68 a0).f3) (toNat (m67 a0.f3 a1)) (K_R.mk 0 0 0 [] 0)).f2) ((getD ((m68 a0).f3) (toNat (m67 a0.f3 a1)) (K_R.mk 0 0 0 [] 0)).f3) 2))) (.f (pureR_si (m73_0 a0.f4 ((getD a0.f3 (toNat (m67 a0.f3 a1)) (K_R.mk 0 0 0 [] 0)).f3))) (.h 107 (.rowD (d_R (getD ((m68 a0).f3) (toNat (m67 a0.f3 a1)) (K_R.mk 0 0 0 [] 0)))) (.h 108 (.norm (9,0,0) [[(.i ((m68 a0).f0)),(.i ((m68 a0).f1)),(.own 2 (map d_si ((m68 a0).f2))),(.own 5 (map d_R (set ((m68 a0).f3) (toNat (m67 a0.f3 a1)) (K_R.mk ((getD ((m68 a0).f3) (toNat (m67 a0.f3 a1)) (K_R.mk 0 0 0 [] 0)).f0) ((getD ((m68 a0).f3) (toNat (m67 a0.f3 a1)) (K_R.mk 0 0 0 [] 0)).f1) ((getD ((m68 a0).f3) (toNat (m67 a0.f3 a1)) (K_R.mk 0 0 0 [] 0)).f2) ((getD ((m68 a0).f3) (toNat (m67 a0.f3 a1)) (K_R.mk 0 0 0 [] 0)).f3) 2)))),(.own 2 (map d_si ((m68 a0).f4))),(.i ((m68 a0).f5)),(.i ((m68 a0).f6)),(.i ((m68 a0).f7))]]) .nil))))))))))))))))))
theorem riG {a:K_B} {i:Int} (h:GL a) (hc:¬((m45 a i).f0 !=0)=true):GL (K_B.mk (m45 a i).f2 (m45 a i).f3 (m45 a i).f4 (m45 a i).f5 (m45 a i).f6 (m45 a i).f7 (m45 a i).f8 (m45 a i).f9):=by
  obtain⟨h1,h2,h3,h4,h5⟩:=h
  generalize hr:m45 a i=r at hc⊢
  unfold m45 at hr
  simp only[cp68] at hr
  (repeat' split at hr)<;>subst hr<;>first
    |(exfalso; simp at hc; done)
    |exact absurd (by assumption) hc
    |exact⟨h1,h2,h3,gr_set h4 (gr_get h4 _),adG h5.2 (gr_get h4 _).2⟩
def o51_0 (a0:K_LyEi):K_LyEi:=
  (K_LyEi.mk a0.f0 ((o23_0 a0 4).f1))
def m51 (a0:K_LyEi):ByteArray:=
  (getD ([(⟨#[98,111,98]⟩:ByteArray),(⟨#[97,110,110]⟩:ByteArray),(⟨#[101,118,101]⟩:ByteArray),(⟨#[120,49]⟩:ByteArray)]) (toNat (m23 a0 4)) (⟨#[]⟩:ByteArray))
theorem e51 {l0_0:Nat} {a0:K_LyEi} (hy0:S a0 1):Ev F X (.call 51 [(.ptr ⟨(0,0,0),[],0,0,2⟩)] [((0,0,0),⟨2,[[(.bor (l0_0+1) (map b_y a0.f0)),(.val (.int .i64 a0.f1))]],[]⟩)] [[[(.bor l0_0 (map b_y a0.f0)),(.val (.int .i64 ((o51_0 a0).f1)))]]] [(.one (.val (.string (m51 a0))))]):=by
  have f1:4≤4:=yd
  have f2:0≤(m23 a0 4)∧(m23 a0 4) <(4:Int):=(by have q:=rng a0 4 hy0 yd yd; omega)
  have f3:([[(.val (.string (⟨#[98,111,98]⟩:ByteArray)))],[(.val (.string (⟨#[97,110,110]⟩:ByteArray)))],[(.val (.string (⟨#[101,118,101]⟩:ByteArray)))],[(.val (.string (⟨#[120,49]⟩:ByteArray)))]]:List (List D))[(0+(toNat (m23 a0 4)))]?=some [(.val (.string (getD ([(⟨#[98,111,98]⟩:ByteArray),(⟨#[97,110,110]⟩:ByteArray),(⟨#[101,118,101]⟩:ByteArray),(⟨#[120,49]⟩:ByteArray)]) (toNat (m23 a0 4)) (⟨#[]⟩:ByteArray))))]:=(show (map d_s [(⟨#[98,111,98]⟩:ByteArray),(⟨#[97,110,110]⟩:ByteArray),(⟨#[101,118,101]⟩:ByteArray),(⟨#[120,49]⟩:ByteArray)])[(0+(toNat (m23 a0 4)))]?=some [(.val (.string (getD ([(⟨#[98,111,98]⟩:ByteArray),(⟨#[97,110,110]⟩:ByteArray),(⟨#[101,118,101]⟩:ByteArray),(⟨#[120,49]⟩:ByteArray)]) (toNat (m23 a0 4)) (⟨#[]⟩:ByteArray))))] from(by rw[Nat.zero_add,getElem?_map,getD_at ([(⟨#[98,111,98]⟩:ByteArray),(⟨#[97,110,110]⟩:ByteArray),(⟨#[101,118,101]⟩:ByteArray),(⟨#[120,49]⟩:ByteArray)]) (toNat (m23 a0 4)) (⟨#[]⟩:ByteArray) (by first | exact True.intro | with_reducible rfl | with_reducible assumption | omega |(have q:=rng a0 4 hy0 yd yd; omega) |(have q:=rng a0 4 hy0 yd yd; simp only[length_cons,length_nil]; omega) |(unfold m23;(repeat' split)<;>simp_all<;>omega) |(simp only[decide_eq_true_eq] at*; omega) |(simp only[length_cons,length_nil]; omega) |(simp; omega) |(simp[take_of_length_le]; done) | assumption | trivial |(simp[*,byteRows_eq,ints_y]; done))]; rfl))
  exact cq [false] ya (.r 7 [false] [] (e23 (l0_0:=(l0_0+1)) (a0:=a0) (a1:=4) ‹_›) (.f f1 (.f f2 (.f f3 (.h 11 (.rowD [(.val (.string (getD ([(⟨#[98,111,98]⟩:ByteArray),(⟨#[97,110,110]⟩:ByteArray),(⟨#[101,118,101]⟩:ByteArray),(⟨#[120,49]⟩:ByteArray)]) (toNat (m23 a0 4)) (⟨#[]⟩:ByteArray))))]) .nil)))))
theorem st51 {a:K_LyEi} {n:Nat} (h:S a (n+1)):S (o51_0 a) n:=by
  unfold o51_0; exact sm23 _ h rfl
theorem sm51 {a:K_LyEi} {n:Nat} {f:List Int} (h:S a (n+1)) (e:a.f0=f):S (K_LyEi.mk f ((o51_0 a).f1)) n:=by subst e; exact st51 h
theorem gsz (l:List ByteArray) (h:∀s∈l,ByteArray.size s≤3) (i:Nat):ByteArray.size (getD l i (⟨#[]⟩:ByteArray))≤3:=by
  rw[List.getD_eq_getElem?_getD]
  cases e:l[i]? with
  |none=>simp[ByteArray.size]
  |some z=>exact h z (List.mem_of_getElem? e)
theorem wsz (a:K_LyEi):ByteArray.size (m51 a)≤3:=by
  unfold m51
  exact gsz _ (by decide) _
def m86 (a0:Int):Bool:=
  if (decide (a0 ≥ 97)) = true then (if (decide (a0 ≤ 122)) = true then true else
    if (decide (a0 ≥ 65)) = true then (if (decide (a0 ≤ 90)) = true then true else
        if(decide (a0≥48))=true then(decide (a0≤57)) else
          false) else
      if(decide (a0≥48))=true then(decide (a0≤57)) else
        false) else
  if (decide (a0 ≥ 65)) = true then (if (decide (a0 ≤ 90)) = true then true else
      if(decide (a0≥48))=true then(decide (a0≤57)) else
        false) else
    if(decide (a0≥48))=true then(decide (a0≤57)) else
      false
theorem e86 {a0:Int}:Ev F X (.call 86 [(.one (.val (.int .u8 a0)))] [] [] [(.one (.val (.bool (m86 a0))))]):=by
  unfold m86
  by_cases h0:(decide (a0≥97))=true
  · try simp only[if_pos h0]
    have P1 {hs q} (r:PS F X hs q):=(PS.f h0 (.f h0 (.f h0 (hT 8 (hT 10 (hT 13 r))))))
    by_cases h1:(decide (a0≤122))=true
    · try simp only[if_pos h1]
      exact cp ya (P1 (.f h1 (.f h1 (.f h1 (.f h1 (.f h1 (hT 16 (hT 18 (hT 20 (hT 26 (hT 29 .nil)))))))))))
    try simp only[if_neg h1]
    have P2 {hs q} (r:PS F X hs q):=(P1 (N h1 (N h1 (N h1 (U 16 (U 18 (U 20 r)))))))
    by_cases h2:(decide (a0≥65))=true
    · try simp only[if_pos h2]
      have P3 {hs q} (r:PS F X hs q):=(P2 (.f h2 (.f h2 (N h1 (.f h2 (N h1 (hT 22 (hT 24 (U 26 (hT 27 (U 29 r)))))))))))
      by_cases h3:(decide (a0≤90))=true
      · try simp only[if_pos h3]
        exact cp ya (P3 (.f h3 (.f h3 (.f h3 (.f h3 (.f h3 (hT 32 (hT 34 (hT 36 (hT 42 (hT 45 .nil)))))))))))
      try simp only[if_neg h3]
      have P4 {hs q} (r:PS F X hs q):=(P3 (N h3 (N h3 (N h3 (U 32 (U 34 (U 36 r)))))))
      by_cases h4:(decide (a0≥48))=true
      · try simp only[if_pos h4]
        exact cp ya (P4 (.f h4 (.f h4 (N h3 (.f h4 (N h3 (hT 38 (hT 40 (U 42 (hT 43 (U 45 .nil)))))))))))
      try simp only[if_neg h4]
      exact cp ya (P4 (N h4 (N h4 (N h3 (N h4 (N h3 (U 38 (U 40 (U 42 (U 43 (U 45 .nil)))))))))))
    try simp only[if_neg h2]
    have P3 {hs q} (r:PS F X hs q):=(P2 (N h2 (N h2 (N h1 (N h2 (N h1 (U 22 (U 24 (U 26 (U 27 (U 29 r)))))))))))
    by_cases h3:(decide (a0≥48))=true
    · try simp only[if_pos h3]
      exact cp ya (P3 (.f h3 (.f h3 (.f h3 (hT 38 (hT 40 (hT 43 .nil)))))))
    try simp only[if_neg h3]
    exact cp ya (P3 (N h3 (N h3 (N h3 (U 38 (U 40 (U 43 .nil)))))))
  try simp only[if_neg h0]
  have P1 {hs q} (r:PS F X hs q):=(PS.f (nt h0) (N h0 (N h0 (U 8 (U 10 (U 13 r))))))
  by_cases h1:(decide (a0≥65))=true
  · try simp only[if_pos h1]
    have P2 {hs q} (r:PS F X hs q):=(P1 (.f h1 (.f h1 (.f h1 (hT 22 (hT 24 (hT 27 r)))))))
    by_cases h2:(decide (a0≤90))=true
    · try simp only[if_pos h2]
      exact cp ya (P2 (.f h2 (.f h2 (.f h2 (.f h2 (.f h2 (hT 32 (hT 34 (hT 36 (hT 42 (hT 45 .nil)))))))))))
    try simp only[if_neg h2]
    have P3 {hs q} (r:PS F X hs q):=(P2 (N h2 (N h2 (N h2 (U 32 (U 34 (U 36 r)))))))
    by_cases h3:(decide (a0≥48))=true
    · try simp only[if_pos h3]
      exact cp ya (P3 (.f h3 (.f h3 (N h2 (.f h3 (N h2 (hT 38 (hT 40 (U 42 (hT 43 (U 45 .nil)))))))))))
    try simp only[if_neg h3]
    exact cp ya (P3 (N h3 (N h3 (N h2 (N h3 (N h2 (U 38 (U 40 (U 42 (U 43 (U 45 .nil)))))))))))
  try simp only[if_neg h1]
  have P2 {hs q} (r:PS F X hs q):=(P1 (N h1 (N h1 (N h1 (U 22 (U 24 (U 27 r)))))))
  by_cases h2:(decide (a0≥48))=true
  · try simp only[if_pos h2]
    exact cp ya (P2 (.f h2 (.f h2 (.f h2 (hT 38 (hT 40 (hT 43 .nil)))))))
  try simp only[if_neg h2]
  exact cp ya (P2 (N h2 (N h2 (N h2 (U 38 (U 40 (U 43 .nil)))))))
inductive O79_0 where
  |k0 (w0:Int) (w1:Bool)
  |k1
def r79_0 (a0:ByteArray):Nat→Int→O79_0
  |n+1,i=>
    if(!(m86 (byteAt a0 i)))=true then(O79_0.k1) else
    (r79_0 a0 n (i+1))
  |0,i=>(O79_0.k0 i (decide (i <(ByteArray.size a0:Int))))
def h79_0 (a0:ByteArray) (i:Int) :St:=⟨[(0,(.one (.val (.string a0)))),(3,(.one (.val (.int .i64 i))))],[]⟩
def ex79_0:O79_0→VX.Exit
  |.k0 _ _=>(.exit 0)
  |.k1=>.ret
def fin79_0 (a0:ByteArray):O79_0→St
  |.k0 w0 w1=>⟨[(0,(.one (.val (.string a0)))),(3,(.one (.val (.int .i64 w0)))),(7,(.one (.val (.bool w1))))],[]⟩
  |.k1=>⟨[(2,(.one (.val (.bool false))))],[]⟩
theorem t79_0 {a0:ByteArray} (hy0:ByteArray.size a0≤140737488351232):∀(n:Nat) (i:Int),0≤i→n=toNat ((ByteArray.size a0:Int) - i)→(ByteArray.size a0:Int)≤9223372036854775807→Ev F X (.code l79_0 (h79_0 a0 i) (ex79_0 (r79_0 a0 n i)) (fin79_0 a0 (r79_0 a0 n i)))
  |0,i,hn0,hn,hi0=>by
    have hc:¬(decide (i <(ByteArray.size a0:Int)))=true:=by
      simp only[decide_eq_true_eq]; omega
    have st:=ch b79_0 (h79_0 a0 i) ⟨[(0,(.one (.val (.string a0)))),(3,(.oi i)),(7,(.one (.val (.bool (decide (i <(ByteArray.size a0:Int)))))))],[]⟩ (.exit 0) 9 (by kernel_rfl) (.f (nt hc) (U 8 .nil))
    rw[show (⟨[(0,(.one (.val (.string a0)))),(3,(.oi i)),(7,(.one (.val (.bool (decide (i <(ByteArray.size a0:Int)))))))],[]⟩:St)=fin79_0 a0 (.k0 i (decide (i <(ByteArray.size a0:Int)))) from(by rfl)] at st
    exact .loopX st (show ((.exit 0):VX.Exit)≠.normal from by simp)
  |n+1,i,hn0,hn,hi0=>by
    have hc:(decide (i <(ByteArray.size a0:Int)))=true:=by
      simp only[decide_eq_true_eq]; omega
    have hw:wrap .i64 (i+1)=i+1:=wrap64 (by omega)
    have hj0:=hi0; try simp only[LN,Int.toNat_natCast] at hj0
    simp only[r79_0]
    have f1:0≤i∧i <(ByteArray.size a0:Int):=(by omega)
    have P1 {hs q} (r:PS F X hs q):=(PS.f hc (.f f1 (hT 8 (.r 16 [] [] (e86 (a0:=(byteAt a0 i))) r))))
    by_cases h_1:(!(m86 (byteAt a0 i)))=true
    · try simp only[if_pos h_1]
      have st:=ch b79_0 (h79_0 a0 i) ⟨[(2,(.one (.val (.bool false))))],[]⟩ .ret 22 (by kernel_rfl) (P1 (.f h_1 (hT 19 .nil)))
      rw[show (⟨[(2,(.one (.val (.bool false))))],[]⟩:St)=fin79_0 a0 (.k1) from(by rfl)] at st
      exact .loopX st (show (.ret:VX.Exit)≠.normal from by simp)
    try simp only[if_neg h_1]
    have st:=ch b79_0 (h79_0 a0 i) ⟨[(0,(.one (.val (.string a0)))),(3,(.oi (wrap .i64 (i+1))))],[]⟩ .normal 26 (by kernel_rfl) (P1 (.f (nt h_1) (.f trivial (U 19 .nil))))
    have ih:=t79_0 (a0:=a0) hy0 n (i+1) (by omega) (by omega) (by omega)
    rw[show (⟨[(0,(.one (.val (.string a0)))),(3,(.oi (wrap .i64 (i+1))))],[]⟩:St)=h79_0 a0 (i+1)  from(by unfold h79_0; simp only[hw]; done)] at st
    exact .loopN st ih
def m79 (a0:ByteArray):Bool:=
  (match r79_0 a0 (toNat (ByteArray.size a0:Int)) 0 with | .k0 w0_0 w1_0=>(decide ((ByteArray.size a0:Int)≤12)) | .k1=>false)
theorem e79 {a0:ByteArray} (hy0:ByteArray.size a0≤140737488351232):Ev F X (.call 79 [(.one (.val (.string a0)))] [] [] [(.one (.val (.bool (m79 a0))))]):=by
  unfold m79
  cases h0:r79_0 a0 (toNat (ByteArray.size a0:Int)) 0 with
  |k0 w0_0 w1_0=>
    try dsimp only
    have f0:(⟨[(0,(.one (.val (.string a0)))),(3,(.oi 0))],[]⟩:St)=h79_0 a0 0 :=yu
    exact cp ya (.f f0 (.f (ev_ (e:=ex79_0) (g:=(fin79_0 a0)) h0 (t79_0 (a0:=a0) (by assumption) _ 0 yd yd yd)) (.h 4 (.loop (h79_0 a0 0) (.exit 0) ⟨[(0,(.one (.val (.string a0)))),(3,(.oi w0_0)),(7,(.one (.val (.bool w1_0))))],[]⟩) .nil)))
  |k1=>
    try dsimp only
    have f0:(⟨[(0,(.one (.val (.string a0)))),(3,(.oi 0))],[]⟩:St)=h79_0 a0 0 :=yu
    exact cp ya (.f f0 (.f (ev_ (e:=ex79_0) (g:=(fin79_0 a0)) h0 (t79_0 (a0:=a0) (by assumption) _ 0 yd yd yd)) (.h 4 (.loop (h79_0 a0 0) .ret ⟨[(2,(.one (.val (.bool false))))],[]⟩) .nil)))
def m78 (a0:K_si):Int:=
  if(a0.f0.toList==(⟨#[]⟩:ByteArray).toList)=true then 5 else
  if(!(m79 a0.f0))=true then 5 else
    if(!(m72 a0.f1 1 9999))=true then 3 else
      0
theorem e78 {l0:Nat} {a0:K_si} (hy0:ByteArray.size a0.f0≤140737488351232):Ev F X (.call 78 [(.bptr l0 [(.val (.string a0.f0)),(.val (.int .i64 a0.f1))])] [] [] [(.one (.val (.int .i64 (m78 a0))))]):=by
  unfold m78
  by_cases h0:(a0.f0.toList==(⟨#[]⟩:ByteArray).toList)=true
  · try simp only[if_pos h0]
    exact cp ya (.f h0 (.f h0 (.f h0 (.f h0 (.f h0 (.f h0 (.f h0 (hT 14 (hT 16 (hT 18 (hT 20 (hT 22 (hT 24 (hT 27 .nil))))))))))))))
  try simp only[if_neg h0]
  have P1 {hs q} (r:PS F X hs q):=(PS.f (nt h0) (N h0 (N h0 (N h0 (N h0 (U 14 (U 16 (U 18 (U 20 (U 22 (.r 23 [] [] (e79 (a0:=a0.f0) ‹_›) (N h0 (N h0 (U 24 (U 27 r)))))))))))))))
  by_cases h1:(!(m79 a0.f0))=true
  · try simp only[if_pos h1]
    exact cp ya (P1 (.f h1 (hT 28 .nil)))
  try simp only[if_neg h1]
  have P2 {hs q} (r:PS F X hs q):=(P1 (N h1 (U 28 (.r 38 [] [] (e72 (a0:=a0.f1) (a1:=1) (a2:=9999)) r))))
  by_cases h2:(!(m72 a0.f1 1 9999))=true
  · try simp only[if_pos h2]
    exact cp ya (P2 (.f h2 (hT 41 .nil)))
  try simp only[if_neg h2]
  exact cp ya (P2 (N h2 (U 41 .nil)))
inductive O88_0 where
  |k0 (w0:Nat) (w1:Nat) (w2:Bool)
def r88_0 (a2:Int):Nat→Nat→Nat→O88_0
  |n+1,v0,v1=>
    if(decide ((v0:Int) > a2))=true then(r88_0 a2 n (toNat (v0:Int) - toNat 1) (v1+1)) else
    (O88_0.k0 v1 v0 (decide ((v0:Int) > a2)))
  |0,v0,v1=>(O88_0.k0 v1 v0 (decide ((v0:Int) > a2)))
def h88_0 (l0_0:Nat) (a0:(List K_si)) (a1:K_si) (a2:Int) (v0:Nat) (v1:Nat):St:=⟨[(2,(.one (.val (.int .i64 a2)))),(7,(.one (.ref ⟨(7,0,0),[],v1,v0⟩)))],[((7,0,0),.live ⟨2,(map d_si ((([])++a0)++([a1]))),[]⟩)]⟩
def ex88_0:O88_0→VX.Exit
  |.k0 _ _ _=>(.exit 0)
def fin88_0 (l0_0:Nat) (a0:(List K_si)) (a1:K_si) (a2:Int):O88_0→St
  |.k0 w0 w1 w2=>⟨[(2,(.one (.val (.int .i64 a2)))),(7,(.one (.ref ⟨(7,0,0),[],w0,w1⟩))),(17,(.one (.val (.bool w2))))],[((7,0,0),.live ⟨2,(map d_si ((([])++a0)++([a1]))),[]⟩)]⟩
theorem t88_0 {l0_0:Nat} {a0:(List K_si)} {a1:K_si} {a2:Int} (hy0:length a0≤1000) (hy1:0≤a2):∀(n:Nat) (v0:Nat) (v1:Nat),v1+v0≤(length (map d_si ((([])++a0)++([a1]))))→v0≤n→Ev F X (.code l88_0 (h88_0 l0_0 a0 a1 a2 v0 v1) (ex88_0 (r88_0 a2 n v0 v1)) (fin88_0 l0_0 a0 a1 a2 (r88_0 a2 n v0 v1)))
  |0,v0,v1,hi0,hn=>by
    have hc:¬(decide ((v0:Int) > a2))=true:=by first |(exact fuel64_zero hn) |(simp only[decide_eq_true_eq] at*; omega) |(simp at*; omega)
    have st:=ch b88_0 (h88_0 l0_0 a0 a1 a2 v0 v1) ⟨[(2,(.oi a2)),(7,(.one (.ref ⟨(7,0,0),[],v1,v0⟩))),(17,(.one (.val (.bool (decide ((v0:Int) > a2))))))],[((7,0,0),.live ⟨2,(map d_si ((([])++a0)++([a1]))),[]⟩)]⟩ (.exit 0) 9 (by kernel_rfl) (.f (nt hc) (U 8 .nil))
    rw[show (⟨[(2,(.oi a2)),(7,(.one (.ref ⟨(7,0,0),[],v1,v0⟩))),(17,(.one (.val (.bool (decide ((v0:Int) > a2))))))],[((7,0,0),.live ⟨2,(map d_si ((([])++a0)++([a1]))),[]⟩)]⟩:St)=fin88_0 l0_0 a0 a1 a2 (.k0 v1 v0 (decide ((v0:Int) > a2))) from(by rfl)] at st
    exact .loopX st (show ((.exit 0):VX.Exit)≠.normal from by simp)
  |n+1,v0,v1,hi0,hn=>by
    simp only[r88_0]
    by_cases h_0:(decide ((v0:Int) > a2))=true
    · try simp only[if_pos h_0]
      have f1:v1+v0≤(length (map d_si ((([])++a0)++([a1])))):=‹_›
      have f2:0≤(1:Int)∧(1:Int)≤(v0:Int)∧(v0:Int)≤(v0:Int):=(by simp only[decide_eq_true_eq] at*; omega)
      have st:=ch b88_0 (h88_0 l0_0 a0 a1 a2 v0 v1) ⟨[(2,(.oi a2)),(7,(.one (.ref ⟨(7,0,0),[],(v1+1),(toNat (v0:Int) - toNat 1)⟩)))],[((7,0,0),.live ⟨2,(map d_si ((([])++a0)++([a1]))),[]⟩)]⟩ .normal 15 (by kernel_rfl) (.f h_0 (.f f1 (.f f2 (hT 8 .nil))))
      have ih:=t88_0 (l0_0:=l0_0) (a0:=a0) (a1:=a1) (a2:=a2) hy0 hy1 n (toNat (v0:Int) - toNat 1) (v1+1) (by omega) (by omega)
      rw[show (⟨[(2,(.oi a2)),(7,(.one (.ref ⟨(7,0,0),[],(v1+1),(toNat (v0:Int) - toNat 1)⟩)))],[((7,0,0),.live ⟨2,(map d_si ((([])++a0)++([a1]))),[]⟩)]⟩:St)=h88_0 l0_0 a0 a1 a2 (toNat (v0:Int) - toNat 1) (v1+1) from(by rfl)] at st
      exact .loopN st ih
    try simp only[if_neg h_0]
    have st:=ch b88_0 (h88_0 l0_0 a0 a1 a2 v0 v1) ⟨[(2,(.oi a2)),(7,(.one (.ref ⟨(7,0,0),[],v1,v0⟩))),(17,(.one (.val (.bool (decide ((v0:Int) > a2))))))],[((7,0,0),.live ⟨2,(map d_si ((([])++a0)++([a1]))),[]⟩)]⟩ (.exit 0) 9 (by kernel_rfl) (.f (nt h_0) (U 8 .nil))
    rw[show (⟨[(2,(.oi a2)),(7,(.one (.ref ⟨(7,0,0),[],v1,v0⟩))),(17,(.one (.val (.bool (decide ((v0:Int) > a2))))))],[((7,0,0),.live ⟨2,(map d_si ((([])++a0)++([a1]))),[]⟩)]⟩:St)=fin88_0 l0_0 a0 a1 a2 (.k0 v1 v0 (decide ((v0:Int) > a2))) from(by rfl)] at st
    exact .loopX st (show ((.exit 0):VX.Exit)≠.normal from by simp)
def post88_0 (a0:(List K_si)) (a1:K_si) (a2:Int):O88_0→Prop
  |.k0 w0 w1 _=>w0+w1≤(length (map d_si ((([])++a0)++([a1]))))
theorem z88_0 {a0:(List K_si)} {a1:K_si} {a2:Int} (hy0:length a0≤1000) (hy1:0≤a2):∀(n:Nat) (v0:Nat) (v1:Nat),v1+v0≤(length (map d_si ((([])++a0)++([a1]))))→post88_0 a0 a1 a2 (r88_0 a2 n v0 v1)
  |0,v0,v1,hi0=>by
    simp only[r88_0]
    first | trivial |(show _ ; simp only[post88_0]; omega) |(simp only[post88_0] at*; omega) |(simp only[decide_eq_true_eq] at*; omega)
  |n+1,v0,v1,hi0=>by
    simp only[r88_0]
    by_cases h_0:(decide ((v0:Int) > a2))=true
    · try simp only[if_pos h_0]
      exact z88_0 (a0:=a0) (a1:=a1) (a2:=a2) hy0 hy1 n (toNat (v0:Int) - toNat 1) (v1+1) yR
    try simp only[if_neg h_0]
    first | trivial |(show _ ; simp only[post88_0]; omega) |(simp only[post88_0] at*; omega) |(simp only[decide_eq_true_eq] at*; omega)
def m88 (a0:(List K_si)) (a1:K_si) (a2:Int):(List K_si):=
  (match r88_0 a2 ((length (map d_si ((([])++a0)++([a1]))))) (length (map d_si ((([])++a0)++([a1])))) 0 with | .k0 w0_2 w1_2 w2_2=>(([])++(take w1_2 (drop w0_2 ((([])++a0)++([a1]))))))
theorem e88 {l0_0:Nat} {a0:(List K_si)} {a1:K_si} {a2:Int} (hy0:length a0≤1000) (hy1:0≤a2):Ev F X (.call 88 [(.one (.bor l0_0 (map b_si a0))),(.agg [(.val (.string a1.f0)),(.val (.int .i64 a1.f1))]),(.one (.val (.int .i64 a2)))] [] [] [(.one (.own 2 (map d_si (m88 a0 a1 a2))))]):=by
  unfold m88
  have f0:0+0≤0:=yd
  have f1:(length ([]++(fromBR l0_0 (map b_si a0))))*24≤70368744177664:=(by simp; omega)
  have f2:∀r∈((fromBR l0_0 (map b_si a0)):List (List D)),r.length=2:=(by simp[*,b_si,d_si,byteRows_eq,ints_y]; done)
  have f3:0+(length ([]++(fromBR l0_0 (map b_si a0))))≤(length ([]++(fromBR l0_0 (map b_si a0)))):=yd
  have f4:1≤1:=yd
  have f5:((take 1 (drop 0 [[(.val (.string a1.f0)),(.i a1.f1)]])).all fun x=>x.all copyable)=true:=yA
  have f6:(length ((take (length ([]++(fromBR l0_0 (map b_si a0)))) (drop 0 ([]++(fromBR l0_0 (map b_si a0)))))++([[(.val (.string a1.f0)),(.i a1.f1)]]:List (List D))))*24≤70368744177664:=(by simp; omega)
  have f7:∀r∈([[(.val (.string a1.f0)),(.i a1.f1)]]:List (List D)),r.length=2:=yP
  have f8:((take (length ([]++(fromBR l0_0 (map b_si a0)))) (drop 0 ([]++(fromBR l0_0 (map b_si a0)))))++([[(.val (.string a1.f0)),(.i a1.f1)]]:List (List D)))=(map d_si ((([])++a0)++([a1]))):=yH
  cases h0:r88_0 a2 ((length (map d_si ((([])++a0)++([a1]))))) (length (map d_si ((([])++a0)++([a1])))) 0 with
  |k0 w0_2 w1_2 w2_2=>
    try dsimp only
    have zh0:=z88_0 (a0:=a0) (a1:=a1) (a2:=a2) (by assumption) (by assumption) ((length (map d_si ((([])++a0)++([a1]))))) (length (map d_si ((([])++a0)++([a1])))) 0 yd; rw[h0] at zh0; simp only[post88_0] at zh0
    have f9:(⟨[(2,(.oi a2)),(7,(.one (.ref ⟨(7,0,0),[],0,(length ((take (length ([]++(fromBR l0_0 (map b_si a0)))) (drop 0 ([]++(fromBR l0_0 (map b_si a0)))))++([[(.val (.string a1.f0)),(.i a1.f1)]]:List (List D))))⟩)))],[((7,0,0),.live ⟨2,(map d_si ((([])++a0)++([a1]))),[]⟩)]⟩:St)=h88_0 l0_0 a0 a1 a2 (length (map d_si ((([])++a0)++([a1])))) 0:=(by unfold h88_0; simp[take_of_length_le,d_si]; done)
    have f12:w0_2+w1_2≤(length (map d_si ((([])++a0)++([a1])))):=‹_›
    have f13:((take w1_2 (drop w0_2 (map d_si ((([])++a0)++([a1]))))).all fun x=>x.all copyable)=true:=(ct_si _ _ _)
    have f14:(length ([]++(take w1_2 (drop w0_2 (map d_si ((([])++a0)++([a1])))))))*24≤70368744177664:=yB
    have f15:∀r∈((take w1_2 (drop w0_2 (map d_si ((([])++a0)++([a1]))))):List (List D)),r.length=2:=(by intro r hr; exact lenD_si _ r (List.mem_of_mem_drop (List.mem_of_mem_take hr)))
    have f16:([]++(take w1_2 (drop w0_2 (map d_si ((([])++a0)++([a1]))))))=(map d_si (([])++(take w1_2 (drop w0_2 ((([])++a0)++([a1])))))):=yH
    have f18:(length ([]++(take w1_2 (drop w0_2 (map d_si ((([])++a0)++([a1])))))))=(length (map d_si (([])++(take w1_2 (drop w0_2 ((([])++a0)++([a1]))))))):=yP
    exact cp ya (.f f0 (.f f1 (.f f2 (.f f3 (.f f4 (.f f5 (.f f6 (.f f7 (.f f8 (.f f9 (.f (ev_ (e:=ex88_0) (g:=(fin88_0 l0_0 a0 a1 a2)) h0 (t88_0 (l0_0:=l0_0) (a0:=a0) (a1:=a1) (a2:=a2) (by assumption) (by assumption) ((length (map d_si ((([])++a0)++([a1]))))) (length (map d_si ((([])++a0)++([a1])))) 0 yd (Nat.le_refl _))) (.f f0 (.f f12 (.f f13 (.f f14 (.f f15 (.f f16 (pe 0 (.f f18 (.f (pureR_si (([])++(take w1_2 (drop w0_2 ((([])++a0)++([a1])))))) (hT 15 (.h 18 (.norm (7,0,0) (map d_si ((([])++a0)++([a1])))) (.h 19 (.loop (h88_0 l0_0 a0 a1 a2 (length (map d_si ((([])++a0)++([a1])))) 0) (.exit 0) ⟨[(2,(.oi a2)),(7,(.one (.ref ⟨(7,0,0),[],w0_2,w1_2⟩))),(17,(.one (.val (.bool w2_2))))],[((7,0,0),.live ⟨2,(map d_si ((([])++a0)++([a1]))),[]⟩)]⟩) (hT 25 (.h 28 (.norm (6,0,0) (map d_si (([])++(take w1_2 (drop w0_2 ((([])++a0)++([a1]))))))) .nil)))))))))))))))))))))))))
theorem prun_88 (c:Int) (hc:0≤c):∀(f n lo:Nat),n≤f→r88_0 c f n lo=.k0 (lo+(n - c.toNat)) (min n c.toNat) false
  |0,n,lo,h=>by
    have:n=0:=by omega
    subst this
    have h0:¬(0:Int) > c:=by omega
    simp[r88_0,h0]
  |f+1,n,lo,h=>by
    simp only[r88_0,decide_eq_true_eq]
    split
    · rename_i h1
      rw[prun_88 c hc f _ _ yd]
      congr 1<;>omega
    rename_i h1
    have h2:(decide ((n:Int) > c))=false:=by simp only[decide_eq_false_iff_not]; exact h1
    rw[h2]
    congr 1<;>omega
theorem push_88 (a:List K_si) (b:K_si) (c:Int) (hc:0≤c):m88 a b c=drop (a.length+1 - c.toNat) (a++ [b]):=by
  unfold m88
  rw[prun_88 c hc _ _ _ yax]
  simp only[List.nil_append,length_map,length_append,length_cons,length_nil,Nat.zero_add]
  rw[take_of_length_le (by simp only[length_drop,length_append,length_cons,length_nil]; omega)]
def m84 (a0:K_B) (a1:K_si):K_C:=
  if((m78 a1) !=0)=true then(K_C.mk (m78 a1) 0 0 0 ([]) ([]) ([]) 0 0 0) else
  (K_C.mk 0 0 ((m68 a0).f0) ((m68 a0).f1) (m88 a0.f2 a1 a0.f0) ((m68 a0).f3) ((m68 a0).f4) ((m68 a0).f5) ((m68 a0).f6) ((m68 a0).f7))
theorem e84 {l0_2:Nat} {l0_3:Nat} {l0_4:Nat} {a0:K_B} {a1:K_si} (hy0:length a0.f2≤100) (hy1:length a0.f3≤100) (hy2:∀z∈a0.f3,length z.f3≤100) (hy3:length a0.f4≤100) (hy4:∀z∈a0.f3,ok_R z) (hy5:ByteArray.size a1.f0≤140737488351232) (hy6:1≤a0.f0) (hy7:a0.f0≤12):Ev F X (.call 84 [(.agg (k_B l0_2 l0_3 l0_4 a0)),(.agg [(.val (.string a1.f0)),(.val (.int .i64 a1.f1))])] [] [] [(.agg (d_C (m84 a0 a1)))]):=by
  unfold m84
  have f0:fullL [(.val (.string a1.f0)),(.i a1.f1)]=true:=yA
  have P0 {hs q} (r:PS F X hs q):=(PS.f f0 (.r 7 [] [] (e78 (l0:=0) (a0:=a1) ‹_›) r))
  by_cases h0:((m78 a1) !=0)=true
  · try simp only[if_pos h0]
    exact cp ya (P0 (.f h0 (hT 14 (.r 18 [] [] (e37 (a0:=(m78 a1))) (p3 ([]) ([]) ([]) (.f (pureR_si ([])) (.f (pureR_R ([])) (.f (pureR_si ([])) .nil))))))))
  try simp only[if_neg h0]
  exact cp ya (P0 (N h0 (U 14 (.r 18 [] [] (e68 (l0_2:=(l0_2+1)) (l0_3:=(l0_3+1)) (l0_4:=(l0_4+1)) (a0:=a0) ‹_› ‹_› ‹_› ‹_› ‹_›) (p3 ((m68 a0).f2) ((m68 a0).f3) ((m68 a0).f4) (.r 34 [] [] (e88 (l0_0:=(l0_2+1)) (a0:=a0.f2) (a1:=a1) (a2:=a0.f0) yd yd) (pe 0 (pe (length (map d_si (m88 a0.f2 a1 a0.f0))) (p3 (m88 a0.f2 a1 a0.f0) ((m68 a0).f3) ((m68 a0).f4) (.f (pureR_si (m88 a0.f2 a1 a0.f0)) (.f (pureR_R ((m68 a0).f3)) (.f (pureR_si ((m68 a0).f4)) .nil))))))))))))
theorem crG {a:K_B} {w:K_si} (h:GL a) (hw:ByteArray.size w.f0≤3) (hc:¬((m84 a w).f0 !=0)=true):GL (K_B.mk (m84 a w).f2 (m84 a w).f3 (m84 a w).f4 (m84 a w).f5 (m84 a w).f6 (m84 a w).f7 (m84 a w).f8 (m84 a w).f9):=by
  unfold m84 at hc⊢
  by_cases c1:((m78 w) !=0)=true
  · simp only[if_pos c1] at hc; exact absurd c1 hc
  simp only[if_neg c1,cp68]
  obtain⟨h1,h2,h3,h4,h5⟩:=h
  refine⟨h1,h2,?_,h4,h5⟩
  simp only[]
  rw[push_88 _ _ _ yd]
  have hw2:1≤w.f1∧w.f1≤9999:=by
    have c:m78 w=0:=by simpa using c1
    unfold m78 at c
    split at c
    · cases c
    split at c
    · cases c
    split at c
    · cases c
    exact jn72 (by assumption)
  refine⟨by have:=h3.1; simp only[length_drop,length_append,length_cons,length_nil]; omega,fun z hz=>?_,fun z hz=>?_⟩
  · rcases List.mem_append.1 (List.mem_of_mem_drop hz) with hz | hz
    · exact h3.2.1 z hz
    rw[List.mem_singleton.1 hz]; exact hw2
  exact sz_app h3.2.2 hw z (List.mem_of_mem_drop hz)
def m85 (a0:K_B) (a1:ByteArray) (a2:Int):K_C:=
  if(decide ((m80 a0.f4 a1) < 0))=true then(K_C.mk 4 0 0 0 ([]) ([]) ([]) 0 0 0) else
  if(((getD a0.f4 (toNat (m80 a0.f4 a1)) (K_si.mk (⟨#[]⟩:ByteArray) 0)).f1)==0)=true then(K_C.mk 4 0 0 0 ([]) ([]) ([]) 0 0 0) else
    if(!(m72 a2 1 ((getD a0.f4 (toNat (m80 a0.f4 a1)) (K_si.mk (⟨#[]⟩:ByteArray) 0)).f1)))=true then(K_C.mk 3 0 0 0 ([]) ([]) ([]) 0 0 0) else
      if(!(m72 (wrap .i64 (a0.f5+a2)) 0 1000000))=true then(K_C.mk 7 0 0 0 ([]) ([]) ([]) 0 0 0) else
        (K_C.mk 0 0 ((m68 a0).f0) ((m68 a0).f1) ((m68 a0).f2) ((m68 a0).f3) (set ((m68 a0).f4) (toNat (m80 a0.f4 a1)) (K_si.mk ((getD ((m68 a0).f4) (toNat (m80 a0.f4 a1)) (K_si.mk (⟨#[]⟩:ByteArray) 0)).f0) (wrap .i64 (((getD a0.f4 (toNat (m80 a0.f4 a1)) (K_si.mk (⟨#[]⟩:ByteArray) 0)).f1) - a2)))) (wrap .i64 (a0.f5+a2)) ((m68 a0).f6) ((m68 a0).f7))
theorem e85 {l0_2:Nat} {l0_3:Nat} {l0_4:Nat} {a0:K_B} {a1:ByteArray} {a2:Int} (hy0:length a0.f2≤100) (hy1:length a0.f3≤100) (hy2:∀z∈a0.f3,length z.f3≤100) (hy3:length a0.f4≤100) (hy4:∀z∈a0.f3,ok_R z):Ev F X (.call 85 [(.agg (k_B l0_2 l0_3 l0_4 a0)),(.one (.val (.string a1))),(.one (.val (.int .i64 a2)))] [] [] [(.agg (d_C (m85 a0 a1 a2)))]):=by
  unfold m85
  have P0 {hs q} (r:PS F X hs q):=(PS.r 11 [] [] (e80 (l0_0:=(l0_4+1)) (a0:=a0.f4) (a1:=a1) yd) r)
  by_cases h0:(decide ((m80 a0.f4 a1) < 0))=true
  · try simp only[if_pos h0]
    exact cp ya (P0 (.f h0 (.f h0 (.f h0 (.f h0 (.f h0 (.f h0 (.f h0 (.f h0 (hT 20 (hT 22 (hT 24 (hT 26 (hT 28 (hT 30 (hT 32 (hT 35 (.r 38 [] [] (e37 (a0:=4)) (p3 ([]) ([]) ([]) (.f (pureR_si ([])) (.f (pureR_R ([])) (.f (pureR_si ([])) .nil))))))))))))))))))))))
  try simp only[if_neg h0]
  have f5:0≤(m80 a0.f4 a1):=yaf
  have P1 {hs q} (r:PS F X hs q):=(P0 (N h0 (N h0 (N h0 (N h0 (.f f5 (.f (mp_ b_si (getD_at a0.f4 (toNat (m80 a0.f4 a1)) (K_si.mk (⟨#[]⟩:ByteArray) 0) yaf)) (N h0 (N h0 (N h0 (N h0 (U 20 (U 22 (U 24 (U 26 (.h 27 (.row (b_si (getD a0.f4 (toNat (m80 a0.f4 a1)) (K_si.mk (⟨#[]⟩:ByteArray) 0)))) (U 28 (U 30 (U 32 (U 35 r))))))))))))))))))))
  by_cases h1:(((getD a0.f4 (toNat (m80 a0.f4 a1)) (K_si.mk (⟨#[]⟩:ByteArray) 0)).f1)==0)=true
  · try simp only[if_pos h1]
    exact cp ya (P1 (.f h1 (hT 36 (.r 38 [] [] (e37 (a0:=4)) (p3 ([]) ([]) ([]) (.f (pureR_si ([])) (.f (pureR_R ([])) (.f (pureR_si ([])) .nil))))))))
  try simp only[if_neg h1]
  have P2 {hs q} (r:PS F X hs q):=(P1 (N h1 (.f f5 (.f (mp_ b_si (getD_at a0.f4 (toNat (m80 a0.f4 a1)) (K_si.mk (⟨#[]⟩:ByteArray) 0) yaf)) (U 36 (.h 46 (.row (b_si (getD a0.f4 (toNat (m80 a0.f4 a1)) (K_si.mk (⟨#[]⟩:ByteArray) 0)))) (.r 52 [] [] (e72 (a0:=a2) (a1:=1) (a2:=((getD a0.f4 (toNat (m80 a0.f4 a1)) (K_si.mk (⟨#[]⟩:ByteArray) 0)).f1))) r)))))))
  by_cases h2:(!(m72 a2 1 ((getD a0.f4 (toNat (m80 a0.f4 a1)) (K_si.mk (⟨#[]⟩:ByteArray) 0)).f1)))=true
  · try simp only[if_pos h2]
    exact cp ya (P2 (.f h2 (hT 55 (.r 57 [] [] (e37 (a0:=3)) (p3 ([]) ([]) ([]) (.f (pureR_si ([])) (.f (pureR_R ([])) (.f (pureR_si ([])) .nil))))))))
  try simp only[if_neg h2]
  have P3 {hs q} (r:PS F X hs q):=(P2 (N h2 (.f trivial (U 55 (.r 65 [] [] (e66 (a0:=(wrap .i64 (a0.f5+a2)))) r)))))
  by_cases h3:(!(m72 (wrap .i64 (a0.f5+a2)) 0 1000000))=true
  · try simp only[if_pos h3]
    exact cp ya (P3 (.f h3 (hT 68 (.r 70 [] [] (e37 (a0:=7)) (p3 ([]) ([]) ([]) (.f (pureR_si ([])) (.f (pureR_R ([])) (.f (pureR_si ([])) .nil))))))))
  try simp only[if_neg h3]
  have f28:0+(length (map d_si ((m68 a0).f4)))≤(length (map d_si ((m68 a0).f4))):=yd
  have f29:0≤(m80 a0.f4 a1)∧(m80 a0.f4 a1) <((length (map d_si ((m68 a0).f4))):Int):=yao
  have f31:([[(.i ((m68 a0).f0)),(.i ((m68 a0).f1)),(.own 2 (map d_si ((m68 a0).f2))),(.own 5 (map d_R ((m68 a0).f3))),(.own 2 (set (map d_si ((m68 a0).f4)) (0+(toNat (m80 a0.f4 a1))) [(.val (.string ((getD ((m68 a0).f4) (toNat (m80 a0.f4 a1)) (K_si.mk (⟨#[]⟩:ByteArray) 0)).f0))),(.i (wrap .i64 (((getD a0.f4 (toNat (m80 a0.f4 a1)) (K_si.mk (⟨#[]⟩:ByteArray) 0)).f1) - a2)))])),(.i ((m68 a0).f5)),(.i ((m68 a0).f6)),(.i ((m68 a0).f7))]]:List (List D))=[[(.i ((m68 a0).f0)),(.i ((m68 a0).f1)),(.own 2 (map d_si ((m68 a0).f2))),(.own 5 (map d_R ((m68 a0).f3))),(.own 2 (map d_si (set ((m68 a0).f4) (toNat (m80 a0.f4 a1)) (K_si.mk ((getD ((m68 a0).f4) (toNat (m80 a0.f4 a1)) (K_si.mk (⟨#[]⟩:ByteArray) 0)).f0) (wrap .i64 (((getD a0.f4 (toNat (m80 a0.f4 a1)) (K_si.mk (⟨#[]⟩:ByteArray) 0)).f1) - a2)))))),(.i ((m68 a0).f5)),(.i ((m68 a0).f6)),(.i ((m68 a0).f7))]]:=yI
  exact cp ya (P3 (N h3 (U 68 (.r 72 [] [] (e68 (l0_2:=(l0_2+1)) (l0_3:=(l0_3+1)) (l0_4:=(l0_4+1)) (a0:=a0) ‹_› ‹_› ‹_› ‹_› ‹_›) (p3 ((m68 a0).f2) ((m68 a0).f3) ((m68 a0).f4) (.f f5 (.f (mp_ b_si (getD_at a0.f4 (toNat (m80 a0.f4 a1)) (K_si.mk (⟨#[]⟩:ByteArray) 0) yaf)) (.f f28 (.f f29 (.f (mz_ d_si (getD_at ((m68 a0).f4) (toNat (m80 a0.f4 a1)) (K_si.mk (⟨#[]⟩:ByteArray) 0) yao)) (.f f31 (.f trivial (p3 ((m68 a0).f2) ((m68 a0).f3) (set ((m68 a0).f4) (toNat (m80 a0.f4 a1)) (K_si.mk ((getD ((m68 a0).f4) (toNat (m80 a0.f4 a1)) (K_si.mk (⟨#[]⟩:ByteArray) 0)).f0) (wrap .i64 (((getD a0.f4 (toNat (m80 a0.f4 a1)) (K_si.mk (⟨#[]⟩:ByteArray) 0)).f1) - a2)))) (.f (pureR_si ((m68 a0).f2)) (.f (pureR_R ((m68 a0).f3)) (.f (pureR_si (set ((m68 a0).f4) (toNat (m80 a0.f4 a1)) (K_si.mk ((getD ((m68 a0).f4) (toNat (m80 a0.f4 a1)) (K_si.mk (⟨#[]⟩:ByteArray) 0)).f0) (wrap .i64 (((getD a0.f4 (toNat (m80 a0.f4 a1)) (K_si.mk (⟨#[]⟩:ByteArray) 0)).f1) - a2))))) (.h 90 (.row (b_si (getD a0.f4 (toNat (m80 a0.f4 a1)) (K_si.mk (⟨#[]⟩:ByteArray) 0)))) (.h 104 (.rowD (d_si (getD ((m68 a0).f4) (toNat (m80 a0.f4 a1)) (K_si.mk (⟨#[]⟩:ByteArray) 0)))) (.h 105 (.norm (8,0,0) [[(.i ((m68 a0).f0)),(.i ((m68 a0).f1)),(.own 2 (map d_si ((m68 a0).f2))),(.own 5 (map d_R ((m68 a0).f3))),(.own 2 (map d_si (set ((m68 a0).f4) (toNat (m80 a0.f4 a1)) (K_si.mk ((getD ((m68 a0).f4) (toNat (m80 a0.f4 a1)) (K_si.mk (⟨#[]⟩:ByteArray) 0)).f0) (wrap .i64 (((getD a0.f4 (toNat (m80 a0.f4 a1)) (K_si.mk (⟨#[]⟩:ByteArray) 0)).f1) - a2)))))),(.i ((m68 a0).f5)),(.i ((m68 a0).f6)),(.i ((m68 a0).f7))]]) .nil)))))))))))))))))))
theorem paG {a:K_B} {w:ByteArray} {i:Int} (h:GL a) (hc:¬((m85 a w i).f0 !=0)=true):GL (K_B.mk (m85 a w i).f2 (m85 a w i).f3 (m85 a w i).f4 (m85 a w i).f5 (m85 a w i).f6 (m85 a w i).f7 (m85 a w i).f8 (m85 a w i).f9):=by
  obtain⟨h1,h2,h3,h4,h5⟩:=h
  generalize hr:m85 a w i=r at hc⊢
  unfold m85 at hr
  simp only[cp68] at hr
  (repeat' split at hr)<;>subst hr<;>first
    |(exfalso; simp at hc; done)
    |exact⟨h1,h2,h3,h4,⟨by simp only[length_set]; exact h5.1,sz_set h5.2 _ (sz_get h5.2 _)⟩⟩
end Go.Proofs.YtihjlmgakpgkeaaGreatDoor.Ledgers
