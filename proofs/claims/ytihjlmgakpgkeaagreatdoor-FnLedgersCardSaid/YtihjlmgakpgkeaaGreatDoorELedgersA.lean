/- What the functions compute. -/
import Derived.Test.YtihjlmgakpgkeaaGreatDoorTLedgers
import Derived.Test.YtihjlmgakpgkeaaGreatDoorVNum
import Derived.Test.YtihjlmgakpgkeaaGreatDoorVClone
import Derived.Test.YtihjlmgakpgkeaaGreatDoorVExt
import Derived.Test.YtihjlmgakpgkeaaGreatDoorXLedgers
import Derived.KernelRfl
namespace Go.Proofs.YtihjlmgakpgkeaaGreatDoor.Ledgers
open Go Go.Proofs.YtihjlmgakpgkeaaGreatDoor.V
set_option linter.unusedVariables false
set_option linter.unusedSimpArgs false
set_option maxRecDepth 20000
abbrev _root_.Go.Proofs.YtihjlmgakpgkeaaGreatDoor.V.B.i (x:Int):B:=.val (.int .i64 x)
abbrev _root_.Go.Proofs.YtihjlmgakpgkeaaGreatDoor.V.D.i (x:Int):D:=.val (.int .i64 x)
abbrev _root_.Go.Proofs.YtihjlmgakpgkeaaGreatDoor.V.CV.i (x:Int):CV:=.val (.int .i64 x)
abbrev _root_.Go.Proofs.YtihjlmgakpgkeaaGreatDoor.V.SV.oi (x:Int):SV:=.one (.val (.int .i64 x))
abbrev _root_.Go.Proofs.YtihjlmgakpgkeaaGreatDoor.V.Ret.oi (x:Int):Ret:=.one (.val (.int .i64 x))
open Go.IntKind (wrap)
open Int (toNat)
open List (length_replicate length_map length_set length_append length_cons length_nil length_take length_drop take_of_length_le map_take map_drop map_set append_assoc getElem?_map map length take drop getD set)
def X:Ext:=fun f args objs rs=>(f=55∧objs=[]∧CloneX 2 24 args rs)∨(f=87∧objs=[]∧TrimX args rs)
theorem pe {α:Type} {hs q} (x:α) (r:PS F X hs q):PS F X hs ((x=x)::q):=.f rfl r
theorem mp_ {α β:Type} (f:α→β) {l:List α} {i:Nat} {x:α} (h:l[i]?=some x):(l.map f)[i]?=some (f x):=by rw[getElem?_map,h]; rfl
theorem mz_ {α β:Type} (f:α→β) {l:List α} {i:Nat} {x:α} (h:l[i]?=some x):(l.map f)[0+i]?=some (f x):=by rw[Nat.zero_add]; exact mp_ f h
theorem ev_ {c:VC} {σ:St} {O:Type} {e:O→VX.Exit} {g:O→St} {r w:O} (h:r=w) (t:Ev F X (.code c σ (e r) (g r))):Ev F X (.code c σ (e w) (g w)):=h ▸ t
theorem cp {f hs args rs q} (h:callH F X f hs [] args []=some ([],rs,q)) (p:PS F X hs q):Ev F X (.call f args [] [] rs):=callP_ok h p
theorem cq (ps:List Bool) {f hs args objs os rs q} (h:callH F X f hs ps args objs=some (os,rs,q)) (p:PS F X hs q):Ev F X (.call f args objs os rs):=callP_ok h p
theorem ch (c:VC) (σ σ':St) (e:VX.Exit) (t:Nat) {hs q} (h:codeH F X c 0 hs σ=some (e,σ',t,[],q)) (p:PS F X hs q):Ev F X (.code c σ e σ'):=codeP_ok h p
def b_y (x:Int):List B:=[(.val (.int .u8 x))]
def d_y (x:Int):List D:=[(.val (.int .u8 x))]
theorem toBR_y:∀(l:List Int),toBR (l.map d_y)=l.map b_y
  |[]=>rfl
  |x::l=>by simp[toBR,toBL,toB,d_y,b_y,toBR_y l]
theorem fullR_y:∀(l:List Int),fullR (l.map d_y)=true
  |[]=>rfl
  |x::l=>by simp[fullR,fullL,full,d_y,fullR_y l]
theorem pureR_y:∀(l:List Int),pureR (l.map d_y)=true
  |[]=>rfl
  |x::l=>by simp[pureR,pureL,V.pure,d_y,pureR_y l]
theorem lenB_y (l:List Int):∀r∈l.map b_y,r.length=1:=by intro r h; obtain⟨x,_,rfl⟩:=List.mem_map.1 h; rfl
theorem lenD_y (l:List Int):∀r∈l.map d_y,r.length=1:=by intro r h; obtain⟨x,_,rfl⟩:=List.mem_map.1 h; rfl
theorem fromBR_y (n:Nat) (l:List Int):fromBR n (l.map b_y)=l.map d_y:=by simp[fromBR,b_y,d_y,fromB,Function.comp_def]
theorem copy_y (l:List Int):(l.map d_y).all (fun x=>x.all copyable)=true:=by simp[d_y,copyable,Function.comp_def]
def strInts (s:ByteArray):List Int:=s.data.toList.map fun b=>(b.toNat:Int)
theorem strInts_len (s:ByteArray):(strInts s).length=s.size:=by simp[strInts]
theorem byteRows_len (s:ByteArray):(byteRows s).length=s.size:=by simp[byteRows]
theorem byteRows_eq (s:ByteArray):byteRows s=(strInts s).map d_y:=by simp[byteRows,strInts,d_y,Function.comp_def]
theorem ints_y:∀(l:List Int),rowsInts .u8 (l.map d_y)=some l
  |[]=>rfl
  |x::l=>by simp only[List.map_cons,d_y,rowsInts,ints_y l]; rfl
def b_LyE (x:(List Int)):List B:=[(.sl (map b_y x))]
def d_LyE (x:(List Int)):List D:=[(.own 1 (map d_y x))]
theorem toBR_LyE:∀(l:List (List Int)),toBR (l.map d_LyE)=l.map b_LyE
  |[]=>rfl
  |x::l=>by simp[toBR,toBL,toB,d_LyE,b_LyE,toBR_LyE l,toBR_y]
theorem fullR_LyE:∀(l:List (List Int)),fullR (l.map d_LyE)=true
  |[]=>rfl
  |x::l=>by simp[fullR,fullL,full,d_LyE,fullR_LyE l,fullR_y]
theorem pureR_LyE:∀(l:List (List Int)),pureR (l.map d_LyE)=true
  |[]=>rfl
  |x::l=>by simp[pureR,pureL,V.pure,d_LyE,pureR_LyE l,pureR_y]
theorem lenB_LyE (l:List (List Int)):∀r∈l.map b_LyE,r.length=1:=by intro r h; obtain⟨x,_,rfl⟩:=List.mem_map.1 h; rfl
theorem lenD_LyE (l:List (List Int)):∀r∈l.map d_LyE,r.length=1:=by intro r h; obtain⟨x,_,rfl⟩:=List.mem_map.1 h; rfl
def ok_LyE (x:(List Int)):Prop:=(length x*1≤140737488351232)
def b_b (x:Bool):List B:=[(.val (.bool x))]
def d_b (x:Bool):List D:=[(.val (.bool x))]
theorem toBR_b:∀(l:List Bool),toBR (l.map d_b)=l.map b_b
  |[]=>rfl
  |x::l=>by simp[toBR,toBL,toB,d_b,b_b,toBR_b l]
theorem fullR_b:∀(l:List Bool),fullR (l.map d_b)=true
  |[]=>rfl
  |x::l=>by simp[fullR,fullL,full,d_b,fullR_b l]
theorem pureR_b:∀(l:List Bool),pureR (l.map d_b)=true
  |[]=>rfl
  |x::l=>by simp[pureR,pureL,V.pure,d_b,pureR_b l]
theorem lenB_b (l:List Bool):∀r∈l.map b_b,r.length=1:=by intro r h; obtain⟨x,_,rfl⟩:=List.mem_map.1 h; rfl
theorem lenD_b (l:List Bool):∀r∈l.map d_b,r.length=1:=by intro r h; obtain⟨x,_,rfl⟩:=List.mem_map.1 h; rfl
theorem fromBR_b (n:Nat) (l:List Bool):fromBR n (l.map b_b)=l.map d_b:=by simp[fromBR,b_b,d_b,fromB,Function.comp_def]
theorem copy_b (l:List Bool):(l.map d_b).all (fun x=>x.all copyable)=true:=by simp[d_b,copyable,Function.comp_def]
structure K_si where
  f0:ByteArray
  f1:Int
def b_si (x:K_si):List B:=[(.val (.string x.f0)),(.val (.int .i64 x.f1))]
def d_si (x:K_si):List D:=[(.val (.string x.f0)),(.val (.int .i64 x.f1))]
theorem toBR_si:∀(l:List K_si),toBR (l.map d_si)=l.map b_si
  |[]=>rfl
  |x::l=>by simp[toBR,toBL,toB,d_si,b_si,toBR_si l]
theorem fullR_si:∀(l:List K_si),fullR (l.map d_si)=true
  |[]=>rfl
  |x::l=>by simp[fullR,fullL,full,d_si,fullR_si l]
theorem pureR_si:∀(l:List K_si),pureR (l.map d_si)=true
  |[]=>rfl
  |x::l=>by simp[pureR,pureL,V.pure,d_si,pureR_si l]
theorem ft_si (a b:Nat) (l:List K_si):fullR (take a (drop b (l.map d_si)))=true:=by rw[← map_drop,← map_take]; exact fullR_si _
theorem tb_si (l:List K_si):toBR (take (l.map d_si).length (drop 0 (l.map d_si)))=l.map b_si:=by rw[List.drop_zero,List.take_length]; exact toBR_si l
theorem ln_si {hs q} (x:List K_si) (r:PS F X hs q):PS F X hs ((0+(x.map d_si).length≤(x.map d_si).length)::(fullR (take (x.map d_si).length (drop 0 (x.map d_si)))=true)::(toBR (take (x.map d_si).length (drop 0 (x.map d_si)))=x.map b_si)::q):=.f (Nat.le_of_eq (Nat.zero_add _)) (.f (ft_si _ _ _) (.f (tb_si _) r))
theorem lenB_si (l:List K_si):∀r∈l.map b_si,r.length=2:=by intro r h; obtain⟨x,_,rfl⟩:=List.mem_map.1 h; rfl
theorem lenD_si (l:List K_si):∀r∈l.map d_si,r.length=2:=by intro r h; obtain⟨x,_,rfl⟩:=List.mem_map.1 h; rfl
def os_si (x:K_si):Prop:=(ByteArray.size x.f0≤140737488351232)
theorem fromBR_si (n:Nat) (l:List K_si):fromBR n (l.map b_si)=l.map d_si:=by simp[fromBR,b_si,d_si,fromB,Function.comp_def]
theorem copy_si (l:List K_si):(l.map d_si).all (fun x=>x.all copyable)=true:=by simp[d_si,copyable,Function.comp_def]
theorem ct_si (a b:Nat) (l:List K_si):((take a (drop b (l.map d_si))).all fun x=>x.all copyable)=true:=by rw[← map_drop,← map_take]; exact copy_si _
structure K_R where
  f0:Int
  f1:Int
  f2:Int
  f3:(List K_si)
  f4:Int
def b_R (x:K_R):List B:=[(.val (.int .i64 x.f0)),(.val (.int .i64 x.f1)),(.val (.int .i64 x.f2)),(.sl (map b_si x.f3)),(.val (.int .i64 x.f4))]
def d_R (x:K_R):List D:=[(.val (.int .i64 x.f0)),(.val (.int .i64 x.f1)),(.val (.int .i64 x.f2)),(.own 2 (map d_si x.f3)),(.val (.int .i64 x.f4))]
abbrev k_R (l0:Nat) (x:K_R):List CV:=[(.val (.int .i64 x.f0)),(.val (.int .i64 x.f1)),(.val (.int .i64 x.f2)),(.bor l0 (map b_si x.f3)),(.val (.int .i64 x.f4))]
theorem toBR_R:∀(l:List K_R),toBR (l.map d_R)=l.map b_R
  |[]=>rfl
  |x::l=>by simp[toBR,toBL,toB,d_R,b_R,toBR_R l,toBR_si]
theorem fullR_R:∀(l:List K_R),fullR (l.map d_R)=true
  |[]=>rfl
  |x::l=>by simp[fullR,fullL,full,d_R,fullR_R l,fullR_si]
theorem pureR_R:∀(l:List K_R),pureR (l.map d_R)=true
  |[]=>rfl
  |x::l=>by simp[pureR,pureL,V.pure,d_R,pureR_R l,pureR_si]
theorem ft_R (a b:Nat) (l:List K_R):fullR (take a (drop b (l.map d_R)))=true:=by rw[← map_drop,← map_take]; exact fullR_R _
theorem tb_R (l:List K_R):toBR (take (l.map d_R).length (drop 0 (l.map d_R)))=l.map b_R:=by rw[List.drop_zero,List.take_length]; exact toBR_R l
theorem ln_R {hs q} (x:List K_R) (r:PS F X hs q):PS F X hs ((0+(x.map d_R).length≤(x.map d_R).length)::(fullR (take (x.map d_R).length (drop 0 (x.map d_R)))=true)::(toBR (take (x.map d_R).length (drop 0 (x.map d_R)))=x.map b_R)::q):=.f (Nat.le_of_eq (Nat.zero_add _)) (.f (ft_R _ _ _) (.f (tb_R _) r))
theorem lenB_R (l:List K_R):∀r∈l.map b_R,r.length=5:=by intro r h; obtain⟨x,_,rfl⟩:=List.mem_map.1 h; rfl
theorem lenD_R (l:List K_R):∀r∈l.map d_R,r.length=5:=by intro r h; obtain⟨x,_,rfl⟩:=List.mem_map.1 h; rfl
def ok_R (x:K_R):Prop:=(length x.f3*24≤140737488351232)
def os_R (x:K_R):Prop:=(length x.f3*24≤140737488351232)∧(∀z∈x.f3,os_si z)
theorem os_ok_R (x:K_R) (h:os_R x):ok_R x:=h.1
theorem gos_R {l:List K_R} (h:∀z∈l,os_R z) (n:Nat) (d:K_R) (hd:os_R d):os_R (l.getD n d):=by
  rw[List.getD_eq_getElem?_getD]; cases h2:l[n]? with
  |none=>simpa using hd
  |some x=>exact h x (List.mem_of_getElem? h2)
structure K_B where
  f0:Int
  f1:Int
  f2:(List K_si)
  f3:(List K_R)
  f4:(List K_si)
  f5:Int
  f6:Int
  f7:Int
def b_B (x:K_B):List B:=[(.val (.int .i64 x.f0)),(.val (.int .i64 x.f1)),(.sl (map b_si x.f2)),(.sl (map b_R x.f3)),(.sl (map b_si x.f4)),(.val (.int .i64 x.f5)),(.val (.int .i64 x.f6)),(.val (.int .i64 x.f7))]
def d_B (x:K_B):List D:=[(.val (.int .i64 x.f0)),(.val (.int .i64 x.f1)),(.own 2 (map d_si x.f2)),(.own 5 (map d_R x.f3)),(.own 2 (map d_si x.f4)),(.val (.int .i64 x.f5)),(.val (.int .i64 x.f6)),(.val (.int .i64 x.f7))]
abbrev k_B (l0:Nat) (l1:Nat) (l2:Nat) (x:K_B):List CV:=[(.val (.int .i64 x.f0)),(.val (.int .i64 x.f1)),(.bor l0 (map b_si x.f2)),(.bor l1 (map b_R x.f3)),(.bor l2 (map b_si x.f4)),(.val (.int .i64 x.f5)),(.val (.int .i64 x.f6)),(.val (.int .i64 x.f7))]
theorem toBR_B:∀(l:List K_B),toBR (l.map d_B)=l.map b_B
  |[]=>rfl
  |x::l=>by simp[toBR,toBL,toB,d_B,b_B,toBR_B l,toBR_si,toBR_R]
theorem fullR_B:∀(l:List K_B),fullR (l.map d_B)=true
  |[]=>rfl
  |x::l=>by simp[fullR,fullL,full,d_B,fullR_B l,fullR_si,fullR_R]
theorem pureR_B:∀(l:List K_B),pureR (l.map d_B)=true
  |[]=>rfl
  |x::l=>by simp[pureR,pureL,V.pure,d_B,pureR_B l,pureR_si,pureR_R]
theorem lenB_B (l:List K_B):∀r∈l.map b_B,r.length=8:=by intro r h; obtain⟨x,_,rfl⟩:=List.mem_map.1 h; rfl
theorem lenD_B (l:List K_B):∀r∈l.map d_B,r.length=8:=by intro r h; obtain⟨x,_,rfl⟩:=List.mem_map.1 h; rfl
def ok_B (x:K_B):Prop:=(length x.f2*24≤140737488351232)∧(length x.f3*56≤140737488351232)∧(∀z∈x.f3,ok_R z)∧(length x.f4*24≤140737488351232)
def os_B (x:K_B):Prop:=(length x.f2*24≤140737488351232)∧(∀z∈x.f2,os_si z)∧(length x.f3*56≤140737488351232)∧(∀z∈x.f3,os_R z)∧(length x.f4*24≤140737488351232)∧(∀z∈x.f4,os_si z)
theorem os_ok_B (x:K_B) (h:os_B x):ok_B x:=⟨h.1,h.2.2.1,fun z hz=>os_ok_R z (h.2.2.2.1 z hz),h.2.2.2.2.1⟩
def b_i (x:Int):List B:=[(.val (.int .i64 x))]
def d_i (x:Int):List D:=[(.val (.int .i64 x))]
theorem toBR_i:∀(l:List Int),toBR (l.map d_i)=l.map b_i
  |[]=>rfl
  |x::l=>by simp[toBR,toBL,toB,d_i,b_i,toBR_i l]
theorem fullR_i:∀(l:List Int),fullR (l.map d_i)=true
  |[]=>rfl
  |x::l=>by simp[fullR,fullL,full,d_i,fullR_i l]
theorem pureR_i:∀(l:List Int),pureR (l.map d_i)=true
  |[]=>rfl
  |x::l=>by simp[pureR,pureL,V.pure,d_i,pureR_i l]
theorem ft_i (a b:Nat) (l:List Int):fullR (take a (drop b (l.map d_i)))=true:=by rw[← map_drop,← map_take]; exact fullR_i _
theorem lenB_i (l:List Int):∀r∈l.map b_i,r.length=1:=by intro r h; obtain⟨x,_,rfl⟩:=List.mem_map.1 h; rfl
theorem lenD_i (l:List Int):∀r∈l.map d_i,r.length=1:=by intro r h; obtain⟨x,_,rfl⟩:=List.mem_map.1 h; rfl
theorem fromBR_i (n:Nat) (l:List Int):fromBR n (l.map b_i)=l.map d_i:=by simp[fromBR,b_i,d_i,fromB,Function.comp_def]
theorem copy_i (l:List Int):(l.map d_i).all (fun x=>x.all copyable)=true:=by simp[d_i,copyable,Function.comp_def]
structure K_C where
  f0:Int
  f1:Int
  f2:Int
  f3:Int
  f4:(List K_si)
  f5:(List K_R)
  f6:(List K_si)
  f7:Int
  f8:Int
  f9:Int
def b_C (x:K_C):List B:=[(.val (.int .i64 x.f0)),(.val (.int .i64 x.f1)),(.val (.int .i64 x.f2)),(.val (.int .i64 x.f3)),(.sl (map b_si x.f4)),(.sl (map b_R x.f5)),(.sl (map b_si x.f6)),(.val (.int .i64 x.f7)),(.val (.int .i64 x.f8)),(.val (.int .i64 x.f9))]
def d_C (x:K_C):List D:=[(.val (.int .i64 x.f0)),(.val (.int .i64 x.f1)),(.val (.int .i64 x.f2)),(.val (.int .i64 x.f3)),(.own 2 (map d_si x.f4)),(.own 5 (map d_R x.f5)),(.own 2 (map d_si x.f6)),(.val (.int .i64 x.f7)),(.val (.int .i64 x.f8)),(.val (.int .i64 x.f9))]
theorem toBR_C:∀(l:List K_C),toBR (l.map d_C)=l.map b_C
  |[]=>rfl
  |x::l=>by simp[toBR,toBL,toB,d_C,b_C,toBR_C l,toBR_si,toBR_R]
theorem fullR_C:∀(l:List K_C),fullR (l.map d_C)=true
  |[]=>rfl
  |x::l=>by simp[fullR,fullL,full,d_C,fullR_C l,fullR_si,fullR_R]
theorem pureR_C:∀(l:List K_C),pureR (l.map d_C)=true
  |[]=>rfl
  |x::l=>by simp[pureR,pureL,V.pure,d_C,pureR_C l,pureR_si,pureR_R]
theorem lenB_C (l:List K_C):∀r∈l.map b_C,r.length=10:=by intro r h; obtain⟨x,_,rfl⟩:=List.mem_map.1 h; rfl
theorem lenD_C (l:List K_C):∀r∈l.map d_C,r.length=10:=by intro r h; obtain⟨x,_,rfl⟩:=List.mem_map.1 h; rfl
def ok_C (x:K_C):Prop:=(length x.f4*24≤140737488351232)∧(length x.f5*56≤140737488351232)∧(∀z∈x.f5,ok_R z)∧(length x.f6*24≤140737488351232)
structure K_LyEi where
  f0:(List Int)
  f1:Int
def b_LyEi (x:K_LyEi):List B:=[(.sl (map b_y x.f0)),(.val (.int .i64 x.f1))]
def d_LyEi (x:K_LyEi):List D:=[(.own 1 (map d_y x.f0)),(.val (.int .i64 x.f1))]
theorem toBR_LyEi:∀(l:List K_LyEi),toBR (l.map d_LyEi)=l.map b_LyEi
  |[]=>rfl
  |x::l=>by simp[toBR,toBL,toB,d_LyEi,b_LyEi,toBR_LyEi l,toBR_y]
theorem fullR_LyEi:∀(l:List K_LyEi),fullR (l.map d_LyEi)=true
  |[]=>rfl
  |x::l=>by simp[fullR,fullL,full,d_LyEi,fullR_LyEi l,fullR_y]
theorem pureR_LyEi:∀(l:List K_LyEi),pureR (l.map d_LyEi)=true
  |[]=>rfl
  |x::l=>by simp[pureR,pureL,V.pure,d_LyEi,pureR_LyEi l,pureR_y]
theorem lenB_LyEi (l:List K_LyEi):∀r∈l.map b_LyEi,r.length=2:=by intro r h; obtain⟨x,_,rfl⟩:=List.mem_map.1 h; rfl
theorem lenD_LyEi (l:List K_LyEi):∀r∈l.map d_LyEi,r.length=2:=by intro r h; obtain⟨x,_,rfl⟩:=List.mem_map.1 h; rfl
def ok_LyEi (x:K_LyEi):Prop:=(length x.f0*1≤140737488351232)
def b_Q (x:(List K_R)):List B:=[(.sl (map b_R x))]
def d_Q (x:(List K_R)):List D:=[(.own 5 (map d_R x))]
theorem toBR_Q:∀(l:List (List K_R)),toBR (l.map d_Q)=l.map b_Q
  |[]=>rfl
  |x::l=>by simp[toBR,toBL,toB,d_Q,b_Q,toBR_Q l,toBR_R]
theorem fullR_Q:∀(l:List (List K_R)),fullR (l.map d_Q)=true
  |[]=>rfl
  |x::l=>by simp[fullR,fullL,full,d_Q,fullR_Q l,fullR_R]
theorem pureR_Q:∀(l:List (List K_R)),pureR (l.map d_Q)=true
  |[]=>rfl
  |x::l=>by simp[pureR,pureL,V.pure,d_Q,pureR_Q l,pureR_R]
theorem lenB_Q (l:List (List K_R)):∀r∈l.map b_Q,r.length=1:=by intro r h; obtain⟨x,_,rfl⟩:=List.mem_map.1 h; rfl
theorem lenD_Q (l:List (List K_R)):∀r∈l.map d_Q,r.length=1:=by intro r h; obtain⟨x,_,rfl⟩:=List.mem_map.1 h; rfl
def ok_Q (x:(List K_R)):Prop:=(length x*56≤140737488351232)∧(∀z∈x,ok_R z)
def b_LiE (x:(List Int)):List B:=[(.sl (map b_i x))]
def d_LiE (x:(List Int)):List D:=[(.own 1 (map d_i x))]
theorem toBR_LiE:∀(l:List (List Int)),toBR (l.map d_LiE)=l.map b_LiE
  |[]=>rfl
  |x::l=>by simp[toBR,toBL,toB,d_LiE,b_LiE,toBR_LiE l,toBR_i]
theorem fullR_LiE:∀(l:List (List Int)),fullR (l.map d_LiE)=true
  |[]=>rfl
  |x::l=>by simp[fullR,fullL,full,d_LiE,fullR_LiE l,fullR_i]
theorem pureR_LiE:∀(l:List (List Int)),pureR (l.map d_LiE)=true
  |[]=>rfl
  |x::l=>by simp[pureR,pureL,V.pure,d_LiE,pureR_LiE l,pureR_i]
theorem lenB_LiE (l:List (List Int)):∀r∈l.map b_LiE,r.length=1:=by intro r h; obtain⟨x,_,rfl⟩:=List.mem_map.1 h; rfl
theorem lenD_LiE (l:List (List Int)):∀r∈l.map d_LiE,r.length=1:=by intro r h; obtain⟨x,_,rfl⟩:=List.mem_map.1 h; rfl
def ok_LiE (x:(List Int)):Prop:=(length x*8≤140737488351232)
def b_LsiE (x:(List K_si)):List B:=[(.sl (map b_si x))]
def d_LsiE (x:(List K_si)):List D:=[(.own 2 (map d_si x))]
theorem toBR_LsiE:∀(l:List (List K_si)),toBR (l.map d_LsiE)=l.map b_LsiE
  |[]=>rfl
  |x::l=>by simp[toBR,toBL,toB,d_LsiE,b_LsiE,toBR_LsiE l,toBR_si]
theorem fullR_LsiE:∀(l:List (List K_si)),fullR (l.map d_LsiE)=true
  |[]=>rfl
  |x::l=>by simp[fullR,fullL,full,d_LsiE,fullR_LsiE l,fullR_si]
theorem pureR_LsiE:∀(l:List (List K_si)),pureR (l.map d_LsiE)=true
  |[]=>rfl
  |x::l=>by simp[pureR,pureL,V.pure,d_LsiE,pureR_LsiE l,pureR_si]
theorem lenB_LsiE (l:List (List K_si)):∀r∈l.map b_LsiE,r.length=1:=by intro r h; obtain⟨x,_,rfl⟩:=List.mem_map.1 h; rfl
theorem lenD_LsiE (l:List (List K_si)):∀r∈l.map d_LsiE,r.length=1:=by intro r h; obtain⟨x,_,rfl⟩:=List.mem_map.1 h; rfl
def ok_LsiE (x:(List K_si)):Prop:=(length x*24≤140737488351232)
def b_s (x:ByteArray):List B:=[(.val (.string x))]
def d_s (x:ByteArray):List D:=[(.val (.string x))]
theorem toBR_s:∀(l:List ByteArray),toBR (l.map d_s)=l.map b_s
  |[]=>rfl
  |x::l=>by simp[toBR,toBL,toB,d_s,b_s,toBR_s l]
theorem fullR_s:∀(l:List ByteArray),fullR (l.map d_s)=true
  |[]=>rfl
  |x::l=>by simp[fullR,fullL,full,d_s,fullR_s l]
theorem pureR_s:∀(l:List ByteArray),pureR (l.map d_s)=true
  |[]=>rfl
  |x::l=>by simp[pureR,pureL,V.pure,d_s,pureR_s l]
theorem lenB_s (l:List ByteArray):∀r∈l.map b_s,r.length=1:=by intro r h; obtain⟨x,_,rfl⟩:=List.mem_map.1 h; rfl
theorem lenD_s (l:List ByteArray):∀r∈l.map d_s,r.length=1:=by intro r h; obtain⟨x,_,rfl⟩:=List.mem_map.1 h; rfl
theorem fromBR_s (n:Nat) (l:List ByteArray):fromBR n (l.map b_s)=l.map d_s:=by simp[fromBR,b_s,d_s,fromB,Function.comp_def]
theorem copy_s (l:List ByteArray):(l.map d_s).all (fun x=>x.all copyable)=true:=by simp[d_s,copyable,Function.comp_def]
attribute [local simp] strInts_len byteRows_len toBR_y fullR_y pureR_y lenB_y lenD_y fromBR_y copy_y toBR_LyE fullR_LyE pureR_LyE lenB_LyE lenD_LyE toBR_b fullR_b pureR_b lenB_b lenD_b fromBR_b copy_b toBR_si fullR_si pureR_si lenB_si lenD_si fromBR_si copy_si toBR_R fullR_R pureR_R lenB_R lenD_R toBR_B fullR_B pureR_B lenB_B lenD_B toBR_i fullR_i pureR_i lenB_i lenD_i fromBR_i copy_i toBR_C fullR_C pureR_C lenB_C lenD_C toBR_LyEi fullR_LyEi pureR_LyEi lenB_LyEi lenD_LyEi toBR_Q fullR_Q pureR_Q lenB_Q lenD_Q toBR_LiE fullR_LiE pureR_LiE lenB_LiE lenD_LiE toBR_LsiE fullR_LsiE pureR_LsiE lenB_LsiE lenD_LsiE toBR_s fullR_s pureR_s lenB_s lenD_s fromBR_s copy_s
def S (a:K_LyEi) (n:Nat):Prop:=(∀z∈a.f0,(0:Int)≤z∧z≤255)∧length a.f0≤140737488351232∧0≤a.f1∧a.f1+n≤1000000
theorem S_le {a:K_LyEi} {n m:Nat} (h:S a n) (hm:m≤n):S a m:=⟨h.1,h.2.1,h.2.2.1,by have:=h.2.2.2; omega⟩
theorem at_eq (a:K_LyEi) (h:S a 1):wrap .i64 (wrap .i64 (a.f1+1) - 1)=a.f1∧wrap .i64 (a.f1+1)=a.f1+1:=by
  obtain⟨_,_,h1,h2⟩:=h
  have e:wrap .i64 (a.f1+1)=a.f1+1:=wrap64 (by omega)
  refine⟨?_,e⟩
  rw[e,wrap64 (by omega)]; omega
theorem idx_lt (x:Int) (l:List Int) (h0:0≤x) (h:((length (map b_y l)):Int)≠0):toNat (Int.tmod x ((length (map b_y l)):Int)) < length l:=by
  rw[length_map] at h⊢
  have h1:=Int.tmod_lt_of_pos x (show (0:Int) <(l.length:Int) by omega)
  have h2:=Int.tmod_nonneg (l.length:Int) h0
  omega
theorem getD_b (l:List Int) (h:∀z∈l,(0:Int)≤z∧z≤255) (i:Nat):0≤getD l i 0∧getD l i 0≤255:=by
  rw[List.getD_eq_getElem?_getD]
  cases e:l[i]? with
  |none=>simp
  |some z=>exact h z (List.mem_of_getElem? e)
theorem oset {l:List K_R} {i:Nat} {x:K_R} (h:∀z∈l,z.f3.length≤12) (hx:x.f3.length≤12):∀z∈l.set i x,ok_R z:=by
  intro z hz
  rcases List.mem_or_eq_of_mem_set hz with hz | rfl
  · have:=h z hz; unfold ok_R; omega
  unfold ok_R; omega
theorem oall {l:List K_R} (h:∀z∈l,z.f3.length≤12):∀z∈l,ok_R z:=by
  intro z hz; have:=h z hz; unfold ok_R; omega
theorem oapp {l:List K_R} {x:K_R} (h:∀z∈l,z.f3.length≤12) (hx:x.f3.length≤12):∀z∈l++ [x],ok_R z:=by
  intro z hz
  rcases List.mem_append.1 hz with hz | hz
  · have:=h z hz; unfold ok_R; omega
  cases List.mem_singleton.1 hz; unfold ok_R; omega
theorem oget {l:List K_R} (h:∀z∈l,z.f3.length≤12) (i:Nat):(getD l i (K_R.mk 0 0 0 [] 0)).f3.length≤12:=by
  rw[List.getD_eq_getElem?_getD]
  cases h2:l[i]? with
  |none=>simp
  |some x=>exact h x (List.mem_of_getElem? h2)
def GW (l:List K_si):Prop:=l.length≤12∧(∀z∈l,1≤z.f1∧z.f1≤9999)∧∀z∈l,ByteArray.size z.f0≤3
def GP (n:Nat) (l:List K_si):Prop:=l.length≤n∧∀z∈l,ByteArray.size z.f0≤3
def GR (n:Nat) (l:List K_R):Prop:=l.length≤n∧∀z∈l,GP 12 z.f3
def GL (a:K_B):Prop:=(1≤a.f0∧a.f0≤12)∧(0≤a.f1∧a.f1≤1000)∧GW a.f2∧GR 6 a.f3∧GP 8 a.f4
def GB (a:K_B):Prop:=GP 13 a.f2∧GR 7 a.f3∧GP 9 a.f4
theorem gp_le {n m:Nat} {l:List K_si} (h:GP n l) (hm:n≤m):GP m l:=⟨Nat.le_trans h.1 hm,h.2⟩
theorem gr_le {n m:Nat} {l:List K_R} (h:GR n l) (hm:n≤m):GR m l:=⟨Nat.le_trans h.1 hm,h.2⟩
theorem gp_app {n:Nat} {l:List K_si} {x:K_si} (h:GP n l) (hx:ByteArray.size x.f0≤3):GP (n+1) (l++ [x]):=by
  refine⟨by have:=h.1; simp; omega,fun z hz=>?_⟩
  rcases List.mem_append.1 hz with hz | hz
  · exact h.2 z hz
  rw[List.mem_singleton.1 hz]; exact hx
theorem gr_app {n:Nat} {l:List K_R} {x:K_R} (h:GR n l) (hx:GP 12 x.f3):GR (n+1) (l++ [x]):=by
  refine⟨by have:=h.1; simp; omega,fun z hz=>?_⟩
  rcases List.mem_append.1 hz with hz | hz
  · exact h.2 z hz
  rw[List.mem_singleton.1 hz]; exact hx
theorem gr_set {n:Nat} {l:List K_R} {i:Nat} {x:K_R} (h:GR n l) (hx:GP 12 x.f3):GR n (l.set i x):=by
  refine⟨by rw[length_set]; exact h.1,fun z hz=>?_⟩
  rcases List.mem_or_eq_of_mem_set hz with hz | rfl
  · exact h.2 z hz
  exact hx
theorem gr_get {n:Nat} {l:List K_R} (h:GR n l) (i:Nat):GP 12 (getD l i (K_R.mk 0 0 0 [] 0)).f3:=by
  rw[List.getD_eq_getElem?_getD]
  cases e:l[i]? with
  |none=>exact⟨by simp,fun z hz=>by cases hz⟩
  |some x=>exact h.2 x (List.mem_of_getElem? e)
theorem sz_get {l:List K_si} (h:∀z∈l,ByteArray.size z.f0≤3) (i:Nat):ByteArray.size (getD l i (K_si.mk (⟨#[]⟩:ByteArray) 0)).f0≤3:=by
  rw[List.getD_eq_getElem?_getD]
  cases e:l[i]? with
  |none=>simp[ByteArray.size]
  |some x=>exact h x (List.mem_of_getElem? e)
theorem sz_set {l:List K_si} (h:∀z∈l,ByteArray.size z.f0≤3) (i:Nat) {x:K_si} (hx:ByteArray.size x.f0≤3):∀z∈l.set i x,ByteArray.size z.f0≤3:=by
  intro z hz
  rcases List.mem_or_eq_of_mem_set hz with hz | rfl
  · exact h z hz
  exact hx
theorem sz_app {l:List K_si} (h:∀z∈l,ByteArray.size z.f0≤3) {x:K_si} (hx:ByteArray.size x.f0≤3):∀z∈l++ [x],ByteArray.size z.f0≤3:=by
  intro z hz
  rcases List.mem_append.1 hz with hz | hz
  · exact h z hz
  rw[List.mem_singleton.1 hz]; exact hx
theorem glh {a:K_B} (h:GL a):a.f2.length≤12∧a.f3.length≤6∧a.f4.length≤8∧1≤a.f0∧a.f0≤12∧0≤a.f1∧a.f1≤1000:=⟨h.2.2.1.1,h.2.2.2.1.1,h.2.2.2.2.1,h.1.1,h.1.2,h.2.1.1,h.2.1.2⟩
theorem glw {a:K_B} (h:GL a):∀z∈a.f2,1≤z.f1∧z.f1≤9999:=h.2.2.1.2.1
theorem glp {a:K_B} (h:GL a):∀z∈a.f3,length z.f3≤100:=fun z hz=>Nat.le_trans (h.2.2.2.1.2 z hz).1 (by decide)
theorem glo {a:K_B} (h:GL a):∀z∈a.f3,ok_R z:=fun z hz=>by have:=(h.2.2.2.1.2 z hz).1; unfold ok_R; omega
theorem gs_os {l:List K_si} (h:∀z∈l,ByteArray.size z.f0≤3):∀z∈l,os_si z:=fun z hz=>Nat.le_trans (h z hz) (by decide)
theorem gb_os {a:K_B} (h:GB a):os_B a:=by
  have h1:=h.1.1
  have h2:=h.2.1.1
  have h3:=h.2.2.1
  refine⟨by omega,gs_os h.1.2,by omega,fun z hz=>?_,by omega,gs_os h.2.2.2⟩
  have q:=h.2.1.2 z hz
  have q1:=q.1
  exact⟨by omega,gs_os q.2⟩
abbrev zz (a b:K_LyEi):K_LyEi:=K_LyEi.mk a.f0 b.f1
theorem LN:(∀{α β:Type} (f:α→β) (l:List α),length (map f l)=length l)∧(∀{α:Type} (l:List α) (i:Nat) (a:α),length (set l i a)=length l)∧(∀{α:Type} (a b:List α),length (a++b)=length a+length b)∧(∀{α:Type} (n:Nat) (a:α),length (List.replicate n a)=n)∧(∀{α:Type} (a:α) (l:List α),length (a::l)=length l+1)∧(∀{α:Type},length ([]:List α)=0):=⟨fun _ _=>List.length_map _,fun _ _ _=>List.length_set,fun _ _=>List.length_append,fun _ _=>List.length_replicate,fun _ _=>rfl,rfl⟩
theorem p3 {hs q} (x:List K_si) (y:List K_R) (z:List K_si) (r:PS F X hs q):PS F X hs ((0=0)::(length (map d_si x)=length (map d_si x))::(0=0)::(length (map d_R y)=length (map d_R y))::(0=0)::(length (map d_si z)=length (map d_si z))::q):=pe 0 (pe (length (map d_si x)) (pe 0 (pe (length (map d_R y)) (pe 0 (pe (length (map d_si z)) r)))))
theorem l3 {hs q} (x:List K_si) (y:List K_R) (z:List K_si) (r:PS F X hs q):PS F X hs ((0+(x.map d_si).length≤(x.map d_si).length)::(fullR (take (x.map d_si).length (drop 0 (x.map d_si)))=true)::(toBR (take (x.map d_si).length (drop 0 (x.map d_si)))=x.map b_si)::(0+(y.map d_R).length≤(y.map d_R).length)::(fullR (take (y.map d_R).length (drop 0 (y.map d_R)))=true)::(toBR (take (y.map d_R).length (drop 0 (y.map d_R)))=y.map b_R)::(0+(z.map d_si).length≤(z.map d_si).length)::(fullR (take (z.map d_si).length (drop 0 (z.map d_si)))=true)::(toBR (take (z.map d_si).length (drop 0 (z.map d_si)))=z.map b_si)::q):=ln_si x (ln_R y (ln_si z r))
theorem ya {p:Prop} (h:p:=by kernel_rfl):p:=h
theorem yb {p:Prop} (h:p:=by have q:=okm1002400 (m22 (m21 a0)) (m23 (zz (m21 a0) (o22_0 (m21 a0))) 6); exact q.2.2.1):p:=h
theorem yc {p:Prop} (h:p:=by have q:=okm1002400 (m22 (m21 a0)) (m23 (zz (m21 a0) (o22_0 (m21 a0))) 6); exact q.2.2.2):p:=h
theorem yd {p:Prop} (h:p:=by omega):p:=h
theorem ye {p:Prop} (h:p:=by have q:=okm1002400 (m22 (m21 a0)) (m23 (zz (m21 a0) (o22_0 (m21 a0))) 6); exact q.2.1):p:=h
theorem yf {p:Prop} (h:p:=by have q:=okm1002400 (m22 (m21 a0)) (m23 (zz (m21 a0) (o22_0 (m21 a0))) 6); exact q.1):p:=h
theorem yg {p:Prop} (h:p:=by (repeat (first | with_reducible refine sm50 ?_ rfl | with_reducible refine sm49 ?_ rfl | with_reducible refine sm75 ?_ rfl | with_reducible refine sm30 _ ?_ rfl | with_reducible refine sm23 _ ?_ rfl | with_reducible refine sm51 ?_ rfl)); exact S_le (by assumption) (by omega)):p:=h
theorem yh {p:Prop} (h:p:=by (repeat (first | with_reducible refine sm30 _ ?_ rfl | with_reducible refine sm23 _ ?_ rfl | with_reducible refine sm51 ?_ rfl)); exact S_le (by assumption) (by omega)):p:=h
theorem yi {p:Prop} (h:p:=by exact(show os_B (m5_0 a0) from blO a0 hy0 hy1).2.2.2.2.1):p:=h
theorem yj {p:Prop} (h:p:=by (repeat (first | with_reducible refine sm22 ?_ rfl | with_reducible refine sm50 ?_ rfl | with_reducible refine sm49 ?_ rfl | with_reducible refine sm75 ?_ rfl | with_reducible refine sm30 _ ?_ rfl | with_reducible refine sm23 _ ?_ rfl | with_reducible refine sm51 ?_ rfl)); exact S_le (S_src a0 (by assumption) (by assumption)) (by omega)):p:=h
theorem yk {p:Prop} (h:p:=by exact(show os_B (m5_0 a0) from blO a0 hy0 hy1).2.2.1):p:=h
theorem yl {p:Prop} (h:p:=by exact(show os_B (m5_0 a0) from blO a0 hy0 hy1).1):p:=h
theorem ym {p:Prop} (h:p:=by have q:=glh (dG49 (m:=0) (S_le hy0 (by omega))).2; simp only[length_map,length_append,length_cons,length_nil,length_take,length_drop]; omega):p:=h
theorem yn {p:Prop} (h:p:=by exact(show os_B (m5_0 a0) from blO a0 hy0 hy1).2.2.2.2.2):p:=h
theorem yo {p:Prop} (h:p:=by exact(show os_B (m5_0 a0) from blO a0 hy0 hy1).2.2.2.1):p:=h
theorem yp {p:Prop} (h:p:=by exact(show os_B (m5_0 a0) from blO a0 hy0 hy1).2.1):p:=h
theorem yq {p:Prop} (h:p:=by rw[append_assoc]; exact hp0):p:=h
theorem yr {p:Prop} (h:p:=by have q:=gos_R (l:=a0) (by first | assumption |(intro z hz; exact(by assumption:∀z∈_,os_R z) z (List.mem_of_mem_take hz))) (toNat a1) (K_R.mk 0 0 0 [] 0) (by simp[os_R,ByteArray.size]); first | exact q | exact q.1 | exact q.2 | exact q.2.1 | exact q.2.2 | exact Nat.le_trans q (by decide) | exact Nat.le_trans q.1 (by decide) |(have q1:=q.1; simp only[length_map]; omega)):p:=h
theorem ys {p:Prop} (h:p:=by have q:=ix1005300 a0.f3 a101001; simp only[decide_eq_true_eq,length_map] at*; omega):p:=h
theorem yt {p:Prop} (h:p:=by (repeat (first | with_reducible refine sm74 ?_ rfl | with_reducible refine sm30 _ ?_ rfl | with_reducible refine sm23 _ ?_ rfl | with_reducible refine sm51 ?_ rfl)); exact S_le (by assumption) (by omega)):p:=h
theorem yu {p:Prop} (h:p:=by rfl):p:=h
theorem yv {p:Prop} (h:p:=by unfold m12 m11_0 m11_1;(repeat' split)<;>simp_all<;>omega):p:=h
theorem yw {p:Prop} (h:p:=by exact(os_ok_B _ (show os_B (m5_0 a0) from blO a0 hy0 hy1)).2.2.1):p:=h
theorem yx {p:Prop} (h:p:=by (repeat (first | with_reducible refine sm75 ?_ rfl | with_reducible refine sm30 _ ?_ rfl | with_reducible refine sm23 _ ?_ rfl | with_reducible refine sm51 ?_ rfl)); exact S_le (by assumption) (by omega)):p:=h
theorem yy {p:Prop} (h:p:=by simp only[LN]; omega):p:=h
theorem yz {p:Prop} (h:p:=by have q:=mlen_83 a1; simp only[length_map,length_nil,Nat.zero_add] at*; omega):p:=h
theorem yA {p:Prop} (h:p:=by trivial):p:=h
theorem yB {p:Prop} (h:p:=by simp only[length_map,length_append,length_cons,length_nil,length_take,length_drop]; omega):p:=h
theorem yC {p:Prop} (h:p:=by have q:=glh ‹_›; omega):p:=h
theorem yD {p:Prop} (h:p:=by have q:=okm18 (m22 (m21 a0)) (m23 (zz (m21 a0) (o22_0 (m21 a0))) 6); exact q.2.2.1):p:=h
theorem yE {p:Prop} (h:p:=by have q:=okm18 (m22 (m21 a0)) (m23 (zz (m21 a0) (o22_0 (m21 a0))) 6); exact q.2.2.2):p:=h
theorem yF {p:Prop} (h:p:=by have q:=okm18 (m22 (m21 a0)) (m23 (zz (m21 a0) (o22_0 (m21 a0))) 6); exact q.2.1):p:=h
theorem yG {p:Prop} (h:p:=by have q:=okm18 (m22 (m21 a0)) (m23 (zz (m21 a0) (o22_0 (m21 a0))) 6); exact q.1):p:=h
theorem yH {p:Prop} (h:p:=by simp[take_of_length_le,d_si]; done):p:=h
theorem yI {p:Prop} (h:p:=by simp[take_of_length_le,d_si,d_R]; done):p:=h
theorem yJ {p:Prop} (h:p:=by have q1:=mlen_83 a1; have q2:=(mne_83 a1 (by assumption) (by omega)).1 (by omega); simp only[length_map,length_nil,length_set,Nat.zero_add] at*; omega):p:=h
theorem yK {p:Prop} (h:p:=by have q1:=mlen_58 a1; have q2:=(mne_58 a1 (by assumption) (by omega)).1 (by omega); simp only[length_map,length_nil,length_set,Nat.zero_add] at*; omega):p:=h
theorem yL {p:Prop} (h:p:=by simp only[cp68,length_map]; have q:=ix67 a0.f3 a1; simp only[decide_eq_true_eq] at*; omega):p:=h
theorem yM {p:Prop} (h:p:=by have q:=len75 (a:=a0) (S_le hy0 (by omega)); simp only[length_map,length_append,length_cons,length_nil,length_take,length_drop]; omega):p:=h
theorem yN {p:Prop} (h:p:=by rw[cp52]; have q:=fs14 (a0:=a0) ‹_›; omega):p:=h
theorem yO {p:Prop} (h:p:=by have q:=mlen_58 a1; simp only[length_map,length_nil,Nat.zero_add] at*; omega):p:=h
theorem yP {p:Prop} (h:p:=by simp; done):p:=h
theorem yQ {p:Prop} (h:p:=by have q:=ix80 v0 x0.f0; simp only[decide_eq_true_eq,length_map] at*; omega):p:=h
theorem yR {p:Prop} (h:p:=by simp only[decide_eq_true_eq] at*; omega):p:=h
theorem yS {p:Prop} (h:p:=by have q:=fs36 (a0:=a0) ‹_›; omega):p:=h
theorem yT {p:Prop} (h:p:=by have q:=okm1002402 (m9_0 a0) (m9_1 a0) (m9_2 a0); exact q.2.2.1):p:=h
theorem yU {p:Prop} (h:p:=by have q:=okm1002402 (m9_0 a0) (m9_1 a0) (m9_2 a0); exact q.2.2.2):p:=h
theorem yV {p:Prop} (h:p:=by have q:=okm1002402 (m9_0 a0) (m9_1 a0) (m9_2 a0); exact q.2.1):p:=h
theorem yW {p:Prop} (h:p:=by have q:=okm1002402 (m9_0 a0) (m9_1 a0) (m9_2 a0); exact q.1):p:=h
theorem yX {p:Prop} (h:p:=by intro z hz; exact os_ok_R z ((by assumption:∀z∈a0.f3,os_R z) z hz)):p:=h
theorem yY {p:Prop} (h:p:=by have q:=fs14 (a0:=a0) ‹_›; omega):p:=h
theorem yZ {p:Prop} (h:p:=by rw[wrap64 (by simp only[decide_eq_true_eq] at*; omega)]; omega):p:=h
theorem yaa {p:Prop} (h:p:=by have q:=ix1007600 v0 x0.f0; simp only[decide_eq_true_eq,length_map] at*; omega):p:=h
theorem yab {p:Prop} (h:p:=by simp only[decide_eq_true_eq,length_map] at*; omega):p:=h
theorem yac {p:Prop} (h:p:=by have j:=jn57 (a:=a102001) (b:=0) (c:=1000000) ‹_›; have p:=(by with_reducible assumption:0≤a0.f1∧a0.f1≤1000); have q:=fee_ok j.1 j.2 p.1 p.2; omega):p:=h
theorem yad {p:Prop} (h:p:=by have j:=jn72 (a:=a2) (b:=0) (c:=1000000) ‹_›; have p:=(by with_reducible assumption:0≤a0.f1∧a0.f1≤1000); have q:=fee_ok j.1 j.2 p.1 p.2; omega):p:=h
theorem yae {p:Prop} (h:p:=by have q:=ix67 a0.f3 a1; simp only[decide_eq_true_eq,length_map] at*; omega):p:=h
theorem yaf {p:Prop} (h:p:=by have q:=ix80 a0.f4 a1; simp only[decide_eq_true_eq,length_map] at*; omega):p:=h
theorem yag {p:Prop} (h:p:=by rw[wrap64 (by simp only[decide_eq_true_eq] at*; omega)]; simp only[decide_eq_true_eq] at*; omega):p:=h
theorem yah {p:Prop} (h:p:=by rw[cp52]; have q:=fs14 (a0:=a0) ‹_›; intro z hz; have q2:=q.2.2.1 z hz; omega):p:=h
theorem yai {p:Prop} (h:p:=by have q2:=og100 ‹_› a1; simp only[length_map] at*; omega):p:=h
theorem yaj {p:Prop} (h:p:=by have q:=al73 ‹_›; simp only[decide_eq_true_eq,length_map,length_append,length_nil,length_cons] at*; omega):p:=h
theorem yak {p:Prop} (h:p:=by have q:=fs14 (a0:=a0) ‹_›; intro z hz; have q2:=q.2.2.1 z hz; omega):p:=h
theorem yal {p:Prop} (h:p:=by have q:=fs36 (a0:=a0) ‹_›; intro z hz; have q2:=q.2.2.1 z hz; omega):p:=h
theorem yam {p:Prop} (h:p:=by unfold m64 m83;(repeat' split)<;>simp_all<;>omega):p:=h
theorem yan {p:Prop} (h:p:=by simp only[cp68,length_map,length_append,length_cons,length_nil,length_take,length_drop]; omega):p:=h
theorem yao {p:Prop} (h:p:=by simp only[cp68,length_map]; have q:=ix80 a0.f4 a1; simp only[decide_eq_true_eq] at*; omega):p:=h
theorem yap {p:Prop} (h:p:=by have q:=okm1002401 (m22 (m21 a0)) (m23 (zz (m21 a0) (o22_0 (m21 a0))) 6); exact q.2.2.1):p:=h
theorem yaq {p:Prop} (h:p:=by have q:=okm1002401 (m22 (m21 a0)) (m23 (zz (m21 a0) (o22_0 (m21 a0))) 6); exact q.2.2.2):p:=h
theorem yar {p:Prop} (h:p:=by have q:=rng a0 8 (S_le (by assumption) (by omega)) (by omega) (by omega); simp; omega):p:=h
theorem yas {p:Prop} (h:p:=by have q:=okm1002401 (m22 (m21 a0)) (m23 (zz (m21 a0) (o22_0 (m21 a0))) 6); exact q.2.1):p:=h
theorem yat {p:Prop} (h:p:=by have q:=okm1002401 (m22 (m21 a0)) (m23 (zz (m21 a0) (o22_0 (m21 a0))) 6); exact q.1):p:=h
theorem yau {p:Prop} (h:p:=by have q:=rng a0 8 (S_le (by assumption) (by omega)) (by omega) (by omega); omega):p:=h
theorem yav {p:Prop} (h:p:=by exact sz_app hv (hl x (List.mem_cons_self ..))):p:=h
theorem yaw {p:Prop} (h:p:=by simp[take_of_length_le,d_i]; done):p:=h
theorem yax {p:Prop} (h:p:=by simp):p:=h
theorem yay {p:Prop} (h:p:=by exact glp ‹_›):p:=h
theorem yaz {p:Prop} (h:p:=by exact glo ‹_›):p:=h
theorem yaA {p:Prop} (h:p:=by unfold h65_0; simp only[hw]; done):p:=h
theorem yaB {p:Prop} (h:p:=by unfold h33_0; simp only[hw]; done):p:=h
theorem yaC {p:Prop} (h:p:=by exact sz_set hv _ (sz_get hv _)):p:=h
theorem yaD {p:Prop} (h:p:=by simp only[LN]; done):p:=h
theorem hT {hs q} (n:Nat) (r:PS F X hs q):PS F X ((n,.b true)::hs) q:=.h n (.b true) r
theorem U {hs q} (n:Nat) (r:PS F X hs q):PS F X ((n,.b false)::hs) q:=.h n (.b false) r
theorem N {hs q} {b:Bool} (h:¬b=true) (r:PS F X hs q):PS F X hs ((b=false)::q):=.f (nt h) r
def m4 (a0:(List Int)):Bool:=
  (decide (((length (map b_y a0)):Int) > 1048576))
theorem e4 {l0_0:Nat} {a0:(List Int)}:Ev F X (.call 4 [(.one (.bor l0_0 (map b_y a0)))] [] [] [(.one (.val (.bool (m4 a0))))]):=by
  exact cp ya .nil
def m21 (a0:(List Int)):K_LyEi:=
  (K_LyEi.mk a0 0)
theorem e21 {l0_0:Nat} {a0:(List Int)}:Ev F X (.call 21 [(.one (.bor (l0_0+1) (map b_y a0)))] [] [] [(.ptr [(.bor l0_0 (map b_y ((m21 a0).f0))),(.val (.int .i64 ((m21 a0).f1)))])]):=by
  exact cp ya .nil
theorem S_src (c:List Int) (h1:∀z∈c,(0:Int)≤z∧z≤255) (h2:length c≤140737488351232):S (m21 c) 1000:=by
  unfold m21
  exact⟨h1,h2,by simp,by simp⟩
def o23_0 (a0:K_LyEi) (a1:Int):K_LyEi:=
  (K_LyEi.mk a0.f0 (wrap .i64 (a0.f1+1)))
def m23 (a0:K_LyEi) (a1:Int):Int:=
  if(decide (a1 < 1))=true then 0 else
  if(((length (map b_y a0.f0)):Int)==0)=true then(Int.tmod (wrap .i64 ((wrap .i64 ((wrap .i64 (a0.f1+1)) - 1))*7)) a1) else
    if(decide (a1 > 200))=true then(Int.tmod (wrap .i64 ((wrap .i64 ((wrap .i64 ((wrap .i64 ((wrap .i64 ((getD a0.f0 (toNat (Int.tmod (wrap .i64 ((wrap .i64 (a0.f1+1)) - 1)) ((length (map b_y a0.f0)):Int))) 0)))+(wrap .i64 ((wrap .i64 (Int.tdiv (wrap .i64 ((wrap .i64 (a0.f1+1)) - 1)) ((length (map b_y a0.f0)):Int)))*37))))*251))+(wrap .i64 ((wrap .i64 ((getD a0.f0 (toNat (Int.tmod (wrap .i64 ((wrap .i64 ((wrap .i64 (a0.f1+1)) - 1))+1)) ((length (map b_y a0.f0)):Int))) 0)))*13))))+(wrap .i64 ((wrap .i64 (a0.f1+1)) - 1)))) a1) else
      (Int.tmod (wrap .i64 ((wrap .i64 ((getD a0.f0 (toNat (Int.tmod (wrap .i64 ((wrap .i64 (a0.f1+1)) - 1)) ((length (map b_y a0.f0)):Int))) 0)))+(wrap .i64 ((wrap .i64 (Int.tdiv (wrap .i64 ((wrap .i64 (a0.f1+1)) - 1)) ((length (map b_y a0.f0)):Int)))*37)))) a1)
theorem e23 {l0_0:Nat} {a0:K_LyEi} {a1:Int} (hy0:S a0 1):Ev F X (.call 23 [(.ptr ⟨(0,0,0),[],0,0,2⟩),(.one (.val (.int .i64 a1)))] [((0,0,0),⟨2,[[(.bor (l0_0+1) (map b_y a0.f0)),(.val (.int .i64 a0.f1))]],[]⟩)] [[[(.bor l0_0 (map b_y a0.f0)),(.val (.int .i64 ((o23_0 a0 a1).f1)))]]] [(.one (.val (.int .i64 (m23 a0 a1))))]):=by
  unfold m23 o23_0
  by_cases h0:(decide (a1 < 1))=true
  · try simp only[if_pos h0]
    exact cq [false] ya (.f trivial (.f h0 (hT 24 .nil)))
  try simp only[if_neg h0]
  have P1 {hs q} (r:PS F X hs q):=(PS.f trivial (N h0 (U 24 r)))
  by_cases h1:(((length (map b_y a0.f0)):Int)==0)=true
  · try simp only[if_pos h1]
    have f3:a1≠0:=yR
    exact cq [false] ya (P1 (.f h1 (.f f3 (hT 53 .nil))))
  try simp only[if_neg h1]
  have f3:((length (map b_y a0.f0)):Int)≠0:=(by intro q; simp_all; done)
  have f4:0≤(Int.tmod (wrap .i64 ((wrap .i64 (a0.f1+1)) - 1)) ((length (map b_y a0.f0)):Int)):=(by rw[(at_eq a0 hy0).1]; exact Int.tmod_nonneg _ hy0.2.2.1)
  have P2 {hs q} (r:PS F X hs q):=(P1 (N h1 (.f f3 (.f f4 (.f (mp_ b_y (getD_at a0.f0 (toNat (Int.tmod (wrap .i64 ((wrap .i64 (a0.f1+1)) - 1)) ((length (map b_y a0.f0)):Int))) 0 (by rw[(at_eq a0 hy0).1]; exact idx_lt _ _ hy0.2.2.1 (by assumption)))) (.f f3 (.f trivial (U 53 (.h 69 (.row [(.val (.int .u8 (getD a0.f0 (toNat (Int.tmod (wrap .i64 ((wrap .i64 (a0.f1+1)) - 1)) ((length (map b_y a0.f0)):Int))) 0)))]) r)))))))))
  by_cases h2:(decide (a1 > 200))=true
  · try simp only[if_pos h2]
    have f11:0≤(Int.tmod (wrap .i64 ((wrap .i64 ((wrap .i64 (a0.f1+1)) - 1))+1)) ((length (map b_y a0.f0)):Int)):=(by rw[(at_eq a0 hy0).1,(at_eq a0 hy0).2]; exact Int.tmod_nonneg _ (by have:=hy0.2.2.1; omega))
    have f15:a1≠0:=yR
    exact cq [false] ya (P2 (.f h2 (.f trivial (.f f3 (.f f11 (.f (mp_ b_y (getD_at a0.f0 (toNat (Int.tmod (wrap .i64 ((wrap .i64 ((wrap .i64 (a0.f1+1)) - 1))+1)) ((length (map b_y a0.f0)):Int))) 0 (by rw[(at_eq a0 hy0).1,(at_eq a0 hy0).2]; exact idx_lt _ _ (by have:=hy0.2.2.1; omega) (by assumption)))) (.f trivial (.f trivial (.f f15 (hT 90 (.h 112 (.row [(.val (.int .u8 (getD a0.f0 (toNat (Int.tmod (wrap .i64 ((wrap .i64 ((wrap .i64 (a0.f1+1)) - 1))+1)) ((length (map b_y a0.f0)):Int))) 0)))]) .nil)))))))))))
  try simp only[if_neg h2]
  have f9:a1≠0:=yR
  exact cq [false] ya (P2 (N h2 (.f f9 (U 90 .nil))))
theorem rng (a:K_LyEi) (k:Int) (h:S a 1) (hk:1≤k) (hk2:k≤1000000000):0≤m23 a k∧m23 a k < k:=by
  have hm:∀x:Int,0≤x→0≤Int.tmod x k∧Int.tmod x k < k:=fun x hx=>⟨Int.tmod_nonneg _ hx,Int.tmod_lt_of_pos _ yd⟩
  obtain⟨e1,e2⟩:=at_eq a h
  obtain⟨hb,hl,h1,h2⟩:=h
  unfold m23
  rw[if_neg (by simp only[decide_eq_true_eq]; omega)]
  rw[e1]
  split
  · apply hm
    rw[wrap64 yd]; omega
  rename_i hn
  have hn':0 <((length (map b_y a.f0)):Int):=by simp at hn⊢; exact List.length_pos_iff.2 hn
  have hq1:0≤Int.tdiv a.f1 ((length (map b_y a.f0)):Int):=Int.tdiv_nonneg h1 yd
  have hq2:Int.tdiv a.f1 ((length (map b_y a.f0)):Int)≤a.f1:=by rw[Int.tdiv_eq_ediv_of_nonneg h1]; exact Int.ediv_le_self _ h1
  have hx:=getD_b a.f0 hb (toNat (Int.tmod a.f1 ((length (map b_y a.f0)):Int)))
  have hy:=getD_b a.f0 hb (toNat (Int.tmod (wrap .i64 (a.f1+1)) ((length (map b_y a.f0)):Int)))
  revert hq1 hq2 hx hy
  generalize Int.tdiv a.f1 _=q
  generalize getD a.f0 (toNat (Int.tmod a.f1 _)) 0=x
  generalize getD a.f0 _ 0=y
  intro hq1 hq2 hx hy
  have g1:wrap .i64 q=q:=wrap64 yd
  have g2:wrap .i64 (q*37)=q*37:=wrap64 yd
  have g3:wrap .i64 x=x:=wrap64 yd
  have g4:wrap .i64 (x+q*37)=x+q*37:=wrap64 yd
  have g5:wrap .i64 ((x+q*37)*251)=(x+q*37)*251:=wrap64 yd
  have g6:wrap .i64 y=y:=wrap64 yd
  have g7:wrap .i64 (y*13)=y*13:=wrap64 yd
  have g8:wrap .i64 ((x+q*37)*251+y*13)=(x+q*37)*251+y*13:=wrap64 yd
  have g9:wrap .i64 ((x+q*37)*251+y*13+a.f1)=(x+q*37)*251+y*13+a.f1:=wrap64 yd
  simp only[g1,g2,g3,g4,g5,g6,g7,g8,g9]
  split
  · apply hm; omega
  apply hm; omega
theorem st23 {a:K_LyEi} {n:Nat} (k:Int) (h:S a (n+1)):S (o23_0 a k) n:=by
  have e:=(at_eq a (S_le h yd)).2
  obtain⟨hb,hl,h1,h2⟩:=h
  unfold o23_0
  refine⟨hb,hl,?_,?_⟩
  · show 0≤wrap .i64 (a.f1+1)
    rw[e]; omega
  show wrap .i64 (a.f1+1)+n≤1000000
  rw[e]; omega
theorem sm23 {a:K_LyEi} {n:Nat} {f:List Int} (k:Int) (h:S a (n+1)) (e:a.f0=f):S (K_LyEi.mk f ((o23_0 a k).f1)) n:=by subst e; exact st23 k h
def o30_0 (a0:K_LyEi) (a1:(List Int)):K_LyEi:=
  (K_LyEi.mk a0.f0 ((o23_0 a0 ((length (map b_i a1)):Int)).f1))
def m30 (a0:K_LyEi) (a1:(List Int)):Int:=
  (getD a1 (toNat (m23 a0 ((length (map b_i a1)):Int))) 0)
theorem e30 {l0_0:Nat} {a0:K_LyEi} {l1_0:Nat} {a1:(List Int)} (hy0:S a0 1) (hy1:0 < length a1) (hy2:length a1≤1000):Ev F X (.call 30 [(.ptr ⟨(0,0,0),[],0,0,2⟩),(.one (.bor l1_0 (map b_i a1)))] [((0,0,0),⟨2,[[(.bor (l0_0+1) (map b_y a0.f0)),(.val (.int .i64 a0.f1))]],[]⟩)] [[[(.bor l0_0 (map b_y a0.f0)),(.val (.int .i64 ((o30_0 a0 a1).f1)))]]] [(.one (.val (.int .i64 (m30 a0 a1))))]):=by
  have f1:0≤(m23 a0 ((length (map b_i a1)):Int)):=(by exact(rng a0 _ hy0 (by simp; omega) (by simp; omega)).1)
  exact cq [false] ya (.r 11 [false] [] (e23 (l0_0:=(l0_0+1)) (a0:=a0) (a1:=((length (map b_i a1)):Int)) ‹_›) (.f f1 (.f (mp_ b_i (getD_at a1 (toNat (m23 a0 ((length (map b_i a1)):Int))) 0 (by have q:=rng a0 ((length (map b_i a1)):Int) hy0 (by simp; omega) (by simp; omega); simp only[length_map] at*; omega))) (.h 13 (.row [(.i (getD a1 (toNat (m23 a0 ((length (map b_i a1)):Int))) 0))]) .nil))))
theorem st30 {a:K_LyEi} {n:Nat} (l:List Int) (h:S a (n+1)):S (o30_0 a l) n:=by
  unfold o30_0; exact sm23 _ h rfl
theorem sm30 {a:K_LyEi} {n:Nat} {f:List Int} (l:List Int) (h:S a (n+1)) (e:a.f0=f):S (K_LyEi.mk f ((o30_0 a l).f1)) n:=by subst e; exact st30 l h
theorem e37 {a0:Int}:Ev F X (.call 37 [(.one (.val (.int .i64 a0)))] [] [] [(.agg (d_C (K_C.mk a0 0 0 0 [] [] [] 0 0 0)))]):=by
  have f0:pureR []=true:=yA
  exact cp ya (.f f0 (.f f0 (.f f0 .nil)))
def m72 (a0:Int) (a1:Int) (a2:Int):Bool:=
  if(decide (a0≥a1))=true then(decide (a0≤a2)) else
  false
theorem e72 {a0:Int} {a1:Int} {a2:Int}:Ev F X (.call 72 [(.one (.val (.int .i64 a0))),(.one (.val (.int .i64 a1))),(.one (.val (.int .i64 a2)))] [] [] [(.one (.val (.bool (m72 a0 a1 a2))))]):=by
  unfold m72
  by_cases h0:(decide (a0≥a1))=true
  · try simp only[if_pos h0]
    exact cp ya (.f h0 (.f h0 (.f h0 (.f h0 (hT 10 (hT 12 (hT 14 (hT 17 .nil))))))))
  try simp only[if_neg h0]
  exact cp ya (N h0 (N h0 (N h0 (N h0 (U 10 (U 12 (U 14 (U 17 .nil))))))))
theorem jn72 {a b c:Int} (h:¬(!(m72 a b c))=true):b≤a∧a≤c:=by
  simp only[Bool.not_eq_true',Bool.not_eq_false] at h
  unfold m72 at h; split at h<;>simp_all<;>omega
theorem fee_ok {t p:Int} (h1:0≤t) (h2:t≤1000000) (h3:0≤p) (h4:p≤1000):0≤wrap .i64 (t - wrap .i64 (Int.tdiv (wrap .i64 (t*p)) 1000))∧wrap .i64 (t - wrap .i64 (Int.tdiv (wrap .i64 (t*p)) 1000))≤1000000:=by
  have q1:=Int.mul_nonneg h1 h3
  have q2:t*p≤t*1000:=Int.mul_le_mul_of_nonneg_left h4 h1
  rw[wrap64 (x:=t*p) yd,Int.tdiv_eq_ediv_of_nonneg q1,wrap64 (x:=t*p / 1000) yd,wrap64 yd]
  omega
theorem e66 {a0:Int}:Ev F X (.call 66 [(.one (.val (.int .i64 a0)))] [] [] [(.one (.val (.bool (m72 a0 0 1000000))))]):=by
  exact cp ya (.r 5 [] [] (e72 (a0:=a0) (a1:=0) (a2:=1000000)) .nil)
inductive O67_0 where
  |k0 (w0:Int) (w1:Bool)
  |k1 (w0:Int)
def r67_0 (a0:(List K_R)) (a1:Int):List K_R→Int→O67_0
  |x0::y0,i=>
    if(x0.f0==a1)=true then(O67_0.k1 i) else
    (r67_0 a0 a1 y0 (i+1))
  |[],i=>(O67_0.k0 i (decide (i <((length (map b_R a0)):Int))))
def h67_0 (l0_0:Nat) (a0:(List K_R)) (a1:Int) (i:Int) :St:=⟨[(0,(.one (.bor l0_0 (map b_R a0)))),(1,(.one (.val (.int .i64 a1)))),(5,(.one (.val (.int .i64 i))))],[]⟩
def ex67_0:O67_0→VX.Exit
  |.k0 _ _=>(.exit 0)
  |.k1 _=>.ret
def fin67_0 (l0_0:Nat) (a0:(List K_R)) (a1:Int):O67_0→St
  |.k0 w0 w1=>⟨[(0,(.one (.bor l0_0 (map b_R a0)))),(1,(.one (.val (.int .i64 a1)))),(5,(.one (.val (.int .i64 w0)))),(9,(.one (.val (.bool w1))))],[]⟩
  |.k1 w0=>⟨[(4,(.one (.val (.int .i64 w0))))],[]⟩
theorem t67_0 {l0_0:Nat} {a0:(List K_R)} {a1:Int} (hy0:length a0*56≤140737488351232) (hy1:∀z∈a0,ok_R z):∀(y0:List K_R) (p:List K_R),p++y0=a0→Ev F X (.code l67_0 (h67_0 l0_0 a0 a1 (length p:Int)) (ex67_0 (r67_0 a0 a1 y0 (length p:Int))) (fin67_0 l0_0 a0 a1 (r67_0 a0 a1 y0 (length p:Int))))
  |[],p,hp0=>by
    have hc:¬(decide ((length p:Int) <((length (map b_R a0)):Int)))=true:=by
      rw[← hp0]; simp only[LN,decide_eq_true_eq]; omega
    have st:=ch b67_0 (h67_0 l0_0 a0 a1 (length p:Int)) ⟨[(0,(.one (.bor l0_0 (map b_R a0)))),(1,(.oi a1)),(5,(.oi (length p:Int))),(9,(.one (.val (.bool (decide ((length p:Int) <((length (map b_R a0)):Int)))))))],[]⟩ (.exit 0) 9 (by kernel_rfl) (.f (nt hc) (U 8 .nil))
    rw[show (⟨[(0,(.one (.bor l0_0 (map b_R a0)))),(1,(.oi a1)),(5,(.oi (length p:Int))),(9,(.one (.val (.bool (decide ((length p:Int) <((length (map b_R a0)):Int)))))))],[]⟩:St)=fin67_0 l0_0 a0 a1 (.k0 (length p:Int) (decide ((length p:Int) <((length (map b_R a0)):Int)))) from(by rfl)] at st
    exact .loopX st (show ((.exit 0):VX.Exit)≠.normal from by simp)
  |x0::y0,p,hp0=>by
    have hc:(decide ((length p:Int) <((length (map b_R a0)):Int)))=true:=by
      rw[← hp0]; simp only[LN,decide_eq_true_eq]; omega
    have Hx0:(a0)[toNat (length p:Int)]?=some x0:=by
      rw[← hp0,Int.toNat_natCast]; simp
    have Mx0_0:=hy1 x0 (List.mem_of_getElem? Hx0)
    have hlen:length (a0)=length p+length y0+1:=by rw[← hp0]; simp; omega
    have hw:wrap .i64 ((length p:Int)+1)=(length p:Int)+1:=wrap64 (by omega)
    simp only[r67_0]
    have f1:0≤(length p:Int):=(by omega)
    have P1 {hs q} (r:PS F X hs q):=(PS.f hc (.f f1 (.f (mp_ b_R Hx0) (hT 8 (.h 14 (.row (b_R x0)) r)))))
    by_cases h_1:(x0.f0==a1)=true
    · try simp only[if_pos h_1]
      have st:=ch b67_0 (h67_0 l0_0 a0 a1 (length p:Int)) ⟨[(4,(.oi (length p:Int)))],[]⟩ .ret 28 (by kernel_rfl) (P1 (.f h_1 (hT 23 .nil)))
      rw[show (⟨[(4,(.oi (length p:Int)))],[]⟩:St)=fin67_0 l0_0 a0 a1 (.k1 (length p:Int)) from(by rfl)] at st
      exact .loopX st (show (.ret:VX.Exit)≠.normal from by simp)
    try simp only[if_neg h_1]
    have st:=ch b67_0 (h67_0 l0_0 a0 a1 (length p:Int)) ⟨[(0,(.one (.bor l0_0 (map b_R a0)))),(1,(.oi a1)),(5,(.oi (wrap .i64 ((length p:Int)+1))))],[]⟩ .normal 30 (by kernel_rfl) (P1 (.f (nt h_1) (.f trivial (U 23 .nil))))
    have ih:=t67_0 (l0_0:=l0_0) (a0:=a0) (a1:=a1) hy0 hy1 y0 (p++ [x0]) (by rw[append_assoc]; exact hp0)
    rw[show ((p++ [x0]).length:Int)=(p.length:Int)+1 from by simp] at ih
    rw[show (⟨[(0,(.one (.bor l0_0 (map b_R a0)))),(1,(.oi a1)),(5,(.oi (wrap .i64 ((length p:Int)+1))))],[]⟩:St)=h67_0 l0_0 a0 a1 ((length p:Int)+1)  from(by unfold h67_0; simp only[hw]; done)] at st
    exact .loopN st ih
def m67 (a0:(List K_R)) (a1:Int):Int:=
  (match r67_0 a0 a1 a0 0 with | .k0 w0_0 w1_0=>(-1) | .k1 w0_0=>w0_0)
theorem e67 {l0_0:Nat} {a0:(List K_R)} {a1:Int} (hy0:length a0*56≤140737488351232) (hy1:∀z∈a0,ok_R z):Ev F X (.call 67 [(.one (.bor l0_0 (map b_R a0))),(.one (.val (.int .i64 a1)))] [] [] [(.one (.val (.int .i64 (m67 a0 a1))))]):=by
  unfold m67
  cases h0:r67_0 a0 a1 a0 0 with
  |k0 w0_0 w1_0=>
    try dsimp only
    have f0:(⟨[(0,(.one (.bor l0_0 (map b_R a0)))),(1,(.oi a1)),(5,(.oi 0))],[]⟩:St)=h67_0 l0_0 a0 a1 0 :=yu
    exact cp ya (.f f0 (.f (ev_ (e:=ex67_0) (g:=(fin67_0 l0_0 a0 a1)) h0 (t67_0 (l0_0:=l0_0) (a0:=a0) (a1:=a1) (by assumption) (by assumption) a0 []  rfl)) (.h 4 (.loop (h67_0 l0_0 a0 a1 0) (.exit 0) ⟨[(0,(.one (.bor l0_0 (map b_R a0)))),(1,(.oi a1)),(5,(.oi w0_0)),(9,(.one (.val (.bool w1_0))))],[]⟩) .nil)))
  |k1 w0_0=>
    try dsimp only
    have f0:(⟨[(0,(.one (.bor l0_0 (map b_R a0)))),(1,(.oi a1)),(5,(.oi 0))],[]⟩:St)=h67_0 l0_0 a0 a1 0 :=yu
    exact cp ya (.f f0 (.f (ev_ (e:=ex67_0) (g:=(fin67_0 l0_0 a0 a1)) h0 (t67_0 (l0_0:=l0_0) (a0:=a0) (a1:=a1) (by assumption) (by assumption) a0 []  rfl)) (.h 4 (.loop (h67_0 l0_0 a0 a1 0) .ret ⟨[(4,(.oi w0_0))],[]⟩) .nil)))
theorem ixr67_0 (a0:(List K_R)) (a1:Int):∀(l:List K_R) (i:Int),(∃(w0:_) (w1:_),r67_0 a0 a1 l i=.k0 w0 w1)∨(∃w,r67_0 a0 a1 l i=.k1 w∧i≤w∧w < i+l.length)
  |[],i=>.inl ⟨i,(decide (i <((length (map b_R a0)):Int))),rfl⟩
  |x::l,i=>by
    have ih:=ixr67_0 a0 a1 l (i+1)
    simp only[r67_0]
    (repeat' split)
    all_goals first
      |exact .inr ⟨i,rfl,by omega,by simp only[length_cons]; omega⟩
      | (rcases ih with ⟨w0, w1, h⟩ | ⟨w, h, h1, h2⟩
         · exact .inl ⟨w0,w1,h⟩
         exact .inr ⟨w,h,by omega,by simp only[length_cons]; omega⟩)
theorem ix67 (a0:(List K_R)) (a1:Int): -1≤m67 a0 a1∧m67 a0 a1 <(length a0:Int):=by
  unfold m67
  rcases ixr67_0 a0 a1 a0 0 with⟨w0,w1,h⟩ |⟨w,h,h1,h2⟩<;>simp only[h]<;>omega
theorem e81 {l0_0:Nat} {a0:(List K_si)} (hy0:length a0*24≤70368744177664):Ev F X (.call 81 [(.one (.bor l0_0 (map b_si a0)))] [] [] [(.one (.own 2 (map d_si (([])++a0))))]):=by
  have f0:0+0≤0:=yd
  have f1:(length ([]++(fromBR l0_0 (map b_si a0))))*24≤70368744177664:=(by simp; omega)
  have f2:∀r∈((fromBR l0_0 (map b_si a0)):List (List D)),r.length=2:=(by simp[*,b_si,d_si,byteRows_eq,ints_y]; done)
  have f3:([]++(fromBR l0_0 (map b_si a0)))=(map d_si (([])++a0)):=yH
  have f5:(length ([]++(fromBR l0_0 (map b_si a0))))=(length (map d_si (([])++a0))):=yP
  exact cp ya (.f f0 (.f f1 (.f f2 (.f f3 (pe 0 (.f f5 (.f (pureR_si (([])++a0)) (.h 10 (.norm (2,0,0) (map d_si (([])++a0))) .nil))))))))
inductive O68_0 where
  |k0 (w0:List K_R) (w1:Int) (w2:Bool)
def r68_0 (a0:K_B):List K_R→Int→List K_R→O68_0
  |x0::y0,i,v0=>
    (r68_0 a0 y0 (i+1) (v0++([(K_R.mk x0.f0 x0.f1 x0.f2 (([])++x0.f3) x0.f4)])))
  |[],i,v0=>(O68_0.k0 v0 i (decide (i <((length (map b_R a0.f3)):Int))))
def h68_0 (l0_2:Nat) (l0_3:Nat) (l0_4:Nat) (a0:K_B) (i:Int) (v0:List K_R):St:=⟨[(1,(.ptr ⟨(1,0,0),[],0,0,8⟩)),(2,(.ptr ⟨(2,0,0),[],0,0,8⟩)),(3,(.ptr ⟨(3,0,0),[],0,0,8⟩)),(4,(.one (.val (.int .i64 i))))],[((1,0,0),.live ⟨8,[[(.val (.int .i64 a0.f0)),(.val (.int .i64 a0.f1)),(.bor l0_2 (map b_si a0.f2)),(.bor l0_3 (map b_R a0.f3)),(.bor l0_4 (map b_si a0.f4)),(.val (.int .i64 a0.f5)),(.val (.int .i64 a0.f6)),(.val (.int .i64 a0.f7))]],[]⟩),((2,0,0),.live ⟨8,[[(.val (.int .i64 0)),(.val (.int .i64 0)),(.own 2 []),(.own 5 []),(.own 2 []),(.val (.int .i64 0)),(.val (.int .i64 0)),(.val (.int .i64 0))]],[]⟩),((3,0,0),.live ⟨8,[[(.val (.int .i64 a0.f0)),(.val (.int .i64 a0.f1)),(.own 2 (map d_si (([])++a0.f2))),(.own 5 (map d_R v0)),(.own 2 (map d_si (([])++a0.f4))),(.val (.int .i64 a0.f5)),(.val (.int .i64 a0.f6)),(.val (.int .i64 a0.f7))]],[]⟩)]⟩
def ex68_0:O68_0→VX.Exit
  |.k0 _ _ _=>(.exit 0)
def fin68_0 (l0_2:Nat) (l0_3:Nat) (l0_4:Nat) (a0:K_B):O68_0→St
  |.k0 w0 w1 w2=>⟨[(1,(.ptr ⟨(1,0,0),[],0,0,8⟩)),(2,(.ptr ⟨(2,0,0),[],0,0,8⟩)),(3,(.ptr ⟨(3,0,0),[],0,0,8⟩)),(4,(.one (.val (.int .i64 w1)))),(20,(.one (.val (.bool w2))))],[((1,0,0),.live ⟨8,[[(.val (.int .i64 a0.f0)),(.val (.int .i64 a0.f1)),(.bor l0_2 (map b_si a0.f2)),(.bor l0_3 (map b_R a0.f3)),(.bor l0_4 (map b_si a0.f4)),(.val (.int .i64 a0.f5)),(.val (.int .i64 a0.f6)),(.val (.int .i64 a0.f7))]],[]⟩),((2,0,0),.live ⟨8,[[(.val (.int .i64 0)),(.val (.int .i64 0)),(.own 2 []),(.own 5 []),(.own 2 []),(.val (.int .i64 0)),(.val (.int .i64 0)),(.val (.int .i64 0))]],[]⟩),((3,0,0),.live ⟨8,[[(.val (.int .i64 a0.f0)),(.val (.int .i64 a0.f1)),(.own 2 (map d_si (([])++a0.f2))),(.own 5 (map d_R w0)),(.own 2 (map d_si (([])++a0.f4))),(.val (.int .i64 a0.f5)),(.val (.int .i64 a0.f6)),(.val (.int .i64 a0.f7))]],[]⟩)]⟩
theorem t68_0 {l0_2:Nat} {l0_3:Nat} {l0_4:Nat} {a0:K_B} (hy0:length a0.f2≤100) (hy1:length a0.f3≤100) (hy2:∀z∈a0.f3,length z.f3≤100) (hy3:length a0.f4≤100) (hy4:∀z∈a0.f3,ok_R z):∀(y0:List K_R) (p:List K_R) (v0:List K_R),p++y0=a0.f3→(length v0+length y0)*56≤70368744177664→Ev F X (.code l68_0 (h68_0 l0_2 l0_3 l0_4 a0 (length p:Int) v0) (ex68_0 (r68_0 a0 y0 (length p:Int) v0)) (fin68_0 l0_2 l0_3 l0_4 a0 (r68_0 a0 y0 (length p:Int) v0)))
  |[],p,v0,hp0,hi0=>by
    have hc:¬(decide ((length p:Int) <((length (map b_R a0.f3)):Int)))=true:=by
      rw[← hp0]; simp only[LN,decide_eq_true_eq]; omega
    have hj0:=hi0; try simp only[LN,Int.toNat_natCast] at hj0
    have st:=ch b68_0 (h68_0 l0_2 l0_3 l0_4 a0 (length p:Int) v0) ⟨[(1,(.ptr ⟨(1,0,0),[],0,0,8⟩)),(2,(.ptr ⟨(2,0,0),[],0,0,8⟩)),(3,(.ptr ⟨(3,0,0),[],0,0,8⟩)),(4,(.oi (length p:Int))),(20,(.one (.val (.bool (decide ((length p:Int) <((length (map b_R a0.f3)):Int)))))))],[((1,0,0),.live ⟨8,[[(.i a0.f0),(.i a0.f1),(.bor l0_2 (map b_si a0.f2)),(.bor l0_3 (map b_R a0.f3)),(.bor l0_4 (map b_si a0.f4)),(.i a0.f5),(.i a0.f6),(.i a0.f7)]],[]⟩),((2,0,0),.live ⟨8,[[(.i 0),(.i 0),(.own 2 []),(.own 5 []),(.own 2 []),(.i 0),(.i 0),(.i 0)]],[]⟩),((3,0,0),.live ⟨8,[[(.i a0.f0),(.i a0.f1),(.own 2 (map d_si (([])++a0.f2))),(.own 5 (map d_R v0)),(.own 2 (map d_si (([])++a0.f4))),(.i a0.f5),(.i a0.f6),(.i a0.f7)]],[]⟩)]⟩ (.exit 0) 11 (by kernel_rfl) (.f (nt hc) (U 10 .nil))
    rw[show (⟨[(1,(.ptr ⟨(1,0,0),[],0,0,8⟩)),(2,(.ptr ⟨(2,0,0),[],0,0,8⟩)),(3,(.ptr ⟨(3,0,0),[],0,0,8⟩)),(4,(.oi (length p:Int))),(20,(.one (.val (.bool (decide ((length p:Int) <((length (map b_R a0.f3)):Int)))))))],[((1,0,0),.live ⟨8,[[(.i a0.f0),(.i a0.f1),(.bor l0_2 (map b_si a0.f2)),(.bor l0_3 (map b_R a0.f3)),(.bor l0_4 (map b_si a0.f4)),(.i a0.f5),(.i a0.f6),(.i a0.f7)]],[]⟩),((2,0,0),.live ⟨8,[[(.i 0),(.i 0),(.own 2 []),(.own 5 []),(.own 2 []),(.i 0),(.i 0),(.i 0)]],[]⟩),((3,0,0),.live ⟨8,[[(.i a0.f0),(.i a0.f1),(.own 2 (map d_si (([])++a0.f2))),(.own 5 (map d_R v0)),(.own 2 (map d_si (([])++a0.f4))),(.i a0.f5),(.i a0.f6),(.i a0.f7)]],[]⟩)]⟩:St)=fin68_0 l0_2 l0_3 l0_4 a0 (.k0 v0 (length p:Int) (decide ((length p:Int) <((length (map b_R a0.f3)):Int)))) from(by rfl)] at st
    exact .loopX st (show ((.exit 0):VX.Exit)≠.normal from by simp)
  |x0::y0,p,v0,hp0,hi0=>by
    have hc:(decide ((length p:Int) <((length (map b_R a0.f3)):Int)))=true:=by
      rw[← hp0]; simp only[LN,decide_eq_true_eq]; omega
    have Hx0:(a0.f3)[toNat (length p:Int)]?=some x0:=by
      rw[← hp0,Int.toNat_natCast]; simp
    have Nx0_2:=hy2 x0 (List.mem_of_getElem? Hx0)
    have Mx0_0:=hy4 x0 (List.mem_of_getElem? Hx0)
    have hlen:length (a0.f3)=length p+length y0+1:=by rw[← hp0]; simp; omega
    have hw:wrap .i64 ((length p:Int)+1)=(length p:Int)+1:=wrap64 (by omega)
    have hj0:=hi0; try simp only[LN,Int.toNat_natCast] at hj0
    simp only[r68_0]
    have f1:0≤(length p:Int):=(by omega)
    have f8:0+(length (map d_R v0))≤(length (map d_R v0)):=(by omega)
    have f9:1≤1:=(by omega)
    have f10:((take 1 (drop 0 [[(.i x0.f0),(.i x0.f1),(.i x0.f2),(.own 2 (map d_si (([])++x0.f3))),(.i x0.f4)]])).all fun x=>x.all copyable)=false:=(by trivial)
    have f13:(length ((take (length (map d_R v0)) (drop 0 (map d_R v0)))++([[(.i x0.f0),(.i x0.f1),(.i x0.f2),(.own 2 (map d_si (([])++x0.f3))),(.i x0.f4)]]:List (List D))))*56≤70368744177664:=(by simp only[length_map,length_append,length_cons,length_nil,length_take,length_drop]; omega)
    have f14:∀r∈([[(.i x0.f0),(.i x0.f1),(.i x0.f2),(.own 2 (map d_si (([])++x0.f3))),(.i x0.f4)]]:List (List D)),r.length=5:=(by simp; done)
    have f17:([[(.i a0.f0),(.i a0.f1),(.own 2 (map d_si (([])++a0.f2))),(.own 5 ((take (length (map d_R v0)) (drop 0 (map d_R v0)))++([[(.i x0.f0),(.i x0.f1),(.i x0.f2),(.own 2 (map d_si (([])++x0.f3))),(.i x0.f4)]]:List (List D)))),(.own 2 (map d_si (([])++a0.f4))),(.i a0.f5),(.i a0.f6),(.i a0.f7)]]:List (List D))=[[(.i a0.f0),(.i a0.f1),(.own 2 (map d_si (([])++a0.f2))),(.own 5 (map d_R (v0++([(K_R.mk x0.f0 x0.f1 x0.f2 (([])++x0.f3) x0.f4)])))),(.own 2 (map d_si (([])++a0.f4))),(.i a0.f5),(.i a0.f6),(.i a0.f7)]]:=(by simp[take_of_length_le,d_si,d_R]; done)
    have st:=ch b68_0 (h68_0 l0_2 l0_3 l0_4 a0 (length p:Int) v0) ⟨[(1,(.ptr ⟨(1,0,0),[],0,0,8⟩)),(2,(.ptr ⟨(2,0,0),[],0,0,8⟩)),(3,(.ptr ⟨(3,0,0),[],0,0,8⟩)),(4,(.oi (wrap .i64 ((length p:Int)+1))))],[((1,0,0),.live ⟨8,[[(.i a0.f0),(.i a0.f1),(.bor l0_2 (map b_si a0.f2)),(.bor l0_3 (map b_R a0.f3)),(.bor l0_4 (map b_si a0.f4)),(.i a0.f5),(.i a0.f6),(.i a0.f7)]],[]⟩),((2,0,0),.live ⟨8,[[(.i 0),(.i 0),(.own 2 []),(.own 5 []),(.own 2 []),(.i 0),(.i 0),(.i 0)]],[]⟩),((3,0,0),.live ⟨8,[[(.i a0.f0),(.i a0.f1),(.own 2 (map d_si (([])++a0.f2))),(.own 5 (map d_R (v0++([(K_R.mk x0.f0 x0.f1 x0.f2 (([])++x0.f3) x0.f4)])))),(.own 2 (map d_si (([])++a0.f4))),(.i a0.f5),(.i a0.f6),(.i a0.f7)]],[]⟩)]⟩ .normal 56 (by kernel_rfl) (.f hc (.f f1 (.f (mp_ b_R Hx0) (hT 10 (.h 18 (.row (b_R x0)) (.r 30 [] [] (e81 (l0_0:=(l0_3+1)) (a0:=x0.f3) (by omega)) (pe 0 (pe (length (map d_si (([])++x0.f3))) (pe 0 (pe (length (map d_si (([])++x0.f3))) (.f f8 (.f f9 (.f f10 (pe 0 (pe 1 (.f f13 (.f f14 (pe 0 (pe (length ((take (length (map d_R v0)) (drop 0 (map d_R v0)))++([[(.i x0.f0),(.i x0.f1),(.i x0.f2),(.own 2 (map d_si (([])++x0.f3))),(.i x0.f4)]]:List (List D)))) (.f f17 (.f trivial (U 44 (.h 49 (.norm (3,0,0) [[(.i a0.f0),(.i a0.f1),(.own 2 (map d_si (([])++a0.f2))),(.own 5 (map d_R (v0++([(K_R.mk x0.f0 x0.f1 x0.f2 (([])++x0.f3) x0.f4)])))),(.own 2 (map d_si (([])++a0.f4))),(.i a0.f5),(.i a0.f6),(.i a0.f7)]]) .nil)))))))))))))))))))))))
    have ih:=t68_0 (l0_2:=l0_2) (l0_3:=l0_3) (l0_4:=l0_4) (a0:=a0) hy0 hy1 hy2 hy3 hy4 y0 (p++ [x0]) (v0++([(K_R.mk x0.f0 x0.f1 x0.f2 (([])++x0.f3) x0.f4)])) (by rw[append_assoc]; exact hp0) (by simp only[LN]; omega)
    rw[show ((p++ [x0]).length:Int)=(p.length:Int)+1 from by simp] at ih
    rw[show (⟨[(1,(.ptr ⟨(1,0,0),[],0,0,8⟩)),(2,(.ptr ⟨(2,0,0),[],0,0,8⟩)),(3,(.ptr ⟨(3,0,0),[],0,0,8⟩)),(4,(.oi (wrap .i64 ((length p:Int)+1))))],[((1,0,0),.live ⟨8,[[(.i a0.f0),(.i a0.f1),(.bor l0_2 (map b_si a0.f2)),(.bor l0_3 (map b_R a0.f3)),(.bor l0_4 (map b_si a0.f4)),(.i a0.f5),(.i a0.f6),(.i a0.f7)]],[]⟩),((2,0,0),.live ⟨8,[[(.i 0),(.i 0),(.own 2 []),(.own 5 []),(.own 2 []),(.i 0),(.i 0),(.i 0)]],[]⟩),((3,0,0),.live ⟨8,[[(.i a0.f0),(.i a0.f1),(.own 2 (map d_si (([])++a0.f2))),(.own 5 (map d_R (v0++([(K_R.mk x0.f0 x0.f1 x0.f2 (([])++x0.f3) x0.f4)])))),(.own 2 (map d_si (([])++a0.f4))),(.i a0.f5),(.i a0.f6),(.i a0.f7)]],[]⟩)]⟩:St)=h68_0 l0_2 l0_3 l0_4 a0 ((length p:Int)+1) (v0++([(K_R.mk x0.f0 x0.f1 x0.f2 (([])++x0.f3) x0.f4)])) from(by unfold h68_0; simp only[hw]; done)] at st
    exact .loopN st ih
def post68_0 (n0:Nat):O68_0→Prop
  |.k0 w0 _ _=>length w0=n0
theorem z68_0 {a0:K_B}:∀(y0:List K_R) (i:Int) (v0:List K_R),post68_0 (length v0+length y0) (r68_0 a0 y0 i v0)
  |[],i,v0=>by
    first | trivial |(simp only[post68_0,length_nil,Nat.add_zero]; done) |(simp[post68_0]; done)
  |x0::y0,i,v0=>by
    simp only[r68_0]
    have z:=z68_0 (a0:=a0) y0 (i+1) (v0++([(K_R.mk x0.f0 x0.f1 x0.f2 (([])++x0.f3) x0.f4)]))
    rw[show (length v0+length (x0::y0))=(length (v0++([(K_R.mk x0.f0 x0.f1 x0.f2 (([])++x0.f3) x0.f4)]))+length y0) from by first | omega |(simp only[LN]; done) |(simp only[LN]; omega)]
    exact z
def m68 (a0:K_B):K_B:=
  (match r68_0 a0 a0.f3 0 [] with | .k0 w0_2 w1_2 w2_2=>(K_B.mk a0.f0 a0.f1 (([])++a0.f2) w0_2 (([])++a0.f4) a0.f5 a0.f6 a0.f7))
theorem e68 {l0_2:Nat} {l0_3:Nat} {l0_4:Nat} {a0:K_B} (hy0:length a0.f2≤100) (hy1:length a0.f3≤100) (hy2:∀z∈a0.f3,length z.f3≤100) (hy3:length a0.f4≤100) (hy4:∀z∈a0.f3,ok_R z):Ev F X (.call 68 [(.agg (k_B l0_2 l0_3 l0_4 a0))] [] [] [(.agg (d_B (m68 a0)))]):=by
  unfold m68
  cases h0:r68_0 a0 a0.f3 0 [] with
  |k0 w0_2 w1_2 w2_2=>
    try dsimp only
    have zh0:=z68_0 (a0:=a0) a0.f3 0 []; rw[h0] at zh0; simp only[post68_0,length_map,length_set,length_append,length_replicate,length_cons,length_nil,Int.toNat_natCast] at zh0
    have f6:(⟨[(1,(.ptr ⟨(1,0,0),[],0,0,8⟩)),(2,(.ptr ⟨(2,0,0),[],0,0,8⟩)),(3,(.ptr ⟨(3,0,0),[],0,0,8⟩)),(4,(.oi 0))],[((1,0,0),.live ⟨8,[[(.i a0.f0),(.i a0.f1),(.bor l0_2 (map b_si a0.f2)),(.bor l0_3 (map b_R a0.f3)),(.bor l0_4 (map b_si a0.f4)),(.i a0.f5),(.i a0.f6),(.i a0.f7)]],[]⟩),((2,0,0),.live ⟨8,[[(.i 0),(.i 0),(.own 2 []),(.own 5 []),(.own 2 []),(.i 0),(.i 0),(.i 0)]],[]⟩),((3,0,0),.live ⟨8,[[(.i a0.f0),(.i a0.f1),(.own 2 (map d_si (([])++a0.f2))),(.own 5 []),(.own 2 (map d_si (([])++a0.f4))),(.i a0.f5),(.i a0.f6),(.i a0.f7)]],[]⟩)]⟩:St)=h68_0 l0_2 l0_3 l0_4 a0 0 []:=yu
    exact cp ya (.r 15 [] [] (e81 (l0_0:=(l0_2+1)) (a0:=a0.f2) yd) (pe 0 (pe (length (map d_si (([])++a0.f2))) (.r 25 [] [] (e81 (l0_0:=(l0_4+1)) (a0:=a0.f4) yd) (pe 0 (pe (length (map d_si (([])++a0.f4))) (.f f6 (.f (ev_ (e:=ex68_0) (g:=(fin68_0 l0_2 l0_3 l0_4 a0)) h0 (t68_0 (l0_2:=l0_2) (l0_3:=l0_3) (l0_4:=l0_4) (a0:=a0) (by assumption) (by assumption) (by assumption) (by assumption) (by assumption) a0.f3 [] [] rfl yy)) (p3 (([])++a0.f2) w0_2 (([])++a0.f4) (.f (pureR_si (([])++a0.f2)) (.f (pureR_R w0_2) (.f (pureR_si (([])++a0.f4)) (.h 36 (.loop (h68_0 l0_2 l0_3 l0_4 a0 0 []) (.exit 0) ⟨[(1,(.ptr ⟨(1,0,0),[],0,0,8⟩)),(2,(.ptr ⟨(2,0,0),[],0,0,8⟩)),(3,(.ptr ⟨(3,0,0),[],0,0,8⟩)),(4,(.oi w1_2)),(20,(.one (.val (.bool w2_2))))],[((1,0,0),.live ⟨8,[[(.i a0.f0),(.i a0.f1),(.bor l0_2 (map b_si a0.f2)),(.bor l0_3 (map b_R a0.f3)),(.bor l0_4 (map b_si a0.f4)),(.i a0.f5),(.i a0.f6),(.i a0.f7)]],[]⟩),((2,0,0),.live ⟨8,[[(.i 0),(.i 0),(.own 2 []),(.own 5 []),(.own 2 []),(.i 0),(.i 0),(.i 0)]],[]⟩),((3,0,0),.live ⟨8,[[(.i a0.f0),(.i a0.f1),(.own 2 (map d_si (([])++a0.f2))),(.own 5 (map d_R w0_2)),(.own 2 (map d_si (([])++a0.f4))),(.i a0.f5),(.i a0.f6),(.i a0.f7)]],[]⟩)]⟩) .nil)))))))))))))
theorem cl68 (a0:K_B):∀(l:List K_R) (i:Int) (v:List K_R),∃j b,r68_0 a0 l i v=.k0 (v++l) j b
  |[],i,v=>⟨_,_,by rw[List.append_nil]; rfl⟩
  |x::l,i,v=>by
    obtain⟨j,b,h⟩:=cl68 a0 l (i+1) (v++ [x])
    refine⟨j,b,?_⟩
    simp only[r68_0]
    rw[show v++x::l=(v++ [x])++l by simp,← h]
    first | rfl |(simp only[List.nil_append]; done)
theorem cp68 (a0:K_B):m68 a0=a0:=by
  unfold m68
  obtain⟨j,b,h⟩:=cl68 a0 a0.f3 0 []
  rw[h]; rfl
def m38 (a0:K_B) (a1:Int):K_C:=
  if(decide ((m67 a0.f3 a1) < 0))=true then(K_C.mk 4 0 0 0 ([]) ([]) ([]) 0 0 0) else
  if(((getD a0.f3 (toNat (m67 a0.f3 a1)) (K_R.mk 0 0 0 [] 0)).f4)==3)=true then(K_C.mk 9 0 0 0 ([]) ([]) ([]) 0 0 0) else
    if (((getD a0.f3 (toNat (m67 a0.f3 a1)) (K_R.mk 0 0 0 [] 0)).f4) == 2) = true then (if (!(m72 (wrap .i64 (a0.f7 + ((getD a0.f3 (toNat (m67 a0.f3 a1)) (K_R.mk 0 0 0 [] 0)).f1))) 0 1000000)) = true then (K_C.mk 7 0 0 0 ([]) ([]) ([]) 0 0 0) else
        (K_C.mk 0 0 ((m68 a0).f0) ((m68 a0).f1) ((m68 a0).f2) (set ((m68 a0).f3) (toNat (m67 a0.f3 a1)) (K_R.mk ((getD ((m68 a0).f3) (toNat (m67 a0.f3 a1)) (K_R.mk 0 0 0 [] 0)).f0) ((getD ((m68 a0).f3) (toNat (m67 a0.f3 a1)) (K_R.mk 0 0 0 [] 0)).f1) ((getD ((m68 a0).f3) (toNat (m67 a0.f3 a1)) (K_R.mk 0 0 0 [] 0)).f2) ((getD ((m68 a0).f3) (toNat (m67 a0.f3 a1)) (K_R.mk 0 0 0 [] 0)).f3) 3)) ((m68 a0).f4) ((m68 a0).f5) ((m68 a0).f6) (wrap .i64 (a0.f7+((getD a0.f3 (toNat (m67 a0.f3 a1)) (K_R.mk 0 0 0 [] 0)).f1))))) else
      if(!(m72 ((m68 a0).f7) 0 1000000))=true then(K_C.mk 7 0 0 0 ([]) ([]) ([]) 0 0 0) else
        (K_C.mk 0 0 ((m68 a0).f0) ((m68 a0).f1) ((m68 a0).f2) (set ((m68 a0).f3) (toNat (m67 a0.f3 a1)) (K_R.mk ((getD ((m68 a0).f3) (toNat (m67 a0.f3 a1)) (K_R.mk 0 0 0 [] 0)).f0) ((getD ((m68 a0).f3) (toNat (m67 a0.f3 a1)) (K_R.mk 0 0 0 [] 0)).f1) ((getD ((m68 a0).f3) (toNat (m67 a0.f3 a1)) (K_R.mk 0 0 0 [] 0)).f2) ((getD ((m68 a0).f3) (toNat (m67 a0.f3 a1)) (K_R.mk 0 0 0 [] 0)).f3) 3)) ((m68 a0).f4) ((m68 a0).f5) ((m68 a0).f6) ((m68 a0).f7))
abbrev qC (a0:K_B) (a1:Int):=getD ((m68 a0).f3) (toNat (m67 a0.f3 a1)) (K_R.mk 0 0 0 [] 0)
abbrev qD (a0:K_B) (a1:Int):=K_R.mk ((qC a0 a1).f0) ((qC a0 a1).f1) ((qC a0 a1).f2) ((qC a0 a1).f3) 3
abbrev qE (a0:K_B) (a1:Int):=getD a0.f3 (toNat (m67 a0.f3 a1)) (K_R.mk 0 0 0 [] 0)
theorem e38 {l0_2:Nat} {l0_3:Nat} {l0_4:Nat} {a0:K_B} {a1:Int} (hy0:length a0.f2≤100) (hy1:length a0.f3≤100) (hy2:∀z∈a0.f3,length z.f3≤100) (hy3:length a0.f4≤100) (hy4:∀z∈a0.f3,ok_R z):Ev F X (.call 38 [(.agg (k_B l0_2 l0_3 l0_4 a0)),(.one (.val (.int .i64 a1)))] [] [] [(.agg (d_C (m38 a0 a1)))]):=by
  unfold m38
  have P0 {hs q} (r:PS F X hs q):=(PS.r 11 [] [] (e67 (l0_0:=(l0_3+1)) (a0:=a0.f3) (a1:=a1) yd ‹_›) r)
  by_cases h0:(decide ((m67 a0.f3 a1) < 0))=true
  · try simp only[if_pos h0]
    exact cp ya (P0 (.f h0 (hT 18 (.r 20 [] [] (e37 (a0:=4)) (p3 ([]) ([]) ([]) (.f (pureR_si ([])) (.f (pureR_R ([])) (.f (pureR_si ([])) .nil))))))))
  try simp only[if_neg h0]
  have f2:0≤(m67 a0.f3 a1):=yae
  have P1 {hs q} (r:PS F X hs q):=(P0 (N h0 (.f f2 (.f (mp_ b_R (getD_at a0.f3 (toNat (m67 a0.f3 a1)) (K_R.mk 0 0 0 [] 0) yae)) (U 18 (.h 26 (.row (b_R (qE a0 a1))) r))))))
  by_cases h1:(((qE a0 a1).f4)==3)=true
  · try simp only[if_pos h1]
    exact cp ya (P1 (.f h1 (hT 39 (.r 41 [] [] (e37 (a0:=9)) (p3 ([]) ([]) ([]) (.f (pureR_si ([])) (.f (pureR_R ([])) (.f (pureR_si ([])) .nil))))))))
  try simp only[if_neg h1]
  have P2 {hs q} (r:PS F X hs q):=(P1 (N h1 (U 39 (.r 43 [] [] (e68 (l0_2:=(l0_2+1)) (l0_3:=(l0_3+1)) (l0_4:=(l0_4+1)) (a0:=a0) ‹_› ‹_› ‹_› ‹_› ‹_›) (p3 ((m68 a0).f2) ((m68 a0).f3) ((m68 a0).f4) r)))))
  by_cases h2:(((qE a0 a1).f4)==2)=true
  · try simp only[if_pos h2]
    have P3 {hs q} (r:PS F X hs q):=(P2 (.f h2 (.f trivial (hT 58 (.r 82 [] [] (e66 (a0:=(wrap .i64 (a0.f7+((qE a0 a1).f1))))) r)))))
    by_cases h3:(!(m72 (wrap .i64 (a0.f7+((qE a0 a1).f1))) 0 1000000))=true
    · try simp only[if_pos h3]
      exact cp ya (P3 (.f h3 (hT 85 (.r 87 [] [] (e37 (a0:=7)) (p3 ([]) ([]) ([]) (.f (pureR_si ([])) (.f (pureR_R ([])) (.f (pureR_si ([])) .nil))))))))
    try simp only[if_neg h3]
    have f16:0+(length (map d_R ((m68 a0).f3)))≤(length (map d_R ((m68 a0).f3))):=yd
    have f17:0≤(m67 a0.f3 a1)∧(m67 a0.f3 a1) <((length (map d_R ((m68 a0).f3))):Int):=yL
    have f19:([[(.i ((m68 a0).f0)),(.i ((m68 a0).f1)),(.own 2 (map d_si ((m68 a0).f2))),(.own 5 (set (map d_R ((m68 a0).f3)) (0+(toNat (m67 a0.f3 a1))) [(.i ((qC a0 a1).f0)),(.i ((qC a0 a1).f1)),(.i ((qC a0 a1).f2)),(.own 2 (map d_si ((qC a0 a1).f3))),(.i 3)])),(.own 2 (map d_si ((m68 a0).f4))),(.i ((m68 a0).f5)),(.i ((m68 a0).f6)),(.i (wrap .i64 (a0.f7+((qE a0 a1).f1))))]]:List (List D))=[[(.i ((m68 a0).f0)),(.i ((m68 a0).f1)),(.own 2 (map d_si ((m68 a0).f2))),(.own 5 (map d_R (set ((m68 a0).f3) (toNat (m67 a0.f3 a1)) (qD a0 a1)))),(.own 2 (map d_si ((m68 a0).f4))),(.i ((m68 a0).f5)),(.i ((m68 a0).f6)),(.i (wrap .i64 (a0.f7+((qE a0 a1).f1))))]]:=yI
    exact cp ya (P3 (N h3 (.f f16 (.f f17 (.f (mz_ d_R (getD_at ((m68 a0).f3) (toNat (m67 a0.f3 a1)) (K_R.mk 0 0 0 [] 0) yL)) (.f f19 (p3 ((m68 a0).f2) (set ((m68 a0).f3) (toNat (m67 a0.f3 a1)) (qD a0 a1)) ((m68 a0).f4) (.f (pureR_si ((m68 a0).f2)) (.f (pureR_R (set ((m68 a0).f3) (toNat (m67 a0.f3 a1)) (qD a0 a1))) (.f (pureR_si ((m68 a0).f4)) (U 85 (.h 97 (.rowD (d_R (qC a0 a1))) (.h 98 (.norm (7,0,0) [[(.i ((m68 a0).f0)),(.i ((m68 a0).f1)),(.own 2 (map d_si ((m68 a0).f2))),(.own 5 (map d_R (set ((m68 a0).f3) (toNat (m67 a0.f3 a1)) (qD a0 a1)))),(.own 2 (map d_si ((m68 a0).f4))),(.i ((m68 a0).f5)),(.i ((m68 a0).f6)),(.i (wrap .i64 (a0.f7+((qE a0 a1).f1))))]]) .nil)))))))))))))
  try simp only[if_neg h2]
  have P3 {hs q} (r:PS F X hs q):=(P2 (N h2 (U 58 (.r 64 [] [] (e66 (a0:=((m68 a0).f7))) r))))
  by_cases h3:(!(m72 ((m68 a0).f7) 0 1000000))=true
  · try simp only[if_pos h3]
    exact cp ya (P3 (.f h3 (hT 67 (.r 69 [] [] (e37 (a0:=7)) (p3 ([]) ([]) ([]) (.f (pureR_si ([])) (.f (pureR_R ([])) (.f (pureR_si ([])) .nil))))))))
  try simp only[if_neg h3]
  have f15:0+(length (map d_R ((m68 a0).f3)))≤(length (map d_R ((m68 a0).f3))):=yd
  have f16:0≤(m67 a0.f3 a1)∧(m67 a0.f3 a1) <((length (map d_R ((m68 a0).f3))):Int):=yL
  have f18:([[(.i ((m68 a0).f0)),(.i ((m68 a0).f1)),(.own 2 (map d_si ((m68 a0).f2))),(.own 5 (set (map d_R ((m68 a0).f3)) (0+(toNat (m67 a0.f3 a1))) [(.i ((qC a0 a1).f0)),(.i ((qC a0 a1).f1)),(.i ((qC a0 a1).f2)),(.own 2 (map d_si ((qC a0 a1).f3))),(.i 3)])),(.own 2 (map d_si ((m68 a0).f4))),(.i ((m68 a0).f5)),(.i ((m68 a0).f6)),(.i ((m68 a0).f7))]]:List (List D))=[[(.i ((m68 a0).f0)),(.i ((m68 a0).f1)),(.own 2 (map d_si ((m68 a0).f2))),(.own 5 (map d_R (set ((m68 a0).f3) (toNat (m67 a0.f3 a1)) (qD a0 a1)))),(.own 2 (map d_si ((m68 a0).f4))),(.i ((m68 a0).f5)),(.i ((m68 a0).f6)),(.i ((m68 a0).f7))]]:=yI
  exact cp ya (P3 (N h3 (.f f15 (.f f16 (.f (mz_ d_R (getD_at ((m68 a0).f3) (toNat (m67 a0.f3 a1)) (K_R.mk 0 0 0 [] 0) yL)) (.f f18 (p3 ((m68 a0).f2) (set ((m68 a0).f3) (toNat (m67 a0.f3 a1)) (qD a0 a1)) ((m68 a0).f4) (.f (pureR_si ((m68 a0).f2)) (.f (pureR_R (set ((m68 a0).f3) (toNat (m67 a0.f3 a1)) (qD a0 a1))) (.f (pureR_si ((m68 a0).f4)) (U 67 (.h 79 (.rowD (d_R (qC a0 a1))) (.h 80 (.norm (7,0,0) [[(.i ((m68 a0).f0)),(.i ((m68 a0).f1)),(.own 2 (map d_si ((m68 a0).f2))),(.own 5 (map d_R (set ((m68 a0).f3) (toNat (m67 a0.f3 a1)) (qD a0 a1)))),(.own 2 (map d_si ((m68 a0).f4))),(.i ((m68 a0).f5)),(.i ((m68 a0).f6)),(.i ((m68 a0).f7))]]) .nil)))))))))))))
theorem loG {a:K_B} {i:Int} (h:GL a) (hc:¬((m38 a i).f0 !=0)=true):GL (K_B.mk (m38 a i).f2 (m38 a i).f3 (m38 a i).f4 (m38 a i).f5 (m38 a i).f6 (m38 a i).f7 (m38 a i).f8 (m38 a i).f9):=by
  obtain⟨h1,h2,h3,h4,h5⟩:=h
  generalize hr:m38 a i=r at hc⊢
  unfold m38 at hr
  simp only[cp68] at hr
  (repeat' split at hr)<;>subst hr<;>first
    |(exfalso; simp at hc; done)
    |exact⟨h1,h2,h3,gr_set h4 (gr_get h4 _),h5⟩
inductive O65_0 where
  |k0 (w0:Int) (w1:Int) (w2:Bool)
def r65_0 (a0:(List K_R)) (a1:Bool):List K_R→Int→Int→O65_0
  |x0::y0,i,v0=>
    if(!a1)=true then(r65_0 a0 a1 y0 (i+1) (wrap .i64 (v0+x0.f1))) else
    if(x0.f4==2)=true then(r65_0 a0 a1 y0 (i+1) (wrap .i64 (v0+x0.f1))) else
      (r65_0 a0 a1 y0 (i+1) v0)
  |[],i,v0=>(O65_0.k0 v0 i (decide (i <((length (map b_R a0)):Int))))
def h65_0 (l0_0:Nat) (a0:(List K_R)) (a1:Bool) (i:Int) (v0:Int):St:=⟨[(0,(.one (.bor l0_0 (map b_R a0)))),(1,(.one (.val (.bool a1)))),(5,(.one (.val (.int .i64 v0)))),(6,(.one (.val (.int .i64 i))))],[]⟩
def ex65_0:O65_0→VX.Exit
  |.k0 _ _ _=>(.exit 0)
def fin65_0 (l0_0:Nat) (a0:(List K_R)) (a1:Bool):O65_0→St
  |.k0 w0 w1 w2=>⟨[(0,(.one (.bor l0_0 (map b_R a0)))),(1,(.one (.val (.bool a1)))),(5,(.one (.val (.int .i64 w0)))),(6,(.one (.val (.int .i64 w1)))),(10,(.one (.val (.bool w2))))],[]⟩
theorem t65_0 {l0_0:Nat} {a0:(List K_R)} {a1:Bool} (hy0:length a0*56≤140737488351232) (hy1:∀z∈a0,ok_R z):∀(y0:List K_R) (p:List K_R) (v0:Int),p++y0=a0→Ev F X (.code l65_0 (h65_0 l0_0 a0 a1 (length p:Int) v0) (ex65_0 (r65_0 a0 a1 y0 (length p:Int) v0)) (fin65_0 l0_0 a0 a1 (r65_0 a0 a1 y0 (length p:Int) v0)))
  |[],p,v0,hp0=>by
    have hc:¬(decide ((length p:Int) <((length (map b_R a0)):Int)))=true:=by
      rw[← hp0]; simp only[LN,decide_eq_true_eq]; omega
    have st:=ch b65_0 (h65_0 l0_0 a0 a1 (length p:Int) v0) ⟨[(0,(.one (.bor l0_0 (map b_R a0)))),(1,(.one (.val (.bool a1)))),(5,(.oi v0)),(6,(.oi (length p:Int))),(10,(.one (.val (.bool (decide ((length p:Int) <((length (map b_R a0)):Int)))))))],[]⟩ (.exit 0) 9 (by kernel_rfl) (.f (nt hc) (U 8 .nil))
    rw[show (⟨[(0,(.one (.bor l0_0 (map b_R a0)))),(1,(.one (.val (.bool a1)))),(5,(.oi v0)),(6,(.oi (length p:Int))),(10,(.one (.val (.bool (decide ((length p:Int) <((length (map b_R a0)):Int)))))))],[]⟩:St)=fin65_0 l0_0 a0 a1 (.k0 v0 (length p:Int) (decide ((length p:Int) <((length (map b_R a0)):Int)))) from(by rfl)] at st
    exact .loopX st (show ((.exit 0):VX.Exit)≠.normal from by simp)
  |x0::y0,p,v0,hp0=>by
    have hc:(decide ((length p:Int) <((length (map b_R a0)):Int)))=true:=by
      rw[← hp0]; simp only[LN,decide_eq_true_eq]; omega
    have Hx0:(a0)[toNat (length p:Int)]?=some x0:=by
      rw[← hp0,Int.toNat_natCast]; simp
    have Mx0_0:=hy1 x0 (List.mem_of_getElem? Hx0)
    have hlen:length (a0)=length p+length y0+1:=by rw[← hp0]; simp; omega
    have hw:wrap .i64 ((length p:Int)+1)=(length p:Int)+1:=wrap64 (by omega)
    simp only[r65_0]
    by_cases h_1:(!a1)=true
    · try simp only[if_pos h_1]
      have f8:0≤(length p:Int):=(by omega)
      have st:=ch b65_0 (h65_0 l0_0 a0 a1 (length p:Int) v0) ⟨[(0,(.one (.bor l0_0 (map b_R a0)))),(1,(.one (.val (.bool a1)))),(5,(.oi (wrap .i64 (v0+x0.f1)))),(6,(.oi (wrap .i64 ((length p:Int)+1))))],[]⟩ .normal 52 (by kernel_rfl) (.f hc (.f h_1 (.f h_1 (.f h_1 (.f h_1 (.f h_1 (.f h_1 (.f h_1 (.f f8 (.f (mp_ b_R Hx0) (.f trivial (.f trivial (hT 8 (hT 15 (hT 17 (hT 19 (hT 21 (hT 23 (hT 25 (hT 28 (.h 37 (.row (b_R x0)) .nil)))))))))))))))))))))
      have ih:=t65_0 (l0_0:=l0_0) (a0:=a0) (a1:=a1) hy0 hy1 y0 (p++ [x0]) (wrap .i64 (v0+x0.f1)) (by rw[append_assoc]; exact hp0)
      rw[show ((p++ [x0]).length:Int)=(p.length:Int)+1 from by simp] at ih
      rw[show (⟨[(0,(.one (.bor l0_0 (map b_R a0)))),(1,(.one (.val (.bool a1)))),(5,(.oi (wrap .i64 (v0+x0.f1)))),(6,(.oi (wrap .i64 ((length p:Int)+1))))],[]⟩:St)=h65_0 l0_0 a0 a1 ((length p:Int)+1) (wrap .i64 (v0+x0.f1)) from(by unfold h65_0; simp only[hw]; done)] at st
      exact .loopN st ih
    try simp only[if_neg h_1]
    have f4:0≤(length p:Int):=(by omega)
    have P2 {hs q} (r:PS F X hs q):=(PS.f hc (.f (nt h_1) (.f (nt h_1) (.f (nt h_1) (.f f4 (.f (mp_ b_R Hx0) (.f (nt h_1) (.f (nt h_1) (.f (nt h_1) (.f (nt h_1) (hT 8 (U 15 (U 17 (U 19 (.h 20 (.row (b_R x0)) (U 21 (U 23 (U 25 (U 28 r)))))))))))))))))))
    by_cases h_2:(x0.f4==2)=true
    · try simp only[if_pos h_2]
      have st:=ch b65_0 (h65_0 l0_0 a0 a1 (length p:Int) v0) ⟨[(0,(.one (.bor l0_0 (map b_R a0)))),(1,(.one (.val (.bool a1)))),(5,(.oi (wrap .i64 (v0+x0.f1)))),(6,(.oi (wrap .i64 ((length p:Int)+1))))],[]⟩ .normal 52 (by kernel_rfl) (P2 (.f h_2 (.f f4 (.f (mp_ b_R Hx0) (.f trivial (.f trivial (hT 29 (.h 37 (.row (b_R x0)) .nil))))))))
      have ih:=t65_0 (l0_0:=l0_0) (a0:=a0) (a1:=a1) hy0 hy1 y0 (p++ [x0]) (wrap .i64 (v0+x0.f1)) (by rw[append_assoc]; exact hp0)
      rw[show ((p++ [x0]).length:Int)=(p.length:Int)+1 from by simp] at ih
      rw[show (⟨[(0,(.one (.bor l0_0 (map b_R a0)))),(1,(.one (.val (.bool a1)))),(5,(.oi (wrap .i64 (v0+x0.f1)))),(6,(.oi (wrap .i64 ((length p:Int)+1))))],[]⟩:St)=h65_0 l0_0 a0 a1 ((length p:Int)+1) (wrap .i64 (v0+x0.f1)) from(by unfold h65_0; simp only[hw]; done)] at st
      exact .loopN st ih
    try simp only[if_neg h_2]
    have st:=ch b65_0 (h65_0 l0_0 a0 a1 (length p:Int) v0) ⟨[(0,(.one (.bor l0_0 (map b_R a0)))),(1,(.one (.val (.bool a1)))),(5,(.oi v0)),(6,(.oi (wrap .i64 ((length p:Int)+1))))],[]⟩ .normal 36 (by kernel_rfl) (P2 (.f (nt h_2) (.f trivial (U 29 .nil))))
    have ih:=t65_0 (l0_0:=l0_0) (a0:=a0) (a1:=a1) hy0 hy1 y0 (p++ [x0]) v0 (by rw[append_assoc]; exact hp0)
    rw[show ((p++ [x0]).length:Int)=(p.length:Int)+1 from by simp] at ih
    rw[show (⟨[(0,(.one (.bor l0_0 (map b_R a0)))),(1,(.one (.val (.bool a1)))),(5,(.oi v0)),(6,(.oi (wrap .i64 ((length p:Int)+1))))],[]⟩:St)=h65_0 l0_0 a0 a1 ((length p:Int)+1) v0 from(by unfold h65_0; simp only[hw]; done)] at st
    exact .loopN st ih
def m65 (a0:(List K_R)) (a1:Bool):Int:=
  (match r65_0 a0 a1 a0 0 0 with | .k0 w0_0 w1_0 w2_0=>w0_0)
theorem e65 {l0_0:Nat} {a0:(List K_R)} {a1:Bool} (hy0:length a0*56≤140737488351232) (hy1:∀z∈a0,ok_R z):Ev F X (.call 65 [(.one (.bor l0_0 (map b_R a0))),(.one (.val (.bool a1)))] [] [] [(.one (.val (.int .i64 (m65 a0 a1))))]):=by
  unfold m65
  cases h0:r65_0 a0 a1 a0 0 0 with
  |k0 w0_0 w1_0 w2_0=>
    try dsimp only
    have f0:(⟨[(0,(.one (.bor l0_0 (map b_R a0)))),(1,(.one (.val (.bool a1)))),(5,(.oi 0)),(6,(.oi 0))],[]⟩:St)=h65_0 l0_0 a0 a1 0 0:=yu
    exact cp ya (.f f0 (.f (ev_ (e:=ex65_0) (g:=(fin65_0 l0_0 a0 a1)) h0 (t65_0 (l0_0:=l0_0) (a0:=a0) (a1:=a1) (by assumption) (by assumption) a0 [] 0 rfl)) (.h 6 (.loop (h65_0 l0_0 a0 a1 0 0) (.exit 0) ⟨[(0,(.one (.bor l0_0 (map b_R a0)))),(1,(.one (.val (.bool a1)))),(5,(.oi w0_0)),(6,(.oi w1_0)),(10,(.one (.val (.bool w2_0))))],[]⟩) .nil)))
theorem e70 {a0:Int}:Ev F X (.call 70 [(.one (.val (.int .i64 a0)))] [] [] [(.one (.val (.bool (m72 a0 0 2147483646))))]):=by
  exact cp ya (.r 5 [] [] (e72 (a0:=a0) (a1:=0) (a2:=2147483646)) .nil)
inductive O64_0 where
  |k0 (w0:Int) (w1:Int) (w2:Bool)
def r64_0 (a0:(List K_si)):List K_si→Int→Int→O64_0
  |x0::y0,i,v0=>
    (r64_0 a0 y0 (i+1) (wrap .i64 (v0+x0.f1)))
  |[],i,v0=>(O64_0.k0 v0 i (decide (i <((length (map b_si a0)):Int))))
def h64_0 (l0_0:Nat) (a0:(List K_si)) (i:Int) (v0:Int):St:=⟨[(0,(.one (.bor l0_0 (map b_si a0)))),(3,(.one (.val (.int .i64 v0)))),(4,(.one (.val (.int .i64 i))))],[]⟩
def ex64_0:O64_0→VX.Exit
  |.k0 _ _ _=>(.exit 0)
def fin64_0 (l0_0:Nat) (a0:(List K_si)):O64_0→St
  |.k0 w0 w1 w2=>⟨[(0,(.one (.bor l0_0 (map b_si a0)))),(3,(.one (.val (.int .i64 w0)))),(4,(.one (.val (.int .i64 w1)))),(8,(.one (.val (.bool w2))))],[]⟩
theorem t64_0 {l0_0:Nat} {a0:(List K_si)} (hy0:length a0*24≤140737488351232):∀(y0:List K_si) (p:List K_si) (v0:Int),p++y0=a0→Ev F X (.code l64_0 (h64_0 l0_0 a0 (length p:Int) v0) (ex64_0 (r64_0 a0 y0 (length p:Int) v0)) (fin64_0 l0_0 a0 (r64_0 a0 y0 (length p:Int) v0)))
  |[],p,v0,hp0=>by
    have hc:¬(decide ((length p:Int) <((length (map b_si a0)):Int)))=true:=by
      rw[← hp0]; simp only[LN,decide_eq_true_eq]; omega
    have st:=ch b64_0 (h64_0 l0_0 a0 (length p:Int) v0) ⟨[(0,(.one (.bor l0_0 (map b_si a0)))),(3,(.oi v0)),(4,(.oi (length p:Int))),(8,(.one (.val (.bool (decide ((length p:Int) <((length (map b_si a0)):Int)))))))],[]⟩ (.exit 0) 9 (by kernel_rfl) (.f (nt hc) (U 8 .nil))
    rw[show (⟨[(0,(.one (.bor l0_0 (map b_si a0)))),(3,(.oi v0)),(4,(.oi (length p:Int))),(8,(.one (.val (.bool (decide ((length p:Int) <((length (map b_si a0)):Int)))))))],[]⟩:St)=fin64_0 l0_0 a0 (.k0 v0 (length p:Int) (decide ((length p:Int) <((length (map b_si a0)):Int)))) from(by rfl)] at st
    exact .loopX st (show ((.exit 0):VX.Exit)≠.normal from by simp)
  |x0::y0,p,v0,hp0=>by
    have hc:(decide ((length p:Int) <((length (map b_si a0)):Int)))=true:=by
      rw[← hp0]; simp only[LN,decide_eq_true_eq]; omega
    have Hx0:(a0)[toNat (length p:Int)]?=some x0:=by
      rw[← hp0,Int.toNat_natCast]; simp
    have hlen:length (a0)=length p+length y0+1:=by rw[← hp0]; simp; omega
    have hw:wrap .i64 ((length p:Int)+1)=(length p:Int)+1:=wrap64 (by omega)
    simp only[r64_0]
    have f1:0≤(length p:Int):=(by omega)
    have st:=ch b64_0 (h64_0 l0_0 a0 (length p:Int) v0) ⟨[(0,(.one (.bor l0_0 (map b_si a0)))),(3,(.oi (wrap .i64 (v0+x0.f1)))),(4,(.oi (wrap .i64 ((length p:Int)+1))))],[]⟩ .normal 31 (by kernel_rfl) (.f hc (.f f1 (.f (mp_ b_si Hx0) (.f trivial (.f trivial (hT 8 (.h 16 (.row (b_si x0)) .nil)))))))
    have ih:=t64_0 (l0_0:=l0_0) (a0:=a0) hy0 y0 (p++ [x0]) (wrap .i64 (v0+x0.f1)) (by rw[append_assoc]; exact hp0)
    rw[show ((p++ [x0]).length:Int)=(p.length:Int)+1 from by simp] at ih
    rw[show (⟨[(0,(.one (.bor l0_0 (map b_si a0)))),(3,(.oi (wrap .i64 (v0+x0.f1)))),(4,(.oi (wrap .i64 ((length p:Int)+1))))],[]⟩:St)=h64_0 l0_0 a0 ((length p:Int)+1) (wrap .i64 (v0+x0.f1)) from(by unfold h64_0; simp only[hw]; done)] at st
    exact .loopN st ih
def m64 (a0:(List K_si)):Int:=
  (match r64_0 a0 a0 0 0 with | .k0 w0_0 w1_0 w2_0=>w0_0)
theorem e64 {l0_0:Nat} {a0:(List K_si)} (hy0:length a0*24≤140737488351232):Ev F X (.call 64 [(.one (.bor l0_0 (map b_si a0)))] [] [] [(.one (.val (.int .i64 (m64 a0))))]):=by
  unfold m64
  cases h0:r64_0 a0 a0 0 0 with
  |k0 w0_0 w1_0 w2_0=>
    try dsimp only
    have f0:(⟨[(0,(.one (.bor l0_0 (map b_si a0)))),(3,(.oi 0)),(4,(.oi 0))],[]⟩:St)=h64_0 l0_0 a0 0 0:=yu
    exact cp ya (.f f0 (.f (ev_ (e:=ex64_0) (g:=(fin64_0 l0_0 a0)) h0 (t64_0 (l0_0:=l0_0) (a0:=a0) (by assumption) a0 [] 0 rfl)) (.h 6 (.loop (h64_0 l0_0 a0 0 0) (.exit 0) ⟨[(0,(.one (.bor l0_0 (map b_si a0)))),(3,(.oi w0_0)),(4,(.oi w1_0)),(8,(.one (.val (.bool w2_0))))],[]⟩) .nil)))
theorem tot_r64 (a:List K_si):∀(l:List K_si) (i v:Int),(∀z∈l,1≤z.f1∧z.f1≤119988)→0≤v→v+119988*l.length≤1000000000→∃w j b,r64_0 a l i v=.k0 w j b∧v+l.length≤w∧w≤v+119988*l.length
  |[],i,v,_,_,_=>⟨v,_,_,rfl,by simp,by simp⟩
  |x::l,i,v,h,h0,hb=>by
    have hx:=h x (List.mem_cons_self ..)
    simp only[length_cons] at hb
    simp only[r64_0]
    rw[wrap64 yd]
    obtain⟨w,j,b,e,h1,h2⟩:=tot_r64 a l (i+1) (v+x.f1) (fun z hz=>h z (List.mem_cons_of_mem _ hz)) yd yd
    exact⟨w,j,b,e,by simp only[length_cons]; omega,by simp only[length_cons]; omega⟩
theorem tot_64 (a:List K_si) (h:∀z∈a,1≤z.f1∧z.f1≤119988) (hl:a.length≤12):(a.length:Int)≤m64 a∧m64 a≤119988*a.length:=by
  obtain⟨w,j,b,e,h1,h2⟩:=tot_r64 a a 0 0 h yd yd
  unfold m64
  rw[e]; simp only[]; omega
inductive O80_0 where
  |k0 (w0:Int) (w1:Bool)
  |k1 (w0:Int)
def r80_0 (a0:(List K_si)) (a1:ByteArray):List K_si→Int→O80_0
  |x0::y0,i=>
    if(x0.f0.toList==a1.toList)=true then(O80_0.k1 i) else
    (r80_0 a0 a1 y0 (i+1))
  |[],i=>(O80_0.k0 i (decide (i <((length (map b_si a0)):Int))))
def h80_0 (l0_0:Nat) (a0:(List K_si)) (a1:ByteArray) (i:Int) :St:=⟨[(0,(.one (.bor l0_0 (map b_si a0)))),(1,(.one (.val (.string a1)))),(5,(.one (.val (.int .i64 i))))],[]⟩
def ex80_0:O80_0→VX.Exit
  |.k0 _ _=>(.exit 0)
  |.k1 _=>.ret
def fin80_0 (l0_0:Nat) (a0:(List K_si)) (a1:ByteArray):O80_0→St
  |.k0 w0 w1=>⟨[(0,(.one (.bor l0_0 (map b_si a0)))),(1,(.one (.val (.string a1)))),(5,(.one (.val (.int .i64 w0)))),(9,(.one (.val (.bool w1))))],[]⟩
  |.k1 w0=>⟨[(4,(.one (.val (.int .i64 w0))))],[]⟩
theorem t80_0 {l0_0:Nat} {a0:(List K_si)} {a1:ByteArray} (hy0:length a0*24≤140737488351232):∀(y0:List K_si) (p:List K_si),p++y0=a0→Ev F X (.code l80_0 (h80_0 l0_0 a0 a1 (length p:Int)) (ex80_0 (r80_0 a0 a1 y0 (length p:Int))) (fin80_0 l0_0 a0 a1 (r80_0 a0 a1 y0 (length p:Int))))
  |[],p,hp0=>by
    have hc:¬(decide ((length p:Int) <((length (map b_si a0)):Int)))=true:=by
      rw[← hp0]; simp only[LN,decide_eq_true_eq]; omega
    have st:=ch b80_0 (h80_0 l0_0 a0 a1 (length p:Int)) ⟨[(0,(.one (.bor l0_0 (map b_si a0)))),(1,(.one (.val (.string a1)))),(5,(.oi (length p:Int))),(9,(.one (.val (.bool (decide ((length p:Int) <((length (map b_si a0)):Int)))))))],[]⟩ (.exit 0) 9 (by kernel_rfl) (.f (nt hc) (U 8 .nil))
    rw[show (⟨[(0,(.one (.bor l0_0 (map b_si a0)))),(1,(.one (.val (.string a1)))),(5,(.oi (length p:Int))),(9,(.one (.val (.bool (decide ((length p:Int) <((length (map b_si a0)):Int)))))))],[]⟩:St)=fin80_0 l0_0 a0 a1 (.k0 (length p:Int) (decide ((length p:Int) <((length (map b_si a0)):Int)))) from(by rfl)] at st
    exact .loopX st (show ((.exit 0):VX.Exit)≠.normal from by simp)
  |x0::y0,p,hp0=>by
    have hc:(decide ((length p:Int) <((length (map b_si a0)):Int)))=true:=by
      rw[← hp0]; simp only[LN,decide_eq_true_eq]; omega
    have Hx0:(a0)[toNat (length p:Int)]?=some x0:=by
      rw[← hp0,Int.toNat_natCast]; simp
    have hlen:length (a0)=length p+length y0+1:=by rw[← hp0]; simp; omega
    have hw:wrap .i64 ((length p:Int)+1)=(length p:Int)+1:=wrap64 (by omega)
    simp only[r80_0]
    have f1:0≤(length p:Int):=(by omega)
    have P1 {hs q} (r:PS F X hs q):=(PS.f hc (.f f1 (.f (mp_ b_si Hx0) (hT 8 (.h 14 (.row (b_si x0)) r)))))
    by_cases h_1:(x0.f0.toList==a1.toList)=true
    · try simp only[if_pos h_1]
      have st:=ch b80_0 (h80_0 l0_0 a0 a1 (length p:Int)) ⟨[(4,(.oi (length p:Int)))],[]⟩ .ret 28 (by kernel_rfl) (P1 (.f h_1 (hT 23 .nil)))
      rw[show (⟨[(4,(.oi (length p:Int)))],[]⟩:St)=fin80_0 l0_0 a0 a1 (.k1 (length p:Int)) from(by rfl)] at st
      exact .loopX st (show (.ret:VX.Exit)≠.normal from by simp)
    try simp only[if_neg h_1]
    have st:=ch b80_0 (h80_0 l0_0 a0 a1 (length p:Int)) ⟨[(0,(.one (.bor l0_0 (map b_si a0)))),(1,(.one (.val (.string a1)))),(5,(.oi (wrap .i64 ((length p:Int)+1))))],[]⟩ .normal 30 (by kernel_rfl) (P1 (.f (nt h_1) (.f trivial (U 23 .nil))))
    have ih:=t80_0 (l0_0:=l0_0) (a0:=a0) (a1:=a1) hy0 y0 (p++ [x0]) (by rw[append_assoc]; exact hp0)
    rw[show ((p++ [x0]).length:Int)=(p.length:Int)+1 from by simp] at ih
    rw[show (⟨[(0,(.one (.bor l0_0 (map b_si a0)))),(1,(.one (.val (.string a1)))),(5,(.oi (wrap .i64 ((length p:Int)+1))))],[]⟩:St)=h80_0 l0_0 a0 a1 ((length p:Int)+1)  from(by unfold h80_0; simp only[hw]; done)] at st
    exact .loopN st ih
def m80 (a0:(List K_si)) (a1:ByteArray):Int:=
  (match r80_0 a0 a1 a0 0 with | .k0 w0_0 w1_0=>(-1) | .k1 w0_0=>w0_0)
theorem e80 {l0_0:Nat} {a0:(List K_si)} {a1:ByteArray} (hy0:length a0*24≤140737488351232):Ev F X (.call 80 [(.one (.bor l0_0 (map b_si a0))),(.one (.val (.string a1)))] [] [] [(.one (.val (.int .i64 (m80 a0 a1))))]):=by
  unfold m80
  cases h0:r80_0 a0 a1 a0 0 with
  |k0 w0_0 w1_0=>
    try dsimp only
    have f0:(⟨[(0,(.one (.bor l0_0 (map b_si a0)))),(1,(.one (.val (.string a1)))),(5,(.oi 0))],[]⟩:St)=h80_0 l0_0 a0 a1 0 :=yu
    exact cp ya (.f f0 (.f (ev_ (e:=ex80_0) (g:=(fin80_0 l0_0 a0 a1)) h0 (t80_0 (l0_0:=l0_0) (a0:=a0) (a1:=a1) (by assumption) a0 []  rfl)) (.h 4 (.loop (h80_0 l0_0 a0 a1 0) (.exit 0) ⟨[(0,(.one (.bor l0_0 (map b_si a0)))),(1,(.one (.val (.string a1)))),(5,(.oi w0_0)),(9,(.one (.val (.bool w1_0))))],[]⟩) .nil)))
  |k1 w0_0=>
    try dsimp only
    have f0:(⟨[(0,(.one (.bor l0_0 (map b_si a0)))),(1,(.one (.val (.string a1)))),(5,(.oi 0))],[]⟩:St)=h80_0 l0_0 a0 a1 0 :=yu
    exact cp ya (.f f0 (.f (ev_ (e:=ex80_0) (g:=(fin80_0 l0_0 a0 a1)) h0 (t80_0 (l0_0:=l0_0) (a0:=a0) (a1:=a1) (by assumption) a0 []  rfl)) (.h 4 (.loop (h80_0 l0_0 a0 a1 0) .ret ⟨[(4,(.oi w0_0))],[]⟩) .nil)))
theorem ixr80_0 (a0:(List K_si)) (a1:ByteArray):∀(l:List K_si) (i:Int),(∃(w0:_) (w1:_),r80_0 a0 a1 l i=.k0 w0 w1)∨(∃w,r80_0 a0 a1 l i=.k1 w∧i≤w∧w < i+l.length)
  |[],i=>.inl ⟨i,(decide (i <((length (map b_si a0)):Int))),rfl⟩
  |x::l,i=>by
    have ih:=ixr80_0 a0 a1 l (i+1)
    simp only[r80_0]
    (repeat' split)
    all_goals first
      |exact .inr ⟨i,rfl,by omega,by simp only[length_cons]; omega⟩
      | (rcases ih with ⟨w0, w1, h⟩ | ⟨w, h, h1, h2⟩
         · exact .inl ⟨w0,w1,h⟩
         exact .inr ⟨w,h,by omega,by simp only[length_cons]; omega⟩)
theorem ix80 (a0:(List K_si)) (a1:ByteArray): -1≤m80 a0 a1∧m80 a0 a1 <(length a0:Int):=by
  unfold m80
  rcases ixr80_0 a0 a1 a0 0 with⟨w0,w1,h⟩ |⟨w,h,h1,h2⟩<;>simp only[h]<;>omega
inductive O83_0 where
  |k0 (w0:List K_si) (w1:Int) (w2:Bool)
def r83_0 (a0:(List K_si)):List K_si→Int→List K_si→O83_0
  |x0::y0,i,v0=>
    if(decide ((m80 v0 x0.f0)≥0))=true then(r83_0 a0 y0 (i+1) (set v0 (toNat (m80 v0 x0.f0)) (K_si.mk ((getD v0 (toNat (m80 v0 x0.f0)) (K_si.mk (⟨#[]⟩:ByteArray) 0)).f0) (wrap .i64 (((getD v0 (toNat (m80 v0 x0.f0)) (K_si.mk (⟨#[]⟩:ByteArray) 0)).f1)+x0.f1))))) else
    (r83_0 a0 y0 (i+1) (v0++([x0])))
  |[],i,v0=>(O83_0.k0 v0 i (decide (i <((length (map b_si a0)):Int))))
def h83_0 (l0_0:Nat) (a0:(List K_si)) (i:Int) (v0:List K_si):St:=⟨[(0,(.one (.bor l0_0 (map b_si a0)))),(3,(.one (.ref ⟨(3,0,0),[],0,(length (map d_si v0))⟩))),(4,(.one (.val (.int .i64 i))))],[((3,0,0),.live ⟨2,(map d_si v0),[]⟩)]⟩
def ex83_0:O83_0→VX.Exit
  |.k0 _ _ _=>(.exit 0)
def fin83_0 (l0_0:Nat) (a0:(List K_si)):O83_0→St
  |.k0 w0 w1 w2=>⟨[(0,(.one (.bor l0_0 (map b_si a0)))),(3,(.one (.ref ⟨(3,0,0),[],0,(length (map d_si w0))⟩))),(4,(.one (.val (.int .i64 w1)))),(10,(.one (.val (.bool w2))))],[((3,0,0),.live ⟨2,(map d_si w0),[]⟩)]⟩
abbrev qF:=K_si.mk (⟨#[]⟩:ByteArray) 0
theorem t83_0 {l0_0:Nat} {a0:(List K_si)} (hy0:length a0*24≤70368744177664):∀(y0:List K_si) (p:List K_si) (v0:List K_si),p++y0=a0→(length v0+length y0)*24≤70368744177664→Ev F X (.code l83_0 (h83_0 l0_0 a0 (length p:Int) v0) (ex83_0 (r83_0 a0 y0 (length p:Int) v0)) (fin83_0 l0_0 a0 (r83_0 a0 y0 (length p:Int) v0)))
  |[],p,v0,hp0,hi0=>by
    have hc:¬(decide ((length p:Int) <((length (map b_si a0)):Int)))=true:=by
      rw[← hp0]; simp only[LN,decide_eq_true_eq]; omega
    have hj0:=hi0; try simp only[LN,Int.toNat_natCast] at hj0
    have st:=ch b83_0 (h83_0 l0_0 a0 (length p:Int) v0) ⟨[(0,(.one (.bor l0_0 (map b_si a0)))),(3,(.one (.ref ⟨(3,0,0),[],0,(length (map d_si v0))⟩))),(4,(.oi (length p:Int))),(10,(.one (.val (.bool (decide ((length p:Int) <((length (map b_si a0)):Int)))))))],[((3,0,0),.live ⟨2,(map d_si v0),[]⟩)]⟩ (.exit 0) 9 (by kernel_rfl) (.f (nt hc) (U 8 .nil))
    rw[show (⟨[(0,(.one (.bor l0_0 (map b_si a0)))),(3,(.one (.ref ⟨(3,0,0),[],0,(length (map d_si v0))⟩))),(4,(.oi (length p:Int))),(10,(.one (.val (.bool (decide ((length p:Int) <((length (map b_si a0)):Int)))))))],[((3,0,0),.live ⟨2,(map d_si v0),[]⟩)]⟩:St)=fin83_0 l0_0 a0 (.k0 v0 (length p:Int) (decide ((length p:Int) <((length (map b_si a0)):Int)))) from(by rfl)] at st
    exact .loopX st (show ((.exit 0):VX.Exit)≠.normal from by simp)
  |x0::y0,p,v0,hp0,hi0=>by
    have hc:(decide ((length p:Int) <((length (map b_si a0)):Int)))=true:=by
      rw[← hp0]; simp only[LN,decide_eq_true_eq]; omega
    have Hx0:(a0)[toNat (length p:Int)]?=some x0:=by
      rw[← hp0,Int.toNat_natCast]; simp
    have hlen:length (a0)=length p+length y0+1:=by rw[← hp0]; simp; omega
    have hw:wrap .i64 ((length p:Int)+1)=(length p:Int)+1:=wrap64 (by omega)
    have hj0:=hi0; try simp only[LN,Int.toNat_natCast] at hj0
    simp only[r83_0]
    have f1:0≤(length p:Int):=(by omega)
    have P1 {hs q} (r:PS F X hs q):=(PS.f hc (.f f1 (.f (mp_ b_si Hx0) (ln_si v0 (hT 8 (.h 16 (.row (b_si x0)) (.r 22 [] [(map b_si v0)] (e80 (l0_0:=0) (a0:=v0) (a1:=x0.f0) (by omega)) r)))))))
    by_cases h_1:(decide ((m80 v0 x0.f0)≥0))=true
    · try simp only[if_pos h_1]
      have f8:0+(length (map d_si v0))≤(length (map d_si v0)):=(by omega)
      have f9:0≤(m80 v0 x0.f0)∧(m80 v0 x0.f0) <((length (map d_si v0)):Int):=(by have q:=ix80 v0 x0.f0; simp only[decide_eq_true_eq,length_map] at*; omega)
      have f17:(set (map d_si v0) (0+(toNat (m80 v0 x0.f0))) [(.val (.string ((getD v0 (toNat (m80 v0 x0.f0)) qF).f0))),(.i (wrap .i64 (((getD v0 (toNat (m80 v0 x0.f0)) qF).f1)+x0.f1)))])=(map d_si (set v0 (toNat (m80 v0 x0.f0)) (K_si.mk ((getD v0 (toNat (m80 v0 x0.f0)) qF).f0) (wrap .i64 (((getD v0 (toNat (m80 v0 x0.f0)) qF).f1)+x0.f1))))):=(by simp[take_of_length_le,d_si]; done)
      have st:=ch b83_0 (h83_0 l0_0 a0 (length p:Int) v0) ⟨[(0,(.one (.bor l0_0 (map b_si a0)))),(3,(.one (.ref ⟨(3,0,0),[],0,(length (map d_si v0))⟩))),(4,(.oi (wrap .i64 ((length p:Int)+1))))],[((3,0,0),.live ⟨2,(map d_si (set v0 (toNat (m80 v0 x0.f0)) (K_si.mk ((getD v0 (toNat (m80 v0 x0.f0)) qF).f0) (wrap .i64 (((getD v0 (toNat (m80 v0 x0.f0)) qF).f1)+x0.f1))))),[]⟩)]⟩ .normal 69 (by kernel_rfl) (P1 (.f h_1 (.f f8 (.f f9 (.f (mz_ d_si (getD_at v0 (toNat (m80 v0 x0.f0)) qF (by have q:=ix80 v0 x0.f0; simp only[decide_eq_true_eq,length_map] at*; omega))) (.f f1 (.f (mp_ b_si Hx0) (.f trivial (.f f8 (.f f9 (.f (mz_ d_si (getD_at v0 (toNat (m80 v0 x0.f0)) qF (by have q:=ix80 v0 x0.f0; simp only[decide_eq_true_eq,length_map] at*; omega))) (.f f17 (.f trivial (hT 29 (.h 43 (.rowD (d_si (getD v0 (toNat (m80 v0 x0.f0)) qF))) (.h 49 (.row (b_si x0)) (.h 61 (.rowD (d_si (getD v0 (toNat (m80 v0 x0.f0)) qF))) (.h 62 (.norm (3,0,0) (map d_si (set v0 (toNat (m80 v0 x0.f0)) (K_si.mk ((getD v0 (toNat (m80 v0 x0.f0)) qF).f0) (wrap .i64 (((getD v0 (toNat (m80 v0 x0.f0)) qF).f1)+x0.f1)))))) .nil))))))))))))))))))
      have ih:=t83_0 (l0_0:=l0_0) (a0:=a0) hy0 y0 (p++ [x0]) (set v0 (toNat (m80 v0 x0.f0)) (K_si.mk ((getD v0 (toNat (m80 v0 x0.f0)) qF).f0) (wrap .i64 (((getD v0 (toNat (m80 v0 x0.f0)) qF).f1)+x0.f1)))) (by rw[append_assoc]; exact hp0) (by simp only[LN]; omega)
      rw[show ((p++ [x0]).length:Int)=(p.length:Int)+1 from by simp] at ih
      rw[show (⟨[(0,(.one (.bor l0_0 (map b_si a0)))),(3,(.one (.ref ⟨(3,0,0),[],0,(length (map d_si v0))⟩))),(4,(.oi (wrap .i64 ((length p:Int)+1))))],[((3,0,0),.live ⟨2,(map d_si (set v0 (toNat (m80 v0 x0.f0)) (K_si.mk ((getD v0 (toNat (m80 v0 x0.f0)) qF).f0) (wrap .i64 (((getD v0 (toNat (m80 v0 x0.f0)) qF).f1)+x0.f1))))),[]⟩)]⟩:St)=h83_0 l0_0 a0 ((length p:Int)+1) (set v0 (toNat (m80 v0 x0.f0)) (K_si.mk ((getD v0 (toNat (m80 v0 x0.f0)) qF).f0) (wrap .i64 (((getD v0 (toNat (m80 v0 x0.f0)) qF).f1)+x0.f1)))) from(by unfold h83_0; simp only[hw,length_map,length_set,length_append,length_replicate,length_cons,length_nil]; done)] at st
      exact .loopN st ih
    try simp only[if_neg h_1]
    have f10:0+(length (map d_si v0))≤(length (map d_si v0)):=(by omega)
    have f11:1≤1:=(by omega)
    have f12:((take 1 (drop 0 [[(.val (.string x0.f0)),(.i x0.f1)]])).all fun x=>x.all copyable)=true:=(by trivial)
    have f13:(length ((take (length (map d_si v0)) (drop 0 (map d_si v0)))++([[(.val (.string x0.f0)),(.i x0.f1)]]:List (List D))))*24≤70368744177664:=(by simp only[length_map,length_append,length_cons,length_nil,length_take,length_drop]; omega)
    have f14:∀r∈([[(.val (.string x0.f0)),(.i x0.f1)]]:List (List D)),r.length=2:=(by simp; done)
    have f15:((take (length (map d_si v0)) (drop 0 (map d_si v0)))++([[(.val (.string x0.f0)),(.i x0.f1)]]:List (List D)))=(map d_si (v0++([x0]))):=(by simp[take_of_length_le,d_si]; done)
    have st:=ch b83_0 (h83_0 l0_0 a0 (length p:Int) v0) ⟨[(0,(.one (.bor l0_0 (map b_si a0)))),(3,(.one (.ref ⟨(3,0,0),[],0,(length ((take (length (map d_si v0)) (drop 0 (map d_si v0)))++([[(.val (.string x0.f0)),(.i x0.f1)]]:List (List D))))⟩))),(4,(.oi (wrap .i64 ((length p:Int)+1))))],[((3,0,0),.live ⟨2,(map d_si (v0++([x0]))),[]⟩)]⟩ .normal 53 (by kernel_rfl) (P1 (.f (nt h_1) (.f f1 (.f (mp_ b_si Hx0) (.f f10 (.f f11 (.f f12 (.f f13 (.f f14 (.f f15 (.f trivial (U 29 (.h 37 (.row (b_si x0)) (hT 43 (.h 46 (.norm (3,0,0) (map d_si (v0++([x0])))) .nil)))))))))))))))
    have ih:=t83_0 (l0_0:=l0_0) (a0:=a0) hy0 y0 (p++ [x0]) (v0++([x0])) (by rw[append_assoc]; exact hp0) (by simp only[LN]; omega)
    rw[show ((p++ [x0]).length:Int)=(p.length:Int)+1 from by simp] at ih
    rw[show (⟨[(0,(.one (.bor l0_0 (map b_si a0)))),(3,(.one (.ref ⟨(3,0,0),[],0,(length ((take (length (map d_si v0)) (drop 0 (map d_si v0)))++([[(.val (.string x0.f0)),(.i x0.f1)]]:List (List D))))⟩))),(4,(.oi (wrap .i64 ((length p:Int)+1))))],[((3,0,0),.live ⟨2,(map d_si (v0++([x0]))),[]⟩)]⟩:St)=h83_0 l0_0 a0 ((length p:Int)+1) (v0++([x0])) from(by unfold h83_0; simp[hw,take_of_length_le,d_si]; done)] at st
    exact .loopN st ih
def m83 (a0:(List K_si)):(List K_si):=
  (match r83_0 a0 a0 0 ([]) with | .k0 w0_0 w1_0 w2_0=>w0_0)
theorem e83 {l0_0:Nat} {a0:(List K_si)} (hy0:length a0*24≤70368744177664):Ev F X (.call 83 [(.one (.bor l0_0 (map b_si a0)))] [] [] [(.one (.own 2 (map d_si (m83 a0))))]):=by
  unfold m83
  cases h0:r83_0 a0 a0 0 ([]) with
  |k0 w0_0 w1_0 w2_0=>
    try dsimp only
    have f0:(⟨[(0,(.one (.bor l0_0 (map b_si a0)))),(3,(.one (.ref ⟨(3,0,0),[],0,0⟩))),(4,(.oi 0))],[((3,0,0),.live ⟨2,[],[]⟩)]⟩:St)=h83_0 l0_0 a0 0 ([]):=yu
    exact cp ya (.f f0 (.f (ev_ (e:=ex83_0) (g:=(fin83_0 l0_0 a0)) h0 (t83_0 (l0_0:=l0_0) (a0:=a0) (by assumption) a0 [] ([]) rfl yy)) (pe 0 (pe (length (map d_si w0_0)) (.f (pureR_si w0_0) (.h 8 (.loop (h83_0 l0_0 a0 0 ([])) (.exit 0) ⟨[(0,(.one (.bor l0_0 (map b_si a0)))),(3,(.one (.ref ⟨(3,0,0),[],0,(length (map d_si w0_0))⟩))),(4,(.oi w1_0)),(10,(.one (.val (.bool w2_0))))],[((3,0,0),.live ⟨2,(map d_si w0_0),[]⟩)]⟩) .nil))))))
theorem mlen_r83 (a:List K_si):∀(l:List K_si) (i:Int) (v:List K_si),∃w j b,r83_0 a l i v=.k0 w j b∧w.length≤v.length+l.length
  |[],i,v=>⟨_,_,_,rfl,by simp⟩
  |x::l,i,v=>by
    simp only[r83_0]
    split
    · obtain⟨w,j,b,h,h2⟩:=mlen_r83 a l (i+1) (set v (toNat (m80 v x.f0)) (K_si.mk ((getD v (toNat (m80 v x.f0)) qF).f0) (wrap .i64 (((getD v (toNat (m80 v x.f0)) qF).f1)+x.f1))))
      exact⟨w,j,b,h,by simp at h2⊢; omega⟩
    obtain⟨w,j,b,h,h2⟩:=mlen_r83 a l (i+1) (v++ [x])
    exact⟨w,j,b,h,by simp at h2⊢; omega⟩
theorem mlen_83 (a:List K_si):(m83 a).length≤a.length:=by
  unfold m83
  obtain⟨w,j,b,h,h2⟩:=mlen_r83 a a 0 []
  rw[h]; simpa using h2
theorem mne_r83 (a:List K_si):∀(l:List K_si) (i:Int) (v:List K_si) (k:Nat),(∀z∈l,1≤z.f1∧z.f1≤9999)→(∀z∈v,1≤z.f1∧z.f1≤9999*(k:Int))→k+l.length≤1000→∃w j b,r83_0 a l i v=.k0 w j b∧v.length≤w.length∧(0 < l.length→0 < w.length)∧(∀z∈w,1≤z.f1∧z.f1≤9999*((k+l.length:Nat):Int))
  |[],i,v,k,_,hv,_=>⟨v,_,_,rfl,Nat.le_refl _,by simp,by simpa using hv⟩
  |x::l,i,v,k,hl,hv,hk=>by
    have hx:=hl x (List.mem_cons_self ..)
    have hl':∀z∈l,1≤z.f1∧z.f1≤9999:=fun z hz=>hl z (List.mem_cons_of_mem _ hz)
    simp only[length_cons] at hk
    simp only[r83_0]
    have q:=ix80 v x.f0
    by_cases h:(decide ((m80 v x.f0)≥0))=true
    · rw[if_pos h]
      simp only[decide_eq_true_eq] at h
      have hg:getD v (toNat (m80 v x.f0)) (K_si.mk (⟨#[]⟩:ByteArray) 0)∈v:=by
        rw[List.getD_eq_getElem?_getD,List.getElem?_eq_getElem yd]; exact List.getElem_mem _
      have hgb:=hv _ hg
      obtain ⟨w, j, b, e, h1, h2, h3⟩ := mne_r83 a l (i + 1) (set v (toNat (m80 v x.f0)) (K_si.mk ((getD v (toNat (m80 v x.f0)) (K_si.mk (⟨#[]⟩ : ByteArray) 0)).f0) (wrap .i64 (((getD v (toNat (m80 v x.f0)) (K_si.mk (⟨#[]⟩ : ByteArray) 0)).f1) + x.f1)))) (k + 1) hl' (fun z hz => by
        rcases List.mem_or_eq_of_mem_set hz with hz | rfl
        · have:=hv z hz; omega
        simp only[]
        rw[wrap64 yd]; omega) yd
      refine⟨w,j,b,e,by simpa using h1,fun _=>?_,fun z hz=>?_⟩
      · simp only[length_set] at h1
        have:0 < v.length:=by omega
        omega
      have:=h3 z hz; simp only[length_cons]; omega
    rw[if_neg h]
    obtain ⟨w, j, b, e, h1, h2, h3⟩ := mne_r83 a l (i + 1) (v ++ [x]) (k + 1) hl' (fun z hz => by
      rcases List.mem_append.1 hz with hz | hz
      · have:=hv z hz; omega
      rw[List.mem_singleton.1 hz]; omega) yd
    simp only[length_append,length_cons,length_nil] at h1
    refine⟨w,j,b,e,by omega,fun _=>by omega,fun z hz=>?_⟩
    have:=h3 z hz; simp only[length_cons]; omega
theorem mne_83 (a:List K_si) (h:∀z∈a,1≤z.f1∧z.f1≤9999) (hl:a.length≤12):(0 < a.length→0 <(m83 a).length)∧∀z∈m83 a,1≤z.f1∧z.f1≤119988:=by
  obtain⟨w,j,b,e,h1,h2,h3⟩:=mne_r83 a a 0 [] 0 h yax yd
  unfold m83
  rw[e]
  refine⟨h2,fun z hz=>?_⟩
  have:=h3 z hz
  omega
theorem msz_r (a:List K_si):∀(l:List K_si) (i:Int) (v:List K_si),(∀z∈l,ByteArray.size z.f0≤3)→(∀z∈v,ByteArray.size z.f0≤3)→∃w j b,r83_0 a l i v=.k0 w j b∧∀z∈w,ByteArray.size z.f0≤3
  |[],i,v,_,hv=>⟨_,_,_,rfl,hv⟩
  |x::l,i,v,hl,hv=>by
    have hl':∀z∈l,ByteArray.size z.f0≤3:=fun z hz=>hl z (List.mem_cons_of_mem _ hz)
    simp only[r83_0]
    split
    · exact msz_r a l _ _ hl' yaC
    exact msz_r a l _ _ hl' yav
theorem msz {a:List K_si} (h:∀z∈a,ByteArray.size z.f0≤3):∀z∈m83 a,ByteArray.size z.f0≤3:=by
  obtain⟨w,j,b,e,hw⟩:=msz_r a a 0 [] h (fun z hz=>by cases hz)
  unfold m83
  rw[e]; exact hw
inductive O71_0 where
  |k0 (w0:List K_si) (w1:List Int) (w2:Int) (w3:Int) (w4:Bool)
def r71_0 (a0:Int) (a1:(List K_si)):List K_si→Int→List K_si→List Int→Int→O71_0
  |x0::y0,i,v0,v1,v5=>
    (r71_0 a0 a1 y0 (i+1) (v0++([(K_si.mk x0.f0 (wrap .i64 (Int.tdiv (wrap .i64 (a0*x0.f1)) (m64 (m83 a1)))))])) (v1++([(Int.tmod (wrap .i64 (a0*x0.f1)) (m64 (m83 a1)))])) (wrap .i64 (v5 - (wrap .i64 (Int.tdiv (wrap .i64 (a0*x0.f1)) (m64 (m83 a1)))))))
  |[],i,v0,v1,v5=>(O71_0.k0 v0 v1 v5 i (decide (i <((length (map d_si (m83 a1))):Int))))
def h71_0 (l1_0:Nat) (a0:Int) (a1:(List K_si)) (i:Int) (v0:List K_si) (v1:List Int) (v5:Int):St:=⟨[(0,(.one (.val (.int .i64 a0)))),(5,(.one (.ref ⟨(5,0,0),[],0,(length (map d_si (m83 a1)))⟩))),(6,(.one (.val (.int .i64 (m64 (m83 a1)))))),(7,(.one (.ref ⟨(7,0,0),[],0,(length (map d_si v0))⟩))),(8,(.one (.ref ⟨(8,0,0),[],0,(length (map d_i v1))⟩))),(9,(.one (.val (.int .i64 v5)))),(10,(.one (.val (.int .i64 i))))],[((5,0,0),.live ⟨2,(map d_si (m83 a1)),[]⟩),((7,0,0),.live ⟨2,(map d_si v0),[]⟩),((8,0,0),.live ⟨1,(map d_i v1),[]⟩)]⟩
def ex71_0:O71_0→VX.Exit
  |.k0 _ _ _ _ _=>(.exit 0)
def fin71_0 (l1_0:Nat) (a0:Int) (a1:(List K_si)):O71_0→St
  |.k0 w0 w1 w2 w3 w4=>⟨[(0,(.one (.val (.int .i64 a0)))),(5,(.one (.ref ⟨(5,0,0),[],0,(length (map d_si (m83 a1)))⟩))),(6,(.one (.val (.int .i64 (m64 (m83 a1)))))),(7,(.one (.ref ⟨(7,0,0),[],0,(length (map d_si w0))⟩))),(8,(.one (.ref ⟨(8,0,0),[],0,(length (map d_i w1))⟩))),(9,(.one (.val (.int .i64 w2)))),(10,(.one (.val (.int .i64 w3)))),(24,(.one (.val (.bool w4))))],[((5,0,0),.live ⟨2,(map d_si (m83 a1)),[]⟩),((7,0,0),.live ⟨2,(map d_si w0),[]⟩),((8,0,0),.live ⟨1,(map d_i w1),[]⟩)]⟩
theorem t71_0 {l1_0:Nat} {a0:Int} {a1:(List K_si)} (hy0:0≤a0) (hy1:a0≤1000000) (hy2:0 < length a1) (hy3:length a1≤12) (hy4:∀z∈a1,1≤z.f1∧z.f1≤9999):∀(y0:List K_si) (p:List K_si) (v0:List K_si) (v1:List Int) (v5:Int),p++y0=m83 a1→(length v0+length y0)*24≤70368744177664→(length v1+length y0)*8≤70368744177664→Ev F X (.code l71_0 (h71_0 l1_0 a0 a1 (length p:Int) v0 v1 v5) (ex71_0 (r71_0 a0 a1 y0 (length p:Int) v0 v1 v5)) (fin71_0 l1_0 a0 a1 (r71_0 a0 a1 y0 (length p:Int) v0 v1 v5)))
  |[],p,v0,v1,v5,hp0,hi0,hi1=>by
    have hc:¬(decide ((length p:Int) <((length (map d_si (m83 a1))):Int)))=true:=by
      rw[← hp0]; simp only[LN,decide_eq_true_eq]; omega
    have hj0:=hi0; try simp only[LN,Int.toNat_natCast] at hj0
    have hj1:=hi1; try simp only[LN,Int.toNat_natCast] at hj1
    have st:=ch b71_0 (h71_0 l1_0 a0 a1 (length p:Int) v0 v1 v5) ⟨[(0,(.oi a0)),(5,(.one (.ref ⟨(5,0,0),[],0,(length (map d_si (m83 a1)))⟩))),(6,(.oi (m64 (m83 a1)))),(7,(.one (.ref ⟨(7,0,0),[],0,(length (map d_si v0))⟩))),(8,(.one (.ref ⟨(8,0,0),[],0,(length (map d_i v1))⟩))),(9,(.oi v5)),(10,(.oi (length p:Int))),(24,(.one (.val (.bool (decide ((length p:Int) <((length (map d_si (m83 a1))):Int)))))))],[((5,0,0),.live ⟨2,(map d_si (m83 a1)),[]⟩),((7,0,0),.live ⟨2,(map d_si v0),[]⟩),((8,0,0),.live ⟨1,(map d_i v1),[]⟩)]⟩ (.exit 0) 9 (by kernel_rfl) (.f (nt hc) (U 8 .nil))
    rw[show (⟨[(0,(.oi a0)),(5,(.one (.ref ⟨(5,0,0),[],0,(length (map d_si (m83 a1)))⟩))),(6,(.oi (m64 (m83 a1)))),(7,(.one (.ref ⟨(7,0,0),[],0,(length (map d_si v0))⟩))),(8,(.one (.ref ⟨(8,0,0),[],0,(length (map d_i v1))⟩))),(9,(.oi v5)),(10,(.oi (length p:Int))),(24,(.one (.val (.bool (decide ((length p:Int) <((length (map d_si (m83 a1))):Int)))))))],[((5,0,0),.live ⟨2,(map d_si (m83 a1)),[]⟩),((7,0,0),.live ⟨2,(map d_si v0),[]⟩),((8,0,0),.live ⟨1,(map d_i v1),[]⟩)]⟩:St)=fin71_0 l1_0 a0 a1 (.k0 v0 v1 v5 (length p:Int) (decide ((length p:Int) <((length (map d_si (m83 a1))):Int)))) from(by rfl)] at st
    exact .loopX st (show ((.exit 0):VX.Exit)≠.normal from by simp)
  |x0::y0,p,v0,v1,v5,hp0,hi0,hi1=>by
    have hc:(decide ((length p:Int) <((length (map d_si (m83 a1))):Int)))=true:=by
      rw[← hp0]; simp only[LN,decide_eq_true_eq]; omega
    have Hx0:(m83 a1)[toNat (length p:Int)]?=some x0:=by
      rw[← hp0,Int.toNat_natCast]; simp
    have hlen:length (m83 a1)=length p+length y0+1:=by rw[← hp0]; simp; omega
    have hw:wrap .i64 ((length p:Int)+1)=(length p:Int)+1:=wrap64 (by have hz:length (m83 a1)*24≤140737488351232:=(by first | with_reducible assumption | omega |(have q:=mlen_83 a1; simp only[length_map,length_nil,Nat.zero_add] at*; omega) |(have q:=mlen_83 a1; omega) |(have q1:=mne_83 a1 (by assumption) (by omega); have q2:=mlen_83 a1; have q:=(tot_64 (m83 a1) q1.2 (by omega)).1; have q3:=q1.1 (by omega); omega) |(simp only[decide_eq_true_eq,length_map] at*; omega) |(simp only[length_map] at*; omega) |(unfold m83;(repeat' split)<;>simp_all<;>omega) | assumption |(simp only[length_map]; omega) |(simp; omega)); omega)
    have hj0:=hi0; try simp only[LN,Int.toNat_natCast] at hj0
    have hj1:=hi1; try simp only[LN,Int.toNat_natCast] at hj1
    simp only[r71_0]
    have f1:0+(length (map d_si (m83 a1)))≤(length (map d_si (m83 a1))):=(by omega)
    have f2:0≤(length p:Int)∧(length p:Int) <((length (map d_si (m83 a1))):Int):=(by have q:=mlen_83 a1; simp only[length_map,length_nil,Nat.zero_add] at*; omega)
    have f4:(m64 (m83 a1))≠0:=(by have q1:=mne_83 a1 (by assumption) (by omega); have q2:=mlen_83 a1; have q:=(tot_64 (m83 a1) q1.2 (by omega)).1; have q3:=q1.1 (by omega); omega)
    have f8:0+(length (map d_si v0))≤(length (map d_si v0)):=(by omega)
    have f9:1≤1:=(by omega)
    have f10:((take 1 (drop 0 [[(.val (.string x0.f0)),(.i (wrap .i64 (Int.tdiv (wrap .i64 (a0*x0.f1)) (m64 (m83 a1)))))]])).all fun x=>x.all copyable)=true:=(by trivial)
    have f11:(length ((take (length (map d_si v0)) (drop 0 (map d_si v0)))++([[(.val (.string x0.f0)),(.i (wrap .i64 (Int.tdiv (wrap .i64 (a0*x0.f1)) (m64 (m83 a1)))))]]:List (List D))))*24≤70368744177664:=(by unfold m64 m83;(repeat' split)<;>simp_all<;>omega)
    have f12:∀r∈([[(.val (.string x0.f0)),(.i (wrap .i64 (Int.tdiv (wrap .i64 (a0*x0.f1)) (m64 (m83 a1)))))]]:List (List D)),r.length=2:=(by unfold m64 m83;(repeat' split)<;>simp_all<;>omega)
    have f13:((take (length (map d_si v0)) (drop 0 (map d_si v0)))++([[(.val (.string x0.f0)),(.i (wrap .i64 (Int.tdiv (wrap .i64 (a0*x0.f1)) (m64 (m83 a1)))))]]:List (List D)))=(map d_si (v0++([(K_si.mk x0.f0 (wrap .i64 (Int.tdiv (wrap .i64 (a0*x0.f1)) (m64 (m83 a1)))))]))):=(by simp[take_of_length_le,d_si]; done)
    have f18:0+(length (map d_i v1))≤(length (map d_i v1)):=(by omega)
    have f20:((take 1 (drop 0 [[(.i (Int.tmod (wrap .i64 (a0*x0.f1)) (m64 (m83 a1))))]])).all fun x=>x.all copyable)=true:=(by assumption)
    have f21:(length ((take (length (map d_i v1)) (drop 0 (map d_i v1)))++([[(.i (Int.tmod (wrap .i64 (a0*x0.f1)) (m64 (m83 a1))))]]:List (List D))))*8≤70368744177664:=(by unfold m64 m83;(repeat' split)<;>simp_all<;>omega)
    have f22:∀r∈([[(.i (Int.tmod (wrap .i64 (a0*x0.f1)) (m64 (m83 a1))))]]:List (List D)),r.length=1:=(by unfold m64 m83;(repeat' split)<;>simp_all<;>omega)
    have f23:((take (length (map d_i v1)) (drop 0 (map d_i v1)))++([[(.i (Int.tmod (wrap .i64 (a0*x0.f1)) (m64 (m83 a1))))]]:List (List D)))=(map d_i (v1++([(Int.tmod (wrap .i64 (a0*x0.f1)) (m64 (m83 a1)))]))):=(by simp[take_of_length_le,d_i]; done)
    have st:=ch b71_0 (h71_0 l1_0 a0 a1 (length p:Int) v0 v1 v5) ⟨[(0,(.oi a0)),(5,(.one (.ref ⟨(5,0,0),[],0,(length (map d_si (m83 a1)))⟩))),(6,(.oi (m64 (m83 a1)))),(7,(.one (.ref ⟨(7,0,0),[],0,(length ((take (length (map d_si v0)) (drop 0 (map d_si v0)))++([[(.val (.string x0.f0)),(.i (wrap .i64 (Int.tdiv (wrap .i64 (a0*x0.f1)) (m64 (m83 a1)))))]]:List (List D))))⟩))),(8,(.one (.ref ⟨(8,0,0),[],0,(length ((take (length (map d_i v1)) (drop 0 (map d_i v1)))++([[(.i (Int.tmod (wrap .i64 (a0*x0.f1)) (m64 (m83 a1))))]]:List (List D))))⟩))),(9,(.oi (wrap .i64 (v5 - (wrap .i64 (Int.tdiv (wrap .i64 (a0*x0.f1)) (m64 (m83 a1)))))))),(10,(.oi (wrap .i64 ((length p:Int)+1))))],[((5,0,0),.live ⟨2,(map d_si (m83 a1)),[]⟩),((7,0,0),.live ⟨2,(map d_si (v0++([(K_si.mk x0.f0 (wrap .i64 (Int.tdiv (wrap .i64 (a0*x0.f1)) (m64 (m83 a1)))))]))),[]⟩),((8,0,0),.live ⟨1,(map d_i (v1++([(Int.tmod (wrap .i64 (a0*x0.f1)) (m64 (m83 a1)))]))),[]⟩)]⟩ .normal 93 (by kernel_rfl) (.f hc (.f f1 (.f f2 (.f (mz_ d_si Hx0) (.f f4 (.f f1 (.f f2 (.f (mz_ d_si Hx0) (.f f8 (.f f9 (.f f10 (.f f11 (.f f12 (.f f13 (.f f1 (.f f2 (.f (mz_ d_si Hx0) (.f f4 (.f f18 (.f f9 (.f f20 (.f f21 (.f f22 (.f f23 (.f trivial (hT 8 (.h 20 (.rowD (d_si x0)) (.h 40 (.rowD (d_si x0)) (hT 48 (.h 51 (.norm (7,0,0) (map d_si (v0++([(K_si.mk x0.f0 (wrap .i64 (Int.tdiv (wrap .i64 (a0*x0.f1)) (m64 (m83 a1)))))])))) (.h 65 (.rowD (d_si x0)) (hT 75 (.h 78 (.norm (8,0,0) (map d_i (v1++([(Int.tmod (wrap .i64 (a0*x0.f1)) (m64 (m83 a1)))])))) .nil)))))))))))))))))))))))))))))))))
    have ih:=t71_0 (l1_0:=l1_0) (a0:=a0) (a1:=a1) hy0 hy1 hy2 hy3 hy4 y0 (p++ [x0]) (v0++([(K_si.mk x0.f0 (wrap .i64 (Int.tdiv (wrap .i64 (a0*x0.f1)) (m64 (m83 a1)))))])) (v1++([(Int.tmod (wrap .i64 (a0*x0.f1)) (m64 (m83 a1)))])) (wrap .i64 (v5 - (wrap .i64 (Int.tdiv (wrap .i64 (a0*x0.f1)) (m64 (m83 a1)))))) (by rw[append_assoc]; exact hp0) (by simp only[LN]; omega) (by simp only[LN]; omega)
    rw[show ((p++ [x0]).length:Int)=(p.length:Int)+1 from by simp] at ih
    rw[show (⟨[(0,(.oi a0)),(5,(.one (.ref ⟨(5,0,0),[],0,(length (map d_si (m83 a1)))⟩))),(6,(.oi (m64 (m83 a1)))),(7,(.one (.ref ⟨(7,0,0),[],0,(length ((take (length (map d_si v0)) (drop 0 (map d_si v0)))++([[(.val (.string x0.f0)),(.i (wrap .i64 (Int.tdiv (wrap .i64 (a0*x0.f1)) (m64 (m83 a1)))))]]:List (List D))))⟩))),(8,(.one (.ref ⟨(8,0,0),[],0,(length ((take (length (map d_i v1)) (drop 0 (map d_i v1)))++([[(.i (Int.tmod (wrap .i64 (a0*x0.f1)) (m64 (m83 a1))))]]:List (List D))))⟩))),(9,(.oi (wrap .i64 (v5 - (wrap .i64 (Int.tdiv (wrap .i64 (a0*x0.f1)) (m64 (m83 a1)))))))),(10,(.oi (wrap .i64 ((length p:Int)+1))))],[((5,0,0),.live ⟨2,(map d_si (m83 a1)),[]⟩),((7,0,0),.live ⟨2,(map d_si (v0++([(K_si.mk x0.f0 (wrap .i64 (Int.tdiv (wrap .i64 (a0*x0.f1)) (m64 (m83 a1)))))]))),[]⟩),((8,0,0),.live ⟨1,(map d_i (v1++([(Int.tmod (wrap .i64 (a0*x0.f1)) (m64 (m83 a1)))]))),[]⟩)]⟩:St)=h71_0 l1_0 a0 a1 ((length p:Int)+1) (v0++([(K_si.mk x0.f0 (wrap .i64 (Int.tdiv (wrap .i64 (a0*x0.f1)) (m64 (m83 a1)))))])) (v1++([(Int.tmod (wrap .i64 (a0*x0.f1)) (m64 (m83 a1)))])) (wrap .i64 (v5 - (wrap .i64 (Int.tdiv (wrap .i64 (a0*x0.f1)) (m64 (m83 a1)))))) from(by unfold h71_0; simp[hw,take_of_length_le,d_si,d_i]; done)] at st
    exact .loopN st ih
def post71_0 (n0 n1:Nat):O71_0→Prop
  |.k0 w0 w1 _ _ _=>length w0=n0∧length w1=n1
theorem z71_0 {a0:Int} {a1:(List K_si)}:∀(y0:List K_si) (i:Int) (v0:List K_si) (v1:List Int) (v5:Int),post71_0 (length v0+length y0) (length v1+length y0) (r71_0 a0 a1 y0 i v0 v1 v5)
  |[],i,v0,v1,v5=>by
    first | trivial |(simp only[post71_0,length_nil,Nat.add_zero]; done) |(simp[post71_0]; done)
  |x0::y0,i,v0,v1,v5=>by
    simp only[r71_0]
    have z:=z71_0 (a0:=a0) (a1:=a1) y0 (i+1) (v0++([(K_si.mk x0.f0 (wrap .i64 (Int.tdiv (wrap .i64 (a0*x0.f1)) (m64 (m83 a1)))))])) (v1++([(Int.tmod (wrap .i64 (a0*x0.f1)) (m64 (m83 a1)))])) (wrap .i64 (v5 - (wrap .i64 (Int.tdiv (wrap .i64 (a0*x0.f1)) (m64 (m83 a1))))))
    rw[show (length v0+length (x0::y0))=(length (v0++([(K_si.mk x0.f0 (wrap .i64 (Int.tdiv (wrap .i64 (a0*x0.f1)) (m64 (m83 a1)))))]))+length y0) from by first | omega |(simp only[LN]; done) |(simp only[LN]; omega),show (length v1+length (x0::y0))=(length (v1++([(Int.tmod (wrap .i64 (a0*x0.f1)) (m64 (m83 a1)))]))+length y0) from by first | omega |(simp only[LN]; done) |(simp only[LN]; omega)]
    exact z
theorem left_71 (a0:Int) (a1:List K_si):∀(l:List K_si) (i:Int) (v0:List K_si) (v1:List Int) (v4:Int),v4≤9223372036854775807→∀w0 w1 w2 w3 w4,r71_0 a0 a1 l i v0 v1 v4=.k0 w0 w1 w2 w3 w4→w2≤9223372036854775807
  |[],i,v0,v1,v4,h,w0,w1,w2,w3,w4,e=>by
    simp only[r71_0] at e
    injection e with e0 e1 e2 e3 e4
    omega
  |x::l,i,v0,v1,v4,h,w0,w1,w2,w3,w4,e=>by
    simp only[r71_0] at e
    exact left_71 a0 a1 l (i+1) _ _ _ (wrap64_range _).2 w0 w1 w2 w3 w4 e
inductive O71_2 where
  |k0 (w0:Int) (w1:Int) (w2:Bool)
def r71_2 (c1_71_2:List Int) (c4_71_2:List Int):Nat→Int→Int→O71_2
  |n+1,v0,v1=>
    if (decide (v1 < ((length (map d_i c1_71_2)) : Int))) = true then (if (decide ((getD c4_71_2 (toNat v1) 0) > (getD c4_71_2 (toNat v0) 0))) = true then (r71_2 c1_71_2 c4_71_2 n v1 (wrap .i64 (v1 + 1))) else
      (r71_2 c1_71_2 c4_71_2 n v0 (wrap .i64 (v1+1)))) else
    (O71_2.k0 v0 v1 (decide (v1 <((length (map d_i c1_71_2)):Int))))
  |0,v0,v1=>(O71_2.k0 v0 v1 (decide (v1 <((length (map d_i c1_71_2)):Int))))
def h71_2 (l1_0:Nat) (a0:Int) (a1:(List K_si)) (c2_71_1:Int) (c0_71_2:List K_si) (c1_71_2:List Int) (c2_71_2:Int) (c3_71_2:List K_si) (c4_71_2:List Int) (v0:Int) (v1:Int):St:=⟨[(7,(.one (.ref ⟨(7,0,0),[],0,(length (map d_si c0_71_2))⟩))),(8,(.one (.ref ⟨(8,0,0),[],0,(length (map d_i c1_71_2))⟩))),(9,(.one (.val (.int .i64 c2_71_2)))),(12,(.one (.val (.int .i64 v0)))),(13,(.one (.val (.int .i64 v1))))],[((7,0,0),.live ⟨2,(map d_si c3_71_2),[]⟩),((8,0,0),.live ⟨1,(map d_i c4_71_2),[]⟩)]⟩
def ex71_2:O71_2→VX.Exit
  |.k0 _ _ _=>(.exit 4)
def fin71_2 (l1_0:Nat) (a0:Int) (a1:(List K_si)) (c2_71_1:Int) (c0_71_2:List K_si) (c1_71_2:List Int) (c2_71_2:Int) (c3_71_2:List K_si) (c4_71_2:List Int):O71_2→St
  |.k0 w0 w1 w2=>⟨[(7,(.one (.ref ⟨(7,0,0),[],0,(length (map d_si c0_71_2))⟩))),(8,(.one (.ref ⟨(8,0,0),[],0,(length (map d_i c1_71_2))⟩))),(9,(.one (.val (.int .i64 c2_71_2)))),(12,(.one (.val (.int .i64 w0)))),(13,(.one (.val (.int .i64 w1)))),(68,(.one (.val (.bool w2))))],[((7,0,0),.live ⟨2,(map d_si c3_71_2),[]⟩),((8,0,0),.live ⟨1,(map d_i c4_71_2),[]⟩)]⟩
theorem t71_2 {l1_0:Nat} {a0:Int} {a1:(List K_si)} {c2_71_1:Int} {c0_71_2:List K_si} {c1_71_2:List Int} {c2_71_2:Int} {c3_71_2:List K_si} {c4_71_2:List Int} (hy0:length c0_71_2≤140737488351232) (hy1:length c1_71_2≤140737488351232) (hy2:length c3_71_2≤140737488351232) (hy3:length c4_71_2≤140737488351232):∀(n:Nat) (v0:Int) (v1:Int),0≤v1→((length (map d_i c1_71_2)):Int)≤9223372036854775807→0≤v0→v0 <(length c4_71_2:Int)→length c4_71_2=length c1_71_2→length c4_71_2≤1000→toNat (((length (map d_i c1_71_2)):Int) - v1)≤n→Ev F X (.code l71_2 (h71_2 l1_0 a0 a1 c2_71_1 c0_71_2 c1_71_2 c2_71_2 c3_71_2 c4_71_2 v0 v1) (ex71_2 (r71_2 c1_71_2 c4_71_2 n v0 v1)) (fin71_2 l1_0 a0 a1 c2_71_1 c0_71_2 c1_71_2 c2_71_2 c3_71_2 c4_71_2 (r71_2 c1_71_2 c4_71_2 n v0 v1)))
  |0,v0,v1,hi0,hi1,hi2,hi3,hi4,hi5,hn=>by
    have hc:¬(decide (v1 <((length (map d_i c1_71_2)):Int)))=true:=by first |(exact fuel64_zero hn) |(simp only[decide_eq_true_eq] at*; omega) |(simp at*; omega)
    have st:=ch b71_2 (h71_2 l1_0 a0 a1 c2_71_1 c0_71_2 c1_71_2 c2_71_2 c3_71_2 c4_71_2 v0 v1) ⟨[(7,(.one (.ref ⟨(7,0,0),[],0,(length (map d_si c0_71_2))⟩))),(8,(.one (.ref ⟨(8,0,0),[],0,(length (map d_i c1_71_2))⟩))),(9,(.oi c2_71_2)),(12,(.oi v0)),(13,(.oi v1)),(68,(.one (.val (.bool (decide (v1 <((length (map d_i c1_71_2)):Int)))))))],[((7,0,0),.live ⟨2,(map d_si c3_71_2),[]⟩),((8,0,0),.live ⟨1,(map d_i c4_71_2),[]⟩)]⟩ (.exit 4) 9 (by kernel_rfl) (.f (nt hc) (U 8 .nil))
    rw[show (⟨[(7,(.one (.ref ⟨(7,0,0),[],0,(length (map d_si c0_71_2))⟩))),(8,(.one (.ref ⟨(8,0,0),[],0,(length (map d_i c1_71_2))⟩))),(9,(.oi c2_71_2)),(12,(.oi v0)),(13,(.oi v1)),(68,(.one (.val (.bool (decide (v1 <((length (map d_i c1_71_2)):Int)))))))],[((7,0,0),.live ⟨2,(map d_si c3_71_2),[]⟩),((8,0,0),.live ⟨1,(map d_i c4_71_2),[]⟩)]⟩:St)=fin71_2 l1_0 a0 a1 c2_71_1 c0_71_2 c1_71_2 c2_71_2 c3_71_2 c4_71_2 (.k0 v0 v1 (decide (v1 <((length (map d_i c1_71_2)):Int)))) from(by rfl)] at st
    exact .loopX st (show ((.exit 4):VX.Exit)≠.normal from by simp)
  |n+1,v0,v1,hi0,hi1,hi2,hi3,hi4,hi5,hn=>by
    simp only[r71_2]
    by_cases h_0:(decide (v1 <((length (map d_i c1_71_2)):Int)))=true
    · try simp only[if_pos h_0]
      have f1:0+(length (map d_i c1_71_2))≤(length (map d_i c4_71_2)):=(by have q:=mlen_83 a1; simp only[length_map,length_nil,Nat.zero_add] at*; omega)
      have f2:0≤v1∧v1 <((length (map d_i c1_71_2)):Int):=(by simp only[decide_eq_true_eq,length_map] at*; omega)
      have f5:0≤v0∧v0 <((length (map d_i c1_71_2)):Int):=(by have q:=mlen_83 a1; simp only[length_map,length_nil,Nat.zero_add] at*; omega)
      have P1 {hs q} (r:PS F X hs q):=(PS.f h_0 (.f f1 (.f f2 (.f (mz_ d_i (getD_at c4_71_2 (toNat v1) 0 (by have q:=mlen_83 a1; simp only[length_map,length_nil,Nat.zero_add] at*; omega))) (.f f1 (.f f5 (.f (mz_ d_i (getD_at c4_71_2 (toNat v0) 0 (by omega))) (hT 8 (.h 16 (.rowD [(.i (getD c4_71_2 (toNat v1) 0))]) (.h 24 (.rowD [(.i (getD c4_71_2 (toNat v0) 0))]) r))))))))))
      by_cases h_1:(decide ((getD c4_71_2 (toNat v1) 0) >(getD c4_71_2 (toNat v0) 0)))=true
      · try simp only[if_pos h_1]
        have st:=ch b71_2 (h71_2 l1_0 a0 a1 c2_71_1 c0_71_2 c1_71_2 c2_71_2 c3_71_2 c4_71_2 v0 v1) ⟨[(7,(.one (.ref ⟨(7,0,0),[],0,(length (map d_si c0_71_2))⟩))),(8,(.one (.ref ⟨(8,0,0),[],0,(length (map d_i c1_71_2))⟩))),(9,(.oi c2_71_2)),(12,(.oi v1)),(13,(.oi (wrap .i64 (v1+1))))],[((7,0,0),.live ⟨2,(map d_si c3_71_2),[]⟩),((8,0,0),.live ⟨1,(map d_i c4_71_2),[]⟩)]⟩ .normal 38 (by kernel_rfl) (P1 (.f h_1 (.f trivial (hT 27 .nil))))
        have ih:=t71_2 (l1_0:=l1_0) (a0:=a0) (a1:=a1) (c2_71_1:=c2_71_1) (c0_71_2:=c0_71_2) (c1_71_2:=c1_71_2) (c2_71_2:=c2_71_2) (c3_71_2:=c3_71_2) (c4_71_2:=c4_71_2) hy0 hy1 hy2 hy3 n v1 (wrap .i64 (v1+1)) (by rw[wrap64 (by simp only[decide_eq_true_eq] at*; omega)]; omega) (by assumption) (by assumption) (by simp only[decide_eq_true_eq,length_map] at*; omega) (by assumption) (by assumption) (by rw[wrap64 (by simp only[decide_eq_true_eq] at*; omega)]; simp only[decide_eq_true_eq] at*; omega)
        rw[show (⟨[(7,(.one (.ref ⟨(7,0,0),[],0,(length (map d_si c0_71_2))⟩))),(8,(.one (.ref ⟨(8,0,0),[],0,(length (map d_i c1_71_2))⟩))),(9,(.oi c2_71_2)),(12,(.oi v1)),(13,(.oi (wrap .i64 (v1+1))))],[((7,0,0),.live ⟨2,(map d_si c3_71_2),[]⟩),((8,0,0),.live ⟨1,(map d_i c4_71_2),[]⟩)]⟩:St)=h71_2 l1_0 a0 a1 c2_71_1 c0_71_2 c1_71_2 c2_71_2 c3_71_2 c4_71_2 v1 (wrap .i64 (v1+1)) from(by rfl)] at st
        exact .loopN st ih
      try simp only[if_neg h_1]
      have st:=ch b71_2 (h71_2 l1_0 a0 a1 c2_71_1 c0_71_2 c1_71_2 c2_71_2 c3_71_2 c4_71_2 v0 v1) ⟨[(7,(.one (.ref ⟨(7,0,0),[],0,(length (map d_si c0_71_2))⟩))),(8,(.one (.ref ⟨(8,0,0),[],0,(length (map d_i c1_71_2))⟩))),(9,(.oi c2_71_2)),(12,(.oi v0)),(13,(.oi (wrap .i64 (v1+1))))],[((7,0,0),.live ⟨2,(map d_si c3_71_2),[]⟩),((8,0,0),.live ⟨1,(map d_i c4_71_2),[]⟩)]⟩ .normal 34 (by kernel_rfl) (P1 (.f (nt h_1) (.f trivial (U 27 .nil))))
      have ih:=t71_2 (l1_0:=l1_0) (a0:=a0) (a1:=a1) (c2_71_1:=c2_71_1) (c0_71_2:=c0_71_2) (c1_71_2:=c1_71_2) (c2_71_2:=c2_71_2) (c3_71_2:=c3_71_2) (c4_71_2:=c4_71_2) hy0 hy1 hy2 hy3 n v0 (wrap .i64 (v1+1)) (by rw[wrap64 (by simp only[decide_eq_true_eq] at*; omega)]; omega) (by assumption) (by assumption) (by assumption) (by assumption) (by assumption) (by rw[wrap64 (by simp only[decide_eq_true_eq] at*; omega)]; simp only[decide_eq_true_eq] at*; omega)
      rw[show (⟨[(7,(.one (.ref ⟨(7,0,0),[],0,(length (map d_si c0_71_2))⟩))),(8,(.one (.ref ⟨(8,0,0),[],0,(length (map d_i c1_71_2))⟩))),(9,(.oi c2_71_2)),(12,(.oi v0)),(13,(.oi (wrap .i64 (v1+1))))],[((7,0,0),.live ⟨2,(map d_si c3_71_2),[]⟩),((8,0,0),.live ⟨1,(map d_i c4_71_2),[]⟩)]⟩:St)=h71_2 l1_0 a0 a1 c2_71_1 c0_71_2 c1_71_2 c2_71_2 c3_71_2 c4_71_2 v0 (wrap .i64 (v1+1)) from(by rfl)] at st
      exact .loopN st ih
    try simp only[if_neg h_0]
    have st:=ch b71_2 (h71_2 l1_0 a0 a1 c2_71_1 c0_71_2 c1_71_2 c2_71_2 c3_71_2 c4_71_2 v0 v1) ⟨[(7,(.one (.ref ⟨(7,0,0),[],0,(length (map d_si c0_71_2))⟩))),(8,(.one (.ref ⟨(8,0,0),[],0,(length (map d_i c1_71_2))⟩))),(9,(.oi c2_71_2)),(12,(.oi v0)),(13,(.oi v1)),(68,(.one (.val (.bool (decide (v1 <((length (map d_i c1_71_2)):Int)))))))],[((7,0,0),.live ⟨2,(map d_si c3_71_2),[]⟩),((8,0,0),.live ⟨1,(map d_i c4_71_2),[]⟩)]⟩ (.exit 4) 9 (by kernel_rfl) (.f (nt h_0) (U 8 .nil))
    rw[show (⟨[(7,(.one (.ref ⟨(7,0,0),[],0,(length (map d_si c0_71_2))⟩))),(8,(.one (.ref ⟨(8,0,0),[],0,(length (map d_i c1_71_2))⟩))),(9,(.oi c2_71_2)),(12,(.oi v0)),(13,(.oi v1)),(68,(.one (.val (.bool (decide (v1 <((length (map d_i c1_71_2)):Int)))))))],[((7,0,0),.live ⟨2,(map d_si c3_71_2),[]⟩),((8,0,0),.live ⟨1,(map d_i c4_71_2),[]⟩)]⟩:St)=fin71_2 l1_0 a0 a1 c2_71_1 c0_71_2 c1_71_2 c2_71_2 c3_71_2 c4_71_2 (.k0 v0 v1 (decide (v1 <((length (map d_i c1_71_2)):Int)))) from(by rfl)] at st
    exact .loopX st (show ((.exit 4):VX.Exit)≠.normal from by simp)
def post71_2 (a0:Int) (a1:(List K_si)) (c2_71_1:Int) (c0_71_2:List K_si) (c1_71_2:List Int) (c2_71_2:Int) (c3_71_2:List K_si) (c4_71_2:List Int):O71_2→Prop
  |.k0 w0 _ _=>0≤w0∧w0 <(length c4_71_2:Int)
theorem z71_2 {a0:Int} {a1:(List K_si)} {c2_71_1:Int} {c0_71_2:List K_si} {c1_71_2:List Int} {c2_71_2:Int} {c3_71_2:List K_si} {c4_71_2:List Int} (hy0:length c0_71_2≤140737488351232) (hy1:length c1_71_2≤140737488351232) (hy2:length c3_71_2≤140737488351232) (hy3:length c4_71_2≤140737488351232):∀(n:Nat) (v0:Int) (v1:Int),0≤v1→((length (map d_i c1_71_2)):Int)≤9223372036854775807→0≤v0→v0 <(length c4_71_2:Int)→length c4_71_2=length c1_71_2→length c4_71_2≤1000→post71_2 a0 a1 c2_71_1 c0_71_2 c1_71_2 c2_71_2 c3_71_2 c4_71_2 (r71_2 c1_71_2 c4_71_2 n v0 v1)
  |0,v0,v1,hi0,hi1,hi2,hi3,hi4,hi5=>by
    simp only[r71_2]
    first | trivial |(show _ ; simp only[post71_2]; omega) |(simp only[post71_2] at*; omega) |(simp only[decide_eq_true_eq,length_map] at*; omega) |(rw[wrap64 yR]; omega) |(simp only[decide_eq_true_eq] at*; omega)
  |n+1,v0,v1,hi0,hi1,hi2,hi3,hi4,hi5=>by
    simp only[r71_2]
    by_cases h_0:(decide (v1 <((length (map d_i c1_71_2)):Int)))=true
    · try simp only[if_pos h_0]
      by_cases h_1:(decide ((getD c4_71_2 (toNat v1) 0) >(getD c4_71_2 (toNat v0) 0)))=true
      · try simp only[if_pos h_1]
        exact z71_2 (a0:=a0) (a1:=a1) (c2_71_1:=c2_71_1) (c0_71_2:=c0_71_2) (c1_71_2:=c1_71_2) (c2_71_2:=c2_71_2) (c3_71_2:=c3_71_2) (c4_71_2:=c4_71_2) hy0 hy1 hy2 hy3 n v1 (wrap .i64 (v1+1)) yZ (by assumption) (by assumption) yab (by assumption) (by assumption)
      try simp only[if_neg h_1]
      exact z71_2 (a0:=a0) (a1:=a1) (c2_71_1:=c2_71_1) (c0_71_2:=c0_71_2) (c1_71_2:=c1_71_2) (c2_71_2:=c2_71_2) (c3_71_2:=c3_71_2) (c4_71_2:=c4_71_2) hy0 hy1 hy2 hy3 n v0 (wrap .i64 (v1+1)) yZ (by assumption) (by assumption) (by assumption) (by assumption) (by assumption)
    try simp only[if_neg h_0]
    first | trivial |(show _ ; simp only[post71_2]; omega) |(simp only[post71_2] at*; omega) |(simp only[decide_eq_true_eq,length_map] at*; omega) |(rw[wrap64 yR]; omega) |(simp only[decide_eq_true_eq] at*; omega)
end Go.Proofs.YtihjlmgakpgkeaaGreatDoor.Ledgers
