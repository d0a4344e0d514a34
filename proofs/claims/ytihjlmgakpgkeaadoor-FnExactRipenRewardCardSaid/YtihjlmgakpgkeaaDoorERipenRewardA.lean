/- What the functions compute. -/
import Derived.Test.YtihjlmgakpgkeaaDoorTRipenReward
import Derived.Test.YtihjlmgakpgkeaaDoorVNum
import Derived.Test.YtihjlmgakpgkeaaDoorVClone
import Derived.Test.YtihjlmgakpgkeaaDoorVExt
import Derived.Test.YtihjlmgakpgkeaaDoorXRipenReward
import Derived.KernelRfl
namespace Go.Proofs.YtihjlmgakpgkeaaDoor.RipenReward
open Go Go.Proofs.YtihjlmgakpgkeaaDoor.V
set_option linter.unusedVariables false
set_option linter.unusedSimpArgs false
set_option maxRecDepth 20000
abbrev _root_.Go.Proofs.YtihjlmgakpgkeaaDoor.V.B.i (x:Int):B:=.val (.int .i64 x)
abbrev _root_.Go.Proofs.YtihjlmgakpgkeaaDoor.V.D.i (x:Int):D:=.val (.int .i64 x)
abbrev _root_.Go.Proofs.YtihjlmgakpgkeaaDoor.V.CV.i (x:Int):CV:=.val (.int .i64 x)
abbrev _root_.Go.Proofs.YtihjlmgakpgkeaaDoor.V.SV.oi (x:Int):SV:=.one (.val (.int .i64 x))
abbrev _root_.Go.Proofs.YtihjlmgakpgkeaaDoor.V.Ret.oi (x:Int):Ret:=.one (.val (.int .i64 x))
open List (length_replicate length_map length_set length_append length_cons length_nil length_take length_drop take_of_length_le map_take map_drop map_set append_assoc getElem?_map map length take drop getD set)
def X:Ext:=fun f args objs rs=>(f=94∧objs=[]∧CloneX 2 24 args rs)∨(f=141∧objs=[]∧TrimX args rs)
structure K_si where
  f0:ByteArray
  f1:Int
def b_si (x:K_si):List B:=[(.val (.string x.f0)),(.val (.int .i64 x.f1))]
def d_si (x:K_si):List D:=[(.val (.string x.f0)),(.val (.int .i64 x.f1))]
theorem toBR_si:∀(l:List K_si),toBR (l.map d_si)=l.map b_si
  |[]=>rfl
  |x::l=>by simp[toBR,toBL,toB,d_si,b_si,toBR_si l]
theorem fullR_si:∀(l:List K_si),fullR (l.map d_si)=true
  |[]=>rfl
  |x::l=>by simp[fullR,fullL,full,d_si,fullR_si l]
theorem pureR_si:∀(l:List K_si),pureR (l.map d_si)=true
  |[]=>rfl
  |x::l=>by simp[pureR,pureL,V.pure,d_si,pureR_si l]
theorem ft_si (a b:Nat) (l:List K_si):fullR (take a (drop b (l.map d_si)))=true:=by rw[← map_drop,← map_take]; exact fullR_si _
theorem tbt_si (a b:Nat) (l:List K_si):toBR (take a (drop b (l.map d_si)))=(take a (drop b l)).map b_si:=by rw[← map_drop,← map_take]; exact toBR_si _
theorem tb_si (l:List K_si):toBR (take (l.map d_si).length (drop 0 (l.map d_si)))=l.map b_si:=by rw[List.drop_zero,List.take_length]; exact toBR_si l
theorem lenB_si (l:List K_si):∀r∈l.map b_si,r.length=2:=by intro r h; obtain⟨x,_,rfl⟩:=List.mem_map.1 h; rfl
theorem lenD_si (l:List K_si):∀r∈l.map d_si,r.length=2:=by intro r h; obtain⟨x,_,rfl⟩:=List.mem_map.1 h; rfl
def os_si (x:K_si):Prop:=(ByteArray.size x.f0≤140737488351232)
theorem gos_si {l:List K_si} (h:∀z∈l,os_si z) (n:Nat) (d:K_si) (hd:os_si d):os_si (l.getD n d):=by
  rw[List.getD_eq_getElem?_getD]; cases h2:l[n]? with
  |none=>simpa using hd
  |some x=>exact h x (List.mem_of_getElem? h2)
theorem fromBR_si (n:Nat) (l:List K_si):fromBR n (l.map b_si)=l.map d_si:=by simp[fromBR,b_si,d_si,fromB,Function.comp_def]
theorem copy_si (l:List K_si):(l.map d_si).all (fun x=>x.all copyable)=true:=by simp[d_si,copyable,Function.comp_def]
theorem ct_si (a b:Nat) (l:List K_si):((take a (drop b (l.map d_si))).all fun x=>x.all copyable)=true:=by rw[← map_drop,← map_take]; exact copy_si _
structure K_R where
  f0:Int
  f1:Int
  f2:Int
  f3:(List K_si)
  f4:Int
def b_R (x:K_R):List B:=[(.val (.int .i64 x.f0)),(.val (.int .i64 x.f1)),(.val (.int .i64 x.f2)),(.sl (map b_si x.f3)),(.val (.int .i64 x.f4))]
def d_R (x:K_R):List D:=[(.val (.int .i64 x.f0)),(.val (.int .i64 x.f1)),(.val (.int .i64 x.f2)),(.own 2 (map d_si x.f3)),(.val (.int .i64 x.f4))]
theorem toBR_R:∀(l:List K_R),toBR (l.map d_R)=l.map b_R
  |[]=>rfl
  |x::l=>by simp[toBR,toBL,toB,d_R,b_R,toBR_R l,toBR_si]
theorem fullR_R:∀(l:List K_R),fullR (l.map d_R)=true
  |[]=>rfl
  |x::l=>by simp[fullR,fullL,full,d_R,fullR_R l,fullR_si]
theorem pureR_R:∀(l:List K_R),pureR (l.map d_R)=true
  |[]=>rfl
  |x::l=>by simp[pureR,pureL,V.pure,d_R,pureR_R l,pureR_si]
theorem ft_R (a b:Nat) (l:List K_R):fullR (take a (drop b (l.map d_R)))=true:=by rw[← map_drop,← map_take]; exact fullR_R _
theorem tbt_R (a b:Nat) (l:List K_R):toBR (take a (drop b (l.map d_R)))=(take a (drop b l)).map b_R:=by rw[← map_drop,← map_take]; exact toBR_R _
theorem tb_R (l:List K_R):toBR (take (l.map d_R).length (drop 0 (l.map d_R)))=l.map b_R:=by rw[List.drop_zero,List.take_length]; exact toBR_R l
theorem lenB_R (l:List K_R):∀r∈l.map b_R,r.length=5:=by intro r h; obtain⟨x,_,rfl⟩:=List.mem_map.1 h; rfl
theorem lenD_R (l:List K_R):∀r∈l.map d_R,r.length=5:=by intro r h; obtain⟨x,_,rfl⟩:=List.mem_map.1 h; rfl
def ok_R (x:K_R):Prop:=(length x.f3*24≤140737488351232)
def os_R (x:K_R):Prop:=(length x.f3*24≤140737488351232)∧(∀z∈x.f3,os_si z)
theorem os_ok_R (x:K_R) (h:os_R x):ok_R x:=h.1
theorem gos_R {l:List K_R} (h:∀z∈l,os_R z) (n:Nat) (d:K_R) (hd:os_R d):os_R (l.getD n d):=by
  rw[List.getD_eq_getElem?_getD]; cases h2:l[n]? with
  |none=>simpa using hd
  |some x=>exact h x (List.mem_of_getElem? h2)
theorem gok_R {l:List K_R} (h:∀z∈l,ok_R z) (n:Nat) (d:K_R) (hd:ok_R d):ok_R (l.getD n d):=by
  rw[List.getD_eq_getElem?_getD]; cases h2:l[n]? with
  |none=>simpa using hd
  |some x=>exact h x (List.mem_of_getElem? h2)
structure K_B where
  f0:Int
  f1:Int
  f2:(List K_si)
  f3:(List K_R)
  f4:(List K_si)
  f5:Int
  f6:Int
  f7:Int
def b_B (x:K_B):List B:=[(.val (.int .i64 x.f0)),(.val (.int .i64 x.f1)),(.sl (map b_si x.f2)),(.sl (map b_R x.f3)),(.sl (map b_si x.f4)),(.val (.int .i64 x.f5)),(.val (.int .i64 x.f6)),(.val (.int .i64 x.f7))]
def d_B (x:K_B):List D:=[(.val (.int .i64 x.f0)),(.val (.int .i64 x.f1)),(.own 2 (map d_si x.f2)),(.own 5 (map d_R x.f3)),(.own 2 (map d_si x.f4)),(.val (.int .i64 x.f5)),(.val (.int .i64 x.f6)),(.val (.int .i64 x.f7))]
theorem toBR_B:∀(l:List K_B),toBR (l.map d_B)=l.map b_B
  |[]=>rfl
  |x::l=>by simp[toBR,toBL,toB,d_B,b_B,toBR_B l,toBR_si,toBR_R]
theorem fullR_B:∀(l:List K_B),fullR (l.map d_B)=true
  |[]=>rfl
  |x::l=>by simp[fullR,fullL,full,d_B,fullR_B l,fullR_si,fullR_R]
theorem pureR_B:∀(l:List K_B),pureR (l.map d_B)=true
  |[]=>rfl
  |x::l=>by simp[pureR,pureL,V.pure,d_B,pureR_B l,pureR_si,pureR_R]
theorem ft_B (a b:Nat) (l:List K_B):fullR (take a (drop b (l.map d_B)))=true:=by rw[← map_drop,← map_take]; exact fullR_B _
theorem tbt_B (a b:Nat) (l:List K_B):toBR (take a (drop b (l.map d_B)))=(take a (drop b l)).map b_B:=by rw[← map_drop,← map_take]; exact toBR_B _
theorem tb_B (l:List K_B):toBR (take (l.map d_B).length (drop 0 (l.map d_B)))=l.map b_B:=by rw[List.drop_zero,List.take_length]; exact toBR_B l
theorem lenB_B (l:List K_B):∀r∈l.map b_B,r.length=8:=by intro r h; obtain⟨x,_,rfl⟩:=List.mem_map.1 h; rfl
theorem lenD_B (l:List K_B):∀r∈l.map d_B,r.length=8:=by intro r h; obtain⟨x,_,rfl⟩:=List.mem_map.1 h; rfl
def ok_B (x:K_B):Prop:=(length x.f2*24≤140737488351232)∧(length x.f3*56≤140737488351232)∧(∀z∈x.f3,ok_R z)∧(length x.f4*24≤140737488351232)
def os_B (x:K_B):Prop:=(length x.f2*24≤140737488351232)∧(∀z∈x.f2,os_si z)∧(length x.f3*56≤140737488351232)∧(∀z∈x.f3,os_R z)∧(length x.f4*24≤140737488351232)∧(∀z∈x.f4,os_si z)
theorem os_ok_B (x:K_B) (h:os_B x):ok_B x:=⟨h.1,h.2.2.1,fun z hz=>os_ok_R z (h.2.2.2.1 z hz),h.2.2.2.2.1⟩
theorem gos_B {l:List K_B} (h:∀z∈l,os_B z) (n:Nat) (d:K_B) (hd:os_B d):os_B (l.getD n d):=by
  rw[List.getD_eq_getElem?_getD]; cases h2:l[n]? with
  |none=>simpa using hd
  |some x=>exact h x (List.mem_of_getElem? h2)
theorem gok_B {l:List K_B} (h:∀z∈l,ok_B z) (n:Nat) (d:K_B) (hd:ok_B d):ok_B (l.getD n d):=by
  rw[List.getD_eq_getElem?_getD]; cases h2:l[n]? with
  |none=>simpa using hd
  |some x=>exact h x (List.mem_of_getElem? h2)
def b_i (x:Int):List B:=[(.val (.int .i64 x))]
def d_i (x:Int):List D:=[(.val (.int .i64 x))]
theorem toBR_i:∀(l:List Int),toBR (l.map d_i)=l.map b_i
  |[]=>rfl
  |x::l=>by simp[toBR,toBL,toB,d_i,b_i,toBR_i l]
theorem fullR_i:∀(l:List Int),fullR (l.map d_i)=true
  |[]=>rfl
  |x::l=>by simp[fullR,fullL,full,d_i,fullR_i l]
theorem pureR_i:∀(l:List Int),pureR (l.map d_i)=true
  |[]=>rfl
  |x::l=>by simp[pureR,pureL,V.pure,d_i,pureR_i l]
theorem ft_i (a b:Nat) (l:List Int):fullR (take a (drop b (l.map d_i)))=true:=by rw[← map_drop,← map_take]; exact fullR_i _
theorem tbt_i (a b:Nat) (l:List Int):toBR (take a (drop b (l.map d_i)))=(take a (drop b l)).map b_i:=by rw[← map_drop,← map_take]; exact toBR_i _
theorem tb_i (l:List Int):toBR (take (l.map d_i).length (drop 0 (l.map d_i)))=l.map b_i:=by rw[List.drop_zero,List.take_length]; exact toBR_i l
theorem lenB_i (l:List Int):∀r∈l.map b_i,r.length=1:=by intro r h; obtain⟨x,_,rfl⟩:=List.mem_map.1 h; rfl
theorem lenD_i (l:List Int):∀r∈l.map d_i,r.length=1:=by intro r h; obtain⟨x,_,rfl⟩:=List.mem_map.1 h; rfl
theorem fromBR_i (n:Nat) (l:List Int):fromBR n (l.map b_i)=l.map d_i:=by simp[fromBR,b_i,d_i,fromB,Function.comp_def]
theorem copy_i (l:List Int):(l.map d_i).all (fun x=>x.all copyable)=true:=by simp[d_i,copyable,Function.comp_def]
theorem ct_i (a b:Nat) (l:List Int):((take a (drop b (l.map d_i))).all fun x=>x.all copyable)=true:=by rw[← map_drop,← map_take]; exact copy_i _
def b_b (x:Bool):List B:=[(.val (.bool x))]
def d_b (x:Bool):List D:=[(.val (.bool x))]
theorem toBR_b:∀(l:List Bool),toBR (l.map d_b)=l.map b_b
  |[]=>rfl
  |x::l=>by simp[toBR,toBL,toB,d_b,b_b,toBR_b l]
theorem fullR_b:∀(l:List Bool),fullR (l.map d_b)=true
  |[]=>rfl
  |x::l=>by simp[fullR,fullL,full,d_b,fullR_b l]
theorem pureR_b:∀(l:List Bool),pureR (l.map d_b)=true
  |[]=>rfl
  |x::l=>by simp[pureR,pureL,V.pure,d_b,pureR_b l]
theorem ft_b (a b:Nat) (l:List Bool):fullR (take a (drop b (l.map d_b)))=true:=by rw[← map_drop,← map_take]; exact fullR_b _
theorem tbt_b (a b:Nat) (l:List Bool):toBR (take a (drop b (l.map d_b)))=(take a (drop b l)).map b_b:=by rw[← map_drop,← map_take]; exact toBR_b _
theorem tb_b (l:List Bool):toBR (take (l.map d_b).length (drop 0 (l.map d_b)))=l.map b_b:=by rw[List.drop_zero,List.take_length]; exact toBR_b l
theorem lenB_b (l:List Bool):∀r∈l.map b_b,r.length=1:=by intro r h; obtain⟨x,_,rfl⟩:=List.mem_map.1 h; rfl
theorem lenD_b (l:List Bool):∀r∈l.map d_b,r.length=1:=by intro r h; obtain⟨x,_,rfl⟩:=List.mem_map.1 h; rfl
theorem fromBR_b (n:Nat) (l:List Bool):fromBR n (l.map b_b)=l.map d_b:=by simp[fromBR,b_b,d_b,fromB,Function.comp_def]
theorem copy_b (l:List Bool):(l.map d_b).all (fun x=>x.all copyable)=true:=by simp[d_b,copyable,Function.comp_def]
theorem ct_b (a b:Nat) (l:List Bool):((take a (drop b (l.map d_b))).all fun x=>x.all copyable)=true:=by rw[← map_drop,← map_take]; exact copy_b _
structure K_C where
  f0:Int
  f1:Int
  f2:Int
  f3:Int
  f4:(List K_si)
  f5:(List K_R)
  f6:(List K_si)
  f7:Int
  f8:Int
  f9:Int
def b_C (x:K_C):List B:=[(.val (.int .i64 x.f0)),(.val (.int .i64 x.f1)),(.val (.int .i64 x.f2)),(.val (.int .i64 x.f3)),(.sl (map b_si x.f4)),(.sl (map b_R x.f5)),(.sl (map b_si x.f6)),(.val (.int .i64 x.f7)),(.val (.int .i64 x.f8)),(.val (.int .i64 x.f9))]
def d_C (x:K_C):List D:=[(.val (.int .i64 x.f0)),(.val (.int .i64 x.f1)),(.val (.int .i64 x.f2)),(.val (.int .i64 x.f3)),(.own 2 (map d_si x.f4)),(.own 5 (map d_R x.f5)),(.own 2 (map d_si x.f6)),(.val (.int .i64 x.f7)),(.val (.int .i64 x.f8)),(.val (.int .i64 x.f9))]
theorem toBR_C:∀(l:List K_C),toBR (l.map d_C)=l.map b_C
  |[]=>rfl
  |x::l=>by simp[toBR,toBL,toB,d_C,b_C,toBR_C l,toBR_si,toBR_R]
theorem fullR_C:∀(l:List K_C),fullR (l.map d_C)=true
  |[]=>rfl
  |x::l=>by simp[fullR,fullL,full,d_C,fullR_C l,fullR_si,fullR_R]
theorem pureR_C:∀(l:List K_C),pureR (l.map d_C)=true
  |[]=>rfl
  |x::l=>by simp[pureR,pureL,V.pure,d_C,pureR_C l,pureR_si,pureR_R]
theorem ft_C (a b:Nat) (l:List K_C):fullR (take a (drop b (l.map d_C)))=true:=by rw[← map_drop,← map_take]; exact fullR_C _
theorem tbt_C (a b:Nat) (l:List K_C):toBR (take a (drop b (l.map d_C)))=(take a (drop b l)).map b_C:=by rw[← map_drop,← map_take]; exact toBR_C _
theorem tb_C (l:List K_C):toBR (take (l.map d_C).length (drop 0 (l.map d_C)))=l.map b_C:=by rw[List.drop_zero,List.take_length]; exact toBR_C l
theorem lenB_C (l:List K_C):∀r∈l.map b_C,r.length=10:=by intro r h; obtain⟨x,_,rfl⟩:=List.mem_map.1 h; rfl
theorem lenD_C (l:List K_C):∀r∈l.map d_C,r.length=10:=by intro r h; obtain⟨x,_,rfl⟩:=List.mem_map.1 h; rfl
def ok_C (x:K_C):Prop:=(length x.f4*24≤140737488351232)∧(length x.f5*56≤140737488351232)∧(∀z∈x.f5,ok_R z)∧(length x.f6*24≤140737488351232)
def os_C (x:K_C):Prop:=(length x.f4*24≤140737488351232)∧(∀z∈x.f4,os_si z)∧(length x.f5*56≤140737488351232)∧(∀z∈x.f5,os_R z)∧(length x.f6*24≤140737488351232)∧(∀z∈x.f6,os_si z)
theorem os_ok_C (x:K_C) (h:os_C x):ok_C x:=⟨h.1,h.2.2.1,fun z hz=>os_ok_R z (h.2.2.2.1 z hz),h.2.2.2.2.1⟩
theorem gos_C {l:List K_C} (h:∀z∈l,os_C z) (n:Nat) (d:K_C) (hd:os_C d):os_C (l.getD n d):=by
  rw[List.getD_eq_getElem?_getD]; cases h2:l[n]? with
  |none=>simpa using hd
  |some x=>exact h x (List.mem_of_getElem? h2)
theorem gok_C {l:List K_C} (h:∀z∈l,ok_C z) (n:Nat) (d:K_C) (hd:ok_C d):ok_C (l.getD n d):=by
  rw[List.getD_eq_getElem?_getD]; cases h2:l[n]? with
  |none=>simpa using hd
  |some x=>exact h x (List.mem_of_getElem? h2)
def b_LsiE (x:(List K_si)):List B:=[(.sl (map b_si x))]
def d_LsiE (x:(List K_si)):List D:=[(.own 2 (map d_si x))]
theorem toBR_LsiE:∀(l:List (List K_si)),toBR (l.map d_LsiE)=l.map b_LsiE
  |[]=>rfl
  |x::l=>by simp[toBR,toBL,toB,d_LsiE,b_LsiE,toBR_LsiE l,toBR_si]
theorem fullR_LsiE:∀(l:List (List K_si)),fullR (l.map d_LsiE)=true
  |[]=>rfl
  |x::l=>by simp[fullR,fullL,full,d_LsiE,fullR_LsiE l,fullR_si]
theorem pureR_LsiE:∀(l:List (List K_si)),pureR (l.map d_LsiE)=true
  |[]=>rfl
  |x::l=>by simp[pureR,pureL,V.pure,d_LsiE,pureR_LsiE l,pureR_si]
theorem ft_LsiE (a b:Nat) (l:List (List K_si)):fullR (take a (drop b (l.map d_LsiE)))=true:=by rw[← map_drop,← map_take]; exact fullR_LsiE _
theorem tbt_LsiE (a b:Nat) (l:List (List K_si)):toBR (take a (drop b (l.map d_LsiE)))=(take a (drop b l)).map b_LsiE:=by rw[← map_drop,← map_take]; exact toBR_LsiE _
theorem tb_LsiE (l:List (List K_si)):toBR (take (l.map d_LsiE).length (drop 0 (l.map d_LsiE)))=l.map b_LsiE:=by rw[List.drop_zero,List.take_length]; exact toBR_LsiE l
theorem lenB_LsiE (l:List (List K_si)):∀r∈l.map b_LsiE,r.length=1:=by intro r h; obtain⟨x,_,rfl⟩:=List.mem_map.1 h; rfl
theorem lenD_LsiE (l:List (List K_si)):∀r∈l.map d_LsiE,r.length=1:=by intro r h; obtain⟨x,_,rfl⟩:=List.mem_map.1 h; rfl
def ok_LsiE (x:(List K_si)):Prop:=(length x*24≤140737488351232)
def os_LsiE (x:(List K_si)):Prop:=(length x*24≤140737488351232)∧(∀z∈x,os_si z)
theorem os_ok_LsiE (x:(List K_si)) (h:os_LsiE x):ok_LsiE x:=h.1
theorem gos_LsiE {l:List (List K_si)} (h:∀z∈l,os_LsiE z) (n:Nat) (d:(List K_si)) (hd:os_LsiE d):os_LsiE (l.getD n d):=by
  rw[List.getD_eq_getElem?_getD]; cases h2:l[n]? with
  |none=>simpa using hd
  |some x=>exact h x (List.mem_of_getElem? h2)
theorem gok_LsiE {l:List (List K_si)} (h:∀z∈l,ok_LsiE z) (n:Nat) (d:(List K_si)) (hd:ok_LsiE d):ok_LsiE (l.getD n d):=by
  rw[List.getD_eq_getElem?_getD]; cases h2:l[n]? with
  |none=>simpa using hd
  |some x=>exact h x (List.mem_of_getElem? h2)
def b_s (x:ByteArray):List B:=[(.val (.string x))]
def d_s (x:ByteArray):List D:=[(.val (.string x))]
theorem toBR_s:∀(l:List ByteArray),toBR (l.map d_s)=l.map b_s
  |[]=>rfl
  |x::l=>by simp[toBR,toBL,toB,d_s,b_s,toBR_s l]
theorem fullR_s:∀(l:List ByteArray),fullR (l.map d_s)=true
  |[]=>rfl
  |x::l=>by simp[fullR,fullL,full,d_s,fullR_s l]
theorem pureR_s:∀(l:List ByteArray),pureR (l.map d_s)=true
  |[]=>rfl
  |x::l=>by simp[pureR,pureL,V.pure,d_s,pureR_s l]
theorem ft_s (a b:Nat) (l:List ByteArray):fullR (take a (drop b (l.map d_s)))=true:=by rw[← map_drop,← map_take]; exact fullR_s _
theorem tbt_s (a b:Nat) (l:List ByteArray):toBR (take a (drop b (l.map d_s)))=(take a (drop b l)).map b_s:=by rw[← map_drop,← map_take]; exact toBR_s _
theorem tb_s (l:List ByteArray):toBR (take (l.map d_s).length (drop 0 (l.map d_s)))=l.map b_s:=by rw[List.drop_zero,List.take_length]; exact toBR_s l
theorem lenB_s (l:List ByteArray):∀r∈l.map b_s,r.length=1:=by intro r h; obtain⟨x,_,rfl⟩:=List.mem_map.1 h; rfl
theorem lenD_s (l:List ByteArray):∀r∈l.map d_s,r.length=1:=by intro r h; obtain⟨x,_,rfl⟩:=List.mem_map.1 h; rfl
def os_s (x:ByteArray):Prop:=(ByteArray.size x≤140737488351232)
theorem gos_s {l:List ByteArray} (h:∀z∈l,os_s z) (n:Nat) (d:ByteArray) (hd:os_s d):os_s (l.getD n d):=by
  rw[List.getD_eq_getElem?_getD]; cases h2:l[n]? with
  |none=>simpa using hd
  |some x=>exact h x (List.mem_of_getElem? h2)
theorem fromBR_s (n:Nat) (l:List ByteArray):fromBR n (l.map b_s)=l.map d_s:=by simp[fromBR,b_s,d_s,fromB,Function.comp_def]
theorem copy_s (l:List ByteArray):(l.map d_s).all (fun x=>x.all copyable)=true:=by simp[d_s,copyable,Function.comp_def]
theorem ct_s (a b:Nat) (l:List ByteArray):((take a (drop b (l.map d_s))).all fun x=>x.all copyable)=true:=by rw[← map_drop,← map_take]; exact copy_s _
def b_Q (x:(List K_R)):List B:=[(.sl (map b_R x))]
def d_Q (x:(List K_R)):List D:=[(.own 5 (map d_R x))]
theorem toBR_Q:∀(l:List (List K_R)),toBR (l.map d_Q)=l.map b_Q
  |[]=>rfl
  |x::l=>by simp[toBR,toBL,toB,d_Q,b_Q,toBR_Q l,toBR_R]
theorem fullR_Q:∀(l:List (List K_R)),fullR (l.map d_Q)=true
  |[]=>rfl
  |x::l=>by simp[fullR,fullL,full,d_Q,fullR_Q l,fullR_R]
theorem pureR_Q:∀(l:List (List K_R)),pureR (l.map d_Q)=true
  |[]=>rfl
  |x::l=>by simp[pureR,pureL,V.pure,d_Q,pureR_Q l,pureR_R]
theorem ft_Q (a b:Nat) (l:List (List K_R)):fullR (take a (drop b (l.map d_Q)))=true:=by rw[← map_drop,← map_take]; exact fullR_Q _
theorem tbt_Q (a b:Nat) (l:List (List K_R)):toBR (take a (drop b (l.map d_Q)))=(take a (drop b l)).map b_Q:=by rw[← map_drop,← map_take]; exact toBR_Q _
theorem tb_Q (l:List (List K_R)):toBR (take (l.map d_Q).length (drop 0 (l.map d_Q)))=l.map b_Q:=by rw[List.drop_zero,List.take_length]; exact toBR_Q l
theorem lenB_Q (l:List (List K_R)):∀r∈l.map b_Q,r.length=1:=by intro r h; obtain⟨x,_,rfl⟩:=List.mem_map.1 h; rfl
theorem lenD_Q (l:List (List K_R)):∀r∈l.map d_Q,r.length=1:=by intro r h; obtain⟨x,_,rfl⟩:=List.mem_map.1 h; rfl
def ok_Q (x:(List K_R)):Prop:=(length x*56≤140737488351232)∧(∀z∈x,ok_R z)
def os_Q (x:(List K_R)):Prop:=(length x*56≤140737488351232)∧(∀z∈x,os_R z)
theorem os_ok_Q (x:(List K_R)) (h:os_Q x):ok_Q x:=⟨h.1,fun z hz=>os_ok_R z (h.2 z hz)⟩
theorem gos_Q {l:List (List K_R)} (h:∀z∈l,os_Q z) (n:Nat) (d:(List K_R)) (hd:os_Q d):os_Q (l.getD n d):=by
  rw[List.getD_eq_getElem?_getD]; cases h2:l[n]? with
  |none=>simpa using hd
  |some x=>exact h x (List.mem_of_getElem? h2)
theorem gok_Q {l:List (List K_R)} (h:∀z∈l,ok_Q z) (n:Nat) (d:(List K_R)) (hd:ok_Q d):ok_Q (l.getD n d):=by
  rw[List.getD_eq_getElem?_getD]; cases h2:l[n]? with
  |none=>simpa using hd
  |some x=>exact h x (List.mem_of_getElem? h2)
def b_y (x:Int):List B:=[(.val (.int .u8 x))]
def d_y (x:Int):List D:=[(.val (.int .u8 x))]
theorem toBR_y:∀(l:List Int),toBR (l.map d_y)=l.map b_y
  |[]=>rfl
  |x::l=>by simp[toBR,toBL,toB,d_y,b_y,toBR_y l]
theorem fullR_y:∀(l:List Int),fullR (l.map d_y)=true
  |[]=>rfl
  |x::l=>by simp[fullR,fullL,full,d_y,fullR_y l]
theorem pureR_y:∀(l:List Int),pureR (l.map d_y)=true
  |[]=>rfl
  |x::l=>by simp[pureR,pureL,V.pure,d_y,pureR_y l]
theorem ft_y (a b:Nat) (l:List Int):fullR (take a (drop b (l.map d_y)))=true:=by rw[← map_drop,← map_take]; exact fullR_y _
theorem tbt_y (a b:Nat) (l:List Int):toBR (take a (drop b (l.map d_y)))=(take a (drop b l)).map b_y:=by rw[← map_drop,← map_take]; exact toBR_y _
theorem tb_y (l:List Int):toBR (take (l.map d_y).length (drop 0 (l.map d_y)))=l.map b_y:=by rw[List.drop_zero,List.take_length]; exact toBR_y l
theorem lenB_y (l:List Int):∀r∈l.map b_y,r.length=1:=by intro r h; obtain⟨x,_,rfl⟩:=List.mem_map.1 h; rfl
theorem lenD_y (l:List Int):∀r∈l.map d_y,r.length=1:=by intro r h; obtain⟨x,_,rfl⟩:=List.mem_map.1 h; rfl
theorem fromBR_y (n:Nat) (l:List Int):fromBR n (l.map b_y)=l.map d_y:=by simp[fromBR,b_y,d_y,fromB,Function.comp_def]
theorem copy_y (l:List Int):(l.map d_y).all (fun x=>x.all copyable)=true:=by simp[d_y,copyable,Function.comp_def]
theorem ct_y (a b:Nat) (l:List Int):((take a (drop b (l.map d_y))).all fun x=>x.all copyable)=true:=by rw[← map_drop,← map_take]; exact copy_y _
def strInts (s:ByteArray):List Int:=s.data.toList.map fun b=>(b.toNat:Int)
theorem ly_y (a:Int) (l:List Int):[D.val (.int .u8 a)]::map d_y l=map d_y (a::l):=rfl
theorem ly0_y (a:Int):[[D.val (.int .u8 a)]]=map d_y [a]:=rfl
theorem strInts_len (s:ByteArray):(strInts s).length=s.size:=by simp[strInts]
theorem byteRows_len (s:ByteArray):(byteRows s).length=s.size:=by simp[byteRows]
theorem byteRows_eq (s:ByteArray):byteRows s=(strInts s).map d_y:=by simp[byteRows,strInts,d_y,Function.comp_def]
theorem tsi (s:ByteArray):take (ByteArray.size s) (map d_y (strInts s))=map d_y (strInts s):=by rw[take_of_length_le (by simp[strInts_len])]
theorem tbr (s:ByteArray):take (ByteArray.size s) (byteRows s)=map d_y (strInts s):=by rw[byteRows_eq,tsi]
theorem ints_y:∀(l:List Int),rowsInts .u8 (l.map d_y)=some l
  |[]=>rfl
  |x::l=>by simp only[List.map_cons,d_y,rowsInts,ints_y l]; rfl
attribute [local simp] toBR_si fullR_si pureR_si lenB_si lenD_si fromBR_si copy_si toBR_R fullR_R pureR_R lenB_R lenD_R toBR_B fullR_B pureR_B lenB_B lenD_B toBR_i fullR_i pureR_i lenB_i lenD_i fromBR_i copy_i toBR_b fullR_b pureR_b lenB_b lenD_b fromBR_b copy_b toBR_C fullR_C pureR_C lenB_C lenD_C toBR_LsiE fullR_LsiE pureR_LsiE lenB_LsiE lenD_LsiE toBR_s fullR_s pureR_s lenB_s lenD_s fromBR_s copy_s toBR_Q fullR_Q pureR_Q lenB_Q lenD_Q strInts_len byteRows_len toBR_y fullR_y pureR_y lenB_y lenD_y fromBR_y copy_y

theorem oset {l:List K_R} {i:Nat} {x:K_R} (h:∀z∈l,z.f3.length≤12) (hx:x.f3.length≤12):∀z∈l.set i x,ok_R z:=by
  intro z hz
  rcases List.mem_or_eq_of_mem_set hz with hz | rfl
  · have:=h z hz; unfold ok_R; omega
  · unfold ok_R; omega
theorem oall {l:List K_R} (h:∀z∈l,z.f3.length≤12):∀z∈l,ok_R z:=by
  intro z hz; have:=h z hz; unfold ok_R; omega
theorem oapp {l:List K_R} {x:K_R} (h:∀z∈l,z.f3.length≤12) (hx:x.f3.length≤12):∀z∈l++ [x],ok_R z:=by
  intro z hz
  rcases List.mem_append.1 hz with hz | hz
  · have:=h z hz; unfold ok_R; omega
  · cases List.mem_singleton.1 hz; unfold ok_R; omega
theorem oget {l:List K_R} (h:∀z∈l,z.f3.length≤12) (i:Nat):(getD l i (K_R.mk 0 0 0 [] 0)).f3.length≤12:=by
  rw[List.getD_eq_getElem?_getD]
  cases h2:l[i]? with
  |none=>simp
  |some x=>exact h x (List.mem_of_getElem? h2)
/-! loop.example/g00539/laws.szWeight -/
def m122 (a0:K_si) (a1:Int):Int:=
  if(decide ((IntKind.wrap .i64 (a1 - (ByteArray.size a0.f0:Int))) < 0))=true then(-1) else
  (IntKind.wrap .i64 (a1 - (ByteArray.size a0.f0:Int)))
theorem e122 {a0:K_si} {a1:Int}:Ev F X (.call 122 [(.agg [(.val (.string a0.f0)),(.val (.int .i64 a0.f1))]),(.one (.val (.int .i64 a1)))] [] [] [(.one (.val (.int .i64 (m122 a0 a1))))]):=by
  unfold m122
  by_cases h0:(decide ((IntKind.wrap .i64 (a1 - (ByteArray.size a0.f0:Int))) < 0))=true
  · try simp only[if_pos h0]
    exact callP_ok (ps:=[]) (os:=[]) (rs:=[(.oi (-1))]) (by kernel_rfl) (.f h0 (.h 20 (.b true) .nil))
  · try simp only[if_neg h0]
    exact callP_ok (ps:=[]) (os:=[]) (rs:=[(.oi (IntKind.wrap .i64 (a1 - (ByteArray.size a0.f0:Int))))]) (by kernel_rfl) (.f (nt h0) (.h 20 (.b false) .nil))
/-! loop 76_0 -/
inductive O76_0 where
  |k0 (w0:Int) (w1:Int) (w2:Bool)
  |k1
def r76_0 (a0:(List K_si)):List K_si→Int→Int→O76_0
  |x0::y0,i,v0=>
    if(decide ((m122 x0 v0) < 0))=true then(O76_0.k1) else
    (r76_0 a0 y0 (i+1) (m122 x0 v0))
  |[],i,v0=>(O76_0.k0 v0 i (decide (i <((length (map b_si a0)):Int))))
def h76_0 (l0_0:Nat) (a0:(List K_si)) (a1:Int) (i:Int) (v0:Int):St:=⟨[(0,(.one (.bor l0_0 (map b_si a0)))),(1,(.one (.val (.int .i64 v0)))),(5,(.one (.val (.int .i64 i))))],[]⟩
def ex76_0:O76_0→VX.Exit
  |.k0 _ _ _=>(.exit 0)
  |.k1=>.ret
def fin76_0 (l0_0:Nat) (a0:(List K_si)) (a1:Int):O76_0→St
  |.k0 w0 w1 w2=>⟨[(0,(.one (.bor l0_0 (map b_si a0)))),(1,(.one (.val (.int .i64 w0)))),(5,(.one (.val (.int .i64 w1)))),(15,(.one (.val (.bool w2))))],[]⟩
  |.k1=>⟨[(4,(.one (.val (.int .i64 (-1)))))],[]⟩
theorem t76_0 {l0_0:Nat} {a0:(List K_si)} {a1:Int} (hy0:length a0*24≤140737488351232):∀(y0:List K_si) (p:List K_si) (v0:Int),p++y0=a0→Ev F X (.code l76_0 (h76_0 l0_0 a0 a1 (length p:Int) v0) (ex76_0 (r76_0 a0 y0 (length p:Int) v0)) (fin76_0 l0_0 a0 a1 (r76_0 a0 y0 (length p:Int) v0)))
  |[],p,v0,hp0=>by
    have hc:¬(decide ((length p:Int) <((length (map b_si a0)):Int)))=true:=by
      rw[← hp0]; simp only[length_map,length_set,length_append,length_replicate,length_cons,length_nil,decide_eq_true_eq]; omega
    have st:=codeH_ok (F:=F) (X:=X) (c:=b76_0) (t:=0) (hs:=[(8,.b false)]) (σ:=h76_0 l0_0 a0 a1 (length p:Int) v0) (σ':=fin76_0 l0_0 a0 a1 (.k0 v0 (length p:Int) (decide ((length p:Int) <((length (map b_si a0)):Int))))) (e:=(.exit 0)) (t':=9) (hs':=[]) (q:=[(decide ((length p:Int) <((length (map b_si a0)):Int)))=false]) (by kernel_rfl) ⟨(nt hc),trivial⟩
    exact .loopX st (show ((.exit 0):VX.Exit)≠.normal from by simp)
  |x0::y0,p,v0,hp0=>by
    have hc:(decide ((length p:Int) <((length (map b_si a0)):Int)))=true:=by
      rw[← hp0]; simp only[length_map,length_set,length_append,length_replicate,length_cons,length_nil,decide_eq_true_eq]; omega
    have Hx0:(a0)[Int.toNat (length p:Int)]?=some x0:=by
      rw[← hp0,Int.toNat_natCast]; simp
    have hlen:length (a0)=length p+length y0+1:=by rw[← hp0]; simp; omega
    have hw:IntKind.wrap .i64 ((length p:Int)+1)=(length p:Int)+1:=wrap64 (by omega)
    simp only[r76_0]
    by_cases h_1:(decide ((m122 x0 v0) < 0))=true
    · try simp only[if_pos h_1]
      have st:=codeH_ok (F:=F) (X:=X) (c:=b76_0) (t:=0) (hs:=[(8,.b true),(14,.row [(.val (.string x0.f0)),(.i x0.f1)]),(20,.ret [] [(.oi (m122 x0 v0))] [] []),(27,.b true)]) (σ:=h76_0 l0_0 a0 a1 (length p:Int) v0) (σ':=fin76_0 l0_0 a0 a1 (.k1)) (e:=.ret) (t':=30) (hs':=[]) (q:=[(decide ((length p:Int) <((length (map b_si a0)):Int)))=true,0≤(length p:Int),(map b_si a0)[(Int.toNat (length p:Int))]?=some [(.val (.string x0.f0)),(.i x0.f1)],Ev F X (.call 122 [(.agg [(.val (.string x0.f0)),(.i x0.f1)]),(.oi v0)] [] [] [(.oi (m122 x0 v0))]),(decide ((m122 x0 v0) < 0))=true]) (by kernel_rfl) ⟨hc,(by omega),(by rw[getElem?_map,Hx0]; rfl),(e122 (a0:=x0) (a1:=v0)),h_1,trivial⟩
      exact .loopX st (show (.ret:VX.Exit)≠.normal from by simp)
    · try simp only[if_neg h_1]
      have st:=codeH_ok (F:=F) (X:=X) (c:=b76_0) (t:=0) (hs:=[(8,.b true),(14,.row [(.val (.string x0.f0)),(.i x0.f1)]),(20,.ret [] [(.oi (m122 x0 v0))] [] []),(27,.b false)]) (σ:=h76_0 l0_0 a0 a1 (length p:Int) v0) (σ':=⟨[(0,(.one (.bor l0_0 (map b_si a0)))),(1,(.oi (m122 x0 v0))),(5,(.oi (IntKind.wrap .i64 ((length p:Int)+1))))],[]⟩) (e:=.normal) (t':=34) (hs':=[]) (q:=[(decide ((length p:Int) <((length (map b_si a0)):Int)))=true,0≤(length p:Int),(map b_si a0)[(Int.toNat (length p:Int))]?=some [(.val (.string x0.f0)),(.i x0.f1)],Ev F X (.call 122 [(.agg [(.val (.string x0.f0)),(.i x0.f1)]),(.oi v0)] [] [] [(.oi (m122 x0 v0))]),(decide ((m122 x0 v0) < 0))=false,True]) (by kernel_rfl) ⟨hc,(by omega),(by rw[getElem?_map,Hx0]; rfl),(e122 (a0:=x0) (a1:=v0)),(nt h_1),trivial,trivial⟩
      have ih:=t76_0 (l0_0:=l0_0) (a0:=a0) (a1:=a1) hy0 y0 (p++ [x0]) (m122 x0 v0) (by rw[append_assoc]; exact hp0)
      rw[show ((p++ [x0]).length:Int)=(p.length:Int)+1 from by simp] at ih
      rw[show (⟨[(0,(.one (.bor l0_0 (map b_si a0)))),(1,(.oi (m122 x0 v0))),(5,(.oi (IntKind.wrap .i64 ((length p:Int)+1))))],[]⟩:St)=h76_0 l0_0 a0 a1 ((length p:Int)+1) (m122 x0 v0) from(by unfold h76_0; simp only[hw]; done)] at st
      exact .loopN st ih
/-! loop.example/g00539/laws.szWeightS -/
def m76 (a0:(List K_si)) (a1:Int):Int:=
  if(decide ((IntKind.wrap .i64 (a1 - ((length (map b_si a0)):Int))) < 0))=true then(-1) else
  (match r76_0 a0 a0 0 (IntKind.wrap .i64 (a1 - ((length (map b_si a0)):Int))) with | .k0 w0_1 w1_1 w2_1=>w0_1 | .k1=>(-1))
theorem e76 {l0_0:Nat} {a0:(List K_si)} {a1:Int} (hy0:length a0*24≤140737488351232):Ev F X (.call 76 [(.one (.bor l0_0 (map b_si a0))),(.one (.val (.int .i64 a1)))] [] [] [(.one (.val (.int .i64 (m76 a0 a1))))]):=by
  unfold m76
  by_cases h0:(decide ((IntKind.wrap .i64 (a1 - ((length (map b_si a0)):Int))) < 0))=true
  · try simp only[if_pos h0]
    exact callP_ok (ps:=[]) (os:=[]) (rs:=[(.oi (-1))]) (by kernel_rfl) (.f h0 (.h 16 (.b true) .nil))
  · try simp only[if_neg h0]
    cases h1:r76_0 a0 a0 0 (IntKind.wrap .i64 (a1 - ((length (map b_si a0)):Int))) with
    |k0 w0_1 w1_1 w2_1=>
      try dsimp only
      have f1:(⟨[(0,(.one (.bor l0_0 (map b_si a0)))),(1,(.oi (IntKind.wrap .i64 (a1 - ((length (map b_si a0)):Int))))),(5,(.oi 0))],[]⟩:St)=h76_0 l0_0 a0 a1 0 (IntKind.wrap .i64 (a1 - ((length (map b_si a0)):Int))):=(by rfl)
      have f2:Ev F X (.code l76_0 (h76_0 l0_0 a0 a1 0 (IntKind.wrap .i64 (a1 - ((length (map b_si a0)):Int)))) (.exit 0) ⟨[(0,(.one (.bor l0_0 (map b_si a0)))),(1,(.oi w0_1)),(5,(.oi w1_1)),(15,(.one (.val (.bool w2_1))))],[]⟩):=(by have t:Ev F X (.code l76_0 (h76_0 l0_0 a0 a1 0 (IntKind.wrap .i64 (a1 - ((length (map b_si a0)):Int)))) (ex76_0 (r76_0 a0 a0 0 (IntKind.wrap .i64 (a1 - ((length (map b_si a0)):Int))))) (fin76_0 l0_0 a0 a1 (r76_0 a0 a0 0 (IntKind.wrap .i64 (a1 - ((length (map b_si a0)):Int)))))):=t76_0 (l0_0:=l0_0) (a0:=a0) (a1:=a1) (by assumption) a0 [] (IntKind.wrap .i64 (a1 - ((length (map b_si a0)):Int))) rfl; rw[h1] at t; exact t)
      exact callP_ok (ps:=[]) (os:=[]) (rs:=[(.oi w0_1)]) (by kernel_rfl) (.f (nt h0) (.f f1 (.f f2 (.h 16 (.b false) (.h 19 (.loop (h76_0 l0_0 a0 a1 0 (IntKind.wrap .i64 (a1 - ((length (map b_si a0)):Int)))) (.exit 0) ⟨[(0,(.one (.bor l0_0 (map b_si a0)))),(1,(.oi w0_1)),(5,(.oi w1_1)),(15,(.one (.val (.bool w2_1))))],[]⟩) .nil)))))
    |k1=>
      try dsimp only
      have f1:(⟨[(0,(.one (.bor l0_0 (map b_si a0)))),(1,(.oi (IntKind.wrap .i64 (a1 - ((length (map b_si a0)):Int))))),(5,(.oi 0))],[]⟩:St)=h76_0 l0_0 a0 a1 0 (IntKind.wrap .i64 (a1 - ((length (map b_si a0)):Int))):=(by rfl)
      have f2:Ev F X (.code l76_0 (h76_0 l0_0 a0 a1 0 (IntKind.wrap .i64 (a1 - ((length (map b_si a0)):Int)))) .ret ⟨[(4,(.oi (-1)))],[]⟩):=(by have t:Ev F X (.code l76_0 (h76_0 l0_0 a0 a1 0 (IntKind.wrap .i64 (a1 - ((length (map b_si a0)):Int)))) (ex76_0 (r76_0 a0 a0 0 (IntKind.wrap .i64 (a1 - ((length (map b_si a0)):Int))))) (fin76_0 l0_0 a0 a1 (r76_0 a0 a0 0 (IntKind.wrap .i64 (a1 - ((length (map b_si a0)):Int)))))):=t76_0 (l0_0:=l0_0) (a0:=a0) (a1:=a1) (by assumption) a0 [] (IntKind.wrap .i64 (a1 - ((length (map b_si a0)):Int))) rfl; rw[h1] at t; exact t)
      exact callP_ok (ps:=[]) (os:=[]) (rs:=[(.oi (-1))]) (by kernel_rfl) (.f (nt h0) (.f f1 (.f f2 (.h 16 (.b false) (.h 19 (.loop (h76_0 l0_0 a0 a1 0 (IntKind.wrap .i64 (a1 - ((length (map b_si a0)):Int)))) .ret ⟨[(4,(.oi (-1)))],[]⟩) .nil)))))
/-! loop.example/g00539/laws.szReward -/
def m123 (a0:K_R) (a1:Int):Int:=
  if(decide ((m76 a0.f3 a1) < 0))=true then(-1) else
  (m76 a0.f3 a1)
theorem e123 {l0_3:Nat} {a0:K_R} {a1:Int} (hy0:length a0.f3*24≤140737488351232):Ev F X (.call 123 [(.agg [(.val (.int .i64 a0.f0)),(.val (.int .i64 a0.f1)),(.val (.int .i64 a0.f2)),(.bor l0_3 (map b_si a0.f3)),(.val (.int .i64 a0.f4))]),(.one (.val (.int .i64 a1)))] [] [] [(.one (.val (.int .i64 (m123 a0 a1))))]):=by
  unfold m123
  have f0:Ev F X (.call 76 [(.one (.bor (l0_3+1) (map b_si a0.f3))),(.oi a1)] [] [] [(.oi (m76 a0.f3 a1))]):=(e76 (a0:=a0.f3) (a1:=a1) (by with_reducible assumption))
  by_cases h0:(decide ((m76 a0.f3 a1) < 0))=true
  · try simp only[if_pos h0]
    exact callP_ok (ps:=[]) (os:=[]) (rs:=[(.oi (-1))]) (by kernel_rfl) (.r 11 [] [] f0 (.f h0 (.h 18 (.b true) .nil)))
  · try simp only[if_neg h0]
    exact callP_ok (ps:=[]) (os:=[]) (rs:=[(.oi (m76 a0.f3 a1))]) (by kernel_rfl) (.r 11 [] [] f0 (.f (nt h0) (.h 18 (.b false) .nil)))
/-! loop 77_0 -/
inductive O77_0 where
  |k0 (w0:Int) (w1:Int) (w2:Bool)
  |k1
def r77_0 (a0:(List K_R)):List K_R→Int→Int→O77_0
  |x0::y0,i,v0=>
    if(decide ((m123 x0 v0) < 0))=true then(O77_0.k1) else
    (r77_0 a0 y0 (i+1) (m123 x0 v0))
  |[],i,v0=>(O77_0.k0 v0 i (decide (i <((length (map b_R a0)):Int))))
def h77_0 (l0_0:Nat) (a0:(List K_R)) (a1:Int) (i:Int) (v0:Int):St:=⟨[(0,(.one (.bor l0_0 (map b_R a0)))),(1,(.one (.val (.int .i64 v0)))),(5,(.one (.val (.int .i64 i))))],[]⟩
def ex77_0:O77_0→VX.Exit
  |.k0 _ _ _=>(.exit 0)
  |.k1=>.ret
def fin77_0 (l0_0:Nat) (a0:(List K_R)) (a1:Int):O77_0→St
  |.k0 w0 w1 w2=>⟨[(0,(.one (.bor l0_0 (map b_R a0)))),(1,(.one (.val (.int .i64 w0)))),(5,(.one (.val (.int .i64 w1)))),(15,(.one (.val (.bool w2))))],[]⟩
  |.k1=>⟨[(4,(.one (.val (.int .i64 (-1)))))],[]⟩
theorem t77_0 {l0_0:Nat} {a0:(List K_R)} {a1:Int} (hy0:length a0*56≤140737488351232) (hy1:∀z∈a0,ok_R z):∀(y0:List K_R) (p:List K_R) (v0:Int),p++y0=a0→Ev F X (.code l77_0 (h77_0 l0_0 a0 a1 (length p:Int) v0) (ex77_0 (r77_0 a0 y0 (length p:Int) v0)) (fin77_0 l0_0 a0 a1 (r77_0 a0 y0 (length p:Int) v0)))
  |[],p,v0,hp0=>by
    have hc:¬(decide ((length p:Int) <((length (map b_R a0)):Int)))=true:=by
      rw[← hp0]; simp only[length_map,length_set,length_append,length_replicate,length_cons,length_nil,decide_eq_true_eq]; omega
    have st:=codeH_ok (F:=F) (X:=X) (c:=b77_0) (t:=0) (hs:=[(8,.b false)]) (σ:=h77_0 l0_0 a0 a1 (length p:Int) v0) (σ':=fin77_0 l0_0 a0 a1 (.k0 v0 (length p:Int) (decide ((length p:Int) <((length (map b_R a0)):Int))))) (e:=(.exit 0)) (t':=9) (hs':=[]) (q:=[(decide ((length p:Int) <((length (map b_R a0)):Int)))=false]) (by kernel_rfl) ⟨(nt hc),trivial⟩
    exact .loopX st (show ((.exit 0):VX.Exit)≠.normal from by simp)
  |x0::y0,p,v0,hp0=>by
    have hc:(decide ((length p:Int) <((length (map b_R a0)):Int)))=true:=by
      rw[← hp0]; simp only[length_map,length_set,length_append,length_replicate,length_cons,length_nil,decide_eq_true_eq]; omega
    have Hx0:(a0)[Int.toNat (length p:Int)]?=some x0:=by
      rw[← hp0,Int.toNat_natCast]; simp
    have Mx0_0:=hy1 x0 (List.mem_of_getElem? Hx0)
    have hlen:length (a0)=length p+length y0+1:=by rw[← hp0]; simp; omega
    have hw:IntKind.wrap .i64 ((length p:Int)+1)=(length p:Int)+1:=wrap64 (by omega)
    simp only[r77_0]
    by_cases h_1:(decide ((m123 x0 v0) < 0))=true
    · try simp only[if_pos h_1]
      have st:=codeH_ok (F:=F) (X:=X) (c:=b77_0) (t:=0) (hs:=[(8,.b true),(14,.row [(.i x0.f0),(.i x0.f1),(.i x0.f2),(.sl (map b_si x0.f3)),(.i x0.f4)]),(20,.ret [] [(.oi (m123 x0 v0))] [] []),(27,.b true)]) (σ:=h77_0 l0_0 a0 a1 (length p:Int) v0) (σ':=fin77_0 l0_0 a0 a1 (.k1)) (e:=.ret) (t':=30) (hs':=[]) (q:=[(decide ((length p:Int) <((length (map b_R a0)):Int)))=true,0≤(length p:Int),(map b_R a0)[(Int.toNat (length p:Int))]?=some [(.i x0.f0),(.i x0.f1),(.i x0.f2),(.sl (map b_si x0.f3)),(.i x0.f4)],Ev F X (.call 123 [(.agg [(.i x0.f0),(.i x0.f1),(.i x0.f2),(.bor (l0_0+1) (map b_si x0.f3)),(.i x0.f4)]),(.oi v0)] [] [] [(.oi (m123 x0 v0))]),(decide ((m123 x0 v0) < 0))=true]) (by kernel_rfl) ⟨hc,(by omega),(by rw[getElem?_map,Hx0]; rfl),(e123 (a0:=x0) (a1:=v0) (by assumption)),h_1,trivial⟩
      exact .loopX st (show (.ret:VX.Exit)≠.normal from by simp)
    · try simp only[if_neg h_1]
      have st:=codeH_ok (F:=F) (X:=X) (c:=b77_0) (t:=0) (hs:=[(8,.b true),(14,.row [(.i x0.f0),(.i x0.f1),(.i x0.f2),(.sl (map b_si x0.f3)),(.i x0.f4)]),(20,.ret [] [(.oi (m123 x0 v0))] [] []),(27,.b false)]) (σ:=h77_0 l0_0 a0 a1 (length p:Int) v0) (σ':=⟨[(0,(.one (.bor l0_0 (map b_R a0)))),(1,(.oi (m123 x0 v0))),(5,(.oi (IntKind.wrap .i64 ((length p:Int)+1))))],[]⟩) (e:=.normal) (t':=34) (hs':=[]) (q:=[(decide ((length p:Int) <((length (map b_R a0)):Int)))=true,0≤(length p:Int),(map b_R a0)[(Int.toNat (length p:Int))]?=some [(.i x0.f0),(.i x0.f1),(.i x0.f2),(.sl (map b_si x0.f3)),(.i x0.f4)],Ev F X (.call 123 [(.agg [(.i x0.f0),(.i x0.f1),(.i x0.f2),(.bor (l0_0+1) (map b_si x0.f3)),(.i x0.f4)]),(.oi v0)] [] [] [(.oi (m123 x0 v0))]),(decide ((m123 x0 v0) < 0))=false,True]) (by kernel_rfl) ⟨hc,(by omega),(by rw[getElem?_map,Hx0]; rfl),(e123 (a0:=x0) (a1:=v0) (by assumption)),(nt h_1),trivial,trivial⟩
      have ih:=t77_0 (l0_0:=l0_0) (a0:=a0) (a1:=a1) hy0 hy1 y0 (p++ [x0]) (m123 x0 v0) (by rw[append_assoc]; exact hp0)
      rw[show ((p++ [x0]).length:Int)=(p.length:Int)+1 from by simp] at ih
      rw[show (⟨[(0,(.one (.bor l0_0 (map b_R a0)))),(1,(.oi (m123 x0 v0))),(5,(.oi (IntKind.wrap .i64 ((length p:Int)+1))))],[]⟩:St)=h77_0 l0_0 a0 a1 ((length p:Int)+1) (m123 x0 v0) from(by unfold h77_0; simp only[hw]; done)] at st
      exact .loopN st ih
/-! loop.example/g00539/laws.szRewardS -/
def m77 (a0:(List K_R)) (a1:Int):Int:=
  if(decide ((IntKind.wrap .i64 (a1 - ((length (map b_R a0)):Int))) < 0))=true then(-1) else
  (match r77_0 a0 a0 0 (IntKind.wrap .i64 (a1 - ((length (map b_R a0)):Int))) with | .k0 w0_1 w1_1 w2_1=>w0_1 | .k1=>(-1))
theorem e77 {l0_0:Nat} {a0:(List K_R)} {a1:Int} (hy0:length a0*56≤140737488351232) (hy1:∀z∈a0,ok_R z):Ev F X (.call 77 [(.one (.bor l0_0 (map b_R a0))),(.one (.val (.int .i64 a1)))] [] [] [(.one (.val (.int .i64 (m77 a0 a1))))]):=by
  unfold m77
  by_cases h0:(decide ((IntKind.wrap .i64 (a1 - ((length (map b_R a0)):Int))) < 0))=true
  · try simp only[if_pos h0]
    exact callP_ok (ps:=[]) (os:=[]) (rs:=[(.oi (-1))]) (by kernel_rfl) (.f h0 (.h 16 (.b true) .nil))
  · try simp only[if_neg h0]
    cases h1:r77_0 a0 a0 0 (IntKind.wrap .i64 (a1 - ((length (map b_R a0)):Int))) with
    |k0 w0_1 w1_1 w2_1=>
      try dsimp only
      have f1:(⟨[(0,(.one (.bor l0_0 (map b_R a0)))),(1,(.oi (IntKind.wrap .i64 (a1 - ((length (map b_R a0)):Int))))),(5,(.oi 0))],[]⟩:St)=h77_0 l0_0 a0 a1 0 (IntKind.wrap .i64 (a1 - ((length (map b_R a0)):Int))):=(by rfl)
      have f2:Ev F X (.code l77_0 (h77_0 l0_0 a0 a1 0 (IntKind.wrap .i64 (a1 - ((length (map b_R a0)):Int)))) (.exit 0) ⟨[(0,(.one (.bor l0_0 (map b_R a0)))),(1,(.oi w0_1)),(5,(.oi w1_1)),(15,(.one (.val (.bool w2_1))))],[]⟩):=(by have t:Ev F X (.code l77_0 (h77_0 l0_0 a0 a1 0 (IntKind.wrap .i64 (a1 - ((length (map b_R a0)):Int)))) (ex77_0 (r77_0 a0 a0 0 (IntKind.wrap .i64 (a1 - ((length (map b_R a0)):Int))))) (fin77_0 l0_0 a0 a1 (r77_0 a0 a0 0 (IntKind.wrap .i64 (a1 - ((length (map b_R a0)):Int)))))):=t77_0 (l0_0:=l0_0) (a0:=a0) (a1:=a1) (by assumption) (by assumption) a0 [] (IntKind.wrap .i64 (a1 - ((length (map b_R a0)):Int))) rfl; rw[h1] at t; exact t)
      exact callP_ok (ps:=[]) (os:=[]) (rs:=[(.oi w0_1)]) (by kernel_rfl) (.f (nt h0) (.f f1 (.f f2 (.h 16 (.b false) (.h 19 (.loop (h77_0 l0_0 a0 a1 0 (IntKind.wrap .i64 (a1 - ((length (map b_R a0)):Int)))) (.exit 0) ⟨[(0,(.one (.bor l0_0 (map b_R a0)))),(1,(.oi w0_1)),(5,(.oi w1_1)),(15,(.one (.val (.bool w2_1))))],[]⟩) .nil)))))
    |k1=>
      try dsimp only
      have f1:(⟨[(0,(.one (.bor l0_0 (map b_R a0)))),(1,(.oi (IntKind.wrap .i64 (a1 - ((length (map b_R a0)):Int))))),(5,(.oi 0))],[]⟩:St)=h77_0 l0_0 a0 a1 0 (IntKind.wrap .i64 (a1 - ((length (map b_R a0)):Int))):=(by rfl)
      have f2:Ev F X (.code l77_0 (h77_0 l0_0 a0 a1 0 (IntKind.wrap .i64 (a1 - ((length (map b_R a0)):Int)))) .ret ⟨[(4,(.oi (-1)))],[]⟩):=(by have t:Ev F X (.code l77_0 (h77_0 l0_0 a0 a1 0 (IntKind.wrap .i64 (a1 - ((length (map b_R a0)):Int)))) (ex77_0 (r77_0 a0 a0 0 (IntKind.wrap .i64 (a1 - ((length (map b_R a0)):Int))))) (fin77_0 l0_0 a0 a1 (r77_0 a0 a0 0 (IntKind.wrap .i64 (a1 - ((length (map b_R a0)):Int)))))):=t77_0 (l0_0:=l0_0) (a0:=a0) (a1:=a1) (by assumption) (by assumption) a0 [] (IntKind.wrap .i64 (a1 - ((length (map b_R a0)):Int))) rfl; rw[h1] at t; exact t)
      exact callP_ok (ps:=[]) (os:=[]) (rs:=[(.oi (-1))]) (by kernel_rfl) (.f (nt h0) (.f f1 (.f f2 (.h 16 (.b false) (.h 19 (.loop (h77_0 l0_0 a0 a1 0 (IntKind.wrap .i64 (a1 - ((length (map b_R a0)):Int)))) .ret ⟨[(4,(.oi (-1)))],[]⟩) .nil)))))
/-! loop.example/g00539/laws.szLedger -/
def m29 (a0:K_B) (a1:Int):Int:=
  if(decide ((m76 a0.f2 a1) < 0))=true then(-1) else
  if(decide ((m77 a0.f3 (m76 a0.f2 a1)) < 0))=true then(-1) else
    if(decide ((m76 a0.f4 (m77 a0.f3 (m76 a0.f2 a1))) < 0))=true then(-1) else
      (m76 a0.f4 (m77 a0.f3 (m76 a0.f2 a1)))
theorem e29 {l0_2:Nat} {l0_3:Nat} {l0_4:Nat} {a0:K_B} {a1:Int} (hy0:length a0.f2*24≤140737488351232) (hy1:length a0.f3*56≤140737488351232) (hy2:∀z∈a0.f3,ok_R z) (hy3:length a0.f4*24≤140737488351232):Ev F X (.call 29 [(.agg [(.val (.int .i64 a0.f0)),(.val (.int .i64 a0.f1)),(.bor l0_2 (map b_si a0.f2)),(.bor l0_3 (map b_R a0.f3)),(.bor l0_4 (map b_si a0.f4)),(.val (.int .i64 a0.f5)),(.val (.int .i64 a0.f6)),(.val (.int .i64 a0.f7))]),(.one (.val (.int .i64 a1)))] [] [] [(.one (.val (.int .i64 (m29 a0 a1))))]):=by
  unfold m29
  have f0:Ev F X (.call 76 [(.one (.bor (l0_2+1) (map b_si a0.f2))),(.oi a1)] [] [] [(.oi (m76 a0.f2 a1))]):=(e76 (a0:=a0.f2) (a1:=a1) (by with_reducible assumption))
  by_cases h0:(decide ((m76 a0.f2 a1) < 0))=true
  · try simp only[if_pos h0]
    exact callP_ok (ps:=[]) (os:=[]) (rs:=[(.oi (-1))]) (by kernel_rfl) (.r 11 [] [] f0 (.f h0 (.h 18 (.b true) .nil)))
  · try simp only[if_neg h0]
    have f2:Ev F X (.call 77 [(.one (.bor (l0_3+1) (map b_R a0.f3))),(.oi (m76 a0.f2 a1))] [] [] [(.oi (m77 a0.f3 (m76 a0.f2 a1)))]):=(e77 (a0:=a0.f3) (a1:=(m76 a0.f2 a1)) (by with_reducible assumption) (by with_reducible assumption))
    by_cases h1:(decide ((m77 a0.f3 (m76 a0.f2 a1)) < 0))=true
    · try simp only[if_pos h1]
      exact callP_ok (ps:=[]) (os:=[]) (rs:=[(.oi (-1))]) (by kernel_rfl) (.r 11 [] [] f0 (.f (nt h0) (.h 18 (.b false) (.r 26 [] [] f2 (.f h1 (.h 33 (.b true) .nil))))))
    · try simp only[if_neg h1]
      have f4:Ev F X (.call 76 [(.one (.bor (l0_4+1) (map b_si a0.f4))),(.oi (m77 a0.f3 (m76 a0.f2 a1)))] [] [] [(.oi (m76 a0.f4 (m77 a0.f3 (m76 a0.f2 a1))))]):=(e76 (a0:=a0.f4) (a1:=(m77 a0.f3 (m76 a0.f2 a1))) (by with_reducible assumption))
      by_cases h2:(decide ((m76 a0.f4 (m77 a0.f3 (m76 a0.f2 a1))) < 0))=true
      · try simp only[if_pos h2]
        exact callP_ok (ps:=[]) (os:=[]) (rs:=[(.oi (-1))]) (by kernel_rfl) (.r 11 [] [] f0 (.f (nt h0) (.h 18 (.b false) (.r 26 [] [] f2 (.f (nt h1) (.h 33 (.b false) (.r 41 [] [] f4 (.f h2 (.h 48 (.b true) .nil)))))))))
      · try simp only[if_neg h2]
        exact callP_ok (ps:=[]) (os:=[]) (rs:=[(.oi (m76 a0.f4 (m77 a0.f3 (m76 a0.f2 a1))))]) (by kernel_rfl) (.r 11 [] [] f0 (.f (nt h0) (.h 18 (.b false) (.r 26 [] [] f2 (.f (nt h1) (.h 33 (.b false) (.r 41 [] [] f4 (.f (nt h2) (.h 48 (.b false) .nil)))))))))
/-! loop.example/g00539/spec.l1In -/
def m105 (a0:Int) (a1:Int) (a2:Int):Bool:=
  if(decide (a0≥a1))=true then(decide (a0≤a2)) else
  false
theorem e105 {a0:Int} {a1:Int} {a2:Int}:Ev F X (.call 105 [(.one (.val (.int .i64 a0))),(.one (.val (.int .i64 a1))),(.one (.val (.int .i64 a2)))] [] [] [(.one (.val (.bool (m105 a0 a1 a2))))]):=by
  unfold m105
  by_cases h0:(decide (a0≥a1))=true
  · try simp only[if_pos h0]
    exact callP_ok (ps:=[]) (os:=[]) (rs:=[(.one (.val (.bool (decide (a0≤a2)))))]) (by kernel_rfl) (.f h0 (.f h0 (.f h0 (.f h0 (.h 10 (.b true) (.h 12 (.b true) (.h 14 (.b true) (.h 17 (.b true) .nil))))))))
  · try simp only[if_neg h0]
    exact callP_ok (ps:=[]) (os:=[]) (rs:=[(.one (.val (.bool false)))]) (by kernel_rfl) (.f (nt h0) (.f (nt h0) (.f (nt h0) (.f (nt h0) (.h 10 (.b false) (.h 12 (.b false) (.h 14 (.b false) (.h 17 (.b false) .nil))))))))
/-! loop.example/g00539/spec.l1Amount -/
def m101 (a0:Int):Bool:=
  (m105 a0 0 1000000)
theorem e101 {a0:Int}:Ev F X (.call 101 [(.one (.val (.int .i64 a0)))] [] [] [(.one (.val (.bool (m105 a0 0 1000000))))]):=by
  have f0:Ev F X (.call 105 [(.oi a0),(.oi 0),(.oi 1000000)] [] [] [(.one (.val (.bool (m105 a0 0 1000000))))]):=(e105 (a0:=a0) (a1:=0) (a2:=1000000))
  exact callP_ok (ps:=[]) (os:=[]) (rs:=[(.one (.val (.bool (m105 a0 0 1000000))))]) (by kernel_rfl) (.r 5 [] [] f0 .nil)
/-! loop.example/g00539/spec.l14Ranges -/
def m95 (a0:K_B):Bool:=
  if (m105 a0.f0 1 12) = true then (if (m105 a0.f1 0 1000) = true then (if (m105 a0.f5 0 1000000) = true then (if (m105 a0.f6 0 1000000) = true then (m105 a0.f7 0 1000000) else
        false) else
      false) else
    false) else
  false
theorem e95 {l0:Nat} {a0:K_B}:Ev F X (.call 95 [(.bptr l0 [(.val (.int .i64 a0.f0)),(.val (.int .i64 a0.f1)),(.sl (map b_si a0.f2)),(.sl (map b_R a0.f3)),(.sl (map b_si a0.f4)),(.val (.int .i64 a0.f5)),(.val (.int .i64 a0.f6)),(.val (.int .i64 a0.f7))])] [] [] [(.one (.val (.bool (m95 a0))))]):=by
  unfold m95
  have f0:Ev F X (.call 105 [(.oi a0.f0),(.oi 1),(.oi 12)] [] [] [(.one (.val (.bool (m105 a0.f0 1 12))))]):=(e105 (a0:=a0.f0) (a1:=1) (a2:=12))
  by_cases h0:(m105 a0.f0 1 12)=true
  · try simp only[if_pos h0]
    have f6:Ev F X (.call 105 [(.oi a0.f1),(.oi 0),(.oi 1000)] [] [] [(.one (.val (.bool (m105 a0.f1 0 1000))))]):=(e105 (a0:=a0.f1) (a1:=0) (a2:=1000))
    by_cases h1:(m105 a0.f1 0 1000)=true
    · try simp only[if_pos h1]
      have f13:Ev F X (.call 101 [(.oi a0.f5)] [] [] [(.one (.val (.bool (m105 a0.f5 0 1000000))))]):=(e101 (a0:=a0.f5))
      by_cases h2:(m105 a0.f5 0 1000000)=true
      · try simp only[if_pos h2]
        have f20:Ev F X (.call 101 [(.oi a0.f6)] [] [] [(.one (.val (.bool (m105 a0.f6 0 1000000))))]):=(e101 (a0:=a0.f6))
        by_cases h3:(m105 a0.f6 0 1000000)=true
        · try simp only[if_pos h3]
          have f27:Ev F X (.call 101 [(.oi a0.f7)] [] [] [(.one (.val (.bool (m105 a0.f7 0 1000000))))]):=(e101 (a0:=a0.f7))
          exact callP_ok (ps:=[]) (os:=[]) (rs:=[(.one (.val (.bool (m105 a0.f7 0 1000000))))]) (by kernel_rfl) (.r 11 [] [] f0 (.f h0 (.f h0 (.f h0 (.f h0 (.f h0 (.h 14 (.b true) (.h 16 (.b true) (.h 18 (.b true) (.h 20 (.b true) (.h 22 (.b true) (.r 23 [] [] f6 (.f h0 (.f h1 (.f h1 (.f h1 (.f h1 (.f h1 (.h 25 (.b true) (.h 28 (.b true) (.h 30 (.b true) (.h 32 (.b true) (.h 34 (.b true) (.h 36 (.b true) (.r 37 [] [] f13 (.f h1 (.f h2 (.f h2 (.f h2 (.f h2 (.f h2 (.h 39 (.b true) (.h 42 (.b true) (.h 44 (.b true) (.h 46 (.b true) (.h 48 (.b true) (.h 50 (.b true) (.r 51 [] [] f20 (.f h2 (.f h3 (.f h3 (.f h3 (.f h3 (.f h3 (.h 53 (.b true) (.h 56 (.b true) (.h 58 (.b true) (.h 60 (.b true) (.h 62 (.b true) (.h 64 (.b true) (.r 65 [] [] f27 (.f h3 (.h 67 (.b true) .nil)))))))))))))))))))))))))))))))))))))))))))))))))))))
        · try simp only[if_neg h3]
          exact callP_ok (ps:=[]) (os:=[]) (rs:=[(.one (.val (.bool false)))]) (by kernel_rfl) (.r 11 [] [] f0 (.f h0 (.f h0 (.f h0 (.f h0 (.f h0 (.h 14 (.b true) (.h 16 (.b true) (.h 18 (.b true) (.h 20 (.b true) (.h 22 (.b true) (.r 23 [] [] f6 (.f h0 (.f h1 (.f h1 (.f h1 (.f h1 (.f h1 (.h 25 (.b true) (.h 28 (.b true) (.h 30 (.b true) (.h 32 (.b true) (.h 34 (.b true) (.h 36 (.b true) (.r 37 [] [] f13 (.f h1 (.f h2 (.f h2 (.f h2 (.f h2 (.f h2 (.h 39 (.b true) (.h 42 (.b true) (.h 44 (.b true) (.h 46 (.b true) (.h 48 (.b true) (.h 50 (.b true) (.r 51 [] [] f20 (.f h2 (.f (nt h3) (.f (nt h3) (.f (nt h3) (.f (nt h3) (.f (nt h3) (.f (nt h3) (.h 53 (.b true) (.h 56 (.b false) (.h 58 (.b false) (.h 60 (.b false) (.h 62 (.b false) (.h 64 (.b false) (.h 67 (.b false) .nil))))))))))))))))))))))))))))))))))))))))))))))))))))
      · try simp only[if_neg h2]
        exact callP_ok (ps:=[]) (os:=[]) (rs:=[(.one (.val (.bool false)))]) (by kernel_rfl) (.r 11 [] [] f0 (.f h0 (.f h0 (.f h0 (.f h0 (.f h0 (.h 14 (.b true) (.h 16 (.b true) (.h 18 (.b true) (.h 20 (.b true) (.h 22 (.b true) (.r 23 [] [] f6 (.f h0 (.f h1 (.f h1 (.f h1 (.f h1 (.f h1 (.h 25 (.b true) (.h 28 (.b true) (.h 30 (.b true) (.h 32 (.b true) (.h 34 (.b true) (.h 36 (.b true) (.r 37 [] [] f13 (.f h1 (.f (nt h2) (.f (nt h2) (.f (nt h2) (.f (nt h2) (.f (nt h2) (.f (nt h2) (.h 39 (.b true) (.h 42 (.b false) (.h 44 (.b false) (.h 46 (.b false) (.h 48 (.b false) (.h 50 (.b false) (.h 53 (.b false) .nil)))))))))))))))))))))))))))))))))))))))
    · try simp only[if_neg h1]
      exact callP_ok (ps:=[]) (os:=[]) (rs:=[(.one (.val (.bool false)))]) (by kernel_rfl) (.r 11 [] [] f0 (.f h0 (.f h0 (.f h0 (.f h0 (.f h0 (.h 14 (.b true) (.h 16 (.b true) (.h 18 (.b true) (.h 20 (.b true) (.h 22 (.b true) (.r 23 [] [] f6 (.f h0 (.f (nt h1) (.f (nt h1) (.f (nt h1) (.f (nt h1) (.f (nt h1) (.f (nt h1) (.h 25 (.b true) (.h 28 (.b false) (.h 30 (.b false) (.h 32 (.b false) (.h 34 (.b false) (.h 36 (.b false) (.h 39 (.b false) .nil))))))))))))))))))))))))))
  · try simp only[if_neg h0]
    exact callP_ok (ps:=[]) (os:=[]) (rs:=[(.one (.val (.bool false)))]) (by kernel_rfl) (.r 11 [] [] f0 (.f (nt h0) (.f (nt h0) (.f (nt h0) (.f (nt h0) (.f (nt h0) (.f (nt h0) (.h 14 (.b false) (.h 16 (.b false) (.h 18 (.b false) (.h 20 (.b false) (.h 22 (.b false) (.h 25 (.b false) .nil)))))))))))))
/-! loop.example/g00539/spec.l9Letter -/
def m140 (a0:Int):Bool:=
  if (decide (a0 ≥ 97)) = true then (if (decide (a0 ≤ 122)) = true then true else
    if (decide (a0 ≥ 65)) = true then (if (decide (a0 ≤ 90)) = true then true else
        if(decide (a0≥48))=true then(decide (a0≤57)) else
          false) else
      if(decide (a0≥48))=true then(decide (a0≤57)) else
        false) else
  if (decide (a0 ≥ 65)) = true then (if (decide (a0 ≤ 90)) = true then true else
      if(decide (a0≥48))=true then(decide (a0≤57)) else
        false) else
    if(decide (a0≥48))=true then(decide (a0≤57)) else
      false
theorem e140 {a0:Int}:Ev F X (.call 140 [(.one (.val (.int .u8 a0)))] [] [] [(.one (.val (.bool (m140 a0))))]):=by
  unfold m140
  by_cases h0:(decide (a0≥97))=true
  · try simp only[if_pos h0]
    by_cases h1:(decide (a0≤122))=true
    · try simp only[if_pos h1]
      exact callP_ok (ps:=[]) (os:=[]) (rs:=[(.one (.val (.bool true)))]) (by kernel_rfl) (.f h0 (.f h0 (.f h0 (.f h1 (.f h1 (.f h1 (.f h1 (.f h1 (.h 8 (.b true) (.h 10 (.b true) (.h 13 (.b true) (.h 16 (.b true) (.h 18 (.b true) (.h 20 (.b true) (.h 26 (.b true) (.h 29 (.b true) .nil))))))))))))))))
    · try simp only[if_neg h1]
      by_cases h2:(decide (a0≥65))=true
      · try simp only[if_pos h2]
        by_cases h3:(decide (a0≤90))=true
        · try simp only[if_pos h3]
          exact callP_ok (ps:=[]) (os:=[]) (rs:=[(.one (.val (.bool true)))]) (by kernel_rfl) (.f h0 (.f h0 (.f h0 (.f (nt h1) (.f (nt h1) (.f (nt h1) (.f h2 (.f h2 (.f (nt h1) (.f h2 (.f (nt h1) (.f h3 (.f h3 (.f h3 (.f h3 (.f h3 (.h 8 (.b true) (.h 10 (.b true) (.h 13 (.b true) (.h 16 (.b false) (.h 18 (.b false) (.h 20 (.b false) (.h 22 (.b true) (.h 24 (.b true) (.h 26 (.b false) (.h 27 (.b true) (.h 29 (.b false) (.h 32 (.b true) (.h 34 (.b true) (.h 36 (.b true) (.h 42 (.b true) (.h 45 (.b true) .nil))))))))))))))))))))))))))))))))
        · try simp only[if_neg h3]
          by_cases h4:(decide (a0≥48))=true
          · try simp only[if_pos h4]
            exact callP_ok (ps:=[]) (os:=[]) (rs:=[(.one (.val (.bool (decide (a0≤57)))))]) (by kernel_rfl) (.f h0 (.f h0 (.f h0 (.f (nt h1) (.f (nt h1) (.f (nt h1) (.f h2 (.f h2 (.f (nt h1) (.f h2 (.f (nt h1) (.f (nt h3) (.f (nt h3) (.f (nt h3) (.f h4 (.f h4 (.f (nt h3) (.f h4 (.f (nt h3) (.h 8 (.b true) (.h 10 (.b true) (.h 13 (.b true) (.h 16 (.b false) (.h 18 (.b false) (.h 20 (.b false) (.h 22 (.b true) (.h 24 (.b true) (.h 26 (.b false) (.h 27 (.b true) (.h 29 (.b false) (.h 32 (.b false) (.h 34 (.b false) (.h 36 (.b false) (.h 38 (.b true) (.h 40 (.b true) (.h 42 (.b false) (.h 43 (.b true) (.h 45 (.b false) .nil))))))))))))))))))))))))))))))))))))))
          · try simp only[if_neg h4]
            exact callP_ok (ps:=[]) (os:=[]) (rs:=[(.one (.val (.bool false)))]) (by kernel_rfl) (.f h0 (.f h0 (.f h0 (.f (nt h1) (.f (nt h1) (.f (nt h1) (.f h2 (.f h2 (.f (nt h1) (.f h2 (.f (nt h1) (.f (nt h3) (.f (nt h3) (.f (nt h3) (.f (nt h4) (.f (nt h4) (.f (nt h3) (.f (nt h4) (.f (nt h3) (.h 8 (.b true) (.h 10 (.b true) (.h 13 (.b true) (.h 16 (.b false) (.h 18 (.b false) (.h 20 (.b false) (.h 22 (.b true) (.h 24 (.b true) (.h 26 (.b false) (.h 27 (.b true) (.h 29 (.b false) (.h 32 (.b false) (.h 34 (.b false) (.h 36 (.b false) (.h 38 (.b false) (.h 40 (.b false) (.h 42 (.b false) (.h 43 (.b false) (.h 45 (.b false) .nil))))))))))))))))))))))))))))))))))))))
      · try simp only[if_neg h2]
        by_cases h3:(decide (a0≥48))=true
        · try simp only[if_pos h3]
          exact callP_ok (ps:=[]) (os:=[]) (rs:=[(.one (.val (.bool (decide (a0≤57)))))]) (by kernel_rfl) (.f h0 (.f h0 (.f h0 (.f (nt h1) (.f (nt h1) (.f (nt h1) (.f (nt h2) (.f (nt h2) (.f (nt h1) (.f (nt h2) (.f (nt h1) (.f h3 (.f h3 (.f h3 (.h 8 (.b true) (.h 10 (.b true) (.h 13 (.b true) (.h 16 (.b false) (.h 18 (.b false) (.h 20 (.b false) (.h 22 (.b false) (.h 24 (.b false) (.h 26 (.b false) (.h 27 (.b false) (.h 29 (.b false) (.h 38 (.b true) (.h 40 (.b true) (.h 43 (.b true) .nil))))))))))))))))))))))))))))
        · try simp only[if_neg h3]
          exact callP_ok (ps:=[]) (os:=[]) (rs:=[(.one (.val (.bool false)))]) (by kernel_rfl) (.f h0 (.f h0 (.f h0 (.f (nt h1) (.f (nt h1) (.f (nt h1) (.f (nt h2) (.f (nt h2) (.f (nt h1) (.f (nt h2) (.f (nt h1) (.f (nt h3) (.f (nt h3) (.f (nt h3) (.h 8 (.b true) (.h 10 (.b true) (.h 13 (.b true) (.h 16 (.b false) (.h 18 (.b false) (.h 20 (.b false) (.h 22 (.b false) (.h 24 (.b false) (.h 26 (.b false) (.h 27 (.b false) (.h 29 (.b false) (.h 38 (.b false) (.h 40 (.b false) (.h 43 (.b false) .nil))))))))))))))))))))))))))))
  · try simp only[if_neg h0]
    by_cases h1:(decide (a0≥65))=true
    · try simp only[if_pos h1]
      by_cases h2:(decide (a0≤90))=true
      · try simp only[if_pos h2]
        exact callP_ok (ps:=[]) (os:=[]) (rs:=[(.one (.val (.bool true)))]) (by kernel_rfl) (.f (nt h0) (.f (nt h0) (.f (nt h0) (.f h1 (.f h1 (.f h1 (.f h2 (.f h2 (.f h2 (.f h2 (.f h2 (.h 8 (.b false) (.h 10 (.b false) (.h 13 (.b false) (.h 22 (.b true) (.h 24 (.b true) (.h 27 (.b true) (.h 32 (.b true) (.h 34 (.b true) (.h 36 (.b true) (.h 42 (.b true) (.h 45 (.b true) .nil))))))))))))))))))))))
      · try simp only[if_neg h2]
        by_cases h3:(decide (a0≥48))=true
        · try simp only[if_pos h3]
          exact callP_ok (ps:=[]) (os:=[]) (rs:=[(.one (.val (.bool (decide (a0≤57)))))]) (by kernel_rfl) (.f (nt h0) (.f (nt h0) (.f (nt h0) (.f h1 (.f h1 (.f h1 (.f (nt h2) (.f (nt h2) (.f (nt h2) (.f h3 (.f h3 (.f (nt h2) (.f h3 (.f (nt h2) (.h 8 (.b false) (.h 10 (.b false) (.h 13 (.b false) (.h 22 (.b true) (.h 24 (.b true) (.h 27 (.b true) (.h 32 (.b false) (.h 34 (.b false) (.h 36 (.b false) (.h 38 (.b true) (.h 40 (.b true) (.h 42 (.b false) (.h 43 (.b true) (.h 45 (.b false) .nil))))))))))))))))))))))))))))
        · try simp only[if_neg h3]
          exact callP_ok (ps:=[]) (os:=[]) (rs:=[(.one (.val (.bool false)))]) (by kernel_rfl) (.f (nt h0) (.f (nt h0) (.f (nt h0) (.f h1 (.f h1 (.f h1 (.f (nt h2) (.f (nt h2) (.f (nt h2) (.f (nt h3) (.f (nt h3) (.f (nt h2) (.f (nt h3) (.f (nt h2) (.h 8 (.b false) (.h 10 (.b false) (.h 13 (.b false) (.h 22 (.b true) (.h 24 (.b true) (.h 27 (.b true) (.h 32 (.b false) (.h 34 (.b false) (.h 36 (.b false) (.h 38 (.b false) (.h 40 (.b false) (.h 42 (.b false) (.h 43 (.b false) (.h 45 (.b false) .nil))))))))))))))))))))))))))))
    · try simp only[if_neg h1]
      by_cases h2:(decide (a0≥48))=true
      · try simp only[if_pos h2]
        exact callP_ok (ps:=[]) (os:=[]) (rs:=[(.one (.val (.bool (decide (a0≤57)))))]) (by kernel_rfl) (.f (nt h0) (.f (nt h0) (.f (nt h0) (.f (nt h1) (.f (nt h1) (.f (nt h1) (.f h2 (.f h2 (.f h2 (.h 8 (.b false) (.h 10 (.b false) (.h 13 (.b false) (.h 22 (.b false) (.h 24 (.b false) (.h 27 (.b false) (.h 38 (.b true) (.h 40 (.b true) (.h 43 (.b true) .nil))))))))))))))))))
      · try simp only[if_neg h2]
        exact callP_ok (ps:=[]) (os:=[]) (rs:=[(.one (.val (.bool false)))]) (by kernel_rfl) (.f (nt h0) (.f (nt h0) (.f (nt h0) (.f (nt h1) (.f (nt h1) (.f (nt h1) (.f (nt h2) (.f (nt h2) (.f (nt h2) (.h 8 (.b false) (.h 10 (.b false) (.h 13 (.b false) (.h 22 (.b false) (.h 24 (.b false) (.h 27 (.b false) (.h 38 (.b false) (.h 40 (.b false) (.h 43 (.b false) .nil))))))))))))))))))
/-! loop 115_0 -/
inductive O115_0 where
  |k0 (w0:Int) (w1:Bool)
  |k1
def r115_0 (a0:ByteArray):Nat→Int→O115_0
  |n+1,i=>
    if(!(m140 (byteAt a0 i)))=true then(O115_0.k1) else
    (r115_0 a0 n (i+1))
  |0,i=>(O115_0.k0 i (decide (i <(ByteArray.size a0:Int))))
def h115_0 (a0:ByteArray) (i:Int) :St:=⟨[(0,(.one (.val (.string a0)))),(3,(.one (.val (.int .i64 i))))],[]⟩
def ex115_0:O115_0→VX.Exit
  |.k0 _ _=>(.exit 0)
  |.k1=>.ret
def fin115_0 (a0:ByteArray):O115_0→St
  |.k0 w0 w1=>⟨[(0,(.one (.val (.string a0)))),(3,(.one (.val (.int .i64 w0)))),(7,(.one (.val (.bool w1))))],[]⟩
  |.k1=>⟨[(2,(.one (.val (.bool false))))],[]⟩
theorem t115_0 {a0:ByteArray} (hy0:ByteArray.size a0≤140737488351232):∀(n:Nat) (i:Int),0≤i→n=Int.toNat ((ByteArray.size a0:Int) - i)→(ByteArray.size a0:Int)≤9223372036854775807→Ev F X (.code l115_0 (h115_0 a0 i) (ex115_0 (r115_0 a0 n i)) (fin115_0 a0 (r115_0 a0 n i)))
  |0,i,hn0,hn,hi0=>by
    have hc:¬(decide (i <(ByteArray.size a0:Int)))=true:=by
      simp only[decide_eq_true_eq]; omega
    have st:=codeH_ok (F:=F) (X:=X) (c:=b115_0) (t:=0) (hs:=[(8,.b false)]) (σ:=h115_0 a0 i) (σ':=fin115_0 a0 (.k0 i (decide (i <(ByteArray.size a0:Int))))) (e:=(.exit 0)) (t':=9) (hs':=[]) (q:=[(decide (i <(ByteArray.size a0:Int)))=false]) (by kernel_rfl) ⟨(nt hc),trivial⟩
    exact .loopX st (show ((.exit 0):VX.Exit)≠.normal from by simp)
  |n+1,i,hn0,hn,hi0=>by
    have hc:(decide (i <(ByteArray.size a0:Int)))=true:=by
      simp only[decide_eq_true_eq]; omega
    have hw:IntKind.wrap .i64 (i+1)=i+1:=wrap64 (by omega)
    have hj0:=hi0; try simp only[length_map,length_set,length_append,length_replicate,length_cons,length_nil,Int.toNat_natCast] at hj0
    simp only[r115_0]
    by_cases h_1:(!(m140 (byteAt a0 i)))=true
    · try simp only[if_pos h_1]
      have st:=codeH_ok (F:=F) (X:=X) (c:=b115_0) (t:=0) (hs:=[(8,.b true),(16,.ret [] [(.one (.val (.bool (m140 (byteAt a0 i)))))] [] []),(19,.b true)]) (σ:=h115_0 a0 i) (σ':=fin115_0 a0 (.k1)) (e:=.ret) (t':=22) (hs':=[]) (q:=[(decide (i <(ByteArray.size a0:Int)))=true,0≤i∧i <(ByteArray.size a0:Int),Ev F X (.call 140 [(.one (.val (.int .u8 (byteAt a0 i))))] [] [] [(.one (.val (.bool (m140 (byteAt a0 i)))))]),(!(m140 (byteAt a0 i)))=true]) (by kernel_rfl) ⟨hc,(by omega),(e140 (a0:=(byteAt a0 i))),h_1,trivial⟩
      exact .loopX st (show (.ret:VX.Exit)≠.normal from by simp)
    · try simp only[if_neg h_1]
      have st:=codeH_ok (F:=F) (X:=X) (c:=b115_0) (t:=0) (hs:=[(8,.b true),(16,.ret [] [(.one (.val (.bool (m140 (byteAt a0 i)))))] [] []),(19,.b false)]) (σ:=h115_0 a0 i) (σ':=⟨[(0,(.one (.val (.string a0)))),(3,(.oi (IntKind.wrap .i64 (i+1))))],[]⟩) (e:=.normal) (t':=26) (hs':=[]) (q:=[(decide (i <(ByteArray.size a0:Int)))=true,0≤i∧i <(ByteArray.size a0:Int),Ev F X (.call 140 [(.one (.val (.int .u8 (byteAt a0 i))))] [] [] [(.one (.val (.bool (m140 (byteAt a0 i)))))]),(!(m140 (byteAt a0 i)))=false,True]) (by kernel_rfl) ⟨hc,(by omega),(e140 (a0:=(byteAt a0 i))),(nt h_1),trivial,trivial⟩
      have ih:=t115_0 (a0:=a0) hy0 n (i+1) (by omega) (by omega) (by omega)
      rw[show (⟨[(0,(.one (.val (.string a0)))),(3,(.oi (IntKind.wrap .i64 (i+1))))],[]⟩:St)=h115_0 a0 (i+1)  from(by unfold h115_0; simp only[hw]; done)] at st
      exact .loopN st ih
/-! loop.example/g00539/spec.l9Arg -/
def m115 (a0:ByteArray):Bool:=
  (match r115_0 a0 (Int.toNat (ByteArray.size a0:Int)) 0 with | .k0 w0_0 w1_0=>(decide ((ByteArray.size a0:Int)≤12)) | .k1=>false)
theorem e115 {a0:ByteArray} (hy0:ByteArray.size a0≤140737488351232):Ev F X (.call 115 [(.one (.val (.string a0)))] [] [] [(.one (.val (.bool (m115 a0))))]):=by
  unfold m115
  cases h0:r115_0 a0 (Int.toNat (ByteArray.size a0:Int)) 0 with
  |k0 w0_0 w1_0=>
    try dsimp only
    have f0:(⟨[(0,(.one (.val (.string a0)))),(3,(.oi 0))],[]⟩:St)=h115_0 a0 0 :=(by rfl)
    have f1:Ev F X (.code l115_0 (h115_0 a0 0) (.exit 0) ⟨[(0,(.one (.val (.string a0)))),(3,(.oi w0_0)),(7,(.one (.val (.bool w1_0))))],[]⟩):=(by have t:Ev F X (.code l115_0 (h115_0 a0 0) (ex115_0 (r115_0 a0 (Int.toNat (ByteArray.size a0:Int)) 0)) (fin115_0 a0 (r115_0 a0 (Int.toNat (ByteArray.size a0:Int)) 0))):=t115_0 (a0:=a0) (by assumption) _ 0 (by omega) (by omega) (by omega); rw[h0] at t; exact t)
    exact callP_ok (ps:=[]) (os:=[]) (rs:=[(.one (.val (.bool (decide ((ByteArray.size a0:Int)≤12)))))]) (by kernel_rfl) (.f f0 (.f f1 (.h 4 (.loop (h115_0 a0 0) (.exit 0) ⟨[(0,(.one (.val (.string a0)))),(3,(.oi w0_0)),(7,(.one (.val (.bool w1_0))))],[]⟩) .nil)))
  |k1=>
    try dsimp only
    have f0:(⟨[(0,(.one (.val (.string a0)))),(3,(.oi 0))],[]⟩:St)=h115_0 a0 0 :=(by rfl)
    have f1:Ev F X (.code l115_0 (h115_0 a0 0) .ret ⟨[(2,(.one (.val (.bool false))))],[]⟩):=(by have t:Ev F X (.code l115_0 (h115_0 a0 0) (ex115_0 (r115_0 a0 (Int.toNat (ByteArray.size a0:Int)) 0)) (fin115_0 a0 (r115_0 a0 (Int.toNat (ByteArray.size a0:Int)) 0))):=t115_0 (a0:=a0) (by assumption) _ 0 (by omega) (by omega) (by omega); rw[h0] at t; exact t)
    exact callP_ok (ps:=[]) (os:=[]) (rs:=[(.one (.val (.bool false)))]) (by kernel_rfl) (.f f0 (.f f1 (.h 4 (.loop (h115_0 a0 0) .ret ⟨[(2,(.one (.val (.bool false))))],[]⟩) .nil)))
/-! loop.example/g00539/spec.l13One -/
def m102 (a0:K_si):Int:=
  if(a0.f0.toList==(⟨#[]⟩:ByteArray).toList)=true then 5 else
  if(!(m115 a0.f0))=true then 5 else
    if(!(m105 a0.f1 1 9999))=true then 3 else
      0
theorem e102 {l0:Nat} {a0:K_si} (hy0:ByteArray.size a0.f0≤140737488351232):Ev F X (.call 102 [(.bptr l0 [(.val (.string a0.f0)),(.val (.int .i64 a0.f1))])] [] [] [(.one (.val (.int .i64 (m102 a0))))]):=by
  unfold m102
  by_cases h0:(a0.f0.toList==(⟨#[]⟩:ByteArray).toList)=true
  · try simp only[if_pos h0]
    exact callP_ok (ps:=[]) (os:=[]) (rs:=[(.oi 5)]) (by kernel_rfl) (.f h0 (.f h0 (.f h0 (.f h0 (.f h0 (.f h0 (.f h0 (.h 14 (.b true) (.h 16 (.b true) (.h 18 (.b true) (.h 20 (.b true) (.h 22 (.b true) (.h 24 (.b true) (.h 27 (.b true) .nil))))))))))))))
  · try simp only[if_neg h0]
    have f5:Ev F X (.call 115 [(.one (.val (.string a0.f0)))] [] [] [(.one (.val (.bool (m115 a0.f0))))]):=(e115 (a0:=a0.f0) (by with_reducible assumption))
    by_cases h1:(!(m115 a0.f0))=true
    · try simp only[if_pos h1]
      exact callP_ok (ps:=[]) (os:=[]) (rs:=[(.oi 5)]) (by kernel_rfl) (.f (nt h0) (.f (nt h0) (.f (nt h0) (.f (nt h0) (.f (nt h0) (.h 14 (.b false) (.h 16 (.b false) (.h 18 (.b false) (.h 20 (.b false) (.h 22 (.b false) (.r 23 [] [] f5 (.f (nt h0) (.f (nt h0) (.f h1 (.h 24 (.b false) (.h 27 (.b false) (.h 28 (.b true) .nil)))))))))))))))))
    · try simp only[if_neg h1]
      have f9:Ev F X (.call 105 [(.oi a0.f1),(.oi 1),(.oi 9999)] [] [] [(.one (.val (.bool (m105 a0.f1 1 9999))))]):=(e105 (a0:=a0.f1) (a1:=1) (a2:=9999))
      by_cases h2:(!(m105 a0.f1 1 9999))=true
      · try simp only[if_pos h2]
        exact callP_ok (ps:=[]) (os:=[]) (rs:=[(.oi 3)]) (by kernel_rfl) (.f (nt h0) (.f (nt h0) (.f (nt h0) (.f (nt h0) (.f (nt h0) (.h 14 (.b false) (.h 16 (.b false) (.h 18 (.b false) (.h 20 (.b false) (.h 22 (.b false) (.r 23 [] [] f5 (.f (nt h0) (.f (nt h0) (.f (nt h1) (.h 24 (.b false) (.h 27 (.b false) (.h 28 (.b false) (.r 38 [] [] f9 (.f h2 (.h 41 (.b true) .nil))))))))))))))))))))
      · try simp only[if_neg h2]
        exact callP_ok (ps:=[]) (os:=[]) (rs:=[(.oi 0)]) (by kernel_rfl) (.f (nt h0) (.f (nt h0) (.f (nt h0) (.f (nt h0) (.f (nt h0) (.h 14 (.b false) (.h 16 (.b false) (.h 18 (.b false) (.h 20 (.b false) (.h 22 (.b false) (.r 23 [] [] f5 (.f (nt h0) (.f (nt h0) (.f (nt h1) (.h 24 (.b false) (.h 27 (.b false) (.h 28 (.b false) (.r 38 [] [] f9 (.f (nt h2) (.h 41 (.b false) .nil))))))))))))))))))))
/-! loop 96_0 -/
inductive O96_0 where
  |k0 (w0:Int) (w1:Bool)
  |k1 (w0:Int)
def r96_0 (a0:(List K_si)):List K_si→Int→O96_0
  |x0::y0,i=>
    if((m102 x0) !=0)=true then(O96_0.k1 (m102 x0)) else
    (r96_0 a0 y0 (i+1))
  |[],i=>(O96_0.k0 i (decide (i <((length (map b_si a0)):Int))))
def h96_0 (l0_0:Nat) (a0:(List K_si)) (i:Int) :St:=⟨[(0,(.one (.bor l0_0 (map b_si a0)))),(3,(.one (.val (.int .i64 i))))],[]⟩
def ex96_0:O96_0→VX.Exit
  |.k0 _ _=>(.exit 0)
  |.k1 _=>.ret
def fin96_0 (l0_0:Nat) (a0:(List K_si)):O96_0→St
  |.k0 w0 w1=>⟨[(0,(.one (.bor l0_0 (map b_si a0)))),(3,(.one (.val (.int .i64 w0)))),(11,(.one (.val (.bool w1))))],[]⟩
  |.k1 w0=>⟨[(2,(.one (.val (.int .i64 w0))))],[]⟩
theorem t96_0 {l0_0:Nat} {a0:(List K_si)} (hy0:length a0*24≤140737488351232) (hy1:∀z∈a0,os_si z):∀(y0:List K_si) (p:List K_si),p++y0=a0→Ev F X (.code l96_0 (h96_0 l0_0 a0 (length p:Int)) (ex96_0 (r96_0 a0 y0 (length p:Int))) (fin96_0 l0_0 a0 (r96_0 a0 y0 (length p:Int))))
  |[],p,hp0=>by
    have hc:¬(decide ((length p:Int) <((length (map b_si a0)):Int)))=true:=by
      rw[← hp0]; simp only[length_map,length_set,length_append,length_replicate,length_cons,length_nil,decide_eq_true_eq]; omega
    have st:=codeH_ok (F:=F) (X:=X) (c:=b96_0) (t:=0) (hs:=[(8,.b false)]) (σ:=h96_0 l0_0 a0 (length p:Int)) (σ':=fin96_0 l0_0 a0 (.k0 (length p:Int) (decide ((length p:Int) <((length (map b_si a0)):Int))))) (e:=(.exit 0)) (t':=9) (hs':=[]) (q:=[(decide ((length p:Int) <((length (map b_si a0)):Int)))=false]) (by kernel_rfl) ⟨(nt hc),trivial⟩
    exact .loopX st (show ((.exit 0):VX.Exit)≠.normal from by simp)
  |x0::y0,p,hp0=>by
    have hc:(decide ((length p:Int) <((length (map b_si a0)):Int)))=true:=by
      rw[← hp0]; simp only[length_map,length_set,length_append,length_replicate,length_cons,length_nil,decide_eq_true_eq]; omega
    have Hx0:(a0)[Int.toNat (length p:Int)]?=some x0:=by
      rw[← hp0,Int.toNat_natCast]; simp
    have Mx0_0:=hy1 x0 (List.mem_of_getElem? Hx0)
    have hlen:length (a0)=length p+length y0+1:=by rw[← hp0]; simp; omega
    have hw:IntKind.wrap .i64 ((length p:Int)+1)=(length p:Int)+1:=wrap64 (by omega)
    simp only[r96_0]
    by_cases h_1:((m102 x0) !=0)=true
    · try simp only[if_pos h_1]
      have st:=codeH_ok (F:=F) (X:=X) (c:=b96_0) (t:=0) (hs:=[(8,.b true),(14,.row [(.val (.string x0.f0)),(.i x0.f1)]),(16,.ret [] [(.oi (m102 x0))] [] []),(23,.b true)]) (σ:=h96_0 l0_0 a0 (length p:Int)) (σ':=fin96_0 l0_0 a0 (.k1 (m102 x0))) (e:=.ret) (t':=28) (hs':=[]) (q:=[(decide ((length p:Int) <((length (map b_si a0)):Int)))=true,0≤(length p:Int),(map b_si a0)[(Int.toNat (length p:Int))]?=some [(.val (.string x0.f0)),(.i x0.f1)],Ev F X (.call 102 [(.bptr (l0_0+1) [(.val (.string x0.f0)),(.i x0.f1)])] [] [] [(.oi (m102 x0))]),((m102 x0) !=0)=true]) (by kernel_rfl) ⟨hc,(by omega),(by rw[getElem?_map,Hx0]; rfl),(e102 (a0:=x0) (by assumption)),h_1,trivial⟩
      exact .loopX st (show (.ret:VX.Exit)≠.normal from by simp)
    · try simp only[if_neg h_1]
      have st:=codeH_ok (F:=F) (X:=X) (c:=b96_0) (t:=0) (hs:=[(8,.b true),(14,.row [(.val (.string x0.f0)),(.i x0.f1)]),(16,.ret [] [(.oi (m102 x0))] [] []),(23,.b false)]) (σ:=h96_0 l0_0 a0 (length p:Int)) (σ':=⟨[(0,(.one (.bor l0_0 (map b_si a0)))),(3,(.oi (IntKind.wrap .i64 ((length p:Int)+1))))],[]⟩) (e:=.normal) (t':=30) (hs':=[]) (q:=[(decide ((length p:Int) <((length (map b_si a0)):Int)))=true,0≤(length p:Int),(map b_si a0)[(Int.toNat (length p:Int))]?=some [(.val (.string x0.f0)),(.i x0.f1)],Ev F X (.call 102 [(.bptr (l0_0+1) [(.val (.string x0.f0)),(.i x0.f1)])] [] [] [(.oi (m102 x0))]),((m102 x0) !=0)=false,True]) (by kernel_rfl) ⟨hc,(by omega),(by rw[getElem?_map,Hx0]; rfl),(e102 (a0:=x0) (by assumption)),(nt h_1),trivial,trivial⟩
      have ih:=t96_0 (l0_0:=l0_0) (a0:=a0) hy0 hy1 y0 (p++ [x0]) (by rw[append_assoc]; exact hp0)
      rw[show ((p++ [x0]).length:Int)=(p.length:Int)+1 from by simp] at ih
      rw[show (⟨[(0,(.one (.bor l0_0 (map b_si a0)))),(3,(.oi (IntKind.wrap .i64 ((length p:Int)+1))))],[]⟩:St)=h96_0 l0_0 a0 ((length p:Int)+1)  from(by unfold h96_0; simp only[hw]; done)] at st
      exact .loopN st ih
/-! loop.example/g00539/spec.l13Fault -/
def m96 (a0:(List K_si)):Int:=
  if(decide (((length (map b_si a0)):Int) > 12))=true then 2 else
  (match r96_0 a0 a0 0 with | .k0 w0_1 w1_1=>0 | .k1 w0_1=>w0_1)
theorem e96 {l0_0:Nat} {a0:(List K_si)} (hy0:length a0*24≤140737488351232) (hy1:∀z∈a0,os_si z):Ev F X (.call 96 [(.one (.bor l0_0 (map b_si a0)))] [] [] [(.one (.val (.int .i64 (m96 a0))))]):=by
  unfold m96
  by_cases h0:(decide (((length (map b_si a0)):Int) > 12))=true
  · try simp only[if_pos h0]
    exact callP_ok (ps:=[]) (os:=[]) (rs:=[(.oi 2)]) (by kernel_rfl) (.f h0 (.h 8 (.b true) .nil))
  · try simp only[if_neg h0]
    cases h1:r96_0 a0 a0 0 with
    |k0 w0_1 w1_1=>
      try dsimp only
      have f1:(⟨[(0,(.one (.bor l0_0 (map b_si a0)))),(3,(.oi 0))],[]⟩:St)=h96_0 l0_0 a0 0 :=(by rfl)
      have f2:Ev F X (.code l96_0 (h96_0 l0_0 a0 0) (.exit 0) ⟨[(0,(.one (.bor l0_0 (map b_si a0)))),(3,(.oi w0_1)),(11,(.one (.val (.bool w1_1))))],[]⟩):=(by have t:Ev F X (.code l96_0 (h96_0 l0_0 a0 0) (ex96_0 (r96_0 a0 a0 0)) (fin96_0 l0_0 a0 (r96_0 a0 a0 0))):=t96_0 (l0_0:=l0_0) (a0:=a0) (by assumption) (by assumption) a0 []  rfl; rw[h1] at t; exact t)
      exact callP_ok (ps:=[]) (os:=[]) (rs:=[(.oi 0)]) (by kernel_rfl) (.f (nt h0) (.f f1 (.f f2 (.h 8 (.b false) (.h 11 (.loop (h96_0 l0_0 a0 0) (.exit 0) ⟨[(0,(.one (.bor l0_0 (map b_si a0)))),(3,(.oi w0_1)),(11,(.one (.val (.bool w1_1))))],[]⟩) .nil)))))
    |k1 w0_1=>
      try dsimp only
      have f1:(⟨[(0,(.one (.bor l0_0 (map b_si a0)))),(3,(.oi 0))],[]⟩:St)=h96_0 l0_0 a0 0 :=(by rfl)
      have f2:Ev F X (.code l96_0 (h96_0 l0_0 a0 0) .ret ⟨[(2,(.oi w0_1))],[]⟩):=(by have t:Ev F X (.code l96_0 (h96_0 l0_0 a0 0) (ex96_0 (r96_0 a0 a0 0)) (fin96_0 l0_0 a0 (r96_0 a0 a0 0))):=t96_0 (l0_0:=l0_0) (a0:=a0) (by assumption) (by assumption) a0 []  rfl; rw[h1] at t; exact t)
      exact callP_ok (ps:=[]) (os:=[]) (rs:=[(.oi w0_1)]) (by kernel_rfl) (.f (nt h0) (.f f1 (.f f2 (.h 8 (.b false) (.h 11 (.loop (h96_0 l0_0 a0 0) .ret ⟨[(2,(.oi w0_1))],[]⟩) .nil)))))
theorem len12_96 (a:List K_si) (h:¬((m96 a) !=0)=true):length a≤12:=by
  unfold m96 at h
  split at h
  · simp at h
  · rename_i h2
    simp only[decide_eq_true_eq,length_map] at h2
    omega
/-! loop 60_0 -/
inductive O60_0 where
  |k0 (w0:Int) (w1:Bool)
  |k1 (w0:Int)
def r60_0 (a0:(List K_si)) (a1:ByteArray):List K_si→Int→O60_0
  |x0::y0,i=>
    if(x0.f0.toList==a1.toList)=true then(O60_0.k1 i) else
    (r60_0 a0 a1 y0 (i+1))
  |[],i=>(O60_0.k0 i (decide (i <((length (map b_si a0)):Int))))
def h60_0 (l0_0:Nat) (a0:(List K_si)) (a1:ByteArray) (i:Int) :St:=⟨[(0,(.one (.bor l0_0 (map b_si a0)))),(1,(.one (.val (.string a1)))),(5,(.one (.val (.int .i64 i))))],[]⟩
def ex60_0:O60_0→VX.Exit
  |.k0 _ _=>(.exit 0)
  |.k1 _=>.ret
def fin60_0 (l0_0:Nat) (a0:(List K_si)) (a1:ByteArray):O60_0→St
  |.k0 w0 w1=>⟨[(0,(.one (.bor l0_0 (map b_si a0)))),(1,(.one (.val (.string a1)))),(5,(.one (.val (.int .i64 w0)))),(9,(.one (.val (.bool w1))))],[]⟩
  |.k1 w0=>⟨[(4,(.one (.val (.int .i64 w0))))],[]⟩
theorem t60_0 {l0_0:Nat} {a0:(List K_si)} {a1:ByteArray} (hy0:length a0*24≤140737488351232):∀(y0:List K_si) (p:List K_si),p++y0=a0→Ev F X (.code l60_0 (h60_0 l0_0 a0 a1 (length p:Int)) (ex60_0 (r60_0 a0 a1 y0 (length p:Int))) (fin60_0 l0_0 a0 a1 (r60_0 a0 a1 y0 (length p:Int))))
  |[],p,hp0=>by
    have hc:¬(decide ((length p:Int) <((length (map b_si a0)):Int)))=true:=by
      rw[← hp0]; simp only[length_map,length_set,length_append,length_replicate,length_cons,length_nil,decide_eq_true_eq]; omega
    have st:=codeH_ok (F:=F) (X:=X) (c:=b60_0) (t:=0) (hs:=[(8,.b false)]) (σ:=h60_0 l0_0 a0 a1 (length p:Int)) (σ':=fin60_0 l0_0 a0 a1 (.k0 (length p:Int) (decide ((length p:Int) <((length (map b_si a0)):Int))))) (e:=(.exit 0)) (t':=9) (hs':=[]) (q:=[(decide ((length p:Int) <((length (map b_si a0)):Int)))=false]) (by kernel_rfl) ⟨(nt hc),trivial⟩
    exact .loopX st (show ((.exit 0):VX.Exit)≠.normal from by simp)
  |x0::y0,p,hp0=>by
    have hc:(decide ((length p:Int) <((length (map b_si a0)):Int)))=true:=by
      rw[← hp0]; simp only[length_map,length_set,length_append,length_replicate,length_cons,length_nil,decide_eq_true_eq]; omega
    have Hx0:(a0)[Int.toNat (length p:Int)]?=some x0:=by
      rw[← hp0,Int.toNat_natCast]; simp
    have hlen:length (a0)=length p+length y0+1:=by rw[← hp0]; simp; omega
    have hw:IntKind.wrap .i64 ((length p:Int)+1)=(length p:Int)+1:=wrap64 (by omega)
    simp only[r60_0]
    by_cases h_1:(x0.f0.toList==a1.toList)=true
    · try simp only[if_pos h_1]
      have st:=codeH_ok (F:=F) (X:=X) (c:=b60_0) (t:=0) (hs:=[(8,.b true),(14,.row [(.val (.string x0.f0)),(.i x0.f1)]),(23,.b true)]) (σ:=h60_0 l0_0 a0 a1 (length p:Int)) (σ':=fin60_0 l0_0 a0 a1 (.k1 (length p:Int))) (e:=.ret) (t':=28) (hs':=[]) (q:=[(decide ((length p:Int) <((length (map b_si a0)):Int)))=true,0≤(length p:Int),(map b_si a0)[(Int.toNat (length p:Int))]?=some [(.val (.string x0.f0)),(.i x0.f1)],(x0.f0.toList==a1.toList)=true]) (by kernel_rfl) ⟨hc,(by omega),(by rw[getElem?_map,Hx0]; rfl),h_1,trivial⟩
      exact .loopX st (show (.ret:VX.Exit)≠.normal from by simp)
    · try simp only[if_neg h_1]
      have st:=codeH_ok (F:=F) (X:=X) (c:=b60_0) (t:=0) (hs:=[(8,.b true),(14,.row [(.val (.string x0.f0)),(.i x0.f1)]),(23,.b false)]) (σ:=h60_0 l0_0 a0 a1 (length p:Int)) (σ':=⟨[(0,(.one (.bor l0_0 (map b_si a0)))),(1,(.one (.val (.string a1)))),(5,(.oi (IntKind.wrap .i64 ((length p:Int)+1))))],[]⟩) (e:=.normal) (t':=30) (hs':=[]) (q:=[(decide ((length p:Int) <((length (map b_si a0)):Int)))=true,0≤(length p:Int),(map b_si a0)[(Int.toNat (length p:Int))]?=some [(.val (.string x0.f0)),(.i x0.f1)],(x0.f0.toList==a1.toList)=false,True]) (by kernel_rfl) ⟨hc,(by omega),(by rw[getElem?_map,Hx0]; rfl),(nt h_1),trivial,trivial⟩
      have ih:=t60_0 (l0_0:=l0_0) (a0:=a0) (a1:=a1) hy0 y0 (p++ [x0]) (by rw[append_assoc]; exact hp0)
      rw[show ((p++ [x0]).length:Int)=(p.length:Int)+1 from by simp] at ih
      rw[show (⟨[(0,(.one (.bor l0_0 (map b_si a0)))),(1,(.one (.val (.string a1)))),(5,(.oi (IntKind.wrap .i64 ((length p:Int)+1))))],[]⟩:St)=h60_0 l0_0 a0 a1 ((length p:Int)+1)  from(by unfold h60_0; simp only[hw]; done)] at st
      exact .loopN st ih
/-! loop.example/g00539/spec.l13At -/
def m60 (a0:(List K_si)) (a1:ByteArray):Int:=
  (match r60_0 a0 a1 a0 0 with | .k0 w0_0 w1_0=>(-1) | .k1 w0_0=>w0_0)
theorem e60 {l0_0:Nat} {a0:(List K_si)} {a1:ByteArray} (hy0:length a0*24≤140737488351232):Ev F X (.call 60 [(.one (.bor l0_0 (map b_si a0))),(.one (.val (.string a1)))] [] [] [(.one (.val (.int .i64 (m60 a0 a1))))]):=by
  unfold m60
  cases h0:r60_0 a0 a1 a0 0 with
  |k0 w0_0 w1_0=>
    try dsimp only
    have f0:(⟨[(0,(.one (.bor l0_0 (map b_si a0)))),(1,(.one (.val (.string a1)))),(5,(.oi 0))],[]⟩:St)=h60_0 l0_0 a0 a1 0 :=(by rfl)
    have f1:Ev F X (.code l60_0 (h60_0 l0_0 a0 a1 0) (.exit 0) ⟨[(0,(.one (.bor l0_0 (map b_si a0)))),(1,(.one (.val (.string a1)))),(5,(.oi w0_0)),(9,(.one (.val (.bool w1_0))))],[]⟩):=(by have t:Ev F X (.code l60_0 (h60_0 l0_0 a0 a1 0) (ex60_0 (r60_0 a0 a1 a0 0)) (fin60_0 l0_0 a0 a1 (r60_0 a0 a1 a0 0))):=t60_0 (l0_0:=l0_0) (a0:=a0) (a1:=a1) (by assumption) a0 []  rfl; rw[h0] at t; exact t)
    exact callP_ok (ps:=[]) (os:=[]) (rs:=[(.oi (-1))]) (by kernel_rfl) (.f f0 (.f f1 (.h 4 (.loop (h60_0 l0_0 a0 a1 0) (.exit 0) ⟨[(0,(.one (.bor l0_0 (map b_si a0)))),(1,(.one (.val (.string a1)))),(5,(.oi w0_0)),(9,(.one (.val (.bool w1_0))))],[]⟩) .nil)))
  |k1 w0_0=>
    try dsimp only
    have f0:(⟨[(0,(.one (.bor l0_0 (map b_si a0)))),(1,(.one (.val (.string a1)))),(5,(.oi 0))],[]⟩:St)=h60_0 l0_0 a0 a1 0 :=(by rfl)
    have f1:Ev F X (.code l60_0 (h60_0 l0_0 a0 a1 0) .ret ⟨[(4,(.oi w0_0))],[]⟩):=(by have t:Ev F X (.code l60_0 (h60_0 l0_0 a0 a1 0) (ex60_0 (r60_0 a0 a1 a0 0)) (fin60_0 l0_0 a0 a1 (r60_0 a0 a1 a0 0))):=t60_0 (l0_0:=l0_0) (a0:=a0) (a1:=a1) (by assumption) a0 []  rfl; rw[h0] at t; exact t)
    exact callP_ok (ps:=[]) (os:=[]) (rs:=[(.oi w0_0)]) (by kernel_rfl) (.f f0 (.f f1 (.h 4 (.loop (h60_0 l0_0 a0 a1 0) .ret ⟨[(4,(.oi w0_0))],[]⟩) .nil)))
theorem ixr60_0 (a0:(List K_si)) (a1:ByteArray):∀(l:List K_si) (i:Int),(∃(w0:_) (w1:_),r60_0 a0 a1 l i=.k0 w0 w1)∨(∃w,r60_0 a0 a1 l i=.k1 w∧i≤w∧w < i+l.length)
  |[],i=>.inl ⟨i,(decide (i <((length (map b_si a0)):Int))),rfl⟩
  |x::l,i=>by
    have ih:=ixr60_0 a0 a1 l (i+1)
    simp only[r60_0]
    (repeat' split)
    all_goals first
      |exact .inr ⟨i,rfl,by omega,by simp only[length_cons]; omega⟩
      | (rcases ih with ⟨w0, w1, h⟩ | ⟨w, h, h1, h2⟩
         · exact .inl ⟨w0,w1,h⟩
         · exact .inr ⟨w,h,by omega,by simp only[length_cons]; omega⟩)
theorem ix60 (a0:(List K_si)) (a1:ByteArray): -1≤m60 a0 a1∧m60 a0 a1 <(length a0:Int):=by
  unfold m60
  rcases ixr60_0 a0 a1 a0 0 with⟨w0,w1,h⟩ |⟨w,h,h1,h2⟩<;>simp only[h]<;>omega
/-! loop 98_0 -/
inductive O98_0 where
  |k0 (w0:Int) (w1:Bool)
  |k1
def r98_0 (a0:(List K_si)):List K_si→Int→O98_0
  |x0::y0,i=>
    if(x0.f0.toList==(⟨#[]⟩:ByteArray).toList)=true then(O98_0.k1) else
    if(!(m115 x0.f0))=true then(O98_0.k1) else
      if(!(m105 x0.f1 0 1000000))=true then(O98_0.k1) else
        if((m60 a0 x0.f0) !=i)=true then(O98_0.k1) else
          (r98_0 a0 y0 (i+1))
  |[],i=>(O98_0.k0 i (decide (i <((length (map b_si a0)):Int))))
def h98_0 (l0_0:Nat) (a0:(List K_si)) (i:Int) :St:=⟨[(0,(.one (.bor l0_0 (map b_si a0)))),(3,(.one (.val (.int .i64 i))))],[]⟩
def ex98_0:O98_0→VX.Exit
  |.k0 _ _=>(.exit 0)
  |.k1=>.ret
def fin98_0 (l0_0:Nat) (a0:(List K_si)):O98_0→St
  |.k0 w0 w1=>⟨[(0,(.one (.bor l0_0 (map b_si a0)))),(3,(.one (.val (.int .i64 w0)))),(7,(.one (.val (.bool w1))))],[]⟩
  |.k1=>⟨[(2,(.one (.val (.bool false))))],[]⟩
theorem t98_0 {l0_0:Nat} {a0:(List K_si)} (hy0:length a0*24≤140737488351232) (hy1:∀z∈a0,os_si z):∀(y0:List K_si) (p:List K_si),p++y0=a0→Ev F X (.code l98_0 (h98_0 l0_0 a0 (length p:Int)) (ex98_0 (r98_0 a0 y0 (length p:Int))) (fin98_0 l0_0 a0 (r98_0 a0 y0 (length p:Int))))
  |[],p,hp0=>by
    have hc:¬(decide ((length p:Int) <((length (map b_si a0)):Int)))=true:=by
      rw[← hp0]; simp only[length_map,length_set,length_append,length_replicate,length_cons,length_nil,decide_eq_true_eq]; omega
    have st:=codeH_ok (F:=F) (X:=X) (c:=b98_0) (t:=0) (hs:=[(8,.b false)]) (σ:=h98_0 l0_0 a0 (length p:Int)) (σ':=fin98_0 l0_0 a0 (.k0 (length p:Int) (decide ((length p:Int) <((length (map b_si a0)):Int))))) (e:=(.exit 0)) (t':=9) (hs':=[]) (q:=[(decide ((length p:Int) <((length (map b_si a0)):Int)))=false]) (by kernel_rfl) ⟨(nt hc),trivial⟩
    exact .loopX st (show ((.exit 0):VX.Exit)≠.normal from by simp)
  |x0::y0,p,hp0=>by
    have hc:(decide ((length p:Int) <((length (map b_si a0)):Int)))=true:=by
      rw[← hp0]; simp only[length_map,length_set,length_append,length_replicate,length_cons,length_nil,decide_eq_true_eq]; omega
    have Hx0:(a0)[Int.toNat (length p:Int)]?=some x0:=by
      rw[← hp0,Int.toNat_natCast]; simp
    have Mx0_0:=hy1 x0 (List.mem_of_getElem? Hx0)
    have hlen:length (a0)=length p+length y0+1:=by rw[← hp0]; simp; omega
    have hw:IntKind.wrap .i64 ((length p:Int)+1)=(length p:Int)+1:=wrap64 (by omega)
    simp only[r98_0]
    by_cases h_1:(x0.f0.toList==(⟨#[]⟩:ByteArray).toList)=true
    · try simp only[if_pos h_1]
      have st:=codeH_ok (F:=F) (X:=X) (c:=b98_0) (t:=0) (hs:=[(8,.b true),(14,.row [(.val (.string x0.f0)),(.i x0.f1)]),(23,.b true),(25,.b true),(27,.b true),(29,.b true),(31,.b true),(33,.b true),(35,.b true),(38,.b true)]) (σ:=h98_0 l0_0 a0 (length p:Int)) (σ':=fin98_0 l0_0 a0 (.k1)) (e:=.ret) (t':=82) (hs':=[]) (q:=[(decide ((length p:Int) <((length (map b_si a0)):Int)))=true,0≤(length p:Int),(map b_si a0)[(Int.toNat (length p:Int))]?=some [(.val (.string x0.f0)),(.i x0.f1)],(x0.f0.toList==(⟨#[]⟩:ByteArray).toList)=true,(x0.f0.toList==(⟨#[]⟩:ByteArray).toList)=true,(x0.f0.toList==(⟨#[]⟩:ByteArray).toList)=true,(x0.f0.toList==(⟨#[]⟩:ByteArray).toList)=true,(x0.f0.toList==(⟨#[]⟩:ByteArray).toList)=true,(x0.f0.toList==(⟨#[]⟩:ByteArray).toList)=true,(x0.f0.toList==(⟨#[]⟩:ByteArray).toList)=true,(x0.f0.toList==(⟨#[]⟩:ByteArray).toList)=true]) (by kernel_rfl) ⟨hc,(by omega),(by rw[getElem?_map,Hx0]; rfl),h_1,h_1,h_1,h_1,h_1,h_1,h_1,h_1,trivial⟩
      exact .loopX st (show (.ret:VX.Exit)≠.normal from by simp)
    · try simp only[if_neg h_1]
      by_cases h_2:(!(m115 x0.f0))=true
      · try simp only[if_pos h_2]
        have st:=codeH_ok (F:=F) (X:=X) (c:=b98_0) (t:=0) (hs:=[(8,.b true),(14,.row [(.val (.string x0.f0)),(.i x0.f1)]),(23,.b false),(25,.b false),(27,.b false),(28,.row [(.val (.string x0.f0)),(.i x0.f1)]),(29,.b false),(31,.b false),(33,.b false),(34,.ret [] [(.one (.val (.bool (m115 x0.f0))))] [] []),(35,.b false),(38,.b false),(41,.b true),(43,.b true),(45,.b true),(47,.b true),(49,.b true),(51,.b true),(53,.b true),(56,.b true)]) (σ:=h98_0 l0_0 a0 (length p:Int)) (σ':=fin98_0 l0_0 a0 (.k1)) (e:=.ret) (t':=82) (hs':=[]) (q:=[(decide ((length p:Int) <((length (map b_si a0)):Int)))=true,0≤(length p:Int),(map b_si a0)[(Int.toNat (length p:Int))]?=some [(.val (.string x0.f0)),(.i x0.f1)],(x0.f0.toList==(⟨#[]⟩:ByteArray).toList)=false,(x0.f0.toList==(⟨#[]⟩:ByteArray).toList)=false,(x0.f0.toList==(⟨#[]⟩:ByteArray).toList)=false,0≤(length p:Int),(map b_si a0)[(Int.toNat (length p:Int))]?=some [(.val (.string x0.f0)),(.i x0.f1)],(x0.f0.toList==(⟨#[]⟩:ByteArray).toList)=false,(x0.f0.toList==(⟨#[]⟩:ByteArray).toList)=false,(x0.f0.toList==(⟨#[]⟩:ByteArray).toList)=false,Ev F X (.call 115 [(.one (.val (.string x0.f0)))] [] [] [(.one (.val (.bool (m115 x0.f0))))]),(x0.f0.toList==(⟨#[]⟩:ByteArray).toList)=false,(x0.f0.toList==(⟨#[]⟩:ByteArray).toList)=false,(!(m115 x0.f0))=true,(!(m115 x0.f0))=true,(!(m115 x0.f0))=true,(!(m115 x0.f0))=true,(!(m115 x0.f0))=true,(!(m115 x0.f0))=true,(!(m115 x0.f0))=true,(!(m115 x0.f0))=true]) (by kernel_rfl) ⟨hc,(by omega),(by rw[getElem?_map,Hx0]; rfl),(nt h_1),(nt h_1),(nt h_1),(by omega),(by rw[getElem?_map,Hx0]; rfl),(nt h_1),(nt h_1),(nt h_1),(e115 (a0:=x0.f0) (by assumption)),(nt h_1),(nt h_1),h_2,h_2,h_2,h_2,h_2,h_2,h_2,h_2,trivial⟩
        exact .loopX st (show (.ret:VX.Exit)≠.normal from by simp)
      · try simp only[if_neg h_2]
        by_cases h_3:(!(m105 x0.f1 0 1000000))=true
        · try simp only[if_pos h_3]
          have st:=codeH_ok (F:=F) (X:=X) (c:=b98_0) (t:=0) (hs:=[(8,.b true),(14,.row [(.val (.string x0.f0)),(.i x0.f1)]),(23,.b false),(25,.b false),(27,.b false),(28,.row [(.val (.string x0.f0)),(.i x0.f1)]),(29,.b false),(31,.b false),(33,.b false),(34,.ret [] [(.one (.val (.bool (m115 x0.f0))))] [] []),(35,.b false),(38,.b false),(41,.b false),(43,.b false),(45,.b false),(46,.row [(.val (.string x0.f0)),(.i x0.f1)]),(47,.b false),(49,.b false),(51,.b false),(52,.ret [] [(.one (.val (.bool (m105 x0.f1 0 1000000))))] [] []),(53,.b false),(56,.b false),(59,.b true),(61,.b true),(63,.b true),(65,.b true),(67,.b true),(69,.b true),(71,.b true),(73,.b true),(75,.b true),(78,.b true)]) (σ:=h98_0 l0_0 a0 (length p:Int)) (σ':=fin98_0 l0_0 a0 (.k1)) (e:=.ret) (t':=82) (hs':=[]) (q:=[(decide ((length p:Int) <((length (map b_si a0)):Int)))=true,0≤(length p:Int),(map b_si a0)[(Int.toNat (length p:Int))]?=some [(.val (.string x0.f0)),(.i x0.f1)],(x0.f0.toList==(⟨#[]⟩:ByteArray).toList)=false,(x0.f0.toList==(⟨#[]⟩:ByteArray).toList)=false,(x0.f0.toList==(⟨#[]⟩:ByteArray).toList)=false,0≤(length p:Int),(map b_si a0)[(Int.toNat (length p:Int))]?=some [(.val (.string x0.f0)),(.i x0.f1)],(x0.f0.toList==(⟨#[]⟩:ByteArray).toList)=false,(x0.f0.toList==(⟨#[]⟩:ByteArray).toList)=false,(x0.f0.toList==(⟨#[]⟩:ByteArray).toList)=false,Ev F X (.call 115 [(.one (.val (.string x0.f0)))] [] [] [(.one (.val (.bool (m115 x0.f0))))]),(x0.f0.toList==(⟨#[]⟩:ByteArray).toList)=false,(x0.f0.toList==(⟨#[]⟩:ByteArray).toList)=false,(!(m115 x0.f0))=false,(!(m115 x0.f0))=false,(!(m115 x0.f0))=false,0≤(length p:Int),(map b_si a0)[(Int.toNat (length p:Int))]?=some [(.val (.string x0.f0)),(.i x0.f1)],(!(m115 x0.f0))=false,(!(m115 x0.f0))=false,(!(m115 x0.f0))=false,Ev F X (.call 101 [(.oi x0.f1)] [] [] [(.one (.val (.bool (m105 x0.f1 0 1000000))))]),(!(m115 x0.f0))=false,(!(m115 x0.f0))=false,(!(m105 x0.f1 0 1000000))=true,(!(m105 x0.f1 0 1000000))=true,(!(m105 x0.f1 0 1000000))=true,(!(m105 x0.f1 0 1000000))=true,(!(m105 x0.f1 0 1000000))=true,(!(m105 x0.f1 0 1000000))=true,(!(m105 x0.f1 0 1000000))=true,(!(m105 x0.f1 0 1000000))=true,(!(m105 x0.f1 0 1000000))=true,(!(m105 x0.f1 0 1000000))=true]) (by kernel_rfl) ⟨hc,(by omega),(by rw[getElem?_map,Hx0]; rfl),(nt h_1),(nt h_1),(nt h_1),(by omega),(by rw[getElem?_map,Hx0]; rfl),(nt h_1),(nt h_1),(nt h_1),(e115 (a0:=x0.f0) (by assumption)),(nt h_1),(nt h_1),(nt h_2),(nt h_2),(nt h_2),(by omega),(by rw[getElem?_map,Hx0]; rfl),(nt h_2),(nt h_2),(nt h_2),(e101 (a0:=x0.f1)),(nt h_2),(nt h_2),h_3,h_3,h_3,h_3,h_3,h_3,h_3,h_3,h_3,h_3,trivial⟩
          exact .loopX st (show (.ret:VX.Exit)≠.normal from by simp)
        · try simp only[if_neg h_3]
          by_cases h_4:((m60 a0 x0.f0) !=(length p:Int))=true
          · try simp only[if_pos h_4]
            have st:=codeH_ok (F:=F) (X:=X) (c:=b98_0) (t:=0) (hs:=[(8,.b true),(14,.row [(.val (.string x0.f0)),(.i x0.f1)]),(23,.b false),(25,.b false),(27,.b false),(28,.row [(.val (.string x0.f0)),(.i x0.f1)]),(29,.b false),(31,.b false),(33,.b false),(34,.ret [] [(.one (.val (.bool (m115 x0.f0))))] [] []),(35,.b false),(38,.b false),(41,.b false),(43,.b false),(45,.b false),(46,.row [(.val (.string x0.f0)),(.i x0.f1)]),(47,.b false),(49,.b false),(51,.b false),(52,.ret [] [(.one (.val (.bool (m105 x0.f1 0 1000000))))] [] []),(53,.b false),(56,.b false),(59,.b false),(61,.b false),(63,.b false),(65,.b false),(66,.row [(.val (.string x0.f0)),(.i x0.f1)]),(67,.b false),(69,.b false),(71,.b false),(72,.ret [] [(.oi (m60 a0 x0.f0))] [] []),(73,.b false),(75,.b false),(78,.b false),(79,.b true)]) (σ:=h98_0 l0_0 a0 (length p:Int)) (σ':=fin98_0 l0_0 a0 (.k1)) (e:=.ret) (t':=82) (hs':=[]) (q:=[(decide ((length p:Int) <((length (map b_si a0)):Int)))=true,0≤(length p:Int),(map b_si a0)[(Int.toNat (length p:Int))]?=some [(.val (.string x0.f0)),(.i x0.f1)],(x0.f0.toList==(⟨#[]⟩:ByteArray).toList)=false,(x0.f0.toList==(⟨#[]⟩:ByteArray).toList)=false,(x0.f0.toList==(⟨#[]⟩:ByteArray).toList)=false,0≤(length p:Int),(map b_si a0)[(Int.toNat (length p:Int))]?=some [(.val (.string x0.f0)),(.i x0.f1)],(x0.f0.toList==(⟨#[]⟩:ByteArray).toList)=false,(x0.f0.toList==(⟨#[]⟩:ByteArray).toList)=false,(x0.f0.toList==(⟨#[]⟩:ByteArray).toList)=false,Ev F X (.call 115 [(.one (.val (.string x0.f0)))] [] [] [(.one (.val (.bool (m115 x0.f0))))]),(x0.f0.toList==(⟨#[]⟩:ByteArray).toList)=false,(x0.f0.toList==(⟨#[]⟩:ByteArray).toList)=false,(!(m115 x0.f0))=false,(!(m115 x0.f0))=false,(!(m115 x0.f0))=false,0≤(length p:Int),(map b_si a0)[(Int.toNat (length p:Int))]?=some [(.val (.string x0.f0)),(.i x0.f1)],(!(m115 x0.f0))=false,(!(m115 x0.f0))=false,(!(m115 x0.f0))=false,Ev F X (.call 101 [(.oi x0.f1)] [] [] [(.one (.val (.bool (m105 x0.f1 0 1000000))))]),(!(m115 x0.f0))=false,(!(m115 x0.f0))=false,(!(m105 x0.f1 0 1000000))=false,(!(m105 x0.f1 0 1000000))=false,(!(m105 x0.f1 0 1000000))=false,(!(m105 x0.f1 0 1000000))=false,0≤(length p:Int),(map b_si a0)[(Int.toNat (length p:Int))]?=some [(.val (.string x0.f0)),(.i x0.f1)],(!(m105 x0.f1 0 1000000))=false,(!(m105 x0.f1 0 1000000))=false,(!(m105 x0.f1 0 1000000))=false,Ev F X (.call 60 [(.one (.bor (l0_0+1) (map b_si a0))),(.one (.val (.string x0.f0)))] [] [] [(.oi (m60 a0 x0.f0))]),(!(m105 x0.f1 0 1000000))=false,(!(m105 x0.f1 0 1000000))=false,(!(m105 x0.f1 0 1000000))=false,((m60 a0 x0.f0) !=(length p:Int))=true]) (by kernel_rfl) ⟨hc,(by omega),(by rw[getElem?_map,Hx0]; rfl),(nt h_1),(nt h_1),(nt h_1),(by omega),(by rw[getElem?_map,Hx0]; rfl),(nt h_1),(nt h_1),(nt h_1),(e115 (a0:=x0.f0) (by assumption)),(nt h_1),(nt h_1),(nt h_2),(nt h_2),(nt h_2),(by omega),(by rw[getElem?_map,Hx0]; rfl),(nt h_2),(nt h_2),(nt h_2),(e101 (a0:=x0.f1)),(nt h_2),(nt h_2),(nt h_3),(nt h_3),(nt h_3),(nt h_3),(by omega),(by rw[getElem?_map,Hx0]; rfl),(nt h_3),(nt h_3),(nt h_3),(e60 (a0:=a0) (a1:=x0.f0) (by with_reducible assumption)),(nt h_3),(nt h_3),(nt h_3),h_4,trivial⟩
            exact .loopX st (show (.ret:VX.Exit)≠.normal from by simp)
          · try simp only[if_neg h_4]
            have st:=codeH_ok (F:=F) (X:=X) (c:=b98_0) (t:=0) (hs:=[(8,.b true),(14,.row [(.val (.string x0.f0)),(.i x0.f1)]),(23,.b false),(25,.b false),(27,.b false),(28,.row [(.val (.string x0.f0)),(.i x0.f1)]),(29,.b false),(31,.b false),(33,.b false),(34,.ret [] [(.one (.val (.bool (m115 x0.f0))))] [] []),(35,.b false),(38,.b false),(41,.b false),(43,.b false),(45,.b false),(46,.row [(.val (.string x0.f0)),(.i x0.f1)]),(47,.b false),(49,.b false),(51,.b false),(52,.ret [] [(.one (.val (.bool (m105 x0.f1 0 1000000))))] [] []),(53,.b false),(56,.b false),(59,.b false),(61,.b false),(63,.b false),(65,.b false),(66,.row [(.val (.string x0.f0)),(.i x0.f1)]),(67,.b false),(69,.b false),(71,.b false),(72,.ret [] [(.oi (m60 a0 x0.f0))] [] []),(73,.b false),(75,.b false),(78,.b false),(79,.b false)]) (σ:=h98_0 l0_0 a0 (length p:Int)) (σ':=⟨[(0,(.one (.bor l0_0 (map b_si a0)))),(3,(.oi (IntKind.wrap .i64 ((length p:Int)+1))))],[]⟩) (e:=.normal) (t':=86) (hs':=[]) (q:=[(decide ((length p:Int) <((length (map b_si a0)):Int)))=true,0≤(length p:Int),(map b_si a0)[(Int.toNat (length p:Int))]?=some [(.val (.string x0.f0)),(.i x0.f1)],(x0.f0.toList==(⟨#[]⟩:ByteArray).toList)=false,(x0.f0.toList==(⟨#[]⟩:ByteArray).toList)=false,(x0.f0.toList==(⟨#[]⟩:ByteArray).toList)=false,0≤(length p:Int),(map b_si a0)[(Int.toNat (length p:Int))]?=some [(.val (.string x0.f0)),(.i x0.f1)],(x0.f0.toList==(⟨#[]⟩:ByteArray).toList)=false,(x0.f0.toList==(⟨#[]⟩:ByteArray).toList)=false,(x0.f0.toList==(⟨#[]⟩:ByteArray).toList)=false,Ev F X (.call 115 [(.one (.val (.string x0.f0)))] [] [] [(.one (.val (.bool (m115 x0.f0))))]),(x0.f0.toList==(⟨#[]⟩:ByteArray).toList)=false,(x0.f0.toList==(⟨#[]⟩:ByteArray).toList)=false,(!(m115 x0.f0))=false,(!(m115 x0.f0))=false,(!(m115 x0.f0))=false,0≤(length p:Int),(map b_si a0)[(Int.toNat (length p:Int))]?=some [(.val (.string x0.f0)),(.i x0.f1)],(!(m115 x0.f0))=false,(!(m115 x0.f0))=false,(!(m115 x0.f0))=false,Ev F X (.call 101 [(.oi x0.f1)] [] [] [(.one (.val (.bool (m105 x0.f1 0 1000000))))]),(!(m115 x0.f0))=false,(!(m115 x0.f0))=false,(!(m105 x0.f1 0 1000000))=false,(!(m105 x0.f1 0 1000000))=false,(!(m105 x0.f1 0 1000000))=false,(!(m105 x0.f1 0 1000000))=false,0≤(length p:Int),(map b_si a0)[(Int.toNat (length p:Int))]?=some [(.val (.string x0.f0)),(.i x0.f1)],(!(m105 x0.f1 0 1000000))=false,(!(m105 x0.f1 0 1000000))=false,(!(m105 x0.f1 0 1000000))=false,Ev F X (.call 60 [(.one (.bor (l0_0+1) (map b_si a0))),(.one (.val (.string x0.f0)))] [] [] [(.oi (m60 a0 x0.f0))]),(!(m105 x0.f1 0 1000000))=false,(!(m105 x0.f1 0 1000000))=false,(!(m105 x0.f1 0 1000000))=false,((m60 a0 x0.f0) !=(length p:Int))=false,True]) (by kernel_rfl) ⟨hc,(by omega),(by rw[getElem?_map,Hx0]; rfl),(nt h_1),(nt h_1),(nt h_1),(by omega),(by rw[getElem?_map,Hx0]; rfl),(nt h_1),(nt h_1),(nt h_1),(e115 (a0:=x0.f0) (by assumption)),(nt h_1),(nt h_1),(nt h_2),(nt h_2),(nt h_2),(by omega),(by rw[getElem?_map,Hx0]; rfl),(nt h_2),(nt h_2),(nt h_2),(e101 (a0:=x0.f1)),(nt h_2),(nt h_2),(nt h_3),(nt h_3),(nt h_3),(nt h_3),(by omega),(by rw[getElem?_map,Hx0]; rfl),(nt h_3),(nt h_3),(nt h_3),(e60 (a0:=a0) (a1:=x0.f0) (by with_reducible assumption)),(nt h_3),(nt h_3),(nt h_3),(nt h_4),trivial,trivial⟩
            have ih:=t98_0 (l0_0:=l0_0) (a0:=a0) hy0 hy1 y0 (p++ [x0]) (by rw[append_assoc]; exact hp0)
            rw[show ((p++ [x0]).length:Int)=(p.length:Int)+1 from by simp] at ih
            rw[show (⟨[(0,(.one (.bor l0_0 (map b_si a0)))),(3,(.oi (IntKind.wrap .i64 ((length p:Int)+1))))],[]⟩:St)=h98_0 l0_0 a0 ((length p:Int)+1)  from(by unfold h98_0; simp only[hw]; done)] at st
            exact .loopN st ih
/-! loop.example/g00539/spec.l14Parts -/
def m98 (a0:(List K_si)):Bool:=
  (match r98_0 a0 a0 0 with | .k0 w0_0 w1_0=>true | .k1=>false)
theorem e98 {l0_0:Nat} {a0:(List K_si)} (hy0:length a0*24≤140737488351232) (hy1:∀z∈a0,os_si z):Ev F X (.call 98 [(.one (.bor l0_0 (map b_si a0)))] [] [] [(.one (.val (.bool (m98 a0))))]):=by
  unfold m98
  cases h0:r98_0 a0 a0 0 with
  |k0 w0_0 w1_0=>
    try dsimp only
    have f0:(⟨[(0,(.one (.bor l0_0 (map b_si a0)))),(3,(.oi 0))],[]⟩:St)=h98_0 l0_0 a0 0 :=(by rfl)
    have f1:Ev F X (.code l98_0 (h98_0 l0_0 a0 0) (.exit 0) ⟨[(0,(.one (.bor l0_0 (map b_si a0)))),(3,(.oi w0_0)),(7,(.one (.val (.bool w1_0))))],[]⟩):=(by have t:Ev F X (.code l98_0 (h98_0 l0_0 a0 0) (ex98_0 (r98_0 a0 a0 0)) (fin98_0 l0_0 a0 (r98_0 a0 a0 0))):=t98_0 (l0_0:=l0_0) (a0:=a0) (by assumption) (by assumption) a0 []  rfl; rw[h0] at t; exact t)
    exact callP_ok (ps:=[]) (os:=[]) (rs:=[(.one (.val (.bool true)))]) (by kernel_rfl) (.f f0 (.f f1 (.h 4 (.loop (h98_0 l0_0 a0 0) (.exit 0) ⟨[(0,(.one (.bor l0_0 (map b_si a0)))),(3,(.oi w0_0)),(7,(.one (.val (.bool w1_0))))],[]⟩) .nil)))
  |k1=>
    try dsimp only
    have f0:(⟨[(0,(.one (.bor l0_0 (map b_si a0)))),(3,(.oi 0))],[]⟩:St)=h98_0 l0_0 a0 0 :=(by rfl)
    have f1:Ev F X (.code l98_0 (h98_0 l0_0 a0 0) .ret ⟨[(2,(.one (.val (.bool false))))],[]⟩):=(by have t:Ev F X (.code l98_0 (h98_0 l0_0 a0 0) (ex98_0 (r98_0 a0 a0 0)) (fin98_0 l0_0 a0 (r98_0 a0 a0 0))):=t98_0 (l0_0:=l0_0) (a0:=a0) (by assumption) (by assumption) a0 []  rfl; rw[h0] at t; exact t)
    exact callP_ok (ps:=[]) (os:=[]) (rs:=[(.one (.val (.bool false)))]) (by kernel_rfl) (.f f0 (.f f1 (.h 4 (.loop (h98_0 l0_0 a0 0) .ret ⟨[(2,(.one (.val (.bool false))))],[]⟩) .nil)))
/-! loop 99_0 -/
inductive O99_0 where
  |k0 (w0:Int) (w1:Int) (w2:Bool)
def r99_0 (a0:(List K_si)):List K_si→Int→Int→O99_0
  |x0::y0,i,v0=>
    (r99_0 a0 y0 (i+1) (IntKind.wrap .i64 (v0+x0.f1)))
  |[],i,v0=>(O99_0.k0 v0 i (decide (i <((length (map b_si a0)):Int))))
def h99_0 (l0_0:Nat) (a0:(List K_si)) (i:Int) (v0:Int):St:=⟨[(0,(.one (.bor l0_0 (map b_si a0)))),(3,(.one (.val (.int .i64 v0)))),(4,(.one (.val (.int .i64 i))))],[]⟩
def ex99_0:O99_0→VX.Exit
  |.k0 _ _ _=>(.exit 0)
def fin99_0 (l0_0:Nat) (a0:(List K_si)):O99_0→St
  |.k0 w0 w1 w2=>⟨[(0,(.one (.bor l0_0 (map b_si a0)))),(3,(.one (.val (.int .i64 w0)))),(4,(.one (.val (.int .i64 w1)))),(8,(.one (.val (.bool w2))))],[]⟩
theorem t99_0 {l0_0:Nat} {a0:(List K_si)} (hy0:length a0*24≤140737488351232):∀(y0:List K_si) (p:List K_si) (v0:Int),p++y0=a0→Ev F X (.code l99_0 (h99_0 l0_0 a0 (length p:Int) v0) (ex99_0 (r99_0 a0 y0 (length p:Int) v0)) (fin99_0 l0_0 a0 (r99_0 a0 y0 (length p:Int) v0)))
  |[],p,v0,hp0=>by
    have hc:¬(decide ((length p:Int) <((length (map b_si a0)):Int)))=true:=by
      rw[← hp0]; simp only[length_map,length_set,length_append,length_replicate,length_cons,length_nil,decide_eq_true_eq]; omega
    have st:=codeH_ok (F:=F) (X:=X) (c:=b99_0) (t:=0) (hs:=[(8,.b false)]) (σ:=h99_0 l0_0 a0 (length p:Int) v0) (σ':=fin99_0 l0_0 a0 (.k0 v0 (length p:Int) (decide ((length p:Int) <((length (map b_si a0)):Int))))) (e:=(.exit 0)) (t':=9) (hs':=[]) (q:=[(decide ((length p:Int) <((length (map b_si a0)):Int)))=false]) (by kernel_rfl) ⟨(nt hc),trivial⟩
    exact .loopX st (show ((.exit 0):VX.Exit)≠.normal from by simp)
  |x0::y0,p,v0,hp0=>by
    have hc:(decide ((length p:Int) <((length (map b_si a0)):Int)))=true:=by
      rw[← hp0]; simp only[length_map,length_set,length_append,length_replicate,length_cons,length_nil,decide_eq_true_eq]; omega
    have Hx0:(a0)[Int.toNat (length p:Int)]?=some x0:=by
      rw[← hp0,Int.toNat_natCast]; simp
    have hlen:length (a0)=length p+length y0+1:=by rw[← hp0]; simp; omega
    have hw:IntKind.wrap .i64 ((length p:Int)+1)=(length p:Int)+1:=wrap64 (by omega)
    simp only[r99_0]
    have st:=codeH_ok (F:=F) (X:=X) (c:=b99_0) (t:=0) (hs:=[(8,.b true),(16,.row [(.val (.string x0.f0)),(.i x0.f1)])]) (σ:=h99_0 l0_0 a0 (length p:Int) v0) (σ':=⟨[(0,(.one (.bor l0_0 (map b_si a0)))),(3,(.oi (IntKind.wrap .i64 (v0+x0.f1)))),(4,(.oi (IntKind.wrap .i64 ((length p:Int)+1))))],[]⟩) (e:=.normal) (t':=31) (hs':=[]) (q:=[(decide ((length p:Int) <((length (map b_si a0)):Int)))=true,0≤(length p:Int),(map b_si a0)[(Int.toNat (length p:Int))]?=some [(.val (.string x0.f0)),(.i x0.f1)],True,True]) (by kernel_rfl) ⟨hc,(by omega),(by rw[getElem?_map,Hx0]; rfl),trivial,trivial,trivial⟩
    have ih:=t99_0 (l0_0:=l0_0) (a0:=a0) hy0 y0 (p++ [x0]) (IntKind.wrap .i64 (v0+x0.f1)) (by rw[append_assoc]; exact hp0)
    rw[show ((p++ [x0]).length:Int)=(p.length:Int)+1 from by simp] at ih
    rw[show (⟨[(0,(.one (.bor l0_0 (map b_si a0)))),(3,(.oi (IntKind.wrap .i64 (v0+x0.f1)))),(4,(.oi (IntKind.wrap .i64 ((length p:Int)+1))))],[]⟩:St)=h99_0 l0_0 a0 ((length p:Int)+1) (IntKind.wrap .i64 (v0+x0.f1)) from(by unfold h99_0; simp only[hw]; done)] at st
    exact .loopN st ih
/-! loop.example/g00539/spec.l13Total -/
def m99 (a0:(List K_si)):Int:=
  (match r99_0 a0 a0 0 0 with | .k0 w0_0 w1_0 w2_0=>w0_0)
theorem e99 {l0_0:Nat} {a0:(List K_si)} (hy0:length a0*24≤140737488351232):Ev F X (.call 99 [(.one (.bor l0_0 (map b_si a0)))] [] [] [(.one (.val (.int .i64 (m99 a0))))]):=by
  unfold m99
  cases h0:r99_0 a0 a0 0 0 with
  |k0 w0_0 w1_0 w2_0=>
    try dsimp only
    have f0:(⟨[(0,(.one (.bor l0_0 (map b_si a0)))),(3,(.oi 0)),(4,(.oi 0))],[]⟩:St)=h99_0 l0_0 a0 0 0:=(by rfl)
    have f1:Ev F X (.code l99_0 (h99_0 l0_0 a0 0 0) (.exit 0) ⟨[(0,(.one (.bor l0_0 (map b_si a0)))),(3,(.oi w0_0)),(4,(.oi w1_0)),(8,(.one (.val (.bool w2_0))))],[]⟩):=(by have t:Ev F X (.code l99_0 (h99_0 l0_0 a0 0 0) (ex99_0 (r99_0 a0 a0 0 0)) (fin99_0 l0_0 a0 (r99_0 a0 a0 0 0))):=t99_0 (l0_0:=l0_0) (a0:=a0) (by assumption) a0 [] 0 rfl; rw[h0] at t; exact t)
    exact callP_ok (ps:=[]) (os:=[]) (rs:=[(.oi w0_0)]) (by kernel_rfl) (.f f0 (.f f1 (.h 6 (.loop (h99_0 l0_0 a0 0 0) (.exit 0) ⟨[(0,(.one (.bor l0_0 (map b_si a0)))),(3,(.oi w0_0)),(4,(.oi w1_0)),(8,(.one (.val (.bool w2_0))))],[]⟩) .nil)))
/-! loop.example/g00539/spec.l4Sum -/
def m116 (a0:Int):Bool:=
  (m105 a0 0 2147483646)
theorem e116 {a0:Int}:Ev F X (.call 116 [(.one (.val (.int .i64 a0)))] [] [] [(.one (.val (.bool (m105 a0 0 2147483646))))]):=by
  have f0:Ev F X (.call 105 [(.oi a0),(.oi 0),(.oi 2147483646)] [] [] [(.one (.val (.bool (m105 a0 0 2147483646))))]):=(e105 (a0:=a0) (a1:=0) (a2:=2147483646))
  exact callP_ok (ps:=[]) (os:=[]) (rs:=[(.one (.val (.bool (m105 a0 0 2147483646))))]) (by kernel_rfl) (.r 5 [] [] f0 .nil)
/-! loop 124_0 -/
inductive O124_0 where
  |k0 (w0:Int) (w1:Bool)
  |k1 (w0:Int)
def r124_0 (a0:(List K_R)) (a1:Int):List K_R→Int→O124_0
  |x0::y0,i=>
    if(x0.f0==a1)=true then(O124_0.k1 i) else
    (r124_0 a0 a1 y0 (i+1))
  |[],i=>(O124_0.k0 i (decide (i <((length (map b_R a0)):Int))))
def h124_0 (l0_0:Nat) (a0:(List K_R)) (a1:Int) (i:Int) :St:=⟨[(0,(.one (.bor l0_0 (map b_R a0)))),(1,(.one (.val (.int .i64 a1)))),(5,(.one (.val (.int .i64 i))))],[]⟩
def ex124_0:O124_0→VX.Exit
  |.k0 _ _=>(.exit 0)
  |.k1 _=>.ret
def fin124_0 (l0_0:Nat) (a0:(List K_R)) (a1:Int):O124_0→St
  |.k0 w0 w1=>⟨[(0,(.one (.bor l0_0 (map b_R a0)))),(1,(.one (.val (.int .i64 a1)))),(5,(.one (.val (.int .i64 w0)))),(9,(.one (.val (.bool w1))))],[]⟩
  |.k1 w0=>⟨[(4,(.one (.val (.int .i64 w0))))],[]⟩
theorem t124_0 {l0_0:Nat} {a0:(List K_R)} {a1:Int} (hy0:length a0*56≤140737488351232) (hy1:∀z∈a0,ok_R z):∀(y0:List K_R) (p:List K_R),p++y0=a0→Ev F X (.code l124_0 (h124_0 l0_0 a0 a1 (length p:Int)) (ex124_0 (r124_0 a0 a1 y0 (length p:Int))) (fin124_0 l0_0 a0 a1 (r124_0 a0 a1 y0 (length p:Int))))
  |[],p,hp0=>by
    have hc:¬(decide ((length p:Int) <((length (map b_R a0)):Int)))=true:=by
      rw[← hp0]; simp only[length_map,length_set,length_append,length_replicate,length_cons,length_nil,decide_eq_true_eq]; omega
    have st:=codeH_ok (F:=F) (X:=X) (c:=b124_0) (t:=0) (hs:=[(8,.b false)]) (σ:=h124_0 l0_0 a0 a1 (length p:Int)) (σ':=fin124_0 l0_0 a0 a1 (.k0 (length p:Int) (decide ((length p:Int) <((length (map b_R a0)):Int))))) (e:=(.exit 0)) (t':=9) (hs':=[]) (q:=[(decide ((length p:Int) <((length (map b_R a0)):Int)))=false]) (by kernel_rfl) ⟨(nt hc),trivial⟩
    exact .loopX st (show ((.exit 0):VX.Exit)≠.normal from by simp)
  |x0::y0,p,hp0=>by
    have hc:(decide ((length p:Int) <((length (map b_R a0)):Int)))=true:=by
      rw[← hp0]; simp only[length_map,length_set,length_append,length_replicate,length_cons,length_nil,decide_eq_true_eq]; omega
    have Hx0:(a0)[Int.toNat (length p:Int)]?=some x0:=by
      rw[← hp0,Int.toNat_natCast]; simp
    have Mx0_0:=hy1 x0 (List.mem_of_getElem? Hx0)
    have hlen:length (a0)=length p+length y0+1:=by rw[← hp0]; simp; omega
    have hw:IntKind.wrap .i64 ((length p:Int)+1)=(length p:Int)+1:=wrap64 (by omega)
    simp only[r124_0]
    by_cases h_1:(x0.f0==a1)=true
    · try simp only[if_pos h_1]
      have st:=codeH_ok (F:=F) (X:=X) (c:=b124_0) (t:=0) (hs:=[(8,.b true),(14,.row [(.i x0.f0),(.i x0.f1),(.i x0.f2),(.sl (map b_si x0.f3)),(.i x0.f4)]),(23,.b true)]) (σ:=h124_0 l0_0 a0 a1 (length p:Int)) (σ':=fin124_0 l0_0 a0 a1 (.k1 (length p:Int))) (e:=.ret) (t':=28) (hs':=[]) (q:=[(decide ((length p:Int) <((length (map b_R a0)):Int)))=true,0≤(length p:Int),(map b_R a0)[(Int.toNat (length p:Int))]?=some [(.i x0.f0),(.i x0.f1),(.i x0.f2),(.sl (map b_si x0.f3)),(.i x0.f4)],(x0.f0==a1)=true]) (by kernel_rfl) ⟨hc,(by omega),(by rw[getElem?_map,Hx0]; rfl),h_1,trivial⟩
      exact .loopX st (show (.ret:VX.Exit)≠.normal from by simp)
    · try simp only[if_neg h_1]
      have st:=codeH_ok (F:=F) (X:=X) (c:=b124_0) (t:=0) (hs:=[(8,.b true),(14,.row [(.i x0.f0),(.i x0.f1),(.i x0.f2),(.sl (map b_si x0.f3)),(.i x0.f4)]),(23,.b false)]) (σ:=h124_0 l0_0 a0 a1 (length p:Int)) (σ':=⟨[(0,(.one (.bor l0_0 (map b_R a0)))),(1,(.oi a1)),(5,(.oi (IntKind.wrap .i64 ((length p:Int)+1))))],[]⟩) (e:=.normal) (t':=30) (hs':=[]) (q:=[(decide ((length p:Int) <((length (map b_R a0)):Int)))=true,0≤(length p:Int),(map b_R a0)[(Int.toNat (length p:Int))]?=some [(.i x0.f0),(.i x0.f1),(.i x0.f2),(.sl (map b_si x0.f3)),(.i x0.f4)],(x0.f0==a1)=false,True]) (by kernel_rfl) ⟨hc,(by omega),(by rw[getElem?_map,Hx0]; rfl),(nt h_1),trivial,trivial⟩
      have ih:=t124_0 (l0_0:=l0_0) (a0:=a0) (a1:=a1) hy0 hy1 y0 (p++ [x0]) (by rw[append_assoc]; exact hp0)
      rw[show ((p++ [x0]).length:Int)=(p.length:Int)+1 from by simp] at ih
      rw[show (⟨[(0,(.one (.bor l0_0 (map b_R a0)))),(1,(.oi a1)),(5,(.oi (IntKind.wrap .i64 ((length p:Int)+1))))],[]⟩:St)=h124_0 l0_0 a0 a1 ((length p:Int)+1)  from(by unfold h124_0; simp only[hw]; done)] at st
      exact .loopN st ih
/-! loop.example/g00539/spec.l14Find -/
def m124 (a0:(List K_R)) (a1:Int):Int:=
  (match r124_0 a0 a1 a0 0 with | .k0 w0_0 w1_0=>(-1) | .k1 w0_0=>w0_0)
theorem e124 {l0_0:Nat} {a0:(List K_R)} {a1:Int} (hy0:length a0*56≤140737488351232) (hy1:∀z∈a0,ok_R z):Ev F X (.call 124 [(.one (.bor l0_0 (map b_R a0))),(.one (.val (.int .i64 a1)))] [] [] [(.one (.val (.int .i64 (m124 a0 a1))))]):=by
  unfold m124
  cases h0:r124_0 a0 a1 a0 0 with
  |k0 w0_0 w1_0=>
    try dsimp only
    have f0:(⟨[(0,(.one (.bor l0_0 (map b_R a0)))),(1,(.oi a1)),(5,(.oi 0))],[]⟩:St)=h124_0 l0_0 a0 a1 0 :=(by rfl)
    have f1:Ev F X (.code l124_0 (h124_0 l0_0 a0 a1 0) (.exit 0) ⟨[(0,(.one (.bor l0_0 (map b_R a0)))),(1,(.oi a1)),(5,(.oi w0_0)),(9,(.one (.val (.bool w1_0))))],[]⟩):=(by have t:Ev F X (.code l124_0 (h124_0 l0_0 a0 a1 0) (ex124_0 (r124_0 a0 a1 a0 0)) (fin124_0 l0_0 a0 a1 (r124_0 a0 a1 a0 0))):=t124_0 (l0_0:=l0_0) (a0:=a0) (a1:=a1) (by assumption) (by assumption) a0 []  rfl; rw[h0] at t; exact t)
    exact callP_ok (ps:=[]) (os:=[]) (rs:=[(.oi (-1))]) (by kernel_rfl) (.f f0 (.f f1 (.h 4 (.loop (h124_0 l0_0 a0 a1 0) (.exit 0) ⟨[(0,(.one (.bor l0_0 (map b_R a0)))),(1,(.oi a1)),(5,(.oi w0_0)),(9,(.one (.val (.bool w1_0))))],[]⟩) .nil)))
  |k1 w0_0=>
    try dsimp only
    have f0:(⟨[(0,(.one (.bor l0_0 (map b_R a0)))),(1,(.oi a1)),(5,(.oi 0))],[]⟩:St)=h124_0 l0_0 a0 a1 0 :=(by rfl)
    have f1:Ev F X (.code l124_0 (h124_0 l0_0 a0 a1 0) .ret ⟨[(4,(.oi w0_0))],[]⟩):=(by have t:Ev F X (.code l124_0 (h124_0 l0_0 a0 a1 0) (ex124_0 (r124_0 a0 a1 a0 0)) (fin124_0 l0_0 a0 a1 (r124_0 a0 a1 a0 0))):=t124_0 (l0_0:=l0_0) (a0:=a0) (a1:=a1) (by assumption) (by assumption) a0 []  rfl; rw[h0] at t; exact t)
    exact callP_ok (ps:=[]) (os:=[]) (rs:=[(.oi w0_0)]) (by kernel_rfl) (.f f0 (.f f1 (.h 4 (.loop (h124_0 l0_0 a0 a1 0) .ret ⟨[(4,(.oi w0_0))],[]⟩) .nil)))
theorem ixr124_0 (a0:(List K_R)) (a1:Int):∀(l:List K_R) (i:Int),(∃(w0:_) (w1:_),r124_0 a0 a1 l i=.k0 w0 w1)∨(∃w,r124_0 a0 a1 l i=.k1 w∧i≤w∧w < i+l.length)
  |[],i=>.inl ⟨i,(decide (i <((length (map b_R a0)):Int))),rfl⟩
  |x::l,i=>by
    have ih:=ixr124_0 a0 a1 l (i+1)
    simp only[r124_0]
    (repeat' split)
    all_goals first
      |exact .inr ⟨i,rfl,by omega,by simp only[length_cons]; omega⟩
      | (rcases ih with ⟨w0, w1, h⟩ | ⟨w, h, h1, h2⟩
         · exact .inl ⟨w0,w1,h⟩
         · exact .inr ⟨w,h,by omega,by simp only[length_cons]; omega⟩)
theorem ix124 (a0:(List K_R)) (a1:Int): -1≤m124 a0 a1∧m124 a0 a1 <(length a0:Int):=by
  unfold m124
  rcases ixr124_0 a0 a1 a0 0 with⟨w0,w1,h⟩ |⟨w,h,h1,h2⟩<;>simp only[h]<;>omega
/-! loop.example/g00539/spec.l14Reward -/
def m97 (a0:(List K_R)) (a1:Int):Int:=
  if(!(m105 ((getD a0 (Int.toNat a1) (K_R.mk 0 0 0 [] 0)).f0) 0 2147483646))=true then 3 else
  if(!(m105 ((getD a0 (Int.toNat a1) (K_R.mk 0 0 0 [] 0)).f1) 0 1000000))=true then 3 else
    if(!(m105 ((getD a0 (Int.toNat a1) (K_R.mk 0 0 0 [] 0)).f2) 0 1000000))=true then 3 else
      if(!(m105 ((getD a0 (Int.toNat a1) (K_R.mk 0 0 0 [] 0)).f4) 1 3))=true then 3 else
        if(decide (((length (map b_si ((getD a0 (Int.toNat a1) (K_R.mk 0 0 0 [] 0)).f3))):Int) > 12))=true then 1 else
          if(!(m98 ((getD a0 (Int.toNat a1) (K_R.mk 0 0 0 [] 0)).f3)))=true then 1 else
            if((IntKind.wrap .i64 ((m99 ((getD a0 (Int.toNat a1) (K_R.mk 0 0 0 [] 0)).f3))+((getD a0 (Int.toNat a1) (K_R.mk 0 0 0 [] 0)).f2))) !=((getD a0 (Int.toNat a1) (K_R.mk 0 0 0 [] 0)).f1))=true then 1 else
              if(decide ((m124 (take (Int.toNat a1) a0) ((getD a0 (Int.toNat a1) (K_R.mk 0 0 0 [] 0)).f0))≥0))=true then 6 else
                0
theorem e97 {l0_0:Nat} {a0:(List K_R)} {a1:Int} (hy0:length a0*56≤140737488351232) (hy1:∀z∈a0,os_R z) (hy2:0≤a1) (hy3:a1 <(length a0:Int)):Ev F X (.call 97 [(.one (.bor l0_0 (map b_R a0))),(.one (.val (.int .i64 a1)))] [] [] [(.one (.val (.int .i64 (m97 a0 a1))))]):=by
  unfold m97
  have f0:0≤a1:=(by with_reducible assumption)
  have f1:(map b_R a0)[(Int.toNat a1)]?=some [(.val (.int .i64 ((getD a0 (Int.toNat a1) (K_R.mk 0 0 0 [] 0)).f0))),(.val (.int .i64 ((getD a0 (Int.toNat a1) (K_R.mk 0 0 0 [] 0)).f1))),(.val (.int .i64 ((getD a0 (Int.toNat a1) (K_R.mk 0 0 0 [] 0)).f2))),(.sl (map b_si ((getD a0 (Int.toNat a1) (K_R.mk 0 0 0 [] 0)).f3))),(.val (.int .i64 ((getD a0 (Int.toNat a1) (K_R.mk 0 0 0 [] 0)).f4)))]:=(by rw[getElem?_map,getD_at a0 (Int.toNat a1) (K_R.mk 0 0 0 [] 0) (by first | exact True.intro | with_reducible rfl | with_reducible assumption | omega |(simp only[decide_eq_true_eq] at*; omega) |(simp only[length_map]; omega) |(simp; omega) |(simp[take_of_length_le]; done) | assumption | trivial |(simp[*,byteRows_eq,ints_y]; done))]; rfl)
  have f2:Ev F X (.call 116 [(.oi ((getD a0 (Int.toNat a1) (K_R.mk 0 0 0 [] 0)).f0))] [] [] [(.one (.val (.bool (m105 ((getD a0 (Int.toNat a1) (K_R.mk 0 0 0 [] 0)).f0) 0 2147483646))))]):=(e116 (a0:=((getD a0 (Int.toNat a1) (K_R.mk 0 0 0 [] 0)).f0)))
  by_cases h0:(!(m105 ((getD a0 (Int.toNat a1) (K_R.mk 0 0 0 [] 0)).f0) 0 2147483646))=true
  · try simp only[if_pos h0]
    exact callP_ok (ps:=[]) (os:=[]) (rs:=[(.oi 3)]) (by kernel_rfl) (.f f0 (.f f1 (.h 7 (.row [(.i ((getD a0 (Int.toNat a1) (K_R.mk 0 0 0 [] 0)).f0)),(.i ((getD a0 (Int.toNat a1) (K_R.mk 0 0 0 [] 0)).f1)),(.i ((getD a0 (Int.toNat a1) (K_R.mk 0 0 0 [] 0)).f2)),(.sl (map b_si ((getD a0 (Int.toNat a1) (K_R.mk 0 0 0 [] 0)).f3))),(.i ((getD a0 (Int.toNat a1) (K_R.mk 0 0 0 [] 0)).f4))]) (.r 19 [] [] f2 (.f h0 (.f h0 (.f h0 (.f h0 (.f h0 (.f h0 (.f h0 (.h 24 (.b true) (.h 26 (.b true) (.h 28 (.b true) (.h 30 (.b true) (.h 32 (.b true) (.h 34 (.b true) (.h 37 (.b true) .nil))))))))))))))))))
  · try simp only[if_neg h0]
    have f8:Ev F X (.call 101 [(.oi ((getD a0 (Int.toNat a1) (K_R.mk 0 0 0 [] 0)).f1))] [] [] [(.one (.val (.bool (m105 ((getD a0 (Int.toNat a1) (K_R.mk 0 0 0 [] 0)).f1) 0 1000000))))]):=(e101 (a0:=((getD a0 (Int.toNat a1) (K_R.mk 0 0 0 [] 0)).f1)))
    by_cases h1:(!(m105 ((getD a0 (Int.toNat a1) (K_R.mk 0 0 0 [] 0)).f1) 0 1000000))=true
    · try simp only[if_pos h1]
      exact callP_ok (ps:=[]) (os:=[]) (rs:=[(.oi 3)]) (by kernel_rfl) (.f f0 (.f f1 (.h 7 (.row [(.i ((getD a0 (Int.toNat a1) (K_R.mk 0 0 0 [] 0)).f0)),(.i ((getD a0 (Int.toNat a1) (K_R.mk 0 0 0 [] 0)).f1)),(.i ((getD a0 (Int.toNat a1) (K_R.mk 0 0 0 [] 0)).f2)),(.sl (map b_si ((getD a0 (Int.toNat a1) (K_R.mk 0 0 0 [] 0)).f3))),(.i ((getD a0 (Int.toNat a1) (K_R.mk 0 0 0 [] 0)).f4))]) (.r 19 [] [] f2 (.f (nt h0) (.f (nt h0) (.f (nt h0) (.f (nt h0) (.f (nt h0) (.h 24 (.b false) (.h 26 (.b false) (.h 28 (.b false) (.h 30 (.b false) (.h 32 (.b false) (.r 33 [] [] f8 (.f (nt h0) (.f (nt h0) (.f h1 (.f h1 (.f h1 (.f h1 (.f h1 (.f h1 (.f h1 (.h 34 (.b false) (.h 37 (.b false) (.h 40 (.b true) (.h 42 (.b true) (.h 44 (.b true) (.h 46 (.b true) (.h 48 (.b true) (.h 50 (.b true) (.h 53 (.b true) .nil)))))))))))))))))))))))))))))))))
    · try simp only[if_neg h1]
      have f16:Ev F X (.call 101 [(.oi ((getD a0 (Int.toNat a1) (K_R.mk 0 0 0 [] 0)).f2))] [] [] [(.one (.val (.bool (m105 ((getD a0 (Int.toNat a1) (K_R.mk 0 0 0 [] 0)).f2) 0 1000000))))]):=(e101 (a0:=((getD a0 (Int.toNat a1) (K_R.mk 0 0 0 [] 0)).f2)))
      by_cases h2:(!(m105 ((getD a0 (Int.toNat a1) (K_R.mk 0 0 0 [] 0)).f2) 0 1000000))=true
      · try simp only[if_pos h2]
        exact callP_ok (ps:=[]) (os:=[]) (rs:=[(.oi 3)]) (by kernel_rfl) (.f f0 (.f f1 (.h 7 (.row [(.i ((getD a0 (Int.toNat a1) (K_R.mk 0 0 0 [] 0)).f0)),(.i ((getD a0 (Int.toNat a1) (K_R.mk 0 0 0 [] 0)).f1)),(.i ((getD a0 (Int.toNat a1) (K_R.mk 0 0 0 [] 0)).f2)),(.sl (map b_si ((getD a0 (Int.toNat a1) (K_R.mk 0 0 0 [] 0)).f3))),(.i ((getD a0 (Int.toNat a1) (K_R.mk 0 0 0 [] 0)).f4))]) (.r 19 [] [] f2 (.f (nt h0) (.f (nt h0) (.f (nt h0) (.f (nt h0) (.f (nt h0) (.h 24 (.b false) (.h 26 (.b false) (.h 28 (.b false) (.h 30 (.b false) (.h 32 (.b false) (.r 33 [] [] f8 (.f (nt h0) (.f (nt h0) (.f (nt h1) (.f (nt h1) (.f (nt h1) (.f (nt h1) (.f (nt h1) (.h 34 (.b false) (.h 37 (.b false) (.h 40 (.b false) (.h 42 (.b false) (.h 44 (.b false) (.h 46 (.b false) (.h 48 (.b false) (.r 49 [] [] f16 (.f (nt h1) (.f (nt h1) (.f h2 (.f h2 (.f h2 (.f h2 (.f h2 (.f h2 (.f h2 (.h 50 (.b false) (.h 53 (.b false) (.h 56 (.b true) (.h 58 (.b true) (.h 60 (.b true) (.h 62 (.b true) (.h 64 (.b true) (.h 66 (.b true) (.h 69 (.b true) .nil))))))))))))))))))))))))))))))))))))))))))))))))
      · try simp only[if_neg h2]
        have f24:Ev F X (.call 105 [(.oi ((getD a0 (Int.toNat a1) (K_R.mk 0 0 0 [] 0)).f4)),(.oi 1),(.oi 3)] [] [] [(.one (.val (.bool (m105 ((getD a0 (Int.toNat a1) (K_R.mk 0 0 0 [] 0)).f4) 1 3))))]):=(e105 (a0:=((getD a0 (Int.toNat a1) (K_R.mk 0 0 0 [] 0)).f4)) (a1:=1) (a2:=3))
        by_cases h3:(!(m105 ((getD a0 (Int.toNat a1) (K_R.mk 0 0 0 [] 0)).f4) 1 3))=true
        · try simp only[if_pos h3]
          exact callP_ok (ps:=[]) (os:=[]) (rs:=[(.oi 3)]) (by kernel_rfl) (.f f0 (.f f1 (.h 7 (.row [(.i ((getD a0 (Int.toNat a1) (K_R.mk 0 0 0 [] 0)).f0)),(.i ((getD a0 (Int.toNat a1) (K_R.mk 0 0 0 [] 0)).f1)),(.i ((getD a0 (Int.toNat a1) (K_R.mk 0 0 0 [] 0)).f2)),(.sl (map b_si ((getD a0 (Int.toNat a1) (K_R.mk 0 0 0 [] 0)).f3))),(.i ((getD a0 (Int.toNat a1) (K_R.mk 0 0 0 [] 0)).f4))]) (.r 19 [] [] f2 (.f (nt h0) (.f (nt h0) (.f (nt h0) (.f (nt h0) (.f (nt h0) (.h 24 (.b false) (.h 26 (.b false) (.h 28 (.b false) (.h 30 (.b false) (.h 32 (.b false) (.r 33 [] [] f8 (.f (nt h0) (.f (nt h0) (.f (nt h1) (.f (nt h1) (.f (nt h1) (.f (nt h1) (.f (nt h1) (.h 34 (.b false) (.h 37 (.b false) (.h 40 (.b false) (.h 42 (.b false) (.h 44 (.b false) (.h 46 (.b false) (.h 48 (.b false) (.r 49 [] [] f16 (.f (nt h1) (.f (nt h1) (.f (nt h2) (.f (nt h2) (.f (nt h2) (.f (nt h2) (.f (nt h2) (.h 50 (.b false) (.h 53 (.b false) (.h 56 (.b false) (.h 58 (.b false) (.h 60 (.b false) (.h 62 (.b false) (.h 64 (.b false) (.r 65 [] [] f24 (.f (nt h2) (.f (nt h2) (.f h3 (.h 66 (.b false) (.h 69 (.b false) (.h 70 (.b true) .nil)))))))))))))))))))))))))))))))))))))))))))))))))))
        · try simp only[if_neg h3]
          by_cases h4:(decide (((length (map b_si ((getD a0 (Int.toNat a1) (K_R.mk 0 0 0 [] 0)).f3))):Int) > 12))=true
          · try simp only[if_pos h4]
            exact callP_ok (ps:=[]) (os:=[]) (rs:=[(.oi 1)]) (by kernel_rfl) (.f f0 (.f f1 (.h 7 (.row [(.i ((getD a0 (Int.toNat a1) (K_R.mk 0 0 0 [] 0)).f0)),(.i ((getD a0 (Int.toNat a1) (K_R.mk 0 0 0 [] 0)).f1)),(.i ((getD a0 (Int.toNat a1) (K_R.mk 0 0 0 [] 0)).f2)),(.sl (map b_si ((getD a0 (Int.toNat a1) (K_R.mk 0 0 0 [] 0)).f3))),(.i ((getD a0 (Int.toNat a1) (K_R.mk 0 0 0 [] 0)).f4))]) (.r 19 [] [] f2 (.f (nt h0) (.f (nt h0) (.f (nt h0) (.f (nt h0) (.f (nt h0) (.h 24 (.b false) (.h 26 (.b false) (.h 28 (.b false) (.h 30 (.b false) (.h 32 (.b false) (.r 33 [] [] f8 (.f (nt h0) (.f (nt h0) (.f (nt h1) (.f (nt h1) (.f (nt h1) (.f (nt h1) (.f (nt h1) (.h 34 (.b false) (.h 37 (.b false) (.h 40 (.b false) (.h 42 (.b false) (.h 44 (.b false) (.h 46 (.b false) (.h 48 (.b false) (.r 49 [] [] f16 (.f (nt h1) (.f (nt h1) (.f (nt h2) (.f (nt h2) (.f (nt h2) (.f (nt h2) (.f (nt h2) (.h 50 (.b false) (.h 53 (.b false) (.h 56 (.b false) (.h 58 (.b false) (.h 60 (.b false) (.h 62 (.b false) (.h 64 (.b false) (.r 65 [] [] f24 (.f (nt h2) (.f (nt h2) (.f (nt h3) (.f h4 (.f h4 (.f h4 (.f h4 (.f h4 (.f h4 (.f h4 (.h 66 (.b false) (.h 69 (.b false) (.h 70 (.b false) (.h 85 (.b true) (.h 87 (.b true) (.h 89 (.b true) (.h 91 (.b true) (.h 93 (.b true) (.h 95 (.b true) (.h 98 (.b true) .nil)))))))))))))))))))))))))))))))))))))))))))))))))))))))))))))))))
          · try simp only[if_neg h4]
            have f33:Ev F X (.call 98 [(.one (.bor (l0_0+1) (map b_si ((getD a0 (Int.toNat a1) (K_R.mk 0 0 0 [] 0)).f3))))] [] [] [(.one (.val (.bool (m98 ((getD a0 (Int.toNat a1) (K_R.mk 0 0 0 [] 0)).f3)))))]):=(e98 (a0:=((getD a0 (Int.toNat a1) (K_R.mk 0 0 0 [] 0)).f3)) (by have q:=gos_R (l:=a0) (by first | assumption |(intro z hz; exact(by assumption:∀z∈_,os_R z) z (List.mem_of_mem_take hz))) (Int.toNat a1) (K_R.mk 0 0 0 [] 0) (by simp[os_R,ByteArray.size]); first | exact q | exact q.1 | exact q.2 | exact q.2.1 | exact q.2.2 | exact Nat.le_trans q (by decide) | exact Nat.le_trans q.1 (by decide) |(have q1:=q.1; simp only[length_map]; omega)) (by have q:=gos_R (l:=a0) (by first | assumption |(intro z hz; exact(by assumption:∀z∈_,os_R z) z (List.mem_of_mem_take hz))) (Int.toNat a1) (K_R.mk 0 0 0 [] 0) (by simp[os_R,ByteArray.size]); first | exact q | exact q.1 | exact q.2 | exact q.2.1 | exact q.2.2 | exact Nat.le_trans q (by decide) | exact Nat.le_trans q.1 (by decide) |(have q1:=q.1; simp only[length_map]; omega)))
            by_cases h5:(!(m98 ((getD a0 (Int.toNat a1) (K_R.mk 0 0 0 [] 0)).f3)))=true
            · try simp only[if_pos h5]
              exact callP_ok (ps:=[]) (os:=[]) (rs:=[(.oi 1)]) (by kernel_rfl) (.f f0 (.f f1 (.h 7 (.row [(.i ((getD a0 (Int.toNat a1) (K_R.mk 0 0 0 [] 0)).f0)),(.i ((getD a0 (Int.toNat a1) (K_R.mk 0 0 0 [] 0)).f1)),(.i ((getD a0 (Int.toNat a1) (K_R.mk 0 0 0 [] 0)).f2)),(.sl (map b_si ((getD a0 (Int.toNat a1) (K_R.mk 0 0 0 [] 0)).f3))),(.i ((getD a0 (Int.toNat a1) (K_R.mk 0 0 0 [] 0)).f4))]) (.r 19 [] [] f2 (.f (nt h0) (.f (nt h0) (.f (nt h0) (.f (nt h0) (.f (nt h0) (.h 24 (.b false) (.h 26 (.b false) (.h 28 (.b false) (.h 30 (.b false) (.h 32 (.b false) (.r 33 [] [] f8 (.f (nt h0) (.f (nt h0) (.f (nt h1) (.f (nt h1) (.f (nt h1) (.f (nt h1) (.f (nt h1) (.h 34 (.b false) (.h 37 (.b false) (.h 40 (.b false) (.h 42 (.b false) (.h 44 (.b false) (.h 46 (.b false) (.h 48 (.b false) (.r 49 [] [] f16 (.f (nt h1) (.f (nt h1) (.f (nt h2) (.f (nt h2) (.f (nt h2) (.f (nt h2) (.f (nt h2) (.h 50 (.b false) (.h 53 (.b false) (.h 56 (.b false) (.h 58 (.b false) (.h 60 (.b false) (.h 62 (.b false) (.h 64 (.b false) (.r 65 [] [] f24 (.f (nt h2) (.f (nt h2) (.f (nt h3) (.f (nt h4) (.f (nt h4) (.f (nt h4) (.f (nt h4) (.f (nt h4) (.h 66 (.b false) (.h 69 (.b false) (.h 70 (.b false) (.h 85 (.b false) (.h 87 (.b false) (.h 89 (.b false) (.h 91 (.b false) (.h 93 (.b false) (.r 94 [] [] f33 (.f (nt h4) (.f (nt h4) (.f h5 (.f h5 (.f h5 (.f h5 (.f h5 (.f h5 (.f h5 (.f h5 (.f h5 (.f h5 (.f h5 (.f h5 (.f h5 (.f h5 (.f h5 (.f h5 (.h 95 (.b false) (.h 98 (.b false) (.h 101 (.b true) (.h 103 (.b true) (.h 105 (.b true) (.h 107 (.b true) (.h 109 (.b true) (.h 111 (.b true) (.h 113 (.b true) (.h 115 (.b true) (.h 117 (.b true) (.h 119 (.b true) (.h 121 (.b true) (.h 123 (.b true) (.h 125 (.b true) (.h 127 (.b true) (.h 129 (.b true) (.h 132 (.b true) .nil))))))))))))))))))))))))))))))))))))))))))))))))))))))))))))))))))))))))))))))))))))))))))))))))))
            · try simp only[if_neg h5]
              have f41:Ev F X (.call 99 [(.one (.bor (l0_0+1) (map b_si ((getD a0 (Int.toNat a1) (K_R.mk 0 0 0 [] 0)).f3))))] [] [] [(.oi (m99 ((getD a0 (Int.toNat a1) (K_R.mk 0 0 0 [] 0)).f3)))]):=(e99 (a0:=((getD a0 (Int.toNat a1) (K_R.mk 0 0 0 [] 0)).f3)) (by have q:=gos_R (l:=a0) (by first | assumption |(intro z hz; exact(by assumption:∀z∈_,os_R z) z (List.mem_of_mem_take hz))) (Int.toNat a1) (K_R.mk 0 0 0 [] 0) (by simp[os_R,ByteArray.size]); first | exact q | exact q.1 | exact q.2 | exact q.2.1 | exact q.2.2 | exact Nat.le_trans q (by decide) | exact Nat.le_trans q.1 (by decide) |(have q1:=q.1; simp only[length_map]; omega)))
              by_cases h6:((IntKind.wrap .i64 ((m99 ((getD a0 (Int.toNat a1) (K_R.mk 0 0 0 [] 0)).f3))+((getD a0 (Int.toNat a1) (K_R.mk 0 0 0 [] 0)).f2))) !=((getD a0 (Int.toNat a1) (K_R.mk 0 0 0 [] 0)).f1))=true
              · try simp only[if_pos h6]
                exact callP_ok (ps:=[]) (os:=[]) (rs:=[(.oi 1)]) (by kernel_rfl) (.f f0 (.f f1 (.h 7 (.row [(.i ((getD a0 (Int.toNat a1) (K_R.mk 0 0 0 [] 0)).f0)),(.i ((getD a0 (Int.toNat a1) (K_R.mk 0 0 0 [] 0)).f1)),(.i ((getD a0 (Int.toNat a1) (K_R.mk 0 0 0 [] 0)).f2)),(.sl (map b_si ((getD a0 (Int.toNat a1) (K_R.mk 0 0 0 [] 0)).f3))),(.i ((getD a0 (Int.toNat a1) (K_R.mk 0 0 0 [] 0)).f4))]) (.r 19 [] [] f2 (.f (nt h0) (.f (nt h0) (.f (nt h0) (.f (nt h0) (.f (nt h0) (.h 24 (.b false) (.h 26 (.b false) (.h 28 (.b false) (.h 30 (.b false) (.h 32 (.b false) (.r 33 [] [] f8 (.f (nt h0) (.f (nt h0) (.f (nt h1) (.f (nt h1) (.f (nt h1) (.f (nt h1) (.f (nt h1) (.h 34 (.b false) (.h 37 (.b false) (.h 40 (.b false) (.h 42 (.b false) (.h 44 (.b false) (.h 46 (.b false) (.h 48 (.b false) (.r 49 [] [] f16 (.f (nt h1) (.f (nt h1) (.f (nt h2) (.f (nt h2) (.f (nt h2) (.f (nt h2) (.f (nt h2) (.h 50 (.b false) (.h 53 (.b false) (.h 56 (.b false) (.h 58 (.b false) (.h 60 (.b false) (.h 62 (.b false) (.h 64 (.b false) (.r 65 [] [] f24 (.f (nt h2) (.f (nt h2) (.f (nt h3) (.f (nt h4) (.f (nt h4) (.f (nt h4) (.f (nt h4) (.f (nt h4) (.h 66 (.b false) (.h 69 (.b false) (.h 70 (.b false) (.h 85 (.b false) (.h 87 (.b false) (.h 89 (.b false) (.h 91 (.b false) (.h 93 (.b false) (.r 94 [] [] f33 (.f (nt h4) (.f (nt h4) (.f (nt h5) (.f (nt h5) (.f (nt h5) (.f (nt h5) (.f (nt h5) (.h 95 (.b false) (.h 98 (.b false) (.h 101 (.b false) (.h 103 (.b false) (.h 105 (.b false) (.h 107 (.b false) (.h 109 (.b false) (.r 110 [] [] f41 (.f (nt h5) (.f (nt h5) (.f (nt h5) (.f (nt h5) (.f (nt h5) (.f trivial (.f (nt h5) (.f (nt h5) (.f (nt h5) (.f (nt h5) (.f (nt h5) (.f (nt h5) (.f h6 (.h 111 (.b false) (.h 113 (.b false) (.h 115 (.b false) (.h 117 (.b false) (.h 119 (.b false) (.h 121 (.b false) (.h 123 (.b false) (.h 125 (.b false) (.h 127 (.b false) (.h 129 (.b false) (.h 132 (.b false) (.h 133 (.b true) .nil))))))))))))))))))))))))))))))))))))))))))))))))))))))))))))))))))))))))))))))))))))))))))))))))))))))
              · try simp only[if_neg h6]
                have f55:(0≤(0:Int)∧(0:Int)≤a1∧a1≤((length (map b_R a0)):Int))∧∀r∈((map b_R a0):List (List B)),r.length=5:=(by refine⟨?_,lenB_R _⟩; simp only[length_map,length_set,length_append,length_replicate,length_cons,length_nil]; omega)
                have f56:Ev F X (.call 124 [(.one (.bor (l0_0+1) (take (Int.toNat a1 - Int.toNat 0) (drop 0 (map b_R a0))))),(.oi ((getD a0 (Int.toNat a1) (K_R.mk 0 0 0 [] 0)).f0))] [] [] [(.oi (m124 (take (Int.toNat a1) a0) ((getD a0 (Int.toNat a1) (K_R.mk 0 0 0 [] 0)).f0)))]):=(by rw[show (take (Int.toNat a1 - Int.toNat 0) (drop 0 (map b_R a0)))=(map b_R (take (Int.toNat a1) a0)) from by first | rfl |(simp[map_take,map_drop]; done) |(simp[byteRows_eq,map_take,map_drop]; done) |(simp[*,map_take,map_drop]; done) |(rw[take_of_length_le (by simp only[length_drop,length_take,length_map,Int.toNat_natCast]; omega)]; simp only[← map_drop,← map_take])]; exact(e124 (a0:=(take (Int.toNat a1) a0)) (a1:=((getD a0 (Int.toNat a1) (K_R.mk 0 0 0 [] 0)).f0)) (by simp only[length_take]; omega) (by intro z hz; exact os_ok_R z ((by assumption:∀z∈_,os_R z) z (List.mem_of_mem_take hz)))))
                by_cases h7:(decide ((m124 (take (Int.toNat a1) a0) ((getD a0 (Int.toNat a1) (K_R.mk 0 0 0 [] 0)).f0))≥0))=true
                · try simp only[if_pos h7]
                  exact callP_ok (ps:=[]) (os:=[]) (rs:=[(.oi 6)]) (by kernel_rfl) (.f f0 (.f f1 (.h 7 (.row [(.i ((getD a0 (Int.toNat a1) (K_R.mk 0 0 0 [] 0)).f0)),(.i ((getD a0 (Int.toNat a1) (K_R.mk 0 0 0 [] 0)).f1)),(.i ((getD a0 (Int.toNat a1) (K_R.mk 0 0 0 [] 0)).f2)),(.sl (map b_si ((getD a0 (Int.toNat a1) (K_R.mk 0 0 0 [] 0)).f3))),(.i ((getD a0 (Int.toNat a1) (K_R.mk 0 0 0 [] 0)).f4))]) (.r 19 [] [] f2 (.f (nt h0) (.f (nt h0) (.f (nt h0) (.f (nt h0) (.f (nt h0) (.h 24 (.b false) (.h 26 (.b false) (.h 28 (.b false) (.h 30 (.b false) (.h 32 (.b false) (.r 33 [] [] f8 (.f (nt h0) (.f (nt h0) (.f (nt h1) (.f (nt h1) (.f (nt h1) (.f (nt h1) (.f (nt h1) (.h 34 (.b false) (.h 37 (.b false) (.h 40 (.b false) (.h 42 (.b false) (.h 44 (.b false) (.h 46 (.b false) (.h 48 (.b false) (.r 49 [] [] f16 (.f (nt h1) (.f (nt h1) (.f (nt h2) (.f (nt h2) (.f (nt h2) (.f (nt h2) (.f (nt h2) (.h 50 (.b false) (.h 53 (.b false) (.h 56 (.b false) (.h 58 (.b false) (.h 60 (.b false) (.h 62 (.b false) (.h 64 (.b false) (.r 65 [] [] f24 (.f (nt h2) (.f (nt h2) (.f (nt h3) (.f (nt h4) (.f (nt h4) (.f (nt h4) (.f (nt h4) (.f (nt h4) (.h 66 (.b false) (.h 69 (.b false) (.h 70 (.b false) (.h 85 (.b false) (.h 87 (.b false) (.h 89 (.b false) (.h 91 (.b false) (.h 93 (.b false) (.r 94 [] [] f33 (.f (nt h4) (.f (nt h4) (.f (nt h5) (.f (nt h5) (.f (nt h5) (.f (nt h5) (.f (nt h5) (.h 95 (.b false) (.h 98 (.b false) (.h 101 (.b false) (.h 103 (.b false) (.h 105 (.b false) (.h 107 (.b false) (.h 109 (.b false) (.r 110 [] [] f41 (.f (nt h5) (.f (nt h5) (.f (nt h5) (.f (nt h5) (.f (nt h5) (.f trivial (.f (nt h5) (.f (nt h5) (.f (nt h5) (.f (nt h5) (.f (nt h5) (.f (nt h5) (.f (nt h6) (.f f55 (.h 111 (.b false) (.h 113 (.b false) (.h 115 (.b false) (.h 117 (.b false) (.h 119 (.b false) (.h 121 (.b false) (.h 123 (.b false) (.h 125 (.b false) (.h 127 (.b false) (.h 129 (.b false) (.h 132 (.b false) (.h 133 (.b false) (.r 149 [] [] f56 (.f h7 (.h 152 (.b true) .nil))))))))))))))))))))))))))))))))))))))))))))))))))))))))))))))))))))))))))))))))))))))))))))))))))))))))))
                · try simp only[if_neg h7]
                  exact callP_ok (ps:=[]) (os:=[]) (rs:=[(.oi 0)]) (by kernel_rfl) (.f f0 (.f f1 (.h 7 (.row [(.i ((getD a0 (Int.toNat a1) (K_R.mk 0 0 0 [] 0)).f0)),(.i ((getD a0 (Int.toNat a1) (K_R.mk 0 0 0 [] 0)).f1)),(.i ((getD a0 (Int.toNat a1) (K_R.mk 0 0 0 [] 0)).f2)),(.sl (map b_si ((getD a0 (Int.toNat a1) (K_R.mk 0 0 0 [] 0)).f3))),(.i ((getD a0 (Int.toNat a1) (K_R.mk 0 0 0 [] 0)).f4))]) (.r 19 [] [] f2 (.f (nt h0) (.f (nt h0) (.f (nt h0) (.f (nt h0) (.f (nt h0) (.h 24 (.b false) (.h 26 (.b false) (.h 28 (.b false) (.h 30 (.b false) (.h 32 (.b false) (.r 33 [] [] f8 (.f (nt h0) (.f (nt h0) (.f (nt h1) (.f (nt h1) (.f (nt h1) (.f (nt h1) (.f (nt h1) (.h 34 (.b false) (.h 37 (.b false) (.h 40 (.b false) (.h 42 (.b false) (.h 44 (.b false) (.h 46 (.b false) (.h 48 (.b false) (.r 49 [] [] f16 (.f (nt h1) (.f (nt h1) (.f (nt h2) (.f (nt h2) (.f (nt h2) (.f (nt h2) (.f (nt h2) (.h 50 (.b false) (.h 53 (.b false) (.h 56 (.b false) (.h 58 (.b false) (.h 60 (.b false) (.h 62 (.b false) (.h 64 (.b false) (.r 65 [] [] f24 (.f (nt h2) (.f (nt h2) (.f (nt h3) (.f (nt h4) (.f (nt h4) (.f (nt h4) (.f (nt h4) (.f (nt h4) (.h 66 (.b false) (.h 69 (.b false) (.h 70 (.b false) (.h 85 (.b false) (.h 87 (.b false) (.h 89 (.b false) (.h 91 (.b false) (.h 93 (.b false) (.r 94 [] [] f33 (.f (nt h4) (.f (nt h4) (.f (nt h5) (.f (nt h5) (.f (nt h5) (.f (nt h5) (.f (nt h5) (.h 95 (.b false) (.h 98 (.b false) (.h 101 (.b false) (.h 103 (.b false) (.h 105 (.b false) (.h 107 (.b false) (.h 109 (.b false) (.r 110 [] [] f41 (.f (nt h5) (.f (nt h5) (.f (nt h5) (.f (nt h5) (.f (nt h5) (.f trivial (.f (nt h5) (.f (nt h5) (.f (nt h5) (.f (nt h5) (.f (nt h5) (.f (nt h5) (.f (nt h6) (.f f55 (.h 111 (.b false) (.h 113 (.b false) (.h 115 (.b false) (.h 117 (.b false) (.h 119 (.b false) (.h 121 (.b false) (.h 123 (.b false) (.h 125 (.b false) (.h 127 (.b false) (.h 129 (.b false) (.h 132 (.b false) (.h 133 (.b false) (.r 149 [] [] f56 (.f (nt h7) (.h 152 (.b false) .nil))))))))))))))))))))))))))))))))))))))))))))))))))))))))))))))))))))))))))))))))))))))))))))))))))))))))))
/-! loop 100_0 -/
inductive O100_0 where
  |k0 (w0:Int) (w1:Int) (w2:Bool)
def r100_0 (a0:(List K_R)) (a1:Bool):List K_R→Int→Int→O100_0
  |x0::y0,i,v0=>
    if(!a1)=true then(r100_0 a0 a1 y0 (i+1) (IntKind.wrap .i64 (v0+x0.f1))) else
    if(x0.f4==2)=true then(r100_0 a0 a1 y0 (i+1) (IntKind.wrap .i64 (v0+x0.f1))) else
      (r100_0 a0 a1 y0 (i+1) v0)
  |[],i,v0=>(O100_0.k0 v0 i (decide (i <((length (map b_R a0)):Int))))
def h100_0 (l0_0:Nat) (a0:(List K_R)) (a1:Bool) (i:Int) (v0:Int):St:=⟨[(0,(.one (.bor l0_0 (map b_R a0)))),(1,(.one (.val (.bool a1)))),(5,(.one (.val (.int .i64 v0)))),(6,(.one (.val (.int .i64 i))))],[]⟩
def ex100_0:O100_0→VX.Exit
  |.k0 _ _ _=>(.exit 0)
def fin100_0 (l0_0:Nat) (a0:(List K_R)) (a1:Bool):O100_0→St
  |.k0 w0 w1 w2=>⟨[(0,(.one (.bor l0_0 (map b_R a0)))),(1,(.one (.val (.bool a1)))),(5,(.one (.val (.int .i64 w0)))),(6,(.one (.val (.int .i64 w1)))),(10,(.one (.val (.bool w2))))],[]⟩
theorem t100_0 {l0_0:Nat} {a0:(List K_R)} {a1:Bool} (hy0:length a0*56≤140737488351232) (hy1:∀z∈a0,ok_R z):∀(y0:List K_R) (p:List K_R) (v0:Int),p++y0=a0→Ev F X (.code l100_0 (h100_0 l0_0 a0 a1 (length p:Int) v0) (ex100_0 (r100_0 a0 a1 y0 (length p:Int) v0)) (fin100_0 l0_0 a0 a1 (r100_0 a0 a1 y0 (length p:Int) v0)))
  |[],p,v0,hp0=>by
    have hc:¬(decide ((length p:Int) <((length (map b_R a0)):Int)))=true:=by
      rw[← hp0]; simp only[length_map,length_set,length_append,length_replicate,length_cons,length_nil,decide_eq_true_eq]; omega
    have st:=codeH_ok (F:=F) (X:=X) (c:=b100_0) (t:=0) (hs:=[(8,.b false)]) (σ:=h100_0 l0_0 a0 a1 (length p:Int) v0) (σ':=fin100_0 l0_0 a0 a1 (.k0 v0 (length p:Int) (decide ((length p:Int) <((length (map b_R a0)):Int))))) (e:=(.exit 0)) (t':=9) (hs':=[]) (q:=[(decide ((length p:Int) <((length (map b_R a0)):Int)))=false]) (by kernel_rfl) ⟨(nt hc),trivial⟩
    exact .loopX st (show ((.exit 0):VX.Exit)≠.normal from by simp)
  |x0::y0,p,v0,hp0=>by
    have hc:(decide ((length p:Int) <((length (map b_R a0)):Int)))=true:=by
      rw[← hp0]; simp only[length_map,length_set,length_append,length_replicate,length_cons,length_nil,decide_eq_true_eq]; omega
    have Hx0:(a0)[Int.toNat (length p:Int)]?=some x0:=by
      rw[← hp0,Int.toNat_natCast]; simp
    have Mx0_0:=hy1 x0 (List.mem_of_getElem? Hx0)
    have hlen:length (a0)=length p+length y0+1:=by rw[← hp0]; simp; omega
    have hw:IntKind.wrap .i64 ((length p:Int)+1)=(length p:Int)+1:=wrap64 (by omega)
    simp only[r100_0]
    by_cases h_1:(!a1)=true
    · try simp only[if_pos h_1]
      have st:=codeH_ok (F:=F) (X:=X) (c:=b100_0) (t:=0) (hs:=[(8,.b true),(15,.b true),(17,.b true),(19,.b true),(21,.b true),(23,.b true),(25,.b true),(28,.b true),(37,.row [(.i x0.f0),(.i x0.f1),(.i x0.f2),(.sl (map b_si x0.f3)),(.i x0.f4)])]) (σ:=h100_0 l0_0 a0 a1 (length p:Int) v0) (σ':=⟨[(0,(.one (.bor l0_0 (map b_R a0)))),(1,(.one (.val (.bool a1)))),(5,(.oi (IntKind.wrap .i64 (v0+x0.f1)))),(6,(.oi (IntKind.wrap .i64 ((length p:Int)+1))))],[]⟩) (e:=.normal) (t':=52) (hs':=[]) (q:=[(decide ((length p:Int) <((length (map b_R a0)):Int)))=true,(!a1)=true,(!a1)=true,(!a1)=true,(!a1)=true,(!a1)=true,(!a1)=true,(!a1)=true,0≤(length p:Int),(map b_R a0)[(Int.toNat (length p:Int))]?=some [(.i x0.f0),(.i x0.f1),(.i x0.f2),(.sl (map b_si x0.f3)),(.i x0.f4)],True,True]) (by kernel_rfl) ⟨hc,h_1,h_1,h_1,h_1,h_1,h_1,h_1,(by omega),(by rw[getElem?_map,Hx0]; rfl),trivial,trivial,trivial⟩
      have ih:=t100_0 (l0_0:=l0_0) (a0:=a0) (a1:=a1) hy0 hy1 y0 (p++ [x0]) (IntKind.wrap .i64 (v0+x0.f1)) (by rw[append_assoc]; exact hp0)
      rw[show ((p++ [x0]).length:Int)=(p.length:Int)+1 from by simp] at ih
      rw[show (⟨[(0,(.one (.bor l0_0 (map b_R a0)))),(1,(.one (.val (.bool a1)))),(5,(.oi (IntKind.wrap .i64 (v0+x0.f1)))),(6,(.oi (IntKind.wrap .i64 ((length p:Int)+1))))],[]⟩:St)=h100_0 l0_0 a0 a1 ((length p:Int)+1) (IntKind.wrap .i64 (v0+x0.f1)) from(by unfold h100_0; simp only[hw]; done)] at st
      exact .loopN st ih
    · try simp only[if_neg h_1]
      by_cases h_2:(x0.f4==2)=true
      · try simp only[if_pos h_2]
        have st:=codeH_ok (F:=F) (X:=X) (c:=b100_0) (t:=0) (hs:=[(8,.b true),(15,.b false),(17,.b false),(19,.b false),(20,.row [(.i x0.f0),(.i x0.f1),(.i x0.f2),(.sl (map b_si x0.f3)),(.i x0.f4)]),(21,.b false),(23,.b false),(25,.b false),(28,.b false),(29,.b true),(37,.row [(.i x0.f0),(.i x0.f1),(.i x0.f2),(.sl (map b_si x0.f3)),(.i x0.f4)])]) (σ:=h100_0 l0_0 a0 a1 (length p:Int) v0) (σ':=⟨[(0,(.one (.bor l0_0 (map b_R a0)))),(1,(.one (.val (.bool a1)))),(5,(.oi (IntKind.wrap .i64 (v0+x0.f1)))),(6,(.oi (IntKind.wrap .i64 ((length p:Int)+1))))],[]⟩) (e:=.normal) (t':=52) (hs':=[]) (q:=[(decide ((length p:Int) <((length (map b_R a0)):Int)))=true,(!a1)=false,(!a1)=false,(!a1)=false,0≤(length p:Int),(map b_R a0)[(Int.toNat (length p:Int))]?=some [(.i x0.f0),(.i x0.f1),(.i x0.f2),(.sl (map b_si x0.f3)),(.i x0.f4)],(!a1)=false,(!a1)=false,(!a1)=false,(!a1)=false,(x0.f4==2)=true,0≤(length p:Int),(map b_R a0)[(Int.toNat (length p:Int))]?=some [(.i x0.f0),(.i x0.f1),(.i x0.f2),(.sl (map b_si x0.f3)),(.i x0.f4)],True,True]) (by kernel_rfl) ⟨hc,(nt h_1),(nt h_1),(nt h_1),(by omega),(by rw[getElem?_map,Hx0]; rfl),(nt h_1),(nt h_1),(nt h_1),(nt h_1),h_2,(by omega),(by rw[getElem?_map,Hx0]; rfl),trivial,trivial,trivial⟩
        have ih:=t100_0 (l0_0:=l0_0) (a0:=a0) (a1:=a1) hy0 hy1 y0 (p++ [x0]) (IntKind.wrap .i64 (v0+x0.f1)) (by rw[append_assoc]; exact hp0)
        rw[show ((p++ [x0]).length:Int)=(p.length:Int)+1 from by simp] at ih
        rw[show (⟨[(0,(.one (.bor l0_0 (map b_R a0)))),(1,(.one (.val (.bool a1)))),(5,(.oi (IntKind.wrap .i64 (v0+x0.f1)))),(6,(.oi (IntKind.wrap .i64 ((length p:Int)+1))))],[]⟩:St)=h100_0 l0_0 a0 a1 ((length p:Int)+1) (IntKind.wrap .i64 (v0+x0.f1)) from(by unfold h100_0; simp only[hw]; done)] at st
        exact .loopN st ih
      · try simp only[if_neg h_2]
        have st:=codeH_ok (F:=F) (X:=X) (c:=b100_0) (t:=0) (hs:=[(8,.b true),(15,.b false),(17,.b false),(19,.b false),(20,.row [(.i x0.f0),(.i x0.f1),(.i x0.f2),(.sl (map b_si x0.f3)),(.i x0.f4)]),(21,.b false),(23,.b false),(25,.b false),(28,.b false),(29,.b false)]) (σ:=h100_0 l0_0 a0 a1 (length p:Int) v0) (σ':=⟨[(0,(.one (.bor l0_0 (map b_R a0)))),(1,(.one (.val (.bool a1)))),(5,(.oi v0)),(6,(.oi (IntKind.wrap .i64 ((length p:Int)+1))))],[]⟩) (e:=.normal) (t':=36) (hs':=[]) (q:=[(decide ((length p:Int) <((length (map b_R a0)):Int)))=true,(!a1)=false,(!a1)=false,(!a1)=false,0≤(length p:Int),(map b_R a0)[(Int.toNat (length p:Int))]?=some [(.i x0.f0),(.i x0.f1),(.i x0.f2),(.sl (map b_si x0.f3)),(.i x0.f4)],(!a1)=false,(!a1)=false,(!a1)=false,(!a1)=false,(x0.f4==2)=false,True]) (by kernel_rfl) ⟨hc,(nt h_1),(nt h_1),(nt h_1),(by omega),(by rw[getElem?_map,Hx0]; rfl),(nt h_1),(nt h_1),(nt h_1),(nt h_1),(nt h_2),trivial,trivial⟩
        have ih:=t100_0 (l0_0:=l0_0) (a0:=a0) (a1:=a1) hy0 hy1 y0 (p++ [x0]) v0 (by rw[append_assoc]; exact hp0)
        rw[show ((p++ [x0]).length:Int)=(p.length:Int)+1 from by simp] at ih
        rw[show (⟨[(0,(.one (.bor l0_0 (map b_R a0)))),(1,(.one (.val (.bool a1)))),(5,(.oi v0)),(6,(.oi (IntKind.wrap .i64 ((length p:Int)+1))))],[]⟩:St)=h100_0 l0_0 a0 a1 ((length p:Int)+1) v0 from(by unfold h100_0; simp only[hw]; done)] at st
        exact .loopN st ih
/-! loop.example/g00539/spec.l14Totals -/
def m100 (a0:(List K_R)) (a1:Bool):Int:=
  (match r100_0 a0 a1 a0 0 0 with | .k0 w0_0 w1_0 w2_0=>w0_0)
theorem e100 {l0_0:Nat} {a0:(List K_R)} {a1:Bool} (hy0:length a0*56≤140737488351232) (hy1:∀z∈a0,ok_R z):Ev F X (.call 100 [(.one (.bor l0_0 (map b_R a0))),(.one (.val (.bool a1)))] [] [] [(.one (.val (.int .i64 (m100 a0 a1))))]):=by
  unfold m100
  cases h0:r100_0 a0 a1 a0 0 0 with
  |k0 w0_0 w1_0 w2_0=>
    try dsimp only
    have f0:(⟨[(0,(.one (.bor l0_0 (map b_R a0)))),(1,(.one (.val (.bool a1)))),(5,(.oi 0)),(6,(.oi 0))],[]⟩:St)=h100_0 l0_0 a0 a1 0 0:=(by rfl)
    have f1:Ev F X (.code l100_0 (h100_0 l0_0 a0 a1 0 0) (.exit 0) ⟨[(0,(.one (.bor l0_0 (map b_R a0)))),(1,(.one (.val (.bool a1)))),(5,(.oi w0_0)),(6,(.oi w1_0)),(10,(.one (.val (.bool w2_0))))],[]⟩):=(by have t:Ev F X (.code l100_0 (h100_0 l0_0 a0 a1 0 0) (ex100_0 (r100_0 a0 a1 a0 0 0)) (fin100_0 l0_0 a0 a1 (r100_0 a0 a1 a0 0 0))):=t100_0 (l0_0:=l0_0) (a0:=a0) (a1:=a1) (by assumption) (by assumption) a0 [] 0 rfl; rw[h0] at t; exact t)
    exact callP_ok (ps:=[]) (os:=[]) (rs:=[(.oi w0_0)]) (by kernel_rfl) (.f f0 (.f f1 (.h 6 (.loop (h100_0 l0_0 a0 a1 0 0) (.exit 0) ⟨[(0,(.one (.bor l0_0 (map b_R a0)))),(1,(.one (.val (.bool a1)))),(5,(.oi w0_0)),(6,(.oi w1_0)),(10,(.one (.val (.bool w2_0))))],[]⟩) .nil)))
/-! loop 51_0 -/
inductive O51_0 where
  |k0 (w0:Int) (w1:Bool)
  |k1 (w0:Int)
def r51_0 (a0:K_B):List K_R→Int→O51_0
  |x0::y0,i=>
    if((m97 a0.f3 i) !=0)=true then(O51_0.k1 (m97 a0.f3 i)) else
    (r51_0 a0 y0 (i+1))
  |[],i=>(O51_0.k0 i (decide (i <((length (map b_R a0.f3)):Int))))
def h51_0 (l0:Nat) (a0:K_B) (i:Int) :St:=⟨[(0,(.bptr l0 [(.val (.int .i64 a0.f0)),(.val (.int .i64 a0.f1)),(.sl (map b_si a0.f2)),(.sl (map b_R a0.f3)),(.sl (map b_si a0.f4)),(.val (.int .i64 a0.f5)),(.val (.int .i64 a0.f6)),(.val (.int .i64 a0.f7))])),(4,(.one (.val (.int .i64 i))))],[]⟩
def ex51_0:O51_0→VX.Exit
  |.k0 _ _=>(.exit 0)
  |.k1 _=>.ret
def fin51_0 (l0:Nat) (a0:K_B):O51_0→St
  |.k0 w0 w1=>⟨[(0,(.bptr l0 [(.val (.int .i64 a0.f0)),(.val (.int .i64 a0.f1)),(.sl (map b_si a0.f2)),(.sl (map b_R a0.f3)),(.sl (map b_si a0.f4)),(.val (.int .i64 a0.f5)),(.val (.int .i64 a0.f6)),(.val (.int .i64 a0.f7))])),(4,(.one (.val (.int .i64 w0)))),(49,(.one (.val (.bool w1))))],[]⟩
  |.k1 w0=>⟨[(2,(.one (.val (.int .i64 w0))))],[]⟩
theorem t51_0 {l0:Nat} {a0:K_B} (hy0:length a0.f2*24≤140737488351232) (hy1:∀z∈a0.f2,os_si z) (hy2:length a0.f3*56≤140737488351232) (hy3:∀z∈a0.f3,os_R z) (hy4:length a0.f4*24≤140737488351232) (hy5:∀z∈a0.f4,os_si z):∀(y0:List K_R) (p:List K_R),p++y0=a0.f3→Ev F X (.code l51_0 (h51_0 l0 a0 (length p:Int)) (ex51_0 (r51_0 a0 y0 (length p:Int))) (fin51_0 l0 a0 (r51_0 a0 y0 (length p:Int))))
  |[],p,hp0=>by
    have hc:¬(decide ((length p:Int) <((length (map b_R a0.f3)):Int)))=true:=by
      rw[← hp0]; simp only[length_map,length_set,length_append,length_replicate,length_cons,length_nil,decide_eq_true_eq]; omega
    have st:=codeH_ok (F:=F) (X:=X) (c:=b51_0) (t:=0) (hs:=[(14,.b false)]) (σ:=h51_0 l0 a0 (length p:Int)) (σ':=fin51_0 l0 a0 (.k0 (length p:Int) (decide ((length p:Int) <((length (map b_R a0.f3)):Int))))) (e:=(.exit 0)) (t':=15) (hs':=[]) (q:=[(decide ((length p:Int) <((length (map b_R a0.f3)):Int)))=false]) (by kernel_rfl) ⟨(nt hc),trivial⟩
    exact .loopX st (show ((.exit 0):VX.Exit)≠.normal from by simp)
  |x0::y0,p,hp0=>by
    have hc:(decide ((length p:Int) <((length (map b_R a0.f3)):Int)))=true:=by
      rw[← hp0]; simp only[length_map,length_set,length_append,length_replicate,length_cons,length_nil,decide_eq_true_eq]; omega
    have Hx0:(a0.f3)[Int.toNat (length p:Int)]?=some x0:=by
      rw[← hp0,Int.toNat_natCast]; simp
    obtain⟨Mx0_0,Mx0_1⟩:=hy3 x0 (List.mem_of_getElem? Hx0)
    have hlen:length (a0.f3)=length p+length y0+1:=by rw[← hp0]; simp; omega
    have hw:IntKind.wrap .i64 ((length p:Int)+1)=(length p:Int)+1:=wrap64 (by omega)
    simp only[r51_0]
    by_cases h_1:((m97 a0.f3 (length p:Int)) !=0)=true
    · try simp only[if_pos h_1]
      have st:=codeH_ok (F:=F) (X:=X) (c:=b51_0) (t:=0) (hs:=[(14,.b true),(26,.ret [] [(.oi (m97 a0.f3 (length p:Int)))] [] []),(33,.b true)]) (σ:=h51_0 l0 a0 (length p:Int)) (σ':=fin51_0 l0 a0 (.k1 (m97 a0.f3 (length p:Int)))) (e:=.ret) (t':=38) (hs':=[]) (q:=[(decide ((length p:Int) <((length (map b_R a0.f3)):Int)))=true,Ev F X (.call 97 [(.one (.bor (l0+1) (map b_R a0.f3))),(.oi (length p:Int))] [] [] [(.oi (m97 a0.f3 (length p:Int)))]),((m97 a0.f3 (length p:Int)) !=0)=true]) (by kernel_rfl) ⟨hc,(e97 (a0:=a0.f3) (a1:=(length p:Int)) (by with_reducible assumption) (by with_reducible assumption) (by omega) (by omega)),h_1,trivial⟩
      exact .loopX st (show (.ret:VX.Exit)≠.normal from by simp)
    · try simp only[if_neg h_1]
      have st:=codeH_ok (F:=F) (X:=X) (c:=b51_0) (t:=0) (hs:=[(14,.b true),(26,.ret [] [(.oi (m97 a0.f3 (length p:Int)))] [] []),(33,.b false)]) (σ:=h51_0 l0 a0 (length p:Int)) (σ':=⟨[(0,(.bptr l0 [(.i a0.f0),(.i a0.f1),(.sl (map b_si a0.f2)),(.sl (map b_R a0.f3)),(.sl (map b_si a0.f4)),(.i a0.f5),(.i a0.f6),(.i a0.f7)])),(4,(.oi (IntKind.wrap .i64 ((length p:Int)+1))))],[]⟩) (e:=.normal) (t':=40) (hs':=[]) (q:=[(decide ((length p:Int) <((length (map b_R a0.f3)):Int)))=true,Ev F X (.call 97 [(.one (.bor (l0+1) (map b_R a0.f3))),(.oi (length p:Int))] [] [] [(.oi (m97 a0.f3 (length p:Int)))]),((m97 a0.f3 (length p:Int)) !=0)=false,True]) (by kernel_rfl) ⟨hc,(e97 (a0:=a0.f3) (a1:=(length p:Int)) (by with_reducible assumption) (by with_reducible assumption) (by omega) (by omega)),(nt h_1),trivial,trivial⟩
      have ih:=t51_0 (l0:=l0) (a0:=a0) hy0 hy1 hy2 hy3 hy4 hy5 y0 (p++ [x0]) (by rw[append_assoc]; exact hp0)
      rw[show ((p++ [x0]).length:Int)=(p.length:Int)+1 from by simp] at ih
      rw[show (⟨[(0,(.bptr l0 [(.i a0.f0),(.i a0.f1),(.sl (map b_si a0.f2)),(.sl (map b_R a0.f3)),(.sl (map b_si a0.f4)),(.i a0.f5),(.i a0.f6),(.i a0.f7)])),(4,(.oi (IntKind.wrap .i64 ((length p:Int)+1))))],[]⟩:St)=h51_0 l0 a0 ((length p:Int)+1)  from(by unfold h51_0; simp only[hw]; done)] at st
      exact .loopN st ih
/-! loop.example/g00539/spec.l14Fault -/
def m51 (a0:K_B):Int:=
  if(!(m95 a0))=true then 3 else
  if((m96 a0.f2) !=0)=true then(m96 a0.f2) else
    if(decide (((length (map b_si a0.f2)):Int) > a0.f0))=true then 2 else
      if(decide (((length (map b_R a0.f3)):Int) > 6))=true then 2 else
        if(decide (((length (map b_si a0.f4)):Int) > 8))=true then 2 else
          (match r51_0 a0 a0.f3 0 with | .k0 w0_19 w1_19=>(if(!(m98 a0.f4))=true then 1 else if((IntKind.wrap .i64 ((IntKind.wrap .i64 ((m99 a0.f4)+a0.f6))+a0.f5)) !=(IntKind.wrap .i64 ((m100 a0.f3 true)+a0.f7)))=true then 7 else if(!(m105 (m100 a0.f3 false) 0 1000000))=true then 7 else 0) | .k1 w0_19=>w0_19)
theorem e51 {l0:Nat} {a0:K_B} (hy0:length a0.f2*24≤140737488351232) (hy1:∀z∈a0.f2,os_si z) (hy2:length a0.f3*56≤140737488351232) (hy3:∀z∈a0.f3,os_R z) (hy4:length a0.f4*24≤140737488351232) (hy5:∀z∈a0.f4,os_si z):Ev F X (.call 51 [(.bptr l0 [(.val (.int .i64 a0.f0)),(.val (.int .i64 a0.f1)),(.sl (map b_si a0.f2)),(.sl (map b_R a0.f3)),(.sl (map b_si a0.f4)),(.val (.int .i64 a0.f5)),(.val (.int .i64 a0.f6)),(.val (.int .i64 a0.f7))])] [] [] [(.one (.val (.int .i64 (m51 a0))))]):=by
  unfold m51
  have f0:Ev F X (.call 95 [(.bptr (l0+1) [(.i a0.f0),(.i a0.f1),(.sl (map b_si a0.f2)),(.sl (map b_R a0.f3)),(.sl (map b_si a0.f4)),(.i a0.f5),(.i a0.f6),(.i a0.f7)])] [] [] [(.one (.val (.bool (m95 a0))))]):=(e95 (a0:=a0))
  by_cases h0:(!(m95 a0))=true
  · try simp only[if_pos h0]
    exact callP_ok (ps:=[]) (os:=[]) (rs:=[(.oi 3)]) (by kernel_rfl) (.r 5 [] [] f0 (.f h0 (.h 8 (.b true) .nil)))
  · try simp only[if_neg h0]
    have f2:Ev F X (.call 96 [(.one (.bor (l0+1) (map b_si a0.f2)))] [] [] [(.oi (m96 a0.f2))]):=(e96 (a0:=a0.f2) (by with_reducible assumption) (by with_reducible assumption))
    by_cases h1:((m96 a0.f2) !=0)=true
    · try simp only[if_pos h1]
      exact callP_ok (ps:=[]) (os:=[]) (rs:=[(.oi (m96 a0.f2))]) (by kernel_rfl) (.r 5 [] [] f0 (.f (nt h0) (.h 8 (.b false) (.r 18 [] [] f2 (.f h1 (.h 25 (.b true) .nil))))))
    · try simp only[if_neg h1]
      by_cases h2:(decide (((length (map b_si a0.f2)):Int) > a0.f0))=true
      · try simp only[if_pos h2]
        exact callP_ok (ps:=[]) (os:=[]) (rs:=[(.oi 2)]) (by kernel_rfl) (.r 5 [] [] f0 (.f (nt h0) (.h 8 (.b false) (.r 18 [] [] f2 (.f (nt h1) (.f h2 (.f h2 (.f h2 (.f h2 (.f h2 (.f h2 (.f h2 (.h 25 (.b false) (.h 48 (.b true) (.h 50 (.b true) (.h 52 (.b true) (.h 54 (.b true) (.h 56 (.b true) (.h 58 (.b true) (.h 61 (.b true) .nil))))))))))))))))))))
      · try simp only[if_neg h2]
        by_cases h3:(decide (((length (map b_R a0.f3)):Int) > 6))=true
        · try simp only[if_pos h3]
          exact callP_ok (ps:=[]) (os:=[]) (rs:=[(.oi 2)]) (by kernel_rfl) (.r 5 [] [] f0 (.f (nt h0) (.h 8 (.b false) (.r 18 [] [] f2 (.f (nt h1) (.f (nt h2) (.f (nt h2) (.f (nt h2) (.f (nt h2) (.f (nt h2) (.f (nt h2) (.f (nt h2) (.f h3 (.f h3 (.f h3 (.f h3 (.f h3 (.f h3 (.f h3 (.h 25 (.b false) (.h 48 (.b false) (.h 50 (.b false) (.h 52 (.b false) (.h 54 (.b false) (.h 56 (.b false) (.h 58 (.b false) (.h 61 (.b false) (.h 64 (.b true) (.h 66 (.b true) (.h 68 (.b true) (.h 70 (.b true) (.h 72 (.b true) (.h 74 (.b true) (.h 77 (.b true) .nil))))))))))))))))))))))))))))))))))
        · try simp only[if_neg h3]
          by_cases h4:(decide (((length (map b_si a0.f4)):Int) > 8))=true
          · try simp only[if_pos h4]
            exact callP_ok (ps:=[]) (os:=[]) (rs:=[(.oi 2)]) (by kernel_rfl) (.r 5 [] [] f0 (.f (nt h0) (.h 8 (.b false) (.r 18 [] [] f2 (.f (nt h1) (.f (nt h2) (.f (nt h2) (.f (nt h2) (.f (nt h2) (.f (nt h2) (.f (nt h2) (.f (nt h2) (.f (nt h3) (.f (nt h3) (.f (nt h3) (.f (nt h3) (.f (nt h3) (.f (nt h3) (.f (nt h3) (.f h4 (.h 25 (.b false) (.h 48 (.b false) (.h 50 (.b false) (.h 52 (.b false) (.h 54 (.b false) (.h 56 (.b false) (.h 58 (.b false) (.h 61 (.b false) (.h 64 (.b false) (.h 66 (.b false) (.h 68 (.b false) (.h 70 (.b false) (.h 72 (.b false) (.h 74 (.b false) (.h 77 (.b false) (.h 78 (.b true) .nil))))))))))))))))))))))))))))))))))))
          · try simp only[if_neg h4]
            cases h5:r51_0 a0 a0.f3 0 with
            |k0 w0_19 w1_19=>
              try dsimp only
              have f19:(⟨[(0,(.bptr l0 [(.i a0.f0),(.i a0.f1),(.sl (map b_si a0.f2)),(.sl (map b_R a0.f3)),(.sl (map b_si a0.f4)),(.i a0.f5),(.i a0.f6),(.i a0.f7)])),(4,(.oi 0))],[]⟩:St)=h51_0 l0 a0 0 :=(by rfl)
              have f20:Ev F X (.code l51_0 (h51_0 l0 a0 0) (.exit 0) ⟨[(0,(.bptr l0 [(.i a0.f0),(.i a0.f1),(.sl (map b_si a0.f2)),(.sl (map b_R a0.f3)),(.sl (map b_si a0.f4)),(.i a0.f5),(.i a0.f6),(.i a0.f7)])),(4,(.oi w0_19)),(49,(.one (.val (.bool w1_19))))],[]⟩):=(by have t:Ev F X (.code l51_0 (h51_0 l0 a0 0) (ex51_0 (r51_0 a0 a0.f3 0)) (fin51_0 l0 a0 (r51_0 a0 a0.f3 0))):=t51_0 (l0:=l0) (a0:=a0) (by assumption) (by assumption) (by assumption) (by assumption) (by assumption) (by assumption) a0.f3 []  rfl; rw[h5] at t; exact t)
              have f21:Ev F X (.call 98 [(.one (.bor (l0+1) (map b_si a0.f4)))] [] [] [(.one (.val (.bool (m98 a0.f4))))]):=(e98 (a0:=a0.f4) (by with_reducible assumption) (by with_reducible assumption))
              by_cases h6:(!(m98 a0.f4))=true
              · try simp only[if_pos h6]
                exact callP_ok (ps:=[]) (os:=[]) (rs:=[(.oi 1)]) (by kernel_rfl) (.r 5 [] [] f0 (.f (nt h0) (.h 8 (.b false) (.r 18 [] [] f2 (.f (nt h1) (.f (nt h2) (.f (nt h2) (.f (nt h2) (.f (nt h2) (.f (nt h2) (.f (nt h2) (.f (nt h2) (.f (nt h3) (.f (nt h3) (.f (nt h3) (.f (nt h3) (.f (nt h3) (.f (nt h3) (.f (nt h3) (.f (nt h4) (.f f19 (.f f20 (.h 25 (.b false) (.h 48 (.b false) (.h 50 (.b false) (.h 52 (.b false) (.h 54 (.b false) (.h 56 (.b false) (.h 58 (.b false) (.h 61 (.b false) (.h 64 (.b false) (.h 66 (.b false) (.h 68 (.b false) (.h 70 (.b false) (.h 72 (.b false) (.h 74 (.b false) (.h 77 (.b false) (.h 78 (.b false) (.h 81 (.loop (h51_0 l0 a0 0) (.exit 0) ⟨[(0,(.bptr l0 [(.i a0.f0),(.i a0.f1),(.sl (map b_si a0.f2)),(.sl (map b_R a0.f3)),(.sl (map b_si a0.f4)),(.i a0.f5),(.i a0.f6),(.i a0.f7)])),(4,(.oi w0_19)),(49,(.one (.val (.bool w1_19))))],[]⟩) (.r 91 [] [] f21 (.f h6 (.h 94 (.b true) .nil))))))))))))))))))))))))))))))))))))))))))
              · try simp only[if_neg h6]
                have f23:Ev F X (.call 99 [(.one (.bor (l0+1) (map b_si a0.f4)))] [] [] [(.oi (m99 a0.f4))]):=(e99 (a0:=a0.f4) (by with_reducible assumption))
                have f26:Ev F X (.call 100 [(.one (.bor (l0+1) (map b_R a0.f3))),(.one (.val (.bool true)))] [] [] [(.oi (m100 a0.f3 true))]):=(e100 (a0:=a0.f3) (a1:=true) (by with_reducible assumption) (by intro z hz; exact os_ok_R z ((by assumption:∀z∈a0.f3,os_R z) z hz)))
                by_cases h7:((IntKind.wrap .i64 ((IntKind.wrap .i64 ((m99 a0.f4)+a0.f6))+a0.f5)) !=(IntKind.wrap .i64 ((m100 a0.f3 true)+a0.f7)))=true
                · try simp only[if_pos h7]
                  exact callP_ok (ps:=[]) (os:=[]) (rs:=[(.oi 7)]) (by kernel_rfl) (.r 5 [] [] f0 (.f (nt h0) (.h 8 (.b false) (.r 18 [] [] f2 (.f (nt h1) (.f (nt h2) (.f (nt h2) (.f (nt h2) (.f (nt h2) (.f (nt h2) (.f (nt h2) (.f (nt h2) (.f (nt h3) (.f (nt h3) (.f (nt h3) (.f (nt h3) (.f (nt h3) (.f (nt h3) (.f (nt h3) (.f (nt h4) (.f f19 (.f f20 (.h 25 (.b false) (.h 48 (.b false) (.h 50 (.b false) (.h 52 (.b false) (.h 54 (.b false) (.h 56 (.b false) (.h 58 (.b false) (.h 61 (.b false) (.h 64 (.b false) (.h 66 (.b false) (.h 68 (.b false) (.h 70 (.b false) (.h 72 (.b false) (.h 74 (.b false) (.h 77 (.b false) (.h 78 (.b false) (.h 81 (.loop (h51_0 l0 a0 0) (.exit 0) ⟨[(0,(.bptr l0 [(.i a0.f0),(.i a0.f1),(.sl (map b_si a0.f2)),(.sl (map b_R a0.f3)),(.sl (map b_si a0.f4)),(.i a0.f5),(.i a0.f6),(.i a0.f7)])),(4,(.oi w0_19)),(49,(.one (.val (.bool w1_19))))],[]⟩) (.r 91 [] [] f21 (.f (nt h6) (.h 94 (.b false) (.r 104 [] [] f23 (.f trivial (.f trivial (.r 134 [] [] f26 (.f trivial (.f h7 (.f h7 (.f h7 (.f h7 (.f h7 (.f h7 (.f h7 (.f h7 (.h 149 (.b true) (.h 151 (.b true) (.h 153 (.b true) (.h 155 (.b true) (.h 157 (.b true) (.h 159 (.b true) (.h 161 (.b true) (.h 164 (.b true) .nil)))))))))))))))))))))))))))))))))))))))))))))))))))))))))))))))
                · try simp only[if_neg h7]
                  have f33:Ev F X (.call 100 [(.one (.bor (l0+1) (map b_R a0.f3))),(.one (.val (.bool false)))] [] [] [(.oi (m100 a0.f3 false))]):=(e100 (a0:=a0.f3) (a1:=false) (by with_reducible assumption) (by intro z hz; exact os_ok_R z ((by assumption:∀z∈a0.f3,os_R z) z hz)))
                  have f35:Ev F X (.call 101 [(.oi (m100 a0.f3 false))] [] [] [(.one (.val (.bool (m105 (m100 a0.f3 false) 0 1000000))))]):=(e101 (a0:=(m100 a0.f3 false)))
                  by_cases h8:(!(m105 (m100 a0.f3 false) 0 1000000))=true
                  · try simp only[if_pos h8]
                    exact callP_ok (ps:=[]) (os:=[]) (rs:=[(.oi 7)]) (by kernel_rfl) (.r 5 [] [] f0 (.f (nt h0) (.h 8 (.b false) (.r 18 [] [] f2 (.f (nt h1) (.f (nt h2) (.f (nt h2) (.f (nt h2) (.f (nt h2) (.f (nt h2) (.f (nt h2) (.f (nt h2) (.f (nt h3) (.f (nt h3) (.f (nt h3) (.f (nt h3) (.f (nt h3) (.f (nt h3) (.f (nt h3) (.f (nt h4) (.f f19 (.f f20 (.h 25 (.b false) (.h 48 (.b false) (.h 50 (.b false) (.h 52 (.b false) (.h 54 (.b false) (.h 56 (.b false) (.h 58 (.b false) (.h 61 (.b false) (.h 64 (.b false) (.h 66 (.b false) (.h 68 (.b false) (.h 70 (.b false) (.h 72 (.b false) (.h 74 (.b false) (.h 77 (.b false) (.h 78 (.b false) (.h 81 (.loop (h51_0 l0 a0 0) (.exit 0) ⟨[(0,(.bptr l0 [(.i a0.f0),(.i a0.f1),(.sl (map b_si a0.f2)),(.sl (map b_R a0.f3)),(.sl (map b_si a0.f4)),(.i a0.f5),(.i a0.f6),(.i a0.f7)])),(4,(.oi w0_19)),(49,(.one (.val (.bool w1_19))))],[]⟩) (.r 91 [] [] f21 (.f (nt h6) (.h 94 (.b false) (.r 104 [] [] f23 (.f trivial (.f trivial (.r 134 [] [] f26 (.f trivial (.f (nt h7) (.f (nt h7) (.f (nt h7) (.f (nt h7) (.f (nt h7) (.h 149 (.b false) (.h 151 (.b false) (.h 153 (.b false) (.h 155 (.b false) (.h 157 (.b false) (.r 158 [] [] f33 (.f (nt h7) (.h 159 (.b false) (.r 160 [] [] f35 (.f (nt h7) (.f (nt h7) (.f h8 (.h 161 (.b false) (.h 164 (.b false) (.h 165 (.b true) .nil)))))))))))))))))))))))))))))))))))))))))))))))))))))))))))))))))))
                  · try simp only[if_neg h8]
                    exact callP_ok (ps:=[]) (os:=[]) (rs:=[(.oi 0)]) (by kernel_rfl) (.r 5 [] [] f0 (.f (nt h0) (.h 8 (.b false) (.r 18 [] [] f2 (.f (nt h1) (.f (nt h2) (.f (nt h2) (.f (nt h2) (.f (nt h2) (.f (nt h2) (.f (nt h2) (.f (nt h2) (.f (nt h3) (.f (nt h3) (.f (nt h3) (.f (nt h3) (.f (nt h3) (.f (nt h3) (.f (nt h3) (.f (nt h4) (.f f19 (.f f20 (.h 25 (.b false) (.h 48 (.b false) (.h 50 (.b false) (.h 52 (.b false) (.h 54 (.b false) (.h 56 (.b false) (.h 58 (.b false) (.h 61 (.b false) (.h 64 (.b false) (.h 66 (.b false) (.h 68 (.b false) (.h 70 (.b false) (.h 72 (.b false) (.h 74 (.b false) (.h 77 (.b false) (.h 78 (.b false) (.h 81 (.loop (h51_0 l0 a0 0) (.exit 0) ⟨[(0,(.bptr l0 [(.i a0.f0),(.i a0.f1),(.sl (map b_si a0.f2)),(.sl (map b_R a0.f3)),(.sl (map b_si a0.f4)),(.i a0.f5),(.i a0.f6),(.i a0.f7)])),(4,(.oi w0_19)),(49,(.one (.val (.bool w1_19))))],[]⟩) (.r 91 [] [] f21 (.f (nt h6) (.h 94 (.b false) (.r 104 [] [] f23 (.f trivial (.f trivial (.r 134 [] [] f26 (.f trivial (.f (nt h7) (.f (nt h7) (.f (nt h7) (.f (nt h7) (.f (nt h7) (.h 149 (.b false) (.h 151 (.b false) (.h 153 (.b false) (.h 155 (.b false) (.h 157 (.b false) (.r 158 [] [] f33 (.f (nt h7) (.h 159 (.b false) (.r 160 [] [] f35 (.f (nt h7) (.f (nt h7) (.f (nt h8) (.h 161 (.b false) (.h 164 (.b false) (.h 165 (.b false) .nil)))))))))))))))))))))))))))))))))))))))))))))))))))))))))))))))))))
            |k1 w0_19=>
              try dsimp only
              have f19:(⟨[(0,(.bptr l0 [(.i a0.f0),(.i a0.f1),(.sl (map b_si a0.f2)),(.sl (map b_R a0.f3)),(.sl (map b_si a0.f4)),(.i a0.f5),(.i a0.f6),(.i a0.f7)])),(4,(.oi 0))],[]⟩:St)=h51_0 l0 a0 0 :=(by rfl)
              have f20:Ev F X (.code l51_0 (h51_0 l0 a0 0) .ret ⟨[(2,(.oi w0_19))],[]⟩):=(by have t:Ev F X (.code l51_0 (h51_0 l0 a0 0) (ex51_0 (r51_0 a0 a0.f3 0)) (fin51_0 l0 a0 (r51_0 a0 a0.f3 0))):=t51_0 (l0:=l0) (a0:=a0) (by assumption) (by assumption) (by assumption) (by assumption) (by assumption) (by assumption) a0.f3 []  rfl; rw[h5] at t; exact t)
              exact callP_ok (ps:=[]) (os:=[]) (rs:=[(.oi w0_19)]) (by kernel_rfl) (.r 5 [] [] f0 (.f (nt h0) (.h 8 (.b false) (.r 18 [] [] f2 (.f (nt h1) (.f (nt h2) (.f (nt h2) (.f (nt h2) (.f (nt h2) (.f (nt h2) (.f (nt h2) (.f (nt h2) (.f (nt h3) (.f (nt h3) (.f (nt h3) (.f (nt h3) (.f (nt h3) (.f (nt h3) (.f (nt h3) (.f (nt h4) (.f f19 (.f f20 (.h 25 (.b false) (.h 48 (.b false) (.h 50 (.b false) (.h 52 (.b false) (.h 54 (.b false) (.h 56 (.b false) (.h 58 (.b false) (.h 61 (.b false) (.h 64 (.b false) (.h 66 (.b false) (.h 68 (.b false) (.h 70 (.b false) (.h 72 (.b false) (.h 74 (.b false) (.h 77 (.b false) (.h 78 (.b false) (.h 81 (.loop (h51_0 l0 a0 0) .ret ⟨[(2,(.oi w0_19))],[]⟩) .nil)))))))))))))))))))))))))))))))))))))))
theorem rl97 {a:List K_R} {i:Int} (h:m97 a i=0):(getD a (Int.toNat i) (K_R.mk 0 0 0 [] 0)).f3.length≤12:=by
  unfold m97 at h
  simp only[length_map] at h
  by_cases c:((getD a (Int.toNat i) (K_R.mk 0 0 0 [] 0)).f3.length:Int) > 12
  · exfalso
    simp only[c,decide_true,if_true] at h
    (repeat' split at h)<;>simp at h
  · omega
theorem rz51 (a0:K_B):∀(l:List K_R) (i:Nat),((∃u v,r51_0 a0 l i=.k0 u v)∧∀j:Nat,j < l.length→m97 a0.f3 ((i+j:Nat):Int)=0)∨(∃w,r51_0 a0 l i=.k1 w∧w≠0)
  |[],i=>.inl ⟨⟨_,_,rfl⟩,fun j hj=>by simp at hj⟩
  |x::l,i=>by
    have ih:=rz51 a0 l (i+1)
    simp only[r51_0]
    by_cases c:((m97 a0.f3 (i:Int)) !=0)=true
    · rw[if_pos c]; exact .inr ⟨_,rfl,by simpa using c⟩
    · rw[if_neg c]
      rcases ih with⟨h1,h2⟩ | h
      · refine .inl ⟨h1,fun j hj=>?_⟩
        cases j with
        |zero=>simpa using c
        |succ j=>have:=h2 j (by simpa using hj); rw[← this]; congr 1; omega
      · exact .inr h
theorem fs51 {a0:K_B} (h:¬((m51 a0) !=0)=true):a0.f2.length≤12∧a0.f3.length≤6∧(∀z∈a0.f3,z.f3.length≤12)∧a0.f4.length≤8:=by
  have h:m51 a0=0:=by simpa using h
  unfold m51 at h
  split at h
  · cases h
  split at h
  · rename_i h2; rw[h] at h2; simp at h2
  rename_i h2
  split at h
  · cases h
  split at h
  · cases h
  rename_i h4
  split at h
  · cases h
  rename_i h5
  simp only[length_map,decide_eq_true_eq] at h4 h5
  rcases rz51 a0 a0.f3 0 with⟨_,hz⟩ |⟨w,hw,hn⟩
  · refine⟨len12_96 _ h2,by omega,fun z hz2=>?_,by omega⟩
    obtain⟨j,hj⟩:=List.getElem?_of_mem hz2
    have hlt:j < a0.f3.length:=by
      have:=List.getElem?_eq_some_iff.1 hj; exact this.1
    have:=rl97 (hz j hlt)
    rw[Nat.zero_add,Int.toNat_natCast,List.getD_eq_getElem?_getD,hj] at this
    exact this
  · rw[show ((0:Nat):Int)=0 from rfl] at hw
    rw[hw] at h; exact absurd h hn
theorem rg51 {a0:K_B} (h:¬((m51 a0) !=0)=true):1≤a0.f0∧a0.f0≤12:=by
  have h:m51 a0=0:=by simpa using h
  unfold m51 at h
  by_cases c:m95 a0=true
  · unfold m95 at c
    by_cases d:m105 a0.f0 1 12=true
    · unfold m105 at d
      split at d<;>simp_all<;>omega
    · rw[if_neg d] at c; cases c
  · rw[if_pos (by simpa using c)] at h; cases h
/-! loop.example/g00539/spec.l14Bad -/
def m52 (a0:Int):K_C:=
  (K_C.mk a0 0 0 0 [] [] [] 0 0 0)
theorem e52 {a0:Int}:Ev F X (.call 52 [(.one (.val (.int .i64 a0)))] [] [] [(.agg [(.val (.int .i64 ((K_C.mk a0 0 0 0 [] [] [] 0 0 0).f0))),(.val (.int .i64 ((K_C.mk a0 0 0 0 [] [] [] 0 0 0).f1))),(.val (.int .i64 ((K_C.mk a0 0 0 0 [] [] [] 0 0 0).f2))),(.val (.int .i64 ((K_C.mk a0 0 0 0 [] [] [] 0 0 0).f3))),(.own 2 (map d_si ((K_C.mk a0 0 0 0 [] [] [] 0 0 0).f4))),(.own 5 (map d_R ((K_C.mk a0 0 0 0 [] [] [] 0 0 0).f5))),(.own 2 (map d_si ((K_C.mk a0 0 0 0 [] [] [] 0 0 0).f6))),(.val (.int .i64 ((K_C.mk a0 0 0 0 [] [] [] 0 0 0).f7))),(.val (.int .i64 ((K_C.mk a0 0 0 0 [] [] [] 0 0 0).f8))),(.val (.int .i64 ((K_C.mk a0 0 0 0 [] [] [] 0 0 0).f9)))])]):=by
  have f0:pureR []=true:=(by trivial)
  have f1:pureR []=true:=(by with_reducible assumption)
  have f2:pureR []=true:=(by with_reducible assumption)
  exact callP_ok (ps:=[]) (os:=[]) (rs:=[(.agg [(.i a0),(.i 0),(.i 0),(.i 0),(.own 2 []),(.own 5 []),(.own 2 []),(.i 0),(.i 0),(.i 0)])]) (by kernel_rfl) (.f f0 (.f f1 (.f f2 .nil)))
/-! loop.example/g00539/spec.l14Weights -/
def m137 (a0:(List K_si)):(List K_si):=
  (([])++a0)
theorem e137 {l0_0:Nat} {a0:(List K_si)} (hy0:length a0*24≤70368744177664):Ev F X (.call 137 [(.one (.bor l0_0 (map b_si a0)))] [] [] [(.one (.own 2 (map d_si (([])++a0))))]):=by
  have f0:0+0≤0:=(by omega)
  have f1:(length ([]++(fromBR l0_0 (map b_si a0))))*24≤70368744177664:=(by simp; omega)
  have f2:∀r∈((fromBR l0_0 (map b_si a0)):List (List D)),r.length=2:=(by simp[*,b_si,d_si,byteRows_eq,ints_y]; done)
  have f3:([]++(fromBR l0_0 (map b_si a0)))=(map d_si (([])++a0)):=(by simp[byteRows_eq,ints_y,take_of_length_le,d_si,d_R,d_B,d_i,d_b,d_C,d_LsiE,d_s,d_Q,d_y,fromBR_si,fromBR_i,fromBR_b,fromBR_s,fromBR_y]; done)
  have f4:0=0:=rfl
  have f5:(length ([]++(fromBR l0_0 (map b_si a0))))=(length (map d_si (([])++a0))):=(by simp; done)
  have f6:pureR (map d_si (([])++a0))=true:=(pureR_si _)
  exact callP_ok (ps:=[]) (os:=[]) (rs:=[(.one (.own 2 (map d_si (([])++a0))))]) (by kernel_rfl) (.f f0 (.f f1 (.f f2 (.f f3 (.f f4 (.f f5 (.f f6 (.h 10 (.norm (2,0,0) (map d_si (([])++a0))) .nil))))))))
end Go.Proofs.YtihjlmgakpgkeaaDoor.RipenReward
