/- What the functions compute. -/
import Derived.Test.YtihjlmgakpgkeaaDoorTPays
import Derived.Test.YtihjlmgakpgkeaaDoorVNum
import Derived.Test.YtihjlmgakpgkeaaDoorVClone
import Derived.Test.YtihjlmgakpgkeaaDoorVExt
import Derived.Test.YtihjlmgakpgkeaaDoorXPays
import Derived.KernelRfl
namespace Go.Proofs.YtihjlmgakpgkeaaDoor.Pays
open Go Go.Proofs.YtihjlmgakpgkeaaDoor.V
set_option linter.unusedVariables false
set_option linter.unusedSimpArgs false
set_option maxRecDepth 20000
abbrev _root_.Go.Proofs.YtihjlmgakpgkeaaDoor.V.B.i (x:Int):B:=.val (.int .i64 x)
abbrev _root_.Go.Proofs.YtihjlmgakpgkeaaDoor.V.D.i (x:Int):D:=.val (.int .i64 x)
abbrev _root_.Go.Proofs.YtihjlmgakpgkeaaDoor.V.CV.i (x:Int):CV:=.val (.int .i64 x)
abbrev _root_.Go.Proofs.YtihjlmgakpgkeaaDoor.V.SV.oi (x:Int):SV:=.one (.val (.int .i64 x))
abbrev _root_.Go.Proofs.YtihjlmgakpgkeaaDoor.V.Ret.oi (x:Int):Ret:=.one (.val (.int .i64 x))
open Go.IntKind (wrap)
open Int (toNat)
open List (length_replicate length_map length_set length_append length_cons length_nil length_take length_drop take_of_length_le map_take map_drop map_set append_assoc getElem?_map map length take drop getD set)
def X:Ext:=fun f args objs rs=>(f=94∧objs=[]∧CloneX 2 24 args rs)∨(f=141∧objs=[]∧TrimX args rs)
theorem pe {α:Type} {hs q} (x:α) (r:PS F X hs q):PS F X hs ((x=x)::q):=.f rfl r
theorem cp {f hs args rs q} (h:callH F X f hs [] args []=some ([],rs,q)) (p:PS F X hs q):Ev F X (.call f args [] [] rs):=callP_ok h p
theorem cq (ps:List Bool) {f hs args objs os rs q} (h:callH F X f hs ps args objs=some (os,rs,q)) (p:PS F X hs q):Ev F X (.call f args objs os rs):=callP_ok h p
theorem ch (c:VC) (σ σ':St) (e:VX.Exit) (t:Nat) {hs q} (h:codeH F X c 0 hs σ=some (e,σ',t,[],q)) (p:PS F X hs q):Ev F X (.code c σ e σ'):=codeP_ok h p
def b_y (x:Int):List B:=[(.val (.int .u8 x))]
def d_y (x:Int):List D:=[(.val (.int .u8 x))]
theorem toBR_y:∀(l:List Int),toBR (l.map d_y)=l.map b_y
  |[]=>rfl
  |x::l=>by simp[toBR,toBL,toB,d_y,b_y,toBR_y l]
theorem fullR_y:∀(l:List Int),fullR (l.map d_y)=true
  |[]=>rfl
  |x::l=>by simp[fullR,fullL,full,d_y,fullR_y l]
theorem pureR_y:∀(l:List Int),pureR (l.map d_y)=true
  |[]=>rfl
  |x::l=>by simp[pureR,pureL,V.pure,d_y,pureR_y l]
theorem ft_y (a b:Nat) (l:List Int):fullR (take a (drop b (l.map d_y)))=true:=by rw[← map_drop,← map_take]; exact fullR_y _
theorem tbt_y (a b:Nat) (l:List Int):toBR (take a (drop b (l.map d_y)))=(take a (drop b l)).map b_y:=by rw[← map_drop,← map_take]; exact toBR_y _
theorem tb_y (l:List Int):toBR (take (l.map d_y).length (drop 0 (l.map d_y)))=l.map b_y:=by rw[List.drop_zero,List.take_length]; exact toBR_y l
theorem ln_y {hs q} (x:List Int) (r:PS F X hs q):PS F X hs ((0+(x.map d_y).length≤(x.map d_y).length)::(fullR (take (x.map d_y).length (drop 0 (x.map d_y)))=true)::(toBR (take (x.map d_y).length (drop 0 (x.map d_y)))=x.map b_y)::q):=.f (Nat.le_of_eq (Nat.zero_add _)) (.f (ft_y _ _ _) (.f (tb_y _) r))
theorem lenB_y (l:List Int):∀r∈l.map b_y,r.length=1:=by intro r h; obtain⟨x,_,rfl⟩:=List.mem_map.1 h; rfl
theorem lenD_y (l:List Int):∀r∈l.map d_y,r.length=1:=by intro r h; obtain⟨x,_,rfl⟩:=List.mem_map.1 h; rfl
theorem fromBR_y (n:Nat) (l:List Int):fromBR n (l.map b_y)=l.map d_y:=by simp[fromBR,b_y,d_y,fromB,Function.comp_def]
theorem copy_y (l:List Int):(l.map d_y).all (fun x=>x.all copyable)=true:=by simp[d_y,copyable,Function.comp_def]
theorem ct_y (a b:Nat) (l:List Int):((take a (drop b (l.map d_y))).all fun x=>x.all copyable)=true:=by rw[← map_drop,← map_take]; exact copy_y _
def strInts (s:ByteArray):List Int:=s.data.toList.map fun b=>(b.toNat:Int)
theorem ly_y (a:Int) (l:List Int):[D.val (.int .u8 a)]::map d_y l=map d_y (a::l):=rfl
theorem ly0_y (a:Int):[[D.val (.int .u8 a)]]=map d_y [a]:=rfl
theorem strInts_len (s:ByteArray):(strInts s).length=s.size:=by simp[strInts]
theorem byteRows_len (s:ByteArray):(byteRows s).length=s.size:=by simp[byteRows]
theorem byteRows_eq (s:ByteArray):byteRows s=(strInts s).map d_y:=by simp[byteRows,strInts,d_y,Function.comp_def]
theorem tsi (s:ByteArray):take (ByteArray.size s) (map d_y (strInts s))=map d_y (strInts s):=by rw[take_of_length_le (by simp[strInts_len])]
theorem tbr (s:ByteArray):take (ByteArray.size s) (byteRows s)=map d_y (strInts s):=by rw[byteRows_eq,tsi]
theorem ints_y:∀(l:List Int),rowsInts .u8 (l.map d_y)=some l
  |[]=>rfl
  |x::l=>by simp only[List.map_cons,d_y,rowsInts,ints_y l]; rfl
def b_LyE (x:(List Int)):List B:=[(.sl (map b_y x))]
def d_LyE (x:(List Int)):List D:=[(.own 1 (map d_y x))]
theorem toBR_LyE:∀(l:List (List Int)),toBR (l.map d_LyE)=l.map b_LyE
  |[]=>rfl
  |x::l=>by simp[toBR,toBL,toB,d_LyE,b_LyE,toBR_LyE l,toBR_y]
theorem fullR_LyE:∀(l:List (List Int)),fullR (l.map d_LyE)=true
  |[]=>rfl
  |x::l=>by simp[fullR,fullL,full,d_LyE,fullR_LyE l,fullR_y]
theorem pureR_LyE:∀(l:List (List Int)),pureR (l.map d_LyE)=true
  |[]=>rfl
  |x::l=>by simp[pureR,pureL,V.pure,d_LyE,pureR_LyE l,pureR_y]
theorem ft_LyE (a b:Nat) (l:List (List Int)):fullR (take a (drop b (l.map d_LyE)))=true:=by rw[← map_drop,← map_take]; exact fullR_LyE _
theorem tbt_LyE (a b:Nat) (l:List (List Int)):toBR (take a (drop b (l.map d_LyE)))=(take a (drop b l)).map b_LyE:=by rw[← map_drop,← map_take]; exact toBR_LyE _
theorem tb_LyE (l:List (List Int)):toBR (take (l.map d_LyE).length (drop 0 (l.map d_LyE)))=l.map b_LyE:=by rw[List.drop_zero,List.take_length]; exact toBR_LyE l
theorem ln_LyE {hs q} (x:List (List Int)) (r:PS F X hs q):PS F X hs ((0+(x.map d_LyE).length≤(x.map d_LyE).length)::(fullR (take (x.map d_LyE).length (drop 0 (x.map d_LyE)))=true)::(toBR (take (x.map d_LyE).length (drop 0 (x.map d_LyE)))=x.map b_LyE)::q):=.f (Nat.le_of_eq (Nat.zero_add _)) (.f (ft_LyE _ _ _) (.f (tb_LyE _) r))
theorem lenB_LyE (l:List (List Int)):∀r∈l.map b_LyE,r.length=1:=by intro r h; obtain⟨x,_,rfl⟩:=List.mem_map.1 h; rfl
theorem lenD_LyE (l:List (List Int)):∀r∈l.map d_LyE,r.length=1:=by intro r h; obtain⟨x,_,rfl⟩:=List.mem_map.1 h; rfl
def ok_LyE (x:(List Int)):Prop:=(length x*1≤140737488351232)
def os_LyE (x:(List Int)):Prop:=(length x*1≤140737488351232)
theorem os_ok_LyE (x:(List Int)) (h:os_LyE x):ok_LyE x:=h
theorem gos_LyE {l:List (List Int)} (h:∀z∈l,os_LyE z) (n:Nat) (d:(List Int)) (hd:os_LyE d):os_LyE (l.getD n d):=by
  rw[List.getD_eq_getElem?_getD]; cases h2:l[n]? with
  |none=>simpa using hd
  |some x=>exact h x (List.mem_of_getElem? h2)
theorem gok_LyE {l:List (List Int)} (h:∀z∈l,ok_LyE z) (n:Nat) (d:(List Int)) (hd:ok_LyE d):ok_LyE (l.getD n d):=by
  rw[List.getD_eq_getElem?_getD]; cases h2:l[n]? with
  |none=>simpa using hd
  |some x=>exact h x (List.mem_of_getElem? h2)
def b_b (x:Bool):List B:=[(.val (.bool x))]
def d_b (x:Bool):List D:=[(.val (.bool x))]
theorem toBR_b:∀(l:List Bool),toBR (l.map d_b)=l.map b_b
  |[]=>rfl
  |x::l=>by simp[toBR,toBL,toB,d_b,b_b,toBR_b l]
theorem fullR_b:∀(l:List Bool),fullR (l.map d_b)=true
  |[]=>rfl
  |x::l=>by simp[fullR,fullL,full,d_b,fullR_b l]
theorem pureR_b:∀(l:List Bool),pureR (l.map d_b)=true
  |[]=>rfl
  |x::l=>by simp[pureR,pureL,V.pure,d_b,pureR_b l]
theorem ft_b (a b:Nat) (l:List Bool):fullR (take a (drop b (l.map d_b)))=true:=by rw[← map_drop,← map_take]; exact fullR_b _
theorem tbt_b (a b:Nat) (l:List Bool):toBR (take a (drop b (l.map d_b)))=(take a (drop b l)).map b_b:=by rw[← map_drop,← map_take]; exact toBR_b _
theorem tb_b (l:List Bool):toBR (take (l.map d_b).length (drop 0 (l.map d_b)))=l.map b_b:=by rw[List.drop_zero,List.take_length]; exact toBR_b l
theorem ln_b {hs q} (x:List Bool) (r:PS F X hs q):PS F X hs ((0+(x.map d_b).length≤(x.map d_b).length)::(fullR (take (x.map d_b).length (drop 0 (x.map d_b)))=true)::(toBR (take (x.map d_b).length (drop 0 (x.map d_b)))=x.map b_b)::q):=.f (Nat.le_of_eq (Nat.zero_add _)) (.f (ft_b _ _ _) (.f (tb_b _) r))
theorem lenB_b (l:List Bool):∀r∈l.map b_b,r.length=1:=by intro r h; obtain⟨x,_,rfl⟩:=List.mem_map.1 h; rfl
theorem lenD_b (l:List Bool):∀r∈l.map d_b,r.length=1:=by intro r h; obtain⟨x,_,rfl⟩:=List.mem_map.1 h; rfl
theorem fromBR_b (n:Nat) (l:List Bool):fromBR n (l.map b_b)=l.map d_b:=by simp[fromBR,b_b,d_b,fromB,Function.comp_def]
theorem copy_b (l:List Bool):(l.map d_b).all (fun x=>x.all copyable)=true:=by simp[d_b,copyable,Function.comp_def]
theorem ct_b (a b:Nat) (l:List Bool):((take a (drop b (l.map d_b))).all fun x=>x.all copyable)=true:=by rw[← map_drop,← map_take]; exact copy_b _
structure K_si where
  f0:ByteArray
  f1:Int
def b_si (x:K_si):List B:=[(.val (.string x.f0)),(.val (.int .i64 x.f1))]
def d_si (x:K_si):List D:=[(.val (.string x.f0)),(.val (.int .i64 x.f1))]
theorem toBR_si:∀(l:List K_si),toBR (l.map d_si)=l.map b_si
  |[]=>rfl
  |x::l=>by simp[toBR,toBL,toB,d_si,b_si,toBR_si l]
theorem fullR_si:∀(l:List K_si),fullR (l.map d_si)=true
  |[]=>rfl
  |x::l=>by simp[fullR,fullL,full,d_si,fullR_si l]
theorem pureR_si:∀(l:List K_si),pureR (l.map d_si)=true
  |[]=>rfl
  |x::l=>by simp[pureR,pureL,V.pure,d_si,pureR_si l]
theorem ft_si (a b:Nat) (l:List K_si):fullR (take a (drop b (l.map d_si)))=true:=by rw[← map_drop,← map_take]; exact fullR_si _
theorem tbt_si (a b:Nat) (l:List K_si):toBR (take a (drop b (l.map d_si)))=(take a (drop b l)).map b_si:=by rw[← map_drop,← map_take]; exact toBR_si _
theorem tb_si (l:List K_si):toBR (take (l.map d_si).length (drop 0 (l.map d_si)))=l.map b_si:=by rw[List.drop_zero,List.take_length]; exact toBR_si l
theorem ln_si {hs q} (x:List K_si) (r:PS F X hs q):PS F X hs ((0+(x.map d_si).length≤(x.map d_si).length)::(fullR (take (x.map d_si).length (drop 0 (x.map d_si)))=true)::(toBR (take (x.map d_si).length (drop 0 (x.map d_si)))=x.map b_si)::q):=.f (Nat.le_of_eq (Nat.zero_add _)) (.f (ft_si _ _ _) (.f (tb_si _) r))
theorem lenB_si (l:List K_si):∀r∈l.map b_si,r.length=2:=by intro r h; obtain⟨x,_,rfl⟩:=List.mem_map.1 h; rfl
theorem lenD_si (l:List K_si):∀r∈l.map d_si,r.length=2:=by intro r h; obtain⟨x,_,rfl⟩:=List.mem_map.1 h; rfl
def os_si (x:K_si):Prop:=(ByteArray.size x.f0≤140737488351232)
theorem gos_si {l:List K_si} (h:∀z∈l,os_si z) (n:Nat) (d:K_si) (hd:os_si d):os_si (l.getD n d):=by
  rw[List.getD_eq_getElem?_getD]; cases h2:l[n]? with
  |none=>simpa using hd
  |some x=>exact h x (List.mem_of_getElem? h2)
theorem fromBR_si (n:Nat) (l:List K_si):fromBR n (l.map b_si)=l.map d_si:=by simp[fromBR,b_si,d_si,fromB,Function.comp_def]
theorem copy_si (l:List K_si):(l.map d_si).all (fun x=>x.all copyable)=true:=by simp[d_si,copyable,Function.comp_def]
theorem ct_si (a b:Nat) (l:List K_si):((take a (drop b (l.map d_si))).all fun x=>x.all copyable)=true:=by rw[← map_drop,← map_take]; exact copy_si _
structure K_R where
  f0:Int
  f1:Int
  f2:Int
  f3:(List K_si)
  f4:Int
def b_R (x:K_R):List B:=[(.val (.int .i64 x.f0)),(.val (.int .i64 x.f1)),(.val (.int .i64 x.f2)),(.sl (map b_si x.f3)),(.val (.int .i64 x.f4))]
def d_R (x:K_R):List D:=[(.val (.int .i64 x.f0)),(.val (.int .i64 x.f1)),(.val (.int .i64 x.f2)),(.own 2 (map d_si x.f3)),(.val (.int .i64 x.f4))]
abbrev k_R (l0:Nat) (x:K_R):List CV:=[(.val (.int .i64 x.f0)),(.val (.int .i64 x.f1)),(.val (.int .i64 x.f2)),(.bor l0 (map b_si x.f3)),(.val (.int .i64 x.f4))]
theorem toBR_R:∀(l:List K_R),toBR (l.map d_R)=l.map b_R
  |[]=>rfl
  |x::l=>by simp[toBR,toBL,toB,d_R,b_R,toBR_R l,toBR_si]
theorem fullR_R:∀(l:List K_R),fullR (l.map d_R)=true
  |[]=>rfl
  |x::l=>by simp[fullR,fullL,full,d_R,fullR_R l,fullR_si]
theorem pureR_R:∀(l:List K_R),pureR (l.map d_R)=true
  |[]=>rfl
  |x::l=>by simp[pureR,pureL,V.pure,d_R,pureR_R l,pureR_si]
theorem ft_R (a b:Nat) (l:List K_R):fullR (take a (drop b (l.map d_R)))=true:=by rw[← map_drop,← map_take]; exact fullR_R _
theorem tbt_R (a b:Nat) (l:List K_R):toBR (take a (drop b (l.map d_R)))=(take a (drop b l)).map b_R:=by rw[← map_drop,← map_take]; exact toBR_R _
theorem tb_R (l:List K_R):toBR (take (l.map d_R).length (drop 0 (l.map d_R)))=l.map b_R:=by rw[List.drop_zero,List.take_length]; exact toBR_R l
theorem ln_R {hs q} (x:List K_R) (r:PS F X hs q):PS F X hs ((0+(x.map d_R).length≤(x.map d_R).length)::(fullR (take (x.map d_R).length (drop 0 (x.map d_R)))=true)::(toBR (take (x.map d_R).length (drop 0 (x.map d_R)))=x.map b_R)::q):=.f (Nat.le_of_eq (Nat.zero_add _)) (.f (ft_R _ _ _) (.f (tb_R _) r))
theorem lenB_R (l:List K_R):∀r∈l.map b_R,r.length=5:=by intro r h; obtain⟨x,_,rfl⟩:=List.mem_map.1 h; rfl
theorem lenD_R (l:List K_R):∀r∈l.map d_R,r.length=5:=by intro r h; obtain⟨x,_,rfl⟩:=List.mem_map.1 h; rfl
def ok_R (x:K_R):Prop:=(length x.f3*24≤140737488351232)
def os_R (x:K_R):Prop:=(length x.f3*24≤140737488351232)∧(∀z∈x.f3,os_si z)
theorem os_ok_R (x:K_R) (h:os_R x):ok_R x:=h.1
theorem gos_R {l:List K_R} (h:∀z∈l,os_R z) (n:Nat) (d:K_R) (hd:os_R d):os_R (l.getD n d):=by
  rw[List.getD_eq_getElem?_getD]; cases h2:l[n]? with
  |none=>simpa using hd
  |some x=>exact h x (List.mem_of_getElem? h2)
theorem gok_R {l:List K_R} (h:∀z∈l,ok_R z) (n:Nat) (d:K_R) (hd:ok_R d):ok_R (l.getD n d):=by
  rw[List.getD_eq_getElem?_getD]; cases h2:l[n]? with
  |none=>simpa using hd
  |some x=>exact h x (List.mem_of_getElem? h2)
structure K_B where
  f0:Int
  f1:Int
  f2:(List K_si)
  f3:(List K_R)
  f4:(List K_si)
  f5:Int
  f6:Int
  f7:Int
def b_B (x:K_B):List B:=[(.val (.int .i64 x.f0)),(.val (.int .i64 x.f1)),(.sl (map b_si x.f2)),(.sl (map b_R x.f3)),(.sl (map b_si x.f4)),(.val (.int .i64 x.f5)),(.val (.int .i64 x.f6)),(.val (.int .i64 x.f7))]
def d_B (x:K_B):List D:=[(.val (.int .i64 x.f0)),(.val (.int .i64 x.f1)),(.own 2 (map d_si x.f2)),(.own 5 (map d_R x.f3)),(.own 2 (map d_si x.f4)),(.val (.int .i64 x.f5)),(.val (.int .i64 x.f6)),(.val (.int .i64 x.f7))]
abbrev k_B (l0:Nat) (l1:Nat) (l2:Nat) (x:K_B):List CV:=[(.val (.int .i64 x.f0)),(.val (.int .i64 x.f1)),(.bor l0 (map b_si x.f2)),(.bor l1 (map b_R x.f3)),(.bor l2 (map b_si x.f4)),(.val (.int .i64 x.f5)),(.val (.int .i64 x.f6)),(.val (.int .i64 x.f7))]
theorem toBR_B:∀(l:List K_B),toBR (l.map d_B)=l.map b_B
  |[]=>rfl
  |x::l=>by simp[toBR,toBL,toB,d_B,b_B,toBR_B l,toBR_si,toBR_R]
theorem fullR_B:∀(l:List K_B),fullR (l.map d_B)=true
  |[]=>rfl
  |x::l=>by simp[fullR,fullL,full,d_B,fullR_B l,fullR_si,fullR_R]
theorem pureR_B:∀(l:List K_B),pureR (l.map d_B)=true
  |[]=>rfl
  |x::l=>by simp[pureR,pureL,V.pure,d_B,pureR_B l,pureR_si,pureR_R]
theorem ft_B (a b:Nat) (l:List K_B):fullR (take a (drop b (l.map d_B)))=true:=by rw[← map_drop,← map_take]; exact fullR_B _
theorem tbt_B (a b:Nat) (l:List K_B):toBR (take a (drop b (l.map d_B)))=(take a (drop b l)).map b_B:=by rw[← map_drop,← map_take]; exact toBR_B _
theorem tb_B (l:List K_B):toBR (take (l.map d_B).length (drop 0 (l.map d_B)))=l.map b_B:=by rw[List.drop_zero,List.take_length]; exact toBR_B l
theorem ln_B {hs q} (x:List K_B) (r:PS F X hs q):PS F X hs ((0+(x.map d_B).length≤(x.map d_B).length)::(fullR (take (x.map d_B).length (drop 0 (x.map d_B)))=true)::(toBR (take (x.map d_B).length (drop 0 (x.map d_B)))=x.map b_B)::q):=.f (Nat.le_of_eq (Nat.zero_add _)) (.f (ft_B _ _ _) (.f (tb_B _) r))
theorem lenB_B (l:List K_B):∀r∈l.map b_B,r.length=8:=by intro r h; obtain⟨x,_,rfl⟩:=List.mem_map.1 h; rfl
theorem lenD_B (l:List K_B):∀r∈l.map d_B,r.length=8:=by intro r h; obtain⟨x,_,rfl⟩:=List.mem_map.1 h; rfl
def ok_B (x:K_B):Prop:=(length x.f2*24≤140737488351232)∧(length x.f3*56≤140737488351232)∧(∀z∈x.f3,ok_R z)∧(length x.f4*24≤140737488351232)
def os_B (x:K_B):Prop:=(length x.f2*24≤140737488351232)∧(∀z∈x.f2,os_si z)∧(length x.f3*56≤140737488351232)∧(∀z∈x.f3,os_R z)∧(length x.f4*24≤140737488351232)∧(∀z∈x.f4,os_si z)
theorem os_ok_B (x:K_B) (h:os_B x):ok_B x:=⟨h.1,h.2.2.1,fun z hz=>os_ok_R z (h.2.2.2.1 z hz),h.2.2.2.2.1⟩
theorem gos_B {l:List K_B} (h:∀z∈l,os_B z) (n:Nat) (d:K_B) (hd:os_B d):os_B (l.getD n d):=by
  rw[List.getD_eq_getElem?_getD]; cases h2:l[n]? with
  |none=>simpa using hd
  |some x=>exact h x (List.mem_of_getElem? h2)
theorem gok_B {l:List K_B} (h:∀z∈l,ok_B z) (n:Nat) (d:K_B) (hd:ok_B d):ok_B (l.getD n d):=by
  rw[List.getD_eq_getElem?_getD]; cases h2:l[n]? with
  |none=>simpa using hd
  |some x=>exact h x (List.mem_of_getElem? h2)
def b_s (x:ByteArray):List B:=[(.val (.string x))]
def d_s (x:ByteArray):List D:=[(.val (.string x))]
theorem toBR_s:∀(l:List ByteArray),toBR (l.map d_s)=l.map b_s
  |[]=>rfl
  |x::l=>by simp[toBR,toBL,toB,d_s,b_s,toBR_s l]
theorem fullR_s:∀(l:List ByteArray),fullR (l.map d_s)=true
  |[]=>rfl
  |x::l=>by simp[fullR,fullL,full,d_s,fullR_s l]
theorem pureR_s:∀(l:List ByteArray),pureR (l.map d_s)=true
  |[]=>rfl
  |x::l=>by simp[pureR,pureL,V.pure,d_s,pureR_s l]
theorem ft_s (a b:Nat) (l:List ByteArray):fullR (take a (drop b (l.map d_s)))=true:=by rw[← map_drop,← map_take]; exact fullR_s _
theorem tbt_s (a b:Nat) (l:List ByteArray):toBR (take a (drop b (l.map d_s)))=(take a (drop b l)).map b_s:=by rw[← map_drop,← map_take]; exact toBR_s _
theorem tb_s (l:List ByteArray):toBR (take (l.map d_s).length (drop 0 (l.map d_s)))=l.map b_s:=by rw[List.drop_zero,List.take_length]; exact toBR_s l
theorem ln_s {hs q} (x:List ByteArray) (r:PS F X hs q):PS F X hs ((0+(x.map d_s).length≤(x.map d_s).length)::(fullR (take (x.map d_s).length (drop 0 (x.map d_s)))=true)::(toBR (take (x.map d_s).length (drop 0 (x.map d_s)))=x.map b_s)::q):=.f (Nat.le_of_eq (Nat.zero_add _)) (.f (ft_s _ _ _) (.f (tb_s _) r))
theorem lenB_s (l:List ByteArray):∀r∈l.map b_s,r.length=1:=by intro r h; obtain⟨x,_,rfl⟩:=List.mem_map.1 h; rfl
theorem lenD_s (l:List ByteArray):∀r∈l.map d_s,r.length=1:=by intro r h; obtain⟨x,_,rfl⟩:=List.mem_map.1 h; rfl
def os_s (x:ByteArray):Prop:=(ByteArray.size x≤140737488351232)
theorem gos_s {l:List ByteArray} (h:∀z∈l,os_s z) (n:Nat) (d:ByteArray) (hd:os_s d):os_s (l.getD n d):=by
  rw[List.getD_eq_getElem?_getD]; cases h2:l[n]? with
  |none=>simpa using hd
  |some x=>exact h x (List.mem_of_getElem? h2)
theorem fromBR_s (n:Nat) (l:List ByteArray):fromBR n (l.map b_s)=l.map d_s:=by simp[fromBR,b_s,d_s,fromB,Function.comp_def]
theorem copy_s (l:List ByteArray):(l.map d_s).all (fun x=>x.all copyable)=true:=by simp[d_s,copyable,Function.comp_def]
theorem ct_s (a b:Nat) (l:List ByteArray):((take a (drop b (l.map d_s))).all fun x=>x.all copyable)=true:=by rw[← map_drop,← map_take]; exact copy_s _
def b_i (x:Int):List B:=[(.val (.int .i64 x))]
def d_i (x:Int):List D:=[(.val (.int .i64 x))]
theorem toBR_i:∀(l:List Int),toBR (l.map d_i)=l.map b_i
  |[]=>rfl
  |x::l=>by simp[toBR,toBL,toB,d_i,b_i,toBR_i l]
theorem fullR_i:∀(l:List Int),fullR (l.map d_i)=true
  |[]=>rfl
  |x::l=>by simp[fullR,fullL,full,d_i,fullR_i l]
theorem pureR_i:∀(l:List Int),pureR (l.map d_i)=true
  |[]=>rfl
  |x::l=>by simp[pureR,pureL,V.pure,d_i,pureR_i l]
theorem ft_i (a b:Nat) (l:List Int):fullR (take a (drop b (l.map d_i)))=true:=by rw[← map_drop,← map_take]; exact fullR_i _
theorem tbt_i (a b:Nat) (l:List Int):toBR (take a (drop b (l.map d_i)))=(take a (drop b l)).map b_i:=by rw[← map_drop,← map_take]; exact toBR_i _
theorem tb_i (l:List Int):toBR (take (l.map d_i).length (drop 0 (l.map d_i)))=l.map b_i:=by rw[List.drop_zero,List.take_length]; exact toBR_i l
theorem ln_i {hs q} (x:List Int) (r:PS F X hs q):PS F X hs ((0+(x.map d_i).length≤(x.map d_i).length)::(fullR (take (x.map d_i).length (drop 0 (x.map d_i)))=true)::(toBR (take (x.map d_i).length (drop 0 (x.map d_i)))=x.map b_i)::q):=.f (Nat.le_of_eq (Nat.zero_add _)) (.f (ft_i _ _ _) (.f (tb_i _) r))
theorem lenB_i (l:List Int):∀r∈l.map b_i,r.length=1:=by intro r h; obtain⟨x,_,rfl⟩:=List.mem_map.1 h; rfl
theorem lenD_i (l:List Int):∀r∈l.map d_i,r.length=1:=by intro r h; obtain⟨x,_,rfl⟩:=List.mem_map.1 h; rfl
theorem fromBR_i (n:Nat) (l:List Int):fromBR n (l.map b_i)=l.map d_i:=by simp[fromBR,b_i,d_i,fromB,Function.comp_def]
theorem copy_i (l:List Int):(l.map d_i).all (fun x=>x.all copyable)=true:=by simp[d_i,copyable,Function.comp_def]
theorem ct_i (a b:Nat) (l:List Int):((take a (drop b (l.map d_i))).all fun x=>x.all copyable)=true:=by rw[← map_drop,← map_take]; exact copy_i _
structure K_C where
  f0:Int
  f1:Int
  f2:Int
  f3:Int
  f4:(List K_si)
  f5:(List K_R)
  f6:(List K_si)
  f7:Int
  f8:Int
  f9:Int
def b_C (x:K_C):List B:=[(.val (.int .i64 x.f0)),(.val (.int .i64 x.f1)),(.val (.int .i64 x.f2)),(.val (.int .i64 x.f3)),(.sl (map b_si x.f4)),(.sl (map b_R x.f5)),(.sl (map b_si x.f6)),(.val (.int .i64 x.f7)),(.val (.int .i64 x.f8)),(.val (.int .i64 x.f9))]
def d_C (x:K_C):List D:=[(.val (.int .i64 x.f0)),(.val (.int .i64 x.f1)),(.val (.int .i64 x.f2)),(.val (.int .i64 x.f3)),(.own 2 (map d_si x.f4)),(.own 5 (map d_R x.f5)),(.own 2 (map d_si x.f6)),(.val (.int .i64 x.f7)),(.val (.int .i64 x.f8)),(.val (.int .i64 x.f9))]
theorem toBR_C:∀(l:List K_C),toBR (l.map d_C)=l.map b_C
  |[]=>rfl
  |x::l=>by simp[toBR,toBL,toB,d_C,b_C,toBR_C l,toBR_si,toBR_R]
theorem fullR_C:∀(l:List K_C),fullR (l.map d_C)=true
  |[]=>rfl
  |x::l=>by simp[fullR,fullL,full,d_C,fullR_C l,fullR_si,fullR_R]
theorem pureR_C:∀(l:List K_C),pureR (l.map d_C)=true
  |[]=>rfl
  |x::l=>by simp[pureR,pureL,V.pure,d_C,pureR_C l,pureR_si,pureR_R]
theorem ft_C (a b:Nat) (l:List K_C):fullR (take a (drop b (l.map d_C)))=true:=by rw[← map_drop,← map_take]; exact fullR_C _
theorem tbt_C (a b:Nat) (l:List K_C):toBR (take a (drop b (l.map d_C)))=(take a (drop b l)).map b_C:=by rw[← map_drop,← map_take]; exact toBR_C _
theorem tb_C (l:List K_C):toBR (take (l.map d_C).length (drop 0 (l.map d_C)))=l.map b_C:=by rw[List.drop_zero,List.take_length]; exact toBR_C l
theorem ln_C {hs q} (x:List K_C) (r:PS F X hs q):PS F X hs ((0+(x.map d_C).length≤(x.map d_C).length)::(fullR (take (x.map d_C).length (drop 0 (x.map d_C)))=true)::(toBR (take (x.map d_C).length (drop 0 (x.map d_C)))=x.map b_C)::q):=.f (Nat.le_of_eq (Nat.zero_add _)) (.f (ft_C _ _ _) (.f (tb_C _) r))
theorem lenB_C (l:List K_C):∀r∈l.map b_C,r.length=10:=by intro r h; obtain⟨x,_,rfl⟩:=List.mem_map.1 h; rfl
theorem lenD_C (l:List K_C):∀r∈l.map d_C,r.length=10:=by intro r h; obtain⟨x,_,rfl⟩:=List.mem_map.1 h; rfl
def ok_C (x:K_C):Prop:=(length x.f4*24≤140737488351232)∧(length x.f5*56≤140737488351232)∧(∀z∈x.f5,ok_R z)∧(length x.f6*24≤140737488351232)
def os_C (x:K_C):Prop:=(length x.f4*24≤140737488351232)∧(∀z∈x.f4,os_si z)∧(length x.f5*56≤140737488351232)∧(∀z∈x.f5,os_R z)∧(length x.f6*24≤140737488351232)∧(∀z∈x.f6,os_si z)
theorem os_ok_C (x:K_C) (h:os_C x):ok_C x:=⟨h.1,h.2.2.1,fun z hz=>os_ok_R z (h.2.2.2.1 z hz),h.2.2.2.2.1⟩
theorem gos_C {l:List K_C} (h:∀z∈l,os_C z) (n:Nat) (d:K_C) (hd:os_C d):os_C (l.getD n d):=by
  rw[List.getD_eq_getElem?_getD]; cases h2:l[n]? with
  |none=>simpa using hd
  |some x=>exact h x (List.mem_of_getElem? h2)
theorem gok_C {l:List K_C} (h:∀z∈l,ok_C z) (n:Nat) (d:K_C) (hd:ok_C d):ok_C (l.getD n d):=by
  rw[List.getD_eq_getElem?_getD]; cases h2:l[n]? with
  |none=>simpa using hd
  |some x=>exact h x (List.mem_of_getElem? h2)
structure K_ii where
  f0:Int
  f1:Int
def b_ii (x:K_ii):List B:=[(.val (.int .i64 x.f0)),(.val (.int .i64 x.f1))]
def d_ii (x:K_ii):List D:=[(.val (.int .i64 x.f0)),(.val (.int .i64 x.f1))]
theorem toBR_ii:∀(l:List K_ii),toBR (l.map d_ii)=l.map b_ii
  |[]=>rfl
  |x::l=>by simp[toBR,toBL,toB,d_ii,b_ii,toBR_ii l]
theorem fullR_ii:∀(l:List K_ii),fullR (l.map d_ii)=true
  |[]=>rfl
  |x::l=>by simp[fullR,fullL,full,d_ii,fullR_ii l]
theorem pureR_ii:∀(l:List K_ii),pureR (l.map d_ii)=true
  |[]=>rfl
  |x::l=>by simp[pureR,pureL,V.pure,d_ii,pureR_ii l]
theorem ft_ii (a b:Nat) (l:List K_ii):fullR (take a (drop b (l.map d_ii)))=true:=by rw[← map_drop,← map_take]; exact fullR_ii _
theorem tbt_ii (a b:Nat) (l:List K_ii):toBR (take a (drop b (l.map d_ii)))=(take a (drop b l)).map b_ii:=by rw[← map_drop,← map_take]; exact toBR_ii _
theorem tb_ii (l:List K_ii):toBR (take (l.map d_ii).length (drop 0 (l.map d_ii)))=l.map b_ii:=by rw[List.drop_zero,List.take_length]; exact toBR_ii l
theorem ln_ii {hs q} (x:List K_ii) (r:PS F X hs q):PS F X hs ((0+(x.map d_ii).length≤(x.map d_ii).length)::(fullR (take (x.map d_ii).length (drop 0 (x.map d_ii)))=true)::(toBR (take (x.map d_ii).length (drop 0 (x.map d_ii)))=x.map b_ii)::q):=.f (Nat.le_of_eq (Nat.zero_add _)) (.f (ft_ii _ _ _) (.f (tb_ii _) r))
theorem lenB_ii (l:List K_ii):∀r∈l.map b_ii,r.length=2:=by intro r h; obtain⟨x,_,rfl⟩:=List.mem_map.1 h; rfl
theorem lenD_ii (l:List K_ii):∀r∈l.map d_ii,r.length=2:=by intro r h; obtain⟨x,_,rfl⟩:=List.mem_map.1 h; rfl
theorem fromBR_ii (n:Nat) (l:List K_ii):fromBR n (l.map b_ii)=l.map d_ii:=by simp[fromBR,b_ii,d_ii,fromB,Function.comp_def]
theorem copy_ii (l:List K_ii):(l.map d_ii).all (fun x=>x.all copyable)=true:=by simp[d_ii,copyable,Function.comp_def]
theorem ct_ii (a b:Nat) (l:List K_ii):((take a (drop b (l.map d_ii))).all fun x=>x.all copyable)=true:=by rw[← map_drop,← map_take]; exact copy_ii _
structure K_LyEi where
  f0:(List Int)
  f1:Int
def b_LyEi (x:K_LyEi):List B:=[(.sl (map b_y x.f0)),(.val (.int .i64 x.f1))]
def d_LyEi (x:K_LyEi):List D:=[(.own 1 (map d_y x.f0)),(.val (.int .i64 x.f1))]
theorem toBR_LyEi:∀(l:List K_LyEi),toBR (l.map d_LyEi)=l.map b_LyEi
  |[]=>rfl
  |x::l=>by simp[toBR,toBL,toB,d_LyEi,b_LyEi,toBR_LyEi l,toBR_y]
theorem fullR_LyEi:∀(l:List K_LyEi),fullR (l.map d_LyEi)=true
  |[]=>rfl
  |x::l=>by simp[fullR,fullL,full,d_LyEi,fullR_LyEi l,fullR_y]
theorem pureR_LyEi:∀(l:List K_LyEi),pureR (l.map d_LyEi)=true
  |[]=>rfl
  |x::l=>by simp[pureR,pureL,V.pure,d_LyEi,pureR_LyEi l,pureR_y]
theorem ft_LyEi (a b:Nat) (l:List K_LyEi):fullR (take a (drop b (l.map d_LyEi)))=true:=by rw[← map_drop,← map_take]; exact fullR_LyEi _
theorem tbt_LyEi (a b:Nat) (l:List K_LyEi):toBR (take a (drop b (l.map d_LyEi)))=(take a (drop b l)).map b_LyEi:=by rw[← map_drop,← map_take]; exact toBR_LyEi _
theorem tb_LyEi (l:List K_LyEi):toBR (take (l.map d_LyEi).length (drop 0 (l.map d_LyEi)))=l.map b_LyEi:=by rw[List.drop_zero,List.take_length]; exact toBR_LyEi l
theorem ln_LyEi {hs q} (x:List K_LyEi) (r:PS F X hs q):PS F X hs ((0+(x.map d_LyEi).length≤(x.map d_LyEi).length)::(fullR (take (x.map d_LyEi).length (drop 0 (x.map d_LyEi)))=true)::(toBR (take (x.map d_LyEi).length (drop 0 (x.map d_LyEi)))=x.map b_LyEi)::q):=.f (Nat.le_of_eq (Nat.zero_add _)) (.f (ft_LyEi _ _ _) (.f (tb_LyEi _) r))
theorem lenB_LyEi (l:List K_LyEi):∀r∈l.map b_LyEi,r.length=2:=by intro r h; obtain⟨x,_,rfl⟩:=List.mem_map.1 h; rfl
theorem lenD_LyEi (l:List K_LyEi):∀r∈l.map d_LyEi,r.length=2:=by intro r h; obtain⟨x,_,rfl⟩:=List.mem_map.1 h; rfl
def ok_LyEi (x:K_LyEi):Prop:=(length x.f0*1≤140737488351232)
def os_LyEi (x:K_LyEi):Prop:=(length x.f0*1≤140737488351232)
theorem os_ok_LyEi (x:K_LyEi) (h:os_LyEi x):ok_LyEi x:=h
theorem gos_LyEi {l:List K_LyEi} (h:∀z∈l,os_LyEi z) (n:Nat) (d:K_LyEi) (hd:os_LyEi d):os_LyEi (l.getD n d):=by
  rw[List.getD_eq_getElem?_getD]; cases h2:l[n]? with
  |none=>simpa using hd
  |some x=>exact h x (List.mem_of_getElem? h2)
theorem gok_LyEi {l:List K_LyEi} (h:∀z∈l,ok_LyEi z) (n:Nat) (d:K_LyEi) (hd:ok_LyEi d):ok_LyEi (l.getD n d):=by
  rw[List.getD_eq_getElem?_getD]; cases h2:l[n]? with
  |none=>simpa using hd
  |some x=>exact h x (List.mem_of_getElem? h2)
def b_LiE (x:(List Int)):List B:=[(.sl (map b_i x))]
def d_LiE (x:(List Int)):List D:=[(.own 1 (map d_i x))]
theorem toBR_LiE:∀(l:List (List Int)),toBR (l.map d_LiE)=l.map b_LiE
  |[]=>rfl
  |x::l=>by simp[toBR,toBL,toB,d_LiE,b_LiE,toBR_LiE l,toBR_i]
theorem fullR_LiE:∀(l:List (List Int)),fullR (l.map d_LiE)=true
  |[]=>rfl
  |x::l=>by simp[fullR,fullL,full,d_LiE,fullR_LiE l,fullR_i]
theorem pureR_LiE:∀(l:List (List Int)),pureR (l.map d_LiE)=true
  |[]=>rfl
  |x::l=>by simp[pureR,pureL,V.pure,d_LiE,pureR_LiE l,pureR_i]
theorem ft_LiE (a b:Nat) (l:List (List Int)):fullR (take a (drop b (l.map d_LiE)))=true:=by rw[← map_drop,← map_take]; exact fullR_LiE _
theorem tbt_LiE (a b:Nat) (l:List (List Int)):toBR (take a (drop b (l.map d_LiE)))=(take a (drop b l)).map b_LiE:=by rw[← map_drop,← map_take]; exact toBR_LiE _
theorem tb_LiE (l:List (List Int)):toBR (take (l.map d_LiE).length (drop 0 (l.map d_LiE)))=l.map b_LiE:=by rw[List.drop_zero,List.take_length]; exact toBR_LiE l
theorem ln_LiE {hs q} (x:List (List Int)) (r:PS F X hs q):PS F X hs ((0+(x.map d_LiE).length≤(x.map d_LiE).length)::(fullR (take (x.map d_LiE).length (drop 0 (x.map d_LiE)))=true)::(toBR (take (x.map d_LiE).length (drop 0 (x.map d_LiE)))=x.map b_LiE)::q):=.f (Nat.le_of_eq (Nat.zero_add _)) (.f (ft_LiE _ _ _) (.f (tb_LiE _) r))
theorem lenB_LiE (l:List (List Int)):∀r∈l.map b_LiE,r.length=1:=by intro r h; obtain⟨x,_,rfl⟩:=List.mem_map.1 h; rfl
theorem lenD_LiE (l:List (List Int)):∀r∈l.map d_LiE,r.length=1:=by intro r h; obtain⟨x,_,rfl⟩:=List.mem_map.1 h; rfl
def ok_LiE (x:(List Int)):Prop:=(length x*8≤140737488351232)
def os_LiE (x:(List Int)):Prop:=(length x*8≤140737488351232)
theorem os_ok_LiE (x:(List Int)) (h:os_LiE x):ok_LiE x:=h
theorem gos_LiE {l:List (List Int)} (h:∀z∈l,os_LiE z) (n:Nat) (d:(List Int)) (hd:os_LiE d):os_LiE (l.getD n d):=by
  rw[List.getD_eq_getElem?_getD]; cases h2:l[n]? with
  |none=>simpa using hd
  |some x=>exact h x (List.mem_of_getElem? h2)
theorem gok_LiE {l:List (List Int)} (h:∀z∈l,ok_LiE z) (n:Nat) (d:(List Int)) (hd:ok_LiE d):ok_LiE (l.getD n d):=by
  rw[List.getD_eq_getElem?_getD]; cases h2:l[n]? with
  |none=>simpa using hd
  |some x=>exact h x (List.mem_of_getElem? h2)
def b_LsiE (x:(List K_si)):List B:=[(.sl (map b_si x))]
def d_LsiE (x:(List K_si)):List D:=[(.own 2 (map d_si x))]
theorem toBR_LsiE:∀(l:List (List K_si)),toBR (l.map d_LsiE)=l.map b_LsiE
  |[]=>rfl
  |x::l=>by simp[toBR,toBL,toB,d_LsiE,b_LsiE,toBR_LsiE l,toBR_si]
theorem fullR_LsiE:∀(l:List (List K_si)),fullR (l.map d_LsiE)=true
  |[]=>rfl
  |x::l=>by simp[fullR,fullL,full,d_LsiE,fullR_LsiE l,fullR_si]
theorem pureR_LsiE:∀(l:List (List K_si)),pureR (l.map d_LsiE)=true
  |[]=>rfl
  |x::l=>by simp[pureR,pureL,V.pure,d_LsiE,pureR_LsiE l,pureR_si]
theorem ft_LsiE (a b:Nat) (l:List (List K_si)):fullR (take a (drop b (l.map d_LsiE)))=true:=by rw[← map_drop,← map_take]; exact fullR_LsiE _
theorem tbt_LsiE (a b:Nat) (l:List (List K_si)):toBR (take a (drop b (l.map d_LsiE)))=(take a (drop b l)).map b_LsiE:=by rw[← map_drop,← map_take]; exact toBR_LsiE _
theorem tb_LsiE (l:List (List K_si)):toBR (take (l.map d_LsiE).length (drop 0 (l.map d_LsiE)))=l.map b_LsiE:=by rw[List.drop_zero,List.take_length]; exact toBR_LsiE l
theorem ln_LsiE {hs q} (x:List (List K_si)) (r:PS F X hs q):PS F X hs ((0+(x.map d_LsiE).length≤(x.map d_LsiE).length)::(fullR (take (x.map d_LsiE).length (drop 0 (x.map d_LsiE)))=true)::(toBR (take (x.map d_LsiE).length (drop 0 (x.map d_LsiE)))=x.map b_LsiE)::q):=.f (Nat.le_of_eq (Nat.zero_add _)) (.f (ft_LsiE _ _ _) (.f (tb_LsiE _) r))
theorem lenB_LsiE (l:List (List K_si)):∀r∈l.map b_LsiE,r.length=1:=by intro r h; obtain⟨x,_,rfl⟩:=List.mem_map.1 h; rfl
theorem lenD_LsiE (l:List (List K_si)):∀r∈l.map d_LsiE,r.length=1:=by intro r h; obtain⟨x,_,rfl⟩:=List.mem_map.1 h; rfl
def ok_LsiE (x:(List K_si)):Prop:=(length x*24≤140737488351232)
def os_LsiE (x:(List K_si)):Prop:=(length x*24≤140737488351232)∧(∀z∈x,os_si z)
theorem os_ok_LsiE (x:(List K_si)) (h:os_LsiE x):ok_LsiE x:=h.1
theorem gos_LsiE {l:List (List K_si)} (h:∀z∈l,os_LsiE z) (n:Nat) (d:(List K_si)) (hd:os_LsiE d):os_LsiE (l.getD n d):=by
  rw[List.getD_eq_getElem?_getD]; cases h2:l[n]? with
  |none=>simpa using hd
  |some x=>exact h x (List.mem_of_getElem? h2)
theorem gok_LsiE {l:List (List K_si)} (h:∀z∈l,ok_LsiE z) (n:Nat) (d:(List K_si)) (hd:ok_LsiE d):ok_LsiE (l.getD n d):=by
  rw[List.getD_eq_getElem?_getD]; cases h2:l[n]? with
  |none=>simpa using hd
  |some x=>exact h x (List.mem_of_getElem? h2)
structure K_iLsiE where
  f0:Int
  f1:(List K_si)
def b_iLsiE (x:K_iLsiE):List B:=[(.val (.int .i64 x.f0)),(.sl (map b_si x.f1))]
def d_iLsiE (x:K_iLsiE):List D:=[(.val (.int .i64 x.f0)),(.own 2 (map d_si x.f1))]
theorem toBR_iLsiE:∀(l:List K_iLsiE),toBR (l.map d_iLsiE)=l.map b_iLsiE
  |[]=>rfl
  |x::l=>by simp[toBR,toBL,toB,d_iLsiE,b_iLsiE,toBR_iLsiE l,toBR_si]
theorem fullR_iLsiE:∀(l:List K_iLsiE),fullR (l.map d_iLsiE)=true
  |[]=>rfl
  |x::l=>by simp[fullR,fullL,full,d_iLsiE,fullR_iLsiE l,fullR_si]
theorem pureR_iLsiE:∀(l:List K_iLsiE),pureR (l.map d_iLsiE)=true
  |[]=>rfl
  |x::l=>by simp[pureR,pureL,V.pure,d_iLsiE,pureR_iLsiE l,pureR_si]
theorem ft_iLsiE (a b:Nat) (l:List K_iLsiE):fullR (take a (drop b (l.map d_iLsiE)))=true:=by rw[← map_drop,← map_take]; exact fullR_iLsiE _
theorem tbt_iLsiE (a b:Nat) (l:List K_iLsiE):toBR (take a (drop b (l.map d_iLsiE)))=(take a (drop b l)).map b_iLsiE:=by rw[← map_drop,← map_take]; exact toBR_iLsiE _
theorem tb_iLsiE (l:List K_iLsiE):toBR (take (l.map d_iLsiE).length (drop 0 (l.map d_iLsiE)))=l.map b_iLsiE:=by rw[List.drop_zero,List.take_length]; exact toBR_iLsiE l
theorem ln_iLsiE {hs q} (x:List K_iLsiE) (r:PS F X hs q):PS F X hs ((0+(x.map d_iLsiE).length≤(x.map d_iLsiE).length)::(fullR (take (x.map d_iLsiE).length (drop 0 (x.map d_iLsiE)))=true)::(toBR (take (x.map d_iLsiE).length (drop 0 (x.map d_iLsiE)))=x.map b_iLsiE)::q):=.f (Nat.le_of_eq (Nat.zero_add _)) (.f (ft_iLsiE _ _ _) (.f (tb_iLsiE _) r))
theorem lenB_iLsiE (l:List K_iLsiE):∀r∈l.map b_iLsiE,r.length=2:=by intro r h; obtain⟨x,_,rfl⟩:=List.mem_map.1 h; rfl
theorem lenD_iLsiE (l:List K_iLsiE):∀r∈l.map d_iLsiE,r.length=2:=by intro r h; obtain⟨x,_,rfl⟩:=List.mem_map.1 h; rfl
def ok_iLsiE (x:K_iLsiE):Prop:=(length x.f1*24≤140737488351232)
def os_iLsiE (x:K_iLsiE):Prop:=(length x.f1*24≤140737488351232)∧(∀z∈x.f1,os_si z)
theorem os_ok_iLsiE (x:K_iLsiE) (h:os_iLsiE x):ok_iLsiE x:=h.1
theorem gos_iLsiE {l:List K_iLsiE} (h:∀z∈l,os_iLsiE z) (n:Nat) (d:K_iLsiE) (hd:os_iLsiE d):os_iLsiE (l.getD n d):=by
  rw[List.getD_eq_getElem?_getD]; cases h2:l[n]? with
  |none=>simpa using hd
  |some x=>exact h x (List.mem_of_getElem? h2)
theorem gok_iLsiE {l:List K_iLsiE} (h:∀z∈l,ok_iLsiE z) (n:Nat) (d:K_iLsiE) (hd:ok_iLsiE d):ok_iLsiE (l.getD n d):=by
  rw[List.getD_eq_getElem?_getD]; cases h2:l[n]? with
  |none=>simpa using hd
  |some x=>exact h x (List.mem_of_getElem? h2)
def b_Q (x:(List K_R)):List B:=[(.sl (map b_R x))]
def d_Q (x:(List K_R)):List D:=[(.own 5 (map d_R x))]
theorem toBR_Q:∀(l:List (List K_R)),toBR (l.map d_Q)=l.map b_Q
  |[]=>rfl
  |x::l=>by simp[toBR,toBL,toB,d_Q,b_Q,toBR_Q l,toBR_R]
theorem fullR_Q:∀(l:List (List K_R)),fullR (l.map d_Q)=true
  |[]=>rfl
  |x::l=>by simp[fullR,fullL,full,d_Q,fullR_Q l,fullR_R]
theorem pureR_Q:∀(l:List (List K_R)),pureR (l.map d_Q)=true
  |[]=>rfl
  |x::l=>by simp[pureR,pureL,V.pure,d_Q,pureR_Q l,pureR_R]
theorem ft_Q (a b:Nat) (l:List (List K_R)):fullR (take a (drop b (l.map d_Q)))=true:=by rw[← map_drop,← map_take]; exact fullR_Q _
theorem tbt_Q (a b:Nat) (l:List (List K_R)):toBR (take a (drop b (l.map d_Q)))=(take a (drop b l)).map b_Q:=by rw[← map_drop,← map_take]; exact toBR_Q _
theorem tb_Q (l:List (List K_R)):toBR (take (l.map d_Q).length (drop 0 (l.map d_Q)))=l.map b_Q:=by rw[List.drop_zero,List.take_length]; exact toBR_Q l
theorem ln_Q {hs q} (x:List (List K_R)) (r:PS F X hs q):PS F X hs ((0+(x.map d_Q).length≤(x.map d_Q).length)::(fullR (take (x.map d_Q).length (drop 0 (x.map d_Q)))=true)::(toBR (take (x.map d_Q).length (drop 0 (x.map d_Q)))=x.map b_Q)::q):=.f (Nat.le_of_eq (Nat.zero_add _)) (.f (ft_Q _ _ _) (.f (tb_Q _) r))
theorem lenB_Q (l:List (List K_R)):∀r∈l.map b_Q,r.length=1:=by intro r h; obtain⟨x,_,rfl⟩:=List.mem_map.1 h; rfl
theorem lenD_Q (l:List (List K_R)):∀r∈l.map d_Q,r.length=1:=by intro r h; obtain⟨x,_,rfl⟩:=List.mem_map.1 h; rfl
def ok_Q (x:(List K_R)):Prop:=(length x*56≤140737488351232)∧(∀z∈x,ok_R z)
def os_Q (x:(List K_R)):Prop:=(length x*56≤140737488351232)∧(∀z∈x,os_R z)
theorem os_ok_Q (x:(List K_R)) (h:os_Q x):ok_Q x:=⟨h.1,fun z hz=>os_ok_R z (h.2 z hz)⟩
theorem gos_Q {l:List (List K_R)} (h:∀z∈l,os_Q z) (n:Nat) (d:(List K_R)) (hd:os_Q d):os_Q (l.getD n d):=by
  rw[List.getD_eq_getElem?_getD]; cases h2:l[n]? with
  |none=>simpa using hd
  |some x=>exact h x (List.mem_of_getElem? h2)
theorem gok_Q {l:List (List K_R)} (h:∀z∈l,ok_Q z) (n:Nat) (d:(List K_R)) (hd:ok_Q d):ok_Q (l.getD n d):=by
  rw[List.getD_eq_getElem?_getD]; cases h2:l[n]? with
  |none=>simpa using hd
  |some x=>exact h x (List.mem_of_getElem? h2)
attribute [local simp] strInts_len byteRows_len toBR_y fullR_y pureR_y lenB_y lenD_y fromBR_y copy_y toBR_LyE fullR_LyE pureR_LyE lenB_LyE lenD_LyE toBR_b fullR_b pureR_b lenB_b lenD_b fromBR_b copy_b toBR_si fullR_si pureR_si lenB_si lenD_si fromBR_si copy_si toBR_R fullR_R pureR_R lenB_R lenD_R toBR_B fullR_B pureR_B lenB_B lenD_B toBR_s fullR_s pureR_s lenB_s lenD_s fromBR_s copy_s toBR_i fullR_i pureR_i lenB_i lenD_i fromBR_i copy_i toBR_C fullR_C pureR_C lenB_C lenD_C toBR_ii fullR_ii pureR_ii lenB_ii lenD_ii fromBR_ii copy_ii toBR_LyEi fullR_LyEi pureR_LyEi lenB_LyEi lenD_LyEi toBR_LiE fullR_LiE pureR_LiE lenB_LiE lenD_LiE toBR_LsiE fullR_LsiE pureR_LsiE lenB_LsiE lenD_LsiE toBR_iLsiE fullR_iLsiE pureR_iLsiE lenB_iLsiE lenD_iLsiE toBR_Q fullR_Q pureR_Q lenB_Q lenD_Q
def S (a:K_LyEi) (n:Nat):Prop:=(∀z∈a.f0,(0:Int)≤z∧z≤255)∧length a.f0≤140737488351232∧0≤a.f1∧a.f1+n≤1000000
theorem S_le {a:K_LyEi} {n m:Nat} (h:S a n) (hm:m≤n):S a m:=⟨h.1,h.2.1,h.2.2.1,by have:=h.2.2.2; omega⟩
theorem at_eq (a:K_LyEi) (h:S a 1):wrap .i64 (wrap .i64 (a.f1+1) - 1)=a.f1∧wrap .i64 (a.f1+1)=a.f1+1:=by
  obtain⟨_,_,h1,h2⟩:=h
  have e:wrap .i64 (a.f1+1)=a.f1+1:=wrap64 (by omega)
  refine⟨?_,e⟩
  rw[e,wrap64 (by omega)]; omega
theorem idx_lt (x:Int) (l:List Int) (h0:0≤x) (h:((length (map b_y l)):Int)≠0):toNat (Int.tmod x ((length (map b_y l)):Int)) < length l:=by
  rw[length_map] at h⊢
  have h1:=Int.tmod_lt_of_pos x (show (0:Int) <(l.length:Int) by omega)
  have h2:=Int.tmod_nonneg (l.length:Int) h0
  omega
theorem getD_b (l:List Int) (h:∀z∈l,(0:Int)≤z∧z≤255) (i:Nat):0≤getD l i 0∧getD l i 0≤255:=by
  rw[List.getD_eq_getElem?_getD]
  cases e:l[i]? with
  |none=>simp
  |some z=>exact h z (List.mem_of_getElem? e)
theorem oset {l:List K_R} {i:Nat} {x:K_R} (h:∀z∈l,z.f3.length≤12) (hx:x.f3.length≤12):∀z∈l.set i x,ok_R z:=by
  intro z hz
  rcases List.mem_or_eq_of_mem_set hz with hz | rfl
  · have:=h z hz; unfold ok_R; omega
  · unfold ok_R; omega
theorem oall {l:List K_R} (h:∀z∈l,z.f3.length≤12):∀z∈l,ok_R z:=by
  intro z hz; have:=h z hz; unfold ok_R; omega
theorem oapp {l:List K_R} {x:K_R} (h:∀z∈l,z.f3.length≤12) (hx:x.f3.length≤12):∀z∈l++ [x],ok_R z:=by
  intro z hz
  rcases List.mem_append.1 hz with hz | hz
  · have:=h z hz; unfold ok_R; omega
  · cases List.mem_singleton.1 hz; unfold ok_R; omega
theorem oget {l:List K_R} (h:∀z∈l,z.f3.length≤12) (i:Nat):(getD l i (K_R.mk 0 0 0 [] 0)).f3.length≤12:=by
  rw[List.getD_eq_getElem?_getD]
  cases h2:l[i]? with
  |none=>simp
  |some x=>exact h x (List.mem_of_getElem? h2)
def GW (l:List K_si):Prop:=l.length≤12∧(∀z∈l,1≤z.f1∧z.f1≤9999)∧∀z∈l,ByteArray.size z.f0≤3
def GP (n:Nat) (l:List K_si):Prop:=l.length≤n∧∀z∈l,ByteArray.size z.f0≤3
def GR (n:Nat) (l:List K_R):Prop:=l.length≤n∧∀z∈l,GP 12 z.f3
def GL (a:K_B):Prop:=(1≤a.f0∧a.f0≤12)∧(0≤a.f1∧a.f1≤1000)∧GW a.f2∧GR 6 a.f3∧GP 8 a.f4
def GB (a:K_B):Prop:=GP 13 a.f2∧GR 7 a.f3∧GP 9 a.f4
theorem gp_le {n m:Nat} {l:List K_si} (h:GP n l) (hm:n≤m):GP m l:=⟨Nat.le_trans h.1 hm,h.2⟩
theorem gr_le {n m:Nat} {l:List K_R} (h:GR n l) (hm:n≤m):GR m l:=⟨Nat.le_trans h.1 hm,h.2⟩
theorem gp_app {n:Nat} {l:List K_si} {x:K_si} (h:GP n l) (hx:ByteArray.size x.f0≤3):GP (n+1) (l++ [x]):=by
  refine⟨by have:=h.1; simp; omega,fun z hz=>?_⟩
  rcases List.mem_append.1 hz with hz | hz
  · exact h.2 z hz
  · rw[List.mem_singleton.1 hz]; exact hx
theorem gr_app {n:Nat} {l:List K_R} {x:K_R} (h:GR n l) (hx:GP 12 x.f3):GR (n+1) (l++ [x]):=by
  refine⟨by have:=h.1; simp; omega,fun z hz=>?_⟩
  rcases List.mem_append.1 hz with hz | hz
  · exact h.2 z hz
  · rw[List.mem_singleton.1 hz]; exact hx
theorem gr_set {n:Nat} {l:List K_R} {i:Nat} {x:K_R} (h:GR n l) (hx:GP 12 x.f3):GR n (l.set i x):=by
  refine⟨by rw[length_set]; exact h.1,fun z hz=>?_⟩
  rcases List.mem_or_eq_of_mem_set hz with hz | rfl
  · exact h.2 z hz
  · exact hx
theorem gr_get {n:Nat} {l:List K_R} (h:GR n l) (i:Nat):GP 12 (getD l i (K_R.mk 0 0 0 [] 0)).f3:=by
  rw[List.getD_eq_getElem?_getD]
  cases e:l[i]? with
  |none=>exact⟨by simp,fun z hz=>by cases hz⟩
  |some x=>exact h.2 x (List.mem_of_getElem? e)
theorem sz_get {l:List K_si} (h:∀z∈l,ByteArray.size z.f0≤3) (i:Nat):ByteArray.size (getD l i (K_si.mk (⟨#[]⟩:ByteArray) 0)).f0≤3:=by
  rw[List.getD_eq_getElem?_getD]
  cases e:l[i]? with
  |none=>simp[ByteArray.size]
  |some x=>exact h x (List.mem_of_getElem? e)
theorem sz_set {l:List K_si} (h:∀z∈l,ByteArray.size z.f0≤3) (i:Nat) {x:K_si} (hx:ByteArray.size x.f0≤3):∀z∈l.set i x,ByteArray.size z.f0≤3:=by
  intro z hz
  rcases List.mem_or_eq_of_mem_set hz with hz | rfl
  · exact h z hz
  · exact hx
theorem sz_app {l:List K_si} (h:∀z∈l,ByteArray.size z.f0≤3) {x:K_si} (hx:ByteArray.size x.f0≤3):∀z∈l++ [x],ByteArray.size z.f0≤3:=by
  intro z hz
  rcases List.mem_append.1 hz with hz | hz
  · exact h z hz
  · rw[List.mem_singleton.1 hz]; exact hx
theorem glh {a:K_B} (h:GL a):a.f2.length≤12∧a.f3.length≤6∧a.f4.length≤8∧1≤a.f0∧a.f0≤12∧0≤a.f1∧a.f1≤1000:=⟨h.2.2.1.1,h.2.2.2.1.1,h.2.2.2.2.1,h.1.1,h.1.2,h.2.1.1,h.2.1.2⟩
theorem glw {a:K_B} (h:GL a):∀z∈a.f2,1≤z.f1∧z.f1≤9999:=h.2.2.1.2.1
theorem glp {a:K_B} (h:GL a):∀z∈a.f3,length z.f3≤100:=fun z hz=>Nat.le_trans (h.2.2.2.1.2 z hz).1 (by decide)
theorem glo {a:K_B} (h:GL a):∀z∈a.f3,ok_R z:=fun z hz=>by have:=(h.2.2.2.1.2 z hz).1; unfold ok_R; omega
theorem gs_os {l:List K_si} (h:∀z∈l,ByteArray.size z.f0≤3):∀z∈l,os_si z:=fun z hz=>Nat.le_trans (h z hz) (by decide)
theorem gb_os {a:K_B} (h:GB a):os_B a:=by
  have h1:=h.1.1
  have h2:=h.2.1.1
  have h3:=h.2.2.1
  refine⟨by omega,gs_os h.1.2,by omega,fun z hz=>?_,by omega,gs_os h.2.2.2⟩
  have q:=h.2.1.2 z hz
  have q1:=q.1
  exact⟨by omega,gs_os q.2⟩
/-! loop.example/g00539/laws.lwBig -/
def m6 (a0:(List Int)):Bool:=
  (decide (((length (map b_y a0)):Int) > 1048576))
theorem e6 {l0_0:Nat} {a0:(List Int)}:Ev F X (.call 6 [(.one (.bor l0_0 (map b_y a0)))] [] [] [(.one (.val (.bool (m6 a0))))]):=by
  exact cp (by kernel_rfl) .nil
/-! loop.example/g00539/spec.l1Source -/
def m38 (a0:(List Int)):K_LyEi:=
  (K_LyEi.mk a0 0)
theorem e38 {l0_0:Nat} {a0:(List Int)}:Ev F X (.call 38 [(.one (.bor (l0_0+1) (map b_y a0)))] [] [] [(.ptr [(.bor l0_0 (map b_y ((m38 a0).f0))),(.val (.int .i64 ((m38 a0).f1)))])]):=by
  exact cp (by kernel_rfl) .nil
theorem S_src (c:List Int) (h1:∀z∈c,(0:Int)≤z∧z≤255) (h2:length c≤140737488351232):S (m38 c) 1000:=by
  unfold m38
  exact⟨h1,h2,by simp,by simp⟩
/-! loop.example/g00539/spec.l1Next -/
def o48_0 (a0:K_LyEi) (a1:Int):K_LyEi:=
  (K_LyEi.mk a0.f0 (wrap .i64 (a0.f1+1)))
def m48 (a0:K_LyEi) (a1:Int):Int:=
  if(decide (a1 < 1))=true then 0 else
  if(((length (map b_y a0.f0)):Int)==0)=true then(Int.tmod (wrap .i64 ((wrap .i64 ((wrap .i64 (a0.f1+1)) - 1))*7)) a1) else
    if(decide (a1 > 200))=true then(Int.tmod (wrap .i64 ((wrap .i64 ((wrap .i64 ((wrap .i64 ((wrap .i64 ((getD a0.f0 (toNat (Int.tmod (wrap .i64 ((wrap .i64 (a0.f1+1)) - 1)) ((length (map b_y a0.f0)):Int))) 0)))+(wrap .i64 ((wrap .i64 (Int.tdiv (wrap .i64 ((wrap .i64 (a0.f1+1)) - 1)) ((length (map b_y a0.f0)):Int)))*37))))*251))+(wrap .i64 ((wrap .i64 ((getD a0.f0 (toNat (Int.tmod (wrap .i64 ((wrap .i64 ((wrap .i64 (a0.f1+1)) - 1))+1)) ((length (map b_y a0.f0)):Int))) 0)))*13))))+(wrap .i64 ((wrap .i64 (a0.f1+1)) - 1)))) a1) else
      (Int.tmod (wrap .i64 ((wrap .i64 ((getD a0.f0 (toNat (Int.tmod (wrap .i64 ((wrap .i64 (a0.f1+1)) - 1)) ((length (map b_y a0.f0)):Int))) 0)))+(wrap .i64 ((wrap .i64 (Int.tdiv (wrap .i64 ((wrap .i64 (a0.f1+1)) - 1)) ((length (map b_y a0.f0)):Int)))*37)))) a1)
theorem e48 {l0_0:Nat} {a0:K_LyEi} {a1:Int} (hy0:S a0 1):Ev F X (.call 48 [(.ptr ⟨(0,0,0),[],0,0,2⟩),(.one (.val (.int .i64 a1)))] [((0,0,0),⟨2,[[(.bor (l0_0+1) (map b_y a0.f0)),(.val (.int .i64 a0.f1))]],[]⟩)] [[[(.bor l0_0 (map b_y a0.f0)),(.val (.int .i64 ((o48_0 a0 a1).f1)))]]] [(.one (.val (.int .i64 (m48 a0 a1))))]):=by
  unfold m48 o48_0
  by_cases h0:(decide (a1 < 1))=true
  · try simp only[if_pos h0]
    exact cq [false] (by kernel_rfl) (.f trivial (.f h0 (.h 24 (.b true) .nil)))
  · try simp only[if_neg h0]
    have P1 {hs q} (r:PS F X hs q):=(PS.f trivial (.f (nt h0) (.h 24 (.b false) r)))
    by_cases h1:(((length (map b_y a0.f0)):Int)==0)=true
    · try simp only[if_pos h1]
      have f3:a1≠0:=(by simp only[decide_eq_true_eq] at*; omega)
      exact cq [false] (by kernel_rfl) (P1 (.f h1 (.f f3 (.h 53 (.b true) .nil))))
    · try simp only[if_neg h1]
      have f3:((length (map b_y a0.f0)):Int)≠0:=(by intro q; simp_all; done)
      have f4:0≤(Int.tmod (wrap .i64 ((wrap .i64 (a0.f1+1)) - 1)) ((length (map b_y a0.f0)):Int)):=(by rw[(at_eq a0 hy0).1]; exact Int.tmod_nonneg _ hy0.2.2.1)
      have f5:(map b_y a0.f0)[(toNat (Int.tmod (wrap .i64 ((wrap .i64 (a0.f1+1)) - 1)) ((length (map b_y a0.f0)):Int)))]?=some [(.val (.int .u8 (getD a0.f0 (toNat (Int.tmod (wrap .i64 ((wrap .i64 (a0.f1+1)) - 1)) ((length (map b_y a0.f0)):Int))) 0)))]:=(by rw[getElem?_map,getD_at a0.f0 (toNat (Int.tmod (wrap .i64 ((wrap .i64 (a0.f1+1)) - 1)) ((length (map b_y a0.f0)):Int))) 0 (by first | exact True.intro | with_reducible rfl | with_reducible assumption | omega |(simp only[decide_eq_true_eq] at*; omega) |(intro q; simp_all; done) |(rw[(at_eq a0 hy0).1]; exact Int.tmod_nonneg _ hy0.2.2.1) |(rw[(at_eq a0 hy0).1,(at_eq a0 hy0).2]; exact Int.tmod_nonneg _ (by have:=hy0.2.2.1; omega)) |(rw[(at_eq a0 hy0).1]; exact idx_lt _ _ hy0.2.2.1 (by assumption)) |(rw[(at_eq a0 hy0).1,(at_eq a0 hy0).2]; exact idx_lt _ _ (by have:=hy0.2.2.1; omega) (by assumption)) |(simp only[decide_eq_true_eq] at*; omega) |(simp only[length_map]; omega) |(simp; omega) |(simp[take_of_length_le]; done) | assumption | trivial |(simp[*,b_y,d_y,byteRows_eq,ints_y]; done))]; rfl)
      have P2 {hs q} (r:PS F X hs q):=(P1 (.f (nt h1) (.f f3 (.f f4 (.f f5 (.f f3 (.f trivial (.h 53 (.b false) (.h 69 (.row [(.val (.int .u8 (getD a0.f0 (toNat (Int.tmod (wrap .i64 ((wrap .i64 (a0.f1+1)) - 1)) ((length (map b_y a0.f0)):Int))) 0)))]) r)))))))))
      by_cases h2:(decide (a1 > 200))=true
      · try simp only[if_pos h2]
        have f11:0≤(Int.tmod (wrap .i64 ((wrap .i64 ((wrap .i64 (a0.f1+1)) - 1))+1)) ((length (map b_y a0.f0)):Int)):=(by rw[(at_eq a0 hy0).1,(at_eq a0 hy0).2]; exact Int.tmod_nonneg _ (by have:=hy0.2.2.1; omega))
        have f12:(map b_y a0.f0)[(toNat (Int.tmod (wrap .i64 ((wrap .i64 ((wrap .i64 (a0.f1+1)) - 1))+1)) ((length (map b_y a0.f0)):Int)))]?=some [(.val (.int .u8 (getD a0.f0 (toNat (Int.tmod (wrap .i64 ((wrap .i64 ((wrap .i64 (a0.f1+1)) - 1))+1)) ((length (map b_y a0.f0)):Int))) 0)))]:=(by rw[getElem?_map,getD_at a0.f0 (toNat (Int.tmod (wrap .i64 ((wrap .i64 ((wrap .i64 (a0.f1+1)) - 1))+1)) ((length (map b_y a0.f0)):Int))) 0 (by first | exact True.intro | with_reducible rfl | with_reducible assumption | omega |(simp only[decide_eq_true_eq] at*; omega) |(intro q; simp_all; done) |(rw[(at_eq a0 hy0).1]; exact Int.tmod_nonneg _ hy0.2.2.1) |(rw[(at_eq a0 hy0).1,(at_eq a0 hy0).2]; exact Int.tmod_nonneg _ (by have:=hy0.2.2.1; omega)) |(rw[(at_eq a0 hy0).1]; exact idx_lt _ _ hy0.2.2.1 (by assumption)) |(rw[(at_eq a0 hy0).1,(at_eq a0 hy0).2]; exact idx_lt _ _ (by have:=hy0.2.2.1; omega) (by assumption)) |(simp only[decide_eq_true_eq] at*; omega) |(simp only[length_map]; omega) |(simp; omega) |(simp[take_of_length_le]; done) | assumption | trivial |(simp[*,b_y,d_y,byteRows_eq,ints_y]; done))]; rfl)
        have f15:a1≠0:=(by simp only[decide_eq_true_eq] at*; omega)
        exact cq [false] (by kernel_rfl) (P2 (.f h2 (.f trivial (.f f3 (.f f11 (.f f12 (.f trivial (.f trivial (.f f15 (.h 90 (.b true) (.h 112 (.row [(.val (.int .u8 (getD a0.f0 (toNat (Int.tmod (wrap .i64 ((wrap .i64 ((wrap .i64 (a0.f1+1)) - 1))+1)) ((length (map b_y a0.f0)):Int))) 0)))]) .nil)))))))))))
      · try simp only[if_neg h2]
        have f9:a1≠0:=(by simp only[decide_eq_true_eq] at*; omega)
        exact cq [false] (by kernel_rfl) (P2 (.f (nt h2) (.f f9 (.h 90 (.b false) .nil))))
theorem rng (a:K_LyEi) (k:Int) (h:S a 1) (hk:1≤k) (hk2:k≤1000000000):0≤m48 a k∧m48 a k < k:=by
  have hm:∀x:Int,0≤x→0≤Int.tmod x k∧Int.tmod x k < k:=fun x hx=>⟨Int.tmod_nonneg _ hx,Int.tmod_lt_of_pos _ (by omega)⟩
  obtain⟨e1,e2⟩:=at_eq a h
  obtain⟨hb,hl,h1,h2⟩:=h
  unfold m48
  rw[if_neg (by simp only[decide_eq_true_eq]; omega)]
  rw[e1]
  split
  · apply hm
    rw[wrap64 (by omega)]; omega
  · rename_i hn
    have hn':0 <((length (map b_y a.f0)):Int):=by simp at hn⊢; exact List.length_pos_iff.2 hn
    have hq1:0≤Int.tdiv a.f1 ((length (map b_y a.f0)):Int):=Int.tdiv_nonneg h1 (by omega)
    have hq2:Int.tdiv a.f1 ((length (map b_y a.f0)):Int)≤a.f1:=by rw[Int.tdiv_eq_ediv_of_nonneg h1]; exact Int.ediv_le_self _ h1
    have hx:=getD_b a.f0 hb (toNat (Int.tmod a.f1 ((length (map b_y a.f0)):Int)))
    have hy:=getD_b a.f0 hb (toNat (Int.tmod (wrap .i64 (a.f1+1)) ((length (map b_y a.f0)):Int)))
    revert hq1 hq2 hx hy
    generalize Int.tdiv a.f1 _=q
    generalize getD a.f0 (toNat (Int.tmod a.f1 _)) 0=x
    generalize getD a.f0 _ 0=y
    intro hq1 hq2 hx hy
    have g1:wrap .i64 q=q:=wrap64 (by omega)
    have g2:wrap .i64 (q*37)=q*37:=wrap64 (by omega)
    have g3:wrap .i64 x=x:=wrap64 (by omega)
    have g4:wrap .i64 (x+q*37)=x+q*37:=wrap64 (by omega)
    have g5:wrap .i64 ((x+q*37)*251)=(x+q*37)*251:=wrap64 (by omega)
    have g6:wrap .i64 y=y:=wrap64 (by omega)
    have g7:wrap .i64 (y*13)=y*13:=wrap64 (by omega)
    have g8:wrap .i64 ((x+q*37)*251+y*13)=(x+q*37)*251+y*13:=wrap64 (by omega)
    have g9:wrap .i64 ((x+q*37)*251+y*13+a.f1)=(x+q*37)*251+y*13+a.f1:=wrap64 (by omega)
    simp only[g1,g2,g3,g4,g5,g6,g7,g8,g9]
    split
    · apply hm; omega
    · apply hm; omega
theorem st48 {a:K_LyEi} {n:Nat} (k:Int) (h:S a (n+1)):S (o48_0 a k) n:=by
  have e:=(at_eq a (S_le h (by omega))).2
  obtain⟨hb,hl,h1,h2⟩:=h
  unfold o48_0
  refine⟨hb,hl,?_,?_⟩
  · show 0≤wrap .i64 (a.f1+1)
    rw[e]; omega
  · show wrap .i64 (a.f1+1)+n≤1000000
    rw[e]; omega
theorem sm48 {a:K_LyEi} {n:Nat} {f:List Int} (k:Int) (h:S a (n+1)) (e:a.f0=f):S (K_LyEi.mk f ((o48_0 a k).f1)) n:=by subst e; exact st48 k h
/-! loop.example/g00539/spec.l13Worker -/
def o40_0 (a0:K_LyEi):K_LyEi:=
  (K_LyEi.mk a0.f0 ((o48_0 a0 4).f1))
def m40 (a0:K_LyEi):ByteArray:=
  (getD ([(⟨#[98,111,98]⟩:ByteArray),(⟨#[97,110,110]⟩:ByteArray),(⟨#[101,118,101]⟩:ByteArray),(⟨#[120,49]⟩:ByteArray)]) (toNat (m48 a0 4)) (⟨#[]⟩:ByteArray))
theorem e40 {l0_0:Nat} {a0:K_LyEi} (hy0:S a0 1):Ev F X (.call 40 [(.ptr ⟨(0,0,0),[],0,0,2⟩)] [((0,0,0),⟨2,[[(.bor (l0_0+1) (map b_y a0.f0)),(.val (.int .i64 a0.f1))]],[]⟩)] [[[(.bor l0_0 (map b_y a0.f0)),(.val (.int .i64 ((o40_0 a0).f1)))]]] [(.one (.val (.string (m40 a0))))]):=by
  have f0:Ev F X (.call 48 [(.ptr ⟨(0,0,0),[],0,0,2⟩),(.oi 4)] [((0,0,0),⟨2,[[(.bor (l0_0+2) (map b_y a0.f0)),(.i a0.f1)]],[]⟩)] [[[(.bor (l0_0+1) (map b_y a0.f0)),(.i ((o48_0 a0 4).f1))]]] [(.oi (m48 a0 4))]):=(e48 (a0:=a0) (a1:=4) (by with_reducible assumption))
  have f1:4≤4:=(by omega)
  have f2:0≤(m48 a0 4)∧(m48 a0 4) <(4:Int):=(by have q:=rng a0 4 hy0 (by omega) (by omega); omega)
  have f3:([[(.val (.string (⟨#[98,111,98]⟩:ByteArray)))],[(.val (.string (⟨#[97,110,110]⟩:ByteArray)))],[(.val (.string (⟨#[101,118,101]⟩:ByteArray)))],[(.val (.string (⟨#[120,49]⟩:ByteArray)))]]:List (List D))[(0+(toNat (m48 a0 4)))]?=some [(.val (.string (getD ([(⟨#[98,111,98]⟩:ByteArray),(⟨#[97,110,110]⟩:ByteArray),(⟨#[101,118,101]⟩:ByteArray),(⟨#[120,49]⟩:ByteArray)]) (toNat (m48 a0 4)) (⟨#[]⟩:ByteArray))))]:=(show (map d_s [(⟨#[98,111,98]⟩:ByteArray),(⟨#[97,110,110]⟩:ByteArray),(⟨#[101,118,101]⟩:ByteArray),(⟨#[120,49]⟩:ByteArray)])[(0+(toNat (m48 a0 4)))]?=some [(.val (.string (getD ([(⟨#[98,111,98]⟩:ByteArray),(⟨#[97,110,110]⟩:ByteArray),(⟨#[101,118,101]⟩:ByteArray),(⟨#[120,49]⟩:ByteArray)]) (toNat (m48 a0 4)) (⟨#[]⟩:ByteArray))))] from(by rw[Nat.zero_add,getElem?_map,getD_at ([(⟨#[98,111,98]⟩:ByteArray),(⟨#[97,110,110]⟩:ByteArray),(⟨#[101,118,101]⟩:ByteArray),(⟨#[120,49]⟩:ByteArray)]) (toNat (m48 a0 4)) (⟨#[]⟩:ByteArray) (by first | exact True.intro | with_reducible rfl | with_reducible assumption | omega |(have q:=rng a0 4 hy0 (by omega) (by omega); omega) |(have q:=rng a0 4 hy0 (by omega) (by omega); simp only[length_cons,length_nil]; omega) |(unfold m48;(repeat' split)<;>simp_all<;>omega) |(simp only[decide_eq_true_eq] at*; omega) |(simp only[length_cons,length_nil]; omega) |(simp; omega) |(simp[take_of_length_le]; done) | assumption | trivial |(simp[*,byteRows_eq,ints_y]; done))]; rfl))
  exact cq [false] (by kernel_rfl) (.r 7 [false] [] f0 (.f f1 (.f f2 (.f f3 (.h 11 (.rowD [(.val (.string (getD ([(⟨#[98,111,98]⟩:ByteArray),(⟨#[97,110,110]⟩:ByteArray),(⟨#[101,118,101]⟩:ByteArray),(⟨#[120,49]⟩:ByteArray)]) (toNat (m48 a0 4)) (⟨#[]⟩:ByteArray))))]) .nil)))))
theorem st40 {a:K_LyEi} {n:Nat} (h:S a (n+1)):S (o40_0 a) n:=by
  unfold o40_0; exact sm48 _ h rfl
theorem sm40 {a:K_LyEi} {n:Nat} {f:List Int} (h:S a (n+1)) (e:a.f0=f):S (K_LyEi.mk f ((o40_0 a).f1)) n:=by subst e; exact st40 h
theorem gsz (l:List ByteArray) (h:∀s∈l,ByteArray.size s≤3) (i:Nat):ByteArray.size (getD l i (⟨#[]⟩:ByteArray))≤3:=by
  rw[List.getD_eq_getElem?_getD]
  cases e:l[i]? with
  |none=>simp[ByteArray.size]
  |some z=>exact h z (List.mem_of_getElem? e)
theorem wsz (a:K_LyEi):ByteArray.size (m40 a)≤3:=by
  unfold m40
  exact gsz _ (by decide) _
/-! loop.example/g00539/spec.l1Pick -/
def o41_0 (a0:K_LyEi) (a1:(List Int)):K_LyEi:=
  (K_LyEi.mk a0.f0 ((o48_0 a0 ((length (map b_i a1)):Int)).f1))
def m41 (a0:K_LyEi) (a1:(List Int)):Int:=
  (getD a1 (toNat (m48 a0 ((length (map b_i a1)):Int))) 0)
theorem e41 {l0_0:Nat} {a0:K_LyEi} {l1_0:Nat} {a1:(List Int)} (hy0:S a0 1) (hy1:0 < length a1) (hy2:length a1≤1000):Ev F X (.call 41 [(.ptr ⟨(0,0,0),[],0,0,2⟩),(.one (.bor l1_0 (map b_i a1)))] [((0,0,0),⟨2,[[(.bor (l0_0+1) (map b_y a0.f0)),(.val (.int .i64 a0.f1))]],[]⟩)] [[[(.bor l0_0 (map b_y a0.f0)),(.val (.int .i64 ((o41_0 a0 a1).f1)))]]] [(.one (.val (.int .i64 (m41 a0 a1))))]):=by
  have f0:Ev F X (.call 48 [(.ptr ⟨(0,0,0),[],0,0,2⟩),(.oi ((length (map b_i a1)):Int))] [((0,0,0),⟨2,[[(.bor (l0_0+2) (map b_y a0.f0)),(.i a0.f1)]],[]⟩)] [[[(.bor (l0_0+1) (map b_y a0.f0)),(.i ((o48_0 a0 ((length (map b_i a1)):Int)).f1))]]] [(.oi (m48 a0 ((length (map b_i a1)):Int)))]):=(e48 (a0:=a0) (a1:=((length (map b_i a1)):Int)) (by with_reducible assumption))
  have f1:0≤(m48 a0 ((length (map b_i a1)):Int)):=(by exact(rng a0 _ hy0 (by simp; omega) (by simp; omega)).1)
  have f2:(map b_i a1)[(toNat (m48 a0 ((length (map b_i a1)):Int)))]?=some [(.val (.int .i64 (getD a1 (toNat (m48 a0 ((length (map b_i a1)):Int))) 0)))]:=(by rw[getElem?_map,getD_at a1 (toNat (m48 a0 ((length (map b_i a1)):Int))) 0 (by first | exact True.intro | with_reducible rfl | with_reducible assumption | omega |(exact(rng a0 _ hy0 (by simp; omega) (by simp; omega)).1) |(have q:=rng a0 ((length (map b_i a1)):Int) hy0 (by simp; omega) (by simp; omega); simp only[length_map] at*; omega) |(unfold m48;(repeat' split)<;>simp_all<;>omega) |(simp only[decide_eq_true_eq] at*; omega) |(simp only[length_map]; omega) |(simp; omega) |(simp[take_of_length_le]; done) | assumption | trivial |(simp[*,b_i,d_i,byteRows_eq,ints_y]; done))]; rfl)
  exact cq [false] (by kernel_rfl) (.r 11 [false] [] f0 (.f f1 (.f f2 (.h 13 (.row [(.val (.int .i64 (getD a1 (toNat (m48 a0 ((length (map b_i a1)):Int))) 0)))]) .nil))))
theorem st41 {a:K_LyEi} {n:Nat} (l:List Int) (h:S a (n+1)):S (o41_0 a l) n:=by
  unfold o41_0; exact sm48 _ h rfl
theorem sm41 {a:K_LyEi} {n:Nat} {f:List Int} (l:List Int) (h:S a (n+1)) (e:a.f0=f):S (K_LyEi.mk f ((o41_0 a l).f1)) n:=by subst e; exact st41 l h
/-! loop.example/g00539/spec.l14Bad -/
def m52 (a0:Int):K_C:=
  (K_C.mk a0 0 0 0 [] [] [] 0 0 0)
theorem e52 {a0:Int}:Ev F X (.call 52 [(.one (.val (.int .i64 a0)))] [] [] [(.agg (d_C (K_C.mk a0 0 0 0 [] [] [] 0 0 0)))]):=by
  have f0:pureR []=true:=(by trivial)
  exact cp (by kernel_rfl) (.f f0 (.f f0 (.f f0 .nil)))
/-! loop.example/g00539/spec.l1In -/
def m105 (a0:Int) (a1:Int) (a2:Int):Bool:=
  if(decide (a0≥a1))=true then(decide (a0≤a2)) else
  false
theorem e105 {a0:Int} {a1:Int} {a2:Int}:Ev F X (.call 105 [(.one (.val (.int .i64 a0))),(.one (.val (.int .i64 a1))),(.one (.val (.int .i64 a2)))] [] [] [(.one (.val (.bool (m105 a0 a1 a2))))]):=by
  unfold m105
  by_cases h0:(decide (a0≥a1))=true
  · try simp only[if_pos h0]
    exact cp (by kernel_rfl) (.f h0 (.f h0 (.f h0 (.f h0 (.h 10 (.b true) (.h 12 (.b true) (.h 14 (.b true) (.h 17 (.b true) .nil))))))))
  · try simp only[if_neg h0]
    exact cp (by kernel_rfl) (.f (nt h0) (.f (nt h0) (.f (nt h0) (.f (nt h0) (.h 10 (.b false) (.h 12 (.b false) (.h 14 (.b false) (.h 17 (.b false) .nil))))))))
theorem jn105 {a b c:Int} (h:¬(!(m105 a b c))=true):b≤a∧a≤c:=by
  simp only[Bool.not_eq_true',Bool.not_eq_false] at h
  unfold m105 at h; split at h<;>simp_all<;>omega
theorem fee_ok {t p:Int} (h1:0≤t) (h2:t≤1000000) (h3:0≤p) (h4:p≤1000):0≤wrap .i64 (t - wrap .i64 (Int.tdiv (wrap .i64 (t*p)) 1000))∧wrap .i64 (t - wrap .i64 (Int.tdiv (wrap .i64 (t*p)) 1000))≤1000000:=by
  have q1:=Int.mul_nonneg h1 h3
  have q2:t*p≤t*1000:=Int.mul_le_mul_of_nonneg_left h4 h1
  rw[wrap64 (x:=t*p) (by omega),Int.tdiv_eq_ediv_of_nonneg q1,wrap64 (x:=t*p / 1000) (by omega),wrap64 (by omega)]
  omega
/-! loop.example/g00539/spec.l9Letter -/
def m140 (a0:Int):Bool:=
  if (decide (a0 ≥ 97)) = true then (if (decide (a0 ≤ 122)) = true then true else
    if (decide (a0 ≥ 65)) = true then (if (decide (a0 ≤ 90)) = true then true else
        if(decide (a0≥48))=true then(decide (a0≤57)) else
          false) else
      if(decide (a0≥48))=true then(decide (a0≤57)) else
        false) else
  if (decide (a0 ≥ 65)) = true then (if (decide (a0 ≤ 90)) = true then true else
      if(decide (a0≥48))=true then(decide (a0≤57)) else
        false) else
    if(decide (a0≥48))=true then(decide (a0≤57)) else
      false
theorem e140 {a0:Int}:Ev F X (.call 140 [(.one (.val (.int .u8 a0)))] [] [] [(.one (.val (.bool (m140 a0))))]):=by
  unfold m140
  by_cases h0:(decide (a0≥97))=true
  · try simp only[if_pos h0]
    have P1 {hs q} (r:PS F X hs q):=(PS.f h0 (.f h0 (.f h0 (.h 8 (.b true) (.h 10 (.b true) (.h 13 (.b true) r))))))
    by_cases h1:(decide (a0≤122))=true
    · try simp only[if_pos h1]
      exact cp (by kernel_rfl) (P1 (.f h1 (.f h1 (.f h1 (.f h1 (.f h1 (.h 16 (.b true) (.h 18 (.b true) (.h 20 (.b true) (.h 26 (.b true) (.h 29 (.b true) .nil)))))))))))
    · try simp only[if_neg h1]
      have P2 {hs q} (r:PS F X hs q):=(P1 (.f (nt h1) (.f (nt h1) (.f (nt h1) (.h 16 (.b false) (.h 18 (.b false) (.h 20 (.b false) r)))))))
      by_cases h2:(decide (a0≥65))=true
      · try simp only[if_pos h2]
        have P3 {hs q} (r:PS F X hs q):=(P2 (.f h2 (.f h2 (.f (nt h1) (.f h2 (.f (nt h1) (.h 22 (.b true) (.h 24 (.b true) (.h 26 (.b false) (.h 27 (.b true) (.h 29 (.b false) r)))))))))))
        by_cases h3:(decide (a0≤90))=true
        · try simp only[if_pos h3]
          exact cp (by kernel_rfl) (P3 (.f h3 (.f h3 (.f h3 (.f h3 (.f h3 (.h 32 (.b true) (.h 34 (.b true) (.h 36 (.b true) (.h 42 (.b true) (.h 45 (.b true) .nil)))))))))))
        · try simp only[if_neg h3]
          have P4 {hs q} (r:PS F X hs q):=(P3 (.f (nt h3) (.f (nt h3) (.f (nt h3) (.h 32 (.b false) (.h 34 (.b false) (.h 36 (.b false) r)))))))
          by_cases h4:(decide (a0≥48))=true
          · try simp only[if_pos h4]
            exact cp (by kernel_rfl) (P4 (.f h4 (.f h4 (.f (nt h3) (.f h4 (.f (nt h3) (.h 38 (.b true) (.h 40 (.b true) (.h 42 (.b false) (.h 43 (.b true) (.h 45 (.b false) .nil)))))))))))
          · try simp only[if_neg h4]
            exact cp (by kernel_rfl) (P4 (.f (nt h4) (.f (nt h4) (.f (nt h3) (.f (nt h4) (.f (nt h3) (.h 38 (.b false) (.h 40 (.b false) (.h 42 (.b false) (.h 43 (.b false) (.h 45 (.b false) .nil)))))))))))
      · try simp only[if_neg h2]
        have P3 {hs q} (r:PS F X hs q):=(P2 (.f (nt h2) (.f (nt h2) (.f (nt h1) (.f (nt h2) (.f (nt h1) (.h 22 (.b false) (.h 24 (.b false) (.h 26 (.b false) (.h 27 (.b false) (.h 29 (.b false) r)))))))))))
        by_cases h3:(decide (a0≥48))=true
        · try simp only[if_pos h3]
          exact cp (by kernel_rfl) (P3 (.f h3 (.f h3 (.f h3 (.h 38 (.b true) (.h 40 (.b true) (.h 43 (.b true) .nil)))))))
        · try simp only[if_neg h3]
          exact cp (by kernel_rfl) (P3 (.f (nt h3) (.f (nt h3) (.f (nt h3) (.h 38 (.b false) (.h 40 (.b false) (.h 43 (.b false) .nil)))))))
  · try simp only[if_neg h0]
    have P1 {hs q} (r:PS F X hs q):=(PS.f (nt h0) (.f (nt h0) (.f (nt h0) (.h 8 (.b false) (.h 10 (.b false) (.h 13 (.b false) r))))))
    by_cases h1:(decide (a0≥65))=true
    · try simp only[if_pos h1]
      have P2 {hs q} (r:PS F X hs q):=(P1 (.f h1 (.f h1 (.f h1 (.h 22 (.b true) (.h 24 (.b true) (.h 27 (.b true) r)))))))
      by_cases h2:(decide (a0≤90))=true
      · try simp only[if_pos h2]
        exact cp (by kernel_rfl) (P2 (.f h2 (.f h2 (.f h2 (.f h2 (.f h2 (.h 32 (.b true) (.h 34 (.b true) (.h 36 (.b true) (.h 42 (.b true) (.h 45 (.b true) .nil)))))))))))
      · try simp only[if_neg h2]
        have P3 {hs q} (r:PS F X hs q):=(P2 (.f (nt h2) (.f (nt h2) (.f (nt h2) (.h 32 (.b false) (.h 34 (.b false) (.h 36 (.b false) r)))))))
        by_cases h3:(decide (a0≥48))=true
        · try simp only[if_pos h3]
          exact cp (by kernel_rfl) (P3 (.f h3 (.f h3 (.f (nt h2) (.f h3 (.f (nt h2) (.h 38 (.b true) (.h 40 (.b true) (.h 42 (.b false) (.h 43 (.b true) (.h 45 (.b false) .nil)))))))))))
        · try simp only[if_neg h3]
          exact cp (by kernel_rfl) (P3 (.f (nt h3) (.f (nt h3) (.f (nt h2) (.f (nt h3) (.f (nt h2) (.h 38 (.b false) (.h 40 (.b false) (.h 42 (.b false) (.h 43 (.b false) (.h 45 (.b false) .nil)))))))))))
    · try simp only[if_neg h1]
      have P2 {hs q} (r:PS F X hs q):=(P1 (.f (nt h1) (.f (nt h1) (.f (nt h1) (.h 22 (.b false) (.h 24 (.b false) (.h 27 (.b false) r)))))))
      by_cases h2:(decide (a0≥48))=true
      · try simp only[if_pos h2]
        exact cp (by kernel_rfl) (P2 (.f h2 (.f h2 (.f h2 (.h 38 (.b true) (.h 40 (.b true) (.h 43 (.b true) .nil)))))))
      · try simp only[if_neg h2]
        exact cp (by kernel_rfl) (P2 (.f (nt h2) (.f (nt h2) (.f (nt h2) (.h 38 (.b false) (.h 40 (.b false) (.h 43 (.b false) .nil)))))))
/-! loop 115_0 -/
inductive O115_0 where
  |k0 (w0:Int) (w1:Bool)
  |k1
def r115_0 (a0:ByteArray):Nat→Int→O115_0
  |n+1,i=>
    if(!(m140 (byteAt a0 i)))=true then(O115_0.k1) else
    (r115_0 a0 n (i+1))
  |0,i=>(O115_0.k0 i (decide (i <(ByteArray.size a0:Int))))
def h115_0 (a0:ByteArray) (i:Int) :St:=⟨[(0,(.one (.val (.string a0)))),(3,(.one (.val (.int .i64 i))))],[]⟩
def ex115_0:O115_0→VX.Exit
  |.k0 _ _=>(.exit 0)
  |.k1=>.ret
def fin115_0 (a0:ByteArray):O115_0→St
  |.k0 w0 w1=>⟨[(0,(.one (.val (.string a0)))),(3,(.one (.val (.int .i64 w0)))),(7,(.one (.val (.bool w1))))],[]⟩
  |.k1=>⟨[(2,(.one (.val (.bool false))))],[]⟩
theorem t115_0 {a0:ByteArray} (hy0:ByteArray.size a0≤140737488351232):∀(n:Nat) (i:Int),0≤i→n=toNat ((ByteArray.size a0:Int) - i)→(ByteArray.size a0:Int)≤9223372036854775807→Ev F X (.code l115_0 (h115_0 a0 i) (ex115_0 (r115_0 a0 n i)) (fin115_0 a0 (r115_0 a0 n i)))
  |0,i,hn0,hn,hi0=>by
    have hc:¬(decide (i <(ByteArray.size a0:Int)))=true:=by
      simp only[decide_eq_true_eq]; omega
    have st:=ch b115_0 (h115_0 a0 i) ⟨[(0,(.one (.val (.string a0)))),(3,(.oi i)),(7,(.one (.val (.bool (decide (i <(ByteArray.size a0:Int)))))))],[]⟩ (.exit 0) 9 (by kernel_rfl) (.f (nt hc) (.h 8 (.b false) .nil))
    rw[show (⟨[(0,(.one (.val (.string a0)))),(3,(.oi i)),(7,(.one (.val (.bool (decide (i <(ByteArray.size a0:Int)))))))],[]⟩:St)=fin115_0 a0 (.k0 i (decide (i <(ByteArray.size a0:Int)))) from(by rfl)] at st
    exact .loopX st (show ((.exit 0):VX.Exit)≠.normal from by simp)
  |n+1,i,hn0,hn,hi0=>by
    have hc:(decide (i <(ByteArray.size a0:Int)))=true:=by
      simp only[decide_eq_true_eq]; omega
    have hw:wrap .i64 (i+1)=i+1:=wrap64 (by omega)
    have hj0:=hi0; try simp only[length_map,length_set,length_append,length_replicate,length_cons,length_nil,Int.toNat_natCast] at hj0
    simp only[r115_0]
    have f1:0≤i∧i <(ByteArray.size a0:Int):=(by omega)
    have P1 {hs q} (r:PS F X hs q):=(PS.f hc (.f f1 (.h 8 (.b true) (.r 16 [] [] (e140 (a0:=(byteAt a0 i))) r))))
    by_cases h_1:(!(m140 (byteAt a0 i)))=true
    · try simp only[if_pos h_1]
      have st:=ch b115_0 (h115_0 a0 i) ⟨[(2,(.one (.val (.bool false))))],[]⟩ .ret 22 (by kernel_rfl) (P1 (.f h_1 (.h 19 (.b true) .nil)))
      rw[show (⟨[(2,(.one (.val (.bool false))))],[]⟩:St)=fin115_0 a0 (.k1) from(by rfl)] at st
      exact .loopX st (show (.ret:VX.Exit)≠.normal from by simp)
    · try simp only[if_neg h_1]
      have st:=ch b115_0 (h115_0 a0 i) ⟨[(0,(.one (.val (.string a0)))),(3,(.oi (wrap .i64 (i+1))))],[]⟩ .normal 26 (by kernel_rfl) (P1 (.f (nt h_1) (.f trivial (.h 19 (.b false) .nil))))
      have ih:=t115_0 (a0:=a0) hy0 n (i+1) (by omega) (by omega) (by omega)
      rw[show (⟨[(0,(.one (.val (.string a0)))),(3,(.oi (wrap .i64 (i+1))))],[]⟩:St)=h115_0 a0 (i+1)  from(by unfold h115_0; simp only[hw]; done)] at st
      exact .loopN st ih
/-! loop.example/g00539/spec.l9Arg -/
def m115 (a0:ByteArray):Bool:=
  (match r115_0 a0 (toNat (ByteArray.size a0:Int)) 0 with | .k0 w0_0 w1_0=>(decide ((ByteArray.size a0:Int)≤12)) | .k1=>false)
theorem e115 {a0:ByteArray} (hy0:ByteArray.size a0≤140737488351232):Ev F X (.call 115 [(.one (.val (.string a0)))] [] [] [(.one (.val (.bool (m115 a0))))]):=by
  unfold m115
  cases h0:r115_0 a0 (toNat (ByteArray.size a0:Int)) 0 with
  |k0 w0_0 w1_0=>
    try dsimp only
    have f0:(⟨[(0,(.one (.val (.string a0)))),(3,(.oi 0))],[]⟩:St)=h115_0 a0 0 :=(by rfl)
    have f1:Ev F X (.code l115_0 (h115_0 a0 0) (.exit 0) ⟨[(0,(.one (.val (.string a0)))),(3,(.oi w0_0)),(7,(.one (.val (.bool w1_0))))],[]⟩):=(by have t:Ev F X (.code l115_0 (h115_0 a0 0) (ex115_0 (r115_0 a0 (toNat (ByteArray.size a0:Int)) 0)) (fin115_0 a0 (r115_0 a0 (toNat (ByteArray.size a0:Int)) 0))):=t115_0 (a0:=a0) (by assumption) _ 0 (by omega) (by omega) (by omega); rw[h0] at t; exact t)
    exact cp (by kernel_rfl) (.f f0 (.f f1 (.h 4 (.loop (h115_0 a0 0) (.exit 0) ⟨[(0,(.one (.val (.string a0)))),(3,(.one (.val (.int .i64 w0_0)))),(7,(.one (.val (.bool w1_0))))],[]⟩) .nil)))
  |k1=>
    try dsimp only
    have f0:(⟨[(0,(.one (.val (.string a0)))),(3,(.oi 0))],[]⟩:St)=h115_0 a0 0 :=(by rfl)
    have f1:Ev F X (.code l115_0 (h115_0 a0 0) .ret ⟨[(2,(.one (.val (.bool false))))],[]⟩):=(by have t:Ev F X (.code l115_0 (h115_0 a0 0) (ex115_0 (r115_0 a0 (toNat (ByteArray.size a0:Int)) 0)) (fin115_0 a0 (r115_0 a0 (toNat (ByteArray.size a0:Int)) 0))):=t115_0 (a0:=a0) (by assumption) _ 0 (by omega) (by omega) (by omega); rw[h0] at t; exact t)
    exact cp (by kernel_rfl) (.f f0 (.f f1 (.h 4 (.loop (h115_0 a0 0) .ret ⟨[(2,(.one (.val (.bool false))))],[]⟩) .nil)))
/-! loop.example/g00539/spec.l13One -/
def m102 (a0:K_si):Int:=
  if(a0.f0.toList==(⟨#[]⟩:ByteArray).toList)=true then 5 else
  if(!(m115 a0.f0))=true then 5 else
    if(!(m105 a0.f1 1 9999))=true then 3 else
      0
theorem e102 {l0:Nat} {a0:K_si} (hy0:ByteArray.size a0.f0≤140737488351232):Ev F X (.call 102 [(.bptr l0 [(.val (.string a0.f0)),(.val (.int .i64 a0.f1))])] [] [] [(.one (.val (.int .i64 (m102 a0))))]):=by
  unfold m102
  by_cases h0:(a0.f0.toList==(⟨#[]⟩:ByteArray).toList)=true
  · try simp only[if_pos h0]
    exact cp (by kernel_rfl) (.f h0 (.f h0 (.f h0 (.f h0 (.f h0 (.f h0 (.f h0 (.h 14 (.b true) (.h 16 (.b true) (.h 18 (.b true) (.h 20 (.b true) (.h 22 (.b true) (.h 24 (.b true) (.h 27 (.b true) .nil))))))))))))))
  · try simp only[if_neg h0]
    have P1 {hs q} (r:PS F X hs q):=(PS.f (nt h0) (.f (nt h0) (.f (nt h0) (.f (nt h0) (.f (nt h0) (.h 14 (.b false) (.h 16 (.b false) (.h 18 (.b false) (.h 20 (.b false) (.h 22 (.b false) (.r 23 [] [] (e115 (a0:=a0.f0) (by with_reducible assumption)) (.f (nt h0) (.f (nt h0) (.h 24 (.b false) (.h 27 (.b false) r)))))))))))))))
    by_cases h1:(!(m115 a0.f0))=true
    · try simp only[if_pos h1]
      exact cp (by kernel_rfl) (P1 (.f h1 (.h 28 (.b true) .nil)))
    · try simp only[if_neg h1]
      have P2 {hs q} (r:PS F X hs q):=(P1 (.f (nt h1) (.h 28 (.b false) (.r 38 [] [] (e105 (a0:=a0.f1) (a1:=1) (a2:=9999)) r))))
      by_cases h2:(!(m105 a0.f1 1 9999))=true
      · try simp only[if_pos h2]
        exact cp (by kernel_rfl) (P2 (.f h2 (.h 41 (.b true) .nil)))
      · try simp only[if_neg h2]
        exact cp (by kernel_rfl) (P2 (.f (nt h2) (.h 41 (.b false) .nil)))
/-! loop.example/g00539/spec.l14Weights -/
def m137 (a0:(List K_si)):(List K_si):=
  (([])++a0)
theorem e137 {l0_0:Nat} {a0:(List K_si)} (hy0:length a0*24≤70368744177664):Ev F X (.call 137 [(.one (.bor l0_0 (map b_si a0)))] [] [] [(.one (.own 2 (map d_si (([])++a0))))]):=by
  have f0:0+0≤0:=(by omega)
  have f1:(length ([]++(fromBR l0_0 (map b_si a0))))*24≤70368744177664:=(by simp; omega)
  have f2:∀r∈((fromBR l0_0 (map b_si a0)):List (List D)),r.length=2:=(by simp[*,b_si,d_si,byteRows_eq,ints_y]; done)
  have f3:([]++(fromBR l0_0 (map b_si a0)))=(map d_si (([])++a0)):=(by simp[byteRows_eq,ints_y,take_of_length_le,d_y,d_LyE,d_b,d_si,d_R,d_B,d_s,d_i,d_C,d_ii,d_LyEi,d_LiE,d_LsiE,d_iLsiE,d_Q,fromBR_y,fromBR_b,fromBR_si,fromBR_s,fromBR_i,fromBR_ii]; done)
  have f5:(length ([]++(fromBR l0_0 (map b_si a0))))=(length (map d_si (([])++a0))):=(by simp; done)
  exact cp (by kernel_rfl) (.f f0 (.f f1 (.f f2 (.f f3 (pe 0 (.f f5 (.f (pureR_si (([])++a0)) (.h 10 (.norm (2,0,0) (map d_si (([])++a0))) .nil))))))))
/-! loop 103_0 -/
inductive O103_0 where
  |k0 (w0:List K_R) (w1:Int) (w2:Bool)
def r103_0 (a0:K_B):List K_R→Int→List K_R→O103_0
  |x0::y0,i,v0=>
    (r103_0 a0 y0 (i+1) (v0++([(K_R.mk x0.f0 x0.f1 x0.f2 (([])++x0.f3) x0.f4)])))
  |[],i,v0=>(O103_0.k0 v0 i (decide (i <((length (map b_R a0.f3)):Int))))
def h103_0 (l0_2:Nat) (l0_3:Nat) (l0_4:Nat) (a0:K_B) (i:Int) (v0:List K_R):St:=⟨[(1,(.ptr ⟨(1,0,0),[],0,0,8⟩)),(2,(.ptr ⟨(2,0,0),[],0,0,8⟩)),(3,(.ptr ⟨(3,0,0),[],0,0,8⟩)),(4,(.one (.val (.int .i64 i))))],[((1,0,0),.live ⟨8,[[(.val (.int .i64 a0.f0)),(.val (.int .i64 a0.f1)),(.bor l0_2 (map b_si a0.f2)),(.bor l0_3 (map b_R a0.f3)),(.bor l0_4 (map b_si a0.f4)),(.val (.int .i64 a0.f5)),(.val (.int .i64 a0.f6)),(.val (.int .i64 a0.f7))]],[]⟩),((2,0,0),.live ⟨8,[[(.val (.int .i64 0)),(.val (.int .i64 0)),(.own 2 []),(.own 5 []),(.own 2 []),(.val (.int .i64 0)),(.val (.int .i64 0)),(.val (.int .i64 0))]],[]⟩),((3,0,0),.live ⟨8,[[(.val (.int .i64 a0.f0)),(.val (.int .i64 a0.f1)),(.own 2 (map d_si (([])++a0.f2))),(.own 5 (map d_R v0)),(.own 2 (map d_si (([])++a0.f4))),(.val (.int .i64 a0.f5)),(.val (.int .i64 a0.f6)),(.val (.int .i64 a0.f7))]],[]⟩)]⟩
def ex103_0:O103_0→VX.Exit
  |.k0 _ _ _=>(.exit 0)
def fin103_0 (l0_2:Nat) (l0_3:Nat) (l0_4:Nat) (a0:K_B):O103_0→St
  |.k0 w0 w1 w2=>⟨[(1,(.ptr ⟨(1,0,0),[],0,0,8⟩)),(2,(.ptr ⟨(2,0,0),[],0,0,8⟩)),(3,(.ptr ⟨(3,0,0),[],0,0,8⟩)),(4,(.one (.val (.int .i64 w1)))),(20,(.one (.val (.bool w2))))],[((1,0,0),.live ⟨8,[[(.val (.int .i64 a0.f0)),(.val (.int .i64 a0.f1)),(.bor l0_2 (map b_si a0.f2)),(.bor l0_3 (map b_R a0.f3)),(.bor l0_4 (map b_si a0.f4)),(.val (.int .i64 a0.f5)),(.val (.int .i64 a0.f6)),(.val (.int .i64 a0.f7))]],[]⟩),((2,0,0),.live ⟨8,[[(.val (.int .i64 0)),(.val (.int .i64 0)),(.own 2 []),(.own 5 []),(.own 2 []),(.val (.int .i64 0)),(.val (.int .i64 0)),(.val (.int .i64 0))]],[]⟩),((3,0,0),.live ⟨8,[[(.val (.int .i64 a0.f0)),(.val (.int .i64 a0.f1)),(.own 2 (map d_si (([])++a0.f2))),(.own 5 (map d_R w0)),(.own 2 (map d_si (([])++a0.f4))),(.val (.int .i64 a0.f5)),(.val (.int .i64 a0.f6)),(.val (.int .i64 a0.f7))]],[]⟩)]⟩
theorem t103_0 {l0_2:Nat} {l0_3:Nat} {l0_4:Nat} {a0:K_B} (hy0:length a0.f2≤100) (hy1:length a0.f3≤100) (hy2:∀z∈a0.f3,length z.f3≤100) (hy3:length a0.f4≤100) (hy4:∀z∈a0.f3,ok_R z):∀(y0:List K_R) (p:List K_R) (v0:List K_R),p++y0=a0.f3→(length v0+length y0)*56≤70368744177664→Ev F X (.code l103_0 (h103_0 l0_2 l0_3 l0_4 a0 (length p:Int) v0) (ex103_0 (r103_0 a0 y0 (length p:Int) v0)) (fin103_0 l0_2 l0_3 l0_4 a0 (r103_0 a0 y0 (length p:Int) v0)))
  |[],p,v0,hp0,hi0=>by
    have hc:¬(decide ((length p:Int) <((length (map b_R a0.f3)):Int)))=true:=by
      rw[← hp0]; simp only[length_map,length_set,length_append,length_replicate,length_cons,length_nil,decide_eq_true_eq]; omega
    have hj0:=hi0; try simp only[length_map,length_set,length_append,length_replicate,length_cons,length_nil,Int.toNat_natCast] at hj0
    have st:=ch b103_0 (h103_0 l0_2 l0_3 l0_4 a0 (length p:Int) v0) ⟨[(1,(.ptr ⟨(1,0,0),[],0,0,8⟩)),(2,(.ptr ⟨(2,0,0),[],0,0,8⟩)),(3,(.ptr ⟨(3,0,0),[],0,0,8⟩)),(4,(.oi (length p:Int))),(20,(.one (.val (.bool (decide ((length p:Int) <((length (map b_R a0.f3)):Int)))))))],[((1,0,0),.live ⟨8,[[(.i a0.f0),(.i a0.f1),(.bor l0_2 (map b_si a0.f2)),(.bor l0_3 (map b_R a0.f3)),(.bor l0_4 (map b_si a0.f4)),(.i a0.f5),(.i a0.f6),(.i a0.f7)]],[]⟩),((2,0,0),.live ⟨8,[[(.i 0),(.i 0),(.own 2 []),(.own 5 []),(.own 2 []),(.i 0),(.i 0),(.i 0)]],[]⟩),((3,0,0),.live ⟨8,[[(.i a0.f0),(.i a0.f1),(.own 2 (map d_si (([])++a0.f2))),(.own 5 (map d_R v0)),(.own 2 (map d_si (([])++a0.f4))),(.i a0.f5),(.i a0.f6),(.i a0.f7)]],[]⟩)]⟩ (.exit 0) 11 (by kernel_rfl) (.f (nt hc) (.h 10 (.b false) .nil))
    rw[show (⟨[(1,(.ptr ⟨(1,0,0),[],0,0,8⟩)),(2,(.ptr ⟨(2,0,0),[],0,0,8⟩)),(3,(.ptr ⟨(3,0,0),[],0,0,8⟩)),(4,(.oi (length p:Int))),(20,(.one (.val (.bool (decide ((length p:Int) <((length (map b_R a0.f3)):Int)))))))],[((1,0,0),.live ⟨8,[[(.i a0.f0),(.i a0.f1),(.bor l0_2 (map b_si a0.f2)),(.bor l0_3 (map b_R a0.f3)),(.bor l0_4 (map b_si a0.f4)),(.i a0.f5),(.i a0.f6),(.i a0.f7)]],[]⟩),((2,0,0),.live ⟨8,[[(.i 0),(.i 0),(.own 2 []),(.own 5 []),(.own 2 []),(.i 0),(.i 0),(.i 0)]],[]⟩),((3,0,0),.live ⟨8,[[(.i a0.f0),(.i a0.f1),(.own 2 (map d_si (([])++a0.f2))),(.own 5 (map d_R v0)),(.own 2 (map d_si (([])++a0.f4))),(.i a0.f5),(.i a0.f6),(.i a0.f7)]],[]⟩)]⟩:St)=fin103_0 l0_2 l0_3 l0_4 a0 (.k0 v0 (length p:Int) (decide ((length p:Int) <((length (map b_R a0.f3)):Int)))) from(by rfl)] at st
    exact .loopX st (show ((.exit 0):VX.Exit)≠.normal from by simp)
  |x0::y0,p,v0,hp0,hi0=>by
    have hc:(decide ((length p:Int) <((length (map b_R a0.f3)):Int)))=true:=by
      rw[← hp0]; simp only[length_map,length_set,length_append,length_replicate,length_cons,length_nil,decide_eq_true_eq]; omega
    have Hx0:(a0.f3)[toNat (length p:Int)]?=some x0:=by
      rw[← hp0,Int.toNat_natCast]; simp
    have Nx0_2:=hy2 x0 (List.mem_of_getElem? Hx0)
    have Mx0_0:=hy4 x0 (List.mem_of_getElem? Hx0)
    have hlen:length (a0.f3)=length p+length y0+1:=by rw[← hp0]; simp; omega
    have hw:wrap .i64 ((length p:Int)+1)=(length p:Int)+1:=wrap64 (by omega)
    have hj0:=hi0; try simp only[length_map,length_set,length_append,length_replicate,length_cons,length_nil,Int.toNat_natCast] at hj0
    simp only[r103_0]
    have f1:0≤(length p:Int):=(by omega)
    have f2:(map b_R a0.f3)[(toNat (length p:Int))]?=some (b_R x0):=(by rw[getElem?_map,Hx0]; rfl)
    have f8:0+(length (map d_R v0))≤(length (map d_R v0)):=(by omega)
    have f9:1≤1:=(by omega)
    have f10:((take 1 (drop 0 [[(.val (.int .i64 x0.f0)),(.val (.int .i64 x0.f1)),(.val (.int .i64 x0.f2)),(.own 2 (map d_si (([])++x0.f3))),(.val (.int .i64 x0.f4))]])).all fun x=>x.all copyable)=false:=(by trivial)
    have f13:(length ((take (length (map d_R v0)) (drop 0 (map d_R v0)))++([[(.val (.int .i64 x0.f0)),(.val (.int .i64 x0.f1)),(.val (.int .i64 x0.f2)),(.own 2 (map d_si (([])++x0.f3))),(.val (.int .i64 x0.f4))]]:List (List D))))*56≤70368744177664:=(by simp only[length_map,length_append,length_cons,length_nil,length_take,length_drop]; omega)
    have f14:∀r∈([[(.val (.int .i64 x0.f0)),(.val (.int .i64 x0.f1)),(.val (.int .i64 x0.f2)),(.own 2 (map d_si (([])++x0.f3))),(.val (.int .i64 x0.f4))]]:List (List D)),r.length=5:=(by simp; done)
    have f17:([[(.val (.int .i64 a0.f0)),(.val (.int .i64 a0.f1)),(.own 2 (map d_si (([])++a0.f2))),(.own 5 ((take (length (map d_R v0)) (drop 0 (map d_R v0)))++([[(.val (.int .i64 x0.f0)),(.val (.int .i64 x0.f1)),(.val (.int .i64 x0.f2)),(.own 2 (map d_si (([])++x0.f3))),(.val (.int .i64 x0.f4))]]:List (List D)))),(.own 2 (map d_si (([])++a0.f4))),(.val (.int .i64 a0.f5)),(.val (.int .i64 a0.f6)),(.val (.int .i64 a0.f7))]]:List (List D))=[[(.val (.int .i64 a0.f0)),(.val (.int .i64 a0.f1)),(.own 2 (map d_si (([])++a0.f2))),(.own 5 (map d_R (v0++([(K_R.mk x0.f0 x0.f1 x0.f2 (([])++x0.f3) x0.f4)])))),(.own 2 (map d_si (([])++a0.f4))),(.val (.int .i64 a0.f5)),(.val (.int .i64 a0.f6)),(.val (.int .i64 a0.f7))]]:=(by simp[byteRows_eq,ints_y,take_of_length_le,d_y,d_LyE,d_b,d_si,d_R,d_B,d_s,d_i,d_C,d_ii,d_LyEi,d_LiE,d_LsiE,d_iLsiE,d_Q,fromBR_y,fromBR_b,fromBR_si,fromBR_s,fromBR_i,fromBR_ii]; done)
    have st:=ch b103_0 (h103_0 l0_2 l0_3 l0_4 a0 (length p:Int) v0) ⟨[(1,(.ptr ⟨(1,0,0),[],0,0,8⟩)),(2,(.ptr ⟨(2,0,0),[],0,0,8⟩)),(3,(.ptr ⟨(3,0,0),[],0,0,8⟩)),(4,(.oi (wrap .i64 ((length p:Int)+1))))],[((1,0,0),.live ⟨8,[[(.i a0.f0),(.i a0.f1),(.bor l0_2 (map b_si a0.f2)),(.bor l0_3 (map b_R a0.f3)),(.bor l0_4 (map b_si a0.f4)),(.i a0.f5),(.i a0.f6),(.i a0.f7)]],[]⟩),((2,0,0),.live ⟨8,[[(.i 0),(.i 0),(.own 2 []),(.own 5 []),(.own 2 []),(.i 0),(.i 0),(.i 0)]],[]⟩),((3,0,0),.live ⟨8,[[(.i a0.f0),(.i a0.f1),(.own 2 (map d_si (([])++a0.f2))),(.own 5 (map d_R (v0++([(K_R.mk x0.f0 x0.f1 x0.f2 (([])++x0.f3) x0.f4)])))),(.own 2 (map d_si (([])++a0.f4))),(.i a0.f5),(.i a0.f6),(.i a0.f7)]],[]⟩)]⟩ .normal 56 (by kernel_rfl) (.f hc (.f f1 (.f f2 (.h 10 (.b true) (.h 18 (.row (b_R x0)) (.r 30 [] [] (e137 (l0_0:=(l0_3+1)) (a0:=x0.f3) (by omega)) (pe 0 (pe (length (map d_si (([])++x0.f3))) (pe 0 (pe (length (map d_si (([])++x0.f3))) (.f f8 (.f f9 (.f f10 (pe 0 (pe 1 (.f f13 (.f f14 (pe 0 (pe (length ((take (length (map d_R v0)) (drop 0 (map d_R v0)))++([[(.i x0.f0),(.i x0.f1),(.i x0.f2),(.own 2 (map d_si (([])++x0.f3))),(.i x0.f4)]]:List (List D)))) (.f f17 (.f trivial (.h 44 (.b false) (.h 49 (.norm (3,0,0) [[(.i a0.f0),(.i a0.f1),(.own 2 (map d_si (([])++a0.f2))),(.own 5 (map d_R (v0++([(K_R.mk x0.f0 x0.f1 x0.f2 (([])++x0.f3) x0.f4)])))),(.own 2 (map d_si (([])++a0.f4))),(.i a0.f5),(.i a0.f6),(.i a0.f7)]]) .nil)))))))))))))))))))))))
    have ih:=t103_0 (l0_2:=l0_2) (l0_3:=l0_3) (l0_4:=l0_4) (a0:=a0) hy0 hy1 hy2 hy3 hy4 y0 (p++ [x0]) (v0++([(K_R.mk x0.f0 x0.f1 x0.f2 (([])++x0.f3) x0.f4)])) (by rw[append_assoc]; exact hp0) (by simp only[length_map,length_set,length_append,length_replicate,length_cons,length_nil]; omega)
    rw[show ((p++ [x0]).length:Int)=(p.length:Int)+1 from by simp] at ih
    rw[show (⟨[(1,(.ptr ⟨(1,0,0),[],0,0,8⟩)),(2,(.ptr ⟨(2,0,0),[],0,0,8⟩)),(3,(.ptr ⟨(3,0,0),[],0,0,8⟩)),(4,(.oi (wrap .i64 ((length p:Int)+1))))],[((1,0,0),.live ⟨8,[[(.i a0.f0),(.i a0.f1),(.bor l0_2 (map b_si a0.f2)),(.bor l0_3 (map b_R a0.f3)),(.bor l0_4 (map b_si a0.f4)),(.i a0.f5),(.i a0.f6),(.i a0.f7)]],[]⟩),((2,0,0),.live ⟨8,[[(.i 0),(.i 0),(.own 2 []),(.own 5 []),(.own 2 []),(.i 0),(.i 0),(.i 0)]],[]⟩),((3,0,0),.live ⟨8,[[(.i a0.f0),(.i a0.f1),(.own 2 (map d_si (([])++a0.f2))),(.own 5 (map d_R (v0++([(K_R.mk x0.f0 x0.f1 x0.f2 (([])++x0.f3) x0.f4)])))),(.own 2 (map d_si (([])++a0.f4))),(.i a0.f5),(.i a0.f6),(.i a0.f7)]],[]⟩)]⟩:St)=h103_0 l0_2 l0_3 l0_4 a0 ((length p:Int)+1) (v0++([(K_R.mk x0.f0 x0.f1 x0.f2 (([])++x0.f3) x0.f4)])) from(by unfold h103_0; simp only[hw]; done)] at st
    exact .loopN st ih
def post103_0 (n0:Nat):O103_0→Prop
  |.k0 w0 _ _=>length w0=n0
theorem z103_0 {a0:K_B}:∀(y0:List K_R) (i:Int) (v0:List K_R),post103_0 (length v0+length y0) (r103_0 a0 y0 i v0)
  |[],i,v0=>by
    first | trivial |(simp only[post103_0,length_nil,Nat.add_zero]; done) |(simp[post103_0]; done)
  |x0::y0,i,v0=>by
    simp only[r103_0]
    have z:=z103_0 (a0:=a0) y0 (i+1) (v0++([(K_R.mk x0.f0 x0.f1 x0.f2 (([])++x0.f3) x0.f4)]))
    rw[show (length v0+length (x0::y0))=(length (v0++([(K_R.mk x0.f0 x0.f1 x0.f2 (([])++x0.f3) x0.f4)]))+length y0) from by first | omega |(simp only[length_map,length_set,length_append,length_replicate,length_cons,length_nil]; done) |(simp only[length_map,length_set,length_append,length_replicate,length_cons,length_nil]; omega)]
    exact z
/-! loop.example/g00539/spec.l14Copy -/
def m103 (a0:K_B):K_B:=
  (match r103_0 a0 a0.f3 0 [] with | .k0 w0_2 w1_2 w2_2=>(K_B.mk a0.f0 a0.f1 (([])++a0.f2) w0_2 (([])++a0.f4) a0.f5 a0.f6 a0.f7))
theorem e103 {l0_2:Nat} {l0_3:Nat} {l0_4:Nat} {a0:K_B} (hy0:length a0.f2≤100) (hy1:length a0.f3≤100) (hy2:∀z∈a0.f3,length z.f3≤100) (hy3:length a0.f4≤100) (hy4:∀z∈a0.f3,ok_R z):Ev F X (.call 103 [(.agg (k_B l0_2 l0_3 l0_4 a0))] [] [] [(.agg (d_B (m103 a0)))]):=by
  unfold m103
  cases h0:r103_0 a0 a0.f3 0 [] with
  |k0 w0_2 w1_2 w2_2=>
    try dsimp only
    have zh0:=z103_0 (a0:=a0) a0.f3 0 []; rw[h0] at zh0; simp only[post103_0,length_map,length_set,length_append,length_replicate,length_cons,length_nil,Int.toNat_natCast] at zh0
    have f6:(⟨[(1,(.ptr ⟨(1,0,0),[],0,0,8⟩)),(2,(.ptr ⟨(2,0,0),[],0,0,8⟩)),(3,(.ptr ⟨(3,0,0),[],0,0,8⟩)),(4,(.oi 0))],[((1,0,0),.live ⟨8,[[(.i a0.f0),(.i a0.f1),(.bor l0_2 (map b_si a0.f2)),(.bor l0_3 (map b_R a0.f3)),(.bor l0_4 (map b_si a0.f4)),(.i a0.f5),(.i a0.f6),(.i a0.f7)]],[]⟩),((2,0,0),.live ⟨8,[[(.i 0),(.i 0),(.own 2 []),(.own 5 []),(.own 2 []),(.i 0),(.i 0),(.i 0)]],[]⟩),((3,0,0),.live ⟨8,[[(.i a0.f0),(.i a0.f1),(.own 2 (map d_si (([])++a0.f2))),(.own 5 []),(.own 2 (map d_si (([])++a0.f4))),(.i a0.f5),(.i a0.f6),(.i a0.f7)]],[]⟩)]⟩:St)=h103_0 l0_2 l0_3 l0_4 a0 0 []:=(by rfl)
    have f7:Ev F X (.code l103_0 (h103_0 l0_2 l0_3 l0_4 a0 0 []) (.exit 0) ⟨[(1,(.ptr ⟨(1,0,0),[],0,0,8⟩)),(2,(.ptr ⟨(2,0,0),[],0,0,8⟩)),(3,(.ptr ⟨(3,0,0),[],0,0,8⟩)),(4,(.oi w1_2)),(20,(.one (.val (.bool w2_2))))],[((1,0,0),.live ⟨8,[[(.i a0.f0),(.i a0.f1),(.bor l0_2 (map b_si a0.f2)),(.bor l0_3 (map b_R a0.f3)),(.bor l0_4 (map b_si a0.f4)),(.i a0.f5),(.i a0.f6),(.i a0.f7)]],[]⟩),((2,0,0),.live ⟨8,[[(.i 0),(.i 0),(.own 2 []),(.own 5 []),(.own 2 []),(.i 0),(.i 0),(.i 0)]],[]⟩),((3,0,0),.live ⟨8,[[(.i a0.f0),(.i a0.f1),(.own 2 (map d_si (([])++a0.f2))),(.own 5 (map d_R w0_2)),(.own 2 (map d_si (([])++a0.f4))),(.i a0.f5),(.i a0.f6),(.i a0.f7)]],[]⟩)]⟩):=(by have t:Ev F X (.code l103_0 (h103_0 l0_2 l0_3 l0_4 a0 0 []) (ex103_0 (r103_0 a0 a0.f3 0 [])) (fin103_0 l0_2 l0_3 l0_4 a0 (r103_0 a0 a0.f3 0 []))):=t103_0 (l0_2:=l0_2) (l0_3:=l0_3) (l0_4:=l0_4) (a0:=a0) (by assumption) (by assumption) (by assumption) (by assumption) (by assumption) a0.f3 [] [] rfl (by simp only[length_map,length_set,length_append,length_replicate,length_cons,length_nil]; omega); rw[h0] at t; exact t)
    exact cp (by kernel_rfl) (.r 15 [] [] (e137 (l0_0:=(l0_2+1)) (a0:=a0.f2) (by omega)) (pe 0 (pe (length (map d_si (([])++a0.f2))) (.r 25 [] [] (e137 (l0_0:=(l0_4+1)) (a0:=a0.f4) (by omega)) (pe 0 (pe (length (map d_si (([])++a0.f4))) (.f f6 (.f f7 (pe 0 (pe (length (map d_si (([])++a0.f2))) (pe 0 (pe (length (map d_R w0_2)) (pe 0 (pe (length (map d_si (([])++a0.f4))) (.f (pureR_si (([])++a0.f2)) (.f (pureR_R w0_2) (.f (pureR_si (([])++a0.f4)) (.h 36 (.loop (h103_0 l0_2 l0_3 l0_4 a0 0 []) (.exit 0) ⟨[(1,(.ptr ⟨(1,0,0),[],0,0,8⟩)),(2,(.ptr ⟨(2,0,0),[],0,0,8⟩)),(3,(.ptr ⟨(3,0,0),[],0,0,8⟩)),(4,(.one (.val (.int .i64 w1_2)))),(20,(.one (.val (.bool w2_2))))],[((1,0,0),.live ⟨8,[[(.val (.int .i64 a0.f0)),(.val (.int .i64 a0.f1)),(.bor l0_2 (map b_si a0.f2)),(.bor l0_3 (map b_R a0.f3)),(.bor l0_4 (map b_si a0.f4)),(.val (.int .i64 a0.f5)),(.val (.int .i64 a0.f6)),(.val (.int .i64 a0.f7))]],[]⟩),((2,0,0),.live ⟨8,[[(.val (.int .i64 0)),(.val (.int .i64 0)),(.own 2 []),(.own 5 []),(.own 2 []),(.val (.int .i64 0)),(.val (.int .i64 0)),(.val (.int .i64 0))]],[]⟩),((3,0,0),.live ⟨8,[[(.val (.int .i64 a0.f0)),(.val (.int .i64 a0.f1)),(.own 2 (map d_si (([])++a0.f2))),(.own 5 (map d_R w0_2)),(.own 2 (map d_si (([])++a0.f4))),(.val (.int .i64 a0.f5)),(.val (.int .i64 a0.f6)),(.val (.int .i64 a0.f7))]],[]⟩)]⟩) .nil))))))))))))))))))
theorem cl103 (a0:K_B):∀(l:List K_R) (i:Int) (v:List K_R),∃j b,r103_0 a0 l i v=.k0 (v++l) j b
  |[],i,v=>⟨_,_,by rw[List.append_nil]; rfl⟩
  |x::l,i,v=>by
    obtain⟨j,b,h⟩:=cl103 a0 l (i+1) (v++ [x])
    refine⟨j,b,?_⟩
    simp only[r103_0]
    rw[show v++x::l=(v++ [x])++l by simp,← h]
    first | rfl |(simp only[List.nil_append]; done)
theorem cp103 (a0:K_B):m103 a0=a0:=by
  unfold m103
  obtain⟨j,b,h⟩:=cl103 a0 a0.f3 0 []
  rw[h]; rfl
/-! loop 104_0 -/
inductive O104_0 where
  |k0 (w0:Nat) (w1:Nat) (w2:Bool)
def r104_0 (a2:Int):Nat→Nat→Nat→O104_0
  |n+1,v0,v1=>
    if(decide ((v0:Int) > a2))=true then(r104_0 a2 n (toNat (v0:Int) - toNat 1) (v1+1)) else
    (O104_0.k0 v1 v0 (decide ((v0:Int) > a2)))
  |0,v0,v1=>(O104_0.k0 v1 v0 (decide ((v0:Int) > a2)))
def h104_0 (l0_0:Nat) (a0:(List K_si)) (a1:K_si) (a2:Int) (v0:Nat) (v1:Nat):St:=⟨[(2,(.one (.val (.int .i64 a2)))),(7,(.one (.ref ⟨(7,0,0),[],v1,v0⟩)))],[((7,0,0),.live ⟨2,(map d_si ((([])++a0)++([a1]))),[]⟩)]⟩
def ex104_0:O104_0→VX.Exit
  |.k0 _ _ _=>(.exit 0)
def fin104_0 (l0_0:Nat) (a0:(List K_si)) (a1:K_si) (a2:Int):O104_0→St
  |.k0 w0 w1 w2=>⟨[(2,(.one (.val (.int .i64 a2)))),(7,(.one (.ref ⟨(7,0,0),[],w0,w1⟩))),(17,(.one (.val (.bool w2))))],[((7,0,0),.live ⟨2,(map d_si ((([])++a0)++([a1]))),[]⟩)]⟩
theorem t104_0 {l0_0:Nat} {a0:(List K_si)} {a1:K_si} {a2:Int} (hy0:length a0≤1000) (hy1:0≤a2):∀(n:Nat) (v0:Nat) (v1:Nat),v1+v0≤(length (map d_si ((([])++a0)++([a1]))))→v0≤n→Ev F X (.code l104_0 (h104_0 l0_0 a0 a1 a2 v0 v1) (ex104_0 (r104_0 a2 n v0 v1)) (fin104_0 l0_0 a0 a1 a2 (r104_0 a2 n v0 v1)))
  |0,v0,v1,hi0,hn=>by
    have hc:¬(decide ((v0:Int) > a2))=true:=by first |(exact fuel64_zero hn) |(simp only[decide_eq_true_eq] at*; omega) |(simp at*; omega)
    have st:=ch b104_0 (h104_0 l0_0 a0 a1 a2 v0 v1) ⟨[(2,(.oi a2)),(7,(.one (.ref ⟨(7,0,0),[],v1,v0⟩))),(17,(.one (.val (.bool (decide ((v0:Int) > a2))))))],[((7,0,0),.live ⟨2,(map d_si ((([])++a0)++([a1]))),[]⟩)]⟩ (.exit 0) 9 (by kernel_rfl) (.f (nt hc) (.h 8 (.b false) .nil))
    rw[show (⟨[(2,(.oi a2)),(7,(.one (.ref ⟨(7,0,0),[],v1,v0⟩))),(17,(.one (.val (.bool (decide ((v0:Int) > a2))))))],[((7,0,0),.live ⟨2,(map d_si ((([])++a0)++([a1]))),[]⟩)]⟩:St)=fin104_0 l0_0 a0 a1 a2 (.k0 v1 v0 (decide ((v0:Int) > a2))) from(by rfl)] at st
    exact .loopX st (show ((.exit 0):VX.Exit)≠.normal from by simp)
  |n+1,v0,v1,hi0,hn=>by
    simp only[r104_0]
    by_cases h_0:(decide ((v0:Int) > a2))=true
    · try simp only[if_pos h_0]
      have f1:v1+v0≤(length (map d_si ((([])++a0)++([a1])))):=(by with_reducible assumption)
      have f2:0≤(1:Int)∧(1:Int)≤(v0:Int)∧(v0:Int)≤(v0:Int):=(by simp only[decide_eq_true_eq] at*; omega)
      have st:=ch b104_0 (h104_0 l0_0 a0 a1 a2 v0 v1) ⟨[(2,(.oi a2)),(7,(.one (.ref ⟨(7,0,0),[],(v1+1),(toNat (v0:Int) - toNat 1)⟩)))],[((7,0,0),.live ⟨2,(map d_si ((([])++a0)++([a1]))),[]⟩)]⟩ .normal 15 (by kernel_rfl) (.f h_0 (.f f1 (.f f2 (.h 8 (.b true) .nil))))
      have ih:=t104_0 (l0_0:=l0_0) (a0:=a0) (a1:=a1) (a2:=a2) hy0 hy1 n (toNat (v0:Int) - toNat 1) (v1+1) (by omega) (by omega)
      rw[show (⟨[(2,(.oi a2)),(7,(.one (.ref ⟨(7,0,0),[],(v1+1),(toNat (v0:Int) - toNat 1)⟩)))],[((7,0,0),.live ⟨2,(map d_si ((([])++a0)++([a1]))),[]⟩)]⟩:St)=h104_0 l0_0 a0 a1 a2 (toNat (v0:Int) - toNat 1) (v1+1) from(by rfl)] at st
      exact .loopN st ih
    · try simp only[if_neg h_0]
      have st:=ch b104_0 (h104_0 l0_0 a0 a1 a2 v0 v1) ⟨[(2,(.oi a2)),(7,(.one (.ref ⟨(7,0,0),[],v1,v0⟩))),(17,(.one (.val (.bool (decide ((v0:Int) > a2))))))],[((7,0,0),.live ⟨2,(map d_si ((([])++a0)++([a1]))),[]⟩)]⟩ (.exit 0) 9 (by kernel_rfl) (.f (nt h_0) (.h 8 (.b false) .nil))
      rw[show (⟨[(2,(.oi a2)),(7,(.one (.ref ⟨(7,0,0),[],v1,v0⟩))),(17,(.one (.val (.bool (decide ((v0:Int) > a2))))))],[((7,0,0),.live ⟨2,(map d_si ((([])++a0)++([a1]))),[]⟩)]⟩:St)=fin104_0 l0_0 a0 a1 a2 (.k0 v1 v0 (decide ((v0:Int) > a2))) from(by rfl)] at st
      exact .loopX st (show ((.exit 0):VX.Exit)≠.normal from by simp)
/-! loop 104_0,behind -/
def post104_0 (a0:(List K_si)) (a1:K_si) (a2:Int):O104_0→Prop
  |.k0 w0 w1 _=>w0+w1≤(length (map d_si ((([])++a0)++([a1]))))
theorem z104_0 {a0:(List K_si)} {a1:K_si} {a2:Int} (hy0:length a0≤1000) (hy1:0≤a2):∀(n:Nat) (v0:Nat) (v1:Nat),v1+v0≤(length (map d_si ((([])++a0)++([a1]))))→post104_0 a0 a1 a2 (r104_0 a2 n v0 v1)
  |0,v0,v1,hi0=>by
    simp only[r104_0]
    first | trivial |(show _ ; simp only[post104_0]; omega) |(simp only[post104_0] at*; omega) |(simp only[decide_eq_true_eq] at*; omega)
  |n+1,v0,v1,hi0=>by
    simp only[r104_0]
    by_cases h_0:(decide ((v0:Int) > a2))=true
    · try simp only[if_pos h_0]
      exact z104_0 (a0:=a0) (a1:=a1) (a2:=a2) hy0 hy1 n (toNat (v0:Int) - toNat 1) (v1+1) (by simp only[decide_eq_true_eq] at*; omega)
    · try simp only[if_neg h_0]
      first | trivial |(show _ ; simp only[post104_0]; omega) |(simp only[post104_0] at*; omega) |(simp only[decide_eq_true_eq] at*; omega)
/-! loop.example/g00539/spec.l13Push -/
def m104 (a0:(List K_si)) (a1:K_si) (a2:Int):(List K_si):=
  (match r104_0 a2 ((length (map d_si ((([])++a0)++([a1]))))) (length (map d_si ((([])++a0)++([a1])))) 0 with | .k0 w0_2 w1_2 w2_2=>(([])++(take w1_2 (drop w0_2 ((([])++a0)++([a1]))))))
theorem e104 {l0_0:Nat} {a0:(List K_si)} {a1:K_si} {a2:Int} (hy0:length a0≤1000) (hy1:0≤a2):Ev F X (.call 104 [(.one (.bor l0_0 (map b_si a0))),(.agg [(.val (.string a1.f0)),(.val (.int .i64 a1.f1))]),(.one (.val (.int .i64 a2)))] [] [] [(.one (.own 2 (map d_si (m104 a0 a1 a2))))]):=by
  unfold m104
  have f0:0+0≤0:=(by omega)
  have f1:(length ([]++(fromBR l0_0 (map b_si a0))))*24≤70368744177664:=(by simp; omega)
  have f2:∀r∈((fromBR l0_0 (map b_si a0)):List (List D)),r.length=2:=(by simp[*,b_si,d_si,byteRows_eq,ints_y]; done)
  have f3:0+(length ([]++(fromBR l0_0 (map b_si a0))))≤(length ([]++(fromBR l0_0 (map b_si a0)))):=(by omega)
  have f4:1≤1:=(by omega)
  have f5:((take 1 (drop 0 [[(.val (.string a1.f0)),(.val (.int .i64 a1.f1))]])).all fun x=>x.all copyable)=true:=(by trivial)
  have f6:(length ((take (length ([]++(fromBR l0_0 (map b_si a0)))) (drop 0 ([]++(fromBR l0_0 (map b_si a0)))))++([[(.val (.string a1.f0)),(.val (.int .i64 a1.f1))]]:List (List D))))*24≤70368744177664:=(by simp; omega)
  have f7:∀r∈([[(.val (.string a1.f0)),(.val (.int .i64 a1.f1))]]:List (List D)),r.length=2:=(by simp; done)
  have f8:((take (length ([]++(fromBR l0_0 (map b_si a0)))) (drop 0 ([]++(fromBR l0_0 (map b_si a0)))))++([[(.val (.string a1.f0)),(.val (.int .i64 a1.f1))]]:List (List D)))=(map d_si ((([])++a0)++([a1]))):=(by simp[byteRows_eq,ints_y,take_of_length_le,d_y,d_LyE,d_b,d_si,d_R,d_B,d_s,d_i,d_C,d_ii,d_LyEi,d_LiE,d_LsiE,d_iLsiE,d_Q,fromBR_y,fromBR_b,fromBR_si,fromBR_s,fromBR_i,fromBR_ii]; done)
  cases h0:r104_0 a2 ((length (map d_si ((([])++a0)++([a1]))))) (length (map d_si ((([])++a0)++([a1])))) 0 with
  |k0 w0_2 w1_2 w2_2=>
    try dsimp only
    have zh0:=z104_0 (a0:=a0) (a1:=a1) (a2:=a2) (by assumption) (by assumption) ((length (map d_si ((([])++a0)++([a1]))))) (length (map d_si ((([])++a0)++([a1])))) 0 (by omega); rw[h0] at zh0; simp only[post104_0] at zh0
    have f9:(⟨[(2,(.oi a2)),(7,(.one (.ref ⟨(7,0,0),[],0,(length ((take (length ([]++(fromBR l0_0 (map b_si a0)))) (drop 0 ([]++(fromBR l0_0 (map b_si a0)))))++([[(.val (.string a1.f0)),(.i a1.f1)]]:List (List D))))⟩)))],[((7,0,0),.live ⟨2,(map d_si ((([])++a0)++([a1]))),[]⟩)]⟩:St)=h104_0 l0_0 a0 a1 a2 (length (map d_si ((([])++a0)++([a1])))) 0:=(by unfold h104_0; simp[byteRows_eq,ints_y,take_of_length_le,d_y,d_LyE,d_b,d_si,d_R,d_B,d_s,d_i,d_C,d_ii,d_LyEi,d_LiE,d_LsiE,d_iLsiE,d_Q,fromBR_y,fromBR_b,fromBR_si,fromBR_s,fromBR_i,fromBR_ii]; done)
    have f10:Ev F X (.code l104_0 (h104_0 l0_0 a0 a1 a2 (length (map d_si ((([])++a0)++([a1])))) 0) (.exit 0) ⟨[(2,(.oi a2)),(7,(.one (.ref ⟨(7,0,0),[],w0_2,w1_2⟩))),(17,(.one (.val (.bool w2_2))))],[((7,0,0),.live ⟨2,(map d_si ((([])++a0)++([a1]))),[]⟩)]⟩):=(by have t:Ev F X (.code l104_0 (h104_0 l0_0 a0 a1 a2 (length (map d_si ((([])++a0)++([a1])))) 0) (ex104_0 (r104_0 a2 ((length (map d_si ((([])++a0)++([a1]))))) (length (map d_si ((([])++a0)++([a1])))) 0)) (fin104_0 l0_0 a0 a1 a2 (r104_0 a2 ((length (map d_si ((([])++a0)++([a1]))))) (length (map d_si ((([])++a0)++([a1])))) 0))):=t104_0 (l0_0:=l0_0) (a0:=a0) (a1:=a1) (a2:=a2) (by assumption) (by assumption) ((length (map d_si ((([])++a0)++([a1]))))) (length (map d_si ((([])++a0)++([a1])))) 0 (by omega) (Nat.le_refl _); rw[h0] at t; exact t)
    have f12:w0_2+w1_2≤(length (map d_si ((([])++a0)++([a1])))):=(by with_reducible assumption)
    have f13:((take w1_2 (drop w0_2 (map d_si ((([])++a0)++([a1]))))).all fun x=>x.all copyable)=true:=(ct_si _ _ _)
    have f14:(length ([]++(take w1_2 (drop w0_2 (map d_si ((([])++a0)++([a1])))))))*24≤70368744177664:=(by simp only[length_map,length_append,length_cons,length_nil,length_take,length_drop]; omega)
    have f15:∀r∈((take w1_2 (drop w0_2 (map d_si ((([])++a0)++([a1]))))):List (List D)),r.length=2:=(by intro r hr; exact lenD_si _ r (List.mem_of_mem_drop (List.mem_of_mem_take hr)))
    have f16:([]++(take w1_2 (drop w0_2 (map d_si ((([])++a0)++([a1]))))))=(map d_si (([])++(take w1_2 (drop w0_2 ((([])++a0)++([a1])))))):=(by simp[byteRows_eq,ints_y,take_of_length_le,d_y,d_LyE,d_b,d_si,d_R,d_B,d_s,d_i,d_C,d_ii,d_LyEi,d_LiE,d_LsiE,d_iLsiE,d_Q,fromBR_y,fromBR_b,fromBR_si,fromBR_s,fromBR_i,fromBR_ii]; done)
    have f18:(length ([]++(take w1_2 (drop w0_2 (map d_si ((([])++a0)++([a1])))))))=(length (map d_si (([])++(take w1_2 (drop w0_2 ((([])++a0)++([a1]))))))):=(by simp; done)
    exact cp (by kernel_rfl) (.f f0 (.f f1 (.f f2 (.f f3 (.f f4 (.f f5 (.f f6 (.f f7 (.f f8 (.f f9 (.f f10 (.f f0 (.f f12 (.f f13 (.f f14 (.f f15 (.f f16 (pe 0 (.f f18 (.f (pureR_si (([])++(take w1_2 (drop w0_2 ((([])++a0)++([a1])))))) (.h 15 (.b true) (.h 18 (.norm (7,0,0) (map d_si ((([])++a0)++([a1])))) (.h 19 (.loop (h104_0 l0_0 a0 a1 a2 (length (map d_si ((([])++a0)++([a1])))) 0) (.exit 0) ⟨[(2,(.one (.val (.int .i64 a2)))),(7,(.one (.ref ⟨(7,0,0),[],w0_2,w1_2⟩))),(17,(.one (.val (.bool w2_2))))],[((7,0,0),.live ⟨2,(map d_si ((([])++a0)++([a1]))),[]⟩)]⟩) (.h 25 (.b true) (.h 28 (.norm (6,0,0) (map d_si (([])++(take w1_2 (drop w0_2 ((([])++a0)++([a1]))))))) .nil)))))))))))))))))))))))))
theorem prun_104 (c:Int) (hc:0≤c):∀(f n lo:Nat),n≤f→r104_0 c f n lo=.k0 (lo+(n - c.toNat)) (min n c.toNat) false
  |0,n,lo,h=>by
    have:n=0:=by omega
    subst this
    have h0:¬(0:Int) > c:=by omega
    simp[r104_0,h0]
  |f+1,n,lo,h=>by
    simp only[r104_0,decide_eq_true_eq]
    split
    · rename_i h1
      rw[prun_104 c hc f _ _ (by omega)]
      congr 1<;>omega
    · rename_i h1
      have h2:(decide ((n:Int) > c))=false:=by simp only[decide_eq_false_iff_not]; exact h1
      rw[h2]
      congr 1<;>omega
theorem push_104 (a:List K_si) (b:K_si) (c:Int) (hc:0≤c):m104 a b c=drop (a.length+1 - c.toNat) (a++ [b]):=by
  unfold m104
  rw[prun_104 c hc _ _ _ (by simp)]
  simp only[List.nil_append,length_map,length_append,length_cons,length_nil,Nat.zero_add]
  rw[take_of_length_le (by simp only[length_drop,length_append,length_cons,length_nil]; omega)]
/-! loop.example/g00539/spec.l14Credit -/
def m53 (a0:K_B) (a1:K_si):K_C:=
  if((m102 a1) !=0)=true then(K_C.mk (m102 a1) 0 0 0 ([]) ([]) ([]) 0 0 0) else
  (K_C.mk 0 0 ((m103 a0).f0) ((m103 a0).f1) (m104 a0.f2 a1 a0.f0) ((m103 a0).f3) ((m103 a0).f4) ((m103 a0).f5) ((m103 a0).f6) ((m103 a0).f7))
theorem e53 {l0_2:Nat} {l0_3:Nat} {l0_4:Nat} {a0:K_B} {a1:K_si} (hy0:length a0.f2≤100) (hy1:length a0.f3≤100) (hy2:∀z∈a0.f3,length z.f3≤100) (hy3:length a0.f4≤100) (hy4:∀z∈a0.f3,ok_R z) (hy5:ByteArray.size a1.f0≤140737488351232) (hy6:1≤a0.f0) (hy7:a0.f0≤12):Ev F X (.call 53 [(.agg (k_B l0_2 l0_3 l0_4 a0)),(.agg [(.val (.string a1.f0)),(.val (.int .i64 a1.f1))])] [] [] [(.agg (d_C (m53 a0 a1)))]):=by
  unfold m53
  have f0:fullL [(.val (.string a1.f0)),(.val (.int .i64 a1.f1))]=true:=(by trivial)
  have P0 {hs q} (r:PS F X hs q):=(PS.f f0 (.r 7 [] [] (e102 (l0:=0) (a0:=a1) (by with_reducible assumption)) r))
  by_cases h0:((m102 a1) !=0)=true
  · try simp only[if_pos h0]
    exact cp (by kernel_rfl) (P0 (.f h0 (.h 14 (.b true) (.r 18 [] [] (e52 (a0:=(m102 a1))) (pe 0 (pe (length (map d_si ([]))) (pe 0 (pe (length (map d_R ([]))) (pe 0 (pe (length (map d_si ([]))) (.f (pureR_si ([])) (.f (pureR_R ([])) (.f (pureR_si ([])) .nil)))))))))))))
  · try simp only[if_neg h0]
    exact cp (by kernel_rfl) (P0 (.f (nt h0) (.h 14 (.b false) (.r 18 [] [] (e103 (l0_2:=(l0_2+1)) (l0_3:=(l0_3+1)) (l0_4:=(l0_4+1)) (a0:=a0) (by with_reducible assumption) (by with_reducible assumption) (by with_reducible assumption) (by with_reducible assumption) (by with_reducible assumption)) (pe 0 (pe (length (map d_si ((m103 a0).f2))) (pe 0 (pe (length (map d_R ((m103 a0).f3))) (pe 0 (pe (length (map d_si ((m103 a0).f4))) (.r 34 [] [] (e104 (l0_0:=(l0_2+1)) (a0:=a0.f2) (a1:=a1) (a2:=a0.f0) (by omega) (by omega)) (pe 0 (pe (length (map d_si (m104 a0.f2 a1 a0.f0))) (pe 0 (pe (length (map d_si (m104 a0.f2 a1 a0.f0))) (pe 0 (pe (length (map d_R ((m103 a0).f3))) (pe 0 (pe (length (map d_si ((m103 a0).f4))) (.f (pureR_si (m104 a0.f2 a1 a0.f0)) (.f (pureR_R ((m103 a0).f3)) (.f (pureR_si ((m103 a0).f4)) .nil))))))))))))))))))))))
theorem crG {a:K_B} {w:K_si} (h:GL a) (hw:ByteArray.size w.f0≤3) (hc:¬((m53 a w).f0 !=0)=true):GL (K_B.mk (m53 a w).f2 (m53 a w).f3 (m53 a w).f4 (m53 a w).f5 (m53 a w).f6 (m53 a w).f7 (m53 a w).f8 (m53 a w).f9):=by
  unfold m53 at hc⊢
  by_cases c1:((m102 w) !=0)=true
  · simp only[if_pos c1] at hc; exact absurd c1 hc
  simp only[if_neg c1,cp103]
  obtain⟨h1,h2,h3,h4,h5⟩:=h
  refine⟨h1,h2,?_,h4,h5⟩
  simp only[]
  rw[push_104 _ _ _ (by omega)]
  have hw2:1≤w.f1∧w.f1≤9999:=by
    have c:m102 w=0:=by simpa using c1
    unfold m102 at c
    split at c
    · cases c
    · split at c
      · cases c
      · split at c
        · cases c
        · exact jn105 (by assumption)
  refine⟨by have:=h3.1; simp only[length_drop,length_append,length_cons,length_nil]; omega,fun z hz=>?_,fun z hz=>?_⟩
  · rcases List.mem_append.1 (List.mem_of_mem_drop hz) with hz | hz
    · exact h3.2.1 z hz
    · rw[List.mem_singleton.1 hz]; exact hw2
  · exact sz_app h3.2.2 hw z (List.mem_of_mem_drop hz)
/-! loop 60_0 -/
inductive O60_0 where
  |k0 (w0:Int) (w1:Bool)
  |k1 (w0:Int)
def r60_0 (a0:(List K_si)) (a1:ByteArray):List K_si→Int→O60_0
  |x0::y0,i=>
    if(x0.f0.toList==a1.toList)=true then(O60_0.k1 i) else
    (r60_0 a0 a1 y0 (i+1))
  |[],i=>(O60_0.k0 i (decide (i <((length (map b_si a0)):Int))))
def h60_0 (l0_0:Nat) (a0:(List K_si)) (a1:ByteArray) (i:Int) :St:=⟨[(0,(.one (.bor l0_0 (map b_si a0)))),(1,(.one (.val (.string a1)))),(5,(.one (.val (.int .i64 i))))],[]⟩
def ex60_0:O60_0→VX.Exit
  |.k0 _ _=>(.exit 0)
  |.k1 _=>.ret
def fin60_0 (l0_0:Nat) (a0:(List K_si)) (a1:ByteArray):O60_0→St
  |.k0 w0 w1=>⟨[(0,(.one (.bor l0_0 (map b_si a0)))),(1,(.one (.val (.string a1)))),(5,(.one (.val (.int .i64 w0)))),(9,(.one (.val (.bool w1))))],[]⟩
  |.k1 w0=>⟨[(4,(.one (.val (.int .i64 w0))))],[]⟩
theorem t60_0 {l0_0:Nat} {a0:(List K_si)} {a1:ByteArray} (hy0:length a0*24≤140737488351232):∀(y0:List K_si) (p:List K_si),p++y0=a0→Ev F X (.code l60_0 (h60_0 l0_0 a0 a1 (length p:Int)) (ex60_0 (r60_0 a0 a1 y0 (length p:Int))) (fin60_0 l0_0 a0 a1 (r60_0 a0 a1 y0 (length p:Int))))
  |[],p,hp0=>by
    have hc:¬(decide ((length p:Int) <((length (map b_si a0)):Int)))=true:=by
      rw[← hp0]; simp only[length_map,length_set,length_append,length_replicate,length_cons,length_nil,decide_eq_true_eq]; omega
    have st:=ch b60_0 (h60_0 l0_0 a0 a1 (length p:Int)) ⟨[(0,(.one (.bor l0_0 (map b_si a0)))),(1,(.one (.val (.string a1)))),(5,(.oi (length p:Int))),(9,(.one (.val (.bool (decide ((length p:Int) <((length (map b_si a0)):Int)))))))],[]⟩ (.exit 0) 9 (by kernel_rfl) (.f (nt hc) (.h 8 (.b false) .nil))
    rw[show (⟨[(0,(.one (.bor l0_0 (map b_si a0)))),(1,(.one (.val (.string a1)))),(5,(.oi (length p:Int))),(9,(.one (.val (.bool (decide ((length p:Int) <((length (map b_si a0)):Int)))))))],[]⟩:St)=fin60_0 l0_0 a0 a1 (.k0 (length p:Int) (decide ((length p:Int) <((length (map b_si a0)):Int)))) from(by rfl)] at st
    exact .loopX st (show ((.exit 0):VX.Exit)≠.normal from by simp)
  |x0::y0,p,hp0=>by
    have hc:(decide ((length p:Int) <((length (map b_si a0)):Int)))=true:=by
      rw[← hp0]; simp only[length_map,length_set,length_append,length_replicate,length_cons,length_nil,decide_eq_true_eq]; omega
    have Hx0:(a0)[toNat (length p:Int)]?=some x0:=by
      rw[← hp0,Int.toNat_natCast]; simp
    have hlen:length (a0)=length p+length y0+1:=by rw[← hp0]; simp; omega
    have hw:wrap .i64 ((length p:Int)+1)=(length p:Int)+1:=wrap64 (by omega)
    simp only[r60_0]
    have f1:0≤(length p:Int):=(by omega)
    have f2:(map b_si a0)[(toNat (length p:Int))]?=some (b_si x0):=(by rw[getElem?_map,Hx0]; rfl)
    have P1 {hs q} (r:PS F X hs q):=(PS.f hc (.f f1 (.f f2 (.h 8 (.b true) (.h 14 (.row (b_si x0)) r)))))
    by_cases h_1:(x0.f0.toList==a1.toList)=true
    · try simp only[if_pos h_1]
      have st:=ch b60_0 (h60_0 l0_0 a0 a1 (length p:Int)) ⟨[(4,(.oi (length p:Int)))],[]⟩ .ret 28 (by kernel_rfl) (P1 (.f h_1 (.h 23 (.b true) .nil)))
      rw[show (⟨[(4,(.oi (length p:Int)))],[]⟩:St)=fin60_0 l0_0 a0 a1 (.k1 (length p:Int)) from(by rfl)] at st
      exact .loopX st (show (.ret:VX.Exit)≠.normal from by simp)
    · try simp only[if_neg h_1]
      have st:=ch b60_0 (h60_0 l0_0 a0 a1 (length p:Int)) ⟨[(0,(.one (.bor l0_0 (map b_si a0)))),(1,(.one (.val (.string a1)))),(5,(.oi (wrap .i64 ((length p:Int)+1))))],[]⟩ .normal 30 (by kernel_rfl) (P1 (.f (nt h_1) (.f trivial (.h 23 (.b false) .nil))))
      have ih:=t60_0 (l0_0:=l0_0) (a0:=a0) (a1:=a1) hy0 y0 (p++ [x0]) (by rw[append_assoc]; exact hp0)
      rw[show ((p++ [x0]).length:Int)=(p.length:Int)+1 from by simp] at ih
      rw[show (⟨[(0,(.one (.bor l0_0 (map b_si a0)))),(1,(.one (.val (.string a1)))),(5,(.oi (wrap .i64 ((length p:Int)+1))))],[]⟩:St)=h60_0 l0_0 a0 a1 ((length p:Int)+1)  from(by unfold h60_0; simp only[hw]; done)] at st
      exact .loopN st ih
/-! loop.example/g00539/spec.l13At -/
def m60 (a0:(List K_si)) (a1:ByteArray):Int:=
  (match r60_0 a0 a1 a0 0 with | .k0 w0_0 w1_0=>(-1) | .k1 w0_0=>w0_0)
theorem e60 {l0_0:Nat} {a0:(List K_si)} {a1:ByteArray} (hy0:length a0*24≤140737488351232):Ev F X (.call 60 [(.one (.bor l0_0 (map b_si a0))),(.one (.val (.string a1)))] [] [] [(.one (.val (.int .i64 (m60 a0 a1))))]):=by
  unfold m60
  cases h0:r60_0 a0 a1 a0 0 with
  |k0 w0_0 w1_0=>
    try dsimp only
    have f0:(⟨[(0,(.one (.bor l0_0 (map b_si a0)))),(1,(.one (.val (.string a1)))),(5,(.oi 0))],[]⟩:St)=h60_0 l0_0 a0 a1 0 :=(by rfl)
    have f1:Ev F X (.code l60_0 (h60_0 l0_0 a0 a1 0) (.exit 0) ⟨[(0,(.one (.bor l0_0 (map b_si a0)))),(1,(.one (.val (.string a1)))),(5,(.oi w0_0)),(9,(.one (.val (.bool w1_0))))],[]⟩):=(by have t:Ev F X (.code l60_0 (h60_0 l0_0 a0 a1 0) (ex60_0 (r60_0 a0 a1 a0 0)) (fin60_0 l0_0 a0 a1 (r60_0 a0 a1 a0 0))):=t60_0 (l0_0:=l0_0) (a0:=a0) (a1:=a1) (by assumption) a0 []  rfl; rw[h0] at t; exact t)
    exact cp (by kernel_rfl) (.f f0 (.f f1 (.h 4 (.loop (h60_0 l0_0 a0 a1 0) (.exit 0) ⟨[(0,(.one (.bor l0_0 (map b_si a0)))),(1,(.one (.val (.string a1)))),(5,(.one (.val (.int .i64 w0_0)))),(9,(.one (.val (.bool w1_0))))],[]⟩) .nil)))
  |k1 w0_0=>
    try dsimp only
    have f0:(⟨[(0,(.one (.bor l0_0 (map b_si a0)))),(1,(.one (.val (.string a1)))),(5,(.oi 0))],[]⟩:St)=h60_0 l0_0 a0 a1 0 :=(by rfl)
    have f1:Ev F X (.code l60_0 (h60_0 l0_0 a0 a1 0) .ret ⟨[(4,(.oi w0_0))],[]⟩):=(by have t:Ev F X (.code l60_0 (h60_0 l0_0 a0 a1 0) (ex60_0 (r60_0 a0 a1 a0 0)) (fin60_0 l0_0 a0 a1 (r60_0 a0 a1 a0 0))):=t60_0 (l0_0:=l0_0) (a0:=a0) (a1:=a1) (by assumption) a0 []  rfl; rw[h0] at t; exact t)
    exact cp (by kernel_rfl) (.f f0 (.f f1 (.h 4 (.loop (h60_0 l0_0 a0 a1 0) .ret ⟨[(4,(.one (.val (.int .i64 w0_0))))],[]⟩) .nil)))
theorem ixr60_0 (a0:(List K_si)) (a1:ByteArray):∀(l:List K_si) (i:Int),(∃(w0:_) (w1:_),r60_0 a0 a1 l i=.k0 w0 w1)∨(∃w,r60_0 a0 a1 l i=.k1 w∧i≤w∧w < i+l.length)
  |[],i=>.inl ⟨i,(decide (i <((length (map b_si a0)):Int))),rfl⟩
  |x::l,i=>by
    have ih:=ixr60_0 a0 a1 l (i+1)
    simp only[r60_0]
    (repeat' split)
    all_goals first
      |exact .inr ⟨i,rfl,by omega,by simp only[length_cons]; omega⟩
      | (rcases ih with ⟨w0, w1, h⟩ | ⟨w, h, h1, h2⟩
         · exact .inl ⟨w0,w1,h⟩
         · exact .inr ⟨w,h,by omega,by simp only[length_cons]; omega⟩)
theorem ix60 (a0:(List K_si)) (a1:ByteArray): -1≤m60 a0 a1∧m60 a0 a1 <(length a0:Int):=by
  unfold m60
  rcases ixr60_0 a0 a1 a0 0 with⟨w0,w1,h⟩ |⟨w,h,h1,h2⟩<;>simp only[h]<;>omega
/-! loop.example/g00539/spec.l1Amount -/
def m101 (a0:Int):Bool:=
  (m105 a0 0 1000000)
theorem e101 {a0:Int}:Ev F X (.call 101 [(.one (.val (.int .i64 a0)))] [] [] [(.one (.val (.bool (m105 a0 0 1000000))))]):=by
  exact cp (by kernel_rfl) (.r 5 [] [] (e105 (a0:=a0) (a1:=0) (a2:=1000000)) .nil)
/-! loop.example/g00539/spec.l14Pay -/
def m61 (a0:K_B) (a1:ByteArray) (a2:Int):K_C:=
  if(decide ((m60 a0.f4 a1) < 0))=true then(K_C.mk 4 0 0 0 ([]) ([]) ([]) 0 0 0) else
  if(((getD a0.f4 (toNat (m60 a0.f4 a1)) (K_si.mk (⟨#[]⟩:ByteArray) 0)).f1)==0)=true then(K_C.mk 4 0 0 0 ([]) ([]) ([]) 0 0 0) else
    if(!(m105 a2 1 ((getD a0.f4 (toNat (m60 a0.f4 a1)) (K_si.mk (⟨#[]⟩:ByteArray) 0)).f1)))=true then(K_C.mk 3 0 0 0 ([]) ([]) ([]) 0 0 0) else
      if(!(m105 (wrap .i64 (a0.f5+a2)) 0 1000000))=true then(K_C.mk 7 0 0 0 ([]) ([]) ([]) 0 0 0) else
        (K_C.mk 0 0 ((m103 a0).f0) ((m103 a0).f1) ((m103 a0).f2) ((m103 a0).f3) (set ((m103 a0).f4) (toNat (m60 a0.f4 a1)) (K_si.mk ((getD ((m103 a0).f4) (toNat (m60 a0.f4 a1)) (K_si.mk (⟨#[]⟩:ByteArray) 0)).f0) (wrap .i64 (((getD a0.f4 (toNat (m60 a0.f4 a1)) (K_si.mk (⟨#[]⟩:ByteArray) 0)).f1) - a2)))) (wrap .i64 (a0.f5+a2)) ((m103 a0).f6) ((m103 a0).f7))
theorem e61 {l0_2:Nat} {l0_3:Nat} {l0_4:Nat} {a0:K_B} {a1:ByteArray} {a2:Int} (hy0:length a0.f2≤100) (hy1:length a0.f3≤100) (hy2:∀z∈a0.f3,length z.f3≤100) (hy3:length a0.f4≤100) (hy4:∀z∈a0.f3,ok_R z):Ev F X (.call 61 [(.agg (k_B l0_2 l0_3 l0_4 a0)),(.one (.val (.string a1))),(.one (.val (.int .i64 a2)))] [] [] [(.agg (d_C (m61 a0 a1 a2)))]):=by
  unfold m61
  have P0 {hs q} (r:PS F X hs q):=(PS.r 11 [] [] (e60 (l0_0:=(l0_4+1)) (a0:=a0.f4) (a1:=a1) (by omega)) r)
  by_cases h0:(decide ((m60 a0.f4 a1) < 0))=true
  · try simp only[if_pos h0]
    exact cp (by kernel_rfl) (P0 (.f h0 (.f h0 (.f h0 (.f h0 (.f h0 (.f h0 (.f h0 (.f h0 (.h 20 (.b true) (.h 22 (.b true) (.h 24 (.b true) (.h 26 (.b true) (.h 28 (.b true) (.h 30 (.b true) (.h 32 (.b true) (.h 35 (.b true) (.r 38 [] [] (e52 (a0:=4)) (pe 0 (pe (length (map d_si ([]))) (pe 0 (pe (length (map d_R ([]))) (pe 0 (pe (length (map d_si ([]))) (.f (pureR_si ([])) (.f (pureR_R ([])) (.f (pureR_si ([])) .nil)))))))))))))))))))))))))))
  · try simp only[if_neg h0]
    have f5:0≤(m60 a0.f4 a1):=(by have q:=ix60 a0.f4 a1; simp only[decide_eq_true_eq,length_map] at*; omega)
    have f6:(map b_si a0.f4)[(toNat (m60 a0.f4 a1))]?=some (b_si (getD a0.f4 (toNat (m60 a0.f4 a1)) (K_si.mk (⟨#[]⟩:ByteArray) 0))):=(by rw[getElem?_map,getD_at a0.f4 (toNat (m60 a0.f4 a1)) (K_si.mk (⟨#[]⟩:ByteArray) 0) (by first | exact True.intro | with_reducible rfl | with_reducible assumption | omega |(rw[cp103]; omega) |(rw[cp103]; assumption) |(simp only[cp103,length_map]; have q:=ix124 a0.f3 a1; simp only[decide_eq_true_eq] at*; omega) |(simp only[cp103,length_map]; have q:=ix60 a0.f4 a1; simp only[decide_eq_true_eq] at*; omega) |(have q:=ix60 a0.f4 a1; simp only[decide_eq_true_eq,length_map] at*; omega) |(unfold m60;(repeat' split)<;>simp_all<;>omega) |(simp only[decide_eq_true_eq] at*; omega) |(simp only[length_map]; omega) |(simp; omega) |(simp[take_of_length_le]; done) | assumption | trivial |(simp[*,byteRows_eq,ints_y]; done))]; rfl)
    have P1 {hs q} (r:PS F X hs q):=(P0 (.f (nt h0) (.f (nt h0) (.f (nt h0) (.f (nt h0) (.f f5 (.f f6 (.f (nt h0) (.f (nt h0) (.f (nt h0) (.f (nt h0) (.h 20 (.b false) (.h 22 (.b false) (.h 24 (.b false) (.h 26 (.b false) (.h 27 (.row (b_si (getD a0.f4 (toNat (m60 a0.f4 a1)) (K_si.mk (⟨#[]⟩:ByteArray) 0)))) (.h 28 (.b false) (.h 30 (.b false) (.h 32 (.b false) (.h 35 (.b false) r))))))))))))))))))))
    by_cases h1:(((getD a0.f4 (toNat (m60 a0.f4 a1)) (K_si.mk (⟨#[]⟩:ByteArray) 0)).f1)==0)=true
    · try simp only[if_pos h1]
      exact cp (by kernel_rfl) (P1 (.f h1 (.h 36 (.b true) (.r 38 [] [] (e52 (a0:=4)) (pe 0 (pe (length (map d_si ([]))) (pe 0 (pe (length (map d_R ([]))) (pe 0 (pe (length (map d_si ([]))) (.f (pureR_si ([])) (.f (pureR_R ([])) (.f (pureR_si ([])) .nil)))))))))))))
    · try simp only[if_neg h1]
      have P2 {hs q} (r:PS F X hs q):=(P1 (.f (nt h1) (.f f5 (.f f6 (.h 36 (.b false) (.h 46 (.row (b_si (getD a0.f4 (toNat (m60 a0.f4 a1)) (K_si.mk (⟨#[]⟩:ByteArray) 0)))) (.r 52 [] [] (e105 (a0:=a2) (a1:=1) (a2:=((getD a0.f4 (toNat (m60 a0.f4 a1)) (K_si.mk (⟨#[]⟩:ByteArray) 0)).f1))) r)))))))
      by_cases h2:(!(m105 a2 1 ((getD a0.f4 (toNat (m60 a0.f4 a1)) (K_si.mk (⟨#[]⟩:ByteArray) 0)).f1)))=true
      · try simp only[if_pos h2]
        exact cp (by kernel_rfl) (P2 (.f h2 (.h 55 (.b true) (.r 57 [] [] (e52 (a0:=3)) (pe 0 (pe (length (map d_si ([]))) (pe 0 (pe (length (map d_R ([]))) (pe 0 (pe (length (map d_si ([]))) (.f (pureR_si ([])) (.f (pureR_R ([])) (.f (pureR_si ([])) .nil)))))))))))))
      · try simp only[if_neg h2]
        have P3 {hs q} (r:PS F X hs q):=(P2 (.f (nt h2) (.f trivial (.h 55 (.b false) (.r 65 [] [] (e101 (a0:=(wrap .i64 (a0.f5+a2)))) r)))))
        by_cases h3:(!(m105 (wrap .i64 (a0.f5+a2)) 0 1000000))=true
        · try simp only[if_pos h3]
          exact cp (by kernel_rfl) (P3 (.f h3 (.h 68 (.b true) (.r 70 [] [] (e52 (a0:=7)) (pe 0 (pe (length (map d_si ([]))) (pe 0 (pe (length (map d_R ([]))) (pe 0 (pe (length (map d_si ([]))) (.f (pureR_si ([])) (.f (pureR_R ([])) (.f (pureR_si ([])) .nil)))))))))))))
        · try simp only[if_neg h3]
          have f28:0+(length (map d_si ((m103 a0).f4)))≤(length (map d_si ((m103 a0).f4))):=(by omega)
          have f29:0≤(m60 a0.f4 a1)∧(m60 a0.f4 a1) <((length (map d_si ((m103 a0).f4))):Int):=(by simp only[cp103,length_map]; have q:=ix60 a0.f4 a1; simp only[decide_eq_true_eq] at*; omega)
          have f30:(map d_si ((m103 a0).f4))[(0+(toNat (m60 a0.f4 a1)))]?=some (d_si (getD ((m103 a0).f4) (toNat (m60 a0.f4 a1)) (K_si.mk (⟨#[]⟩:ByteArray) 0))):=(by rw[Nat.zero_add,getElem?_map,getD_at ((m103 a0).f4) (toNat (m60 a0.f4 a1)) (K_si.mk (⟨#[]⟩:ByteArray) 0) (by first | exact True.intro | with_reducible rfl | with_reducible assumption | omega |(rw[cp103]; omega) |(rw[cp103]; assumption) |(simp only[cp103,length_map]; have q:=ix124 a0.f3 a1; simp only[decide_eq_true_eq] at*; omega) |(simp only[cp103,length_map]; have q:=ix60 a0.f4 a1; simp only[decide_eq_true_eq] at*; omega) |(have q:=ix60 a0.f4 a1; simp only[decide_eq_true_eq,length_map] at*; omega) |(unfold m60 m103;(repeat' split)<;>simp_all<;>omega) |(simp only[decide_eq_true_eq] at*; omega) |(simp only[length_map]; omega) |(simp; omega) |(simp[take_of_length_le]; done) | assumption | trivial |(simp[*,byteRows_eq,ints_y]; done))]; rfl)
          have f31:([[(.val (.int .i64 ((m103 a0).f0))),(.val (.int .i64 ((m103 a0).f1))),(.own 2 (map d_si ((m103 a0).f2))),(.own 5 (map d_R ((m103 a0).f3))),(.own 2 (set (map d_si ((m103 a0).f4)) (0+(toNat (m60 a0.f4 a1))) [(.val (.string ((getD ((m103 a0).f4) (toNat (m60 a0.f4 a1)) (K_si.mk (⟨#[]⟩:ByteArray) 0)).f0))),(.val (.int .i64 (wrap .i64 (((getD a0.f4 (toNat (m60 a0.f4 a1)) (K_si.mk (⟨#[]⟩:ByteArray) 0)).f1) - a2))))])),(.val (.int .i64 ((m103 a0).f5))),(.val (.int .i64 ((m103 a0).f6))),(.val (.int .i64 ((m103 a0).f7)))]]:List (List D))=[[(.val (.int .i64 ((m103 a0).f0))),(.val (.int .i64 ((m103 a0).f1))),(.own 2 (map d_si ((m103 a0).f2))),(.own 5 (map d_R ((m103 a0).f3))),(.own 2 (map d_si (set ((m103 a0).f4) (toNat (m60 a0.f4 a1)) (K_si.mk ((getD ((m103 a0).f4) (toNat (m60 a0.f4 a1)) (K_si.mk (⟨#[]⟩:ByteArray) 0)).f0) (wrap .i64 (((getD a0.f4 (toNat (m60 a0.f4 a1)) (K_si.mk (⟨#[]⟩:ByteArray) 0)).f1) - a2)))))),(.val (.int .i64 ((m103 a0).f5))),(.val (.int .i64 ((m103 a0).f6))),(.val (.int .i64 ((m103 a0).f7)))]]:=(by simp[byteRows_eq,ints_y,take_of_length_le,d_y,d_LyE,d_b,d_si,d_R,d_B,d_s,d_i,d_C,d_ii,d_LyEi,d_LiE,d_LsiE,d_iLsiE,d_Q,fromBR_y,fromBR_b,fromBR_si,fromBR_s,fromBR_i,fromBR_ii]; done)
          exact cp (by kernel_rfl) (P3 (.f (nt h3) (.h 68 (.b false) (.r 72 [] [] (e103 (l0_2:=(l0_2+1)) (l0_3:=(l0_3+1)) (l0_4:=(l0_4+1)) (a0:=a0) (by with_reducible assumption) (by with_reducible assumption) (by with_reducible assumption) (by with_reducible assumption) (by with_reducible assumption)) (pe 0 (pe (length (map d_si ((m103 a0).f2))) (pe 0 (pe (length (map d_R ((m103 a0).f3))) (pe 0 (pe (length (map d_si ((m103 a0).f4))) (.f f5 (.f f6 (.f f28 (.f f29 (.f f30 (.f f31 (.f trivial (pe 0 (pe (length (map d_si ((m103 a0).f2))) (pe 0 (pe (length (map d_R ((m103 a0).f3))) (pe 0 (pe (length (map d_si (set ((m103 a0).f4) (toNat (m60 a0.f4 a1)) (K_si.mk ((getD ((m103 a0).f4) (toNat (m60 a0.f4 a1)) (K_si.mk (⟨#[]⟩:ByteArray) 0)).f0) (wrap .i64 (((getD a0.f4 (toNat (m60 a0.f4 a1)) (K_si.mk (⟨#[]⟩:ByteArray) 0)).f1) - a2)))))) (.f (pureR_si ((m103 a0).f2)) (.f (pureR_R ((m103 a0).f3)) (.f (pureR_si (set ((m103 a0).f4) (toNat (m60 a0.f4 a1)) (K_si.mk ((getD ((m103 a0).f4) (toNat (m60 a0.f4 a1)) (K_si.mk (⟨#[]⟩:ByteArray) 0)).f0) (wrap .i64 (((getD a0.f4 (toNat (m60 a0.f4 a1)) (K_si.mk (⟨#[]⟩:ByteArray) 0)).f1) - a2))))) (.h 90 (.row (b_si (getD a0.f4 (toNat (m60 a0.f4 a1)) (K_si.mk (⟨#[]⟩:ByteArray) 0)))) (.h 104 (.rowD (d_si (getD ((m103 a0).f4) (toNat (m60 a0.f4 a1)) (K_si.mk (⟨#[]⟩:ByteArray) 0)))) (.h 105 (.norm (8,0,0) [[(.val (.int .i64 ((m103 a0).f0))),(.val (.int .i64 ((m103 a0).f1))),(.own 2 (map d_si ((m103 a0).f2))),(.own 5 (map d_R ((m103 a0).f3))),(.own 2 (map d_si (set ((m103 a0).f4) (toNat (m60 a0.f4 a1)) (K_si.mk ((getD ((m103 a0).f4) (toNat (m60 a0.f4 a1)) (K_si.mk (⟨#[]⟩:ByteArray) 0)).f0) (wrap .i64 (((getD a0.f4 (toNat (m60 a0.f4 a1)) (K_si.mk (⟨#[]⟩:ByteArray) 0)).f1) - a2)))))),(.val (.int .i64 ((m103 a0).f5))),(.val (.int .i64 ((m103 a0).f6))),(.val (.int .i64 ((m103 a0).f7)))]]) .nil)))))))))))))))))))))))))))))
theorem paG {a:K_B} {w:ByteArray} {i:Int} (h:GL a) (hc:¬((m61 a w i).f0 !=0)=true):GL (K_B.mk (m61 a w i).f2 (m61 a w i).f3 (m61 a w i).f4 (m61 a w i).f5 (m61 a w i).f6 (m61 a w i).f7 (m61 a w i).f8 (m61 a w i).f9):=by
  obtain⟨h1,h2,h3,h4,h5⟩:=h
  generalize hr:m61 a w i=r at hc⊢
  unfold m61 at hr
  simp only[cp103] at hr
  (repeat' split at hr)<;>subst hr<;>first
    |(exfalso; simp at hc; done)
    |exact⟨h1,h2,h3,h4,⟨by simp only[length_set]; exact h5.1,sz_set h5.2 _ (sz_get h5.2 _)⟩⟩
/-! loop 124_0 -/
inductive O124_0 where
  |k0 (w0:Int) (w1:Bool)
  |k1 (w0:Int)
def r124_0 (a0:(List K_R)) (a1:Int):List K_R→Int→O124_0
  |x0::y0,i=>
    if(x0.f0==a1)=true then(O124_0.k1 i) else
    (r124_0 a0 a1 y0 (i+1))
  |[],i=>(O124_0.k0 i (decide (i <((length (map b_R a0)):Int))))
def h124_0 (l0_0:Nat) (a0:(List K_R)) (a1:Int) (i:Int) :St:=⟨[(0,(.one (.bor l0_0 (map b_R a0)))),(1,(.one (.val (.int .i64 a1)))),(5,(.one (.val (.int .i64 i))))],[]⟩
def ex124_0:O124_0→VX.Exit
  |.k0 _ _=>(.exit 0)
  |.k1 _=>.ret
def fin124_0 (l0_0:Nat) (a0:(List K_R)) (a1:Int):O124_0→St
  |.k0 w0 w1=>⟨[(0,(.one (.bor l0_0 (map b_R a0)))),(1,(.one (.val (.int .i64 a1)))),(5,(.one (.val (.int .i64 w0)))),(9,(.one (.val (.bool w1))))],[]⟩
  |.k1 w0=>⟨[(4,(.one (.val (.int .i64 w0))))],[]⟩
theorem t124_0 {l0_0:Nat} {a0:(List K_R)} {a1:Int} (hy0:length a0*56≤140737488351232) (hy1:∀z∈a0,ok_R z):∀(y0:List K_R) (p:List K_R),p++y0=a0→Ev F X (.code l124_0 (h124_0 l0_0 a0 a1 (length p:Int)) (ex124_0 (r124_0 a0 a1 y0 (length p:Int))) (fin124_0 l0_0 a0 a1 (r124_0 a0 a1 y0 (length p:Int))))
  |[],p,hp0=>by
    have hc:¬(decide ((length p:Int) <((length (map b_R a0)):Int)))=true:=by
      rw[← hp0]; simp only[length_map,length_set,length_append,length_replicate,length_cons,length_nil,decide_eq_true_eq]; omega
    have st:=ch b124_0 (h124_0 l0_0 a0 a1 (length p:Int)) ⟨[(0,(.one (.bor l0_0 (map b_R a0)))),(1,(.oi a1)),(5,(.oi (length p:Int))),(9,(.one (.val (.bool (decide ((length p:Int) <((length (map b_R a0)):Int)))))))],[]⟩ (.exit 0) 9 (by kernel_rfl) (.f (nt hc) (.h 8 (.b false) .nil))
    rw[show (⟨[(0,(.one (.bor l0_0 (map b_R a0)))),(1,(.oi a1)),(5,(.oi (length p:Int))),(9,(.one (.val (.bool (decide ((length p:Int) <((length (map b_R a0)):Int)))))))],[]⟩:St)=fin124_0 l0_0 a0 a1 (.k0 (length p:Int) (decide ((length p:Int) <((length (map b_R a0)):Int)))) from(by rfl)] at st
    exact .loopX st (show ((.exit 0):VX.Exit)≠.normal from by simp)
  |x0::y0,p,hp0=>by
    have hc:(decide ((length p:Int) <((length (map b_R a0)):Int)))=true:=by
      rw[← hp0]; simp only[length_map,length_set,length_append,length_replicate,length_cons,length_nil,decide_eq_true_eq]; omega
    have Hx0:(a0)[toNat (length p:Int)]?=some x0:=by
      rw[← hp0,Int.toNat_natCast]; simp
    have Mx0_0:=hy1 x0 (List.mem_of_getElem? Hx0)
    have hlen:length (a0)=length p+length y0+1:=by rw[← hp0]; simp; omega
    have hw:wrap .i64 ((length p:Int)+1)=(length p:Int)+1:=wrap64 (by omega)
    simp only[r124_0]
    have f1:0≤(length p:Int):=(by omega)
    have f2:(map b_R a0)[(toNat (length p:Int))]?=some (b_R x0):=(by rw[getElem?_map,Hx0]; rfl)
    have P1 {hs q} (r:PS F X hs q):=(PS.f hc (.f f1 (.f f2 (.h 8 (.b true) (.h 14 (.row (b_R x0)) r)))))
    by_cases h_1:(x0.f0==a1)=true
    · try simp only[if_pos h_1]
      have st:=ch b124_0 (h124_0 l0_0 a0 a1 (length p:Int)) ⟨[(4,(.oi (length p:Int)))],[]⟩ .ret 28 (by kernel_rfl) (P1 (.f h_1 (.h 23 (.b true) .nil)))
      rw[show (⟨[(4,(.oi (length p:Int)))],[]⟩:St)=fin124_0 l0_0 a0 a1 (.k1 (length p:Int)) from(by rfl)] at st
      exact .loopX st (show (.ret:VX.Exit)≠.normal from by simp)
    · try simp only[if_neg h_1]
      have st:=ch b124_0 (h124_0 l0_0 a0 a1 (length p:Int)) ⟨[(0,(.one (.bor l0_0 (map b_R a0)))),(1,(.oi a1)),(5,(.oi (wrap .i64 ((length p:Int)+1))))],[]⟩ .normal 30 (by kernel_rfl) (P1 (.f (nt h_1) (.f trivial (.h 23 (.b false) .nil))))
      have ih:=t124_0 (l0_0:=l0_0) (a0:=a0) (a1:=a1) hy0 hy1 y0 (p++ [x0]) (by rw[append_assoc]; exact hp0)
      rw[show ((p++ [x0]).length:Int)=(p.length:Int)+1 from by simp] at ih
      rw[show (⟨[(0,(.one (.bor l0_0 (map b_R a0)))),(1,(.oi a1)),(5,(.oi (wrap .i64 ((length p:Int)+1))))],[]⟩:St)=h124_0 l0_0 a0 a1 ((length p:Int)+1)  from(by unfold h124_0; simp only[hw]; done)] at st
      exact .loopN st ih
/-! loop.example/g00539/spec.l14Find -/
def m124 (a0:(List K_R)) (a1:Int):Int:=
  (match r124_0 a0 a1 a0 0 with | .k0 w0_0 w1_0=>(-1) | .k1 w0_0=>w0_0)
theorem e124 {l0_0:Nat} {a0:(List K_R)} {a1:Int} (hy0:length a0*56≤140737488351232) (hy1:∀z∈a0,ok_R z):Ev F X (.call 124 [(.one (.bor l0_0 (map b_R a0))),(.one (.val (.int .i64 a1)))] [] [] [(.one (.val (.int .i64 (m124 a0 a1))))]):=by
  unfold m124
  cases h0:r124_0 a0 a1 a0 0 with
  |k0 w0_0 w1_0=>
    try dsimp only
    have f0:(⟨[(0,(.one (.bor l0_0 (map b_R a0)))),(1,(.oi a1)),(5,(.oi 0))],[]⟩:St)=h124_0 l0_0 a0 a1 0 :=(by rfl)
    have f1:Ev F X (.code l124_0 (h124_0 l0_0 a0 a1 0) (.exit 0) ⟨[(0,(.one (.bor l0_0 (map b_R a0)))),(1,(.oi a1)),(5,(.oi w0_0)),(9,(.one (.val (.bool w1_0))))],[]⟩):=(by have t:Ev F X (.code l124_0 (h124_0 l0_0 a0 a1 0) (ex124_0 (r124_0 a0 a1 a0 0)) (fin124_0 l0_0 a0 a1 (r124_0 a0 a1 a0 0))):=t124_0 (l0_0:=l0_0) (a0:=a0) (a1:=a1) (by assumption) (by assumption) a0 []  rfl; rw[h0] at t; exact t)
    exact cp (by kernel_rfl) (.f f0 (.f f1 (.h 4 (.loop (h124_0 l0_0 a0 a1 0) (.exit 0) ⟨[(0,(.one (.bor l0_0 (map b_R a0)))),(1,(.one (.val (.int .i64 a1)))),(5,(.one (.val (.int .i64 w0_0)))),(9,(.one (.val (.bool w1_0))))],[]⟩) .nil)))
  |k1 w0_0=>
    try dsimp only
    have f0:(⟨[(0,(.one (.bor l0_0 (map b_R a0)))),(1,(.oi a1)),(5,(.oi 0))],[]⟩:St)=h124_0 l0_0 a0 a1 0 :=(by rfl)
    have f1:Ev F X (.code l124_0 (h124_0 l0_0 a0 a1 0) .ret ⟨[(4,(.oi w0_0))],[]⟩):=(by have t:Ev F X (.code l124_0 (h124_0 l0_0 a0 a1 0) (ex124_0 (r124_0 a0 a1 a0 0)) (fin124_0 l0_0 a0 a1 (r124_0 a0 a1 a0 0))):=t124_0 (l0_0:=l0_0) (a0:=a0) (a1:=a1) (by assumption) (by assumption) a0 []  rfl; rw[h0] at t; exact t)
    exact cp (by kernel_rfl) (.f f0 (.f f1 (.h 4 (.loop (h124_0 l0_0 a0 a1 0) .ret ⟨[(4,(.one (.val (.int .i64 w0_0))))],[]⟩) .nil)))
theorem ixr124_0 (a0:(List K_R)) (a1:Int):∀(l:List K_R) (i:Int),(∃(w0:_) (w1:_),r124_0 a0 a1 l i=.k0 w0 w1)∨(∃w,r124_0 a0 a1 l i=.k1 w∧i≤w∧w < i+l.length)
  |[],i=>.inl ⟨i,(decide (i <((length (map b_R a0)):Int))),rfl⟩
  |x::l,i=>by
    have ih:=ixr124_0 a0 a1 l (i+1)
    simp only[r124_0]
    (repeat' split)
    all_goals first
      |exact .inr ⟨i,rfl,by omega,by simp only[length_cons]; omega⟩
      | (rcases ih with ⟨w0, w1, h⟩ | ⟨w, h, h1, h2⟩
         · exact .inl ⟨w0,w1,h⟩
         · exact .inr ⟨w,h,by omega,by simp only[length_cons]; omega⟩)
theorem ix124 (a0:(List K_R)) (a1:Int): -1≤m124 a0 a1∧m124 a0 a1 <(length a0:Int):=by
  unfold m124
  rcases ixr124_0 a0 a1 a0 0 with⟨w0,w1,h⟩ |⟨w,h,h1,h2⟩<;>simp only[h]<;>omega
/-! loop 125_0 -/
inductive O125_0 where
  |k0 (w0:List K_si) (w1:Int) (w2:Bool)
def r125_0 (a1:(List K_si)):List K_si→Int→List K_si→O125_0
  |x0::y0,i,v0=>
    if(decide ((m60 v0 x0.f0)≥0))=true then(r125_0 a1 y0 (i+1) (set v0 (toNat (m60 v0 x0.f0)) (K_si.mk ((getD v0 (toNat (m60 v0 x0.f0)) (K_si.mk (⟨#[]⟩:ByteArray) 0)).f0) (wrap .i64 (((getD v0 (toNat (m60 v0 x0.f0)) (K_si.mk (⟨#[]⟩:ByteArray) 0)).f1)+x0.f1))))) else
    (r125_0 a1 y0 (i+1) (v0++([x0])))
  |[],i,v0=>(O125_0.k0 v0 i (decide (i <((length (map b_si a1)):Int))))
def h125_0 (l0_0:Nat) (l1_0:Nat) (a0:(List K_si)) (a1:(List K_si)) (i:Int) (v0:List K_si):St:=⟨[(1,(.one (.bor l1_0 (map b_si a1)))),(6,(.one (.ref ⟨(6,0,0),[],0,(length (map d_si v0))⟩))),(7,(.one (.val (.int .i64 i))))],[((6,0,0),.live ⟨2,(map d_si v0),[]⟩)]⟩
def ex125_0:O125_0→VX.Exit
  |.k0 _ _ _=>(.exit 0)
def fin125_0 (l0_0:Nat) (l1_0:Nat) (a0:(List K_si)) (a1:(List K_si)):O125_0→St
  |.k0 w0 w1 w2=>⟨[(1,(.one (.bor l1_0 (map b_si a1)))),(6,(.one (.ref ⟨(6,0,0),[],0,(length (map d_si w0))⟩))),(7,(.one (.val (.int .i64 w1)))),(15,(.one (.val (.bool w2))))],[((6,0,0),.live ⟨2,(map d_si w0),[]⟩)]⟩
theorem t125_0 {l0_0:Nat} {l1_0:Nat} {a0:(List K_si)} {a1:(List K_si)} (hy0:length a0≤100) (hy1:length a1≤100):∀(y0:List K_si) (p:List K_si) (v0:List K_si),p++y0=a1→(length v0+length y0)*24≤70368744177664→Ev F X (.code l125_0 (h125_0 l0_0 l1_0 a0 a1 (length p:Int) v0) (ex125_0 (r125_0 a1 y0 (length p:Int) v0)) (fin125_0 l0_0 l1_0 a0 a1 (r125_0 a1 y0 (length p:Int) v0)))
  |[],p,v0,hp0,hi0=>by
    have hc:¬(decide ((length p:Int) <((length (map b_si a1)):Int)))=true:=by
      rw[← hp0]; simp only[length_map,length_set,length_append,length_replicate,length_cons,length_nil,decide_eq_true_eq]; omega
    have hj0:=hi0; try simp only[length_map,length_set,length_append,length_replicate,length_cons,length_nil,Int.toNat_natCast] at hj0
    have st:=ch b125_0 (h125_0 l0_0 l1_0 a0 a1 (length p:Int) v0) ⟨[(1,(.one (.bor l1_0 (map b_si a1)))),(6,(.one (.ref ⟨(6,0,0),[],0,(length (map d_si v0))⟩))),(7,(.oi (length p:Int))),(15,(.one (.val (.bool (decide ((length p:Int) <((length (map b_si a1)):Int)))))))],[((6,0,0),.live ⟨2,(map d_si v0),[]⟩)]⟩ (.exit 0) 9 (by kernel_rfl) (.f (nt hc) (.h 8 (.b false) .nil))
    rw[show (⟨[(1,(.one (.bor l1_0 (map b_si a1)))),(6,(.one (.ref ⟨(6,0,0),[],0,(length (map d_si v0))⟩))),(7,(.oi (length p:Int))),(15,(.one (.val (.bool (decide ((length p:Int) <((length (map b_si a1)):Int)))))))],[((6,0,0),.live ⟨2,(map d_si v0),[]⟩)]⟩:St)=fin125_0 l0_0 l1_0 a0 a1 (.k0 v0 (length p:Int) (decide ((length p:Int) <((length (map b_si a1)):Int)))) from(by rfl)] at st
    exact .loopX st (show ((.exit 0):VX.Exit)≠.normal from by simp)
  |x0::y0,p,v0,hp0,hi0=>by
    have hc:(decide ((length p:Int) <((length (map b_si a1)):Int)))=true:=by
      rw[← hp0]; simp only[length_map,length_set,length_append,length_replicate,length_cons,length_nil,decide_eq_true_eq]; omega
    have Hx0:(a1)[toNat (length p:Int)]?=some x0:=by
      rw[← hp0,Int.toNat_natCast]; simp
    have hlen:length (a1)=length p+length y0+1:=by rw[← hp0]; simp; omega
    have hw:wrap .i64 ((length p:Int)+1)=(length p:Int)+1:=wrap64 (by omega)
    have hj0:=hi0; try simp only[length_map,length_set,length_append,length_replicate,length_cons,length_nil,Int.toNat_natCast] at hj0
    simp only[r125_0]
    have f1:0≤(length p:Int):=(by omega)
    have f2:(map b_si a1)[(toNat (length p:Int))]?=some (b_si x0):=(by rw[getElem?_map,Hx0]; rfl)
    have P1 {hs q} (r:PS F X hs q):=(PS.f hc (.f f1 (.f f2 (ln_si v0 (.h 8 (.b true) (.h 16 (.row (b_si x0)) (.r 22 [] [(map b_si v0)] (e60 (l0_0:=0) (a0:=v0) (a1:=x0.f0) (by omega)) r)))))))
    by_cases h_1:(decide ((m60 v0 x0.f0)≥0))=true
    · try simp only[if_pos h_1]
      have f8:0+(length (map d_si v0))≤(length (map d_si v0)):=(by omega)
      have f9:0≤(m60 v0 x0.f0)∧(m60 v0 x0.f0) <((length (map d_si v0)):Int):=(by have q:=ix60 v0 x0.f0; simp only[decide_eq_true_eq,length_map] at*; omega)
      have f10:(map d_si v0)[(0+(toNat (m60 v0 x0.f0)))]?=some (d_si (getD v0 (toNat (m60 v0 x0.f0)) (K_si.mk (⟨#[]⟩:ByteArray) 0))):=(by rw[Nat.zero_add,getElem?_map,getD_at v0 (toNat (m60 v0 x0.f0)) (K_si.mk (⟨#[]⟩:ByteArray) 0) (by first | exact True.intro | with_reducible rfl | with_reducible assumption | omega |(have q:=al125 (by with_reducible assumption); simp only[decide_eq_true_eq,length_map,length_append,length_nil,length_cons] at*; omega) |(have q:=ix60 v0 x0.f0; simp only[decide_eq_true_eq,length_map] at*; omega) |(unfold m60;(repeat' split)<;>simp_all<;>omega) |(simp only[decide_eq_true_eq] at*; omega) |(simp only[length_map]; omega) |(simp; omega) |(simp[take_of_length_le]; done) | assumption | trivial |(simp[*,byteRows_eq,ints_y]; done))]; rfl)
      have f17:(set (map d_si v0) (0+(toNat (m60 v0 x0.f0))) [(.val (.string ((getD v0 (toNat (m60 v0 x0.f0)) (K_si.mk (⟨#[]⟩:ByteArray) 0)).f0))),(.val (.int .i64 (wrap .i64 (((getD v0 (toNat (m60 v0 x0.f0)) (K_si.mk (⟨#[]⟩:ByteArray) 0)).f1)+x0.f1))))])=(map d_si (set v0 (toNat (m60 v0 x0.f0)) (K_si.mk ((getD v0 (toNat (m60 v0 x0.f0)) (K_si.mk (⟨#[]⟩:ByteArray) 0)).f0) (wrap .i64 (((getD v0 (toNat (m60 v0 x0.f0)) (K_si.mk (⟨#[]⟩:ByteArray) 0)).f1)+x0.f1))))):=(by simp[byteRows_eq,ints_y,take_of_length_le,d_y,d_LyE,d_b,d_si,d_R,d_B,d_s,d_i,d_C,d_ii,d_LyEi,d_LiE,d_LsiE,d_iLsiE,d_Q,fromBR_y,fromBR_b,fromBR_si,fromBR_s,fromBR_i,fromBR_ii]; done)
      have st:=ch b125_0 (h125_0 l0_0 l1_0 a0 a1 (length p:Int) v0) ⟨[(1,(.one (.bor l1_0 (map b_si a1)))),(6,(.one (.ref ⟨(6,0,0),[],0,(length (map d_si v0))⟩))),(7,(.oi (wrap .i64 ((length p:Int)+1))))],[((6,0,0),.live ⟨2,(map d_si (set v0 (toNat (m60 v0 x0.f0)) (K_si.mk ((getD v0 (toNat (m60 v0 x0.f0)) (K_si.mk (⟨#[]⟩:ByteArray) 0)).f0) (wrap .i64 (((getD v0 (toNat (m60 v0 x0.f0)) (K_si.mk (⟨#[]⟩:ByteArray) 0)).f1)+x0.f1))))),[]⟩)]⟩ .normal 69 (by kernel_rfl) (P1 (.f h_1 (.f f8 (.f f9 (.f f10 (.f f1 (.f f2 (.f trivial (.f f8 (.f f9 (.f f10 (.f f17 (.f trivial (.h 29 (.b true) (.h 43 (.rowD (d_si (getD v0 (toNat (m60 v0 x0.f0)) (K_si.mk (⟨#[]⟩:ByteArray) 0)))) (.h 49 (.row (b_si x0)) (.h 61 (.rowD (d_si (getD v0 (toNat (m60 v0 x0.f0)) (K_si.mk (⟨#[]⟩:ByteArray) 0)))) (.h 62 (.norm (6,0,0) (map d_si (set v0 (toNat (m60 v0 x0.f0)) (K_si.mk ((getD v0 (toNat (m60 v0 x0.f0)) (K_si.mk (⟨#[]⟩:ByteArray) 0)).f0) (wrap .i64 (((getD v0 (toNat (m60 v0 x0.f0)) (K_si.mk (⟨#[]⟩:ByteArray) 0)).f1)+x0.f1)))))) .nil))))))))))))))))))
      have ih:=t125_0 (l0_0:=l0_0) (l1_0:=l1_0) (a0:=a0) (a1:=a1) hy0 hy1 y0 (p++ [x0]) (set v0 (toNat (m60 v0 x0.f0)) (K_si.mk ((getD v0 (toNat (m60 v0 x0.f0)) (K_si.mk (⟨#[]⟩:ByteArray) 0)).f0) (wrap .i64 (((getD v0 (toNat (m60 v0 x0.f0)) (K_si.mk (⟨#[]⟩:ByteArray) 0)).f1)+x0.f1)))) (by rw[append_assoc]; exact hp0) (by simp only[length_map,length_set,length_append,length_replicate,length_cons,length_nil]; omega)
      rw[show ((p++ [x0]).length:Int)=(p.length:Int)+1 from by simp] at ih
      rw[show (⟨[(1,(.one (.bor l1_0 (map b_si a1)))),(6,(.one (.ref ⟨(6,0,0),[],0,(length (map d_si v0))⟩))),(7,(.oi (wrap .i64 ((length p:Int)+1))))],[((6,0,0),.live ⟨2,(map d_si (set v0 (toNat (m60 v0 x0.f0)) (K_si.mk ((getD v0 (toNat (m60 v0 x0.f0)) (K_si.mk (⟨#[]⟩:ByteArray) 0)).f0) (wrap .i64 (((getD v0 (toNat (m60 v0 x0.f0)) (K_si.mk (⟨#[]⟩:ByteArray) 0)).f1)+x0.f1))))),[]⟩)]⟩:St)=h125_0 l0_0 l1_0 a0 a1 ((length p:Int)+1) (set v0 (toNat (m60 v0 x0.f0)) (K_si.mk ((getD v0 (toNat (m60 v0 x0.f0)) (K_si.mk (⟨#[]⟩:ByteArray) 0)).f0) (wrap .i64 (((getD v0 (toNat (m60 v0 x0.f0)) (K_si.mk (⟨#[]⟩:ByteArray) 0)).f1)+x0.f1)))) from(by unfold h125_0; simp only[hw,length_map,length_set,length_append,length_replicate,length_cons,length_nil]; done)] at st
      exact .loopN st ih
    · try simp only[if_neg h_1]
      have f10:0+(length (map d_si v0))≤(length (map d_si v0)):=(by omega)
      have f11:1≤1:=(by omega)
      have f12:((take 1 (drop 0 [[(.val (.string x0.f0)),(.val (.int .i64 x0.f1))]])).all fun x=>x.all copyable)=true:=(by trivial)
      have f13:(length ((take (length (map d_si v0)) (drop 0 (map d_si v0)))++([[(.val (.string x0.f0)),(.val (.int .i64 x0.f1))]]:List (List D))))*24≤70368744177664:=(by simp only[length_map,length_append,length_cons,length_nil,length_take,length_drop]; omega)
      have f14:∀r∈([[(.val (.string x0.f0)),(.val (.int .i64 x0.f1))]]:List (List D)),r.length=2:=(by simp; done)
      have f15:((take (length (map d_si v0)) (drop 0 (map d_si v0)))++([[(.val (.string x0.f0)),(.val (.int .i64 x0.f1))]]:List (List D)))=(map d_si (v0++([x0]))):=(by simp[byteRows_eq,ints_y,take_of_length_le,d_y,d_LyE,d_b,d_si,d_R,d_B,d_s,d_i,d_C,d_ii,d_LyEi,d_LiE,d_LsiE,d_iLsiE,d_Q,fromBR_y,fromBR_b,fromBR_si,fromBR_s,fromBR_i,fromBR_ii]; done)
      have st:=ch b125_0 (h125_0 l0_0 l1_0 a0 a1 (length p:Int) v0) ⟨[(1,(.one (.bor l1_0 (map b_si a1)))),(6,(.one (.ref ⟨(6,0,0),[],0,(length ((take (length (map d_si v0)) (drop 0 (map d_si v0)))++([[(.val (.string x0.f0)),(.i x0.f1)]]:List (List D))))⟩))),(7,(.oi (wrap .i64 ((length p:Int)+1))))],[((6,0,0),.live ⟨2,(map d_si (v0++([x0]))),[]⟩)]⟩ .normal 53 (by kernel_rfl) (P1 (.f (nt h_1) (.f f1 (.f f2 (.f f10 (.f f11 (.f f12 (.f f13 (.f f14 (.f f15 (.f trivial (.h 29 (.b false) (.h 37 (.row (b_si x0)) (.h 43 (.b true) (.h 46 (.norm (6,0,0) (map d_si (v0++([x0])))) .nil)))))))))))))))
      have ih:=t125_0 (l0_0:=l0_0) (l1_0:=l1_0) (a0:=a0) (a1:=a1) hy0 hy1 y0 (p++ [x0]) (v0++([x0])) (by rw[append_assoc]; exact hp0) (by simp only[length_map,length_set,length_append,length_replicate,length_cons,length_nil]; omega)
      rw[show ((p++ [x0]).length:Int)=(p.length:Int)+1 from by simp] at ih
      rw[show (⟨[(1,(.one (.bor l1_0 (map b_si a1)))),(6,(.one (.ref ⟨(6,0,0),[],0,(length ((take (length (map d_si v0)) (drop 0 (map d_si v0)))++([[(.val (.string x0.f0)),(.i x0.f1)]]:List (List D))))⟩))),(7,(.oi (wrap .i64 ((length p:Int)+1))))],[((6,0,0),.live ⟨2,(map d_si (v0++([x0]))),[]⟩)]⟩:St)=h125_0 l0_0 l1_0 a0 a1 ((length p:Int)+1) (v0++([x0])) from(by unfold h125_0; simp[hw,byteRows_eq,ints_y,take_of_length_le,d_y,d_LyE,d_b,d_si,d_R,d_B,d_s,d_i,d_C,d_ii,d_LyEi,d_LiE,d_LsiE,d_iLsiE,d_Q,fromBR_y,fromBR_b,fromBR_si,fromBR_s,fromBR_i,fromBR_ii]; done)] at st
      exact .loopN st ih
theorem og100 {l:List K_R} (h:∀z∈l,z.f3.length≤100) (i:Nat):(getD l i (K_R.mk 0 0 0 [] 0)).f3.length≤100:=by
  rw[List.getD_eq_getElem?_getD]
  cases h2:l[i]? with
  |none=>simp
  |some x=>exact h x (List.mem_of_getElem? h2)
theorem al125 {a:List K_si}:∀ {l:List K_si} {i:Int} {v:List K_si} {w:List K_si} {j b},r125_0 a l i v=.k0 w j b→w.length≤v.length+l.length
  |[],i,v,w,j,b,h=>by simp only[r125_0] at h; injection h with h; subst h; simp
  |x::l,i,v,w,j,b,h=>by
    simp only[r125_0] at h
    split at h
    · have q:=al125 h; simp only[length_set,length_cons] at q⊢; omega
    · have q:=al125 h; simp only[length_append,length_cons,length_nil] at q⊢; omega
/-! loop 125_1 -/
inductive O125_1 where
  |k0 (w0:Int) (w1:Bool)
  |k1
def r125_1 (c0_125_1:List K_si):List K_si→Int→O125_1
  |x0::y0,i=>
    if(!(m105 x0.f1 0 1000000))=true then(O125_1.k1) else
    (r125_1 c0_125_1 y0 (i+1))
  |[],i=>(O125_1.k0 i (decide (i <((length (map d_si c0_125_1)):Int))))
def h125_1 (l0_0:Nat) (l1_0:Nat) (a0:(List K_si)) (a1:(List K_si)) (c0_125_1:List K_si) (i:Int) :St:=⟨[(6,(.one (.ref ⟨(6,0,0),[],0,(length (map d_si c0_125_1))⟩))),(9,(.one (.val (.int .i64 i))))],[((6,0,0),.live ⟨2,(map d_si c0_125_1),[]⟩)]⟩
def ex125_1:O125_1→VX.Exit
  |.k0 _ _=>(.exit 2)
  |.k1=>.ret
def fin125_1 (l0_0:Nat) (l1_0:Nat) (a0:(List K_si)) (a1:(List K_si)) (c0_125_1:List K_si):O125_1→St
  |.k0 w0 w1=>⟨[(6,(.one (.ref ⟨(6,0,0),[],0,(length (map d_si c0_125_1))⟩))),(9,(.one (.val (.int .i64 w0)))),(55,(.one (.val (.bool w1))))],[((6,0,0),.live ⟨2,(map d_si c0_125_1),[]⟩)]⟩
  |.k1=>⟨[(6,(.one (.ref ⟨(6,0,0),[],0,(length (map d_si c0_125_1))⟩))),(4,(.one (.nl 2))),(5,(.one (.val (.int .i64 7))))],[((6,0,0),.live ⟨2,(map d_si c0_125_1),[]⟩)]⟩
theorem t125_1 {l0_0:Nat} {l1_0:Nat} {a0:(List K_si)} {a1:(List K_si)} {c0_125_1:List K_si} (hy0:length a0≤100) (hy1:length a1≤100) (hy2:length c0_125_1≤140737488351232):∀(y0:List K_si) (p:List K_si),p++y0=c0_125_1→Ev F X (.code l125_1 (h125_1 l0_0 l1_0 a0 a1 c0_125_1 (length p:Int)) (ex125_1 (r125_1 c0_125_1 y0 (length p:Int))) (fin125_1 l0_0 l1_0 a0 a1 c0_125_1 (r125_1 c0_125_1 y0 (length p:Int))))
  |[],p,hp0=>by
    have hc:¬(decide ((length p:Int) <((length (map d_si c0_125_1)):Int)))=true:=by
      rw[← hp0]; simp only[length_map,length_set,length_append,length_replicate,length_cons,length_nil,decide_eq_true_eq]; omega
    have st:=ch b125_1 (h125_1 l0_0 l1_0 a0 a1 c0_125_1 (length p:Int)) ⟨[(6,(.one (.ref ⟨(6,0,0),[],0,(length (map d_si c0_125_1))⟩))),(9,(.oi (length p:Int))),(55,(.one (.val (.bool (decide ((length p:Int) <((length (map d_si c0_125_1)):Int)))))))],[((6,0,0),.live ⟨2,(map d_si c0_125_1),[]⟩)]⟩ (.exit 2) 9 (by kernel_rfl) (.f (nt hc) (.h 8 (.b false) .nil))
    rw[show (⟨[(6,(.one (.ref ⟨(6,0,0),[],0,(length (map d_si c0_125_1))⟩))),(9,(.oi (length p:Int))),(55,(.one (.val (.bool (decide ((length p:Int) <((length (map d_si c0_125_1)):Int)))))))],[((6,0,0),.live ⟨2,(map d_si c0_125_1),[]⟩)]⟩:St)=fin125_1 l0_0 l1_0 a0 a1 c0_125_1 (.k0 (length p:Int) (decide ((length p:Int) <((length (map d_si c0_125_1)):Int)))) from(by rfl)] at st
    exact .loopX st (show ((.exit 2):VX.Exit)≠.normal from by simp)
  |x0::y0,p,hp0=>by
    have hc:(decide ((length p:Int) <((length (map d_si c0_125_1)):Int)))=true:=by
      rw[← hp0]; simp only[length_map,length_set,length_append,length_replicate,length_cons,length_nil,decide_eq_true_eq]; omega
    have Hx0:(c0_125_1)[toNat (length p:Int)]?=some x0:=by
      rw[← hp0,Int.toNat_natCast]; simp
    have hlen:length (c0_125_1)=length p+length y0+1:=by rw[← hp0]; simp; omega
    have hw:wrap .i64 ((length p:Int)+1)=(length p:Int)+1:=wrap64 (by omega)
    simp only[r125_1]
    have f1:0+(length (map d_si c0_125_1))≤(length (map d_si c0_125_1)):=(by omega)
    have f2:0≤(length p:Int)∧(length p:Int) <((length (map d_si c0_125_1)):Int):=(by simp only[decide_eq_true_eq] at*; omega)
    have f3:(map d_si c0_125_1)[(0+(toNat (length p:Int)))]?=some (d_si x0):=(by rw[Nat.zero_add,getElem?_map,Hx0]; rfl)
    have P1 {hs q} (r:PS F X hs q):=(PS.f hc (.f f1 (.f f2 (.f f3 (.h 8 (.b true) (.h 18 (.rowD (d_si x0)) (.r 20 [] [] (e101 (a0:=x0.f1)) r)))))))
    by_cases h_1:(!(m105 x0.f1 0 1000000))=true
    · try simp only[if_pos h_1]
      have st:=ch b125_1 (h125_1 l0_0 l1_0 a0 a1 c0_125_1 (length p:Int)) ⟨[(6,(.one (.ref ⟨(6,0,0),[],0,(length (map d_si c0_125_1))⟩))),(4,(.one (.nl 2))),(5,(.oi 7))],[((6,0,0),.live ⟨2,(map d_si c0_125_1),[]⟩)]⟩ .ret 28 (by kernel_rfl) (P1 (.f h_1 (.h 23 (.b true) .nil)))
      rw[show (⟨[(6,(.one (.ref ⟨(6,0,0),[],0,(length (map d_si c0_125_1))⟩))),(4,(.one (.nl 2))),(5,(.oi 7))],[((6,0,0),.live ⟨2,(map d_si c0_125_1),[]⟩)]⟩:St)=fin125_1 l0_0 l1_0 a0 a1 c0_125_1 (.k1) from(by rfl)] at st
      exact .loopX st (show (.ret:VX.Exit)≠.normal from by simp)
    · try simp only[if_neg h_1]
      have st:=ch b125_1 (h125_1 l0_0 l1_0 a0 a1 c0_125_1 (length p:Int)) ⟨[(6,(.one (.ref ⟨(6,0,0),[],0,(length (map d_si c0_125_1))⟩))),(9,(.oi (wrap .i64 ((length p:Int)+1))))],[((6,0,0),.live ⟨2,(map d_si c0_125_1),[]⟩)]⟩ .normal 30 (by kernel_rfl) (P1 (.f (nt h_1) (.f trivial (.h 23 (.b false) .nil))))
      have ih:=t125_1 (l0_0:=l0_0) (l1_0:=l1_0) (a0:=a0) (a1:=a1) (c0_125_1:=c0_125_1) hy0 hy1 hy2 y0 (p++ [x0]) (by rw[append_assoc]; exact hp0)
      rw[show ((p++ [x0]).length:Int)=(p.length:Int)+1 from by simp] at ih
      rw[show (⟨[(6,(.one (.ref ⟨(6,0,0),[],0,(length (map d_si c0_125_1))⟩))),(9,(.oi (wrap .i64 ((length p:Int)+1))))],[((6,0,0),.live ⟨2,(map d_si c0_125_1),[]⟩)]⟩:St)=h125_1 l0_0 l1_0 a0 a1 c0_125_1 ((length p:Int)+1)  from(by unfold h125_1; simp only[hw]; done)] at st
      exact .loopN st ih
/-! loop.example/g00539/spec.l14Add -/
def m125_0 (a0:(List K_si)) (a1:(List K_si)):(List K_si):=
  (match r125_0 a1 a1 0 (([])++a0) with | .k0 w0_1 w1_1 w2_1=>(if(decide (((length (map d_si w0_1)):Int) > 8))=true then[] else(match r125_1 w0_1 w0_1 0 with | .k0 w0_3 w1_3=>w0_1 | .k1=>[])))
def m125_1 (a0:(List K_si)) (a1:(List K_si)):Int:=
  (match r125_0 a1 a1 0 (([])++a0) with | .k0 w0_1 w1_1 w2_1=>(if(decide (((length (map d_si w0_1)):Int) > 8))=true then 10 else(match r125_1 w0_1 w0_1 0 with | .k0 w0_3 w1_3=>0 | .k1=>7)))
theorem e125 {l0_0:Nat} {a0:(List K_si)} {l1_0:Nat} {a1:(List K_si)} (hy0:length a0≤100) (hy1:length a1≤100):Ev F X (.call 125 [(.one (.bor l0_0 (map b_si a0))),(.one (.bor l1_0 (map b_si a1)))] [] [] [(.one (.own 2 (map d_si (m125_0 a0 a1)))),(.one (.val (.int .i64 (m125_1 a0 a1))))]):=by
  unfold m125_0 m125_1
  have P0 {hs q} (r:PS F X hs q):=(PS.r 7 [] [] (e137 (l0_0:=(l0_0+1)) (a0:=a0) (by omega)) r)
  cases h0:r125_0 a1 a1 0 (([])++a0) with
  |k0 w0_1 w1_1 w2_1=>
    try dsimp only
    have f1:(⟨[(1,(.one (.bor l1_0 (map b_si a1)))),(6,(.one (.ref ⟨(6,0,0),[],0,(length (map d_si (([])++a0)))⟩))),(7,(.oi 0))],[((6,0,0),.live ⟨2,(map d_si (([])++a0)),[]⟩)]⟩:St)=h125_0 l0_0 l1_0 a0 a1 0 (([])++a0):=(by rfl)
    have f2:Ev F X (.code l125_0 (h125_0 l0_0 l1_0 a0 a1 0 (([])++a0)) (.exit 0) ⟨[(1,(.one (.bor l1_0 (map b_si a1)))),(6,(.one (.ref ⟨(6,0,0),[],0,(length (map d_si w0_1))⟩))),(7,(.oi w1_1)),(15,(.one (.val (.bool w2_1))))],[((6,0,0),.live ⟨2,(map d_si w0_1),[]⟩)]⟩):=(by have t:Ev F X (.code l125_0 (h125_0 l0_0 l1_0 a0 a1 0 (([])++a0)) (ex125_0 (r125_0 a1 a1 0 (([])++a0))) (fin125_0 l0_0 l1_0 a0 a1 (r125_0 a1 a1 0 (([])++a0)))):=t125_0 (l0_0:=l0_0) (l1_0:=l1_0) (a0:=a0) (a1:=a1) (by assumption) (by assumption) a1 [] (([])++a0) rfl (by simp only[length_map,length_set,length_append,length_replicate,length_cons,length_nil]; omega); rw[h0] at t; exact t)
    have P1 {hs q} (r:PS F X hs q):=(P0 (.f f1 (.f f2 (.h 12 (.loop (h125_0 l0_0 l1_0 a0 a1 0 (([])++a0)) (.exit 0) ⟨[(1,(.one (.bor l1_0 (map b_si a1)))),(6,(.one (.ref ⟨(6,0,0),[],0,(length (map d_si w0_1))⟩))),(7,(.one (.val (.int .i64 w1_1)))),(15,(.one (.val (.bool w2_1))))],[((6,0,0),.live ⟨2,(map d_si w0_1),[]⟩)]⟩) r))))
    by_cases h1:(decide (((length (map d_si w0_1)):Int) > 8))=true
    · try simp only[if_pos h1]
      have f4:pureR []=true:=(by trivial)
      exact cp (by kernel_rfl) (P1 (.f h1 (.f f4 (.h 19 (.b true) .nil))))
    · try simp only[if_neg h1]
      cases h2:r125_1 w0_1 w0_1 0 with
      |k0 w0_3 w1_3=>
        try dsimp only
        have f4:(⟨[(6,(.one (.ref ⟨(6,0,0),[],0,(length (map d_si w0_1))⟩))),(9,(.oi 0))],[((6,0,0),.live ⟨2,(map d_si w0_1),[]⟩)]⟩:St)=h125_1 l0_0 l1_0 a0 a1 w0_1 0 :=(by rfl)
        have f5:Ev F X (.code l125_1 (h125_1 l0_0 l1_0 a0 a1 w0_1 0) (.exit 2) ⟨[(6,(.one (.ref ⟨(6,0,0),[],0,(length (map d_si w0_1))⟩))),(9,(.oi w0_3)),(55,(.one (.val (.bool w1_3))))],[((6,0,0),.live ⟨2,(map d_si w0_1),[]⟩)]⟩):=(by have t:Ev F X (.code l125_1 (h125_1 l0_0 l1_0 a0 a1 w0_1 0) (ex125_1 (r125_1 w0_1 w0_1 0)) (fin125_1 l0_0 l1_0 a0 a1 w0_1 (r125_1 w0_1 w0_1 0))):=t125_1 (l0_0:=l0_0) (l1_0:=l1_0) (a0:=a0) (a1:=a1) (c0_125_1:=w0_1) (by assumption) (by assumption) (by have q:=al125 (by with_reducible assumption); simp only[decide_eq_true_eq,length_map,length_append,length_nil,length_cons] at*; omega) w0_1 []  rfl; rw[h2] at t; exact t)
        exact cp (by kernel_rfl) (P1 (.f (nt h1) (.f f4 (.f f5 (pe 0 (pe (length (map d_si w0_1)) (.f (pureR_si w0_1) (.h 19 (.b false) (.h 22 (.loop (h125_1 l0_0 l1_0 a0 a1 w0_1 0) (.exit 2) ⟨[(6,(.one (.ref ⟨(6,0,0),[],0,(length (map d_si w0_1))⟩))),(9,(.one (.val (.int .i64 w0_3)))),(55,(.one (.val (.bool w1_3))))],[((6,0,0),.live ⟨2,(map d_si w0_1),[]⟩)]⟩) .nil)))))))))
      |k1=>
        try dsimp only
        have f4:(⟨[(6,(.one (.ref ⟨(6,0,0),[],0,(length (map d_si w0_1))⟩))),(9,(.oi 0))],[((6,0,0),.live ⟨2,(map d_si w0_1),[]⟩)]⟩:St)=h125_1 l0_0 l1_0 a0 a1 w0_1 0 :=(by rfl)
        have f5:Ev F X (.code l125_1 (h125_1 l0_0 l1_0 a0 a1 w0_1 0) .ret ⟨[(6,(.one (.ref ⟨(6,0,0),[],0,(length (map d_si w0_1))⟩))),(4,(.one (.nl 2))),(5,(.oi 7))],[((6,0,0),.live ⟨2,(map d_si w0_1),[]⟩)]⟩):=(by have t:Ev F X (.code l125_1 (h125_1 l0_0 l1_0 a0 a1 w0_1 0) (ex125_1 (r125_1 w0_1 w0_1 0)) (fin125_1 l0_0 l1_0 a0 a1 w0_1 (r125_1 w0_1 w0_1 0))):=t125_1 (l0_0:=l0_0) (l1_0:=l1_0) (a0:=a0) (a1:=a1) (c0_125_1:=w0_1) (by assumption) (by assumption) (by have q:=al125 (by with_reducible assumption); simp only[decide_eq_true_eq,length_map,length_append,length_nil,length_cons] at*; omega) w0_1 []  rfl; rw[h2] at t; exact t)
        have f6:pureR []=true:=(by trivial)
        exact cp (by kernel_rfl) (P1 (.f (nt h1) (.f f4 (.f f5 (.f f6 (.h 19 (.b false) (.h 22 (.loop (h125_1 l0_0 l1_0 a0 a1 w0_1 0) .ret ⟨[(6,(.one (.ref ⟨(6,0,0),[],0,(length (map d_si w0_1))⟩))),(4,(.one (.nl 2))),(5,(.one (.val (.int .i64 7))))],[((6,0,0),.live ⟨2,(map d_si w0_1),[]⟩)]⟩) .nil)))))))
theorem ad8 (a b:List K_si):(m125_0 a b).length≤8:=by
  unfold m125_0
  cases h0:r125_0 b b 0 (([])++a) with
  |k0 w i c=>
    simp only[]
    split
    · simp
    · rename_i h1
      cases r125_1 w w 0 with
      |k0 u v=>simp only[decide_eq_true_eq,length_map] at h1; simp only[]; omega
      |k1=>simp
theorem asz_r (a:List K_si):∀(l:List K_si) (i:Int) (v:List K_si),(∀z∈l,ByteArray.size z.f0≤3)→(∀z∈v,ByteArray.size z.f0≤3)→∀w j b,r125_0 a l i v=.k0 w j b→∀z∈w,ByteArray.size z.f0≤3
  |[],i,v,_,hv,w,j,b,e=>by
    simp only[r125_0] at e
    injection e with e0 e1 e2
    subst e0; exact hv
  |x::l,i,v,hl,hv,w,j,b,e=>by
    have hl':∀z∈l,ByteArray.size z.f0≤3:=fun z hz=>hl z (List.mem_cons_of_mem _ hz)
    simp only[r125_0] at e
    split at e
    · exact asz_r a l _ _ hl' (by exact sz_set hv _ (sz_get hv _)) w j b e
    · exact asz_r a l _ _ hl' (by exact sz_app hv (hl x (List.mem_cons_self ..))) w j b e
theorem adG {a b:List K_si} (h:∀z∈a,ByteArray.size z.f0≤3) (hb:∀z∈b,ByteArray.size z.f0≤3):GP 8 (m125_0 a b):=by
  refine⟨ad8 a b,?_⟩
  unfold m125_0
  cases e:r125_0 b b 0 (([])++a) with
  |k0 w j c=>
    simp only[]
    have hw:=asz_r b b 0 _ hb (by simpa using h) w j c e
    split
    · intro z hz; cases hz
    · cases r125_1 w w 0 with
      |k0 u v=>exact hw
      |k1=>intro z hz; cases hz
/-! loop.example/g00539/spec.l14Ripen -/
def m78 (a0:K_B) (a1:Int):K_C:=
  if(decide ((m124 a0.f3 a1) < 0))=true then(K_C.mk 4 0 0 0 ([]) ([]) ([]) 0 0 0) else
  if(((getD a0.f3 (toNat (m124 a0.f3 a1)) (K_R.mk 0 0 0 [] 0)).f4) !=1)=true then(K_C.mk 9 0 0 0 ([]) ([]) ([]) 0 0 0) else
    if((m125_1 a0.f4 ((getD a0.f3 (toNat (m124 a0.f3 a1)) (K_R.mk 0 0 0 [] 0)).f3)) !=0)=true then(K_C.mk (m125_1 a0.f4 ((getD a0.f3 (toNat (m124 a0.f3 a1)) (K_R.mk 0 0 0 [] 0)).f3)) 0 0 0 ([]) ([]) ([]) 0 0 0) else
      if(!(m105 (wrap .i64 (a0.f6+((getD a0.f3 (toNat (m124 a0.f3 a1)) (K_R.mk 0 0 0 [] 0)).f2))) 0 1000000))=true then(K_C.mk 7 0 0 0 ([]) ([]) ([]) 0 0 0) else
        (K_C.mk 0 0 ((m103 a0).f0) ((m103 a0).f1) ((m103 a0).f2) (set ((m103 a0).f3) (toNat (m124 a0.f3 a1)) (K_R.mk ((getD ((m103 a0).f3) (toNat (m124 a0.f3 a1)) (K_R.mk 0 0 0 [] 0)).f0) ((getD ((m103 a0).f3) (toNat (m124 a0.f3 a1)) (K_R.mk 0 0 0 [] 0)).f1) ((getD ((m103 a0).f3) (toNat (m124 a0.f3 a1)) (K_R.mk 0 0 0 [] 0)).f2) ((getD ((m103 a0).f3) (toNat (m124 a0.f3 a1)) (K_R.mk 0 0 0 [] 0)).f3) 2)) (m125_0 a0.f4 ((getD a0.f3 (toNat (m124 a0.f3 a1)) (K_R.mk 0 0 0 [] 0)).f3)) ((m103 a0).f5) (wrap .i64 (a0.f6+((getD a0.f3 (toNat (m124 a0.f3 a1)) (K_R.mk 0 0 0 [] 0)).f2))) ((m103 a0).f7))
theorem e78 {l0_2:Nat} {l0_3:Nat} {l0_4:Nat} {a0:K_B} {a1:Int} (hy0:length a0.f2≤100) (hy1:length a0.f3≤100) (hy2:∀z∈a0.f3,length z.f3≤100) (hy3:length a0.f4≤100) (hy4:∀z∈a0.f3,ok_R z):Ev F X (.call 78 [(.agg (k_B l0_2 l0_3 l0_4 a0)),(.one (.val (.int .i64 a1)))] [] [] [(.agg (d_C (m78 a0 a1)))]):=by
  unfold m78
  have P0 {hs q} (r:PS F X hs q):=(PS.r 11 [] [] (e124 (l0_0:=(l0_3+1)) (a0:=a0.f3) (a1:=a1) (by omega) (by with_reducible assumption)) r)
  by_cases h0:(decide ((m124 a0.f3 a1) < 0))=true
  · try simp only[if_pos h0]
    exact cp (by kernel_rfl) (P0 (.f h0 (.h 18 (.b true) (.r 20 [] [] (e52 (a0:=4)) (pe 0 (pe (length (map d_si ([]))) (pe 0 (pe (length (map d_R ([]))) (pe 0 (pe (length (map d_si ([]))) (.f (pureR_si ([])) (.f (pureR_R ([])) (.f (pureR_si ([])) .nil)))))))))))))
  · try simp only[if_neg h0]
    have f2:0≤(m124 a0.f3 a1):=(by have q:=ix124 a0.f3 a1; simp only[decide_eq_true_eq,length_map] at*; omega)
    have f3:(map b_R a0.f3)[(toNat (m124 a0.f3 a1))]?=some (b_R (getD a0.f3 (toNat (m124 a0.f3 a1)) (K_R.mk 0 0 0 [] 0))):=(by rw[getElem?_map,getD_at a0.f3 (toNat (m124 a0.f3 a1)) (K_R.mk 0 0 0 [] 0) (by first | exact True.intro | with_reducible rfl | with_reducible assumption | omega |(rw[cp103]; omega) |(rw[cp103]; assumption) |(simp only[cp103,length_map]; have q:=ix124 a0.f3 a1; simp only[decide_eq_true_eq] at*; omega) |(exact og100 (by with_reducible assumption) _) |(have q:=ad8 a0.f4 ((getD a0.f3 (toNat (m124 a0.f3 a1)) (K_R.mk 0 0 0 [] 0)).f3); simp only[length_map]; omega) |(have q:=ix124 a0.f3 a1; simp only[decide_eq_true_eq,length_map] at*; omega) |(unfold m124;(repeat' split)<;>simp_all<;>omega) |(simp only[decide_eq_true_eq] at*; omega) |(simp only[length_map]; omega) |(simp; omega) |(simp[take_of_length_le]; done) | assumption | trivial |(simp[*,byteRows_eq,ints_y]; done))]; rfl)
    have P1 {hs q} (r:PS F X hs q):=(P0 (.f (nt h0) (.f f2 (.f f3 (.h 18 (.b false) (.h 26 (.row (b_R (getD a0.f3 (toNat (m124 a0.f3 a1)) (K_R.mk 0 0 0 [] 0)))) r))))))
    by_cases h1:(((getD a0.f3 (toNat (m124 a0.f3 a1)) (K_R.mk 0 0 0 [] 0)).f4) !=1)=true
    · try simp only[if_pos h1]
      exact cp (by kernel_rfl) (P1 (.f h1 (.h 39 (.b true) (.r 41 [] [] (e52 (a0:=9)) (pe 0 (pe (length (map d_si ([]))) (pe 0 (pe (length (map d_R ([]))) (pe 0 (pe (length (map d_si ([]))) (.f (pureR_si ([])) (.f (pureR_R ([])) (.f (pureR_si ([])) .nil)))))))))))))
    · try simp only[if_neg h1]
      have P2 {hs q} (r:PS F X hs q):=(P1 (.f (nt h1) (.h 39 (.b false) (.r 53 [] [] (e125 (l0_0:=(l0_4+1)) (l1_0:=(l0_3+1)) (a0:=a0.f4) (a1:=((getD a0.f3 (toNat (m124 a0.f3 a1)) (K_R.mk 0 0 0 [] 0)).f3)) (by with_reducible assumption) (by exact og100 (by with_reducible assumption) _)) r))))
      by_cases h2:((m125_1 a0.f4 ((getD a0.f3 (toNat (m124 a0.f3 a1)) (K_R.mk 0 0 0 [] 0)).f3)) !=0)=true
      · try simp only[if_pos h2]
        exact cp (by kernel_rfl) (P2 (.f h2 (.h 68 (.b true) (.r 72 [] [] (e52 (a0:=(m125_1 a0.f4 ((getD a0.f3 (toNat (m124 a0.f3 a1)) (K_R.mk 0 0 0 [] 0)).f3)))) (pe 0 (pe (length (map d_si ([]))) (pe 0 (pe (length (map d_R ([]))) (pe 0 (pe (length (map d_si ([]))) (.f (pureR_si ([])) (.f (pureR_R ([])) (.f (pureR_si ([])) .nil)))))))))))))
      · try simp only[if_neg h2]
        have P3 {hs q} (r:PS F X hs q):=(P2 (.f (nt h2) (.f trivial (.h 68 (.b false) (.r 84 [] [] (e101 (a0:=(wrap .i64 (a0.f6+((getD a0.f3 (toNat (m124 a0.f3 a1)) (K_R.mk 0 0 0 [] 0)).f2))))) r)))))
        by_cases h3:(!(m105 (wrap .i64 (a0.f6+((getD a0.f3 (toNat (m124 a0.f3 a1)) (K_R.mk 0 0 0 [] 0)).f2))) 0 1000000))=true
        · try simp only[if_pos h3]
          exact cp (by kernel_rfl) (P3 (.f h3 (.h 87 (.b true) (.r 89 [] [] (e52 (a0:=7)) (pe 0 (pe (length (map d_si ([]))) (pe 0 (pe (length (map d_R ([]))) (pe 0 (pe (length (map d_si ([]))) (.f (pureR_si ([])) (.f (pureR_R ([])) (.f (pureR_si ([])) .nil)))))))))))))
        · try simp only[if_neg h3]
          have f17:0+(length (map d_R ((m103 a0).f3)))≤(length (map d_R ((m103 a0).f3))):=(by omega)
          have f18:0≤(m124 a0.f3 a1)∧(m124 a0.f3 a1) <((length (map d_R ((m103 a0).f3))):Int):=(by simp only[cp103,length_map]; have q:=ix124 a0.f3 a1; simp only[decide_eq_true_eq] at*; omega)
          have f19:(map d_R ((m103 a0).f3))[(0+(toNat (m124 a0.f3 a1)))]?=some (d_R (getD ((m103 a0).f3) (toNat (m124 a0.f3 a1)) (K_R.mk 0 0 0 [] 0))):=(by rw[Nat.zero_add,getElem?_map,getD_at ((m103 a0).f3) (toNat (m124 a0.f3 a1)) (K_R.mk 0 0 0 [] 0) (by first | exact True.intro | with_reducible rfl | with_reducible assumption | omega |(rw[cp103]; omega) |(rw[cp103]; assumption) |(simp only[cp103,length_map]; have q:=ix124 a0.f3 a1; simp only[decide_eq_true_eq] at*; omega) |(exact og100 (by with_reducible assumption) _) |(have q:=ad8 a0.f4 ((getD a0.f3 (toNat (m124 a0.f3 a1)) (K_R.mk 0 0 0 [] 0)).f3); simp only[length_map]; omega) |(have q:=ix124 a0.f3 a1; simp only[decide_eq_true_eq,length_map] at*; omega) |(unfold m124 m103;(repeat' split)<;>simp_all<;>omega) |(simp only[decide_eq_true_eq] at*; omega) |(simp only[length_map]; omega) |(simp; omega) |(simp[take_of_length_le]; done) | assumption | trivial |(simp[*,byteRows_eq,ints_y]; done))]; rfl)
          have f20:([[(.val (.int .i64 ((m103 a0).f0))),(.val (.int .i64 ((m103 a0).f1))),(.own 2 (map d_si ((m103 a0).f2))),(.own 5 (set (map d_R ((m103 a0).f3)) (0+(toNat (m124 a0.f3 a1))) [(.val (.int .i64 ((getD ((m103 a0).f3) (toNat (m124 a0.f3 a1)) (K_R.mk 0 0 0 [] 0)).f0))),(.val (.int .i64 ((getD ((m103 a0).f3) (toNat (m124 a0.f3 a1)) (K_R.mk 0 0 0 [] 0)).f1))),(.val (.int .i64 ((getD ((m103 a0).f3) (toNat (m124 a0.f3 a1)) (K_R.mk 0 0 0 [] 0)).f2))),(.own 2 (map d_si ((getD ((m103 a0).f3) (toNat (m124 a0.f3 a1)) (K_R.mk 0 0 0 [] 0)).f3))),(.val (.int .i64 2))])),(.own 2 (map d_si ((m103 a0).f4))),(.val (.int .i64 ((m103 a0).f5))),(.val (.int .i64 ((m103 a0).f6))),(.val (.int .i64 ((m103 a0).f7)))]]:List (List D))=[[(.val (.int .i64 ((m103 a0).f0))),(.val (.int .i64 ((m103 a0).f1))),(.own 2 (map d_si ((m103 a0).f2))),(.own 5 (map d_R (set ((m103 a0).f3) (toNat (m124 a0.f3 a1)) (K_R.mk ((getD ((m103 a0).f3) (toNat (m124 a0.f3 a1)) (K_R.mk 0 0 0 [] 0)).f0) ((getD ((m103 a0).f3) (toNat (m124 a0.f3 a1)) (K_R.mk 0 0 0 [] 0)).f1) ((getD ((m103 a0).f3) (toNat (m124 a0.f3 a1)) (K_R.mk 0 0 0 [] 0)).f2) ((getD ((m103 a0).f3) (toNat (m124 a0.f3 a1)) (K_R.mk 0 0 0 [] 0)).f3) 2)))),(.own 2 (map d_si ((m103 a0).f4))),(.val (.int .i64 ((m103 a0).f5))),(.val (.int .i64 ((m103 a0).f6))),(.val (.int .i64 ((m103 a0).f7)))]]:=(by simp[byteRows_eq,ints_y,take_of_length_le,d_y,d_LyE,d_b,d_si,d_R,d_B,d_s,d_i,d_C,d_ii,d_LyEi,d_LiE,d_LsiE,d_iLsiE,d_Q,fromBR_y,fromBR_b,fromBR_si,fromBR_s,fromBR_i,fromBR_ii]; done)
          exact cp (by kernel_rfl) (P3 (.f (nt h3) (.h 87 (.b false) (.r 91 [] [] (e103 (l0_2:=(l0_2+1)) (l0_3:=(l0_3+1)) (l0_4:=(l0_4+1)) (a0:=a0) (by with_reducible assumption) (by with_reducible assumption) (by with_reducible assumption) (by with_reducible assumption) (by with_reducible assumption)) (pe 0 (pe (length (map d_si ((m103 a0).f2))) (pe 0 (pe (length (map d_R ((m103 a0).f3))) (pe 0 (pe (length (map d_si ((m103 a0).f4))) (.f f17 (.f f18 (.f f19 (.f f20 (.f trivial (pe 0 (pe (length (map d_si (m125_0 a0.f4 ((getD a0.f3 (toNat (m124 a0.f3 a1)) (K_R.mk 0 0 0 [] 0)).f3)))) (pe 0 (pe (length (map d_si ((m103 a0).f2))) (pe 0 (pe (length (map d_R (set ((m103 a0).f3) (toNat (m124 a0.f3 a1)) (K_R.mk ((getD ((m103 a0).f3) (toNat (m124 a0.f3 a1)) (K_R.mk 0 0 0 [] 0)).f0) ((getD ((m103 a0).f3) (toNat (m124 a0.f3 a1)) (K_R.mk 0 0 0 [] 0)).f1) ((getD ((m103 a0).f3) (toNat (m124 a0.f3 a1)) (K_R.mk 0 0 0 [] 0)).f2) ((getD ((m103 a0).f3) (toNat (m124 a0.f3 a1)) (K_R.mk 0 0 0 [] 0)).f3) 2)))) (pe 0 (pe (length (map d_si (m125_0 a0.f4 ((getD a0.f3 (toNat (m124 a0.f3 a1)) (K_R.mk 0 0 0 [] 0)).f3)))) (.f (pureR_si ((m103 a0).f2)) (.f (pureR_R (set ((m103 a0).f3) (toNat (m124 a0.f3 a1)) (K_R.mk ((getD ((m103 a0).f3) (toNat (m124 a0.f3 a1)) (K_R.mk 0 0 0 [] 0)).f0) ((getD ((m103 a0).f3) (toNat (m124 a0.f3 a1)) (K_R.mk 0 0 0 [] 0)).f1) ((getD ((m103 a0).f3) (toNat (m124 a0.f3 a1)) (K_R.mk 0 0 0 [] 0)).f2) ((getD ((m103 a0).f3) (toNat (m124 a0.f3 a1)) (K_R.mk 0 0 0 [] 0)).f3) 2))) (.f (pureR_si (m125_0 a0.f4 ((getD a0.f3 (toNat (m124 a0.f3 a1)) (K_R.mk 0 0 0 [] 0)).f3))) (.h 107 (.rowD (d_R (getD ((m103 a0).f3) (toNat (m124 a0.f3 a1)) (K_R.mk 0 0 0 [] 0)))) (.h 108 (.norm (9,0,0) [[(.val (.int .i64 ((m103 a0).f0))),(.val (.int .i64 ((m103 a0).f1))),(.own 2 (map d_si ((m103 a0).f2))),(.own 5 (map d_R (set ((m103 a0).f3) (toNat (m124 a0.f3 a1)) (K_R.mk ((getD ((m103 a0).f3) (toNat (m124 a0.f3 a1)) (K_R.mk 0 0 0 [] 0)).f0) ((getD ((m103 a0).f3) (toNat (m124 a0.f3 a1)) (K_R.mk 0 0 0 [] 0)).f1) ((getD ((m103 a0).f3) (toNat (m124 a0.f3 a1)) (K_R.mk 0 0 0 [] 0)).f2) ((getD ((m103 a0).f3) (toNat (m124 a0.f3 a1)) (K_R.mk 0 0 0 [] 0)).f3) 2)))),(.own 2 (map d_si ((m103 a0).f4))),(.val (.int .i64 ((m103 a0).f5))),(.val (.int .i64 ((m103 a0).f6))),(.val (.int .i64 ((m103 a0).f7)))]]) .nil))))))))))))))))))))))))))))
theorem riG {a:K_B} {i:Int} (h:GL a) (hc:¬((m78 a i).f0 !=0)=true):GL (K_B.mk (m78 a i).f2 (m78 a i).f3 (m78 a i).f4 (m78 a i).f5 (m78 a i).f6 (m78 a i).f7 (m78 a i).f8 (m78 a i).f9):=by
  obtain⟨h1,h2,h3,h4,h5⟩:=h
  generalize hr:m78 a i=r at hc⊢
  unfold m78 at hr
  simp only[cp103] at hr
  (repeat' split at hr)<;>subst hr<;>first
    |(exfalso; simp at hc; done)
    |exact absurd (by assumption) hc
    |exact⟨h1,h2,h3,gr_set h4 (gr_get h4 _),adG h5.2 (gr_get h4 _).2⟩
end Go.Proofs.YtihjlmgakpgkeaaDoor.Pays
