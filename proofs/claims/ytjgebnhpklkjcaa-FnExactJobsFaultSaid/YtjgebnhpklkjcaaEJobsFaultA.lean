/- What the functions compute. -/
import Derived.Test.YtjgebnhpklkjcaaTJobsFault
import Derived.Test.YtjgebnhpklkjcaaVNum
import Derived.Test.YtjgebnhpklkjcaaVClone
import Derived.KernelRfl
namespace Go.Proofs.Ytjgebnhpklkjcaa.JobsFault
open Go Go.Proofs.Ytjgebnhpklkjcaa.V
set_option linter.unusedVariables false
set_option linter.unusedSimpArgs false
set_option maxRecDepth 20000
abbrev _root_.Go.Proofs.Ytjgebnhpklkjcaa.V.B.i (x:Int):B:=.val (.int .i64 x)
abbrev _root_.Go.Proofs.Ytjgebnhpklkjcaa.V.D.i (x:Int):D:=.val (.int .i64 x)
abbrev _root_.Go.Proofs.Ytjgebnhpklkjcaa.V.CV.i (x:Int):CV:=.val (.int .i64 x)
abbrev _root_.Go.Proofs.Ytjgebnhpklkjcaa.V.SV.oi (x:Int):SV:=.one (.val (.int .i64 x))
abbrev _root_.Go.Proofs.Ytjgebnhpklkjcaa.V.Ret.oi (x:Int):Ret:=.one (.val (.int .i64 x))
open Go.IntKind (wrap)
open Int (toNat)
open List (length_replicate length_map length_set length_append length_cons length_nil length_take length_drop take_of_length_le map_take map_drop map_set append_assoc getElem?_map map length take drop getD set)
def X:Ext:=fun f args objs rs=>False
theorem pe {α:Type} {hs q} (x:α) (r:PS F X hs q):PS F X hs ((x=x)::q):=.f rfl r
theorem mp_ {α β:Type} (f:α→β) {l:List α} {i:Nat} {x:α} (h:l[i]?=some x):(l.map f)[i]?=some (f x):=by rw[getElem?_map,h]; rfl
theorem mz_ {α β:Type} (f:α→β) {l:List α} {i:Nat} {x:α} (h:l[i]?=some x):(l.map f)[0+i]?=some (f x):=by rw[Nat.zero_add]; exact mp_ f h
theorem ev_ {c:VC} {σ:St} {O:Type} {e:O→VX.Exit} {g:O→St} {r w:O} (h:r=w) (t:Ev F X (.code c σ (e r) (g r))):Ev F X (.code c σ (e w) (g w)):=h ▸ t
theorem cp {f hs args rs q} (h:callH F X f hs [] args []=some ([],rs,q)) (p:PS F X hs q):Ev F X (.call f args [] [] rs):=callP_ok h p
theorem cq (ps:List Bool) {f hs args objs os rs q} (h:callH F X f hs ps args objs=some (os,rs,q)) (p:PS F X hs q):Ev F X (.call f args objs os rs):=callP_ok h p
theorem ch (c:VC) (σ σ':St) (e:VX.Exit) (t:Nat) {hs q} (h:codeH F X c 0 hs σ=some (e,σ',t,[],q)) (p:PS F X hs q):Ev F X (.code c σ e σ'):=codeP_ok h p
def b_i (x:Int):List B:=[(.val (.int .i64 x))]
def d_i (x:Int):List D:=[(.val (.int .i64 x))]
theorem toBR_i:∀(l:List Int),toBR (l.map d_i)=l.map b_i
  |[]=>rfl
  |x::l=>by simp[toBR,toBL,toB,d_i,b_i,toBR_i l]
theorem fullR_i:∀(l:List Int),fullR (l.map d_i)=true
  |[]=>rfl
  |x::l=>by simp[fullR,fullL,full,d_i,fullR_i l]
theorem pureR_i:∀(l:List Int),pureR (l.map d_i)=true
  |[]=>rfl
  |x::l=>by simp[pureR,pureL,V.pure,d_i,pureR_i l]
theorem ft_i (a b:Nat) (l:List Int):fullR (take a (drop b (l.map d_i)))=true:=by rw[← map_drop,← map_take]; exact fullR_i _
theorem tb_i (l:List Int):toBR (take (l.map d_i).length (drop 0 (l.map d_i)))=l.map b_i:=by rw[List.drop_zero,List.take_length]; exact toBR_i l
theorem ln_i {hs q} (x:List Int) (r:PS F X hs q):PS F X hs ((0+(x.map d_i).length≤(x.map d_i).length)::(fullR (take (x.map d_i).length (drop 0 (x.map d_i)))=true)::(toBR (take (x.map d_i).length (drop 0 (x.map d_i)))=x.map b_i)::q):=.f (Nat.le_of_eq (Nat.zero_add _)) (.f (ft_i _ _ _) (.f (tb_i _) r))
theorem lenB_i (l:List Int):∀r∈l.map b_i,r.length=1:=by intro r h; obtain⟨x,_,rfl⟩:=List.mem_map.1 h; rfl
theorem lenD_i (l:List Int):∀r∈l.map d_i,r.length=1:=by intro r h; obtain⟨x,_,rfl⟩:=List.mem_map.1 h; rfl
theorem fromBR_i (n:Nat) (l:List Int):fromBR n (l.map b_i)=l.map d_i:=by simp[fromBR,b_i,d_i,fromB,Function.comp_def]
theorem copy_i (l:List Int):(l.map d_i).all (fun x=>x.all copyable)=true:=by simp[d_i,copyable,Function.comp_def]
structure K_iiLiE where
  f0:Int
  f1:Int
  f2:(List Int)
def b_iiLiE (x:K_iiLiE):List B:=[(.val (.int .i64 x.f0)),(.val (.int .i64 x.f1)),(.sl (map b_i x.f2))]
def d_iiLiE (x:K_iiLiE):List D:=[(.val (.int .i64 x.f0)),(.val (.int .i64 x.f1)),(.own 1 (map d_i x.f2))]
abbrev k_iiLiE (l0:Nat) (x:K_iiLiE):List CV:=[(.val (.int .i64 x.f0)),(.val (.int .i64 x.f1)),(.bor l0 (map b_i x.f2))]
theorem toBR_iiLiE:∀(l:List K_iiLiE),toBR (l.map d_iiLiE)=l.map b_iiLiE
  |[]=>rfl
  |x::l=>by simp[toBR,toBL,toB,d_iiLiE,b_iiLiE,toBR_iiLiE l,toBR_i]
theorem fullR_iiLiE:∀(l:List K_iiLiE),fullR (l.map d_iiLiE)=true
  |[]=>rfl
  |x::l=>by simp[fullR,fullL,full,d_iiLiE,fullR_iiLiE l,fullR_i]
theorem pureR_iiLiE:∀(l:List K_iiLiE),pureR (l.map d_iiLiE)=true
  |[]=>rfl
  |x::l=>by simp[pureR,pureL,V.pure,d_iiLiE,pureR_iiLiE l,pureR_i]
theorem ft_iiLiE (a b:Nat) (l:List K_iiLiE):fullR (take a (drop b (l.map d_iiLiE)))=true:=by rw[← map_drop,← map_take]; exact fullR_iiLiE _
theorem tb_iiLiE (l:List K_iiLiE):toBR (take (l.map d_iiLiE).length (drop 0 (l.map d_iiLiE)))=l.map b_iiLiE:=by rw[List.drop_zero,List.take_length]; exact toBR_iiLiE l
theorem ln_iiLiE {hs q} (x:List K_iiLiE) (r:PS F X hs q):PS F X hs ((0+(x.map d_iiLiE).length≤(x.map d_iiLiE).length)::(fullR (take (x.map d_iiLiE).length (drop 0 (x.map d_iiLiE)))=true)::(toBR (take (x.map d_iiLiE).length (drop 0 (x.map d_iiLiE)))=x.map b_iiLiE)::q):=.f (Nat.le_of_eq (Nat.zero_add _)) (.f (ft_iiLiE _ _ _) (.f (tb_iiLiE _) r))
theorem lenB_iiLiE (l:List K_iiLiE):∀r∈l.map b_iiLiE,r.length=3:=by intro r h; obtain⟨x,_,rfl⟩:=List.mem_map.1 h; rfl
theorem lenD_iiLiE (l:List K_iiLiE):∀r∈l.map d_iiLiE,r.length=3:=by intro r h; obtain⟨x,_,rfl⟩:=List.mem_map.1 h; rfl
def ok_iiLiE (x:K_iiLiE):Prop:=(length x.f2*8≤140737488351232)
def os_iiLiE (x:K_iiLiE):Prop:=(length x.f2*8≤140737488351232)
theorem gos_iiLiE {l:List K_iiLiE} (h:∀z∈l,os_iiLiE z) (n:Nat) (d:K_iiLiE) (hd:os_iiLiE d):os_iiLiE (l.getD n d):=by
  rw[List.getD_eq_getElem?_getD]; cases h2:l[n]? with
  |none=>simpa using hd
  |some x=>exact h x (List.mem_of_getElem? h2)
structure K_iLiE where
  f0:Int
  f1:(List Int)
def b_iLiE (x:K_iLiE):List B:=[(.val (.int .i64 x.f0)),(.sl (map b_i x.f1))]
def d_iLiE (x:K_iLiE):List D:=[(.val (.int .i64 x.f0)),(.own 1 (map d_i x.f1))]
abbrev k_iLiE (l0:Nat) (x:K_iLiE):List CV:=[(.val (.int .i64 x.f0)),(.bor l0 (map b_i x.f1))]
theorem toBR_iLiE:∀(l:List K_iLiE),toBR (l.map d_iLiE)=l.map b_iLiE
  |[]=>rfl
  |x::l=>by simp[toBR,toBL,toB,d_iLiE,b_iLiE,toBR_iLiE l,toBR_i]
theorem fullR_iLiE:∀(l:List K_iLiE),fullR (l.map d_iLiE)=true
  |[]=>rfl
  |x::l=>by simp[fullR,fullL,full,d_iLiE,fullR_iLiE l,fullR_i]
theorem pureR_iLiE:∀(l:List K_iLiE),pureR (l.map d_iLiE)=true
  |[]=>rfl
  |x::l=>by simp[pureR,pureL,V.pure,d_iLiE,pureR_iLiE l,pureR_i]
theorem lenB_iLiE (l:List K_iLiE):∀r∈l.map b_iLiE,r.length=2:=by intro r h; obtain⟨x,_,rfl⟩:=List.mem_map.1 h; rfl
theorem lenD_iLiE (l:List K_iLiE):∀r∈l.map d_iLiE,r.length=2:=by intro r h; obtain⟨x,_,rfl⟩:=List.mem_map.1 h; rfl
def ok_iLiE (x:K_iLiE):Prop:=(length x.f1*8≤140737488351232)
structure K_iLiiLiEELiLiEE where
  f0:Int
  f1:(List K_iiLiE)
  f2:(List K_iLiE)
def b_iLiiLiEELiLiEE (x:K_iLiiLiEELiLiEE):List B:=[(.val (.int .i64 x.f0)),(.sl (map b_iiLiE x.f1)),(.sl (map b_iLiE x.f2))]
def d_iLiiLiEELiLiEE (x:K_iLiiLiEELiLiEE):List D:=[(.val (.int .i64 x.f0)),(.own 3 (map d_iiLiE x.f1)),(.own 2 (map d_iLiE x.f2))]
abbrev k_iLiiLiEELiLiEE (l0:Nat) (l1:Nat) (x:K_iLiiLiEELiLiEE):List CV:=[(.val (.int .i64 x.f0)),(.bor l0 (map b_iiLiE x.f1)),(.bor l1 (map b_iLiE x.f2))]
theorem toBR_iLiiLiEELiLiEE:∀(l:List K_iLiiLiEELiLiEE),toBR (l.map d_iLiiLiEELiLiEE)=l.map b_iLiiLiEELiLiEE
  |[]=>rfl
  |x::l=>by simp[toBR,toBL,toB,d_iLiiLiEELiLiEE,b_iLiiLiEELiLiEE,toBR_iLiiLiEELiLiEE l,toBR_iiLiE,toBR_iLiE]
theorem fullR_iLiiLiEELiLiEE:∀(l:List K_iLiiLiEELiLiEE),fullR (l.map d_iLiiLiEELiLiEE)=true
  |[]=>rfl
  |x::l=>by simp[fullR,fullL,full,d_iLiiLiEELiLiEE,fullR_iLiiLiEELiLiEE l,fullR_iiLiE,fullR_iLiE]
theorem pureR_iLiiLiEELiLiEE:∀(l:List K_iLiiLiEELiLiEE),pureR (l.map d_iLiiLiEELiLiEE)=true
  |[]=>rfl
  |x::l=>by simp[pureR,pureL,V.pure,d_iLiiLiEELiLiEE,pureR_iLiiLiEELiLiEE l,pureR_iiLiE,pureR_iLiE]
theorem lenB_iLiiLiEELiLiEE (l:List K_iLiiLiEELiLiEE):∀r∈l.map b_iLiiLiEELiLiEE,r.length=3:=by intro r h; obtain⟨x,_,rfl⟩:=List.mem_map.1 h; rfl
theorem lenD_iLiiLiEELiLiEE (l:List K_iLiiLiEELiLiEE):∀r∈l.map d_iLiiLiEELiLiEE,r.length=3:=by intro r h; obtain⟨x,_,rfl⟩:=List.mem_map.1 h; rfl
def ok_iLiiLiEELiLiEE (x:K_iLiiLiEELiLiEE):Prop:=(length x.f1*40≤140737488351232)∧(∀z∈x.f1,ok_iiLiE z)∧(length x.f2*32≤140737488351232)∧(∀z∈x.f2,ok_iLiE z)
structure K_iiiiiLiLiiLiEELiLiEEE where
  f0:Int
  f1:Int
  f2:Int
  f3:Int
  f4:Int
  f5:(List K_iLiiLiEELiLiEE)
def b_iiiiiLiLiiLiEELiLiEEE (x:K_iiiiiLiLiiLiEELiLiEEE):List B:=[(.val (.int .i64 x.f0)),(.val (.int .i64 x.f1)),(.val (.int .i64 x.f2)),(.val (.int .i64 x.f3)),(.val (.int .i64 x.f4)),(.sl (map b_iLiiLiEELiLiEE x.f5))]
def d_iiiiiLiLiiLiEELiLiEEE (x:K_iiiiiLiLiiLiEELiLiEEE):List D:=[(.val (.int .i64 x.f0)),(.val (.int .i64 x.f1)),(.val (.int .i64 x.f2)),(.val (.int .i64 x.f3)),(.val (.int .i64 x.f4)),(.own 3 (map d_iLiiLiEELiLiEE x.f5))]
abbrev k_iiiiiLiLiiLiEELiLiEEE (l0:Nat) (x:K_iiiiiLiLiiLiEELiLiEEE):List CV:=[(.val (.int .i64 x.f0)),(.val (.int .i64 x.f1)),(.val (.int .i64 x.f2)),(.val (.int .i64 x.f3)),(.val (.int .i64 x.f4)),(.bor l0 (map b_iLiiLiEELiLiEE x.f5))]
theorem toBR_iiiiiLiLiiLiEELiLiEEE:∀(l:List K_iiiiiLiLiiLiEELiLiEEE),toBR (l.map d_iiiiiLiLiiLiEELiLiEEE)=l.map b_iiiiiLiLiiLiEELiLiEEE
  |[]=>rfl
  |x::l=>by simp[toBR,toBL,toB,d_iiiiiLiLiiLiEELiLiEEE,b_iiiiiLiLiiLiEELiLiEEE,toBR_iiiiiLiLiiLiEELiLiEEE l,toBR_iLiiLiEELiLiEE]
theorem fullR_iiiiiLiLiiLiEELiLiEEE:∀(l:List K_iiiiiLiLiiLiEELiLiEEE),fullR (l.map d_iiiiiLiLiiLiEELiLiEEE)=true
  |[]=>rfl
  |x::l=>by simp[fullR,fullL,full,d_iiiiiLiLiiLiEELiLiEEE,fullR_iiiiiLiLiiLiEELiLiEEE l,fullR_iLiiLiEELiLiEE]
theorem pureR_iiiiiLiLiiLiEELiLiEEE:∀(l:List K_iiiiiLiLiiLiEELiLiEEE),pureR (l.map d_iiiiiLiLiiLiEELiLiEEE)=true
  |[]=>rfl
  |x::l=>by simp[pureR,pureL,V.pure,d_iiiiiLiLiiLiEELiLiEEE,pureR_iiiiiLiLiiLiEELiLiEEE l,pureR_iLiiLiEELiLiEE]
theorem ft_iiiiiLiLiiLiEELiLiEEE (a b:Nat) (l:List K_iiiiiLiLiiLiEELiLiEEE):fullR (take a (drop b (l.map d_iiiiiLiLiiLiEELiLiEEE)))=true:=by rw[← map_drop,← map_take]; exact fullR_iiiiiLiLiiLiEELiLiEEE _
theorem tb_iiiiiLiLiiLiEELiLiEEE (l:List K_iiiiiLiLiiLiEELiLiEEE):toBR (take (l.map d_iiiiiLiLiiLiEELiLiEEE).length (drop 0 (l.map d_iiiiiLiLiiLiEELiLiEEE)))=l.map b_iiiiiLiLiiLiEELiLiEEE:=by rw[List.drop_zero,List.take_length]; exact toBR_iiiiiLiLiiLiEELiLiEEE l
theorem ln_iiiiiLiLiiLiEELiLiEEE {hs q} (x:List K_iiiiiLiLiiLiEELiLiEEE) (r:PS F X hs q):PS F X hs ((0+(x.map d_iiiiiLiLiiLiEELiLiEEE).length≤(x.map d_iiiiiLiLiiLiEELiLiEEE).length)::(fullR (take (x.map d_iiiiiLiLiiLiEELiLiEEE).length (drop 0 (x.map d_iiiiiLiLiiLiEELiLiEEE)))=true)::(toBR (take (x.map d_iiiiiLiLiiLiEELiLiEEE).length (drop 0 (x.map d_iiiiiLiLiiLiEELiLiEEE)))=x.map b_iiiiiLiLiiLiEELiLiEEE)::q):=.f (Nat.le_of_eq (Nat.zero_add _)) (.f (ft_iiiiiLiLiiLiEELiLiEEE _ _ _) (.f (tb_iiiiiLiLiiLiEELiLiEEE _) r))
theorem lenB_iiiiiLiLiiLiEELiLiEEE (l:List K_iiiiiLiLiiLiEELiLiEEE):∀r∈l.map b_iiiiiLiLiiLiEELiLiEEE,r.length=6:=by intro r h; obtain⟨x,_,rfl⟩:=List.mem_map.1 h; rfl
theorem lenD_iiiiiLiLiiLiEELiLiEEE (l:List K_iiiiiLiLiiLiEELiLiEEE):∀r∈l.map d_iiiiiLiLiiLiEELiLiEEE,r.length=6:=by intro r h; obtain⟨x,_,rfl⟩:=List.mem_map.1 h; rfl
def ok_iiiiiLiLiiLiEELiLiEEE (x:K_iiiiiLiLiiLiEELiLiEEE):Prop:=(length x.f5*56≤140737488351232)∧(∀z∈x.f5,ok_iLiiLiEELiLiEE z)
def b_LiiiiiLiLiiLiEELiLiEEEE (x:(List K_iiiiiLiLiiLiEELiLiEEE)):List B:=[(.sl (map b_iiiiiLiLiiLiEELiLiEEE x))]
def d_LiiiiiLiLiiLiEELiLiEEEE (x:(List K_iiiiiLiLiiLiEELiLiEEE)):List D:=[(.own 6 (map d_iiiiiLiLiiLiEELiLiEEE x))]
theorem toBR_LiiiiiLiLiiLiEELiLiEEEE:∀(l:List (List K_iiiiiLiLiiLiEELiLiEEE)),toBR (l.map d_LiiiiiLiLiiLiEELiLiEEEE)=l.map b_LiiiiiLiLiiLiEELiLiEEEE
  |[]=>rfl
  |x::l=>by simp[toBR,toBL,toB,d_LiiiiiLiLiiLiEELiLiEEEE,b_LiiiiiLiLiiLiEELiLiEEEE,toBR_LiiiiiLiLiiLiEELiLiEEEE l,toBR_iiiiiLiLiiLiEELiLiEEE]
theorem fullR_LiiiiiLiLiiLiEELiLiEEEE:∀(l:List (List K_iiiiiLiLiiLiEELiLiEEE)),fullR (l.map d_LiiiiiLiLiiLiEELiLiEEEE)=true
  |[]=>rfl
  |x::l=>by simp[fullR,fullL,full,d_LiiiiiLiLiiLiEELiLiEEEE,fullR_LiiiiiLiLiiLiEELiLiEEEE l,fullR_iiiiiLiLiiLiEELiLiEEE]
theorem pureR_LiiiiiLiLiiLiEELiLiEEEE:∀(l:List (List K_iiiiiLiLiiLiEELiLiEEE)),pureR (l.map d_LiiiiiLiLiiLiEELiLiEEEE)=true
  |[]=>rfl
  |x::l=>by simp[pureR,pureL,V.pure,d_LiiiiiLiLiiLiEELiLiEEEE,pureR_LiiiiiLiLiiLiEELiLiEEEE l,pureR_iiiiiLiLiiLiEELiLiEEE]
theorem lenB_LiiiiiLiLiiLiEELiLiEEEE (l:List (List K_iiiiiLiLiiLiEELiLiEEE)):∀r∈l.map b_LiiiiiLiLiiLiEELiLiEEEE,r.length=1:=by intro r h; obtain⟨x,_,rfl⟩:=List.mem_map.1 h; rfl
theorem lenD_LiiiiiLiLiiLiEELiLiEEEE (l:List (List K_iiiiiLiLiiLiEELiLiEEE)):∀r∈l.map d_LiiiiiLiLiiLiEELiLiEEEE,r.length=1:=by intro r h; obtain⟨x,_,rfl⟩:=List.mem_map.1 h; rfl
def b_b (x:Bool):List B:=[(.val (.bool x))]
def d_b (x:Bool):List D:=[(.val (.bool x))]
theorem toBR_b:∀(l:List Bool),toBR (l.map d_b)=l.map b_b
  |[]=>rfl
  |x::l=>by simp[toBR,toBL,toB,d_b,b_b,toBR_b l]
theorem fullR_b:∀(l:List Bool),fullR (l.map d_b)=true
  |[]=>rfl
  |x::l=>by simp[fullR,fullL,full,d_b,fullR_b l]
theorem pureR_b:∀(l:List Bool),pureR (l.map d_b)=true
  |[]=>rfl
  |x::l=>by simp[pureR,pureL,V.pure,d_b,pureR_b l]
theorem lenB_b (l:List Bool):∀r∈l.map b_b,r.length=1:=by intro r h; obtain⟨x,_,rfl⟩:=List.mem_map.1 h; rfl
theorem lenD_b (l:List Bool):∀r∈l.map d_b,r.length=1:=by intro r h; obtain⟨x,_,rfl⟩:=List.mem_map.1 h; rfl
theorem fromBR_b (n:Nat) (l:List Bool):fromBR n (l.map b_b)=l.map d_b:=by simp[fromBR,b_b,d_b,fromB,Function.comp_def]
theorem copy_b (l:List Bool):(l.map d_b).all (fun x=>x.all copyable)=true:=by simp[d_b,copyable,Function.comp_def]
structure K_iiiiLiLiiLiEELiLiEEE where
  f0:Int
  f1:Int
  f2:Int
  f3:Int
  f4:(List K_iLiiLiEELiLiEE)
def b_iiiiLiLiiLiEELiLiEEE (x:K_iiiiLiLiiLiEELiLiEEE):List B:=[(.val (.int .i64 x.f0)),(.val (.int .i64 x.f1)),(.val (.int .i64 x.f2)),(.val (.int .i64 x.f3)),(.sl (map b_iLiiLiEELiLiEE x.f4))]
def d_iiiiLiLiiLiEELiLiEEE (x:K_iiiiLiLiiLiEELiLiEEE):List D:=[(.val (.int .i64 x.f0)),(.val (.int .i64 x.f1)),(.val (.int .i64 x.f2)),(.val (.int .i64 x.f3)),(.own 3 (map d_iLiiLiEELiLiEE x.f4))]
abbrev k_iiiiLiLiiLiEELiLiEEE (l0:Nat) (x:K_iiiiLiLiiLiEELiLiEEE):List CV:=[(.val (.int .i64 x.f0)),(.val (.int .i64 x.f1)),(.val (.int .i64 x.f2)),(.val (.int .i64 x.f3)),(.bor l0 (map b_iLiiLiEELiLiEE x.f4))]
theorem toBR_iiiiLiLiiLiEELiLiEEE:∀(l:List K_iiiiLiLiiLiEELiLiEEE),toBR (l.map d_iiiiLiLiiLiEELiLiEEE)=l.map b_iiiiLiLiiLiEELiLiEEE
  |[]=>rfl
  |x::l=>by simp[toBR,toBL,toB,d_iiiiLiLiiLiEELiLiEEE,b_iiiiLiLiiLiEELiLiEEE,toBR_iiiiLiLiiLiEELiLiEEE l,toBR_iLiiLiEELiLiEE]
theorem fullR_iiiiLiLiiLiEELiLiEEE:∀(l:List K_iiiiLiLiiLiEELiLiEEE),fullR (l.map d_iiiiLiLiiLiEELiLiEEE)=true
  |[]=>rfl
  |x::l=>by simp[fullR,fullL,full,d_iiiiLiLiiLiEELiLiEEE,fullR_iiiiLiLiiLiEELiLiEEE l,fullR_iLiiLiEELiLiEE]
theorem pureR_iiiiLiLiiLiEELiLiEEE:∀(l:List K_iiiiLiLiiLiEELiLiEEE),pureR (l.map d_iiiiLiLiiLiEELiLiEEE)=true
  |[]=>rfl
  |x::l=>by simp[pureR,pureL,V.pure,d_iiiiLiLiiLiEELiLiEEE,pureR_iiiiLiLiiLiEELiLiEEE l,pureR_iLiiLiEELiLiEE]
theorem lenB_iiiiLiLiiLiEELiLiEEE (l:List K_iiiiLiLiiLiEELiLiEEE):∀r∈l.map b_iiiiLiLiiLiEELiLiEEE,r.length=5:=by intro r h; obtain⟨x,_,rfl⟩:=List.mem_map.1 h; rfl
theorem lenD_iiiiLiLiiLiEELiLiEEE (l:List K_iiiiLiLiiLiEELiLiEEE):∀r∈l.map d_iiiiLiLiiLiEELiLiEEE,r.length=5:=by intro r h; obtain⟨x,_,rfl⟩:=List.mem_map.1 h; rfl
def b_LiE (x:(List Int)):List B:=[(.sl (map b_i x))]
def d_LiE (x:(List Int)):List D:=[(.own 1 (map d_i x))]
theorem toBR_LiE:∀(l:List (List Int)),toBR (l.map d_LiE)=l.map b_LiE
  |[]=>rfl
  |x::l=>by simp[toBR,toBL,toB,d_LiE,b_LiE,toBR_LiE l,toBR_i]
theorem fullR_LiE:∀(l:List (List Int)),fullR (l.map d_LiE)=true
  |[]=>rfl
  |x::l=>by simp[fullR,fullL,full,d_LiE,fullR_LiE l,fullR_i]
theorem pureR_LiE:∀(l:List (List Int)),pureR (l.map d_LiE)=true
  |[]=>rfl
  |x::l=>by simp[pureR,pureL,V.pure,d_LiE,pureR_LiE l,pureR_i]
theorem lenB_LiE (l:List (List Int)):∀r∈l.map b_LiE,r.length=1:=by intro r h; obtain⟨x,_,rfl⟩:=List.mem_map.1 h; rfl
theorem lenD_LiE (l:List (List Int)):∀r∈l.map d_LiE,r.length=1:=by intro r h; obtain⟨x,_,rfl⟩:=List.mem_map.1 h; rfl
def b_LiLiiLiEELiLiEEE (x:(List K_iLiiLiEELiLiEE)):List B:=[(.sl (map b_iLiiLiEELiLiEE x))]
def d_LiLiiLiEELiLiEEE (x:(List K_iLiiLiEELiLiEE)):List D:=[(.own 3 (map d_iLiiLiEELiLiEE x))]
theorem toBR_LiLiiLiEELiLiEEE:∀(l:List (List K_iLiiLiEELiLiEE)),toBR (l.map d_LiLiiLiEELiLiEEE)=l.map b_LiLiiLiEELiLiEEE
  |[]=>rfl
  |x::l=>by simp[toBR,toBL,toB,d_LiLiiLiEELiLiEEE,b_LiLiiLiEELiLiEEE,toBR_LiLiiLiEELiLiEEE l,toBR_iLiiLiEELiLiEE]
theorem fullR_LiLiiLiEELiLiEEE:∀(l:List (List K_iLiiLiEELiLiEE)),fullR (l.map d_LiLiiLiEELiLiEEE)=true
  |[]=>rfl
  |x::l=>by simp[fullR,fullL,full,d_LiLiiLiEELiLiEEE,fullR_LiLiiLiEELiLiEEE l,fullR_iLiiLiEELiLiEE]
theorem pureR_LiLiiLiEELiLiEEE:∀(l:List (List K_iLiiLiEELiLiEE)),pureR (l.map d_LiLiiLiEELiLiEEE)=true
  |[]=>rfl
  |x::l=>by simp[pureR,pureL,V.pure,d_LiLiiLiEELiLiEEE,pureR_LiLiiLiEELiLiEEE l,pureR_iLiiLiEELiLiEE]
theorem lenB_LiLiiLiEELiLiEEE (l:List (List K_iLiiLiEELiLiEE)):∀r∈l.map b_LiLiiLiEELiLiEEE,r.length=1:=by intro r h; obtain⟨x,_,rfl⟩:=List.mem_map.1 h; rfl
theorem lenD_LiLiiLiEELiLiEEE (l:List (List K_iLiiLiEELiLiEE)):∀r∈l.map d_LiLiiLiEELiLiEEE,r.length=1:=by intro r h; obtain⟨x,_,rfl⟩:=List.mem_map.1 h; rfl
def b_LiiLiEE (x:(List K_iiLiE)):List B:=[(.sl (map b_iiLiE x))]
def d_LiiLiEE (x:(List K_iiLiE)):List D:=[(.own 3 (map d_iiLiE x))]
theorem toBR_LiiLiEE:∀(l:List (List K_iiLiE)),toBR (l.map d_LiiLiEE)=l.map b_LiiLiEE
  |[]=>rfl
  |x::l=>by simp[toBR,toBL,toB,d_LiiLiEE,b_LiiLiEE,toBR_LiiLiEE l,toBR_iiLiE]
theorem fullR_LiiLiEE:∀(l:List (List K_iiLiE)),fullR (l.map d_LiiLiEE)=true
  |[]=>rfl
  |x::l=>by simp[fullR,fullL,full,d_LiiLiEE,fullR_LiiLiEE l,fullR_iiLiE]
theorem pureR_LiiLiEE:∀(l:List (List K_iiLiE)),pureR (l.map d_LiiLiEE)=true
  |[]=>rfl
  |x::l=>by simp[pureR,pureL,V.pure,d_LiiLiEE,pureR_LiiLiEE l,pureR_iiLiE]
theorem lenB_LiiLiEE (l:List (List K_iiLiE)):∀r∈l.map b_LiiLiEE,r.length=1:=by intro r h; obtain⟨x,_,rfl⟩:=List.mem_map.1 h; rfl
theorem lenD_LiiLiEE (l:List (List K_iiLiE)):∀r∈l.map d_LiiLiEE,r.length=1:=by intro r h; obtain⟨x,_,rfl⟩:=List.mem_map.1 h; rfl
def b_LiLiEE (x:(List K_iLiE)):List B:=[(.sl (map b_iLiE x))]
def d_LiLiEE (x:(List K_iLiE)):List D:=[(.own 2 (map d_iLiE x))]
theorem toBR_LiLiEE:∀(l:List (List K_iLiE)),toBR (l.map d_LiLiEE)=l.map b_LiLiEE
  |[]=>rfl
  |x::l=>by simp[toBR,toBL,toB,d_LiLiEE,b_LiLiEE,toBR_LiLiEE l,toBR_iLiE]
theorem fullR_LiLiEE:∀(l:List (List K_iLiE)),fullR (l.map d_LiLiEE)=true
  |[]=>rfl
  |x::l=>by simp[fullR,fullL,full,d_LiLiEE,fullR_LiLiEE l,fullR_iLiE]
theorem pureR_LiLiEE:∀(l:List (List K_iLiE)),pureR (l.map d_LiLiEE)=true
  |[]=>rfl
  |x::l=>by simp[pureR,pureL,V.pure,d_LiLiEE,pureR_LiLiEE l,pureR_iLiE]
theorem lenB_LiLiEE (l:List (List K_iLiE)):∀r∈l.map b_LiLiEE,r.length=1:=by intro r h; obtain⟨x,_,rfl⟩:=List.mem_map.1 h; rfl
theorem lenD_LiLiEE (l:List (List K_iLiE)):∀r∈l.map d_LiLiEE,r.length=1:=by intro r h; obtain⟨x,_,rfl⟩:=List.mem_map.1 h; rfl
def b_y (x:Int):List B:=[(.val (.int .u8 x))]
def d_y (x:Int):List D:=[(.val (.int .u8 x))]
theorem toBR_y:∀(l:List Int),toBR (l.map d_y)=l.map b_y
  |[]=>rfl
  |x::l=>by simp[toBR,toBL,toB,d_y,b_y,toBR_y l]
theorem fullR_y:∀(l:List Int),fullR (l.map d_y)=true
  |[]=>rfl
  |x::l=>by simp[fullR,fullL,full,d_y,fullR_y l]
theorem pureR_y:∀(l:List Int),pureR (l.map d_y)=true
  |[]=>rfl
  |x::l=>by simp[pureR,pureL,V.pure,d_y,pureR_y l]
theorem ft_y (a b:Nat) (l:List Int):fullR (take a (drop b (l.map d_y)))=true:=by rw[← map_drop,← map_take]; exact fullR_y _
theorem tb_y (l:List Int):toBR (take (l.map d_y).length (drop 0 (l.map d_y)))=l.map b_y:=by rw[List.drop_zero,List.take_length]; exact toBR_y l
theorem ln_y {hs q} (x:List Int) (r:PS F X hs q):PS F X hs ((0+(x.map d_y).length≤(x.map d_y).length)::(fullR (take (x.map d_y).length (drop 0 (x.map d_y)))=true)::(toBR (take (x.map d_y).length (drop 0 (x.map d_y)))=x.map b_y)::q):=.f (Nat.le_of_eq (Nat.zero_add _)) (.f (ft_y _ _ _) (.f (tb_y _) r))
theorem lenB_y (l:List Int):∀r∈l.map b_y,r.length=1:=by intro r h; obtain⟨x,_,rfl⟩:=List.mem_map.1 h; rfl
theorem lenD_y (l:List Int):∀r∈l.map d_y,r.length=1:=by intro r h; obtain⟨x,_,rfl⟩:=List.mem_map.1 h; rfl
theorem fromBR_y (n:Nat) (l:List Int):fromBR n (l.map b_y)=l.map d_y:=by simp[fromBR,b_y,d_y,fromB,Function.comp_def]
theorem copy_y (l:List Int):(l.map d_y).all (fun x=>x.all copyable)=true:=by simp[d_y,copyable,Function.comp_def]
theorem ct_y (a b:Nat) (l:List Int):((take a (drop b (l.map d_y))).all fun x=>x.all copyable)=true:=by rw[← map_drop,← map_take]; exact copy_y _
def strInts (s:ByteArray):List Int:=s.data.toList.map fun b=>(b.toNat:Int)
theorem ly_y (a:Int) (l:List Int):[D.val (.int .u8 a)]::map d_y l=map d_y (a::l):=rfl
theorem ly0_y (a:Int):[[D.val (.int .u8 a)]]=map d_y [a]:=rfl
theorem strInts_len (s:ByteArray):(strInts s).length=s.size:=by simp[strInts]
theorem byteRows_len (s:ByteArray):(byteRows s).length=s.size:=by simp[byteRows]
theorem byteRows_eq (s:ByteArray):byteRows s=(strInts s).map d_y:=by simp[byteRows,strInts,d_y,Function.comp_def]
theorem tsi (s:ByteArray):take (ByteArray.size s) (map d_y (strInts s))=map d_y (strInts s):=by rw[take_of_length_le (by simp[strInts_len])]
theorem tbr (s:ByteArray):take (ByteArray.size s) (byteRows s)=map d_y (strInts s):=by rw[byteRows_eq,tsi]
theorem ints_y:∀(l:List Int),rowsInts .u8 (l.map d_y)=some l
  |[]=>rfl
  |x::l=>by simp only[List.map_cons,d_y,rowsInts,ints_y l]; rfl
def b_LyE (x:(List Int)):List B:=[(.sl (map b_y x))]
def d_LyE (x:(List Int)):List D:=[(.own 1 (map d_y x))]
theorem toBR_LyE:∀(l:List (List Int)),toBR (l.map d_LyE)=l.map b_LyE
  |[]=>rfl
  |x::l=>by simp[toBR,toBL,toB,d_LyE,b_LyE,toBR_LyE l,toBR_y]
theorem fullR_LyE:∀(l:List (List Int)),fullR (l.map d_LyE)=true
  |[]=>rfl
  |x::l=>by simp[fullR,fullL,full,d_LyE,fullR_LyE l,fullR_y]
theorem pureR_LyE:∀(l:List (List Int)),pureR (l.map d_LyE)=true
  |[]=>rfl
  |x::l=>by simp[pureR,pureL,V.pure,d_LyE,pureR_LyE l,pureR_y]
theorem lenB_LyE (l:List (List Int)):∀r∈l.map b_LyE,r.length=1:=by intro r h; obtain⟨x,_,rfl⟩:=List.mem_map.1 h; rfl
theorem lenD_LyE (l:List (List Int)):∀r∈l.map d_LyE,r.length=1:=by intro r h; obtain⟨x,_,rfl⟩:=List.mem_map.1 h; rfl
def b_LLyEE (x:(List (List Int))):List B:=[(.sl (map b_LyE x))]
def d_LLyEE (x:(List (List Int))):List D:=[(.own 1 (map d_LyE x))]
theorem toBR_LLyEE:∀(l:List (List (List Int))),toBR (l.map d_LLyEE)=l.map b_LLyEE
  |[]=>rfl
  |x::l=>by simp[toBR,toBL,toB,d_LLyEE,b_LLyEE,toBR_LLyEE l,toBR_LyE]
theorem fullR_LLyEE:∀(l:List (List (List Int))),fullR (l.map d_LLyEE)=true
  |[]=>rfl
  |x::l=>by simp[fullR,fullL,full,d_LLyEE,fullR_LLyEE l,fullR_LyE]
theorem pureR_LLyEE:∀(l:List (List (List Int))),pureR (l.map d_LLyEE)=true
  |[]=>rfl
  |x::l=>by simp[pureR,pureL,V.pure,d_LLyEE,pureR_LLyEE l,pureR_LyE]
theorem lenB_LLyEE (l:List (List (List Int))):∀r∈l.map b_LLyEE,r.length=1:=by intro r h; obtain⟨x,_,rfl⟩:=List.mem_map.1 h; rfl
theorem lenD_LLyEE (l:List (List (List Int))):∀r∈l.map d_LLyEE,r.length=1:=by intro r h; obtain⟨x,_,rfl⟩:=List.mem_map.1 h; rfl
attribute [local simp] toBR_i fullR_i pureR_i lenB_i lenD_i fromBR_i copy_i toBR_iiLiE fullR_iiLiE pureR_iiLiE lenB_iiLiE lenD_iiLiE toBR_iLiE fullR_iLiE pureR_iLiE lenB_iLiE lenD_iLiE toBR_iLiiLiEELiLiEE fullR_iLiiLiEELiLiEE pureR_iLiiLiEELiLiEE lenB_iLiiLiEELiLiEE lenD_iLiiLiEELiLiEE toBR_iiiiiLiLiiLiEELiLiEEE fullR_iiiiiLiLiiLiEELiLiEEE pureR_iiiiiLiLiiLiEELiLiEEE lenB_iiiiiLiLiiLiEELiLiEEE lenD_iiiiiLiLiiLiEELiLiEEE toBR_LiiiiiLiLiiLiEELiLiEEEE fullR_LiiiiiLiLiiLiEELiLiEEEE pureR_LiiiiiLiLiiLiEELiLiEEEE lenB_LiiiiiLiLiiLiEELiLiEEEE lenD_LiiiiiLiLiiLiEELiLiEEEE toBR_b fullR_b pureR_b lenB_b lenD_b fromBR_b copy_b toBR_iiiiLiLiiLiEELiLiEEE fullR_iiiiLiLiiLiEELiLiEEE pureR_iiiiLiLiiLiEELiLiEEE lenB_iiiiLiLiiLiEELiLiEEE lenD_iiiiLiLiiLiEELiLiEEE toBR_LiE fullR_LiE pureR_LiE lenB_LiE lenD_LiE toBR_LiLiiLiEELiLiEEE fullR_LiLiiLiEELiLiEEE pureR_LiLiiLiEELiLiEEE lenB_LiLiiLiEELiLiEEE lenD_LiLiiLiEELiLiEEE toBR_LiiLiEE fullR_LiiLiEE pureR_LiiLiEE lenB_LiiLiEE lenD_LiiLiEE toBR_LiLiEE fullR_LiLiEE pureR_LiLiEE lenB_LiLiEE lenD_LiLiEE strInts_len byteRows_len toBR_y fullR_y pureR_y lenB_y lenD_y fromBR_y copy_y toBR_LyE fullR_LyE pureR_LyE lenB_LyE lenD_LyE toBR_LLyEE fullR_LLyEE pureR_LLyEE lenB_LLyEE lenD_LLyEE
theorem md1 {a:Int} (h0:0≤a) (h:(Int.tmod a 2==1)=true):1≤a:=by
  by_cases e:a=0
  · subst e; simp at h
  · omega
theorem xor1 {a:Int} (h0:0≤a) (h1:a≤1000):0≤bitsV .xor .i64 a 1:=by
  obtain⟨n,rfl⟩:=Int.eq_ofNat_of_zero_le h0
  show 0≤wrap .i64 (((BitVec.ofInt 64 (n:Int) ^^^ BitVec.ofInt 64 1).toNat:Nat):Int)
  rw[BitVec.toNat_xor,BitVec.toNat_ofInt,BitVec.toNat_ofInt]
  have e1:((n:Int) %((2 ^ 64:Nat):Int)).toNat=n:=by omega
  have e2:((1:Int) %((2 ^ 64:Nat):Int)).toNat=1:=by omega
  rw[e1,e2]
  have:=Nat.xor_lt_two_pow (x:=n) (y:=1) (n:=10) (by omega) (by omega)
  rw[wrap64 (by omega)]; omega
def SmT (t:K_iLiiLiEELiLiEE):Prop:=length t.f1≤4∧(∀x∈t.f1,length x.f2≤8)∧length t.f2≤4∧∀x∈t.f2,length x.f1≤12
/-! loop.example/g00539/laws.szInt64S -/
def m89 (a0:(List Int)) (a1:Int):Int:=
  if(decide ((wrap .i64 (a1 - ((length (map b_i a0)):Int))) < 0))=true then(-1) else
  (wrap .i64 (a1 - ((length (map b_i a0)):Int)))
theorem e89 {l0_0:Nat} {a0:(List Int)} {a1:Int}:Ev F X (.call 89 [(.one (.bor l0_0 (map b_i a0))),(.one (.val (.int .i64 a1)))] [] [] [(.one (.val (.int .i64 (m89 a0 a1))))]):=by
  unfold m89
  by_cases h0:(decide ((wrap .i64 (a1 - ((length (map b_i a0)):Int))) < 0))=true
  · try simp only[if_pos h0]
    exact cp (by kernel_rfl) (.f h0 (.h 16 (.b true) .nil))
  · try simp only[if_neg h0]
    exact cp (by kernel_rfl) (.f (nt h0) (.h 16 (.b false) .nil))
/-! loop.example/g00539/laws.szIn -/
def m75 (a0:K_iiLiE) (a1:Int):Int:=
  if(decide ((m89 a0.f2 a1) < 0))=true then(-1) else
  (m89 a0.f2 a1)
theorem e75 {l0_2:Nat} {a0:K_iiLiE} {a1:Int}:Ev F X (.call 75 [(.agg (k_iiLiE l0_2 a0)),(.one (.val (.int .i64 a1)))] [] [] [(.one (.val (.int .i64 (m75 a0 a1))))]):=by
  unfold m75
  have P0 {hs q} (r:PS F X hs q):=(PS.r 11 [] [] (e89 (l0_0:=(l0_2+1)) (a0:=a0.f2) (a1:=a1)) r)
  by_cases h0:(decide ((m89 a0.f2 a1) < 0))=true
  · try simp only[if_pos h0]
    exact cp (by kernel_rfl) (P0 (.f h0 (.h 18 (.b true) .nil)))
  · try simp only[if_neg h0]
    exact cp (by kernel_rfl) (P0 (.f (nt h0) (.h 18 (.b false) .nil)))
/-! loop 57_0 -/
inductive O57_0 where
  |k0 (w0:Int) (w1:Int) (w2:Bool)
  |k1
def r57_0 (a0:(List K_iiLiE)):List K_iiLiE→Int→Int→O57_0
  |x0::y0,i,v0=>
    if(decide ((m75 x0 v0) < 0))=true then(O57_0.k1) else
    (r57_0 a0 y0 (i+1) (m75 x0 v0))
  |[],i,v0=>(O57_0.k0 v0 i (decide (i <((length (map b_iiLiE a0)):Int))))
def h57_0 (l0_0:Nat) (a0:(List K_iiLiE)) (a1:Int) (i:Int) (v0:Int):St:=⟨[(0,(.one (.bor l0_0 (map b_iiLiE a0)))),(1,(.one (.val (.int .i64 v0)))),(5,(.one (.val (.int .i64 i))))],[]⟩
def ex57_0:O57_0→VX.Exit
  |.k0 _ _ _=>(.exit 0)
  |.k1=>.ret
def fin57_0 (l0_0:Nat) (a0:(List K_iiLiE)) (a1:Int):O57_0→St
  |.k0 w0 w1 w2=>⟨[(0,(.one (.bor l0_0 (map b_iiLiE a0)))),(1,(.one (.val (.int .i64 w0)))),(5,(.one (.val (.int .i64 w1)))),(15,(.one (.val (.bool w2))))],[]⟩
  |.k1=>⟨[(4,(.one (.val (.int .i64 (-1)))))],[]⟩
theorem t57_0 {l0_0:Nat} {a0:(List K_iiLiE)} {a1:Int} (hy0:length a0*40≤140737488351232) (hy1:∀z∈a0,ok_iiLiE z):∀(y0:List K_iiLiE) (p:List K_iiLiE) (v0:Int),p++y0=a0→Ev F X (.code l57_0 (h57_0 l0_0 a0 a1 (length p:Int) v0) (ex57_0 (r57_0 a0 y0 (length p:Int) v0)) (fin57_0 l0_0 a0 a1 (r57_0 a0 y0 (length p:Int) v0)))
  |[],p,v0,hp0=>by
    have hc:¬(decide ((length p:Int) <((length (map b_iiLiE a0)):Int)))=true:=by
      rw[← hp0]; simp only[length_map,length_set,length_append,length_replicate,length_cons,length_nil,decide_eq_true_eq]; omega
    have st:=ch b57_0 (h57_0 l0_0 a0 a1 (length p:Int) v0) ⟨[(0,(.one (.bor l0_0 (map b_iiLiE a0)))),(1,(.oi v0)),(5,(.oi (length p:Int))),(15,(.one (.val (.bool (decide ((length p:Int) <((length (map b_iiLiE a0)):Int)))))))],[]⟩ (.exit 0) 9 (by kernel_rfl) (.f (nt hc) (.h 8 (.b false) .nil))
    rw[show (⟨[(0,(.one (.bor l0_0 (map b_iiLiE a0)))),(1,(.oi v0)),(5,(.oi (length p:Int))),(15,(.one (.val (.bool (decide ((length p:Int) <((length (map b_iiLiE a0)):Int)))))))],[]⟩:St)=fin57_0 l0_0 a0 a1 (.k0 v0 (length p:Int) (decide ((length p:Int) <((length (map b_iiLiE a0)):Int)))) from(by rfl)] at st
    exact .loopX st (show ((.exit 0):VX.Exit)≠.normal from by simp)
  |x0::y0,p,v0,hp0=>by
    have hc:(decide ((length p:Int) <((length (map b_iiLiE a0)):Int)))=true:=by
      rw[← hp0]; simp only[length_map,length_set,length_append,length_replicate,length_cons,length_nil,decide_eq_true_eq]; omega
    have Hx0:(a0)[toNat (length p:Int)]?=some x0:=by
      rw[← hp0,Int.toNat_natCast]; simp
    have Mx0_0:=hy1 x0 (List.mem_of_getElem? Hx0)
    have hlen:length (a0)=length p+length y0+1:=by rw[← hp0]; simp; omega
    have hw:wrap .i64 ((length p:Int)+1)=(length p:Int)+1:=wrap64 (by omega)
    simp only[r57_0]
    have f1:0≤(length p:Int):=(by omega)
    have P1 {hs q} (r:PS F X hs q):=(PS.f hc (.f f1 (.f (mp_ b_iiLiE Hx0) (.h 8 (.b true) (.h 14 (.row (b_iiLiE x0)) (.r 20 [] [] (e75 (l0_2:=(l0_0+1)) (a0:=x0) (a1:=v0)) r))))))
    by_cases h_1:(decide ((m75 x0 v0) < 0))=true
    · try simp only[if_pos h_1]
      have st:=ch b57_0 (h57_0 l0_0 a0 a1 (length p:Int) v0) ⟨[(4,(.oi (-1)))],[]⟩ .ret 30 (by kernel_rfl) (P1 (.f h_1 (.h 27 (.b true) .nil)))
      rw[show (⟨[(4,(.oi (-1)))],[]⟩:St)=fin57_0 l0_0 a0 a1 (.k1) from(by rfl)] at st
      exact .loopX st (show (.ret:VX.Exit)≠.normal from by simp)
    · try simp only[if_neg h_1]
      have st:=ch b57_0 (h57_0 l0_0 a0 a1 (length p:Int) v0) ⟨[(0,(.one (.bor l0_0 (map b_iiLiE a0)))),(1,(.oi (m75 x0 v0))),(5,(.oi (wrap .i64 ((length p:Int)+1))))],[]⟩ .normal 34 (by kernel_rfl) (P1 (.f (nt h_1) (.f trivial (.h 27 (.b false) .nil))))
      have ih:=t57_0 (l0_0:=l0_0) (a0:=a0) (a1:=a1) hy0 hy1 y0 (p++ [x0]) (m75 x0 v0) (by rw[append_assoc]; exact hp0)
      rw[show ((p++ [x0]).length:Int)=(p.length:Int)+1 from by simp] at ih
      rw[show (⟨[(0,(.one (.bor l0_0 (map b_iiLiE a0)))),(1,(.oi (m75 x0 v0))),(5,(.oi (wrap .i64 ((length p:Int)+1))))],[]⟩:St)=h57_0 l0_0 a0 a1 ((length p:Int)+1) (m75 x0 v0) from(by unfold h57_0; simp only[hw]; done)] at st
      exact .loopN st ih
/-! loop.example/g00539/laws.szInS -/
def m57 (a0:(List K_iiLiE)) (a1:Int):Int:=
  if(decide ((wrap .i64 (a1 - ((length (map b_iiLiE a0)):Int))) < 0))=true then(-1) else
  (match r57_0 a0 a0 0 (wrap .i64 (a1 - ((length (map b_iiLiE a0)):Int))) with | .k0 w0_1 w1_1 w2_1=>w0_1 | .k1=>(-1))
theorem e57 {l0_0:Nat} {a0:(List K_iiLiE)} {a1:Int} (hy0:length a0*40≤140737488351232) (hy1:∀z∈a0,ok_iiLiE z):Ev F X (.call 57 [(.one (.bor l0_0 (map b_iiLiE a0))),(.one (.val (.int .i64 a1)))] [] [] [(.one (.val (.int .i64 (m57 a0 a1))))]):=by
  unfold m57
  by_cases h0:(decide ((wrap .i64 (a1 - ((length (map b_iiLiE a0)):Int))) < 0))=true
  · try simp only[if_pos h0]
    exact cp (by kernel_rfl) (.f h0 (.h 16 (.b true) .nil))
  · try simp only[if_neg h0]
    cases h1:r57_0 a0 a0 0 (wrap .i64 (a1 - ((length (map b_iiLiE a0)):Int))) with
    |k0 w0_1 w1_1 w2_1=>
      try dsimp only
      have f1:(⟨[(0,(.one (.bor l0_0 (map b_iiLiE a0)))),(1,(.oi (wrap .i64 (a1 - ((length (map b_iiLiE a0)):Int))))),(5,(.oi 0))],[]⟩:St)=h57_0 l0_0 a0 a1 0 (wrap .i64 (a1 - ((length (map b_iiLiE a0)):Int))):=(by rfl)
      exact cp (by kernel_rfl) (.f (nt h0) (.f f1 (.f (ev_ (e:=ex57_0) (g:=(fin57_0 l0_0 a0 a1)) h1 (t57_0 (l0_0:=l0_0) (a0:=a0) (a1:=a1) (by assumption) (by assumption) a0 [] (wrap .i64 (a1 - ((length (map b_iiLiE a0)):Int))) rfl)) (.h 16 (.b false) (.h 19 (.loop (h57_0 l0_0 a0 a1 0 (wrap .i64 (a1 - ((length (map b_iiLiE a0)):Int)))) (.exit 0) ⟨[(0,(.one (.bor l0_0 (map b_iiLiE a0)))),(1,(.one (.val (.int .i64 w0_1)))),(5,(.one (.val (.int .i64 w1_1)))),(15,(.one (.val (.bool w2_1))))],[]⟩) .nil)))))
    |k1=>
      try dsimp only
      have f1:(⟨[(0,(.one (.bor l0_0 (map b_iiLiE a0)))),(1,(.oi (wrap .i64 (a1 - ((length (map b_iiLiE a0)):Int))))),(5,(.oi 0))],[]⟩:St)=h57_0 l0_0 a0 a1 0 (wrap .i64 (a1 - ((length (map b_iiLiE a0)):Int))):=(by rfl)
      exact cp (by kernel_rfl) (.f (nt h0) (.f f1 (.f (ev_ (e:=ex57_0) (g:=(fin57_0 l0_0 a0 a1)) h1 (t57_0 (l0_0:=l0_0) (a0:=a0) (a1:=a1) (by assumption) (by assumption) a0 [] (wrap .i64 (a1 - ((length (map b_iiLiE a0)):Int))) rfl)) (.h 16 (.b false) (.h 19 (.loop (h57_0 l0_0 a0 a1 0 (wrap .i64 (a1 - ((length (map b_iiLiE a0)):Int)))) .ret ⟨[(4,(.one (.val (.int .i64 (-1)))))],[]⟩) .nil)))))
/-! loop.example/g00539/laws.szOut -/
def m76 (a0:K_iLiE) (a1:Int):Int:=
  if(decide ((m89 a0.f1 a1) < 0))=true then(-1) else
  (m89 a0.f1 a1)
theorem e76 {l0_1:Nat} {a0:K_iLiE} {a1:Int}:Ev F X (.call 76 [(.agg (k_iLiE l0_1 a0)),(.one (.val (.int .i64 a1)))] [] [] [(.one (.val (.int .i64 (m76 a0 a1))))]):=by
  unfold m76
  have P0 {hs q} (r:PS F X hs q):=(PS.r 11 [] [] (e89 (l0_0:=(l0_1+1)) (a0:=a0.f1) (a1:=a1)) r)
  by_cases h0:(decide ((m89 a0.f1 a1) < 0))=true
  · try simp only[if_pos h0]
    exact cp (by kernel_rfl) (P0 (.f h0 (.h 18 (.b true) .nil)))
  · try simp only[if_neg h0]
    exact cp (by kernel_rfl) (P0 (.f (nt h0) (.h 18 (.b false) .nil)))
/-! loop 58_0 -/
inductive O58_0 where
  |k0 (w0:Int) (w1:Int) (w2:Bool)
  |k1
def r58_0 (a0:(List K_iLiE)):List K_iLiE→Int→Int→O58_0
  |x0::y0,i,v0=>
    if(decide ((m76 x0 v0) < 0))=true then(O58_0.k1) else
    (r58_0 a0 y0 (i+1) (m76 x0 v0))
  |[],i,v0=>(O58_0.k0 v0 i (decide (i <((length (map b_iLiE a0)):Int))))
def h58_0 (l0_0:Nat) (a0:(List K_iLiE)) (a1:Int) (i:Int) (v0:Int):St:=⟨[(0,(.one (.bor l0_0 (map b_iLiE a0)))),(1,(.one (.val (.int .i64 v0)))),(5,(.one (.val (.int .i64 i))))],[]⟩
def ex58_0:O58_0→VX.Exit
  |.k0 _ _ _=>(.exit 0)
  |.k1=>.ret
def fin58_0 (l0_0:Nat) (a0:(List K_iLiE)) (a1:Int):O58_0→St
  |.k0 w0 w1 w2=>⟨[(0,(.one (.bor l0_0 (map b_iLiE a0)))),(1,(.one (.val (.int .i64 w0)))),(5,(.one (.val (.int .i64 w1)))),(15,(.one (.val (.bool w2))))],[]⟩
  |.k1=>⟨[(4,(.one (.val (.int .i64 (-1)))))],[]⟩
theorem t58_0 {l0_0:Nat} {a0:(List K_iLiE)} {a1:Int} (hy0:length a0*32≤140737488351232) (hy1:∀z∈a0,ok_iLiE z):∀(y0:List K_iLiE) (p:List K_iLiE) (v0:Int),p++y0=a0→Ev F X (.code l58_0 (h58_0 l0_0 a0 a1 (length p:Int) v0) (ex58_0 (r58_0 a0 y0 (length p:Int) v0)) (fin58_0 l0_0 a0 a1 (r58_0 a0 y0 (length p:Int) v0)))
  |[],p,v0,hp0=>by
    have hc:¬(decide ((length p:Int) <((length (map b_iLiE a0)):Int)))=true:=by
      rw[← hp0]; simp only[length_map,length_set,length_append,length_replicate,length_cons,length_nil,decide_eq_true_eq]; omega
    have st:=ch b58_0 (h58_0 l0_0 a0 a1 (length p:Int) v0) ⟨[(0,(.one (.bor l0_0 (map b_iLiE a0)))),(1,(.oi v0)),(5,(.oi (length p:Int))),(15,(.one (.val (.bool (decide ((length p:Int) <((length (map b_iLiE a0)):Int)))))))],[]⟩ (.exit 0) 9 (by kernel_rfl) (.f (nt hc) (.h 8 (.b false) .nil))
    rw[show (⟨[(0,(.one (.bor l0_0 (map b_iLiE a0)))),(1,(.oi v0)),(5,(.oi (length p:Int))),(15,(.one (.val (.bool (decide ((length p:Int) <((length (map b_iLiE a0)):Int)))))))],[]⟩:St)=fin58_0 l0_0 a0 a1 (.k0 v0 (length p:Int) (decide ((length p:Int) <((length (map b_iLiE a0)):Int)))) from(by rfl)] at st
    exact .loopX st (show ((.exit 0):VX.Exit)≠.normal from by simp)
  |x0::y0,p,v0,hp0=>by
    have hc:(decide ((length p:Int) <((length (map b_iLiE a0)):Int)))=true:=by
      rw[← hp0]; simp only[length_map,length_set,length_append,length_replicate,length_cons,length_nil,decide_eq_true_eq]; omega
    have Hx0:(a0)[toNat (length p:Int)]?=some x0:=by
      rw[← hp0,Int.toNat_natCast]; simp
    have Mx0_0:=hy1 x0 (List.mem_of_getElem? Hx0)
    have hlen:length (a0)=length p+length y0+1:=by rw[← hp0]; simp; omega
    have hw:wrap .i64 ((length p:Int)+1)=(length p:Int)+1:=wrap64 (by omega)
    simp only[r58_0]
    have f1:0≤(length p:Int):=(by omega)
    have P1 {hs q} (r:PS F X hs q):=(PS.f hc (.f f1 (.f (mp_ b_iLiE Hx0) (.h 8 (.b true) (.h 14 (.row (b_iLiE x0)) (.r 20 [] [] (e76 (l0_1:=(l0_0+1)) (a0:=x0) (a1:=v0)) r))))))
    by_cases h_1:(decide ((m76 x0 v0) < 0))=true
    · try simp only[if_pos h_1]
      have st:=ch b58_0 (h58_0 l0_0 a0 a1 (length p:Int) v0) ⟨[(4,(.oi (-1)))],[]⟩ .ret 30 (by kernel_rfl) (P1 (.f h_1 (.h 27 (.b true) .nil)))
      rw[show (⟨[(4,(.oi (-1)))],[]⟩:St)=fin58_0 l0_0 a0 a1 (.k1) from(by rfl)] at st
      exact .loopX st (show (.ret:VX.Exit)≠.normal from by simp)
    · try simp only[if_neg h_1]
      have st:=ch b58_0 (h58_0 l0_0 a0 a1 (length p:Int) v0) ⟨[(0,(.one (.bor l0_0 (map b_iLiE a0)))),(1,(.oi (m76 x0 v0))),(5,(.oi (wrap .i64 ((length p:Int)+1))))],[]⟩ .normal 34 (by kernel_rfl) (P1 (.f (nt h_1) (.f trivial (.h 27 (.b false) .nil))))
      have ih:=t58_0 (l0_0:=l0_0) (a0:=a0) (a1:=a1) hy0 hy1 y0 (p++ [x0]) (m76 x0 v0) (by rw[append_assoc]; exact hp0)
      rw[show ((p++ [x0]).length:Int)=(p.length:Int)+1 from by simp] at ih
      rw[show (⟨[(0,(.one (.bor l0_0 (map b_iLiE a0)))),(1,(.oi (m76 x0 v0))),(5,(.oi (wrap .i64 ((length p:Int)+1))))],[]⟩:St)=h58_0 l0_0 a0 a1 ((length p:Int)+1) (m76 x0 v0) from(by unfold h58_0; simp only[hw]; done)] at st
      exact .loopN st ih
/-! loop.example/g00539/laws.szOutS -/
def m58 (a0:(List K_iLiE)) (a1:Int):Int:=
  if(decide ((wrap .i64 (a1 - ((length (map b_iLiE a0)):Int))) < 0))=true then(-1) else
  (match r58_0 a0 a0 0 (wrap .i64 (a1 - ((length (map b_iLiE a0)):Int))) with | .k0 w0_1 w1_1 w2_1=>w0_1 | .k1=>(-1))
theorem e58 {l0_0:Nat} {a0:(List K_iLiE)} {a1:Int} (hy0:length a0*32≤140737488351232) (hy1:∀z∈a0,ok_iLiE z):Ev F X (.call 58 [(.one (.bor l0_0 (map b_iLiE a0))),(.one (.val (.int .i64 a1)))] [] [] [(.one (.val (.int .i64 (m58 a0 a1))))]):=by
  unfold m58
  by_cases h0:(decide ((wrap .i64 (a1 - ((length (map b_iLiE a0)):Int))) < 0))=true
  · try simp only[if_pos h0]
    exact cp (by kernel_rfl) (.f h0 (.h 16 (.b true) .nil))
  · try simp only[if_neg h0]
    cases h1:r58_0 a0 a0 0 (wrap .i64 (a1 - ((length (map b_iLiE a0)):Int))) with
    |k0 w0_1 w1_1 w2_1=>
      try dsimp only
      have f1:(⟨[(0,(.one (.bor l0_0 (map b_iLiE a0)))),(1,(.oi (wrap .i64 (a1 - ((length (map b_iLiE a0)):Int))))),(5,(.oi 0))],[]⟩:St)=h58_0 l0_0 a0 a1 0 (wrap .i64 (a1 - ((length (map b_iLiE a0)):Int))):=(by rfl)
      exact cp (by kernel_rfl) (.f (nt h0) (.f f1 (.f (ev_ (e:=ex58_0) (g:=(fin58_0 l0_0 a0 a1)) h1 (t58_0 (l0_0:=l0_0) (a0:=a0) (a1:=a1) (by assumption) (by assumption) a0 [] (wrap .i64 (a1 - ((length (map b_iLiE a0)):Int))) rfl)) (.h 16 (.b false) (.h 19 (.loop (h58_0 l0_0 a0 a1 0 (wrap .i64 (a1 - ((length (map b_iLiE a0)):Int)))) (.exit 0) ⟨[(0,(.one (.bor l0_0 (map b_iLiE a0)))),(1,(.one (.val (.int .i64 w0_1)))),(5,(.one (.val (.int .i64 w1_1)))),(15,(.one (.val (.bool w2_1))))],[]⟩) .nil)))))
    |k1=>
      try dsimp only
      have f1:(⟨[(0,(.one (.bor l0_0 (map b_iLiE a0)))),(1,(.oi (wrap .i64 (a1 - ((length (map b_iLiE a0)):Int))))),(5,(.oi 0))],[]⟩:St)=h58_0 l0_0 a0 a1 0 (wrap .i64 (a1 - ((length (map b_iLiE a0)):Int))):=(by rfl)
      exact cp (by kernel_rfl) (.f (nt h0) (.f f1 (.f (ev_ (e:=ex58_0) (g:=(fin58_0 l0_0 a0 a1)) h1 (t58_0 (l0_0:=l0_0) (a0:=a0) (a1:=a1) (by assumption) (by assumption) a0 [] (wrap .i64 (a1 - ((length (map b_iLiE a0)):Int))) rfl)) (.h 16 (.b false) (.h 19 (.loop (h58_0 l0_0 a0 a1 0 (wrap .i64 (a1 - ((length (map b_iLiE a0)):Int)))) .ret ⟨[(4,(.one (.val (.int .i64 (-1)))))],[]⟩) .nil)))))
/-! loop.example/g00539/laws.szTx -/
def m38 (a0:K_iLiiLiEELiLiEE) (a1:Int):Int:=
  if(decide ((m57 a0.f1 a1) < 0))=true then(-1) else
  if(decide ((m58 a0.f2 (m57 a0.f1 a1)) < 0))=true then(-1) else
    (m58 a0.f2 (m57 a0.f1 a1))
theorem e38 {l0_1:Nat} {l0_2:Nat} {a0:K_iLiiLiEELiLiEE} {a1:Int} (hy0:length a0.f1*40≤140737488351232) (hy1:∀z∈a0.f1,ok_iiLiE z) (hy2:length a0.f2*32≤140737488351232) (hy3:∀z∈a0.f2,ok_iLiE z):Ev F X (.call 38 [(.agg (k_iLiiLiEELiLiEE l0_1 l0_2 a0)),(.one (.val (.int .i64 a1)))] [] [] [(.one (.val (.int .i64 (m38 a0 a1))))]):=by
  unfold m38
  have P0 {hs q} (r:PS F X hs q):=(PS.r 11 [] [] (e57 (l0_0:=(l0_1+1)) (a0:=a0.f1) (a1:=a1) ‹_› ‹_›) r)
  by_cases h0:(decide ((m57 a0.f1 a1) < 0))=true
  · try simp only[if_pos h0]
    exact cp (by kernel_rfl) (P0 (.f h0 (.h 18 (.b true) .nil)))
  · try simp only[if_neg h0]
    have P1 {hs q} (r:PS F X hs q):=(P0 (.f (nt h0) (.h 18 (.b false) (.r 26 [] [] (e58 (l0_0:=(l0_2+1)) (a0:=a0.f2) (a1:=(m57 a0.f1 a1)) ‹_› ‹_›) r))))
    by_cases h1:(decide ((m58 a0.f2 (m57 a0.f1 a1)) < 0))=true
    · try simp only[if_pos h1]
      exact cp (by kernel_rfl) (P1 (.f h1 (.h 33 (.b true) .nil)))
    · try simp only[if_neg h1]
      exact cp (by kernel_rfl) (P1 (.f (nt h1) (.h 33 (.b false) .nil)))
/-! loop 26_0 -/
inductive O26_0 where
  |k0 (w0:Int) (w1:Int) (w2:Bool)
  |k1
def r26_0 (a0:(List K_iLiiLiEELiLiEE)):List K_iLiiLiEELiLiEE→Int→Int→O26_0
  |x0::y0,i,v0=>
    if(decide ((m38 x0 v0) < 0))=true then(O26_0.k1) else
    (r26_0 a0 y0 (i+1) (m38 x0 v0))
  |[],i,v0=>(O26_0.k0 v0 i (decide (i <((length (map b_iLiiLiEELiLiEE a0)):Int))))
def h26_0 (l0_0:Nat) (a0:(List K_iLiiLiEELiLiEE)) (a1:Int) (i:Int) (v0:Int):St:=⟨[(0,(.one (.bor l0_0 (map b_iLiiLiEELiLiEE a0)))),(1,(.one (.val (.int .i64 v0)))),(5,(.one (.val (.int .i64 i))))],[]⟩
def ex26_0:O26_0→VX.Exit
  |.k0 _ _ _=>(.exit 0)
  |.k1=>.ret
def fin26_0 (l0_0:Nat) (a0:(List K_iLiiLiEELiLiEE)) (a1:Int):O26_0→St
  |.k0 w0 w1 w2=>⟨[(0,(.one (.bor l0_0 (map b_iLiiLiEELiLiEE a0)))),(1,(.one (.val (.int .i64 w0)))),(5,(.one (.val (.int .i64 w1)))),(15,(.one (.val (.bool w2))))],[]⟩
  |.k1=>⟨[(4,(.one (.val (.int .i64 (-1)))))],[]⟩
theorem t26_0 {l0_0:Nat} {a0:(List K_iLiiLiEELiLiEE)} {a1:Int} (hy0:length a0*56≤140737488351232) (hy1:∀z∈a0,ok_iLiiLiEELiLiEE z):∀(y0:List K_iLiiLiEELiLiEE) (p:List K_iLiiLiEELiLiEE) (v0:Int),p++y0=a0→Ev F X (.code l26_0 (h26_0 l0_0 a0 a1 (length p:Int) v0) (ex26_0 (r26_0 a0 y0 (length p:Int) v0)) (fin26_0 l0_0 a0 a1 (r26_0 a0 y0 (length p:Int) v0)))
  |[],p,v0,hp0=>by
    have hc:¬(decide ((length p:Int) <((length (map b_iLiiLiEELiLiEE a0)):Int)))=true:=by
      rw[← hp0]; simp only[length_map,length_set,length_append,length_replicate,length_cons,length_nil,decide_eq_true_eq]; omega
    have st:=ch b26_0 (h26_0 l0_0 a0 a1 (length p:Int) v0) ⟨[(0,(.one (.bor l0_0 (map b_iLiiLiEELiLiEE a0)))),(1,(.oi v0)),(5,(.oi (length p:Int))),(15,(.one (.val (.bool (decide ((length p:Int) <((length (map b_iLiiLiEELiLiEE a0)):Int)))))))],[]⟩ (.exit 0) 9 (by kernel_rfl) (.f (nt hc) (.h 8 (.b false) .nil))
    rw[show (⟨[(0,(.one (.bor l0_0 (map b_iLiiLiEELiLiEE a0)))),(1,(.oi v0)),(5,(.oi (length p:Int))),(15,(.one (.val (.bool (decide ((length p:Int) <((length (map b_iLiiLiEELiLiEE a0)):Int)))))))],[]⟩:St)=fin26_0 l0_0 a0 a1 (.k0 v0 (length p:Int) (decide ((length p:Int) <((length (map b_iLiiLiEELiLiEE a0)):Int)))) from(by rfl)] at st
    exact .loopX st (show ((.exit 0):VX.Exit)≠.normal from by simp)
  |x0::y0,p,v0,hp0=>by
    have hc:(decide ((length p:Int) <((length (map b_iLiiLiEELiLiEE a0)):Int)))=true:=by
      rw[← hp0]; simp only[length_map,length_set,length_append,length_replicate,length_cons,length_nil,decide_eq_true_eq]; omega
    have Hx0:(a0)[toNat (length p:Int)]?=some x0:=by
      rw[← hp0,Int.toNat_natCast]; simp
    obtain⟨Mx0_0,Mx0_1,Mx0_2,Mx0_3⟩:=hy1 x0 (List.mem_of_getElem? Hx0)
    have hlen:length (a0)=length p+length y0+1:=by rw[← hp0]; simp; omega
    have hw:wrap .i64 ((length p:Int)+1)=(length p:Int)+1:=wrap64 (by omega)
    simp only[r26_0]
    have f1:0≤(length p:Int):=(by omega)
    have P1 {hs q} (r:PS F X hs q):=(PS.f hc (.f f1 (.f (mp_ b_iLiiLiEELiLiEE Hx0) (.h 8 (.b true) (.h 14 (.row (b_iLiiLiEELiLiEE x0)) (.r 20 [] [] (e38 (l0_1:=(l0_0+1)) (l0_2:=(l0_0+1)) (a0:=x0) (a1:=v0) ‹_› ‹_› ‹_› ‹_›) r))))))
    by_cases h_1:(decide ((m38 x0 v0) < 0))=true
    · try simp only[if_pos h_1]
      have st:=ch b26_0 (h26_0 l0_0 a0 a1 (length p:Int) v0) ⟨[(4,(.oi (-1)))],[]⟩ .ret 30 (by kernel_rfl) (P1 (.f h_1 (.h 27 (.b true) .nil)))
      rw[show (⟨[(4,(.oi (-1)))],[]⟩:St)=fin26_0 l0_0 a0 a1 (.k1) from(by rfl)] at st
      exact .loopX st (show (.ret:VX.Exit)≠.normal from by simp)
    · try simp only[if_neg h_1]
      have st:=ch b26_0 (h26_0 l0_0 a0 a1 (length p:Int) v0) ⟨[(0,(.one (.bor l0_0 (map b_iLiiLiEELiLiEE a0)))),(1,(.oi (m38 x0 v0))),(5,(.oi (wrap .i64 ((length p:Int)+1))))],[]⟩ .normal 34 (by kernel_rfl) (P1 (.f (nt h_1) (.f trivial (.h 27 (.b false) .nil))))
      have ih:=t26_0 (l0_0:=l0_0) (a0:=a0) (a1:=a1) hy0 hy1 y0 (p++ [x0]) (m38 x0 v0) (by rw[append_assoc]; exact hp0)
      rw[show ((p++ [x0]).length:Int)=(p.length:Int)+1 from by simp] at ih
      rw[show (⟨[(0,(.one (.bor l0_0 (map b_iLiiLiEELiLiEE a0)))),(1,(.oi (m38 x0 v0))),(5,(.oi (wrap .i64 ((length p:Int)+1))))],[]⟩:St)=h26_0 l0_0 a0 a1 ((length p:Int)+1) (m38 x0 v0) from(by unfold h26_0; simp only[hw]; done)] at st
      exact .loopN st ih
/-! loop.example/g00539/laws.szTxS -/
def m26 (a0:(List K_iLiiLiEELiLiEE)) (a1:Int):Int:=
  if(decide ((wrap .i64 (a1 - ((length (map b_iLiiLiEELiLiEE a0)):Int))) < 0))=true then(-1) else
  (match r26_0 a0 a0 0 (wrap .i64 (a1 - ((length (map b_iLiiLiEELiLiEE a0)):Int))) with | .k0 w0_1 w1_1 w2_1=>w0_1 | .k1=>(-1))
theorem e26 {l0_0:Nat} {a0:(List K_iLiiLiEELiLiEE)} {a1:Int} (hy0:length a0*56≤140737488351232) (hy1:∀z∈a0,ok_iLiiLiEELiLiEE z):Ev F X (.call 26 [(.one (.bor l0_0 (map b_iLiiLiEELiLiEE a0))),(.one (.val (.int .i64 a1)))] [] [] [(.one (.val (.int .i64 (m26 a0 a1))))]):=by
  unfold m26
  by_cases h0:(decide ((wrap .i64 (a1 - ((length (map b_iLiiLiEELiLiEE a0)):Int))) < 0))=true
  · try simp only[if_pos h0]
    exact cp (by kernel_rfl) (.f h0 (.h 16 (.b true) .nil))
  · try simp only[if_neg h0]
    cases h1:r26_0 a0 a0 0 (wrap .i64 (a1 - ((length (map b_iLiiLiEELiLiEE a0)):Int))) with
    |k0 w0_1 w1_1 w2_1=>
      try dsimp only
      have f1:(⟨[(0,(.one (.bor l0_0 (map b_iLiiLiEELiLiEE a0)))),(1,(.oi (wrap .i64 (a1 - ((length (map b_iLiiLiEELiLiEE a0)):Int))))),(5,(.oi 0))],[]⟩:St)=h26_0 l0_0 a0 a1 0 (wrap .i64 (a1 - ((length (map b_iLiiLiEELiLiEE a0)):Int))):=(by rfl)
      exact cp (by kernel_rfl) (.f (nt h0) (.f f1 (.f (ev_ (e:=ex26_0) (g:=(fin26_0 l0_0 a0 a1)) h1 (t26_0 (l0_0:=l0_0) (a0:=a0) (a1:=a1) (by assumption) (by assumption) a0 [] (wrap .i64 (a1 - ((length (map b_iLiiLiEELiLiEE a0)):Int))) rfl)) (.h 16 (.b false) (.h 19 (.loop (h26_0 l0_0 a0 a1 0 (wrap .i64 (a1 - ((length (map b_iLiiLiEELiLiEE a0)):Int)))) (.exit 0) ⟨[(0,(.one (.bor l0_0 (map b_iLiiLiEELiLiEE a0)))),(1,(.one (.val (.int .i64 w0_1)))),(5,(.one (.val (.int .i64 w1_1)))),(15,(.one (.val (.bool w2_1))))],[]⟩) .nil)))))
    |k1=>
      try dsimp only
      have f1:(⟨[(0,(.one (.bor l0_0 (map b_iLiiLiEELiLiEE a0)))),(1,(.oi (wrap .i64 (a1 - ((length (map b_iLiiLiEELiLiEE a0)):Int))))),(5,(.oi 0))],[]⟩:St)=h26_0 l0_0 a0 a1 0 (wrap .i64 (a1 - ((length (map b_iLiiLiEELiLiEE a0)):Int))):=(by rfl)
      exact cp (by kernel_rfl) (.f (nt h0) (.f f1 (.f (ev_ (e:=ex26_0) (g:=(fin26_0 l0_0 a0 a1)) h1 (t26_0 (l0_0:=l0_0) (a0:=a0) (a1:=a1) (by assumption) (by assumption) a0 [] (wrap .i64 (a1 - ((length (map b_iLiiLiEELiLiEE a0)):Int))) rfl)) (.h 16 (.b false) (.h 19 (.loop (h26_0 l0_0 a0 a1 0 (wrap .i64 (a1 - ((length (map b_iLiiLiEELiLiEE a0)):Int)))) .ret ⟨[(4,(.one (.val (.int .i64 (-1)))))],[]⟩) .nil)))))
/-! loop.example/g00539/laws.szBlock -/
def m15 (a0:K_iiiiLiLiiLiEELiLiEEE) (a1:Int):Int:=
  if(decide ((m26 a0.f4 a1) < 0))=true then(-1) else
  (m26 a0.f4 a1)
theorem e15 {l0_4:Nat} {a0:K_iiiiLiLiiLiEELiLiEEE} {a1:Int} (hy0:length a0.f4*56≤140737488351232) (hy1:∀z∈a0.f4,ok_iLiiLiEELiLiEE z):Ev F X (.call 15 [(.agg (k_iiiiLiLiiLiEELiLiEEE l0_4 a0)),(.one (.val (.int .i64 a1)))] [] [] [(.one (.val (.int .i64 (m15 a0 a1))))]):=by
  unfold m15
  have P0 {hs q} (r:PS F X hs q):=(PS.r 11 [] [] (e26 (l0_0:=(l0_4+1)) (a0:=a0.f4) (a1:=a1) ‹_› ‹_›) r)
  by_cases h0:(decide ((m26 a0.f4 a1) < 0))=true
  · try simp only[if_pos h0]
    exact cp (by kernel_rfl) (P0 (.f h0 (.h 18 (.b true) .nil)))
  · try simp only[if_neg h0]
    exact cp (by kernel_rfl) (P0 (.f (nt h0) (.h 18 (.b false) .nil)))
/-! loop.example/g00539/laws.szJob -/
def m9 (a0:K_iiiiiLiLiiLiEELiLiEEE) (a1:Int):Int:=
  if(decide ((m15 (K_iiiiLiLiiLiEELiLiEEE.mk a0.f1 a0.f2 a0.f3 a0.f4 a0.f5) a1) < 0))=true then(-1) else
  (m15 (K_iiiiLiLiiLiEELiLiEEE.mk a0.f1 a0.f2 a0.f3 a0.f4 a0.f5) a1)
theorem e9 {l0_5:Nat} {a0:K_iiiiiLiLiiLiEELiLiEEE} {a1:Int} (hy0:length a0.f5*56≤140737488351232) (hy1:∀z∈a0.f5,ok_iLiiLiEELiLiEE z):Ev F X (.call 9 [(.agg (k_iiiiiLiLiiLiEELiLiEEE l0_5 a0)),(.one (.val (.int .i64 a1)))] [] [] [(.one (.val (.int .i64 (m9 a0 a1))))]):=by
  unfold m9
  have P0 {hs q} (r:PS F X hs q):=(PS.r 11 [] [] (e15 (l0_4:=(l0_5+1)) (a0:=(K_iiiiLiLiiLiEELiLiEEE.mk a0.f1 a0.f2 a0.f3 a0.f4 a0.f5)) (a1:=a1) ‹_› ‹_›) r)
  by_cases h0:(decide ((m15 (K_iiiiLiLiiLiEELiLiEEE.mk a0.f1 a0.f2 a0.f3 a0.f4 a0.f5) a1) < 0))=true
  · try simp only[if_pos h0]
    exact cp (by kernel_rfl) (P0 (.f h0 (.h 18 (.b true) .nil)))
  · try simp only[if_neg h0]
    exact cp (by kernel_rfl) (P0 (.f (nt h0) (.h 18 (.b false) .nil)))
/-! loop 4_0 -/
inductive O4_0 where
  |k0 (w0:Int) (w1:Int) (w2:Bool)
  |k1
def r4_0 (a0:(List K_iiiiiLiLiiLiEELiLiEEE)):List K_iiiiiLiLiiLiEELiLiEEE→Int→Int→O4_0
  |x0::y0,i,v0=>
    if(decide ((m9 x0 v0) < 0))=true then(O4_0.k1) else
    (r4_0 a0 y0 (i+1) (m9 x0 v0))
  |[],i,v0=>(O4_0.k0 v0 i (decide (i <((length (map b_iiiiiLiLiiLiEELiLiEEE a0)):Int))))
def h4_0 (l0_0:Nat) (a0:(List K_iiiiiLiLiiLiEELiLiEEE)) (a1:Int) (i:Int) (v0:Int):St:=⟨[(0,(.one (.bor l0_0 (map b_iiiiiLiLiiLiEELiLiEEE a0)))),(1,(.one (.val (.int .i64 v0)))),(5,(.one (.val (.int .i64 i))))],[]⟩
def ex4_0:O4_0→VX.Exit
  |.k0 _ _ _=>(.exit 0)
  |.k1=>.ret
def fin4_0 (l0_0:Nat) (a0:(List K_iiiiiLiLiiLiEELiLiEEE)) (a1:Int):O4_0→St
  |.k0 w0 w1 w2=>⟨[(0,(.one (.bor l0_0 (map b_iiiiiLiLiiLiEELiLiEEE a0)))),(1,(.one (.val (.int .i64 w0)))),(5,(.one (.val (.int .i64 w1)))),(15,(.one (.val (.bool w2))))],[]⟩
  |.k1=>⟨[(4,(.one (.val (.int .i64 (-1)))))],[]⟩
theorem t4_0 {l0_0:Nat} {a0:(List K_iiiiiLiLiiLiEELiLiEEE)} {a1:Int} (hy0:length a0*64≤140737488351232) (hy1:∀z∈a0,ok_iiiiiLiLiiLiEELiLiEEE z):∀(y0:List K_iiiiiLiLiiLiEELiLiEEE) (p:List K_iiiiiLiLiiLiEELiLiEEE) (v0:Int),p++y0=a0→Ev F X (.code l4_0 (h4_0 l0_0 a0 a1 (length p:Int) v0) (ex4_0 (r4_0 a0 y0 (length p:Int) v0)) (fin4_0 l0_0 a0 a1 (r4_0 a0 y0 (length p:Int) v0)))
  |[],p,v0,hp0=>by
    have hc:¬(decide ((length p:Int) <((length (map b_iiiiiLiLiiLiEELiLiEEE a0)):Int)))=true:=by
      rw[← hp0]; simp only[length_map,length_set,length_append,length_replicate,length_cons,length_nil,decide_eq_true_eq]; omega
    have st:=ch b4_0 (h4_0 l0_0 a0 a1 (length p:Int) v0) ⟨[(0,(.one (.bor l0_0 (map b_iiiiiLiLiiLiEELiLiEEE a0)))),(1,(.oi v0)),(5,(.oi (length p:Int))),(15,(.one (.val (.bool (decide ((length p:Int) <((length (map b_iiiiiLiLiiLiEELiLiEEE a0)):Int)))))))],[]⟩ (.exit 0) 9 (by kernel_rfl) (.f (nt hc) (.h 8 (.b false) .nil))
    rw[show (⟨[(0,(.one (.bor l0_0 (map b_iiiiiLiLiiLiEELiLiEEE a0)))),(1,(.oi v0)),(5,(.oi (length p:Int))),(15,(.one (.val (.bool (decide ((length p:Int) <((length (map b_iiiiiLiLiiLiEELiLiEEE a0)):Int)))))))],[]⟩:St)=fin4_0 l0_0 a0 a1 (.k0 v0 (length p:Int) (decide ((length p:Int) <((length (map b_iiiiiLiLiiLiEELiLiEEE a0)):Int)))) from(by rfl)] at st
    exact .loopX st (show ((.exit 0):VX.Exit)≠.normal from by simp)
  |x0::y0,p,v0,hp0=>by
    have hc:(decide ((length p:Int) <((length (map b_iiiiiLiLiiLiEELiLiEEE a0)):Int)))=true:=by
      rw[← hp0]; simp only[length_map,length_set,length_append,length_replicate,length_cons,length_nil,decide_eq_true_eq]; omega
    have Hx0:(a0)[toNat (length p:Int)]?=some x0:=by
      rw[← hp0,Int.toNat_natCast]; simp
    obtain⟨Mx0_0,Mx0_1⟩:=hy1 x0 (List.mem_of_getElem? Hx0)
    have hlen:length (a0)=length p+length y0+1:=by rw[← hp0]; simp; omega
    have hw:wrap .i64 ((length p:Int)+1)=(length p:Int)+1:=wrap64 (by omega)
    simp only[r4_0]
    have f1:0≤(length p:Int):=(by omega)
    have P1 {hs q} (r:PS F X hs q):=(PS.f hc (.f f1 (.f (mp_ b_iiiiiLiLiiLiEELiLiEEE Hx0) (.h 8 (.b true) (.h 14 (.row (b_iiiiiLiLiiLiEELiLiEEE x0)) (.r 20 [] [] (e9 (l0_5:=(l0_0+1)) (a0:=x0) (a1:=v0) ‹_› ‹_›) r))))))
    by_cases h_1:(decide ((m9 x0 v0) < 0))=true
    · try simp only[if_pos h_1]
      have st:=ch b4_0 (h4_0 l0_0 a0 a1 (length p:Int) v0) ⟨[(4,(.oi (-1)))],[]⟩ .ret 30 (by kernel_rfl) (P1 (.f h_1 (.h 27 (.b true) .nil)))
      rw[show (⟨[(4,(.oi (-1)))],[]⟩:St)=fin4_0 l0_0 a0 a1 (.k1) from(by rfl)] at st
      exact .loopX st (show (.ret:VX.Exit)≠.normal from by simp)
    · try simp only[if_neg h_1]
      have st:=ch b4_0 (h4_0 l0_0 a0 a1 (length p:Int) v0) ⟨[(0,(.one (.bor l0_0 (map b_iiiiiLiLiiLiEELiLiEEE a0)))),(1,(.oi (m9 x0 v0))),(5,(.oi (wrap .i64 ((length p:Int)+1))))],[]⟩ .normal 34 (by kernel_rfl) (P1 (.f (nt h_1) (.f trivial (.h 27 (.b false) .nil))))
      have ih:=t4_0 (l0_0:=l0_0) (a0:=a0) (a1:=a1) hy0 hy1 y0 (p++ [x0]) (m9 x0 v0) (by rw[append_assoc]; exact hp0)
      rw[show ((p++ [x0]).length:Int)=(p.length:Int)+1 from by simp] at ih
      rw[show (⟨[(0,(.one (.bor l0_0 (map b_iiiiiLiLiiLiEELiLiEEE a0)))),(1,(.oi (m9 x0 v0))),(5,(.oi (wrap .i64 ((length p:Int)+1))))],[]⟩:St)=h4_0 l0_0 a0 a1 ((length p:Int)+1) (m9 x0 v0) from(by unfold h4_0; simp only[hw]; done)] at st
      exact .loopN st ih
/-! loop.example/g00539/laws.szJobS -/
def m4 (a0:(List K_iiiiiLiLiiLiEELiLiEEE)) (a1:Int):Int:=
  if(decide ((wrap .i64 (a1 - ((length (map b_iiiiiLiLiiLiEELiLiEEE a0)):Int))) < 0))=true then(-1) else
  (match r4_0 a0 a0 0 (wrap .i64 (a1 - ((length (map b_iiiiiLiLiiLiEELiLiEEE a0)):Int))) with | .k0 w0_1 w1_1 w2_1=>w0_1 | .k1=>(-1))
theorem e4 {l0_0:Nat} {a0:(List K_iiiiiLiLiiLiEELiLiEEE)} {a1:Int} (hy0:length a0*64≤140737488351232) (hy1:∀z∈a0,ok_iiiiiLiLiiLiEELiLiEEE z):Ev F X (.call 4 [(.one (.bor l0_0 (map b_iiiiiLiLiiLiEELiLiEEE a0))),(.one (.val (.int .i64 a1)))] [] [] [(.one (.val (.int .i64 (m4 a0 a1))))]):=by
  unfold m4
  by_cases h0:(decide ((wrap .i64 (a1 - ((length (map b_iiiiiLiLiiLiEELiLiEEE a0)):Int))) < 0))=true
  · try simp only[if_pos h0]
    exact cp (by kernel_rfl) (.f h0 (.h 16 (.b true) .nil))
  · try simp only[if_neg h0]
    cases h1:r4_0 a0 a0 0 (wrap .i64 (a1 - ((length (map b_iiiiiLiLiiLiEELiLiEEE a0)):Int))) with
    |k0 w0_1 w1_1 w2_1=>
      try dsimp only
      have f1:(⟨[(0,(.one (.bor l0_0 (map b_iiiiiLiLiiLiEELiLiEEE a0)))),(1,(.oi (wrap .i64 (a1 - ((length (map b_iiiiiLiLiiLiEELiLiEEE a0)):Int))))),(5,(.oi 0))],[]⟩:St)=h4_0 l0_0 a0 a1 0 (wrap .i64 (a1 - ((length (map b_iiiiiLiLiiLiEELiLiEEE a0)):Int))):=(by rfl)
      exact cp (by kernel_rfl) (.f (nt h0) (.f f1 (.f (ev_ (e:=ex4_0) (g:=(fin4_0 l0_0 a0 a1)) h1 (t4_0 (l0_0:=l0_0) (a0:=a0) (a1:=a1) (by assumption) (by assumption) a0 [] (wrap .i64 (a1 - ((length (map b_iiiiiLiLiiLiEELiLiEEE a0)):Int))) rfl)) (.h 16 (.b false) (.h 19 (.loop (h4_0 l0_0 a0 a1 0 (wrap .i64 (a1 - ((length (map b_iiiiiLiLiiLiEELiLiEEE a0)):Int)))) (.exit 0) ⟨[(0,(.one (.bor l0_0 (map b_iiiiiLiLiiLiEELiLiEEE a0)))),(1,(.one (.val (.int .i64 w0_1)))),(5,(.one (.val (.int .i64 w1_1)))),(15,(.one (.val (.bool w2_1))))],[]⟩) .nil)))))
    |k1=>
      try dsimp only
      have f1:(⟨[(0,(.one (.bor l0_0 (map b_iiiiiLiLiiLiEELiLiEEE a0)))),(1,(.oi (wrap .i64 (a1 - ((length (map b_iiiiiLiLiiLiEELiLiEEE a0)):Int))))),(5,(.oi 0))],[]⟩:St)=h4_0 l0_0 a0 a1 0 (wrap .i64 (a1 - ((length (map b_iiiiiLiLiiLiEELiLiEEE a0)):Int))):=(by rfl)
      exact cp (by kernel_rfl) (.f (nt h0) (.f f1 (.f (ev_ (e:=ex4_0) (g:=(fin4_0 l0_0 a0 a1)) h1 (t4_0 (l0_0:=l0_0) (a0:=a0) (a1:=a1) (by assumption) (by assumption) a0 [] (wrap .i64 (a1 - ((length (map b_iiiiiLiLiiLiEELiLiEEE a0)):Int))) rfl)) (.h 16 (.b false) (.h 19 (.loop (h4_0 l0_0 a0 a1 0 (wrap .i64 (a1 - ((length (map b_iiiiiLiLiiLiEELiLiEEE a0)):Int)))) .ret ⟨[(4,(.one (.val (.int .i64 (-1)))))],[]⟩) .nil)))))
/-! loop.example/g00539/spec.l1In -/
def m27 (a0:Int) (a1:Int) (a2:Int):Bool:=
  if(decide (a0≥a1))=true then(decide (a0≤a2)) else
  false
theorem e27 {a0:Int} {a1:Int} {a2:Int}:Ev F X (.call 27 [(.one (.val (.int .i64 a0))),(.one (.val (.int .i64 a1))),(.one (.val (.int .i64 a2)))] [] [] [(.one (.val (.bool (m27 a0 a1 a2))))]):=by
  unfold m27
  by_cases h0:(decide (a0≥a1))=true
  · try simp only[if_pos h0]
    exact cp (by kernel_rfl) (.f h0 (.f h0 (.f h0 (.f h0 (.h 10 (.b true) (.h 12 (.b true) (.h 14 (.b true) (.h 17 (.b true) .nil))))))))
  · try simp only[if_neg h0]
    exact cp (by kernel_rfl) (.f (nt h0) (.f (nt h0) (.f (nt h0) (.f (nt h0) (.h 10 (.b false) (.h 12 (.b false) (.h 14 (.b false) (.h 17 (.b false) .nil))))))))
theorem e39 {a0:Int}:Ev F X (.call 39 [(.one (.val (.int .i64 a0)))] [] [] [(.one (.val (.bool (m27 a0 0 2147483646))))]):=by
  exact cp (by kernel_rfl) (.r 5 [] [] (e27 (a0:=a0) (a1:=0) (a2:=2147483646)) .nil)
/-! loop.example/g00539/spec.l1Bits -/
def m40 (a0:Int):Bool:=
  if(m27 a0 1 1023)=true then(decide ((Int.tmod a0 256) > 0)) else
  false
theorem e40 {a0:Int}:Ev F X (.call 40 [(.one (.val (.int .i64 a0)))] [] [] [(.one (.val (.bool (m40 a0))))]):=by
  unfold m40
  by_cases h0:(m27 a0 1 1023)=true
  · try simp only[if_pos h0]
    have f3:(256:Int)≠0:=(by omega)
    exact cp (by kernel_rfl) (.r 5 [] [] (e27 (a0:=a0) (a1:=1) (a2:=1023)) (.f h0 (.f h0 (.f f3 (.f h0 (.f h0 (.h 8 (.b true) (.h 10 (.b true) (.h 12 (.b true) (.h 15 (.b true) .nil))))))))))
  · try simp only[if_neg h0]
    exact cp (by kernel_rfl) (.r 5 [] [] (e27 (a0:=a0) (a1:=1) (a2:=1023)) (.f (nt h0) (.f (nt h0) (.f (nt h0) (.f (nt h0) (.h 8 (.b false) (.h 10 (.b false) (.h 12 (.b false) (.h 15 (.b false) .nil)))))))))
/-! loop 77_0 -/
inductive O77_0 where
  |k0 (w0:Int) (w1:Bool)
  |k1
def r77_0 (a0:(List Int)) (a1:Int) (a2:Int):List Int→Int→O77_0
  |x0::y0,i=>
    if(!(m27 x0 a1 a2))=true then(O77_0.k1) else
    (r77_0 a0 a1 a2 y0 (i+1))
  |[],i=>(O77_0.k0 i (decide (i <((length (map b_i a0)):Int))))
def h77_0 (l0_0:Nat) (a0:(List Int)) (a1:Int) (a2:Int) (i:Int) :St:=⟨[(0,(.one (.bor l0_0 (map b_i a0)))),(1,(.one (.val (.int .i64 a1)))),(2,(.one (.val (.int .i64 a2)))),(7,(.one (.val (.int .i64 i))))],[]⟩
def ex77_0:O77_0→VX.Exit
  |.k0 _ _=>(.exit 0)
  |.k1=>.ret
def fin77_0 (l0_0:Nat) (a0:(List Int)) (a1:Int) (a2:Int):O77_0→St
  |.k0 w0 w1=>⟨[(0,(.one (.bor l0_0 (map b_i a0)))),(1,(.one (.val (.int .i64 a1)))),(2,(.one (.val (.int .i64 a2)))),(7,(.one (.val (.int .i64 w0)))),(11,(.one (.val (.bool w1))))],[]⟩
  |.k1=>⟨[(6,(.one (.val (.bool false))))],[]⟩
theorem t77_0 {l0_0:Nat} {a0:(List Int)} {a1:Int} {a2:Int} (hy0:length a0*8≤140737488351232):∀(y0:List Int) (p:List Int),p++y0=a0→Ev F X (.code l77_0 (h77_0 l0_0 a0 a1 a2 (length p:Int)) (ex77_0 (r77_0 a0 a1 a2 y0 (length p:Int))) (fin77_0 l0_0 a0 a1 a2 (r77_0 a0 a1 a2 y0 (length p:Int))))
  |[],p,hp0=>by
    have hc:¬(decide ((length p:Int) <((length (map b_i a0)):Int)))=true:=by
      rw[← hp0]; simp only[length_map,length_set,length_append,length_replicate,length_cons,length_nil,decide_eq_true_eq]; omega
    have st:=ch b77_0 (h77_0 l0_0 a0 a1 a2 (length p:Int)) ⟨[(0,(.one (.bor l0_0 (map b_i a0)))),(1,(.oi a1)),(2,(.oi a2)),(7,(.oi (length p:Int))),(11,(.one (.val (.bool (decide ((length p:Int) <((length (map b_i a0)):Int)))))))],[]⟩ (.exit 0) 9 (by kernel_rfl) (.f (nt hc) (.h 8 (.b false) .nil))
    rw[show (⟨[(0,(.one (.bor l0_0 (map b_i a0)))),(1,(.oi a1)),(2,(.oi a2)),(7,(.oi (length p:Int))),(11,(.one (.val (.bool (decide ((length p:Int) <((length (map b_i a0)):Int)))))))],[]⟩:St)=fin77_0 l0_0 a0 a1 a2 (.k0 (length p:Int) (decide ((length p:Int) <((length (map b_i a0)):Int)))) from(by rfl)] at st
    exact .loopX st (show ((.exit 0):VX.Exit)≠.normal from by simp)
  |x0::y0,p,hp0=>by
    have hc:(decide ((length p:Int) <((length (map b_i a0)):Int)))=true:=by
      rw[← hp0]; simp only[length_map,length_set,length_append,length_replicate,length_cons,length_nil,decide_eq_true_eq]; omega
    have Hx0:(a0)[toNat (length p:Int)]?=some x0:=by
      rw[← hp0,Int.toNat_natCast]; simp
    have hlen:length (a0)=length p+length y0+1:=by rw[← hp0]; simp; omega
    have hw:wrap .i64 ((length p:Int)+1)=(length p:Int)+1:=wrap64 (by omega)
    simp only[r77_0]
    have f1:0≤(length p:Int):=(by omega)
    have P1 {hs q} (r:PS F X hs q):=(PS.f hc (.f f1 (.f (mp_ b_i Hx0) (.h 8 (.b true) (.h 14 (.row [(.val (.int .i64 x0))]) (.r 22 [] [] (e27 (a0:=x0) (a1:=a1) (a2:=a2)) r))))))
    by_cases h_1:(!(m27 x0 a1 a2))=true
    · try simp only[if_pos h_1]
      have st:=ch b77_0 (h77_0 l0_0 a0 a1 a2 (length p:Int)) ⟨[(6,(.one (.val (.bool false))))],[]⟩ .ret 28 (by kernel_rfl) (P1 (.f h_1 (.h 25 (.b true) .nil)))
      rw[show (⟨[(6,(.one (.val (.bool false))))],[]⟩:St)=fin77_0 l0_0 a0 a1 a2 (.k1) from(by rfl)] at st
      exact .loopX st (show (.ret:VX.Exit)≠.normal from by simp)
    · try simp only[if_neg h_1]
      have st:=ch b77_0 (h77_0 l0_0 a0 a1 a2 (length p:Int)) ⟨[(0,(.one (.bor l0_0 (map b_i a0)))),(1,(.oi a1)),(2,(.oi a2)),(7,(.oi (wrap .i64 ((length p:Int)+1))))],[]⟩ .normal 32 (by kernel_rfl) (P1 (.f (nt h_1) (.f trivial (.h 25 (.b false) .nil))))
      have ih:=t77_0 (l0_0:=l0_0) (a0:=a0) (a1:=a1) (a2:=a2) hy0 y0 (p++ [x0]) (by rw[append_assoc]; exact hp0)
      rw[show ((p++ [x0]).length:Int)=(p.length:Int)+1 from by simp] at ih
      rw[show (⟨[(0,(.one (.bor l0_0 (map b_i a0)))),(1,(.oi a1)),(2,(.oi a2)),(7,(.oi (wrap .i64 ((length p:Int)+1))))],[]⟩:St)=h77_0 l0_0 a0 a1 a2 ((length p:Int)+1)  from(by unfold h77_0; simp only[hw]; done)] at st
      exact .loopN st ih
/-! loop.example/g00539/spec.l1All -/
def m77 (a0:(List Int)) (a1:Int) (a2:Int):Bool:=
  (match r77_0 a0 a1 a2 a0 0 with | .k0 w0_0 w1_0=>true | .k1=>false)
theorem e77 {l0_0:Nat} {a0:(List Int)} {a1:Int} {a2:Int} (hy0:length a0*8≤140737488351232):Ev F X (.call 77 [(.one (.bor l0_0 (map b_i a0))),(.one (.val (.int .i64 a1))),(.one (.val (.int .i64 a2)))] [] [] [(.one (.val (.bool (m77 a0 a1 a2))))]):=by
  unfold m77
  cases h0:r77_0 a0 a1 a2 a0 0 with
  |k0 w0_0 w1_0=>
    try dsimp only
    have f0:(⟨[(0,(.one (.bor l0_0 (map b_i a0)))),(1,(.oi a1)),(2,(.oi a2)),(7,(.oi 0))],[]⟩:St)=h77_0 l0_0 a0 a1 a2 0 :=(by rfl)
    exact cp (by kernel_rfl) (.f f0 (.f (ev_ (e:=ex77_0) (g:=(fin77_0 l0_0 a0 a1 a2)) h0 (t77_0 (l0_0:=l0_0) (a0:=a0) (a1:=a1) (a2:=a2) (by assumption) a0 []  rfl)) (.h 4 (.loop (h77_0 l0_0 a0 a1 a2 0) (.exit 0) ⟨[(0,(.one (.bor l0_0 (map b_i a0)))),(1,(.one (.val (.int .i64 a1)))),(2,(.one (.val (.int .i64 a2)))),(7,(.one (.val (.int .i64 w0_0)))),(11,(.one (.val (.bool w1_0))))],[]⟩) .nil)))
  |k1=>
    try dsimp only
    have f0:(⟨[(0,(.one (.bor l0_0 (map b_i a0)))),(1,(.oi a1)),(2,(.oi a2)),(7,(.oi 0))],[]⟩:St)=h77_0 l0_0 a0 a1 a2 0 :=(by rfl)
    exact cp (by kernel_rfl) (.f f0 (.f (ev_ (e:=ex77_0) (g:=(fin77_0 l0_0 a0 a1 a2)) h0 (t77_0 (l0_0:=l0_0) (a0:=a0) (a1:=a1) (a2:=a2) (by assumption) a0 []  rfl)) (.h 4 (.loop (h77_0 l0_0 a0 a1 a2 0) .ret ⟨[(6,(.one (.val (.bool false))))],[]⟩) .nil)))
/-! loop 59_0 -/
inductive O59_0 where
  |k0 (w0:Int) (w1:Bool)
  |k1
def r59_0 (a0:(List K_iiLiE)) (a1:Int):Nat→Int→O59_0
  |n+1,i=>
    if (((getD a0 (toNat i) (K_iiLiE.mk 0 0 [])).f0) == ((getD a0 (toNat a1) (K_iiLiE.mk 0 0 [])).f0)) = true then (if (((getD a0 (toNat i) (K_iiLiE.mk 0 0 [])).f1) == ((getD a0 (toNat a1) (K_iiLiE.mk 0 0 [])).f1)) = true then (O59_0.k1) else
      (r59_0 a0 a1 n (i+1))) else
    (r59_0 a0 a1 n (i+1))
  |0,i=>(O59_0.k0 i (decide (i < a1)))
def h59_0 (l0_0:Nat) (a0:(List K_iiLiE)) (a1:Int) (i:Int) :St:=⟨[(0,(.one (.bor l0_0 (map b_iiLiE a0)))),(1,(.one (.val (.int .i64 a1)))),(5,(.bptr l0_0 (b_iiLiE (getD a0 (toNat a1) (K_iiLiE.mk 0 0 []))))),(6,(.one (.val (.int .i64 i))))],[]⟩
def ex59_0:O59_0→VX.Exit
  |.k0 _ _=>(.exit 0)
  |.k1=>.ret
def fin59_0 (l0_0:Nat) (a0:(List K_iiLiE)) (a1:Int):O59_0→St
  |.k0 w0 w1=>⟨[(0,(.one (.bor l0_0 (map b_iiLiE a0)))),(1,(.one (.val (.int .i64 a1)))),(5,(.bptr l0_0 (b_iiLiE (getD a0 (toNat a1) (K_iiLiE.mk 0 0 []))))),(6,(.one (.val (.int .i64 w0)))),(38,(.one (.val (.bool w1))))],[]⟩
  |.k1=>⟨[(4,(.one (.val (.int .i64 6))))],[]⟩
theorem t59_0 {l0_0:Nat} {a0:(List K_iiLiE)} {a1:Int} (hy0:length a0*40≤140737488351232) (hy1:∀z∈a0,ok_iiLiE z) (hy2:0≤a1) (hy3:a1 <(length a0:Int)):∀(n:Nat) (i:Int),0≤i→n=toNat (a1 - i)→a1≤9223372036854775807→Ev F X (.code l59_0 (h59_0 l0_0 a0 a1 i) (ex59_0 (r59_0 a0 a1 n i)) (fin59_0 l0_0 a0 a1 (r59_0 a0 a1 n i)))
  |0,i,hn0,hn,hi0=>by
    have hc:¬(decide (i < a1))=true:=by
      simp only[decide_eq_true_eq]; omega
    have st:=ch b59_0 (h59_0 l0_0 a0 a1 i) ⟨[(0,(.one (.bor l0_0 (map b_iiLiE a0)))),(1,(.oi a1)),(5,(.bptr l0_0 (b_iiLiE (getD a0 (toNat a1) (K_iiLiE.mk 0 0 []))))),(6,(.oi i)),(38,(.one (.val (.bool (decide (i < a1))))))],[]⟩ (.exit 0) 7 (by kernel_rfl) (.f (nt hc) (.h 6 (.b false) .nil))
    rw[show (⟨[(0,(.one (.bor l0_0 (map b_iiLiE a0)))),(1,(.oi a1)),(5,(.bptr l0_0 (b_iiLiE (getD a0 (toNat a1) (K_iiLiE.mk 0 0 []))))),(6,(.oi i)),(38,(.one (.val (.bool (decide (i < a1))))))],[]⟩:St)=fin59_0 l0_0 a0 a1 (.k0 i (decide (i < a1))) from(by rfl)] at st
    exact .loopX st (show ((.exit 0):VX.Exit)≠.normal from by simp)
  |n+1,i,hn0,hn,hi0=>by
    have hc:(decide (i < a1))=true:=by
      simp only[decide_eq_true_eq]; omega
    have hw:wrap .i64 (i+1)=i+1:=wrap64 (by omega)
    have hj0:=hi0; try simp only[length_map,length_set,length_append,length_replicate,length_cons,length_nil,Int.toNat_natCast] at hj0
    simp only[r59_0]
    have f1:0≤i:=‹_›
    have P1 {hs q} (r:PS F X hs q):=(PS.f hc (.f f1 (.f (mp_ b_iiLiE (getD_at a0 (toNat i) (K_iiLiE.mk 0 0 []) (by omega))) (.h 6 (.b true) (.h 12 (.row (b_iiLiE (getD a0 (toNat i) (K_iiLiE.mk 0 0 [])))) r)))))
    by_cases h_1:(((getD a0 (toNat i) (K_iiLiE.mk 0 0 [])).f0)==((getD a0 (toNat a1) (K_iiLiE.mk 0 0 [])).f0))=true
    · try simp only[if_pos h_1]
      have P2 {hs q} (r:PS F X hs q):=(P1 (.f h_1 (.f h_1 (.f h_1 (.f f1 (.f (mp_ b_iiLiE (getD_at a0 (toNat i) (K_iiLiE.mk 0 0 []) (by omega))) (.f h_1 (.f h_1 (.f h_1 (.f h_1 (.f h_1 (.f h_1 (.f h_1 (.f h_1 (.h 29 (.b true) (.h 31 (.b true) (.h 33 (.b true) (.h 34 (.row (b_iiLiE (getD a0 (toNat i) (K_iiLiE.mk 0 0 [])))) (.h 35 (.b true) (.h 37 (.b true) (.h 39 (.b true) (.h 41 (.b true) (.h 43 (.b true) (.h 45 (.b true) (.h 47 (.b true) (.h 50 (.b true) r))))))))))))))))))))))))))
      by_cases h_2:(((getD a0 (toNat i) (K_iiLiE.mk 0 0 [])).f1)==((getD a0 (toNat a1) (K_iiLiE.mk 0 0 [])).f1))=true
      · try simp only[if_pos h_2]
        have st:=ch b59_0 (h59_0 l0_0 a0 a1 i) ⟨[(4,(.oi 6))],[]⟩ .ret 54 (by kernel_rfl) (P2 (.f h_2 (.h 51 (.b true) .nil)))
        rw[show (⟨[(4,(.oi 6))],[]⟩:St)=fin59_0 l0_0 a0 a1 (.k1) from(by rfl)] at st
        exact .loopX st (show (.ret:VX.Exit)≠.normal from by simp)
      · try simp only[if_neg h_2]
        have st:=ch b59_0 (h59_0 l0_0 a0 a1 i) ⟨[(0,(.one (.bor l0_0 (map b_iiLiE a0)))),(1,(.oi a1)),(5,(.bptr l0_0 (b_iiLiE (getD a0 (toNat a1) (K_iiLiE.mk 0 0 []))))),(6,(.oi (wrap .i64 (i+1))))],[]⟩ .normal 58 (by kernel_rfl) (P2 (.f (nt h_2) (.f trivial (.h 51 (.b false) .nil))))
        have ih:=t59_0 (l0_0:=l0_0) (a0:=a0) (a1:=a1) hy0 hy1 hy2 hy3 n (i+1) (by omega) (by omega) (by omega)
        rw[show (⟨[(0,(.one (.bor l0_0 (map b_iiLiE a0)))),(1,(.oi a1)),(5,(.bptr l0_0 (b_iiLiE (getD a0 (toNat a1) (K_iiLiE.mk 0 0 []))))),(6,(.oi (wrap .i64 (i+1))))],[]⟩:St)=h59_0 l0_0 a0 a1 (i+1)  from(by unfold h59_0; simp only[hw]; done)] at st
        exact .loopN st ih
    · try simp only[if_neg h_1]
      have st:=ch b59_0 (h59_0 l0_0 a0 a1 i) ⟨[(0,(.one (.bor l0_0 (map b_iiLiE a0)))),(1,(.oi a1)),(5,(.bptr l0_0 (b_iiLiE (getD a0 (toNat a1) (K_iiLiE.mk 0 0 []))))),(6,(.oi (wrap .i64 (i+1))))],[]⟩ .normal 58 (by kernel_rfl) (P1 (.f (nt h_1) (.f (nt h_1) (.f (nt h_1) (.f (nt h_1) (.f (nt h_1) (.f (nt h_1) (.f (nt h_1) (.f (nt h_1) (.f (nt h_1) (.f (nt h_1) (.f (nt h_1) (.f trivial (.h 29 (.b false) (.h 31 (.b false) (.h 33 (.b false) (.h 35 (.b false) (.h 37 (.b false) (.h 39 (.b false) (.h 41 (.b false) (.h 43 (.b false) (.h 45 (.b false) (.h 47 (.b false) (.h 50 (.b false) .nil))))))))))))))))))))))))
      have ih:=t59_0 (l0_0:=l0_0) (a0:=a0) (a1:=a1) hy0 hy1 hy2 hy3 n (i+1) (by omega) (by omega) (by omega)
      rw[show (⟨[(0,(.one (.bor l0_0 (map b_iiLiE a0)))),(1,(.oi a1)),(5,(.bptr l0_0 (b_iiLiE (getD a0 (toNat a1) (K_iiLiE.mk 0 0 []))))),(6,(.oi (wrap .i64 (i+1))))],[]⟩:St)=h59_0 l0_0 a0 a1 (i+1)  from(by unfold h59_0; simp only[hw]; done)] at st
      exact .loopN st ih
/-! loop.example/g00539/spec.l3In -/
def m59 (a0:(List K_iiLiE)) (a1:Int):Int:=
  if(!(m27 ((getD a0 (toNat a1) (K_iiLiE.mk 0 0 [])).f0) 0 2147483646))=true then 3 else
  if(!(m27 ((getD a0 (toNat a1) (K_iiLiE.mk 0 0 [])).f1) 0 3))=true then 3 else
    if(decide (((length (map b_i ((getD a0 (toNat a1) (K_iiLiE.mk 0 0 [])).f2))):Int) > 8))=true then 2 else
      if(!(m77 ((getD a0 (toNat a1) (K_iiLiE.mk 0 0 [])).f2) 0 9999))=true then 3 else
        (match r59_0 a0 a1 (toNat a1) 0 with | .k0 w0_14 w1_14=>0 | .k1=>6)
theorem e59 {l0_0:Nat} {a0:(List K_iiLiE)} {a1:Int} (hy0:length a0*40≤140737488351232) (hy1:∀z∈a0,ok_iiLiE z) (hy2:0≤a1) (hy3:a1 <(length a0:Int)):Ev F X (.call 59 [(.one (.bor l0_0 (map b_iiLiE a0))),(.one (.val (.int .i64 a1)))] [] [] [(.one (.val (.int .i64 (m59 a0 a1))))]):=by
  unfold m59
  have f0:0≤a1:=‹_›
  have P0 {hs q} (r:PS F X hs q):=(PS.f f0 (.f (mp_ b_iiLiE (getD_at a0 (toNat a1) (K_iiLiE.mk 0 0 []) (by omega))) (.h 7 (.row (b_iiLiE (getD a0 (toNat a1) (K_iiLiE.mk 0 0 [])))) (.r 19 [] [] (e27 (a0:=((getD a0 (toNat a1) (K_iiLiE.mk 0 0 [])).f0)) (a1:=0) (a2:=2147483646)) r))))
  by_cases h0:(!(m27 ((getD a0 (toNat a1) (K_iiLiE.mk 0 0 [])).f0) 0 2147483646))=true
  · try simp only[if_pos h0]
    exact cp (by kernel_rfl) (P0 (.f h0 (.f h0 (.f h0 (.f h0 (.f h0 (.f h0 (.f h0 (.h 24 (.b true) (.h 26 (.b true) (.h 28 (.b true) (.h 30 (.b true) (.h 32 (.b true) (.h 34 (.b true) (.h 37 (.b true) .nil)))))))))))))))
  · try simp only[if_neg h0]
    have P1 {hs q} (r:PS F X hs q):=(P0 (.f (nt h0) (.f (nt h0) (.f (nt h0) (.f (nt h0) (.f (nt h0) (.h 24 (.b false) (.h 26 (.b false) (.h 28 (.b false) (.h 30 (.b false) (.h 32 (.b false) (.r 33 [] [] (e27 (a0:=((getD a0 (toNat a1) (K_iiLiE.mk 0 0 [])).f1)) (a1:=0) (a2:=3)) (.f (nt h0) (.f (nt h0) (.h 34 (.b false) (.h 37 (.b false) r))))))))))))))))
    by_cases h1:(!(m27 ((getD a0 (toNat a1) (K_iiLiE.mk 0 0 [])).f1) 0 3))=true
    · try simp only[if_pos h1]
      exact cp (by kernel_rfl) (P1 (.f h1 (.h 38 (.b true) .nil)))
    · try simp only[if_neg h1]
      have P2 {hs q} (r:PS F X hs q):=(P1 (.f (nt h1) (.h 38 (.b false) r)))
      by_cases h2:(decide (((length (map b_i ((getD a0 (toNat a1) (K_iiLiE.mk 0 0 [])).f2))):Int) > 8))=true
      · try simp only[if_pos h2]
        exact cp (by kernel_rfl) (P2 (.f h2 (.h 51 (.b true) .nil)))
      · try simp only[if_neg h2]
        have P3 {hs q} (r:PS F X hs q):=(P2 (.f (nt h2) (.h 51 (.b false) (.r 61 [] [] (e77 (l0_0:=(l0_0+1)) (a0:=((getD a0 (toNat a1) (K_iiLiE.mk 0 0 [])).f2)) (a1:=0) (a2:=9999) (by have q:=gos_iiLiE (l:=a0) (by first | assumption |(intro z hz; exact(by assumption:∀z∈_,os_iiLiE z) z (List.mem_of_mem_take hz))) (toNat a1) (K_iiLiE.mk 0 0 []) (by simp[os_iiLiE,ByteArray.size]); first | exact q | exact q.1 | exact q.2 | exact q.2.1 | exact q.2.2 | exact Nat.le_trans q (by decide) | exact Nat.le_trans q.1 (by decide) |(have q1:=q.1; simp only[length_map]; omega))) r))))
        by_cases h3:(!(m77 ((getD a0 (toNat a1) (K_iiLiE.mk 0 0 [])).f2) 0 9999))=true
        · try simp only[if_pos h3]
          exact cp (by kernel_rfl) (P3 (.f h3 (.h 64 (.b true) .nil)))
        · try simp only[if_neg h3]
          cases h4:r59_0 a0 a1 (toNat a1) 0 with
          |k0 w0_14 w1_14=>
            try dsimp only
            have f15:(⟨[(0,(.one (.bor l0_0 (map b_iiLiE a0)))),(1,(.oi a1)),(5,(.bptr l0_0 (b_iiLiE (getD a0 (toNat a1) (K_iiLiE.mk 0 0 []))))),(6,(.oi 0))],[]⟩:St)=h59_0 l0_0 a0 a1 0 :=(by rfl)
            exact cp (by kernel_rfl) (P3 (.f (nt h3) (.f f15 (.f (ev_ (e:=ex59_0) (g:=(fin59_0 l0_0 a0 a1)) h4 (t59_0 (l0_0:=l0_0) (a0:=a0) (a1:=a1) (by assumption) (by assumption) (by assumption) (by assumption) _ 0 (by omega) (by omega) (by omega))) (.h 64 (.b false) (.h 67 (.loop (h59_0 l0_0 a0 a1 0) (.exit 0) ⟨[(0,(.one (.bor l0_0 (map b_iiLiE a0)))),(1,(.one (.val (.int .i64 a1)))),(5,(.bptr l0_0 (b_iiLiE (getD a0 (toNat a1) (K_iiLiE.mk 0 0 []))))),(6,(.one (.val (.int .i64 w0_14)))),(38,(.one (.val (.bool w1_14))))],[]⟩) .nil))))))
          |k1=>
            try dsimp only
            have f15:(⟨[(0,(.one (.bor l0_0 (map b_iiLiE a0)))),(1,(.oi a1)),(5,(.bptr l0_0 (b_iiLiE (getD a0 (toNat a1) (K_iiLiE.mk 0 0 []))))),(6,(.oi 0))],[]⟩:St)=h59_0 l0_0 a0 a1 0 :=(by rfl)
            exact cp (by kernel_rfl) (P3 (.f (nt h3) (.f f15 (.f (ev_ (e:=ex59_0) (g:=(fin59_0 l0_0 a0 a1)) h4 (t59_0 (l0_0:=l0_0) (a0:=a0) (a1:=a1) (by assumption) (by assumption) (by assumption) (by assumption) _ 0 (by omega) (by omega) (by omega))) (.h 64 (.b false) (.h 67 (.loop (h59_0 l0_0 a0 a1 0) .ret ⟨[(4,(.one (.val (.int .i64 6))))],[]⟩) .nil))))))
theorem inl59 {a:List K_iiLiE} {i:Int} (h:m59 a i=0):length (getD a (toNat i) (K_iiLiE.mk 0 0 [])).f2≤8:=by
  by_cases c:(decide (((length (map b_i ((getD a (toNat i) (K_iiLiE.mk 0 0 [])).f2))):Int) > 8))=true
  · unfold m59 at h
    simp only[if_pos c] at h
    (repeat' split at h)<;>exact absurd h (by decide)
  · simp only[decide_eq_true_eq,length_map] at c; omega
theorem e78 {a0:Int}:Ev F X (.call 78 [(.one (.val (.int .i64 a0)))] [] [] [(.one (.val (.bool (m27 a0 0 1000000))))]):=by
  exact cp (by kernel_rfl) (.r 5 [] [] (e27 (a0:=a0) (a1:=0) (a2:=1000000)) .nil)
/-! loop.example/g00539/spec.l2Op -/
def m90 (a0:Int):Bool:=
  if(m27 a0 1 9)=true then true else
  (m27 a0 100 1099)
theorem e90 {a0:Int}:Ev F X (.call 90 [(.one (.val (.int .i64 a0)))] [] [] [(.one (.val (.bool (m90 a0))))]):=by
  unfold m90
  by_cases h0:(m27 a0 1 9)=true
  · try simp only[if_pos h0]
    exact cp (by kernel_rfl) (.r 5 [] [] (e27 (a0:=a0) (a1:=1) (a2:=9)) (.f h0 (.f h0 (.f h0 (.h 8 (.b true) (.h 10 (.b true) (.h 13 (.b true) .nil)))))))
  · try simp only[if_neg h0]
    exact cp (by kernel_rfl) (.r 5 [] [] (e27 (a0:=a0) (a1:=1) (a2:=9)) (.f (nt h0) (.f (nt h0) (.h 8 (.b false) (.h 10 (.b false) (.r 11 [] [] (e27 (a0:=a0) (a1:=100) (a2:=1099)) (.f (nt h0) (.h 13 (.b false) .nil))))))))
/-! loop 79_0 -/
inductive O79_0 where
  |k0 (w0:Int) (w1:Bool)
  |k1
def r79_0 (a0:(List Int)):List Int→Int→O79_0
  |x0::y0,i=>
    if(!(m90 x0))=true then(O79_0.k1) else
    (r79_0 a0 y0 (i+1))
  |[],i=>(O79_0.k0 i (decide (i <((length (map b_i a0)):Int))))
def h79_0 (l0_0:Nat) (a0:(List Int)) (i:Int) :St:=⟨[(0,(.one (.bor l0_0 (map b_i a0)))),(3,(.one (.val (.int .i64 i))))],[]⟩
def ex79_0:O79_0→VX.Exit
  |.k0 _ _=>(.exit 0)
  |.k1=>.ret
def fin79_0 (l0_0:Nat) (a0:(List Int)):O79_0→St
  |.k0 w0 w1=>⟨[(0,(.one (.bor l0_0 (map b_i a0)))),(3,(.one (.val (.int .i64 w0)))),(10,(.one (.val (.bool w1))))],[]⟩
  |.k1=>⟨[(2,(.one (.val (.int .i64 1))))],[]⟩
theorem t79_0 {l0_0:Nat} {a0:(List Int)} (hy0:length a0*8≤140737488351232):∀(y0:List Int) (p:List Int),p++y0=a0→Ev F X (.code l79_0 (h79_0 l0_0 a0 (length p:Int)) (ex79_0 (r79_0 a0 y0 (length p:Int))) (fin79_0 l0_0 a0 (r79_0 a0 y0 (length p:Int))))
  |[],p,hp0=>by
    have hc:¬(decide ((length p:Int) <((length (map b_i a0)):Int)))=true:=by
      rw[← hp0]; simp only[length_map,length_set,length_append,length_replicate,length_cons,length_nil,decide_eq_true_eq]; omega
    have st:=ch b79_0 (h79_0 l0_0 a0 (length p:Int)) ⟨[(0,(.one (.bor l0_0 (map b_i a0)))),(3,(.oi (length p:Int))),(10,(.one (.val (.bool (decide ((length p:Int) <((length (map b_i a0)):Int)))))))],[]⟩ (.exit 0) 9 (by kernel_rfl) (.f (nt hc) (.h 8 (.b false) .nil))
    rw[show (⟨[(0,(.one (.bor l0_0 (map b_i a0)))),(3,(.oi (length p:Int))),(10,(.one (.val (.bool (decide ((length p:Int) <((length (map b_i a0)):Int)))))))],[]⟩:St)=fin79_0 l0_0 a0 (.k0 (length p:Int) (decide ((length p:Int) <((length (map b_i a0)):Int)))) from(by rfl)] at st
    exact .loopX st (show ((.exit 0):VX.Exit)≠.normal from by simp)
  |x0::y0,p,hp0=>by
    have hc:(decide ((length p:Int) <((length (map b_i a0)):Int)))=true:=by
      rw[← hp0]; simp only[length_map,length_set,length_append,length_replicate,length_cons,length_nil,decide_eq_true_eq]; omega
    have Hx0:(a0)[toNat (length p:Int)]?=some x0:=by
      rw[← hp0,Int.toNat_natCast]; simp
    have hlen:length (a0)=length p+length y0+1:=by rw[← hp0]; simp; omega
    have hw:wrap .i64 ((length p:Int)+1)=(length p:Int)+1:=wrap64 (by omega)
    simp only[r79_0]
    have f1:0≤(length p:Int):=(by omega)
    have P1 {hs q} (r:PS F X hs q):=(PS.f hc (.f f1 (.f (mp_ b_i Hx0) (.h 8 (.b true) (.h 14 (.row [(.val (.int .i64 x0))]) (.r 18 [] [] (e90 (a0:=x0)) r))))))
    by_cases h_1:(!(m90 x0))=true
    · try simp only[if_pos h_1]
      have st:=ch b79_0 (h79_0 l0_0 a0 (length p:Int)) ⟨[(2,(.oi 1))],[]⟩ .ret 24 (by kernel_rfl) (P1 (.f h_1 (.h 21 (.b true) .nil)))
      rw[show (⟨[(2,(.oi 1))],[]⟩:St)=fin79_0 l0_0 a0 (.k1) from(by rfl)] at st
      exact .loopX st (show (.ret:VX.Exit)≠.normal from by simp)
    · try simp only[if_neg h_1]
      have st:=ch b79_0 (h79_0 l0_0 a0 (length p:Int)) ⟨[(0,(.one (.bor l0_0 (map b_i a0)))),(3,(.oi (wrap .i64 ((length p:Int)+1))))],[]⟩ .normal 28 (by kernel_rfl) (P1 (.f (nt h_1) (.f trivial (.h 21 (.b false) .nil))))
      have ih:=t79_0 (l0_0:=l0_0) (a0:=a0) hy0 y0 (p++ [x0]) (by rw[append_assoc]; exact hp0)
      rw[show ((p++ [x0]).length:Int)=(p.length:Int)+1 from by simp] at ih
      rw[show (⟨[(0,(.one (.bor l0_0 (map b_i a0)))),(3,(.oi (wrap .i64 ((length p:Int)+1))))],[]⟩:St)=h79_0 l0_0 a0 ((length p:Int)+1)  from(by unfold h79_0; simp only[hw]; done)] at st
      exact .loopN st ih
/-! loop.example/g00539/spec.l2Fault -/
def m79 (a0:(List Int)):Int:=
  if(decide (((length (map b_i a0)):Int) > 12))=true then 2 else
  (match r79_0 a0 a0 0 with | .k0 w0_1 w1_1=>0 | .k1=>1)
theorem e79 {l0_0:Nat} {a0:(List Int)} (hy0:length a0*8≤140737488351232):Ev F X (.call 79 [(.one (.bor l0_0 (map b_i a0)))] [] [] [(.one (.val (.int .i64 (m79 a0))))]):=by
  unfold m79
  by_cases h0:(decide (((length (map b_i a0)):Int) > 12))=true
  · try simp only[if_pos h0]
    exact cp (by kernel_rfl) (.f h0 (.h 8 (.b true) .nil))
  · try simp only[if_neg h0]
    cases h1:r79_0 a0 a0 0 with
    |k0 w0_1 w1_1=>
      try dsimp only
      have f1:(⟨[(0,(.one (.bor l0_0 (map b_i a0)))),(3,(.oi 0))],[]⟩:St)=h79_0 l0_0 a0 0 :=(by rfl)
      exact cp (by kernel_rfl) (.f (nt h0) (.f f1 (.f (ev_ (e:=ex79_0) (g:=(fin79_0 l0_0 a0)) h1 (t79_0 (l0_0:=l0_0) (a0:=a0) (by assumption) a0 []  rfl)) (.h 8 (.b false) (.h 11 (.loop (h79_0 l0_0 a0 0) (.exit 0) ⟨[(0,(.one (.bor l0_0 (map b_i a0)))),(3,(.one (.val (.int .i64 w0_1)))),(10,(.one (.val (.bool w1_1))))],[]⟩) .nil)))))
    |k1=>
      try dsimp only
      have f1:(⟨[(0,(.one (.bor l0_0 (map b_i a0)))),(3,(.oi 0))],[]⟩:St)=h79_0 l0_0 a0 0 :=(by rfl)
      exact cp (by kernel_rfl) (.f (nt h0) (.f f1 (.f (ev_ (e:=ex79_0) (g:=(fin79_0 l0_0 a0)) h1 (t79_0 (l0_0:=l0_0) (a0:=a0) (by assumption) a0 []  rfl)) (.h 8 (.b false) (.h 11 (.loop (h79_0 l0_0 a0 0) .ret ⟨[(2,(.one (.val (.int .i64 1))))],[]⟩) .nil)))))
theorem lk79 {a:List Int} (h:m79 a=0):length a≤12:=by
  by_cases c:(decide (((length (map b_i a)):Int) > 12))=true
  · unfold m79 at h
    simp only[if_pos c] at h
    exact absurd h (by decide)
  · simp only[decide_eq_true_eq,length_map] at c; omega
/-! loop 60_0 -/
inductive O60_0 where
  |k0 (w0:Int) (w1:Int) (w2:Bool)
  |k1
  |k2 (w0:Int)
def r60_0 (a0:(List K_iLiE)):List K_iLiE→Int→Int→O60_0
  |x0::y0,i,v0=>
    if(!(m27 x0.f0 0 1000000))=true then(O60_0.k1) else
    if((m79 x0.f1) !=0)=true then(O60_0.k2 (m79 x0.f1)) else
      (r60_0 a0 y0 (i+1) (wrap .i64 (v0+x0.f0)))
  |[],i,v0=>(O60_0.k0 v0 i (decide (i <((length (map b_iLiE a0)):Int))))
def h60_0 (l0_0:Nat) (a0:(List K_iLiE)) (i:Int) (v0:Int):St:=⟨[(0,(.one (.bor l0_0 (map b_iLiE a0)))),(3,(.one (.val (.int .i64 v0)))),(4,(.one (.val (.int .i64 i))))],[]⟩
def ex60_0:O60_0→VX.Exit
  |.k0 _ _ _=>(.exit 0)
  |.k1=>.ret
  |.k2 _=>.ret
def fin60_0 (l0_0:Nat) (a0:(List K_iLiE)):O60_0→St
  |.k0 w0 w1 w2=>⟨[(0,(.one (.bor l0_0 (map b_iLiE a0)))),(3,(.one (.val (.int .i64 w0)))),(4,(.one (.val (.int .i64 w1)))),(9,(.one (.val (.bool w2))))],[]⟩
  |.k1=>⟨[(2,(.one (.val (.int .i64 3))))],[]⟩
  |.k2 w0=>⟨[(2,(.one (.val (.int .i64 w0))))],[]⟩
theorem t60_0 {l0_0:Nat} {a0:(List K_iLiE)} (hy0:length a0*32≤140737488351232) (hy1:∀z∈a0,ok_iLiE z):∀(y0:List K_iLiE) (p:List K_iLiE) (v0:Int),p++y0=a0→Ev F X (.code l60_0 (h60_0 l0_0 a0 (length p:Int) v0) (ex60_0 (r60_0 a0 y0 (length p:Int) v0)) (fin60_0 l0_0 a0 (r60_0 a0 y0 (length p:Int) v0)))
  |[],p,v0,hp0=>by
    have hc:¬(decide ((length p:Int) <((length (map b_iLiE a0)):Int)))=true:=by
      rw[← hp0]; simp only[length_map,length_set,length_append,length_replicate,length_cons,length_nil,decide_eq_true_eq]; omega
    have st:=ch b60_0 (h60_0 l0_0 a0 (length p:Int) v0) ⟨[(0,(.one (.bor l0_0 (map b_iLiE a0)))),(3,(.oi v0)),(4,(.oi (length p:Int))),(9,(.one (.val (.bool (decide ((length p:Int) <((length (map b_iLiE a0)):Int)))))))],[]⟩ (.exit 0) 9 (by kernel_rfl) (.f (nt hc) (.h 8 (.b false) .nil))
    rw[show (⟨[(0,(.one (.bor l0_0 (map b_iLiE a0)))),(3,(.oi v0)),(4,(.oi (length p:Int))),(9,(.one (.val (.bool (decide ((length p:Int) <((length (map b_iLiE a0)):Int)))))))],[]⟩:St)=fin60_0 l0_0 a0 (.k0 v0 (length p:Int) (decide ((length p:Int) <((length (map b_iLiE a0)):Int)))) from(by rfl)] at st
    exact .loopX st (show ((.exit 0):VX.Exit)≠.normal from by simp)
  |x0::y0,p,v0,hp0=>by
    have hc:(decide ((length p:Int) <((length (map b_iLiE a0)):Int)))=true:=by
      rw[← hp0]; simp only[length_map,length_set,length_append,length_replicate,length_cons,length_nil,decide_eq_true_eq]; omega
    have Hx0:(a0)[toNat (length p:Int)]?=some x0:=by
      rw[← hp0,Int.toNat_natCast]; simp
    have Mx0_0:=hy1 x0 (List.mem_of_getElem? Hx0)
    have hlen:length (a0)=length p+length y0+1:=by rw[← hp0]; simp; omega
    have hw:wrap .i64 ((length p:Int)+1)=(length p:Int)+1:=wrap64 (by omega)
    simp only[r60_0]
    have f1:0≤(length p:Int):=(by omega)
    have P1 {hs q} (r:PS F X hs q):=(PS.f hc (.f f1 (.f (mp_ b_iLiE Hx0) (.h 8 (.b true) (.h 14 (.row (b_iLiE x0)) (.r 20 [] [] (e78 (a0:=x0.f0)) r))))))
    by_cases h_1:(!(m27 x0.f0 0 1000000))=true
    · try simp only[if_pos h_1]
      have st:=ch b60_0 (h60_0 l0_0 a0 (length p:Int) v0) ⟨[(2,(.oi 3))],[]⟩ .ret 26 (by kernel_rfl) (P1 (.f h_1 (.h 23 (.b true) .nil)))
      rw[show (⟨[(2,(.oi 3))],[]⟩:St)=fin60_0 l0_0 a0 (.k1) from(by rfl)] at st
      exact .loopX st (show (.ret:VX.Exit)≠.normal from by simp)
    · try simp only[if_neg h_1]
      have P2 {hs q} (r:PS F X hs q):=(P1 (.f (nt h_1) (.f f1 (.f (mp_ b_iLiE Hx0) (.h 23 (.b false) (.h 29 (.row (b_iLiE x0)) (.r 35 [] [] (e79 (l0_0:=(l0_0+1)) (a0:=x0.f1) (by assumption)) r)))))))
      by_cases h_2:((m79 x0.f1) !=0)=true
      · try simp only[if_pos h_2]
        have st:=ch b60_0 (h60_0 l0_0 a0 (length p:Int) v0) ⟨[(2,(.oi (m79 x0.f1)))],[]⟩ .ret 47 (by kernel_rfl) (P2 (.f h_2 (.h 42 (.b true) .nil)))
        rw[show (⟨[(2,(.oi (m79 x0.f1)))],[]⟩:St)=fin60_0 l0_0 a0 (.k2 (m79 x0.f1)) from(by rfl)] at st
        exact .loopX st (show (.ret:VX.Exit)≠.normal from by simp)
      · try simp only[if_neg h_2]
        have st:=ch b60_0 (h60_0 l0_0 a0 (length p:Int) v0) ⟨[(0,(.one (.bor l0_0 (map b_iLiE a0)))),(3,(.oi (wrap .i64 (v0+x0.f0)))),(4,(.oi (wrap .i64 ((length p:Int)+1))))],[]⟩ .normal 65 (by kernel_rfl) (P2 (.f (nt h_2) (.f f1 (.f (mp_ b_iLiE Hx0) (.f trivial (.f trivial (.h 42 (.b false) (.h 50 (.row (b_iLiE x0)) .nil))))))))
        have ih:=t60_0 (l0_0:=l0_0) (a0:=a0) hy0 hy1 y0 (p++ [x0]) (wrap .i64 (v0+x0.f0)) (by rw[append_assoc]; exact hp0)
        rw[show ((p++ [x0]).length:Int)=(p.length:Int)+1 from by simp] at ih
        rw[show (⟨[(0,(.one (.bor l0_0 (map b_iLiE a0)))),(3,(.oi (wrap .i64 (v0+x0.f0)))),(4,(.oi (wrap .i64 ((length p:Int)+1))))],[]⟩:St)=h60_0 l0_0 a0 ((length p:Int)+1) (wrap .i64 (v0+x0.f0)) from(by unfold h60_0; simp only[hw]; done)] at st
        exact .loopN st ih
theorem lo60 {a:List K_iLiE}:∀ {l:List K_iLiE} {i v w:Int} {j b},r60_0 a l i v=.k0 w j b→∀x∈l,m79 x.f1=0
  |[],i,v,w,j,b,h,x,hx=>by cases hx
  |y::l,i,v,w,j,b,h,x,hx=>by
    simp only[r60_0] at h
    split at h
    · cases h
    · split at h
      · cases h
      · rename_i h1
        rcases List.mem_cons.1 hx with rfl | hx
        · simpa using h1
        · exact lo60 h x hx
theorem ne60 {a:List K_iLiE}:∀(l:List K_iLiE) (i v:Int),r60_0 a l i v≠.k2 0
  |[],i,v=>by simp only[r60_0]; intro h; cases h
  |y::l,i,v=>by
    simp only[r60_0]
    split
    · intro q; cases q
    · split
      · rename_i h; intro q; injection q with q; rw[q] at h; exact absurd h (by decide)
      · exact ne60 l _ _
/-! loop.example/g00539/spec.l3Outs -/
def m60 (a0:(List K_iLiE)):Int:=
  (match r60_0 a0 a0 0 0 with | .k0 w0_0 w1_0 w2_0=>(if(!(m27 w0_0 0 1000000))=true then 7 else 0) | .k1=>3 | .k2 w0_0=>w0_0)
theorem e60 {l0_0:Nat} {a0:(List K_iLiE)} (hy0:length a0*32≤140737488351232) (hy1:∀z∈a0,ok_iLiE z):Ev F X (.call 60 [(.one (.bor l0_0 (map b_iLiE a0)))] [] [] [(.one (.val (.int .i64 (m60 a0))))]):=by
  unfold m60
  cases h0:r60_0 a0 a0 0 0 with
  |k0 w0_0 w1_0 w2_0=>
    try dsimp only
    have f0:(⟨[(0,(.one (.bor l0_0 (map b_iLiE a0)))),(3,(.oi 0)),(4,(.oi 0))],[]⟩:St)=h60_0 l0_0 a0 0 0:=(by rfl)
    have P1 {hs q} (r:PS F X hs q):=(PS.f f0 (.f (ev_ (e:=ex60_0) (g:=(fin60_0 l0_0 a0)) h0 (t60_0 (l0_0:=l0_0) (a0:=a0) (by assumption) (by assumption) a0 [] 0 rfl)) (.h 6 (.loop (h60_0 l0_0 a0 0 0) (.exit 0) ⟨[(0,(.one (.bor l0_0 (map b_iLiE a0)))),(3,(.one (.val (.int .i64 w0_0)))),(4,(.one (.val (.int .i64 w1_0)))),(9,(.one (.val (.bool w2_0))))],[]⟩) (.r 10 [] [] (e78 (a0:=w0_0)) r))))
    by_cases h1:(!(m27 w0_0 0 1000000))=true
    · try simp only[if_pos h1]
      exact cp (by kernel_rfl) (P1 (.f h1 (.h 13 (.b true) .nil)))
    · try simp only[if_neg h1]
      exact cp (by kernel_rfl) (P1 (.f (nt h1) (.h 13 (.b false) .nil)))
  |k1=>
    try dsimp only
    have f0:(⟨[(0,(.one (.bor l0_0 (map b_iLiE a0)))),(3,(.oi 0)),(4,(.oi 0))],[]⟩:St)=h60_0 l0_0 a0 0 0:=(by rfl)
    exact cp (by kernel_rfl) (.f f0 (.f (ev_ (e:=ex60_0) (g:=(fin60_0 l0_0 a0)) h0 (t60_0 (l0_0:=l0_0) (a0:=a0) (by assumption) (by assumption) a0 [] 0 rfl)) (.h 6 (.loop (h60_0 l0_0 a0 0 0) .ret ⟨[(2,(.one (.val (.int .i64 3))))],[]⟩) .nil)))
  |k2 w0_0=>
    try dsimp only
    have f0:(⟨[(0,(.one (.bor l0_0 (map b_iLiE a0)))),(3,(.oi 0)),(4,(.oi 0))],[]⟩:St)=h60_0 l0_0 a0 0 0:=(by rfl)
    exact cp (by kernel_rfl) (.f f0 (.f (ev_ (e:=ex60_0) (g:=(fin60_0 l0_0 a0)) h0 (t60_0 (l0_0:=l0_0) (a0:=a0) (by assumption) (by assumption) a0 [] 0 rfl)) (.h 6 (.loop (h60_0 l0_0 a0 0 0) .ret ⟨[(2,(.one (.val (.int .i64 w0_0))))],[]⟩) .nil)))
/-! loop 41_0 -/
inductive O41_0 where
  |k0 (w0:Int) (w1:Bool)
  |k1 (w0:Int)
def r41_0 (a0:K_iLiiLiEELiLiEE):List K_iiLiE→Int→O41_0
  |x0::y0,i=>
    if((m59 a0.f1 i) !=0)=true then(O41_0.k1 (m59 a0.f1 i)) else
    (r41_0 a0 y0 (i+1))
  |[],i=>(O41_0.k0 i (decide (i <((length (map b_iiLiE a0.f1)):Int))))
def h41_0 (l0:Nat) (a0:K_iLiiLiEELiLiEE) (i:Int) :St:=⟨[(0,(.bptr l0 (b_iLiiLiEELiLiEE a0))),(3,(.one (.val (.int .i64 i))))],[]⟩
def ex41_0:O41_0→VX.Exit
  |.k0 _ _=>(.exit 0)
  |.k1 _=>.ret
def fin41_0 (l0:Nat) (a0:K_iLiiLiEELiLiEE):O41_0→St
  |.k0 w0 w1=>⟨[(0,(.bptr l0 (b_iLiiLiEELiLiEE a0))),(3,(.one (.val (.int .i64 w0)))),(39,(.one (.val (.bool w1))))],[]⟩
  |.k1 w0=>⟨[(2,(.one (.val (.int .i64 w0))))],[]⟩
theorem t41_0 {l0:Nat} {a0:K_iLiiLiEELiLiEE} (hy0:length a0.f1*40≤140737488351232) (hy1:∀z∈a0.f1,ok_iiLiE z) (hy2:length a0.f2*32≤140737488351232) (hy3:∀z∈a0.f2,ok_iLiE z):∀(y0:List K_iiLiE) (p:List K_iiLiE),p++y0=a0.f1→Ev F X (.code l41_0 (h41_0 l0 a0 (length p:Int)) (ex41_0 (r41_0 a0 y0 (length p:Int))) (fin41_0 l0 a0 (r41_0 a0 y0 (length p:Int))))
  |[],p,hp0=>by
    have hc:¬(decide ((length p:Int) <((length (map b_iiLiE a0.f1)):Int)))=true:=by
      rw[← hp0]; simp only[length_map,length_set,length_append,length_replicate,length_cons,length_nil,decide_eq_true_eq]; omega
    have st:=ch b41_0 (h41_0 l0 a0 (length p:Int)) ⟨[(0,(.bptr l0 (b_iLiiLiEELiLiEE a0))),(3,(.oi (length p:Int))),(39,(.one (.val (.bool (decide ((length p:Int) <((length (map b_iiLiE a0.f1)):Int)))))))],[]⟩ (.exit 0) 15 (by kernel_rfl) (.f (nt hc) (.h 14 (.b false) .nil))
    rw[show (⟨[(0,(.bptr l0 (b_iLiiLiEELiLiEE a0))),(3,(.oi (length p:Int))),(39,(.one (.val (.bool (decide ((length p:Int) <((length (map b_iiLiE a0.f1)):Int)))))))],[]⟩:St)=fin41_0 l0 a0 (.k0 (length p:Int) (decide ((length p:Int) <((length (map b_iiLiE a0.f1)):Int)))) from(by rfl)] at st
    exact .loopX st (show ((.exit 0):VX.Exit)≠.normal from by simp)
  |x0::y0,p,hp0=>by
    have hc:(decide ((length p:Int) <((length (map b_iiLiE a0.f1)):Int)))=true:=by
      rw[← hp0]; simp only[length_map,length_set,length_append,length_replicate,length_cons,length_nil,decide_eq_true_eq]; omega
    have Hx0:(a0.f1)[toNat (length p:Int)]?=some x0:=by
      rw[← hp0,Int.toNat_natCast]; simp
    have Mx0_0:=hy1 x0 (List.mem_of_getElem? Hx0)
    have hlen:length (a0.f1)=length p+length y0+1:=by rw[← hp0]; simp; omega
    have hw:wrap .i64 ((length p:Int)+1)=(length p:Int)+1:=wrap64 (by omega)
    simp only[r41_0]
    have P1 {hs q} (r:PS F X hs q):=(PS.f hc (.h 14 (.b true) (.r 26 [] [] (e59 (l0_0:=(l0+1)) (a0:=a0.f1) (a1:=(length p:Int)) ‹_› ‹_› (by omega) (by omega)) r)))
    by_cases h_1:((m59 a0.f1 (length p:Int)) !=0)=true
    · try simp only[if_pos h_1]
      have st:=ch b41_0 (h41_0 l0 a0 (length p:Int)) ⟨[(2,(.oi (m59 a0.f1 (length p:Int))))],[]⟩ .ret 38 (by kernel_rfl) (P1 (.f h_1 (.h 33 (.b true) .nil)))
      rw[show (⟨[(2,(.oi (m59 a0.f1 (length p:Int))))],[]⟩:St)=fin41_0 l0 a0 (.k1 (m59 a0.f1 (length p:Int))) from(by rfl)] at st
      exact .loopX st (show (.ret:VX.Exit)≠.normal from by simp)
    · try simp only[if_neg h_1]
      have st:=ch b41_0 (h41_0 l0 a0 (length p:Int)) ⟨[(0,(.bptr l0 (b_iLiiLiEELiLiEE a0))),(3,(.oi (wrap .i64 ((length p:Int)+1))))],[]⟩ .normal 40 (by kernel_rfl) (P1 (.f (nt h_1) (.f trivial (.h 33 (.b false) .nil))))
      have ih:=t41_0 (l0:=l0) (a0:=a0) hy0 hy1 hy2 hy3 y0 (p++ [x0]) (by rw[append_assoc]; exact hp0)
      rw[show ((p++ [x0]).length:Int)=(p.length:Int)+1 from by simp] at ih
      rw[show (⟨[(0,(.bptr l0 (b_iLiiLiEELiLiEE a0))),(3,(.oi (wrap .i64 ((length p:Int)+1))))],[]⟩:St)=h41_0 l0 a0 ((length p:Int)+1)  from(by unfold h41_0; simp only[hw]; done)] at st
      exact .loopN st ih
theorem lf41 {a:K_iLiiLiEELiLiEE}:∀ {l:List K_iiLiE} {i:Int} {j b},r41_0 a l i=.k0 j b→∀k:Nat,k < l.length→m59 a.f1 (i+(k:Int))=0
  |[],i,j,b,h,k,hk=>by simp at hk
  |y::l,i,j,b,h,k,hk=>by
    simp only[r41_0] at h
    split at h
    · cases h
    · rename_i h1
      cases k with
      |zero=>simpa using h1
      |succ k=>
        have q:=lf41 h k (by simpa using hk)
        rw[← q]; congr 1; omega
theorem ne41 {a:K_iLiiLiEELiLiEE}:∀(l:List K_iiLiE) (i:Int),r41_0 a l i≠.k1 0
  |[],i=>by simp only[r41_0]; intro h; cases h
  |y::l,i=>by
    simp only[r41_0]
    split
    · rename_i h; intro q; injection q with q; rw[q] at h; exact absurd h (by decide)
    · exact ne41 l _
/-! loop.example/g00539/spec.l3Fault -/
def m41 (a0:K_iLiiLiEELiLiEE):Int:=
  if(!(m27 a0.f0 0 65535))=true then 3 else
  if(decide (((length (map b_iiLiE a0.f1)):Int) > 4))=true then 2 else
    if(decide (((length (map b_iLiE a0.f2)):Int) < 1))=true then 2 else
      if(decide (((length (map b_iLiE a0.f2)):Int) > 4))=true then 2 else
        (match r41_0 a0 a0.f1 0 with | .k0 w0_17 w1_17=>(m60 a0.f2) | .k1 w0_17=>w0_17)
theorem e41 {l0:Nat} {a0:K_iLiiLiEELiLiEE} (hy0:length a0.f1*40≤140737488351232) (hy1:∀z∈a0.f1,ok_iiLiE z) (hy2:length a0.f2*32≤140737488351232) (hy3:∀z∈a0.f2,ok_iLiE z):Ev F X (.call 41 [(.bptr l0 (b_iLiiLiEELiLiEE a0))] [] [] [(.one (.val (.int .i64 (m41 a0))))]):=by
  unfold m41
  have P0 {hs q} (r:PS F X hs q):=(PS.r 11 [] [] (e27 (a0:=a0.f0) (a1:=0) (a2:=65535)) r)
  by_cases h0:(!(m27 a0.f0 0 65535))=true
  · try simp only[if_pos h0]
    exact cp (by kernel_rfl) (P0 (.f h0 (.h 14 (.b true) .nil)))
  · try simp only[if_neg h0]
    have P1 {hs q} (r:PS F X hs q):=(P0 (.f (nt h0) (.h 14 (.b false) r)))
    by_cases h1:(decide (((length (map b_iiLiE a0.f1)):Int) > 4))=true
    · try simp only[if_pos h1]
      exact cp (by kernel_rfl) (P1 (.f h1 (.f h1 (.f h1 (.f h1 (.f h1 (.f h1 (.f h1 (.h 29 (.b true) (.h 31 (.b true) (.h 33 (.b true) (.h 35 (.b true) (.h 37 (.b true) (.h 39 (.b true) (.h 42 (.b true) .nil)))))))))))))))
    · try simp only[if_neg h1]
      have P2 {hs q} (r:PS F X hs q):=(P1 (.f (nt h1) (.f (nt h1) (.f (nt h1) (.f (nt h1) (.f (nt h1) (.f (nt h1) (.f (nt h1) (.h 29 (.b false) (.h 31 (.b false) (.h 33 (.b false) (.h 35 (.b false) (.h 37 (.b false) (.h 39 (.b false) (.h 42 (.b false) r)))))))))))))))
      by_cases h2:(decide (((length (map b_iLiE a0.f2)):Int) < 1))=true
      · try simp only[if_pos h2]
        exact cp (by kernel_rfl) (P2 (.f h2 (.f h2 (.f h2 (.f h2 (.f h2 (.f h2 (.f h2 (.h 45 (.b true) (.h 47 (.b true) (.h 49 (.b true) (.h 51 (.b true) (.h 53 (.b true) (.h 55 (.b true) (.h 58 (.b true) .nil)))))))))))))))
      · try simp only[if_neg h2]
        have P3 {hs q} (r:PS F X hs q):=(P2 (.f (nt h2) (.f (nt h2) (.f (nt h2) (.f (nt h2) (.f (nt h2) (.f (nt h2) (.f (nt h2) (.h 45 (.b false) (.h 47 (.b false) (.h 49 (.b false) (.h 51 (.b false) (.h 53 (.b false) (.h 55 (.b false) (.h 58 (.b false) r)))))))))))))))
        by_cases h3:(decide (((length (map b_iLiE a0.f2)):Int) > 4))=true
        · try simp only[if_pos h3]
          exact cp (by kernel_rfl) (P3 (.f h3 (.h 59 (.b true) .nil)))
        · try simp only[if_neg h3]
          cases h4:r41_0 a0 a0.f1 0 with
          |k0 w0_17 w1_17=>
            try dsimp only
            have f17:(⟨[(0,(.bptr l0 (b_iLiiLiEELiLiEE a0))),(3,(.oi 0))],[]⟩:St)=h41_0 l0 a0 0 :=(by rfl)
            exact cp (by kernel_rfl) (P3 (.f (nt h3) (.f f17 (.f (ev_ (e:=ex41_0) (g:=(fin41_0 l0 a0)) h4 (t41_0 (l0:=l0) (a0:=a0) (by assumption) (by assumption) (by assumption) (by assumption) a0.f1 []  rfl)) (.h 59 (.b false) (.h 62 (.loop (h41_0 l0 a0 0) (.exit 0) ⟨[(0,(.bptr l0 (b_iLiiLiEELiLiEE a0))),(3,(.one (.val (.int .i64 w0_17)))),(39,(.one (.val (.bool w1_17))))],[]⟩) (.r 72 [] [] (e60 (l0_0:=(l0+1)) (a0:=a0.f2) ‹_› ‹_›) .nil)))))))
          |k1 w0_17=>
            try dsimp only
            have f17:(⟨[(0,(.bptr l0 (b_iLiiLiEELiLiEE a0))),(3,(.oi 0))],[]⟩:St)=h41_0 l0 a0 0 :=(by rfl)
            exact cp (by kernel_rfl) (P3 (.f (nt h3) (.f f17 (.f (ev_ (e:=ex41_0) (g:=(fin41_0 l0 a0)) h4 (t41_0 (l0:=l0) (a0:=a0) (by assumption) (by assumption) (by assumption) (by assumption) a0.f1 []  rfl)) (.h 59 (.b false) (.h 62 (.loop (h41_0 l0 a0 0) .ret ⟨[(2,(.one (.val (.int .i64 w0_17))))],[]⟩) .nil))))))
theorem ft41 {a:K_iLiiLiEELiLiEE} (h:m41 a=0):SmT a:=by
  unfold m41 at h
  split at h
  · exact absurd h (by decide)
  · split at h
    · exact absurd h (by decide)
    · split at h
      · exact absurd h (by decide)
      · split at h
        · exact absurd h (by decide)
        · rename_i c1 c2 c3 c4
          simp only[decide_eq_true_eq,length_map] at c2 c4
          cases hr:r41_0 a a.f1 0 with
          |k1 w=>rw[hr] at h; simp only[] at h; subst h; exact absurd hr (ne41 _ _)
          |k0 j b=>
            rw[hr] at h; simp only[] at h
            refine⟨by omega,fun x hx=>?_,by omega,?_⟩
            · obtain⟨k,hk,e⟩:=List.getElem_of_mem hx
              have q:=inl59 (lf41 hr k hk)
              rw[show toNat (0+(k:Int))=k from by omega,getD,List.getElem?_eq_getElem hk,Option.getD_some,e] at q
              exact q
            · unfold m60 at h
              cases ho:r60_0 a.f2 a.f2 0 0 with
              |k0 w j b=>exact fun x hx=>lk79 (lo60 ho x hx)
              |k1=>rw[ho] at h; exact absurd h (by decide)
              |k2 w=>rw[ho] at h; simp only[] at h; subst h; exact absurd ho (ne60 _ _ _)
/-! loop 42_0 -/
inductive O42_0 where
  |k0 (w0:Int) (w1:Bool)
  |k1
def r42_0 (a0:K_iiiiLiLiiLiEELiLiEEE):List K_iLiiLiEELiLiEE→Int→O42_0
  |x0::y0,i=>
    if(!((((length (map b_iiLiE x0.f1)):Int)==0)==(i==0)))=true then(O42_0.k1) else
    (r42_0 a0 y0 (i+1))
  |[],i=>(O42_0.k0 i (decide (i <((length (map b_iLiiLiEELiLiEE a0.f4)):Int))))
def h42_0 (l0:Nat) (a0:K_iiiiLiLiiLiEELiLiEEE) (i:Int) :St:=⟨[(0,(.bptr l0 (b_iiiiLiLiiLiEELiLiEEE a0))),(3,(.one (.val (.int .i64 i))))],[]⟩
def ex42_0:O42_0→VX.Exit
  |.k0 _ _=>(.exit 0)
  |.k1=>.ret
def fin42_0 (l0:Nat) (a0:K_iiiiLiLiiLiEELiLiEEE):O42_0→St
  |.k0 w0 w1=>⟨[(0,(.bptr l0 (b_iiiiLiLiiLiEELiLiEEE a0))),(3,(.one (.val (.int .i64 w0)))),(10,(.one (.val (.bool w1))))],[]⟩
  |.k1=>⟨[(2,(.one (.val (.bool false))))],[]⟩
theorem t42_0 {l0:Nat} {a0:K_iiiiLiLiiLiEELiLiEEE} (hy0:length a0.f4*56≤140737488351232) (hy1:∀z∈a0.f4,ok_iLiiLiEELiLiEE z):∀(y0:List K_iLiiLiEELiLiEE) (p:List K_iLiiLiEELiLiEE),p++y0=a0.f4→Ev F X (.code l42_0 (h42_0 l0 a0 (length p:Int)) (ex42_0 (r42_0 a0 y0 (length p:Int))) (fin42_0 l0 a0 (r42_0 a0 y0 (length p:Int))))
  |[],p,hp0=>by
    have hc:¬(decide ((length p:Int) <((length (map b_iLiiLiEELiLiEE a0.f4)):Int)))=true:=by
      rw[← hp0]; simp only[length_map,length_set,length_append,length_replicate,length_cons,length_nil,decide_eq_true_eq]; omega
    have st:=ch b42_0 (h42_0 l0 a0 (length p:Int)) ⟨[(0,(.bptr l0 (b_iiiiLiLiiLiEELiLiEEE a0))),(3,(.oi (length p:Int))),(10,(.one (.val (.bool (decide ((length p:Int) <((length (map b_iLiiLiEELiLiEE a0.f4)):Int)))))))],[]⟩ (.exit 0) 15 (by kernel_rfl) (.f (nt hc) (.h 14 (.b false) .nil))
    rw[show (⟨[(0,(.bptr l0 (b_iiiiLiLiiLiEELiLiEEE a0))),(3,(.oi (length p:Int))),(10,(.one (.val (.bool (decide ((length p:Int) <((length (map b_iLiiLiEELiLiEE a0.f4)):Int)))))))],[]⟩:St)=fin42_0 l0 a0 (.k0 (length p:Int) (decide ((length p:Int) <((length (map b_iLiiLiEELiLiEE a0.f4)):Int)))) from(by rfl)] at st
    exact .loopX st (show ((.exit 0):VX.Exit)≠.normal from by simp)
  |x0::y0,p,hp0=>by
    have hc:(decide ((length p:Int) <((length (map b_iLiiLiEELiLiEE a0.f4)):Int)))=true:=by
      rw[← hp0]; simp only[length_map,length_set,length_append,length_replicate,length_cons,length_nil,decide_eq_true_eq]; omega
    have Hx0:(a0.f4)[toNat (length p:Int)]?=some x0:=by
      rw[← hp0,Int.toNat_natCast]; simp
    obtain⟨Mx0_0,Mx0_1,Mx0_2,Mx0_3⟩:=hy1 x0 (List.mem_of_getElem? Hx0)
    have hlen:length (a0.f4)=length p+length y0+1:=by rw[← hp0]; simp; omega
    have hw:wrap .i64 ((length p:Int)+1)=(length p:Int)+1:=wrap64 (by omega)
    simp only[r42_0]
    have f1:0≤(length p:Int):=(by omega)
    have P1 {hs q} (r:PS F X hs q):=(PS.f hc (.f f1 (.f (mp_ b_iLiiLiEELiLiEE Hx0) (.h 14 (.b true) (.h 26 (.row (b_iLiiLiEELiLiEE x0)) r)))))
    by_cases h_1:(!((((length (map b_iiLiE x0.f1)):Int)==0)==((length p:Int)==0)))=true
    · try simp only[if_pos h_1]
      have st:=ch b42_0 (h42_0 l0 a0 (length p:Int)) ⟨[(2,(.one (.val (.bool false))))],[]⟩ .ret 44 (by kernel_rfl) (P1 (.f h_1 (.h 41 (.b true) .nil)))
      rw[show (⟨[(2,(.one (.val (.bool false))))],[]⟩:St)=fin42_0 l0 a0 (.k1) from(by rfl)] at st
      exact .loopX st (show (.ret:VX.Exit)≠.normal from by simp)
    · try simp only[if_neg h_1]
      have st:=ch b42_0 (h42_0 l0 a0 (length p:Int)) ⟨[(0,(.bptr l0 (b_iiiiLiLiiLiEELiLiEEE a0))),(3,(.oi (wrap .i64 ((length p:Int)+1))))],[]⟩ .normal 48 (by kernel_rfl) (P1 (.f (nt h_1) (.f trivial (.h 41 (.b false) .nil))))
      have ih:=t42_0 (l0:=l0) (a0:=a0) hy0 hy1 y0 (p++ [x0]) (by rw[append_assoc]; exact hp0)
      rw[show ((p++ [x0]).length:Int)=(p.length:Int)+1 from by simp] at ih
      rw[show (⟨[(0,(.bptr l0 (b_iiiiLiLiiLiEELiLiEEE a0))),(3,(.oi (wrap .i64 ((length p:Int)+1))))],[]⟩:St)=h42_0 l0 a0 ((length p:Int)+1)  from(by unfold h42_0; simp only[hw]; done)] at st
      exact .loopN st ih
/-! loop.example/g00539/spec.l6Bases -/
def m42 (a0:K_iiiiLiLiiLiEELiLiEEE):Bool:=
  (match r42_0 a0 a0.f4 0 with | .k0 w0_0 w1_0=>true | .k1=>false)
theorem e42 {l0:Nat} {a0:K_iiiiLiLiiLiEELiLiEEE} (hy0:length a0.f4*56≤140737488351232) (hy1:∀z∈a0.f4,ok_iLiiLiEELiLiEE z):Ev F X (.call 42 [(.bptr l0 (b_iiiiLiLiiLiEELiLiEEE a0))] [] [] [(.one (.val (.bool (m42 a0))))]):=by
  unfold m42
  cases h0:r42_0 a0 a0.f4 0 with
  |k0 w0_0 w1_0=>
    try dsimp only
    have f0:(⟨[(0,(.bptr l0 (b_iiiiLiLiiLiEELiLiEEE a0))),(3,(.oi 0))],[]⟩:St)=h42_0 l0 a0 0 :=(by rfl)
    exact cp (by kernel_rfl) (.f f0 (.f (ev_ (e:=ex42_0) (g:=(fin42_0 l0 a0)) h0 (t42_0 (l0:=l0) (a0:=a0) (by assumption) (by assumption) a0.f4 []  rfl)) (.h 4 (.loop (h42_0 l0 a0 0) (.exit 0) ⟨[(0,(.bptr l0 (b_iiiiLiLiiLiEELiLiEEE a0))),(3,(.one (.val (.int .i64 w0_0)))),(10,(.one (.val (.bool w1_0))))],[]⟩) .nil)))
  |k1=>
    try dsimp only
    have f0:(⟨[(0,(.bptr l0 (b_iiiiLiLiiLiEELiLiEEE a0))),(3,(.oi 0))],[]⟩:St)=h42_0 l0 a0 0 :=(by rfl)
    exact cp (by kernel_rfl) (.f f0 (.f (ev_ (e:=ex42_0) (g:=(fin42_0 l0 a0)) h0 (t42_0 (l0:=l0) (a0:=a0) (by assumption) (by assumption) a0.f4 []  rfl)) (.h 4 (.loop (h42_0 l0 a0 0) .ret ⟨[(2,(.one (.val (.bool false))))],[]⟩) .nil)))
/-! loop 82_0 -/
inductive O82_0 where
  |k0 (w0:Int) (w1:Int) (w2:Bool)
def r82_0 (a0:(List Int)):List Int→Int→Int→O82_0
  |x0::y0,i,v0=>
    (r82_0 a0 y0 (i+1) (Int.tmod (wrap .i64 ((wrap .i64 ((wrap .i64 (v0*33))+(wrap .i64 (x0))))+1)) 2147483647))
  |[],i,v0=>(O82_0.k0 v0 i (decide (i <((length (map b_y a0)):Int))))
def h82_0 (l0_0:Nat) (a0:(List Int)) (i:Int) (v0:Int):St:=⟨[(0,(.one (.bor l0_0 (map b_y a0)))),(3,(.one (.val (.int .i64 v0)))),(4,(.one (.val (.int .i64 i))))],[]⟩
def ex82_0:O82_0→VX.Exit
  |.k0 _ _ _=>(.exit 0)
def fin82_0 (l0_0:Nat) (a0:(List Int)):O82_0→St
  |.k0 w0 w1 w2=>⟨[(0,(.one (.bor l0_0 (map b_y a0)))),(3,(.one (.val (.int .i64 w0)))),(4,(.one (.val (.int .i64 w1)))),(8,(.one (.val (.bool w2))))],[]⟩
theorem t82_0 {l0_0:Nat} {a0:(List Int)} (hy0:length a0*1≤140737488351232):∀(y0:List Int) (p:List Int) (v0:Int),p++y0=a0→Ev F X (.code l82_0 (h82_0 l0_0 a0 (length p:Int) v0) (ex82_0 (r82_0 a0 y0 (length p:Int) v0)) (fin82_0 l0_0 a0 (r82_0 a0 y0 (length p:Int) v0)))
  |[],p,v0,hp0=>by
    have hc:¬(decide ((length p:Int) <((length (map b_y a0)):Int)))=true:=by
      rw[← hp0]; simp only[length_map,length_set,length_append,length_replicate,length_cons,length_nil,decide_eq_true_eq]; omega
    have st:=ch b82_0 (h82_0 l0_0 a0 (length p:Int) v0) ⟨[(0,(.one (.bor l0_0 (map b_y a0)))),(3,(.oi v0)),(4,(.oi (length p:Int))),(8,(.one (.val (.bool (decide ((length p:Int) <((length (map b_y a0)):Int)))))))],[]⟩ (.exit 0) 9 (by kernel_rfl) (.f (nt hc) (.h 8 (.b false) .nil))
    rw[show (⟨[(0,(.one (.bor l0_0 (map b_y a0)))),(3,(.oi v0)),(4,(.oi (length p:Int))),(8,(.one (.val (.bool (decide ((length p:Int) <((length (map b_y a0)):Int)))))))],[]⟩:St)=fin82_0 l0_0 a0 (.k0 v0 (length p:Int) (decide ((length p:Int) <((length (map b_y a0)):Int)))) from(by rfl)] at st
    exact .loopX st (show ((.exit 0):VX.Exit)≠.normal from by simp)
  |x0::y0,p,v0,hp0=>by
    have hc:(decide ((length p:Int) <((length (map b_y a0)):Int)))=true:=by
      rw[← hp0]; simp only[length_map,length_set,length_append,length_replicate,length_cons,length_nil,decide_eq_true_eq]; omega
    have Hx0:(a0)[toNat (length p:Int)]?=some x0:=by
      rw[← hp0,Int.toNat_natCast]; simp
    have hlen:length (a0)=length p+length y0+1:=by rw[← hp0]; simp; omega
    have hw:wrap .i64 ((length p:Int)+1)=(length p:Int)+1:=wrap64 (by omega)
    simp only[r82_0]
    have f1:0≤(length p:Int):=(by omega)
    have f5:(2147483647:Int)≠0:=(by omega)
    have st:=ch b82_0 (h82_0 l0_0 a0 (length p:Int) v0) ⟨[(0,(.one (.bor l0_0 (map b_y a0)))),(3,(.oi (Int.tmod (wrap .i64 ((wrap .i64 ((wrap .i64 (v0*33))+(wrap .i64 (x0))))+1)) 2147483647))),(4,(.oi (wrap .i64 ((length p:Int)+1))))],[]⟩ .normal 37 (by kernel_rfl) (.f hc (.f f1 (.f (mp_ b_y Hx0) (.f trivial (.f trivial (.f f5 (.f trivial (.h 8 (.b true) (.h 18 (.row [(.val (.int .u8 x0))]) .nil)))))))))
    have ih:=t82_0 (l0_0:=l0_0) (a0:=a0) hy0 y0 (p++ [x0]) (Int.tmod (wrap .i64 ((wrap .i64 ((wrap .i64 (v0*33))+(wrap .i64 (x0))))+1)) 2147483647) (by rw[append_assoc]; exact hp0)
    rw[show ((p++ [x0]).length:Int)=(p.length:Int)+1 from by simp] at ih
    rw[show (⟨[(0,(.one (.bor l0_0 (map b_y a0)))),(3,(.oi (Int.tmod (wrap .i64 ((wrap .i64 ((wrap .i64 (v0*33))+(wrap .i64 (x0))))+1)) 2147483647))),(4,(.oi (wrap .i64 ((length p:Int)+1))))],[]⟩:St)=h82_0 l0_0 a0 ((length p:Int)+1) (Int.tmod (wrap .i64 ((wrap .i64 ((wrap .i64 (v0*33))+(wrap .i64 (x0))))+1)) 2147483647) from(by unfold h82_0; simp only[hw]; done)] at st
    exact .loopN st ih
/-! loop.example/g00539/spec.l1Sum -/
def m82 (a0:(List Int)):Int:=
  (match r82_0 a0 a0 0 5381 with | .k0 w0_0 w1_0 w2_0=>w0_0)
theorem e82 {l0_0:Nat} {a0:(List Int)} (hy0:length a0*1≤140737488351232):Ev F X (.call 82 [(.one (.bor l0_0 (map b_y a0)))] [] [] [(.one (.val (.int .i64 (m82 a0))))]):=by
  unfold m82
  cases h0:r82_0 a0 a0 0 5381 with
  |k0 w0_0 w1_0 w2_0=>
    try dsimp only
    have f0:(⟨[(0,(.one (.bor l0_0 (map b_y a0)))),(3,(.oi 5381)),(4,(.oi 0))],[]⟩:St)=h82_0 l0_0 a0 0 5381:=(by rfl)
    exact cp (by kernel_rfl) (.f f0 (.f (ev_ (e:=ex82_0) (g:=(fin82_0 l0_0 a0)) h0 (t82_0 (l0_0:=l0_0) (a0:=a0) (by assumption) a0 [] 5381 rfl)) (.h 6 (.loop (h82_0 l0_0 a0 0 5381) (.exit 0) ⟨[(0,(.one (.bor l0_0 (map b_y a0)))),(3,(.one (.val (.int .i64 w0_0)))),(4,(.one (.val (.int .i64 w1_0)))),(8,(.one (.val (.bool w2_0))))],[]⟩) .nil)))
/-! loop.example/g00539/spec.l1Four -/
def m97 (a0:Int):(List Int):=
  [(wrap .u8 ((Int.fdiv a0 (2 ^(min (toNat 24) (IntKind.bits .i64)))))),(wrap .u8 ((Int.fdiv a0 (2 ^(min (toNat 16) (IntKind.bits .i64)))))),(wrap .u8 ((Int.fdiv a0 (2 ^(min (toNat 8) (IntKind.bits .i64)))))),(wrap .u8 (a0))]
theorem e97 {a0:Int}:Ev F X (.call 97 [(.one (.val (.int .i64 a0)))] [] [] [(.one (.own 1 (map d_y (m97 a0))))]):=by
  have f0:0≤(24:Int):=(by omega)
  have f1:0≤(16:Int):=(by omega)
  have f2:0≤(8:Int):=(by omega)
  have f5:pureR [[(.val (.int .u8 (wrap .u8 ((Int.fdiv a0 (2 ^(min (toNat 24) (IntKind.bits .i64))))))))],[(.val (.int .u8 (wrap .u8 ((Int.fdiv a0 (2 ^(min (toNat 16) (IntKind.bits .i64))))))))],[(.val (.int .u8 (wrap .u8 ((Int.fdiv a0 (2 ^(min (toNat 8) (IntKind.bits .i64))))))))],[(.val (.int .u8 (wrap .u8 (a0))))]]=true:=(by simp only[List.drop_zero,tbr,tsi,ly_y,ly0_y,← List.map_append,List.take_length,List.cons_append,List.nil_append,append_assoc,toBR_y,fullR_y,pureR_y,copy_y,ints_y]; done)
  exact cp (by kernel_rfl) (.f f0 (.f f1 (.f f2 (pe 0 (pe 4 (.f f5 .nil))))))
theorem four_len (a:Int):length (m97 a)=4:=rfl
/-! loop 91_0 -/
inductive O91_0 where
  |k0 (w0:List Int) (w1:Int) (w2:Bool)
def r91_0 (a0:(List Int)):List Int→Int→List Int→O91_0
  |x0::y0,i,v0=>
    (r91_0 a0 y0 (i+1) (v0++(m97 x0)))
  |[],i,v0=>(O91_0.k0 v0 i (decide (i <((length (map b_i a0)):Int))))
def h91_0 (l0_0:Nat) (a0:(List Int)) (i:Int) (v0:List Int):St:=⟨[(0,(.one (.bor l0_0 (map b_i a0)))),(3,(.one (.ref ⟨(3,0,0),[],0,(length (map d_y v0))⟩))),(4,(.one (.val (.int .i64 i))))],[((3,0,0),.live ⟨1,(map d_y v0),[]⟩)]⟩
def ex91_0:O91_0→VX.Exit
  |.k0 _ _ _=>(.exit 0)
def fin91_0 (l0_0:Nat) (a0:(List Int)):O91_0→St
  |.k0 w0 w1 w2=>⟨[(0,(.one (.bor l0_0 (map b_i a0)))),(3,(.one (.ref ⟨(3,0,0),[],0,(length (map d_y w0))⟩))),(4,(.one (.val (.int .i64 w1)))),(9,(.one (.val (.bool w2))))],[((3,0,0),.live ⟨1,(map d_y w0),[]⟩)]⟩
theorem t91_0 {l0_0:Nat} {a0:(List Int)} (hy0:length a0≤1000):∀(y0:List Int) (p:List Int) (v0:List Int),p++y0=a0→length v0+4*length y0≤4000→Ev F X (.code l91_0 (h91_0 l0_0 a0 (length p:Int) v0) (ex91_0 (r91_0 a0 y0 (length p:Int) v0)) (fin91_0 l0_0 a0 (r91_0 a0 y0 (length p:Int) v0)))
  |[],p,v0,hp0,hi0=>by
    have hc:¬(decide ((length p:Int) <((length (map b_i a0)):Int)))=true:=by
      rw[← hp0]; simp only[length_map,length_set,length_append,length_replicate,length_cons,length_nil,decide_eq_true_eq]; omega
    have hj0:=hi0; try simp only[length_map,length_set,length_append,length_replicate,length_cons,length_nil,Int.toNat_natCast] at hj0
    have st:=ch b91_0 (h91_0 l0_0 a0 (length p:Int) v0) ⟨[(0,(.one (.bor l0_0 (map b_i a0)))),(3,(.one (.ref ⟨(3,0,0),[],0,(length (map d_y v0))⟩))),(4,(.oi (length p:Int))),(9,(.one (.val (.bool (decide ((length p:Int) <((length (map b_i a0)):Int)))))))],[((3,0,0),.live ⟨1,(map d_y v0),[]⟩)]⟩ (.exit 0) 9 (by kernel_rfl) (.f (nt hc) (.h 8 (.b false) .nil))
    rw[show (⟨[(0,(.one (.bor l0_0 (map b_i a0)))),(3,(.one (.ref ⟨(3,0,0),[],0,(length (map d_y v0))⟩))),(4,(.oi (length p:Int))),(9,(.one (.val (.bool (decide ((length p:Int) <((length (map b_i a0)):Int)))))))],[((3,0,0),.live ⟨1,(map d_y v0),[]⟩)]⟩:St)=fin91_0 l0_0 a0 (.k0 v0 (length p:Int) (decide ((length p:Int) <((length (map b_i a0)):Int)))) from(by rfl)] at st
    exact .loopX st (show ((.exit 0):VX.Exit)≠.normal from by simp)
  |x0::y0,p,v0,hp0,hi0=>by
    have hc:(decide ((length p:Int) <((length (map b_i a0)):Int)))=true:=by
      rw[← hp0]; simp only[length_map,length_set,length_append,length_replicate,length_cons,length_nil,decide_eq_true_eq]; omega
    have Hx0:(a0)[toNat (length p:Int)]?=some x0:=by
      rw[← hp0,Int.toNat_natCast]; simp
    have hlen:length (a0)=length p+length y0+1:=by rw[← hp0]; simp; omega
    have hw:wrap .i64 ((length p:Int)+1)=(length p:Int)+1:=wrap64 (by omega)
    have hj0:=hi0; try simp only[length_map,length_set,length_append,length_replicate,length_cons,length_nil,Int.toNat_natCast] at hj0
    simp only[r91_0]
    have f1:0≤(length p:Int):=(by omega)
    have f4:0+(length (map d_y v0))≤(length (map d_y v0)):=(by omega)
    have f5:0+(length (map d_y (m97 x0)))≤(length (map d_y (m97 x0))):=(by omega)
    have f6:((take (length (map d_y (m97 x0))) (drop 0 (map d_y (m97 x0)))).all fun x=>x.all copyable)=true:=(ct_y _ _ _)
    have f7:(length ((take (length (map d_y v0)) (drop 0 (map d_y v0)))++(take (length (map d_y (m97 x0))) (drop 0 (map d_y (m97 x0))))))*1≤70368744177664:=(by simp only[length_map,length_append,length_take,length_drop,length_cons,length_nil,four_len] at*; omega)
    have f8:∀r∈((take (length (map d_y (m97 x0))) (drop 0 (map d_y (m97 x0)))):List (List D)),r.length=1:=(by simp only[List.drop_zero,tbr,tsi,ly_y,ly0_y,← List.map_append,List.take_length,List.cons_append,List.nil_append,append_assoc]; exact lenD_y _)
    have f9:((take (length (map d_y v0)) (drop 0 (map d_y v0)))++(take (length (map d_y (m97 x0))) (drop 0 (map d_y (m97 x0)))))=(map d_y (v0++(m97 x0))):=(by simp[byteRows_eq,ints_y,take_of_length_le,d_i,d_iiLiE,d_iLiE,d_iLiiLiEELiLiEE,d_iiiiiLiLiiLiEELiLiEEE,d_LiiiiiLiLiiLiEELiLiEEEE,d_b,d_iiiiLiLiiLiEELiLiEEE,d_LiE,d_LiLiiLiEELiLiEEE,d_LiiLiEE,d_LiLiEE,d_y,d_LyE,d_LLyEE,fromBR_i,fromBR_b,fromBR_y,four_len]; done)
    have st:=ch b91_0 (h91_0 l0_0 a0 (length p:Int) v0) ⟨[(0,(.one (.bor l0_0 (map b_i a0)))),(3,(.one (.ref ⟨(3,0,0),[],0,(length ((take (length (map d_y v0)) (drop 0 (map d_y v0)))++(take (length (map d_y (m97 x0))) (drop 0 (map d_y (m97 x0))))))⟩))),(4,(.oi (wrap .i64 ((length p:Int)+1))))],[((3,0,0),.live ⟨1,(map d_y (v0++(m97 x0))),[]⟩)]⟩ .normal 32 (by kernel_rfl) (.f hc (.f f1 (.f (mp_ b_i Hx0) (.h 8 (.b true) (.h 16 (.row [(.i x0)]) (.r 20 [] [] (e97 (a0:=x0)) (.f f4 (.f f5 (.f f6 (.f f7 (.f f8 (.f f9 (.f trivial (.h 22 (.b true) (.h 25 (.norm (3,0,0) (map d_y (v0++(m97 x0)))) .nil)))))))))))))))
    have ih:=t91_0 (l0_0:=l0_0) (a0:=a0) hy0 y0 (p++ [x0]) (v0++(m97 x0)) (by rw[append_assoc]; exact hp0) (by simp only[length_map,length_append,length_take,length_drop,length_cons,length_nil,four_len] at*; omega)
    rw[show ((p++ [x0]).length:Int)=(p.length:Int)+1 from by simp] at ih
    rw[show (⟨[(0,(.one (.bor l0_0 (map b_i a0)))),(3,(.one (.ref ⟨(3,0,0),[],0,(length ((take (length (map d_y v0)) (drop 0 (map d_y v0)))++(take (length (map d_y (m97 x0))) (drop 0 (map d_y (m97 x0))))))⟩))),(4,(.oi (wrap .i64 ((length p:Int)+1))))],[((3,0,0),.live ⟨1,(map d_y (v0++(m97 x0))),[]⟩)]⟩:St)=h91_0 l0_0 a0 ((length p:Int)+1) (v0++(m97 x0)) from(by unfold h91_0; simp[hw,byteRows_eq,ints_y,take_of_length_le,d_i,d_iiLiE,d_iLiE,d_iLiiLiEELiLiEE,d_iiiiiLiLiiLiEELiLiEEE,d_LiiiiiLiLiiLiEELiLiEEEE,d_b,d_iiiiLiLiiLiEELiLiEEE,d_LiE,d_LiLiiLiEELiLiEEE,d_LiiLiEE,d_LiLiEE,d_y,d_LyE,d_LLyEE,fromBR_i,fromBR_b,fromBR_y,four_len]; done)] at st
    exact .loopN st ih
theorem sl91 {a:List Int}:∀ {l:List Int} {i:Int} {v w:List Int} {j b},r91_0 a l i v=.k0 w j b→w.length=v.length+4*l.length
  |[],i,v,w,j,b,h=>by simp only[r91_0] at h; injection h with h; subst h; simp
  |x::l,i,v,w,j,b,h=>by
    simp only[r91_0] at h
    have q:=sl91 h
    simp only[length_append,length_cons,four_len] at q⊢; omega
/-! loop.example/g00539/spec.l1SumInts -/
def m91 (a0:(List Int)):Int:=
  (match r91_0 a0 a0 0 ([]) with | .k0 w0_0 w1_0 w2_0=>(m82 w0_0))
theorem e91 {l0_0:Nat} {a0:(List Int)} (hy0:length a0≤1000):Ev F X (.call 91 [(.one (.bor l0_0 (map b_i a0)))] [] [] [(.one (.val (.int .i64 (m91 a0))))]):=by
  unfold m91
  cases h0:r91_0 a0 a0 0 ([]) with
  |k0 w0_0 w1_0 w2_0=>
    try dsimp only
    have f0:(⟨[(0,(.one (.bor l0_0 (map b_i a0)))),(3,(.one (.ref ⟨(3,0,0),[],0,0⟩))),(4,(.oi 0))],[((3,0,0),.live ⟨1,[],[]⟩)]⟩:St)=h91_0 l0_0 a0 0 ([]):=(by rfl)
    exact cp (by kernel_rfl) (.f f0 (.f (ev_ (e:=ex91_0) (g:=(fin91_0 l0_0 a0)) h0 (t91_0 (l0_0:=l0_0) (a0:=a0) (by assumption) a0 [] ([]) rfl (by simp only[length_map,length_append,length_take,length_drop,length_cons,length_nil,four_len] at*; omega))) (ln_y w0_0 (.h 8 (.loop (h91_0 l0_0 a0 0 ([])) (.exit 0) ⟨[(0,(.one (.bor l0_0 (map b_i a0)))),(3,(.one (.ref ⟨(3,0,0),[],0,(length (map d_y w0_0))⟩))),(4,(.one (.val (.int .i64 w1_0)))),(9,(.one (.val (.bool w2_0))))],[((3,0,0),.live ⟨1,(map d_y w0_0),[]⟩)]⟩) (.r 12 [] [(map b_y w0_0)] (e82 (l0_0:=0) (a0:=w0_0) (by have q:=sl91 ‹_›; simp only[length_nil] at q; omega)) .nil)))))
theorem e80 {a0:Int} {a1:Int}:Ev F X (.call 80 [(.one (.val (.int .i64 a0))),(.one (.val (.int .i64 a1)))] [] [] [(.one (.val (.int .i64 (m91 [a0,a1]))))]):=by
  have f0:2≤2:=(by omega)
  have f1:fullR (take 2 (drop 0 [[(.val (.int .i64 a0))],[(.val (.int .i64 a1))]]))=true:=(by trivial)
  have f2:toBR (take 2 (drop 0 [[(.val (.int .i64 a0))],[(.val (.int .i64 a1))]]))=[[(.val (.int .i64 a0))],[(.val (.int .i64 a1))]]:=(by trivial)
  exact cp (by kernel_rfl) (.f f0 (.f f1 (.f f2 (.r 9 [] [[[(.val (.int .i64 a0))],[(.val (.int .i64 a1))]]] (e91 (l0_0:=0) (a0:=[a0,a1]) (by simp only[length_cons,length_nil]; omega)) .nil))))
/-! loop.example/g00539/spec.l4Mate -/
def m81 (a0:(List Int)) (a1:Int):Int:=
  if ((Int.tmod a1 2) == 1) = true then (if (decide ((wrap .i64 (a1 - 1)) ≥ ((length (map b_i a0)) : Int))) = true then (getD a0 (toNat a1) 0) else
    (getD a0 (toNat (wrap .i64 (a1 - 1))) 0)) else
  if(decide ((wrap .i64 (a1+1))≥((length (map b_i a0)):Int)))=true then(getD a0 (toNat a1) 0) else
    (getD a0 (toNat (wrap .i64 (a1+1))) 0)
theorem e81 {l0_0:Nat} {a0:(List Int)} {a1:Int} (hy0:0≤a1) (hy1:a1 <(length a0:Int)) (hy2:length a0≤1000):Ev F X (.call 81 [(.one (.bor l0_0 (map b_i a0))),(.one (.val (.int .i64 a1)))] [] [] [(.one (.val (.int .i64 (m81 a0 a1))))]):=by
  unfold m81
  have f1:(2:Int)≠0:=(by omega)
  by_cases h0:((Int.tmod a1 2)==1)=true
  · try simp only[if_pos h0]
    by_cases h1:(decide ((wrap .i64 (a1 - 1))≥((length (map b_i a0)):Int)))=true
    · try simp only[if_pos h1]
      have f4:0≤a1:=‹_›
      exact cp (by kernel_rfl) (.f trivial (.f f1 (.f h0 (.f h1 (.f f4 (.f (mp_ b_i (getD_at a0 (toNat a1) 0 (by omega))) (.h 14 (.b true) (.h 29 (.b true) (.h 39 (.row [(.val (.int .i64 (getD a0 (toNat a1) 0)))]) .nil)))))))))
    · try simp only[if_neg h1]
      have f4:0≤(wrap .i64 (a1 - 1)):=(by have q:=md1 hy0 ‹_›; rw[wrap64 (by omega)]; omega)
      exact cp (by kernel_rfl) (.f trivial (.f f1 (.f h0 (.f (nt h1) (.f f4 (.f (mp_ b_i (getD_at a0 (toNat (wrap .i64 (a1 - 1))) 0 (by have q:=md1 hy0 ‹_›; rw[wrap64 (by omega)]; omega))) (.h 14 (.b true) (.h 29 (.b false) (.h 35 (.row [(.val (.int .i64 (getD a0 (toNat (wrap .i64 (a1 - 1))) 0)))]) .nil)))))))))
  · try simp only[if_neg h0]
    by_cases h1:(decide ((wrap .i64 (a1+1))≥((length (map b_i a0)):Int)))=true
    · try simp only[if_pos h1]
      have f4:0≤a1:=‹_›
      exact cp (by kernel_rfl) (.f trivial (.f f1 (.f (nt h0) (.f h1 (.f f4 (.f (mp_ b_i (getD_at a0 (toNat a1) 0 (by omega))) (.h 14 (.b false) (.h 23 (.b true) (.h 33 (.row [(.val (.int .i64 (getD a0 (toNat a1) 0)))]) .nil)))))))))
    · try simp only[if_neg h1]
      have f4:0≤(wrap .i64 (a1+1)):=(by rw[wrap64 (by omega)]; omega)
      exact cp (by kernel_rfl) (.f trivial (.f f1 (.f (nt h0) (.f (nt h1) (.f f4 (.f (mp_ b_i (getD_at a0 (toNat (wrap .i64 (a1+1))) 0 (by simp only[decide_eq_true_eq,length_map] at*; omega))) (.h 14 (.b false) (.h 23 (.b false) (.h 29 (.row [(.val (.int .i64 (getD a0 (toNat (wrap .i64 (a1+1))) 0)))]) .nil)))))))))
/-! loop 61_0 -/
inductive O61_0 where
  |k0 (w0:List Int) (w1:Int) (w2:Bool)
def r61_0 (a0:(List Int)):Nat→List Int→Int→O61_0
  |n+1,v0,v2=>
    if(decide (v2 <((length (map b_i a0)):Int)))=true then(r61_0 a0 n (v0++([(m91 [(getD a0 (toNat v2) 0),(m81 a0 v2)])])) (wrap .i64 (v2+2))) else
    (O61_0.k0 v0 v2 (decide (v2 <((length (map b_i a0)):Int))))
  |0,v0,v2=>(O61_0.k0 v0 v2 (decide (v2 <((length (map b_i a0)):Int))))
def h61_0 (l0_0:Nat) (a0:(List Int)) (v0:List Int) (v2:Int):St:=⟨[(0,(.one (.bor l0_0 (map b_i a0)))),(3,(.one (.ref ⟨(3,0,0),[],0,(length (map d_i v0))⟩))),(4,(.one (.val (.int .i64 v2))))],[((3,0,0),.live ⟨1,(map d_i v0),[]⟩)]⟩
def ex61_0:O61_0→VX.Exit
  |.k0 _ _ _=>(.exit 0)
def fin61_0 (l0_0:Nat) (a0:(List Int)):O61_0→St
  |.k0 w0 w1 w2=>⟨[(0,(.one (.bor l0_0 (map b_i a0)))),(3,(.one (.ref ⟨(3,0,0),[],0,(length (map d_i w0))⟩))),(4,(.one (.val (.int .i64 w1)))),(9,(.one (.val (.bool w2))))],[((3,0,0),.live ⟨1,(map d_i w0),[]⟩)]⟩
theorem t61_0 {l0_0:Nat} {a0:(List Int)} (hy0:length a0≤1000):∀(n:Nat) (v0:List Int) (v2:Int),0≤v2→v2≤(length a0:Int)+1→2*(length v0:Int)=v2→toNat ((length a0:Int) - v2)≤n→Ev F X (.code l61_0 (h61_0 l0_0 a0 v0 v2) (ex61_0 (r61_0 a0 n v0 v2)) (fin61_0 l0_0 a0 (r61_0 a0 n v0 v2)))
  |0,v0,v2,hi0,hi1,hi2,hn=>by
    have hc:¬(decide (v2 <((length (map b_i a0)):Int)))=true:=by first |(exact fuel64_zero hn) |(simp only[decide_eq_true_eq] at*; omega) |(simp at*; omega)
    have st:=ch b61_0 (h61_0 l0_0 a0 v0 v2) ⟨[(0,(.one (.bor l0_0 (map b_i a0)))),(3,(.one (.ref ⟨(3,0,0),[],0,(length (map d_i v0))⟩))),(4,(.oi v2)),(9,(.one (.val (.bool (decide (v2 <((length (map b_i a0)):Int)))))))],[((3,0,0),.live ⟨1,(map d_i v0),[]⟩)]⟩ (.exit 0) 9 (by kernel_rfl) (.f (nt hc) (.h 8 (.b false) .nil))
    rw[show (⟨[(0,(.one (.bor l0_0 (map b_i a0)))),(3,(.one (.ref ⟨(3,0,0),[],0,(length (map d_i v0))⟩))),(4,(.oi v2)),(9,(.one (.val (.bool (decide (v2 <((length (map b_i a0)):Int)))))))],[((3,0,0),.live ⟨1,(map d_i v0),[]⟩)]⟩:St)=fin61_0 l0_0 a0 (.k0 v0 v2 (decide (v2 <((length (map b_i a0)):Int)))) from(by rfl)] at st
    exact .loopX st (show ((.exit 0):VX.Exit)≠.normal from by simp)
  |n+1,v0,v2,hi0,hi1,hi2,hn=>by
    simp only[r61_0]
    by_cases h_0:(decide (v2 <((length (map b_i a0)):Int)))=true
    · try simp only[if_pos h_0]
      have f1:0≤v2:=‹_›
      have f5:0+(length (map d_i v0))≤(length (map d_i v0)):=(by omega)
      have f6:1≤1:=(by omega)
      have f7:((take 1 (drop 0 [[(.val (.int .i64 (m91 [(getD a0 (toNat v2) 0),(m81 a0 v2)])))]])).all fun x=>x.all copyable)=true:=(by trivial)
      have f8:(length ((take (length (map d_i v0)) (drop 0 (map d_i v0)))++([[(.val (.int .i64 (m91 [(getD a0 (toNat v2) 0),(m81 a0 v2)])))]]:List (List D))))*8≤70368744177664:=(by simp only[decide_eq_true_eq,length_map,length_append,length_take,length_drop,length_cons,length_nil] at*; omega)
      have f9:∀r∈([[(.val (.int .i64 (m91 [(getD a0 (toNat v2) 0),(m81 a0 v2)])))]]:List (List D)),r.length=1:=(by unfold m91 m81;(repeat' split)<;>simp_all<;>omega)
      have f10:((take (length (map d_i v0)) (drop 0 (map d_i v0)))++([[(.val (.int .i64 (m91 [(getD a0 (toNat v2) 0),(m81 a0 v2)])))]]:List (List D)))=(map d_i (v0++([(m91 [(getD a0 (toNat v2) 0),(m81 a0 v2)])]))):=(by simp[byteRows_eq,ints_y,take_of_length_le,d_i,d_iiLiE,d_iLiE,d_iLiiLiEELiLiEE,d_iiiiiLiLiiLiEELiLiEEE,d_LiiiiiLiLiiLiEELiLiEEEE,d_b,d_iiiiLiLiiLiEELiLiEEE,d_LiE,d_LiLiiLiEELiLiEEE,d_LiiLiEE,d_LiLiEE,d_y,d_LyE,d_LLyEE,fromBR_i,fromBR_b,fromBR_y,four_len]; done)
      have st:=ch b61_0 (h61_0 l0_0 a0 v0 v2) ⟨[(0,(.one (.bor l0_0 (map b_i a0)))),(3,(.one (.ref ⟨(3,0,0),[],0,(length ((take (length (map d_i v0)) (drop 0 (map d_i v0)))++([[(.i (m91 [(getD a0 (toNat v2) 0),(m81 a0 v2)]))]]:List (List D))))⟩))),(4,(.oi (wrap .i64 (v2+2))))],[((3,0,0),.live ⟨1,(map d_i (v0++([(m91 [(getD a0 (toNat v2) 0),(m81 a0 v2)])]))),[]⟩)]⟩ .normal 40 (by kernel_rfl) (.f h_0 (.f f1 (.f (mp_ b_i (getD_at a0 (toNat v2) 0 (by simp only[decide_eq_true_eq,length_map,length_append,length_take,length_drop,length_cons,length_nil] at*; omega))) (.h 8 (.b true) (.h 16 (.row [(.i (getD a0 (toNat v2) 0))]) (.r 24 [] [] (e81 (l0_0:=(l0_0+1)) (a0:=a0) (a1:=v2) ‹_› (by simp only[decide_eq_true_eq,length_map,length_append,length_take,length_drop,length_cons,length_nil] at*; omega) ‹_›) (.r 26 [] [] (e80 (a0:=(getD a0 (toNat v2) 0)) (a1:=(m81 a0 v2))) (.f f5 (.f f6 (.f f7 (.f f8 (.f f9 (.f f10 (.f trivial (.h 30 (.b true) (.h 33 (.norm (3,0,0) (map d_i (v0++([(m91 [(getD a0 (toNat v2) 0),(m81 a0 v2)])])))) .nil))))))))))))))))
      have ih:=t61_0 (l0_0:=l0_0) (a0:=a0) hy0 n (v0++([(m91 [(getD a0 (toNat v2) 0),(m81 a0 v2)])])) (wrap .i64 (v2+2)) (by simp only[decide_eq_true_eq,length_map,length_append,length_cons,length_nil] at*; rw[wrap64 (by omega)]; omega) (by simp only[decide_eq_true_eq,length_map,length_append,length_cons,length_nil] at*; rw[wrap64 (by omega)]; omega) (by simp only[decide_eq_true_eq,length_map,length_append,length_cons,length_nil] at*; rw[wrap64 (by omega)]; omega) (by simp only[decide_eq_true_eq,length_map,length_append,length_cons,length_nil] at*; rw[wrap64 (by omega)]; omega)
      rw[show (⟨[(0,(.one (.bor l0_0 (map b_i a0)))),(3,(.one (.ref ⟨(3,0,0),[],0,(length ((take (length (map d_i v0)) (drop 0 (map d_i v0)))++([[(.i (m91 [(getD a0 (toNat v2) 0),(m81 a0 v2)]))]]:List (List D))))⟩))),(4,(.oi (wrap .i64 (v2+2))))],[((3,0,0),.live ⟨1,(map d_i (v0++([(m91 [(getD a0 (toNat v2) 0),(m81 a0 v2)])]))),[]⟩)]⟩:St)=h61_0 l0_0 a0 (v0++([(m91 [(getD a0 (toNat v2) 0),(m81 a0 v2)])])) (wrap .i64 (v2+2)) from(by unfold h61_0; simp[byteRows_eq,ints_y,take_of_length_le,d_i,d_iiLiE,d_iLiE,d_iLiiLiEELiLiEE,d_iiiiiLiLiiLiEELiLiEEE,d_LiiiiiLiLiiLiEELiLiEEEE,d_b,d_iiiiLiLiiLiEELiLiEEE,d_LiE,d_LiLiiLiEELiLiEEE,d_LiiLiEE,d_LiLiEE,d_y,d_LyE,d_LLyEE,fromBR_i,fromBR_b,fromBR_y,four_len]; done)] at st
      exact .loopN st ih
    · try simp only[if_neg h_0]
      have st:=ch b61_0 (h61_0 l0_0 a0 v0 v2) ⟨[(0,(.one (.bor l0_0 (map b_i a0)))),(3,(.one (.ref ⟨(3,0,0),[],0,(length (map d_i v0))⟩))),(4,(.oi v2)),(9,(.one (.val (.bool (decide (v2 <((length (map b_i a0)):Int)))))))],[((3,0,0),.live ⟨1,(map d_i v0),[]⟩)]⟩ (.exit 0) 9 (by kernel_rfl) (.f (nt h_0) (.h 8 (.b false) .nil))
      rw[show (⟨[(0,(.one (.bor l0_0 (map b_i a0)))),(3,(.one (.ref ⟨(3,0,0),[],0,(length (map d_i v0))⟩))),(4,(.oi v2)),(9,(.one (.val (.bool (decide (v2 <((length (map b_i a0)):Int)))))))],[((3,0,0),.live ⟨1,(map d_i v0),[]⟩)]⟩:St)=fin61_0 l0_0 a0 (.k0 v0 v2 (decide (v2 <((length (map b_i a0)):Int)))) from(by rfl)] at st
      exact .loopX st (show ((.exit 0):VX.Exit)≠.normal from by simp)
/-! loop 61_0,behind -/
def post61_0 (a0:(List Int)):O61_0→Prop
  |.k0 w0 _ _=>2*(length w0:Int)≤(length a0:Int)+1
theorem z61_0 {a0:(List Int)} (hy0:length a0≤1000):∀(n:Nat) (v0:List Int) (v2:Int),0≤v2→v2≤(length a0:Int)+1→2*(length v0:Int)=v2→post61_0 a0 (r61_0 a0 n v0 v2)
  |0,v0,v2,hi0,hi1,hi2=>by
    simp only[r61_0]
    first | trivial |(show _ ; simp only[post61_0]; omega) |(simp only[post61_0] at*; omega) |(simp only[decide_eq_true_eq,length_map,length_append,length_cons,length_nil] at*; rw[wrap64 (by omega)]; omega) |(simp; done) |(simp only[decide_eq_true_eq] at*; omega)
  |n+1,v0,v2,hi0,hi1,hi2=>by
    simp only[r61_0]
    by_cases h_0:(decide (v2 <((length (map b_i a0)):Int)))=true
    · try simp only[if_pos h_0]
      exact z61_0 (a0:=a0) hy0 n (v0++([(m91 [(getD a0 (toNat v2) 0),(m81 a0 v2)])])) (wrap .i64 (v2+2)) (by simp only[decide_eq_true_eq,length_map,length_append,length_cons,length_nil] at*; rw[wrap64 (by omega)]; omega) (by simp only[decide_eq_true_eq,length_map,length_append,length_cons,length_nil] at*; rw[wrap64 (by omega)]; omega) (by simp only[decide_eq_true_eq,length_map,length_append,length_cons,length_nil] at*; rw[wrap64 (by omega)]; omega)
    · try simp only[if_neg h_0]
      first | trivial |(show _ ; simp only[post61_0]; omega) |(simp only[post61_0] at*; omega) |(simp only[decide_eq_true_eq,length_map,length_append,length_cons,length_nil] at*; rw[wrap64 (by omega)]; omega) |(simp; done) |(simp only[decide_eq_true_eq] at*; omega)
/-! loop.example/g00539/spec.l4Above -/
def m61 (a0:(List Int)):(List Int):=
  (match r61_0 a0 (toNat ((length a0:Int) - 0)) ([]) 0 with | .k0 w0_0 w1_0 w2_0=>w0_0)
theorem e61 {l0_0:Nat} {a0:(List Int)} (hy0:length a0≤1000):Ev F X (.call 61 [(.one (.bor l0_0 (map b_i a0)))] [] [] [(.one (.own 1 (map d_i (m61 a0))))]):=by
  unfold m61
  cases h0:r61_0 a0 (toNat ((length a0:Int) - 0)) ([]) 0 with
  |k0 w0_0 w1_0 w2_0=>
    try dsimp only
    have zh0:=z61_0 (a0:=a0) (by assumption) (toNat ((length a0:Int) - 0)) ([]) 0 (by omega) (by omega) (by rfl); rw[h0] at zh0; simp only[post61_0] at zh0
    have f0:(⟨[(0,(.one (.bor l0_0 (map b_i a0)))),(3,(.one (.ref ⟨(3,0,0),[],0,0⟩))),(4,(.oi 0))],[((3,0,0),.live ⟨1,[],[]⟩)]⟩:St)=h61_0 l0_0 a0 ([]) 0:=(by rfl)
    exact cp (by kernel_rfl) (.f f0 (.f (ev_ (e:=ex61_0) (g:=(fin61_0 l0_0 a0)) h0 (t61_0 (l0_0:=l0_0) (a0:=a0) (by assumption) (toNat ((length a0:Int) - 0)) ([]) 0 (by omega) (by omega) (by rfl) (Nat.le_refl _))) (pe 0 (pe (length (map d_i w0_0)) (.f (pureR_i w0_0) (.h 8 (.loop (h61_0 l0_0 a0 ([]) 0) (.exit 0) ⟨[(0,(.one (.bor l0_0 (map b_i a0)))),(3,(.one (.ref ⟨(3,0,0),[],0,(length (map d_i w0_0))⟩))),(4,(.one (.val (.int .i64 w1_0)))),(9,(.one (.val (.bool w2_0))))],[((3,0,0),.live ⟨1,(map d_i w0_0),[]⟩)]⟩) .nil))))))
theorem abl61 (a:List Int) (h:a.length≤1000):2*(m61 a).length≤a.length+1:=by
  have z:=z61_0 (a0:=a) h (toNat ((length a:Int) - 0)) [] 0 (by omega) (by omega) (by simp)
  show 2*(match r61_0 a (toNat ((length a:Int) - 0)) [] 0 with | .k0 w _ _=>w).length≤a.length+1
  revert z
  generalize r61_0 a (toNat ((length a:Int) - 0)) [] 0=r
  intro z
  cases r with
  |k0 w0 w1 w2=>simp only[post61_0] at z; show 2*w0.length≤_; omega
/-! loop 43_1 -/
inductive O43_1 where
  |k0 (w0:Int) (w1:Bool)
  |k1
def r43_1 (c0_43_1:List Int):Nat→Int→O43_1
  |n+1,v0=>
    if (decide ((wrap .i64 (v0 + 1)) < ((length (map d_i c0_43_1)) : Int))) = true then (if ((getD c0_43_1 (toNat v0) 0) == (getD c0_43_1 (toNat (wrap .i64 (v0 + 1))) 0)) = true then (O43_1.k1) else
      (r43_1 c0_43_1 n (wrap .i64 (v0+2)))) else
    (O43_1.k0 v0 (decide ((wrap .i64 (v0+1)) <((length (map d_i c0_43_1)):Int))))
  |0,v0=>(O43_1.k0 v0 (decide ((wrap .i64 (v0+1)) <((length (map d_i c0_43_1)):Int))))
def h43_1 (a0:(List Int)) (c0_43_1:List Int) (v0:Int):St:=⟨[(3,(.one (.ref ⟨(3,0,0),[],0,(length (map d_i c0_43_1))⟩))),(4,(.one (.val (.int .i64 v0))))],[((3,0,0),.live ⟨1,(map d_i c0_43_1),[]⟩)]⟩
def ex43_1:O43_1→VX.Exit
  |.k0 _ _=>(.exit 2)
  |.k1=>.ret
def fin43_1 (a0:(List Int)) (c0_43_1:List Int):O43_1→St
  |.k0 w0 w1=>⟨[(3,(.one (.ref ⟨(3,0,0),[],0,(length (map d_i c0_43_1))⟩))),(4,(.one (.val (.int .i64 w0)))),(13,(.one (.val (.bool w1))))],[((3,0,0),.live ⟨1,(map d_i c0_43_1),[]⟩)]⟩
  |.k1=>⟨[(2,(.one (.val (.bool true))))],[]⟩
theorem t43_1 {a0:(List Int)} {c0_43_1:List Int} (hy0:length c0_43_1≤140737488351232):∀(n:Nat) (v0:Int),0≤v0→v0≤(length c0_43_1:Int)+2→length c0_43_1≤1000→toNat ((length c0_43_1:Int) - v0)≤n→Ev F X (.code l43_1 (h43_1 a0 c0_43_1 v0) (ex43_1 (r43_1 c0_43_1 n v0)) (fin43_1 a0 c0_43_1 (r43_1 c0_43_1 n v0)))
  |0,v0,hi0,hi1,hi2,hn=>by
    have hc:¬(decide ((wrap .i64 (v0+1)) <((length (map d_i c0_43_1)):Int)))=true:=by first |(have e1:wrap .i64 (v0+1)=v0+1:=wrap64 (by omega); have e0:wrap .i64 (v0 - 1)=v0 - 1:=wrap64 (by omega); have e2:wrap .i64 (v0+2)=v0+2:=wrap64 (by omega); simp only[decide_eq_true_eq,length_map,e1,e0,e2]; omega) |(exact fuel64_zero hn) |(simp only[decide_eq_true_eq] at*; omega) |(simp at*; omega)
    have st:=ch b43_1 (h43_1 a0 c0_43_1 v0) ⟨[(3,(.one (.ref ⟨(3,0,0),[],0,(length (map d_i c0_43_1))⟩))),(4,(.oi v0)),(13,(.one (.val (.bool (decide ((wrap .i64 (v0+1)) <((length (map d_i c0_43_1)):Int)))))))],[((3,0,0),.live ⟨1,(map d_i c0_43_1),[]⟩)]⟩ (.exit 2) 11 (by kernel_rfl) (.f trivial (.f (nt hc) (.h 10 (.b false) .nil)))
    rw[show (⟨[(3,(.one (.ref ⟨(3,0,0),[],0,(length (map d_i c0_43_1))⟩))),(4,(.oi v0)),(13,(.one (.val (.bool (decide ((wrap .i64 (v0+1)) <((length (map d_i c0_43_1)):Int)))))))],[((3,0,0),.live ⟨1,(map d_i c0_43_1),[]⟩)]⟩:St)=fin43_1 a0 c0_43_1 (.k0 v0 (decide ((wrap .i64 (v0+1)) <((length (map d_i c0_43_1)):Int)))) from(by rfl)] at st
    exact .loopX st (show ((.exit 2):VX.Exit)≠.normal from by simp)
  |n+1,v0,hi0,hi1,hi2,hn=>by
    simp only[r43_1]
    by_cases h_0:(decide ((wrap .i64 (v0+1)) <((length (map d_i c0_43_1)):Int)))=true
    · try simp only[if_pos h_0]
      have f2:0+(length (map d_i c0_43_1))≤(length (map d_i c0_43_1)):=(by omega)
      have f3:0≤v0∧v0 <((length (map d_i c0_43_1)):Int):=(by have e1:wrap .i64 (v0+1)=v0+1:=wrap64 (by omega); have e0:wrap .i64 (v0 - 1)=v0 - 1:=wrap64 (by omega); have e2:wrap .i64 (v0+2)=v0+2:=wrap64 (by omega); simp only[decide_eq_true_eq,length_map,e1,e0,e2] at h_0⊢; omega)
      have f7:0≤(wrap .i64 (v0+1))∧(wrap .i64 (v0+1)) <((length (map d_i c0_43_1)):Int):=(by have e1:wrap .i64 (v0+1)=v0+1:=wrap64 (by omega); have e0:wrap .i64 (v0 - 1)=v0 - 1:=wrap64 (by omega); have e2:wrap .i64 (v0+2)=v0+2:=wrap64 (by omega); simp only[decide_eq_true_eq,length_map,e1,e0,e2] at h_0⊢; omega)
      have P1 {hs q} (r:PS F X hs q):=(PS.f trivial (.f h_0 (.f f2 (.f f3 (.f (mz_ d_i (getD_at c0_43_1 (toNat v0) 0 (by have e1:wrap .i64 (v0+1)=v0+1:=wrap64 (by omega); have e0:wrap .i64 (v0 - 1)=v0 - 1:=wrap64 (by omega); have e2:wrap .i64 (v0+2)=v0+2:=wrap64 (by omega); simp only[decide_eq_true_eq,length_map,e1,e0,e2] at h_0⊢; omega))) (.f trivial (.f f2 (.f f7 (.f (mz_ d_i (getD_at c0_43_1 (toNat (wrap .i64 (v0+1))) 0 (by have e1:wrap .i64 (v0+1)=v0+1:=wrap64 (by omega); have e0:wrap .i64 (v0 - 1)=v0 - 1:=wrap64 (by omega); have e2:wrap .i64 (v0+2)=v0+2:=wrap64 (by omega); simp only[decide_eq_true_eq,length_map,e1,e0,e2] at h_0⊢; omega))) (.h 10 (.b true) (.h 18 (.rowD [(.val (.int .i64 (getD c0_43_1 (toNat v0) 0)))]) (.h 28 (.rowD [(.val (.int .i64 (getD c0_43_1 (toNat (wrap .i64 (v0+1))) 0)))]) r))))))))))))
      by_cases h_1:((getD c0_43_1 (toNat v0) 0)==(getD c0_43_1 (toNat (wrap .i64 (v0+1))) 0))=true
      · try simp only[if_pos h_1]
        have st:=ch b43_1 (h43_1 a0 c0_43_1 v0) ⟨[(2,(.one (.val (.bool true))))],[]⟩ .ret 34 (by kernel_rfl) (P1 (.f h_1 (.h 31 (.b true) .nil)))
        rw[show (⟨[(2,(.one (.val (.bool true))))],[]⟩:St)=fin43_1 a0 c0_43_1 (.k1) from(by rfl)] at st
        exact .loopX st (show (.ret:VX.Exit)≠.normal from by simp)
      · try simp only[if_neg h_1]
        have st:=ch b43_1 (h43_1 a0 c0_43_1 v0) ⟨[(3,(.one (.ref ⟨(3,0,0),[],0,(length (map d_i c0_43_1))⟩))),(4,(.oi (wrap .i64 (v0+2))))],[((3,0,0),.live ⟨1,(map d_i c0_43_1),[]⟩)]⟩ .normal 38 (by kernel_rfl) (P1 (.f (nt h_1) (.f trivial (.h 31 (.b false) .nil))))
        have ih:=t43_1 (a0:=a0) (c0_43_1:=c0_43_1) hy0 n (wrap .i64 (v0+2)) (by have e1:wrap .i64 (v0+1)=v0+1:=wrap64 (by omega); have e0:wrap .i64 (v0 - 1)=v0 - 1:=wrap64 (by omega); have e2:wrap .i64 (v0+2)=v0+2:=wrap64 (by omega); simp only[decide_eq_true_eq,length_map,e1,e0,e2] at h_0⊢; omega) (by have e1:wrap .i64 (v0+1)=v0+1:=wrap64 (by omega); have e0:wrap .i64 (v0 - 1)=v0 - 1:=wrap64 (by omega); have e2:wrap .i64 (v0+2)=v0+2:=wrap64 (by omega); simp only[decide_eq_true_eq,length_map,e1,e0,e2] at h_0⊢; omega) (by assumption) (by have e1:wrap .i64 (v0+1)=v0+1:=wrap64 (by omega); have e0:wrap .i64 (v0 - 1)=v0 - 1:=wrap64 (by omega); have e2:wrap .i64 (v0+2)=v0+2:=wrap64 (by omega); simp only[decide_eq_true_eq,length_map,e1,e0,e2] at h_0⊢; omega)
        rw[show (⟨[(3,(.one (.ref ⟨(3,0,0),[],0,(length (map d_i c0_43_1))⟩))),(4,(.oi (wrap .i64 (v0+2))))],[((3,0,0),.live ⟨1,(map d_i c0_43_1),[]⟩)]⟩:St)=h43_1 a0 c0_43_1 (wrap .i64 (v0+2)) from(by rfl)] at st
        exact .loopN st ih
    · try simp only[if_neg h_0]
      have st:=ch b43_1 (h43_1 a0 c0_43_1 v0) ⟨[(3,(.one (.ref ⟨(3,0,0),[],0,(length (map d_i c0_43_1))⟩))),(4,(.oi v0)),(13,(.one (.val (.bool (decide ((wrap .i64 (v0+1)) <((length (map d_i c0_43_1)):Int)))))))],[((3,0,0),.live ⟨1,(map d_i c0_43_1),[]⟩)]⟩ (.exit 2) 11 (by kernel_rfl) (.f trivial (.f (nt h_0) (.h 10 (.b false) .nil)))
      rw[show (⟨[(3,(.one (.ref ⟨(3,0,0),[],0,(length (map d_i c0_43_1))⟩))),(4,(.oi v0)),(13,(.one (.val (.bool (decide ((wrap .i64 (v0+1)) <((length (map d_i c0_43_1)):Int)))))))],[((3,0,0),.live ⟨1,(map d_i c0_43_1),[]⟩)]⟩:St)=fin43_1 a0 c0_43_1 (.k0 v0 (decide ((wrap .i64 (v0+1)) <((length (map d_i c0_43_1)):Int)))) from(by rfl)] at st
      exact .loopX st (show ((.exit 2):VX.Exit)≠.normal from by simp)
/-! loop 43_0 -/
inductive O43_0 where
  |k0 (w0:List Int) (w1:Bool)
  |k1
def r43_0 :Nat→List Int→O43_0
  |n+1,v0=>
    if(decide (((length (map d_i v0)):Int) > 1))=true then(match r43_1 v0 (toNat ((length v0:Int) - 0)) 0 with | .k0 w0_1 w1_1=>(r43_0 n (m61 v0)) | .k1=>(O43_0.k1)) else
    (O43_0.k0 v0 (decide (((length (map d_i v0)):Int) > 1)))
  |0,v0=>(O43_0.k0 v0 (decide (((length (map d_i v0)):Int) > 1)))
def h43_0 (a0:(List Int)) (v0:List Int):St:=⟨[(3,(.one (.ref ⟨(3,0,0),[],0,(length (map d_i v0))⟩)))],[((3,0,0),.live ⟨1,(map d_i v0),[]⟩)]⟩
def ex43_0:O43_0→VX.Exit
  |.k0 _ _=>(.exit 0)
  |.k1=>.ret
def fin43_0 (a0:(List Int)):O43_0→St
  |.k0 w0 w1=>⟨[(3,(.one (.ref ⟨(3,0,0),[],0,(length (map d_i w0))⟩))),(8,(.one (.val (.bool w1))))],[((3,0,0),.live ⟨1,(map d_i w0),[]⟩)]⟩
  |.k1=>⟨[(2,(.one (.val (.bool true))))],[]⟩
theorem t43_0 {a0:(List Int)} (hy0:length a0≤1000):∀(n:Nat) (v0:List Int),length v0≤1000→length v0≤n→Ev F X (.code l43_0 (h43_0 a0 v0) (ex43_0 (r43_0 n v0)) (fin43_0 a0 (r43_0 n v0)))
  |0,v0,hi0,hn=>by
    have hc:¬(decide (((length (map d_i v0)):Int) > 1))=true:=by first |(simp only[decide_eq_true_eq,length_map]; omega) |(exact fuel64_zero hn) |(simp only[decide_eq_true_eq] at*; omega) |(simp at*; omega)
    have st:=ch b43_0 (h43_0 a0 v0) ⟨[(3,(.one (.ref ⟨(3,0,0),[],0,(length (map d_i v0))⟩))),(8,(.one (.val (.bool (decide (((length (map d_i v0)):Int) > 1))))))],[((3,0,0),.live ⟨1,(map d_i v0),[]⟩)]⟩ (.exit 0) 7 (by kernel_rfl) (.f (nt hc) (.h 6 (.b false) .nil))
    rw[show (⟨[(3,(.one (.ref ⟨(3,0,0),[],0,(length (map d_i v0))⟩))),(8,(.one (.val (.bool (decide (((length (map d_i v0)):Int) > 1))))))],[((3,0,0),.live ⟨1,(map d_i v0),[]⟩)]⟩:St)=fin43_0 a0 (.k0 v0 (decide (((length (map d_i v0)):Int) > 1))) from(by rfl)] at st
    exact .loopX st (show ((.exit 0):VX.Exit)≠.normal from by simp)
  |n+1,v0,hi0,hn=>by
    simp only[r43_0]
    by_cases h_0:(decide (((length (map d_i v0)):Int) > 1))=true
    · try simp only[if_pos h_0]
      cases h_1:r43_1 v0 (toNat ((length v0:Int) - 0)) 0 with
      |k0 w0_1 w1_1=>
        try dsimp only
        have f1:(⟨[(3,(.one (.ref ⟨(3,0,0),[],0,(length (map d_i v0))⟩))),(4,(.oi 0))],[((3,0,0),.live ⟨1,(map d_i v0),[]⟩)]⟩:St)=h43_1 a0 v0 0:=(by rfl)
        have st:=ch b43_0 (h43_0 a0 v0) ⟨[(3,(.one (.ref ⟨(3,0,0),[],0,(length (map d_i (m61 v0)))⟩)))],[((3,0,0),.live ⟨1,(map d_i (m61 v0)),[]⟩)]⟩ .normal 16 (by kernel_rfl) (.f h_0 (.f f1 (.f (ev_ (e:=ex43_1) (g:=(fin43_1 a0 v0)) h_1 (t43_1 (a0:=a0) (c0_43_1:=v0) (by omega) (toNat ((length v0:Int) - 0)) 0 (by omega) (by omega) (by omega) (Nat.le_refl _))) (ln_i v0 (.h 6 (.b true) (.h 9 (.loop (h43_1 a0 v0 0) (.exit 2) ⟨[(3,(.one (.ref ⟨(3,0,0),[],0,(length (map d_i v0))⟩))),(4,(.oi w0_1)),(13,(.one (.val (.bool w1_1))))],[((3,0,0),.live ⟨1,(map d_i v0),[]⟩)]⟩) (.r 13 [] [(map b_i v0)] (e61 (l0_0:=0) (a0:=v0) ‹_›) (pe 0 (pe (length (map d_i (m61 v0))) .nil)))))))))
        have ih:=t43_0 (a0:=a0) hy0 n (m61 v0) (by have q:=abl61 v0 (by omega); omega) (by have q:=abl61 v0 (by omega); simp only[decide_eq_true_eq,length_map] at h_0; omega)
        rw[show (⟨[(3,(.one (.ref ⟨(3,0,0),[],0,(length (map d_i (m61 v0)))⟩)))],[((3,0,0),.live ⟨1,(map d_i (m61 v0)),[]⟩)]⟩:St)=h43_0 a0 (m61 v0) from(by rfl)] at st
        exact .loopN st ih
      |k1=>
        try dsimp only
        have f1:(⟨[(3,(.one (.ref ⟨(3,0,0),[],0,(length (map d_i v0))⟩))),(4,(.oi 0))],[((3,0,0),.live ⟨1,(map d_i v0),[]⟩)]⟩:St)=h43_1 a0 v0 0:=(by rfl)
        have st:=ch b43_0 (h43_0 a0 v0) ⟨[(2,(.one (.val (.bool true))))],[]⟩ .ret 10 (by kernel_rfl) (.f h_0 (.f f1 (.f (ev_ (e:=ex43_1) (g:=(fin43_1 a0 v0)) h_1 (t43_1 (a0:=a0) (c0_43_1:=v0) (by omega) (toNat ((length v0:Int) - 0)) 0 (by omega) (by omega) (by omega) (Nat.le_refl _))) (.h 6 (.b true) (.h 9 (.loop (h43_1 a0 v0 0) .ret ⟨[(2,(.one (.val (.bool true))))],[]⟩) .nil)))))
        rw[show (⟨[(2,(.one (.val (.bool true))))],[]⟩:St)=fin43_0 a0 (.k1) from(by rfl)] at st
        exact .loopX st (show (.ret:VX.Exit)≠.normal from by simp)
    · try simp only[if_neg h_0]
      have st:=ch b43_0 (h43_0 a0 v0) ⟨[(3,(.one (.ref ⟨(3,0,0),[],0,(length (map d_i v0))⟩))),(8,(.one (.val (.bool (decide (((length (map d_i v0)):Int) > 1))))))],[((3,0,0),.live ⟨1,(map d_i v0),[]⟩)]⟩ (.exit 0) 7 (by kernel_rfl) (.f (nt h_0) (.h 6 (.b false) .nil))
      rw[show (⟨[(3,(.one (.ref ⟨(3,0,0),[],0,(length (map d_i v0))⟩))),(8,(.one (.val (.bool (decide (((length (map d_i v0)):Int) > 1))))))],[((3,0,0),.live ⟨1,(map d_i v0),[]⟩)]⟩:St)=fin43_0 a0 (.k0 v0 (decide (((length (map d_i v0)):Int) > 1))) from(by rfl)] at st
      exact .loopX st (show ((.exit 0):VX.Exit)≠.normal from by simp)
end Go.Proofs.Ytjgebnhpklkjcaa.JobsFault
