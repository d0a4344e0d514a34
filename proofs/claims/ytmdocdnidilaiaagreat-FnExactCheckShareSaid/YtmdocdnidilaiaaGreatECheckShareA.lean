/- What the functions compute. -/
import Derived.Test.YtmdocdnidilaiaaGreatTCheckShare
import Derived.Test.YtmdocdnidilaiaaGreatVNum
import Derived.Test.YtmdocdnidilaiaaGreatVClone
import Derived.KernelRfl
namespace Go.Proofs.YtmdocdnidilaiaaGreat.CheckShare
open Go Go.Proofs.YtmdocdnidilaiaaGreat.V
set_option linter.unusedVariables false
set_option linter.unusedSimpArgs false
set_option maxRecDepth 20000
abbrev _root_.Go.Proofs.YtmdocdnidilaiaaGreat.V.B.i (x:Int):B:=.val (.int .i64 x)
abbrev _root_.Go.Proofs.YtmdocdnidilaiaaGreat.V.D.i (x:Int):D:=.val (.int .i64 x)
abbrev _root_.Go.Proofs.YtmdocdnidilaiaaGreat.V.CV.i (x:Int):CV:=.val (.int .i64 x)
abbrev _root_.Go.Proofs.YtmdocdnidilaiaaGreat.V.SV.oi (x:Int):SV:=.one (.val (.int .i64 x))
abbrev _root_.Go.Proofs.YtmdocdnidilaiaaGreat.V.Ret.oi (x:Int):Ret:=.one (.val (.int .i64 x))
open Go.IntKind (wrap)
open Int (toNat)
open List (length_replicate length_map length_set length_append length_cons length_nil length_take length_drop take_of_length_le map_take map_drop map_set append_assoc getElem?_map map length take drop getD set)
def X:Ext:=fun f args objs rs=>(f=156∧objs=[]∧CloneX 1 8 args rs)∨(f=93∧objs=[]∧CloneX 4 32 args rs)
theorem pe {α:Type} {hs q} (x:α) (r:PS F X hs q):PS F X hs ((x=x)::q):=.f rfl r
theorem mp_ {α β:Type} (f:α→β) {l:List α} {i:Nat} {x:α} (h:l[i]?=some x):(l.map f)[i]?=some (f x):=by rw[getElem?_map,h]; rfl
theorem mz_ {α β:Type} (f:α→β) {l:List α} {i:Nat} {x:α} (h:l[i]?=some x):(l.map f)[0+i]?=some (f x):=by rw[Nat.zero_add]; exact mp_ f h
theorem ev_ {c:VC} {σ:St} {O:Type} {e:O→VX.Exit} {g:O→St} {r w:O} (h:r=w) (t:Ev F X (.code c σ (e r) (g r))):Ev F X (.code c σ (e w) (g w)):=h ▸ t
theorem cp {f hs args rs q} (h:callH F X f hs [] args []=some ([],rs,q)) (p:PS F X hs q):Ev F X (.call f args [] [] rs):=callP_ok h p
theorem cq (ps:List Bool) {f hs args objs os rs q} (h:callH F X f hs ps args objs=some (os,rs,q)) (p:PS F X hs q):Ev F X (.call f args objs os rs):=callP_ok h p
theorem ch (c:VC) (σ σ':St) (e:VX.Exit) (t:Nat) {hs q} (h:codeH F X c 0 hs σ=some (e,σ',t,[],q)) (p:PS F X hs q):Ev F X (.code c σ e σ'):=codeP_ok h p
def b_i (x:Int):List B:=[(.val (.int .i64 x))]
def d_i (x:Int):List D:=[(.val (.int .i64 x))]
theorem toBR_i:∀(l:List Int),toBR (l.map d_i)=l.map b_i
  |[]=>rfl
  |x::l=>by simp[toBR,toBL,toB,d_i,b_i,toBR_i l]
theorem fullR_i:∀(l:List Int),fullR (l.map d_i)=true
  |[]=>rfl
  |x::l=>by simp[fullR,fullL,full,d_i,fullR_i l]
theorem pureR_i:∀(l:List Int),pureR (l.map d_i)=true
  |[]=>rfl
  |x::l=>by simp[pureR,pureL,V.pure,d_i,pureR_i l]
theorem ft_i (a b:Nat) (l:List Int):fullR (take a (drop b (l.map d_i)))=true:=by rw[← map_drop,← map_take]; exact fullR_i _
theorem tb_i (l:List Int):toBR (take (l.map d_i).length (drop 0 (l.map d_i)))=l.map b_i:=by rw[List.drop_zero,List.take_length]; exact toBR_i l
theorem ln_i {hs q} (x:List Int) (r:PS F X hs q):PS F X hs ((0+(x.map d_i).length≤(x.map d_i).length)::(fullR (take (x.map d_i).length (drop 0 (x.map d_i)))=true)::(toBR (take (x.map d_i).length (drop 0 (x.map d_i)))=x.map b_i)::q):=.f (Nat.le_of_eq (Nat.zero_add _)) (.f (ft_i _ _ _) (.f (tb_i _) r))
theorem lenB_i (l:List Int):∀r∈l.map b_i,r.length=1:=by intro r h; obtain⟨x,_,rfl⟩:=List.mem_map.1 h; rfl
theorem lenD_i (l:List Int):∀r∈l.map d_i,r.length=1:=by intro r h; obtain⟨x,_,rfl⟩:=List.mem_map.1 h; rfl
theorem fromBR_i (n:Nat) (l:List Int):fromBR n (l.map b_i)=l.map d_i:=by simp[fromBR,b_i,d_i,fromB,Function.comp_def]
theorem copy_i (l:List Int):(l.map d_i).all (fun x=>x.all copyable)=true:=by simp[d_i,copyable,Function.comp_def]
structure K_N where
  f0:Int
  f1:Int
  f2:(List Int)
def b_N (x:K_N):List B:=[(.val (.int .i64 x.f0)),(.val (.int .i64 x.f1)),(.sl (map b_i x.f2))]
def d_N (x:K_N):List D:=[(.val (.int .i64 x.f0)),(.val (.int .i64 x.f1)),(.own 1 (map d_i x.f2))]
abbrev k_N (l0:Nat) (x:K_N):List CV:=[(.val (.int .i64 x.f0)),(.val (.int .i64 x.f1)),(.bor l0 (map b_i x.f2))]
theorem toBR_N:∀(l:List K_N),toBR (l.map d_N)=l.map b_N
  |[]=>rfl
  |x::l=>by simp[toBR,toBL,toB,d_N,b_N,toBR_N l,toBR_i]
theorem fullR_N:∀(l:List K_N),fullR (l.map d_N)=true
  |[]=>rfl
  |x::l=>by simp[fullR,fullL,full,d_N,fullR_N l,fullR_i]
theorem pureR_N:∀(l:List K_N),pureR (l.map d_N)=true
  |[]=>rfl
  |x::l=>by simp[pureR,pureL,V.pure,d_N,pureR_N l,pureR_i]
theorem ft_N (a b:Nat) (l:List K_N):fullR (take a (drop b (l.map d_N)))=true:=by rw[← map_drop,← map_take]; exact fullR_N _
theorem tb_N (l:List K_N):toBR (take (l.map d_N).length (drop 0 (l.map d_N)))=l.map b_N:=by rw[List.drop_zero,List.take_length]; exact toBR_N l
theorem ln_N {hs q} (x:List K_N) (r:PS F X hs q):PS F X hs ((0+(x.map d_N).length≤(x.map d_N).length)::(fullR (take (x.map d_N).length (drop 0 (x.map d_N)))=true)::(toBR (take (x.map d_N).length (drop 0 (x.map d_N)))=x.map b_N)::q):=.f (Nat.le_of_eq (Nat.zero_add _)) (.f (ft_N _ _ _) (.f (tb_N _) r))
theorem lenB_N (l:List K_N):∀r∈l.map b_N,r.length=3:=by intro r h; obtain⟨x,_,rfl⟩:=List.mem_map.1 h; rfl
theorem lenD_N (l:List K_N):∀r∈l.map d_N,r.length=3:=by intro r h; obtain⟨x,_,rfl⟩:=List.mem_map.1 h; rfl
def ok_N (x:K_N):Prop:=(length x.f2*8≤140737488351232)
def os_N (x:K_N):Prop:=(length x.f2*8≤140737488351232)
theorem gos_N {l:List K_N} (h:∀z∈l,os_N z) (n:Nat) (d:K_N) (hd:os_N d):os_N (l.getD n d):=by
  rw[List.getD_eq_getElem?_getD]; cases h2:l[n]? with
  |none=>simpa using hd
  |some x=>exact h x (List.mem_of_getElem? h2)
structure K_U where
  f0:Int
  f1:(List Int)
def b_U (x:K_U):List B:=[(.val (.int .i64 x.f0)),(.sl (map b_i x.f1))]
def d_U (x:K_U):List D:=[(.val (.int .i64 x.f0)),(.own 1 (map d_i x.f1))]
abbrev k_U (l0:Nat) (x:K_U):List CV:=[(.val (.int .i64 x.f0)),(.bor l0 (map b_i x.f1))]
theorem toBR_U:∀(l:List K_U),toBR (l.map d_U)=l.map b_U
  |[]=>rfl
  |x::l=>by simp[toBR,toBL,toB,d_U,b_U,toBR_U l,toBR_i]
theorem fullR_U:∀(l:List K_U),fullR (l.map d_U)=true
  |[]=>rfl
  |x::l=>by simp[fullR,fullL,full,d_U,fullR_U l,fullR_i]
theorem pureR_U:∀(l:List K_U),pureR (l.map d_U)=true
  |[]=>rfl
  |x::l=>by simp[pureR,pureL,V.pure,d_U,pureR_U l,pureR_i]
theorem lenB_U (l:List K_U):∀r∈l.map b_U,r.length=2:=by intro r h; obtain⟨x,_,rfl⟩:=List.mem_map.1 h; rfl
theorem lenD_U (l:List K_U):∀r∈l.map d_U,r.length=2:=by intro r h; obtain⟨x,_,rfl⟩:=List.mem_map.1 h; rfl
def ok_U (x:K_U):Prop:=(length x.f1*8≤140737488351232)
def os_U (x:K_U):Prop:=(length x.f1*8≤140737488351232)
structure K_T where
  f0:Int
  f1:(List K_N)
  f2:(List K_U)
def b_T (x:K_T):List B:=[(.val (.int .i64 x.f0)),(.sl (map b_N x.f1)),(.sl (map b_U x.f2))]
def d_T (x:K_T):List D:=[(.val (.int .i64 x.f0)),(.own 3 (map d_N x.f1)),(.own 2 (map d_U x.f2))]
abbrev k_T (l0:Nat) (l1:Nat) (x:K_T):List CV:=[(.val (.int .i64 x.f0)),(.bor l0 (map b_N x.f1)),(.bor l1 (map b_U x.f2))]
theorem toBR_T:∀(l:List K_T),toBR (l.map d_T)=l.map b_T
  |[]=>rfl
  |x::l=>by simp[toBR,toBL,toB,d_T,b_T,toBR_T l,toBR_N,toBR_U]
theorem fullR_T:∀(l:List K_T),fullR (l.map d_T)=true
  |[]=>rfl
  |x::l=>by simp[fullR,fullL,full,d_T,fullR_T l,fullR_N,fullR_U]
theorem pureR_T:∀(l:List K_T),pureR (l.map d_T)=true
  |[]=>rfl
  |x::l=>by simp[pureR,pureL,V.pure,d_T,pureR_T l,pureR_N,pureR_U]
theorem ft_T (a b:Nat) (l:List K_T):fullR (take a (drop b (l.map d_T)))=true:=by rw[← map_drop,← map_take]; exact fullR_T _
theorem tb_T (l:List K_T):toBR (take (l.map d_T).length (drop 0 (l.map d_T)))=l.map b_T:=by rw[List.drop_zero,List.take_length]; exact toBR_T l
theorem ln_T {hs q} (x:List K_T) (r:PS F X hs q):PS F X hs ((0+(x.map d_T).length≤(x.map d_T).length)::(fullR (take (x.map d_T).length (drop 0 (x.map d_T)))=true)::(toBR (take (x.map d_T).length (drop 0 (x.map d_T)))=x.map b_T)::q):=.f (Nat.le_of_eq (Nat.zero_add _)) (.f (ft_T _ _ _) (.f (tb_T _) r))
theorem lenB_T (l:List K_T):∀r∈l.map b_T,r.length=3:=by intro r h; obtain⟨x,_,rfl⟩:=List.mem_map.1 h; rfl
theorem lenD_T (l:List K_T):∀r∈l.map d_T,r.length=3:=by intro r h; obtain⟨x,_,rfl⟩:=List.mem_map.1 h; rfl
def ok_T (x:K_T):Prop:=(length x.f1*40≤140737488351232)∧(∀z∈x.f1,ok_N z)∧(length x.f2*32≤140737488351232)∧(∀z∈x.f2,ok_U z)
def os_T (x:K_T):Prop:=(length x.f1*40≤140737488351232)∧(∀z∈x.f1,os_N z)∧(length x.f2*32≤140737488351232)∧(∀z∈x.f2,os_U z)
structure K_J where
  f0:Int
  f1:Int
  f2:Int
  f3:Int
  f4:Int
  f5:(List K_T)
def b_J (x:K_J):List B:=[(.val (.int .i64 x.f0)),(.val (.int .i64 x.f1)),(.val (.int .i64 x.f2)),(.val (.int .i64 x.f3)),(.val (.int .i64 x.f4)),(.sl (map b_T x.f5))]
def d_J (x:K_J):List D:=[(.val (.int .i64 x.f0)),(.val (.int .i64 x.f1)),(.val (.int .i64 x.f2)),(.val (.int .i64 x.f3)),(.val (.int .i64 x.f4)),(.own 3 (map d_T x.f5))]
abbrev k_J (l0:Nat) (x:K_J):List CV:=[(.val (.int .i64 x.f0)),(.val (.int .i64 x.f1)),(.val (.int .i64 x.f2)),(.val (.int .i64 x.f3)),(.val (.int .i64 x.f4)),(.bor l0 (map b_T x.f5))]
theorem toBR_J:∀(l:List K_J),toBR (l.map d_J)=l.map b_J
  |[]=>rfl
  |x::l=>by simp[toBR,toBL,toB,d_J,b_J,toBR_J l,toBR_T]
theorem fullR_J:∀(l:List K_J),fullR (l.map d_J)=true
  |[]=>rfl
  |x::l=>by simp[fullR,fullL,full,d_J,fullR_J l,fullR_T]
theorem pureR_J:∀(l:List K_J),pureR (l.map d_J)=true
  |[]=>rfl
  |x::l=>by simp[pureR,pureL,V.pure,d_J,pureR_J l,pureR_T]
theorem ft_J (a b:Nat) (l:List K_J):fullR (take a (drop b (l.map d_J)))=true:=by rw[← map_drop,← map_take]; exact fullR_J _
theorem tb_J (l:List K_J):toBR (take (l.map d_J).length (drop 0 (l.map d_J)))=l.map b_J:=by rw[List.drop_zero,List.take_length]; exact toBR_J l
theorem ln_J {hs q} (x:List K_J) (r:PS F X hs q):PS F X hs ((0+(x.map d_J).length≤(x.map d_J).length)::(fullR (take (x.map d_J).length (drop 0 (x.map d_J)))=true)::(toBR (take (x.map d_J).length (drop 0 (x.map d_J)))=x.map b_J)::q):=.f (Nat.le_of_eq (Nat.zero_add _)) (.f (ft_J _ _ _) (.f (tb_J _) r))
theorem lenB_J (l:List K_J):∀r∈l.map b_J,r.length=6:=by intro r h; obtain⟨x,_,rfl⟩:=List.mem_map.1 h; rfl
theorem lenD_J (l:List K_J):∀r∈l.map d_J,r.length=6:=by intro r h; obtain⟨x,_,rfl⟩:=List.mem_map.1 h; rfl
def ok_J (x:K_J):Prop:=(length x.f5*56≤140737488351232)∧(∀z∈x.f5,ok_T z)
def os_J (x:K_J):Prop:=(length x.f5*56≤140737488351232)∧(∀z∈x.f5,os_T z)
theorem gos_J {l:List K_J} (h:∀z∈l,os_J z) (n:Nat) (d:K_J) (hd:os_J d):os_J (l.getD n d):=by
  rw[List.getD_eq_getElem?_getD]; cases h2:l[n]? with
  |none=>simpa using hd
  |some x=>exact h x (List.mem_of_getElem? h2)
def b_JL (x:(List K_J)):List B:=[(.sl (map b_J x))]
def d_JL (x:(List K_J)):List D:=[(.own 6 (map d_J x))]
theorem toBR_JL:∀(l:List (List K_J)),toBR (l.map d_JL)=l.map b_JL
  |[]=>rfl
  |x::l=>by simp[toBR,toBL,toB,d_JL,b_JL,toBR_JL l,toBR_J]
theorem fullR_JL:∀(l:List (List K_J)),fullR (l.map d_JL)=true
  |[]=>rfl
  |x::l=>by simp[fullR,fullL,full,d_JL,fullR_JL l,fullR_J]
theorem pureR_JL:∀(l:List (List K_J)),pureR (l.map d_JL)=true
  |[]=>rfl
  |x::l=>by simp[pureR,pureL,V.pure,d_JL,pureR_JL l,pureR_J]
theorem lenB_JL (l:List (List K_J)):∀r∈l.map b_JL,r.length=1:=by intro r h; obtain⟨x,_,rfl⟩:=List.mem_map.1 h; rfl
theorem lenD_JL (l:List (List K_J)):∀r∈l.map d_JL,r.length=1:=by intro r h; obtain⟨x,_,rfl⟩:=List.mem_map.1 h; rfl
def ok_JL (x:(List K_J)):Prop:=(length x*64≤140737488351232)∧(∀z∈x,ok_J z)
structure K_KY where
  f0:Int
  f1:Int
  f2:Int
  f3:Int
def b_KY (x:K_KY):List B:=[(.val (.int .i64 x.f0)),(.val (.int .i64 x.f1)),(.val (.int .i64 x.f2)),(.val (.int .i64 x.f3))]
def d_KY (x:K_KY):List D:=[(.val (.int .i64 x.f0)),(.val (.int .i64 x.f1)),(.val (.int .i64 x.f2)),(.val (.int .i64 x.f3))]
theorem toBR_KY:∀(l:List K_KY),toBR (l.map d_KY)=l.map b_KY
  |[]=>rfl
  |x::l=>by simp[toBR,toBL,toB,d_KY,b_KY,toBR_KY l]
theorem fullR_KY:∀(l:List K_KY),fullR (l.map d_KY)=true
  |[]=>rfl
  |x::l=>by simp[fullR,fullL,full,d_KY,fullR_KY l]
theorem pureR_KY:∀(l:List K_KY),pureR (l.map d_KY)=true
  |[]=>rfl
  |x::l=>by simp[pureR,pureL,V.pure,d_KY,pureR_KY l]
theorem ft_KY (a b:Nat) (l:List K_KY):fullR (take a (drop b (l.map d_KY)))=true:=by rw[← map_drop,← map_take]; exact fullR_KY _
theorem tb_KY (l:List K_KY):toBR (take (l.map d_KY).length (drop 0 (l.map d_KY)))=l.map b_KY:=by rw[List.drop_zero,List.take_length]; exact toBR_KY l
theorem ln_KY {hs q} (x:List K_KY) (r:PS F X hs q):PS F X hs ((0+(x.map d_KY).length≤(x.map d_KY).length)::(fullR (take (x.map d_KY).length (drop 0 (x.map d_KY)))=true)::(toBR (take (x.map d_KY).length (drop 0 (x.map d_KY)))=x.map b_KY)::q):=.f (Nat.le_of_eq (Nat.zero_add _)) (.f (ft_KY _ _ _) (.f (tb_KY _) r))
theorem lenB_KY (l:List K_KY):∀r∈l.map b_KY,r.length=4:=by intro r h; obtain⟨x,_,rfl⟩:=List.mem_map.1 h; rfl
theorem lenD_KY (l:List K_KY):∀r∈l.map d_KY,r.length=4:=by intro r h; obtain⟨x,_,rfl⟩:=List.mem_map.1 h; rfl
theorem fromBR_KY (n:Nat) (l:List K_KY):fromBR n (l.map b_KY)=l.map d_KY:=by simp[fromBR,b_KY,d_KY,fromB,Function.comp_def]
theorem copy_KY (l:List K_KY):(l.map d_KY).all (fun x=>x.all copyable)=true:=by simp[d_KY,copyable,Function.comp_def]
def b_LiiiiE (x:(List K_KY)):List B:=[(.sl (map b_KY x))]
def d_LiiiiE (x:(List K_KY)):List D:=[(.own 4 (map d_KY x))]
theorem toBR_LiiiiE:∀(l:List (List K_KY)),toBR (l.map d_LiiiiE)=l.map b_LiiiiE
  |[]=>rfl
  |x::l=>by simp[toBR,toBL,toB,d_LiiiiE,b_LiiiiE,toBR_LiiiiE l,toBR_KY]
theorem fullR_LiiiiE:∀(l:List (List K_KY)),fullR (l.map d_LiiiiE)=true
  |[]=>rfl
  |x::l=>by simp[fullR,fullL,full,d_LiiiiE,fullR_LiiiiE l,fullR_KY]
theorem pureR_LiiiiE:∀(l:List (List K_KY)),pureR (l.map d_LiiiiE)=true
  |[]=>rfl
  |x::l=>by simp[pureR,pureL,V.pure,d_LiiiiE,pureR_LiiiiE l,pureR_KY]
theorem lenB_LiiiiE (l:List (List K_KY)):∀r∈l.map b_LiiiiE,r.length=1:=by intro r h; obtain⟨x,_,rfl⟩:=List.mem_map.1 h; rfl
theorem lenD_LiiiiE (l:List (List K_KY)):∀r∈l.map d_LiiiiE,r.length=1:=by intro r h; obtain⟨x,_,rfl⟩:=List.mem_map.1 h; rfl
def ok_LiiiiE (x:(List K_KY)):Prop:=(length x*32≤140737488351232)
def b_b (x:Bool):List B:=[(.val (.bool x))]
def d_b (x:Bool):List D:=[(.val (.bool x))]
theorem toBR_b:∀(l:List Bool),toBR (l.map d_b)=l.map b_b
  |[]=>rfl
  |x::l=>by simp[toBR,toBL,toB,d_b,b_b,toBR_b l]
theorem fullR_b:∀(l:List Bool),fullR (l.map d_b)=true
  |[]=>rfl
  |x::l=>by simp[fullR,fullL,full,d_b,fullR_b l]
theorem pureR_b:∀(l:List Bool),pureR (l.map d_b)=true
  |[]=>rfl
  |x::l=>by simp[pureR,pureL,V.pure,d_b,pureR_b l]
theorem lenB_b (l:List Bool):∀r∈l.map b_b,r.length=1:=by intro r h; obtain⟨x,_,rfl⟩:=List.mem_map.1 h; rfl
theorem lenD_b (l:List Bool):∀r∈l.map d_b,r.length=1:=by intro r h; obtain⟨x,_,rfl⟩:=List.mem_map.1 h; rfl
theorem fromBR_b (n:Nat) (l:List Bool):fromBR n (l.map b_b)=l.map d_b:=by simp[fromBR,b_b,d_b,fromB,Function.comp_def]
theorem copy_b (l:List Bool):(l.map d_b).all (fun x=>x.all copyable)=true:=by simp[d_b,copyable,Function.comp_def]
structure K_SR where
  f0:Int
  f1:Bool
  f2:Int
  f3:Int
  f4:Int
  f5:Int
  f6:(List K_T)
  f7:(List K_KY)
def b_SR (x:K_SR):List B:=[(.val (.int .i64 x.f0)),(.val (.bool x.f1)),(.val (.int .i64 x.f2)),(.val (.int .i64 x.f3)),(.val (.int .i64 x.f4)),(.val (.int .i64 x.f5)),(.sl (map b_T x.f6)),(.sl (map b_KY x.f7))]
def d_SR (x:K_SR):List D:=[(.val (.int .i64 x.f0)),(.val (.bool x.f1)),(.val (.int .i64 x.f2)),(.val (.int .i64 x.f3)),(.val (.int .i64 x.f4)),(.val (.int .i64 x.f5)),(.own 3 (map d_T x.f6)),(.own 4 (map d_KY x.f7))]
abbrev k_SR (l0:Nat) (l1:Nat) (x:K_SR):List CV:=[(.val (.int .i64 x.f0)),(.val (.bool x.f1)),(.val (.int .i64 x.f2)),(.val (.int .i64 x.f3)),(.val (.int .i64 x.f4)),(.val (.int .i64 x.f5)),(.bor l0 (map b_T x.f6)),(.bor l1 (map b_KY x.f7))]
theorem toBR_SR:∀(l:List K_SR),toBR (l.map d_SR)=l.map b_SR
  |[]=>rfl
  |x::l=>by simp[toBR,toBL,toB,d_SR,b_SR,toBR_SR l,toBR_T,toBR_KY]
theorem fullR_SR:∀(l:List K_SR),fullR (l.map d_SR)=true
  |[]=>rfl
  |x::l=>by simp[fullR,fullL,full,d_SR,fullR_SR l,fullR_T,fullR_KY]
theorem pureR_SR:∀(l:List K_SR),pureR (l.map d_SR)=true
  |[]=>rfl
  |x::l=>by simp[pureR,pureL,V.pure,d_SR,pureR_SR l,pureR_T,pureR_KY]
theorem lenB_SR (l:List K_SR):∀r∈l.map b_SR,r.length=8:=by intro r h; obtain⟨x,_,rfl⟩:=List.mem_map.1 h; rfl
theorem lenD_SR (l:List K_SR):∀r∈l.map d_SR,r.length=8:=by intro r h; obtain⟨x,_,rfl⟩:=List.mem_map.1 h; rfl
def ok_SR (x:K_SR):Prop:=(length x.f6*56≤140737488351232)∧(∀z∈x.f6,ok_T z)∧(length x.f7*32≤140737488351232)
structure K_G where
  f0:Int
  f1:Int
  f2:Int
  f3:Int
  f4:(List K_T)
def b_G (x:K_G):List B:=[(.val (.int .i64 x.f0)),(.val (.int .i64 x.f1)),(.val (.int .i64 x.f2)),(.val (.int .i64 x.f3)),(.sl (map b_T x.f4))]
def d_G (x:K_G):List D:=[(.val (.int .i64 x.f0)),(.val (.int .i64 x.f1)),(.val (.int .i64 x.f2)),(.val (.int .i64 x.f3)),(.own 3 (map d_T x.f4))]
abbrev k_G (l0:Nat) (x:K_G):List CV:=[(.val (.int .i64 x.f0)),(.val (.int .i64 x.f1)),(.val (.int .i64 x.f2)),(.val (.int .i64 x.f3)),(.bor l0 (map b_T x.f4))]
theorem toBR_G:∀(l:List K_G),toBR (l.map d_G)=l.map b_G
  |[]=>rfl
  |x::l=>by simp[toBR,toBL,toB,d_G,b_G,toBR_G l,toBR_T]
theorem fullR_G:∀(l:List K_G),fullR (l.map d_G)=true
  |[]=>rfl
  |x::l=>by simp[fullR,fullL,full,d_G,fullR_G l,fullR_T]
theorem pureR_G:∀(l:List K_G),pureR (l.map d_G)=true
  |[]=>rfl
  |x::l=>by simp[pureR,pureL,V.pure,d_G,pureR_G l,pureR_T]
theorem lenB_G (l:List K_G):∀r∈l.map b_G,r.length=5:=by intro r h; obtain⟨x,_,rfl⟩:=List.mem_map.1 h; rfl
theorem lenD_G (l:List K_G):∀r∈l.map d_G,r.length=5:=by intro r h; obtain⟨x,_,rfl⟩:=List.mem_map.1 h; rfl
def ok_G (x:K_G):Prop:=(length x.f4*56≤140737488351232)∧(∀z∈x.f4,ok_T z)
def b_TL (x:(List K_T)):List B:=[(.sl (map b_T x))]
def d_TL (x:(List K_T)):List D:=[(.own 3 (map d_T x))]
theorem toBR_TL:∀(l:List (List K_T)),toBR (l.map d_TL)=l.map b_TL
  |[]=>rfl
  |x::l=>by simp[toBR,toBL,toB,d_TL,b_TL,toBR_TL l,toBR_T]
theorem fullR_TL:∀(l:List (List K_T)),fullR (l.map d_TL)=true
  |[]=>rfl
  |x::l=>by simp[fullR,fullL,full,d_TL,fullR_TL l,fullR_T]
theorem pureR_TL:∀(l:List (List K_T)),pureR (l.map d_TL)=true
  |[]=>rfl
  |x::l=>by simp[pureR,pureL,V.pure,d_TL,pureR_TL l,pureR_T]
theorem lenB_TL (l:List (List K_T)):∀r∈l.map b_TL,r.length=1:=by intro r h; obtain⟨x,_,rfl⟩:=List.mem_map.1 h; rfl
theorem lenD_TL (l:List (List K_T)):∀r∈l.map d_TL,r.length=1:=by intro r h; obtain⟨x,_,rfl⟩:=List.mem_map.1 h; rfl
def ok_TL (x:(List K_T)):Prop:=(length x*56≤140737488351232)∧(∀z∈x,ok_T z)
def b_LiE (x:(List Int)):List B:=[(.sl (map b_i x))]
def d_LiE (x:(List Int)):List D:=[(.own 1 (map d_i x))]
theorem toBR_LiE:∀(l:List (List Int)),toBR (l.map d_LiE)=l.map b_LiE
  |[]=>rfl
  |x::l=>by simp[toBR,toBL,toB,d_LiE,b_LiE,toBR_LiE l,toBR_i]
theorem fullR_LiE:∀(l:List (List Int)),fullR (l.map d_LiE)=true
  |[]=>rfl
  |x::l=>by simp[fullR,fullL,full,d_LiE,fullR_LiE l,fullR_i]
theorem pureR_LiE:∀(l:List (List Int)),pureR (l.map d_LiE)=true
  |[]=>rfl
  |x::l=>by simp[pureR,pureL,V.pure,d_LiE,pureR_LiE l,pureR_i]
theorem lenB_LiE (l:List (List Int)):∀r∈l.map b_LiE,r.length=1:=by intro r h; obtain⟨x,_,rfl⟩:=List.mem_map.1 h; rfl
theorem lenD_LiE (l:List (List Int)):∀r∈l.map d_LiE,r.length=1:=by intro r h; obtain⟨x,_,rfl⟩:=List.mem_map.1 h; rfl
def ok_LiE (x:(List Int)):Prop:=(length x*8≤140737488351232)
def b_NL (x:(List K_N)):List B:=[(.sl (map b_N x))]
def d_NL (x:(List K_N)):List D:=[(.own 3 (map d_N x))]
theorem toBR_NL:∀(l:List (List K_N)),toBR (l.map d_NL)=l.map b_NL
  |[]=>rfl
  |x::l=>by simp[toBR,toBL,toB,d_NL,b_NL,toBR_NL l,toBR_N]
theorem fullR_NL:∀(l:List (List K_N)),fullR (l.map d_NL)=true
  |[]=>rfl
  |x::l=>by simp[fullR,fullL,full,d_NL,fullR_NL l,fullR_N]
theorem pureR_NL:∀(l:List (List K_N)),pureR (l.map d_NL)=true
  |[]=>rfl
  |x::l=>by simp[pureR,pureL,V.pure,d_NL,pureR_NL l,pureR_N]
theorem lenB_NL (l:List (List K_N)):∀r∈l.map b_NL,r.length=1:=by intro r h; obtain⟨x,_,rfl⟩:=List.mem_map.1 h; rfl
theorem lenD_NL (l:List (List K_N)):∀r∈l.map d_NL,r.length=1:=by intro r h; obtain⟨x,_,rfl⟩:=List.mem_map.1 h; rfl
def ok_NL (x:(List K_N)):Prop:=(length x*40≤140737488351232)∧(∀z∈x,ok_N z)
def b_UL (x:(List K_U)):List B:=[(.sl (map b_U x))]
def d_UL (x:(List K_U)):List D:=[(.own 2 (map d_U x))]
theorem toBR_UL:∀(l:List (List K_U)),toBR (l.map d_UL)=l.map b_UL
  |[]=>rfl
  |x::l=>by simp[toBR,toBL,toB,d_UL,b_UL,toBR_UL l,toBR_U]
theorem fullR_UL:∀(l:List (List K_U)),fullR (l.map d_UL)=true
  |[]=>rfl
  |x::l=>by simp[fullR,fullL,full,d_UL,fullR_UL l,fullR_U]
theorem pureR_UL:∀(l:List (List K_U)),pureR (l.map d_UL)=true
  |[]=>rfl
  |x::l=>by simp[pureR,pureL,V.pure,d_UL,pureR_UL l,pureR_U]
theorem lenB_UL (l:List (List K_U)):∀r∈l.map b_UL,r.length=1:=by intro r h; obtain⟨x,_,rfl⟩:=List.mem_map.1 h; rfl
theorem lenD_UL (l:List (List K_U)):∀r∈l.map d_UL,r.length=1:=by intro r h; obtain⟨x,_,rfl⟩:=List.mem_map.1 h; rfl
def ok_UL (x:(List K_U)):Prop:=(length x*32≤140737488351232)∧(∀z∈x,ok_U z)
def b_y (x:Int):List B:=[(.val (.int .u8 x))]
def d_y (x:Int):List D:=[(.val (.int .u8 x))]
theorem toBR_y:∀(l:List Int),toBR (l.map d_y)=l.map b_y
  |[]=>rfl
  |x::l=>by simp[toBR,toBL,toB,d_y,b_y,toBR_y l]
theorem fullR_y:∀(l:List Int),fullR (l.map d_y)=true
  |[]=>rfl
  |x::l=>by simp[fullR,fullL,full,d_y,fullR_y l]
theorem pureR_y:∀(l:List Int),pureR (l.map d_y)=true
  |[]=>rfl
  |x::l=>by simp[pureR,pureL,V.pure,d_y,pureR_y l]
theorem ft_y (a b:Nat) (l:List Int):fullR (take a (drop b (l.map d_y)))=true:=by rw[← map_drop,← map_take]; exact fullR_y _
theorem tb_y (l:List Int):toBR (take (l.map d_y).length (drop 0 (l.map d_y)))=l.map b_y:=by rw[List.drop_zero,List.take_length]; exact toBR_y l
theorem ln_y {hs q} (x:List Int) (r:PS F X hs q):PS F X hs ((0+(x.map d_y).length≤(x.map d_y).length)::(fullR (take (x.map d_y).length (drop 0 (x.map d_y)))=true)::(toBR (take (x.map d_y).length (drop 0 (x.map d_y)))=x.map b_y)::q):=.f (Nat.le_of_eq (Nat.zero_add _)) (.f (ft_y _ _ _) (.f (tb_y _) r))
theorem lenB_y (l:List Int):∀r∈l.map b_y,r.length=1:=by intro r h; obtain⟨x,_,rfl⟩:=List.mem_map.1 h; rfl
theorem lenD_y (l:List Int):∀r∈l.map d_y,r.length=1:=by intro r h; obtain⟨x,_,rfl⟩:=List.mem_map.1 h; rfl
theorem fromBR_y (n:Nat) (l:List Int):fromBR n (l.map b_y)=l.map d_y:=by simp[fromBR,b_y,d_y,fromB,Function.comp_def]
theorem copy_y (l:List Int):(l.map d_y).all (fun x=>x.all copyable)=true:=by simp[d_y,copyable,Function.comp_def]
theorem ct_y (a b:Nat) (l:List Int):((take a (drop b (l.map d_y))).all fun x=>x.all copyable)=true:=by rw[← map_drop,← map_take]; exact copy_y _
def strInts (s:ByteArray):List Int:=s.data.toList.map fun b=>(b.toNat:Int)
theorem ly_y (a:Int) (l:List Int):[D.val (.int .u8 a)]::map d_y l=map d_y (a::l):=rfl
theorem ly0_y (a:Int):[[D.val (.int .u8 a)]]=map d_y [a]:=rfl
theorem strInts_len (s:ByteArray):(strInts s).length=s.size:=by simp[strInts]
theorem byteRows_len (s:ByteArray):(byteRows s).length=s.size:=by simp[byteRows]
theorem byteRows_eq (s:ByteArray):byteRows s=(strInts s).map d_y:=by simp[byteRows,strInts,d_y,Function.comp_def]
theorem tsi (s:ByteArray):take (ByteArray.size s) (map d_y (strInts s))=map d_y (strInts s):=by rw[take_of_length_le (by simp[strInts_len])]
theorem tbr (s:ByteArray):take (ByteArray.size s) (byteRows s)=map d_y (strInts s):=by rw[byteRows_eq,tsi]
theorem ints_y:∀(l:List Int),rowsInts .u8 (l.map d_y)=some l
  |[]=>rfl
  |x::l=>by simp only[List.map_cons,d_y,rowsInts,ints_y l]; rfl
def b_LyE (x:(List Int)):List B:=[(.sl (map b_y x))]
def d_LyE (x:(List Int)):List D:=[(.own 1 (map d_y x))]
theorem toBR_LyE:∀(l:List (List Int)),toBR (l.map d_LyE)=l.map b_LyE
  |[]=>rfl
  |x::l=>by simp[toBR,toBL,toB,d_LyE,b_LyE,toBR_LyE l,toBR_y]
theorem fullR_LyE:∀(l:List (List Int)),fullR (l.map d_LyE)=true
  |[]=>rfl
  |x::l=>by simp[fullR,fullL,full,d_LyE,fullR_LyE l,fullR_y]
theorem pureR_LyE:∀(l:List (List Int)),pureR (l.map d_LyE)=true
  |[]=>rfl
  |x::l=>by simp[pureR,pureL,V.pure,d_LyE,pureR_LyE l,pureR_y]
theorem lenB_LyE (l:List (List Int)):∀r∈l.map b_LyE,r.length=1:=by intro r h; obtain⟨x,_,rfl⟩:=List.mem_map.1 h; rfl
theorem lenD_LyE (l:List (List Int)):∀r∈l.map d_LyE,r.length=1:=by intro r h; obtain⟨x,_,rfl⟩:=List.mem_map.1 h; rfl
def ok_LyE (x:(List Int)):Prop:=(length x*1≤140737488351232)
def b_LLyEE (x:(List (List Int))):List B:=[(.sl (map b_LyE x))]
def d_LLyEE (x:(List (List Int))):List D:=[(.own 1 (map d_LyE x))]
theorem toBR_LLyEE:∀(l:List (List (List Int))),toBR (l.map d_LLyEE)=l.map b_LLyEE
  |[]=>rfl
  |x::l=>by simp[toBR,toBL,toB,d_LLyEE,b_LLyEE,toBR_LLyEE l,toBR_LyE]
theorem fullR_LLyEE:∀(l:List (List (List Int))),fullR (l.map d_LLyEE)=true
  |[]=>rfl
  |x::l=>by simp[fullR,fullL,full,d_LLyEE,fullR_LLyEE l,fullR_LyE]
theorem pureR_LLyEE:∀(l:List (List (List Int))),pureR (l.map d_LLyEE)=true
  |[]=>rfl
  |x::l=>by simp[pureR,pureL,V.pure,d_LLyEE,pureR_LLyEE l,pureR_LyE]
theorem lenB_LLyEE (l:List (List (List Int))):∀r∈l.map b_LLyEE,r.length=1:=by intro r h; obtain⟨x,_,rfl⟩:=List.mem_map.1 h; rfl
theorem lenD_LLyEE (l:List (List (List Int))):∀r∈l.map d_LLyEE,r.length=1:=by intro r h; obtain⟨x,_,rfl⟩:=List.mem_map.1 h; rfl
def ok_LLyEE (x:(List (List Int))):Prop:=(length x*24≤140737488351232)∧(∀z∈x,ok_LyE z)
attribute [local simp] toBR_i fullR_i pureR_i lenB_i lenD_i fromBR_i copy_i toBR_N fullR_N pureR_N lenB_N lenD_N toBR_U fullR_U pureR_U lenB_U lenD_U toBR_T fullR_T pureR_T lenB_T lenD_T toBR_J fullR_J pureR_J lenB_J lenD_J toBR_JL fullR_JL pureR_JL lenB_JL lenD_JL toBR_KY fullR_KY pureR_KY lenB_KY lenD_KY fromBR_KY copy_KY toBR_LiiiiE fullR_LiiiiE pureR_LiiiiE lenB_LiiiiE lenD_LiiiiE toBR_b fullR_b pureR_b lenB_b lenD_b fromBR_b copy_b toBR_SR fullR_SR pureR_SR lenB_SR lenD_SR toBR_G fullR_G pureR_G lenB_G lenD_G toBR_TL fullR_TL pureR_TL lenB_TL lenD_TL toBR_LiE fullR_LiE pureR_LiE lenB_LiE lenD_LiE toBR_NL fullR_NL pureR_NL lenB_NL lenD_NL toBR_UL fullR_UL pureR_UL lenB_UL lenD_UL strInts_len byteRows_len toBR_y fullR_y pureR_y lenB_y lenD_y fromBR_y copy_y toBR_LyE fullR_LyE pureR_LyE lenB_LyE lenD_LyE toBR_LLyEE fullR_LLyEE pureR_LLyEE lenB_LLyEE lenD_LLyEE
theorem md1 {a:Int} (h0:0≤a) (h:(Int.tmod a 2==1)=true):1≤a:=by
  by_cases e:a=0
  · subst e; simp at h
  · omega
theorem xor1 {a:Int} (h0:0≤a) (h1:a≤1000):0≤bitsV .xor .i64 a 1:=by
  obtain⟨n,rfl⟩:=Int.eq_ofNat_of_zero_le h0
  show 0≤wrap .i64 (((BitVec.ofInt 64 (n:Int) ^^^ BitVec.ofInt 64 1).toNat:Nat):Int)
  rw[BitVec.toNat_xor,BitVec.toNat_ofInt,BitVec.toNat_ofInt]
  have e1:((n:Int) %((2 ^ 64:Nat):Int)).toNat=n:=by omega
  have e2:((1:Int) %((2 ^ 64:Nat):Int)).toNat=1:=by omega
  rw[e1,e2]
  have:=Nat.xor_lt_two_pow (x:=n) (y:=1) (n:=10) (by omega) (by omega)
  rw[wrap64 (by omega)]; omega
def SmT (t:K_T):Prop:=length t.f1≤4∧(∀x∈t.f1,length x.f2≤8)∧length t.f2≤4∧∀x∈t.f2,length x.f1≤12
def SmJ (z:K_J):Prop:=1≤length z.f5∧length z.f5≤4∧(∀u∈z.f5,SmT u)∧length (getD z.f5 0 (K_T.mk 0 [] [])).f2=2
theorem SmT.ok {z:K_T} (h:SmT z):ok_T z:=by
  obtain⟨h1,h2,h3,h4⟩:=h
  refine⟨by omega,fun x hx=>?_,by omega,fun x hx=>?_⟩
  · have:=h2 x hx
    simp only[ok_N]; omega
  · have:=h4 x hx
    simp only[ok_U]; omega
theorem SmJ.ok {z:K_J} (h:SmJ z):ok_J z:=⟨by have:=h.2.1; omega,fun u hu=>(h.2.2.1 u hu).ok⟩
theorem wu0 (x:Int):0≤wrap .u64 x:=by
  show 0≤(if(false && decide (x % 2 ^ 64≥2 ^(64 - 1)))=true then x % 2 ^ 64 - 2 ^ 64 else x % 2 ^ 64)
  rw[if_neg (by simp)]; omega
theorem nz0 {x:Int} (h:¬(x !=0)=true):x=0:=by simpa using h
def isN:VX.Exit→Bool
  |.normal=>true
  |_=>false
theorem lx {b:VC} {σ σ':St} {e:VX.Exit} (t:Nat) {hs q} (h:codeH F X b 0 hs σ=some (e,σ',t,[],q)) (p:PS F X hs q) (n:isN e=false):Ev F X (.code (.loop b) σ e σ'):=.loopX (codeP_ok h p) (fun k=>by rw[k] at n; cases n)
theorem ly {b:VC} {σ σ' τ:St} {e:VX.Exit} (t:Nat) {hs q} (h:codeH F X b 0 hs σ=some (.normal,σ',t,[],q)) (p:PS F X hs q) (i:Ev F X (.code (.loop b) σ' e τ)):Ev F X (.code (.loop b) σ e τ):=.loopN (codeP_ok h p) i
theorem hcy {α β:Type} (f:α→β) {p y l:List α} {x:α} (h:p++x::y=l):(decide ((List.length p:Int) <((List.length (List.map f l)):Int)))=true:=by subst h; simp; omega
theorem hcn {α β:Type} (f:α→β) {p l:List α} (h:p++[]=l):¬(decide ((List.length p:Int) <((List.length (List.map f l)):Int)))=true:=by subst h; simp
theorem hxy {α:Type} {p y l:List α} {x:α} (h:p++x::y=l):l[Int.toNat (List.length p:Int)]?=some x:=by subst h; rw[Int.toNat_natCast]; simp
theorem hly {α:Type} {p y l:List α} {x:α} (h:p++x::y=l):List.length l=List.length p+List.length y+1:=by subst h; simp; omega
theorem pl1 {α:Type} (p:List α) (x:α):((p++[x]).length:Int)=(p.length:Int)+1:=by simp
theorem LN:(∀{α β:Type} (f:α→β) (l:List α),length (map f l)=length l)∧(∀{α:Type} (l:List α) (i:Nat) (a:α),length (set l i a)=length l)∧(∀{α:Type} (a b:List α),length (a++b)=length a+length b)∧(∀{α:Type} (n:Nat) (a:α),length (List.replicate n a)=n)∧(∀{α:Type} (a:α) (l:List α),length (a::l)=length l+1)∧(∀{α:Type},length ([]:List α)=0):=⟨fun _ _=>List.length_map _,fun _ _ _=>List.length_set,fun _ _=>List.length_append,fun _ _=>List.length_replicate,fun _ _=>rfl,rfl⟩
theorem ya {p:Prop} (h:p:=by kernel_rfl):p:=h
theorem yb {p:Prop} (h:p:=by omega):p:=h
theorem yc {p:Prop} (h:p:=by have e1:wrap .i64 (v0+1)=v0+1:=wrap64 (by omega); have e0:wrap .i64 (v0 - 1)=v0 - 1:=wrap64 (by omega); have e2:wrap .i64 (v0+2)=v0+2:=wrap64 (by omega); simp only[decide_eq_true_eq,length_map,e1,e0,e2] at h_0⊢; omega):p:=h
theorem yd {p:Prop} (h:p:=by rw[append_assoc]; exact hp0):p:=h
theorem ye {p:Prop} (h:p:=by simp only[List.drop_zero,tbr,tsi,ly_y,ly0_y,← List.map_append,List.take_length,List.cons_append,List.nil_append,append_assoc]; exact lenD_y _):p:=h
theorem yf {p:Prop} (h:p:=by have q0:=hy5 x0 (List.mem_of_getElem? Hx0); have q1:=pl151 x0.f1; have q2:=pb152 x0.f0; have q3:=pn153 x0.f2; simp only[length_map,length_append,length_take,length_drop,length_cons,length_nil,List.length_flatten,List.map_cons,List.map_nil,List.sum_cons,List.sum_nil] at*; omega):p:=h
theorem yg {p:Prop} (h:p:=by simp only[decide_eq_true_eq,length_map,length_append,length_cons,length_nil] at*; rw[wrap64 (by omega)]; omega):p:=h
theorem yh {p:Prop} (h:p:=by simp only[List.drop_zero,tbr,tsi,ly_y,ly0_y,← List.map_append,List.take_length,List.cons_append,List.nil_append,append_assoc,toBR_y,fullR_y,pureR_y,copy_y,ints_y]; done):p:=h
theorem yi {p:Prop} (h:p:=by rw[Nat.zero_add,map_set,List.getElem?_set_self (by simp only[length_map]; omega)]; rfl):p:=h
theorem yj {p:Prop} (h:p:=by simp only[length_map,length_append,length_take,length_drop,length_cons,length_nil,List.length_flatten,List.map_cons,List.map_nil,List.sum_cons,List.sum_nil] at*; omega):p:=h
theorem yk {p:Prop} (h:p:=by have q4:=pl160 a0.f0; have q5:=pl160 ((length (map b_N a0.f1)):Int); have q6:=pl160 ((length (map b_U a0.f2)):Int); have q7:=lk141_0 hy5 h0 (by simp only[length_append]; have q4:=pl160 a0.f0; have q5:=pl160 ((length (map b_N a0.f1)):Int); have q6:=pl160 ((length (map b_U a0.f2)):Int); omega); simp only[length_append] at q7; simp only[length_map,length_append,length_take,length_drop,length_cons,length_nil,List.length_flatten,List.map_cons,List.map_nil,List.sum_cons,List.sum_nil] at q5 q6 q7⊢; omega):p:=h
theorem yl {p:Prop} (h:p:=by simp only[length_map]; omega):p:=h
theorem ym {p:Prop} (h:p:=by have q4:=pl151 a0.f0; have q5:=pl151 ((length (map b_N a0.f1)):Int); have q6:=pl151 ((length (map b_U a0.f2)):Int); simp only[length_map,length_append,length_take,length_drop,length_cons,length_nil,List.length_flatten,List.map_cons,List.map_nil,List.sum_cons,List.sum_nil] at*; omega):p:=h
theorem yn {p:Prop} (h:p:=by have q4:=pl160 a0.f0; have q5:=pl160 ((length (map b_N a0.f1)):Int); have q6:=pl160 ((length (map b_U a0.f2)):Int); simp only[length_map,length_append,length_take,length_drop,length_cons,length_nil,List.length_flatten,List.map_cons,List.map_nil,List.sum_cons,List.sum_nil] at*; omega):p:=h
theorem yo {p:Prop} (h:p:=by simp only[LN]; omega):p:=h
theorem yp {p:Prop} (h:p:=by simp only[decide_eq_true_eq,length_map,length_append,length_take,length_drop,length_cons,length_nil] at*; omega):p:=h
theorem yq {p:Prop} (h:p:=by simp[take_of_length_le,d_y,ol112,ol83,ol84,ol51,ol21,four_len]; done):p:=h
theorem yr {p:Prop} (h:p:=by have q:=gos_J (l:=a0) (by first | assumption |(intro z hz; exact(by assumption:∀z∈_,os_J z) z (List.mem_of_mem_take hz))) (toNat (m1011600 a0 a2.f0)) (K_J.mk 0 0 0 0 0 []) (by simp[os_J,ByteArray.size]); first | exact q | exact q.1 | exact q.2 | exact q.2.1 | exact q.2.2 | exact Nat.le_trans q (by decide) | exact Nat.le_trans q.1 (by decide) |(have q1:=q.1; simp only[length_map]; omega)):p:=h
theorem ys {p:Prop} (h:p:=by have q:=gos_J (l:=a0) (by first | assumption |(intro z hz; exact(by assumption:∀z∈_,os_J z) z (List.mem_of_mem_take hz))) (toNat (m86 a0 a2.f0)) (K_J.mk 0 0 0 0 0 []) (by simp[os_J,ByteArray.size]); first | exact q | exact q.1 | exact q.2 | exact q.2.1 | exact q.2.2 | exact Nat.le_trans q (by decide) | exact Nat.le_trans q.1 (by decide) |(have q1:=q.1; simp only[length_map]; omega)):p:=h
theorem yt {p:Prop} (h:p:=by have q0:=hy7 x0 (List.mem_of_getElem? Hx0); have q2:=pb152 x0.f0; have q3:=pn153 x0.f1; simp only[length_map,length_append,length_take,length_drop,length_cons,length_nil,List.length_flatten,List.map_cons,List.map_nil,List.sum_cons,List.sum_nil] at*; omega):p:=h
theorem yu {p:Prop} (h:p:=by simp only[length_map,length_append,length_cons,length_nil,length_take,length_drop]; omega):p:=h
theorem yv {p:Prop} (h:p:=by have q7:=lk129_0 hy5 ‹_›; have q4:=pl151 a0.f0; have q5:=pl151 ((length (map b_N a0.f1)):Int); have q6:=pl151 ((length (map b_U a0.f2)):Int); simp only[length_map,length_append,length_take,length_drop,length_cons,length_nil,List.length_flatten,List.map_cons,List.map_nil,List.sum_cons,List.sum_nil] at*; omega):p:=h
theorem yw {p:Prop} (h:p:=by have q:=abl107 v0 (by omega); have q2:=abu107 v0 (by omega); simp only[decide_eq_true_eq,length_map] at h_0; omega):p:=h
theorem yx {p:Prop} (h:p:=by have q:=abl98 v0 (by omega); have q2:=abu98 v0 (by omega); simp only[decide_eq_true_eq,length_map] at h_0; omega):p:=h
theorem yy {p:Prop} (h:p:=by simp only[length_map,length_set]; omega):p:=h
theorem yz {p:Prop} (h:p:=by simp only[LN,Int.toNat_natCast]; first | exact drop_set_next hi1 _ | exact drop_next hi1):p:=h
theorem yA {p:Prop} (h:p:=by simp only[nav];(rw[Nat.zero_add,map_set,List.getElem?_set_self (by simp only[length_map]; omega)]); rfl):p:=h
theorem yB {p:Prop} (h:p:=by simp[take_of_length_le,d_y,ol112,ol83,ol84,ol51,ol21,four_len,high4,high2]; done):p:=h
theorem yC {p:Prop} (h:p:=by rw[wrap64 (by simp only[decide_eq_true_eq] at*; omega)]; simp only[decide_eq_true_eq] at*; omega):p:=h
theorem yD {p:Prop} (h:p:=by simp only[List.drop_zero,tbr,tsi,ly_y,ly0_y,← List.map_append,List.take_length,List.cons_append,List.nil_append,append_assoc]; simp only[length_map,length_append,length_cons,length_nil,strInts_len,ol112,ol83,ol84,ol51,ol21,four_len]; omega):p:=h
theorem yE {p:Prop} (h:p:=by trivial):p:=h
theorem yF {p:Prop} (h:p:=by simp only[fromBR_KY,List.nil_append,length_take,length_drop,decide_eq_true_eq,length_map,length_append,length_cons,length_nil] at*; omega):p:=h
theorem yG {p:Prop} (h:p:=by decide):p:=h
theorem yH {p:Prop} (h:p:=by simp[toBR,toBL,toB,tsi,byteRows_eq,b_i,b_N,b_U,b_T,b_J,b_JL,b_KY,b_LiiiiE,b_b,b_SR,b_G,b_TL,b_LiE,b_NL,b_UL,b_y,b_LyE,b_LLyEE,ol112,ol83,ol84,ol51,ol21,four_len,high4,high2]; done):p:=h
theorem yI {p:Prop} (h:p:=by have q0:=pl151 x0; simp only[length_map,length_append,length_take,length_drop,length_cons,length_nil,List.length_flatten,List.map_cons,List.map_nil,List.sum_cons,List.sum_nil] at*; omega):p:=h
theorem yJ {p:Prop} (h:p:=by have q0:=pl160 x0; simp only[length_map,length_append,length_take,length_drop,length_cons,length_nil,List.length_flatten,List.map_cons,List.map_nil,List.sum_cons,List.sum_nil] at*; omega):p:=h
theorem yK {p:Prop} (h:p:=by with_reducible assumption):p:=h
theorem yL {p:Prop} (h:p:=by simp[take_of_length_le,d_KY,ol112,ol83,ol84,ol51,ol21,four_len,high4,high2]; done):p:=h
theorem yM {p:Prop} (h:p:=by simp only[LN]; done):p:=h
theorem yN {p:Prop} (h:p:=by simp only[wt_i,wt_N,wt_U,wt_T,wt_J,wt_JL,wt_KY,wt_LiiiiE,wt_b,wt_SR,wt_G,wt_TL,wt_LiE,wt_NL,wt_UL,wt_y,wt_LyE,wt_LLyEE] at*; omega):p:=h
theorem yO {p:Prop} (h:p:=by simp only[length_map,length_append,length_take,length_drop,length_cons,length_nil,four_len] at*; omega):p:=h
theorem yP {p:Prop} (h:p:=by simp[take_of_length_le,d_T,d_J,ol112,ol83,ol84,ol51]; done):p:=h
theorem yQ {p:Prop} (h:p:=by simp[ol112,ol83,ol84,ol51,ol21,four_len,high4,high2]; done):p:=h
theorem yR {p:Prop} (h:p:=by rw[wrap64 (by omega)]; simp only[decide_eq_true_eq,length_map] at*; omega):p:=h
theorem yS {p:Prop} (h:p:=by simp only[length_map,length_append,length_take,length_drop,length_cons,length_nil,high4] at*; omega):p:=h
theorem yT {p:Prop} (h:p:=by have e:wrap .i64 (a1 - 0)=a1:=(by rw[Int.sub_zero]; exact wrap64 (by omega)); rw[e] at h1⊢; simp only[decide_eq_true_eq,length_replicate] at*; omega):p:=h
theorem yU {p:Prop} (h:p:=by simp only[decide_eq_true_eq,length_map,length_append,length_cons,length_nil] at*; omega):p:=h
theorem yV {p:Prop} (h:p:=by have q:=hy4.1; have q2:=hy4.2.2.1; simp only[length_nil]; omega):p:=h
theorem yW {p:Prop} (h:p:=by simp[ol112,ol83,ol84,ol51,ol21,four_len]; done):p:=h
theorem yX {p:Prop} (h:p:=by simp at*; omega):p:=h
theorem yY {p:Prop} (h:p:=by simp only[List.flatten_cons,length_append,List.flatten_nil,length_nil,length_map] at*; rw[wrap64 (by omega)]; omega):p:=h
theorem yZ {p:Prop} (h:p:=by simp[fullR,fullL,full,pureR,pureL,V.pure,byteRows_eq,ol112,ol83,ol84,ol51,ol21,four_len,high4,high2]; done):p:=h
theorem yaa {p:Prop} (h:p:=by simp[take_of_length_le,d_i,ol112,ol83,ol84,ol51,ol21,four_len]; done):p:=h
theorem yab {p:Prop} (h:p:=by simpa using h):p:=h
theorem yac {p:Prop} (h:p:=by rw[append_assoc]; exact hp1):p:=h
theorem yad {p:Prop} (h:p:=by simp only[LN] at hl1; omega):p:=h
theorem yae {p:Prop} (h:p:=by unfold h129_0; simp[hw,take_of_length_le,d_y,ol112,ol83,ol84,ol51,ol21,four_len]; done):p:=h
theorem yaf {p:Prop} (h:p:=by simp only[List.flatten_cons,List.flatten_nil,List.append_nil,length_append]; omega):p:=h
theorem yag {p:Prop} (h:p:=by have q:=okm28 a0 a1 a2 a3; exact q.2.1):p:=h
theorem yah {p:Prop} (h:p:=by have q:=okm28 a0 a1 a2 a3; exact q.2.2):p:=h
theorem yai {p:Prop} (h:p:=by simp[take_of_length_le,d_i,ol112,ol83,ol84,ol51,ol21,four_len,high4,high2]; done):p:=h
theorem yaj {p:Prop} (h:p:=by have q:=ix1011600 a0 a2.f0; simp only[decide_eq_true_eq,length_map] at*; omega):p:=h
theorem yak {p:Prop} (h:p:=by rw[wrap64 (by omega)]; omega):p:=h
theorem yal {p:Prop} (h:p:=by simp only[decide_eq_true_eq,length_map] at*; omega):p:=h
theorem yam {p:Prop} (h:p:=by have q:=okm28 a0 a1 a2 a3; exact q.1):p:=h
theorem yan {p:Prop} (h:p:=by have q:=ix86 a0 a2.f0; simp only[decide_eq_true_eq,length_map] at*; omega):p:=h
theorem yao {p:Prop} (h:p:=by refine⟨by omega,?_⟩; have q:=hy2.2.2.2; simp only[length_map]; omega):p:=h
theorem yap {p:Prop} (h:p:=by simp only[List.drop_zero,take,List.all_cons,List.all_nil,copyable]; rfl):p:=h
theorem yaq {p:Prop} (h:p:=by simp[take_of_length_le,d_KY,ol112,ol83,ol84,ol51,ol21,four_len]; done):p:=h
theorem yar {p:Prop} (h:p:=by simp only[length_append]; omega):p:=h
theorem yas {p:Prop} (h:p:=by simp only[decide_eq_true_eq] at*; omega):p:=h
theorem yat {p:Prop} (h:p:=by have q:=okm25 a0 a1 a2 a3; exact q.2.1):p:=h
theorem yau {p:Prop} (h:p:=by have q:=okm25 a0 a1 a2 a3; exact q.2.2):p:=h
theorem yav {p:Prop} (h:p:=by have q:=okm25 a0 a1 a2 a3; exact q.1):p:=h
theorem yaw {p:Prop} (h:p:=by simp only[decide_eq_true_eq]; omega):p:=h
theorem yax {p:Prop} (h:p:=by simp[take_of_length_le,d_i]; done):p:=h
theorem yay {p:Prop} (h:p:=by simp):p:=h
def m166 (a0:(List Int)) (a1:Int):Int:=
  if(decide ((wrap .i64 (a1 - ((length (map b_i a0)):Int))) < 0))=true then(-1) else
  (wrap .i64 (a1 - ((length (map b_i a0)):Int)))
theorem e166 {l0_0:Nat} {a0:(List Int)} {a1:Int}:Ev F X (.call 166 [(.one (.bor l0_0 (map b_i a0))),(.one (.val (.int .i64 a1)))] [] [] [(.one (.val (.int .i64 (m166 a0 a1))))]):=by
  unfold m166
  by_cases h0:(decide ((wrap .i64 (a1 - ((length (map b_i a0)):Int))) < 0))=true
  · try simp only[if_pos h0]
    exact cp ya (.f h0 (.h 16 (.b true) .nil))
  · try simp only[if_neg h0]
    exact cp ya (.f (nt h0) (.h 16 (.b false) .nil))
def m147 (a0:K_N) (a1:Int):Int:=
  if(decide ((m166 a0.f2 a1) < 0))=true then(-1) else
  (m166 a0.f2 a1)
theorem e147 {l0_2:Nat} {a0:K_N} {a1:Int}:Ev F X (.call 147 [(.agg (k_N l0_2 a0)),(.one (.val (.int .i64 a1)))] [] [] [(.one (.val (.int .i64 (m147 a0 a1))))]):=by
  unfold m147
  have P0 {hs q} (r:PS F X hs q):=(PS.r 11 [] [] (e166 (l0_0:=(l0_2+1)) (a0:=a0.f2) (a1:=a1)) r)
  by_cases h0:(decide ((m166 a0.f2 a1) < 0))=true
  · try simp only[if_pos h0]
    exact cp ya (P0 (.f h0 (.h 18 (.b true) .nil)))
  · try simp only[if_neg h0]
    exact cp ya (P0 (.f (nt h0) (.h 18 (.b false) .nil)))
inductive O120_0 where
  |k0 (w0:Int) (w1:Int) (w2:Bool)
  |k1
def r120_0 (a0:(List K_N)):List K_N→Int→Int→O120_0
  |x0::y0,i,v0=>
    if(decide ((m147 x0 v0) < 0))=true then(O120_0.k1) else
    (r120_0 a0 y0 (i+1) (m147 x0 v0))
  |[],i,v0=>(O120_0.k0 v0 i (decide (i <((length (map b_N a0)):Int))))
def h120_0 (l0_0:Nat) (a0:(List K_N)) (a1:Int) (i:Int) (v0:Int):St:=⟨[(0,(.one (.bor l0_0 (map b_N a0)))),(1,(.one (.val (.int .i64 v0)))),(5,(.one (.val (.int .i64 i))))],[]⟩
def ex120_0:O120_0→VX.Exit
  |.k0 _ _ _=>(.exit 0)
  |.k1=>.ret
def fin120_0 (l0_0:Nat) (a0:(List K_N)) (a1:Int):O120_0→St
  |.k0 w0 w1 w2=>⟨[(0,(.one (.bor l0_0 (map b_N a0)))),(1,(.one (.val (.int .i64 w0)))),(5,(.one (.val (.int .i64 w1)))),(15,(.one (.val (.bool w2))))],[]⟩
  |.k1=>⟨[(4,(.one (.val (.int .i64 (-1)))))],[]⟩
theorem t120_0 {l0_0:Nat} {a0:(List K_N)} {a1:Int} (hy0:length a0*40≤140737488351232) (hy1:∀z∈a0,ok_N z):∀(y0:List K_N) (p:List K_N) (v0:Int),p++y0=a0→Ev F X (.code l120_0 (h120_0 l0_0 a0 a1 (length p:Int) v0) (ex120_0 (r120_0 a0 y0 (length p:Int) v0)) (fin120_0 l0_0 a0 a1 (r120_0 a0 y0 (length p:Int) v0)))
  |[],p,v0,hp0=>by
    have hc:=hcn b_N hp0
    exact lx 9 ya (.f (nt hc) (.h 8 (.b false) .nil)) rfl
  |x0::y0,p,v0,hp0=>by
    have hc:=hcy b_N hp0
    have Hx0:=hxy hp0
    have Mx0_0:=hy1 x0 (List.mem_of_getElem? Hx0)
    have hlen:=hly hp0
    have hw:wrap .i64 ((length p:Int)+1)=(length p:Int)+1:=wrap64 yb
    simp only[r120_0]
    have f1:0≤(length p:Int):=yb
    have P1 {hs q} (r:PS F X hs q):=(PS.f hc (.f f1 (.f (mp_ b_N Hx0) (.h 8 (.b true) (.h 14 (.row (b_N x0)) (.r 20 [] [] (e147 (l0_2:=(l0_0+1)) (a0:=x0) (a1:=v0)) r))))))
    by_cases h_1:(decide ((m147 x0 v0) < 0))=true
    · try simp only[if_pos h_1]
      exact lx 30 ya (P1 (.f h_1 (.h 27 (.b true) .nil))) rfl
    · try simp only[if_neg h_1]
      have ih:=t120_0 (l0_0:=l0_0) (a0:=a0) (a1:=a1) hy0 hy1 y0 (p++ [x0]) (m147 x0 v0) yd
      rw[pl1,← hw] at ih; rw[← hw]
      exact ly 34 ya (P1 (.f (nt h_1) (.f trivial (.h 27 (.b false) .nil)))) ih
def m120 (a0:(List K_N)) (a1:Int):Int:=
  if(decide ((wrap .i64 (a1 - ((length (map b_N a0)):Int))) < 0))=true then(-1) else
  (match r120_0 a0 a0 0 (wrap .i64 (a1 - ((length (map b_N a0)):Int))) with | .k0 w0_1 w1_1 w2_1=>w0_1 | .k1=>(-1))
theorem e120 {l0_0:Nat} {a0:(List K_N)} {a1:Int} (hy0:length a0*40≤140737488351232) (hy1:∀z∈a0,ok_N z):Ev F X (.call 120 [(.one (.bor l0_0 (map b_N a0))),(.one (.val (.int .i64 a1)))] [] [] [(.one (.val (.int .i64 (m120 a0 a1))))]):=by
  unfold m120
  by_cases h0:(decide ((wrap .i64 (a1 - ((length (map b_N a0)):Int))) < 0))=true
  · try simp only[if_pos h0]
    exact cp ya (.f h0 (.h 16 (.b true) .nil))
  · try simp only[if_neg h0]
    cases h1:r120_0 a0 a0 0 (wrap .i64 (a1 - ((length (map b_N a0)):Int))) with
    |k0 w0_1 w1_1 w2_1=>
      try dsimp only
      have f1:=Eq.refl (h120_0 l0_0 a0 a1 0 (wrap .i64 (a1 - ((length (map b_N a0)):Int))))
      exact cp ya (.f (nt h0) (.f f1 (.f (ev_ (e:=ex120_0) (g:=(fin120_0 l0_0 a0 a1)) h1 (t120_0 (l0_0:=l0_0) (a0:=a0) (a1:=a1) (by assumption) (by assumption) a0 [] (wrap .i64 (a1 - ((length (map b_N a0)):Int))) rfl)) (.h 16 (.b false) (.h 19 (.loop (h120_0 l0_0 a0 a1 0 (wrap .i64 (a1 - ((length (map b_N a0)):Int)))) (.exit 0) (fin120_0 l0_0 a0 a1 (.k0 w0_1 w1_1 w2_1))) .nil)))))
    |k1=>
      try dsimp only
      have f1:=Eq.refl (h120_0 l0_0 a0 a1 0 (wrap .i64 (a1 - ((length (map b_N a0)):Int))))
      exact cp ya (.f (nt h0) (.f f1 (.f (ev_ (e:=ex120_0) (g:=(fin120_0 l0_0 a0 a1)) h1 (t120_0 (l0_0:=l0_0) (a0:=a0) (a1:=a1) (by assumption) (by assumption) a0 [] (wrap .i64 (a1 - ((length (map b_N a0)):Int))) rfl)) (.h 16 (.b false) (.h 19 (.loop (h120_0 l0_0 a0 a1 0 (wrap .i64 (a1 - ((length (map b_N a0)):Int)))) .ret (fin120_0 l0_0 a0 a1 (.k1))) .nil)))))
def m148 (a0:K_U) (a1:Int):Int:=
  if(decide ((m166 a0.f1 a1) < 0))=true then(-1) else
  (m166 a0.f1 a1)
theorem e148 {l0_1:Nat} {a0:K_U} {a1:Int}:Ev F X (.call 148 [(.agg (k_U l0_1 a0)),(.one (.val (.int .i64 a1)))] [] [] [(.one (.val (.int .i64 (m148 a0 a1))))]):=by
  unfold m148
  have P0 {hs q} (r:PS F X hs q):=(PS.r 11 [] [] (e166 (l0_0:=(l0_1+1)) (a0:=a0.f1) (a1:=a1)) r)
  by_cases h0:(decide ((m166 a0.f1 a1) < 0))=true
  · try simp only[if_pos h0]
    exact cp ya (P0 (.f h0 (.h 18 (.b true) .nil)))
  · try simp only[if_neg h0]
    exact cp ya (P0 (.f (nt h0) (.h 18 (.b false) .nil)))
inductive O121_0 where
  |k0 (w0:Int) (w1:Int) (w2:Bool)
  |k1
def r121_0 (a0:(List K_U)):List K_U→Int→Int→O121_0
  |x0::y0,i,v0=>
    if(decide ((m148 x0 v0) < 0))=true then(O121_0.k1) else
    (r121_0 a0 y0 (i+1) (m148 x0 v0))
  |[],i,v0=>(O121_0.k0 v0 i (decide (i <((length (map b_U a0)):Int))))
def h121_0 (l0_0:Nat) (a0:(List K_U)) (a1:Int) (i:Int) (v0:Int):St:=⟨[(0,(.one (.bor l0_0 (map b_U a0)))),(1,(.one (.val (.int .i64 v0)))),(5,(.one (.val (.int .i64 i))))],[]⟩
def ex121_0:O121_0→VX.Exit
  |.k0 _ _ _=>(.exit 0)
  |.k1=>.ret
def fin121_0 (l0_0:Nat) (a0:(List K_U)) (a1:Int):O121_0→St
  |.k0 w0 w1 w2=>⟨[(0,(.one (.bor l0_0 (map b_U a0)))),(1,(.one (.val (.int .i64 w0)))),(5,(.one (.val (.int .i64 w1)))),(15,(.one (.val (.bool w2))))],[]⟩
  |.k1=>⟨[(4,(.one (.val (.int .i64 (-1)))))],[]⟩
theorem t121_0 {l0_0:Nat} {a0:(List K_U)} {a1:Int} (hy0:length a0*32≤140737488351232) (hy1:∀z∈a0,ok_U z):∀(y0:List K_U) (p:List K_U) (v0:Int),p++y0=a0→Ev F X (.code l121_0 (h121_0 l0_0 a0 a1 (length p:Int) v0) (ex121_0 (r121_0 a0 y0 (length p:Int) v0)) (fin121_0 l0_0 a0 a1 (r121_0 a0 y0 (length p:Int) v0)))
  |[],p,v0,hp0=>by
    have hc:=hcn b_U hp0
    exact lx 9 ya (.f (nt hc) (.h 8 (.b false) .nil)) rfl
  |x0::y0,p,v0,hp0=>by
    have hc:=hcy b_U hp0
    have Hx0:=hxy hp0
    have Mx0_0:=hy1 x0 (List.mem_of_getElem? Hx0)
    have hlen:=hly hp0
    have hw:wrap .i64 ((length p:Int)+1)=(length p:Int)+1:=wrap64 yb
    simp only[r121_0]
    have f1:0≤(length p:Int):=yb
    have P1 {hs q} (r:PS F X hs q):=(PS.f hc (.f f1 (.f (mp_ b_U Hx0) (.h 8 (.b true) (.h 14 (.row (b_U x0)) (.r 20 [] [] (e148 (l0_1:=(l0_0+1)) (a0:=x0) (a1:=v0)) r))))))
    by_cases h_1:(decide ((m148 x0 v0) < 0))=true
    · try simp only[if_pos h_1]
      exact lx 30 ya (P1 (.f h_1 (.h 27 (.b true) .nil))) rfl
    · try simp only[if_neg h_1]
      have ih:=t121_0 (l0_0:=l0_0) (a0:=a0) (a1:=a1) hy0 hy1 y0 (p++ [x0]) (m148 x0 v0) yd
      rw[pl1,← hw] at ih; rw[← hw]
      exact ly 34 ya (P1 (.f (nt h_1) (.f trivial (.h 27 (.b false) .nil)))) ih
def m121 (a0:(List K_U)) (a1:Int):Int:=
  if(decide ((wrap .i64 (a1 - ((length (map b_U a0)):Int))) < 0))=true then(-1) else
  (match r121_0 a0 a0 0 (wrap .i64 (a1 - ((length (map b_U a0)):Int))) with | .k0 w0_1 w1_1 w2_1=>w0_1 | .k1=>(-1))
theorem e121 {l0_0:Nat} {a0:(List K_U)} {a1:Int} (hy0:length a0*32≤140737488351232) (hy1:∀z∈a0,ok_U z):Ev F X (.call 121 [(.one (.bor l0_0 (map b_U a0))),(.one (.val (.int .i64 a1)))] [] [] [(.one (.val (.int .i64 (m121 a0 a1))))]):=by
  unfold m121
  by_cases h0:(decide ((wrap .i64 (a1 - ((length (map b_U a0)):Int))) < 0))=true
  · try simp only[if_pos h0]
    exact cp ya (.f h0 (.h 16 (.b true) .nil))
  · try simp only[if_neg h0]
    cases h1:r121_0 a0 a0 0 (wrap .i64 (a1 - ((length (map b_U a0)):Int))) with
    |k0 w0_1 w1_1 w2_1=>
      try dsimp only
      have f1:=Eq.refl (h121_0 l0_0 a0 a1 0 (wrap .i64 (a1 - ((length (map b_U a0)):Int))))
      exact cp ya (.f (nt h0) (.f f1 (.f (ev_ (e:=ex121_0) (g:=(fin121_0 l0_0 a0 a1)) h1 (t121_0 (l0_0:=l0_0) (a0:=a0) (a1:=a1) (by assumption) (by assumption) a0 [] (wrap .i64 (a1 - ((length (map b_U a0)):Int))) rfl)) (.h 16 (.b false) (.h 19 (.loop (h121_0 l0_0 a0 a1 0 (wrap .i64 (a1 - ((length (map b_U a0)):Int)))) (.exit 0) (fin121_0 l0_0 a0 a1 (.k0 w0_1 w1_1 w2_1))) .nil)))))
    |k1=>
      try dsimp only
      have f1:=Eq.refl (h121_0 l0_0 a0 a1 0 (wrap .i64 (a1 - ((length (map b_U a0)):Int))))
      exact cp ya (.f (nt h0) (.f f1 (.f (ev_ (e:=ex121_0) (g:=(fin121_0 l0_0 a0 a1)) h1 (t121_0 (l0_0:=l0_0) (a0:=a0) (a1:=a1) (by assumption) (by assumption) a0 [] (wrap .i64 (a1 - ((length (map b_U a0)):Int))) rfl)) (.h 16 (.b false) (.h 19 (.loop (h121_0 l0_0 a0 a1 0 (wrap .i64 (a1 - ((length (map b_U a0)):Int)))) .ret (fin121_0 l0_0 a0 a1 (.k1))) .nil)))))
def m94 (a0:K_T) (a1:Int):Int:=
  if(decide ((m120 a0.f1 a1) < 0))=true then(-1) else
  if(decide ((m121 a0.f2 (m120 a0.f1 a1)) < 0))=true then(-1) else
    (m121 a0.f2 (m120 a0.f1 a1))
theorem e94 {l0_1:Nat} {l0_2:Nat} {a0:K_T} {a1:Int} (hy0:length a0.f1*40≤140737488351232) (hy1:∀z∈a0.f1,ok_N z) (hy2:length a0.f2*32≤140737488351232) (hy3:∀z∈a0.f2,ok_U z):Ev F X (.call 94 [(.agg (k_T l0_1 l0_2 a0)),(.one (.val (.int .i64 a1)))] [] [] [(.one (.val (.int .i64 (m94 a0 a1))))]):=by
  unfold m94
  have P0 {hs q} (r:PS F X hs q):=(PS.r 11 [] [] (e120 (l0_0:=(l0_1+1)) (a0:=a0.f1) (a1:=a1) ‹_› ‹_›) r)
  by_cases h0:(decide ((m120 a0.f1 a1) < 0))=true
  · try simp only[if_pos h0]
    exact cp ya (P0 (.f h0 (.h 18 (.b true) .nil)))
  · try simp only[if_neg h0]
    have P1 {hs q} (r:PS F X hs q):=(P0 (.f (nt h0) (.h 18 (.b false) (.r 26 [] [] (e121 (l0_0:=(l0_2+1)) (a0:=a0.f2) (a1:=(m120 a0.f1 a1)) ‹_› ‹_›) r))))
    by_cases h1:(decide ((m121 a0.f2 (m120 a0.f1 a1)) < 0))=true
    · try simp only[if_pos h1]
      exact cp ya (P1 (.f h1 (.h 33 (.b true) .nil)))
    · try simp only[if_neg h1]
      exact cp ya (P1 (.f (nt h1) (.h 33 (.b false) .nil)))
inductive O63_0 where
  |k0 (w0:Int) (w1:Int) (w2:Bool)
  |k1
def r63_0 (a0:(List K_T)):List K_T→Int→Int→O63_0
  |x0::y0,i,v0=>
    if(decide ((m94 x0 v0) < 0))=true then(O63_0.k1) else
    (r63_0 a0 y0 (i+1) (m94 x0 v0))
  |[],i,v0=>(O63_0.k0 v0 i (decide (i <((length (map b_T a0)):Int))))
def h63_0 (l0_0:Nat) (a0:(List K_T)) (a1:Int) (i:Int) (v0:Int):St:=⟨[(0,(.one (.bor l0_0 (map b_T a0)))),(1,(.one (.val (.int .i64 v0)))),(5,(.one (.val (.int .i64 i))))],[]⟩
def ex63_0:O63_0→VX.Exit
  |.k0 _ _ _=>(.exit 0)
  |.k1=>.ret
def fin63_0 (l0_0:Nat) (a0:(List K_T)) (a1:Int):O63_0→St
  |.k0 w0 w1 w2=>⟨[(0,(.one (.bor l0_0 (map b_T a0)))),(1,(.one (.val (.int .i64 w0)))),(5,(.one (.val (.int .i64 w1)))),(15,(.one (.val (.bool w2))))],[]⟩
  |.k1=>⟨[(4,(.one (.val (.int .i64 (-1)))))],[]⟩
theorem t63_0 {l0_0:Nat} {a0:(List K_T)} {a1:Int} (hy0:length a0*56≤140737488351232) (hy1:∀z∈a0,ok_T z):∀(y0:List K_T) (p:List K_T) (v0:Int),p++y0=a0→Ev F X (.code l63_0 (h63_0 l0_0 a0 a1 (length p:Int) v0) (ex63_0 (r63_0 a0 y0 (length p:Int) v0)) (fin63_0 l0_0 a0 a1 (r63_0 a0 y0 (length p:Int) v0)))
  |[],p,v0,hp0=>by
    have hc:=hcn b_T hp0
    exact lx 9 ya (.f (nt hc) (.h 8 (.b false) .nil)) rfl
  |x0::y0,p,v0,hp0=>by
    have hc:=hcy b_T hp0
    have Hx0:=hxy hp0
    obtain⟨Mx0_0,Mx0_1,Mx0_2,Mx0_3⟩:=hy1 x0 (List.mem_of_getElem? Hx0)
    have hlen:=hly hp0
    have hw:wrap .i64 ((length p:Int)+1)=(length p:Int)+1:=wrap64 yb
    simp only[r63_0]
    have f1:0≤(length p:Int):=yb
    have P1 {hs q} (r:PS F X hs q):=(PS.f hc (.f f1 (.f (mp_ b_T Hx0) (.h 8 (.b true) (.h 14 (.row (b_T x0)) (.r 20 [] [] (e94 (l0_1:=(l0_0+1)) (l0_2:=(l0_0+1)) (a0:=x0) (a1:=v0) ‹_› ‹_› ‹_› ‹_›) r))))))
    by_cases h_1:(decide ((m94 x0 v0) < 0))=true
    · try simp only[if_pos h_1]
      exact lx 30 ya (P1 (.f h_1 (.h 27 (.b true) .nil))) rfl
    · try simp only[if_neg h_1]
      have ih:=t63_0 (l0_0:=l0_0) (a0:=a0) (a1:=a1) hy0 hy1 y0 (p++ [x0]) (m94 x0 v0) yd
      rw[pl1,← hw] at ih; rw[← hw]
      exact ly 34 ya (P1 (.f (nt h_1) (.f trivial (.h 27 (.b false) .nil)))) ih
def m63 (a0:(List K_T)) (a1:Int):Int:=
  if(decide ((wrap .i64 (a1 - ((length (map b_T a0)):Int))) < 0))=true then(-1) else
  (match r63_0 a0 a0 0 (wrap .i64 (a1 - ((length (map b_T a0)):Int))) with | .k0 w0_1 w1_1 w2_1=>w0_1 | .k1=>(-1))
theorem e63 {l0_0:Nat} {a0:(List K_T)} {a1:Int} (hy0:length a0*56≤140737488351232) (hy1:∀z∈a0,ok_T z):Ev F X (.call 63 [(.one (.bor l0_0 (map b_T a0))),(.one (.val (.int .i64 a1)))] [] [] [(.one (.val (.int .i64 (m63 a0 a1))))]):=by
  unfold m63
  by_cases h0:(decide ((wrap .i64 (a1 - ((length (map b_T a0)):Int))) < 0))=true
  · try simp only[if_pos h0]
    exact cp ya (.f h0 (.h 16 (.b true) .nil))
  · try simp only[if_neg h0]
    cases h1:r63_0 a0 a0 0 (wrap .i64 (a1 - ((length (map b_T a0)):Int))) with
    |k0 w0_1 w1_1 w2_1=>
      try dsimp only
      have f1:=Eq.refl (h63_0 l0_0 a0 a1 0 (wrap .i64 (a1 - ((length (map b_T a0)):Int))))
      exact cp ya (.f (nt h0) (.f f1 (.f (ev_ (e:=ex63_0) (g:=(fin63_0 l0_0 a0 a1)) h1 (t63_0 (l0_0:=l0_0) (a0:=a0) (a1:=a1) (by assumption) (by assumption) a0 [] (wrap .i64 (a1 - ((length (map b_T a0)):Int))) rfl)) (.h 16 (.b false) (.h 19 (.loop (h63_0 l0_0 a0 a1 0 (wrap .i64 (a1 - ((length (map b_T a0)):Int)))) (.exit 0) (fin63_0 l0_0 a0 a1 (.k0 w0_1 w1_1 w2_1))) .nil)))))
    |k1=>
      try dsimp only
      have f1:=Eq.refl (h63_0 l0_0 a0 a1 0 (wrap .i64 (a1 - ((length (map b_T a0)):Int))))
      exact cp ya (.f (nt h0) (.f f1 (.f (ev_ (e:=ex63_0) (g:=(fin63_0 l0_0 a0 a1)) h1 (t63_0 (l0_0:=l0_0) (a0:=a0) (a1:=a1) (by assumption) (by assumption) a0 [] (wrap .i64 (a1 - ((length (map b_T a0)):Int))) rfl)) (.h 16 (.b false) (.h 19 (.loop (h63_0 l0_0 a0 a1 0 (wrap .i64 (a1 - ((length (map b_T a0)):Int)))) .ret (fin63_0 l0_0 a0 a1 (.k1))) .nil)))))
def m34 (a0:K_G) (a1:Int):Int:=
  if(decide ((m63 a0.f4 a1) < 0))=true then(-1) else
  (m63 a0.f4 a1)
theorem e34 {l0_4:Nat} {a0:K_G} {a1:Int} (hy0:length a0.f4*56≤140737488351232) (hy1:∀z∈a0.f4,ok_T z):Ev F X (.call 34 [(.agg (k_G l0_4 a0)),(.one (.val (.int .i64 a1)))] [] [] [(.one (.val (.int .i64 (m34 a0 a1))))]):=by
  unfold m34
  have P0 {hs q} (r:PS F X hs q):=(PS.r 11 [] [] (e63 (l0_0:=(l0_4+1)) (a0:=a0.f4) (a1:=a1) ‹_› ‹_›) r)
  by_cases h0:(decide ((m63 a0.f4 a1) < 0))=true
  · try simp only[if_pos h0]
    exact cp ya (P0 (.f h0 (.h 18 (.b true) .nil)))
  · try simp only[if_neg h0]
    exact cp ya (P0 (.f (nt h0) (.h 18 (.b false) .nil)))
def m6 (a0:K_J) (a1:Int):Int:=
  if(decide ((m34 (K_G.mk a0.f1 a0.f2 a0.f3 a0.f4 a0.f5) a1) < 0))=true then(-1) else
  (m34 (K_G.mk a0.f1 a0.f2 a0.f3 a0.f4 a0.f5) a1)
theorem e6 {l0_5:Nat} {a0:K_J} {a1:Int} (hy0:length a0.f5*56≤140737488351232) (hy1:∀z∈a0.f5,ok_T z):Ev F X (.call 6 [(.agg (k_J l0_5 a0)),(.one (.val (.int .i64 a1)))] [] [] [(.one (.val (.int .i64 (m6 a0 a1))))]):=by
  unfold m6
  have P0 {hs q} (r:PS F X hs q):=(PS.r 11 [] [] (e34 (l0_4:=(l0_5+1)) (a0:=(K_G.mk a0.f1 a0.f2 a0.f3 a0.f4 a0.f5)) (a1:=a1) ‹_› ‹_›) r)
  by_cases h0:(decide ((m34 (K_G.mk a0.f1 a0.f2 a0.f3 a0.f4 a0.f5) a1) < 0))=true
  · try simp only[if_pos h0]
    exact cp ya (P0 (.f h0 (.h 18 (.b true) .nil)))
  · try simp only[if_neg h0]
    exact cp ya (P0 (.f (nt h0) (.h 18 (.b false) .nil)))
inductive O15_0 where
  |k0 (w0:Int) (w1:Int) (w2:Bool)
  |k1
def r15_0 (a0:(List K_J)):List K_J→Int→Int→O15_0
  |x0::y0,i,v0=>
    if(decide ((m6 x0 v0) < 0))=true then(O15_0.k1) else
    (r15_0 a0 y0 (i+1) (m6 x0 v0))
  |[],i,v0=>(O15_0.k0 v0 i (decide (i <((length (map b_J a0)):Int))))
def h15_0 (l0_0:Nat) (a0:(List K_J)) (a1:Int) (i:Int) (v0:Int):St:=⟨[(0,(.one (.bor l0_0 (map b_J a0)))),(1,(.one (.val (.int .i64 v0)))),(5,(.one (.val (.int .i64 i))))],[]⟩
def ex15_0:O15_0→VX.Exit
  |.k0 _ _ _=>(.exit 0)
  |.k1=>.ret
def fin15_0 (l0_0:Nat) (a0:(List K_J)) (a1:Int):O15_0→St
  |.k0 w0 w1 w2=>⟨[(0,(.one (.bor l0_0 (map b_J a0)))),(1,(.one (.val (.int .i64 w0)))),(5,(.one (.val (.int .i64 w1)))),(15,(.one (.val (.bool w2))))],[]⟩
  |.k1=>⟨[(4,(.one (.val (.int .i64 (-1)))))],[]⟩
theorem t15_0 {l0_0:Nat} {a0:(List K_J)} {a1:Int} (hy0:length a0*64≤140737488351232) (hy1:∀z∈a0,ok_J z):∀(y0:List K_J) (p:List K_J) (v0:Int),p++y0=a0→Ev F X (.code l15_0 (h15_0 l0_0 a0 a1 (length p:Int) v0) (ex15_0 (r15_0 a0 y0 (length p:Int) v0)) (fin15_0 l0_0 a0 a1 (r15_0 a0 y0 (length p:Int) v0)))
  |[],p,v0,hp0=>by
    have hc:=hcn b_J hp0
    exact lx 9 ya (.f (nt hc) (.h 8 (.b false) .nil)) rfl
  |x0::y0,p,v0,hp0=>by
    have hc:=hcy b_J hp0
    have Hx0:=hxy hp0
    obtain⟨Mx0_0,Mx0_1⟩:=hy1 x0 (List.mem_of_getElem? Hx0)
    have hlen:=hly hp0
    have hw:wrap .i64 ((length p:Int)+1)=(length p:Int)+1:=wrap64 yb
    simp only[r15_0]
    have f1:0≤(length p:Int):=yb
    have P1 {hs q} (r:PS F X hs q):=(PS.f hc (.f f1 (.f (mp_ b_J Hx0) (.h 8 (.b true) (.h 14 (.row (b_J x0)) (.r 20 [] [] (e6 (l0_5:=(l0_0+1)) (a0:=x0) (a1:=v0) ‹_› ‹_›) r))))))
    by_cases h_1:(decide ((m6 x0 v0) < 0))=true
    · try simp only[if_pos h_1]
      exact lx 30 ya (P1 (.f h_1 (.h 27 (.b true) .nil))) rfl
    · try simp only[if_neg h_1]
      have ih:=t15_0 (l0_0:=l0_0) (a0:=a0) (a1:=a1) hy0 hy1 y0 (p++ [x0]) (m6 x0 v0) yd
      rw[pl1,← hw] at ih; rw[← hw]
      exact ly 34 ya (P1 (.f (nt h_1) (.f trivial (.h 27 (.b false) .nil)))) ih
def m15 (a0:(List K_J)) (a1:Int):Int:=
  if(decide ((wrap .i64 (a1 - ((length (map b_J a0)):Int))) < 0))=true then(-1) else
  (match r15_0 a0 a0 0 (wrap .i64 (a1 - ((length (map b_J a0)):Int))) with | .k0 w0_1 w1_1 w2_1=>w0_1 | .k1=>(-1))
theorem e15 {l0_0:Nat} {a0:(List K_J)} {a1:Int} (hy0:length a0*64≤140737488351232) (hy1:∀z∈a0,ok_J z):Ev F X (.call 15 [(.one (.bor l0_0 (map b_J a0))),(.one (.val (.int .i64 a1)))] [] [] [(.one (.val (.int .i64 (m15 a0 a1))))]):=by
  unfold m15
  by_cases h0:(decide ((wrap .i64 (a1 - ((length (map b_J a0)):Int))) < 0))=true
  · try simp only[if_pos h0]
    exact cp ya (.f h0 (.h 16 (.b true) .nil))
  · try simp only[if_neg h0]
    cases h1:r15_0 a0 a0 0 (wrap .i64 (a1 - ((length (map b_J a0)):Int))) with
    |k0 w0_1 w1_1 w2_1=>
      try dsimp only
      have f1:=Eq.refl (h15_0 l0_0 a0 a1 0 (wrap .i64 (a1 - ((length (map b_J a0)):Int))))
      exact cp ya (.f (nt h0) (.f f1 (.f (ev_ (e:=ex15_0) (g:=(fin15_0 l0_0 a0 a1)) h1 (t15_0 (l0_0:=l0_0) (a0:=a0) (a1:=a1) (by assumption) (by assumption) a0 [] (wrap .i64 (a1 - ((length (map b_J a0)):Int))) rfl)) (.h 16 (.b false) (.h 19 (.loop (h15_0 l0_0 a0 a1 0 (wrap .i64 (a1 - ((length (map b_J a0)):Int)))) (.exit 0) (fin15_0 l0_0 a0 a1 (.k0 w0_1 w1_1 w2_1))) .nil)))))
    |k1=>
      try dsimp only
      have f1:=Eq.refl (h15_0 l0_0 a0 a1 0 (wrap .i64 (a1 - ((length (map b_J a0)):Int))))
      exact cp ya (.f (nt h0) (.f f1 (.f (ev_ (e:=ex15_0) (g:=(fin15_0 l0_0 a0 a1)) h1 (t15_0 (l0_0:=l0_0) (a0:=a0) (a1:=a1) (by assumption) (by assumption) a0 [] (wrap .i64 (a1 - ((length (map b_J a0)):Int))) rfl)) (.h 16 (.b false) (.h 19 (.loop (h15_0 l0_0 a0 a1 0 (wrap .i64 (a1 - ((length (map b_J a0)):Int)))) .ret (fin15_0 l0_0 a0 a1 (.k1))) .nil)))))
inductive O167_0 where
  |k0 (w0:List Int) (w1:Int) (w2:Bool)
def r167_0 (a0:(List Int)):List Int→Int→List Int→O167_0
  |x0::y0,i,v0=>
    (r167_0 a0 y0 (i+1) (set v0 (toNat i) x0))
  |[],i,v0=>(O167_0.k0 v0 i (decide (i <((length (map b_i a0)):Int))))
def h167_0 (l0_0:Nat) (a0:(List Int)) (i:Int) (v0:List Int):St:=⟨[(0,(.one (.bor l0_0 (map b_i a0)))),(3,(.one (.ref ⟨(3,0,0),[],0,(toNat ((length (map b_i a0)):Int))⟩))),(4,(.one (.val (.int .i64 i))))],[((3,0,0),.live ⟨1,(map d_i v0),[]⟩)]⟩
def ex167_0:O167_0→VX.Exit
  |.k0 _ _ _=>(.exit 0)
def fin167_0 (l0_0:Nat) (a0:(List Int)):O167_0→St
  |.k0 w0 w1 w2=>⟨[(0,(.one (.bor l0_0 (map b_i a0)))),(3,(.one (.ref ⟨(3,0,0),[],0,(toNat ((length (map b_i a0)):Int))⟩))),(4,(.one (.val (.int .i64 w1)))),(11,(.one (.val (.bool w2))))],[((3,0,0),.live ⟨1,(map d_i w0),[]⟩)]⟩
theorem t167_0 {l0_0:Nat} {a0:(List Int)} (hy0:length a0*8≤140737488351232):∀(y0:List Int) (p:List Int) (v0:List Int),p++y0=a0→length v0=(toNat ((length (map b_i a0)):Int))→Ev F X (.code l167_0 (h167_0 l0_0 a0 (length p:Int) v0) (ex167_0 (r167_0 a0 y0 (length p:Int) v0)) (fin167_0 l0_0 a0 (r167_0 a0 y0 (length p:Int) v0)))
  |[],p,v0,hp0,hi0=>by
    have hc:=hcn b_i hp0
    have hj0:=hi0; try simp only[LN,Int.toNat_natCast] at hj0
    exact lx 9 ya (.f (nt hc) (.h 8 (.b false) .nil)) rfl
  |x0::y0,p,v0,hp0,hi0=>by
    have hc:=hcy b_i hp0
    have Hx0:=hxy hp0
    have hlen:=hly hp0
    have hw:wrap .i64 ((length p:Int)+1)=(length p:Int)+1:=wrap64 yb
    have hj0:=hi0; try simp only[LN,Int.toNat_natCast] at hj0
    obtain⟨x1,Hx1⟩:∃y,v0[toNat (length p:Int)]?=some y:=⟨_,List.getElem?_eq_getElem yb⟩
    simp only[r167_0]
    have f1:0≤(length p:Int):=yb
    have f3:0+(toNat ((length (map b_i a0)):Int))≤(length (map d_i v0)):=yl
    have f4:0≤(length p:Int)∧(length p:Int) <((toNat ((length (map b_i a0)):Int)):Int):=yb
    have f6:(set (map d_i v0) (0+(toNat (length p:Int))) [(.i x0)])=(map d_i (set v0 (toNat (length p:Int)) x0)):=yax
    have ih:=t167_0 (l0_0:=l0_0) (a0:=a0) hy0 y0 (p++ [x0]) (set v0 (toNat (length p:Int)) x0) yd yo
    rw[pl1,← hw] at ih; rw[← hw]
    exact ly 32 ya (.f hc (.f f1 (.f (mp_ b_i Hx0) (.f f3 (.f f4 (.f (mz_ d_i Hx1) (.f f6 (.f trivial (.h 8 (.b true) (.h 18 (.row [(.i x0)]) (.h 24 (.rowD [(.i x1)]) (.h 25 (.norm (3,0,0) (map d_i (set v0 (toNat (length p:Int)) x0))) .nil)))))))))))) ih
def post167_0 (n0:Nat):O167_0→Prop
  |.k0 w0 _ _=>length w0=n0
theorem z167_0 {a0:(List Int)}:∀(y0:List Int) (i:Int) (v0:List Int),post167_0 (length v0) (r167_0 a0 y0 i v0)
  |[],i,v0=>by
    first | trivial |(simp only[post167_0,length_nil,Nat.add_zero]; done) |(simp[post167_0]; done)
  |x0::y0,i,v0=>by
    simp only[r167_0]
    have z:=z167_0 (a0:=a0) y0 (i+1) (set v0 (toNat i) x0)
    rw[show (length v0)=(length (set v0 (toNat i) x0)) from by first | omega |(simp only[LN]; done) |(simp only[LN]; omega)]
    exact z
def m167 (a0:(List Int)):(List Int):=
  (match r167_0 a0 a0 0 (List.replicate (toNat ((length (map b_i a0)):Int)) 0) with | .k0 w0_1 w1_1 w2_1=>w0_1)
theorem e167 {l0_0:Nat} {a0:(List Int)} (hy0:length a0*8≤140737488351232):Ev F X (.call 167 [(.one (.bor l0_0 (map b_i a0)))] [] [] [(.one (.own 1 (map d_i (m167 a0))))]):=by
  unfold m167
  have f0:0≤((length (map b_i a0)):Int)∧((length (map b_i a0)):Int)≤((length (map b_i a0)):Int)∧((length (map b_i a0)):Int)≤140737488355328∧((length (map b_i a0)):Int)*8≤140737488355328:=yl
  have f1:(List.replicate (toNat ((length (map b_i a0)):Int)) [(.i 0)])=(map d_i (List.replicate (toNat ((length (map b_i a0)):Int)) 0)):=yax
  cases h0:r167_0 a0 a0 0 (List.replicate (toNat ((length (map b_i a0)):Int)) 0) with
  |k0 w0_1 w1_1 w2_1=>
    try dsimp only
    have zh0:=z167_0 (a0:=a0) a0 0 (List.replicate (toNat ((length (map b_i a0)):Int)) 0); rw[h0] at zh0; simp only[post167_0,length_map,length_set,length_append,length_replicate,length_cons,length_nil,Int.toNat_natCast] at zh0
    have f2:=Eq.refl (h167_0 l0_0 a0 0 (List.replicate (toNat ((length (map b_i a0)):Int)) 0))
    have f5:(toNat ((length (map b_i a0)):Int))=(length (map d_i w0_1)):=yl
    exact cp ya (.f f0 (.f f1 (.f f2 (.f (ev_ (e:=ex167_0) (g:=(fin167_0 l0_0 a0)) h0 (t167_0 (l0_0:=l0_0) (a0:=a0) (by assumption) a0 [] (List.replicate (toNat ((length (map b_i a0)):Int)) 0) rfl yM)) (pe 0 (.f f5 (.f (pureR_i w0_1) (.h 10 (.norm (3,0,0) (map d_i (List.replicate (toNat ((length (map b_i a0)):Int)) 0))) (.h 13 (.loop (h167_0 l0_0 a0 0 (List.replicate (toNat ((length (map b_i a0)):Int)) 0)) (.exit 0) (fin167_0 l0_0 a0 (.k0 w0_1 w1_1 w2_1))) .nil)))))))))
theorem c167_0 (a0:List Int):∀(l p q:List Int),q.length=l.length→∃w1 w2,r167_0 a0 l (p.length:Int) (p++q)=.k0 (p++l) w1 w2
  |[],p,[],_=>⟨_,_,rfl⟩
  |[],_,_::_,h=>by simp at h
  |_::_,_,[],h=>by simp at h
  |x::l,p,y::q,h=>by
    have ih:=c167_0 a0 l (p++ [x]) q yab
    have e:set (p++y::q) (toNat (p.length:Int)) x=(p++ [x])++q:=by simp
    have e2:((p++ [x]).length:Int)=(p.length:Int)+1:=by simp
    rw[e2] at ih
    simp only[r167_0]
    rw[show p++x::l=(p++ [x])++l by simp]
    first |(rw[e]; exact ih) |(simp only[e]; exact ih)
theorem q167 (a0:(List Int)) (hy0:length a0*8≤140737488351232):(m167 a0)=a0:=by
  have h:=c167_0 a0 a0 [] (List.replicate (toNat ((length (map b_i a0)):Int)) 0) yay
  unfold m167
  simp only[List.nil_append,length_nil] at h
  obtain⟨_,_,h⟩:=h
  rw[show ((0:Nat):Int)=0 from rfl] at h
  rw[h]
theorem g167 {l0_0:Nat} {a0:(List Int)} (hy0:length a0*8≤140737488351232):Ev F X (.call 167 [(.one (.bor l0_0 (map b_i a0)))] [] [] [(.one (.own 1 (map d_i a0)))]):=by
  have t:=e167 (l0_0:=l0_0) (a0:=a0) hy0
  rw[q167 a0 hy0] at t
  exact t
theorem e154 {l0_2:Nat} {a0:K_N} (hy0:length a0.f2*8≤140737488351232):Ev F X (.call 154 [(.agg (k_N l0_2 a0))] [] [] [(.agg (d_N a0))]):=by
  exact cp ya (.r 27 [] [] (g167 (l0_0:=(l0_2+1)) (a0:=a0.f2) ‹_›) (pe 0 (pe (length (map d_i a0.f2)) (pe 0 (pe (length (map d_i a0.f2)) (.f (pureR_i a0.f2) .nil))))))
inductive O130_0 where
  |k0 (w0:List K_N) (w1:Int) (w2:Bool)
def r130_0 (a0:(List K_N)):List K_N→Int→List K_N→O130_0
  |x0::y0,i,v0=>
    (r130_0 a0 y0 (i+1) (set v0 (toNat i) x0))
  |[],i,v0=>(O130_0.k0 v0 i (decide (i <((length (map b_N a0)):Int))))
def h130_0 (l0_0:Nat) (a0:(List K_N)) (i:Int) (v0:List K_N):St:=⟨[(0,(.one (.bor l0_0 (map b_N a0)))),(3,(.one (.ref ⟨(3,0,0),[],0,(toNat ((length (map b_N a0)):Int))⟩))),(4,(.one (.val (.int .i64 i))))],[((3,0,0),.live ⟨3,(map d_N v0),[]⟩)]⟩
def ex130_0:O130_0→VX.Exit
  |.k0 _ _ _=>(.exit 0)
def fin130_0 (l0_0:Nat) (a0:(List K_N)):O130_0→St
  |.k0 w0 w1 w2=>⟨[(0,(.one (.bor l0_0 (map b_N a0)))),(3,(.one (.ref ⟨(3,0,0),[],0,(toNat ((length (map b_N a0)):Int))⟩))),(4,(.one (.val (.int .i64 w1)))),(11,(.one (.val (.bool w2))))],[((3,0,0),.live ⟨3,(map d_N w0),[]⟩)]⟩
theorem t130_0 {l0_0:Nat} {a0:(List K_N)} (hy0:length a0*40≤140737488351232) (hy1:∀z∈a0,ok_N z):∀(y0:List K_N) (p:List K_N) (v0:List K_N),p++y0=a0→length v0=(toNat ((length (map b_N a0)):Int))→Ev F X (.code l130_0 (h130_0 l0_0 a0 (length p:Int) v0) (ex130_0 (r130_0 a0 y0 (length p:Int) v0)) (fin130_0 l0_0 a0 (r130_0 a0 y0 (length p:Int) v0)))
  |[],p,v0,hp0,hi0=>by
    have hc:=hcn b_N hp0
    have hj0:=hi0; try simp only[LN,Int.toNat_natCast] at hj0
    exact lx 9 ya (.f (nt hc) (.h 8 (.b false) .nil)) rfl
  |x0::y0,p,v0,hp0,hi0=>by
    have hc:=hcy b_N hp0
    have Hx0:=hxy hp0
    have Mx0_0:=hy1 x0 (List.mem_of_getElem? Hx0)
    have hlen:=hly hp0
    have hw:wrap .i64 ((length p:Int)+1)=(length p:Int)+1:=wrap64 yb
    have hj0:=hi0; try simp only[LN,Int.toNat_natCast] at hj0
    obtain⟨x1,Hx1⟩:∃y,v0[toNat (length p:Int)]?=some y:=⟨_,List.getElem?_eq_getElem yb⟩
    simp only[r130_0]
    have f1:0≤(length p:Int):=yb
    have f4:0+(toNat ((length (map b_N a0)):Int))≤(length (map d_N v0)):=yl
    have f5:0≤(length p:Int)∧(length p:Int) <((toNat ((length (map b_N a0)):Int)):Int):=yb
    have f9:(set (map d_N v0) (0+(toNat (length p:Int))) (d_N x0))=(map d_N (set v0 (toNat (length p:Int)) x0)):=(by simp[take_of_length_le,d_N]; done)
    have ih:=t130_0 (l0_0:=l0_0) (a0:=a0) hy0 hy1 y0 (p++ [x0]) (set v0 (toNat (length p:Int)) x0) yd yo
    rw[pl1,← hw] at ih; rw[← hw]
    exact ly 34 ya (.f hc (.f f1 (.f (mp_ b_N Hx0) (.h 8 (.b true) (.h 18 (.row (b_N x0)) (.r 22 [] [] (e154 (l0_2:=(l0_0+1)) (a0:=x0) (by assumption)) (.f f4 (.f f5 (pe 0 (pe (length (map d_i x0.f2)) (.f (mz_ d_N Hx1) (.f f9 (.f trivial (.h 26 (.rowD (d_N x1)) (.h 27 (.norm (3,0,0) (map d_N (set v0 (toNat (length p:Int)) x0))) .nil))))))))))))))) ih
def post130_0 (n0:Nat):O130_0→Prop
  |.k0 w0 _ _=>length w0=n0
theorem z130_0 {a0:(List K_N)}:∀(y0:List K_N) (i:Int) (v0:List K_N),post130_0 (length v0) (r130_0 a0 y0 i v0)
  |[],i,v0=>by
    first | trivial |(simp only[post130_0,length_nil,Nat.add_zero]; done) |(simp[post130_0]; done)
  |x0::y0,i,v0=>by
    simp only[r130_0]
    have z:=z130_0 (a0:=a0) y0 (i+1) (set v0 (toNat i) x0)
    rw[show (length v0)=(length (set v0 (toNat i) x0)) from by first | omega |(simp only[LN]; done) |(simp only[LN]; omega)]
    exact z
def m130 (a0:(List K_N)):(List K_N):=
  (match r130_0 a0 a0 0 (List.replicate (toNat ((length (map b_N a0)):Int)) (K_N.mk 0 0 [])) with | .k0 w0_1 w1_1 w2_1=>w0_1)
theorem e130 {l0_0:Nat} {a0:(List K_N)} (hy0:length a0*40≤140737488351232) (hy1:∀z∈a0,ok_N z):Ev F X (.call 130 [(.one (.bor l0_0 (map b_N a0)))] [] [] [(.one (.own 3 (map d_N (m130 a0))))]):=by
  unfold m130
  have f0:0≤((length (map b_N a0)):Int)∧((length (map b_N a0)):Int)≤((length (map b_N a0)):Int)∧((length (map b_N a0)):Int)≤140737488355328∧((length (map b_N a0)):Int)*40≤140737488355328:=yl
  have f1:(List.replicate (toNat ((length (map b_N a0)):Int)) [(.i 0),(.i 0),(.own 1 [])])=(map d_N (List.replicate (toNat ((length (map b_N a0)):Int)) (K_N.mk 0 0 []))):=(by simp[take_of_length_le,d_N]; done)
  cases h0:r130_0 a0 a0 0 (List.replicate (toNat ((length (map b_N a0)):Int)) (K_N.mk 0 0 [])) with
  |k0 w0_1 w1_1 w2_1=>
    try dsimp only
    have zh0:=z130_0 (a0:=a0) a0 0 (List.replicate (toNat ((length (map b_N a0)):Int)) (K_N.mk 0 0 [])); rw[h0] at zh0; simp only[post130_0,length_map,length_set,length_append,length_replicate,length_cons,length_nil,Int.toNat_natCast] at zh0
    have f2:=Eq.refl (h130_0 l0_0 a0 0 (List.replicate (toNat ((length (map b_N a0)):Int)) (K_N.mk 0 0 [])))
    have f5:(toNat ((length (map b_N a0)):Int))=(length (map d_N w0_1)):=yl
    exact cp ya (.f f0 (.f f1 (.f f2 (.f (ev_ (e:=ex130_0) (g:=(fin130_0 l0_0 a0)) h0 (t130_0 (l0_0:=l0_0) (a0:=a0) (by assumption) (by assumption) a0 [] (List.replicate (toNat ((length (map b_N a0)):Int)) (K_N.mk 0 0 [])) rfl yM)) (pe 0 (.f f5 (.f (pureR_N w0_1) (.h 10 (.norm (3,0,0) (map d_N (List.replicate (toNat ((length (map b_N a0)):Int)) (K_N.mk 0 0 [])))) (.h 13 (.loop (h130_0 l0_0 a0 0 (List.replicate (toNat ((length (map b_N a0)):Int)) (K_N.mk 0 0 []))) (.exit 0) (fin130_0 l0_0 a0 (.k0 w0_1 w1_1 w2_1))) .nil)))))))))
theorem c130_0 (a0:List K_N):∀(l p q:List K_N),q.length=l.length→∃w1 w2,r130_0 a0 l (p.length:Int) (p++q)=.k0 (p++l) w1 w2
  |[],p,[],_=>⟨_,_,rfl⟩
  |[],_,_::_,h=>by simp at h
  |_::_,_,[],h=>by simp at h
  |x::l,p,y::q,h=>by
    have ih:=c130_0 a0 l (p++ [x]) q yab
    have e:set (p++y::q) (toNat (p.length:Int)) x=(p++ [x])++q:=by simp
    have e2:((p++ [x]).length:Int)=(p.length:Int)+1:=by simp
    rw[e2] at ih
    simp only[r130_0]
    rw[show p++x::l=(p++ [x])++l by simp]
    first |(rw[e]; exact ih) |(simp only[e]; exact ih)
theorem q130 (a0:(List K_N)) (hy0:length a0*40≤140737488351232) (hy1:∀z∈a0,ok_N z):(m130 a0)=a0:=by
  have h:=c130_0 a0 a0 [] (List.replicate (toNat ((length (map b_N a0)):Int)) (K_N.mk 0 0 [])) yay
  unfold m130
  simp only[List.nil_append,length_nil] at h
  obtain⟨_,_,h⟩:=h
  rw[show ((0:Nat):Int)=0 from rfl] at h
  rw[h]
theorem g130 {l0_0:Nat} {a0:(List K_N)} (hy0:length a0*40≤140737488351232) (hy1:∀z∈a0,ok_N z):Ev F X (.call 130 [(.one (.bor l0_0 (map b_N a0)))] [] [] [(.one (.own 3 (map d_N a0)))]):=by
  have t:=e130 (l0_0:=l0_0) (a0:=a0) hy0 hy1
  rw[q130 a0 hy0 hy1] at t
  exact t
theorem e155 {l0_1:Nat} {a0:K_U} (hy0:length a0.f1*8≤140737488351232):Ev F X (.call 155 [(.agg (k_U l0_1 a0))] [] [] [(.agg (d_U a0))]):=by
  exact cp ya (.r 19 [] [] (g167 (l0_0:=(l0_1+1)) (a0:=a0.f1) ‹_›) (pe 0 (pe (length (map d_i a0.f1)) (pe 0 (pe (length (map d_i a0.f1)) (.f (pureR_i a0.f1) .nil))))))
inductive O131_0 where
  |k0 (w0:List K_U) (w1:Int) (w2:Bool)
def r131_0 (a0:(List K_U)):List K_U→Int→List K_U→O131_0
  |x0::y0,i,v0=>
    (r131_0 a0 y0 (i+1) (set v0 (toNat i) x0))
  |[],i,v0=>(O131_0.k0 v0 i (decide (i <((length (map b_U a0)):Int))))
def h131_0 (l0_0:Nat) (a0:(List K_U)) (i:Int) (v0:List K_U):St:=⟨[(0,(.one (.bor l0_0 (map b_U a0)))),(3,(.one (.ref ⟨(3,0,0),[],0,(toNat ((length (map b_U a0)):Int))⟩))),(4,(.one (.val (.int .i64 i))))],[((3,0,0),.live ⟨2,(map d_U v0),[]⟩)]⟩
def ex131_0:O131_0→VX.Exit
  |.k0 _ _ _=>(.exit 0)
def fin131_0 (l0_0:Nat) (a0:(List K_U)):O131_0→St
  |.k0 w0 w1 w2=>⟨[(0,(.one (.bor l0_0 (map b_U a0)))),(3,(.one (.ref ⟨(3,0,0),[],0,(toNat ((length (map b_U a0)):Int))⟩))),(4,(.one (.val (.int .i64 w1)))),(11,(.one (.val (.bool w2))))],[((3,0,0),.live ⟨2,(map d_U w0),[]⟩)]⟩
theorem t131_0 {l0_0:Nat} {a0:(List K_U)} (hy0:length a0*32≤140737488351232) (hy1:∀z∈a0,ok_U z):∀(y0:List K_U) (p:List K_U) (v0:List K_U),p++y0=a0→length v0=(toNat ((length (map b_U a0)):Int))→Ev F X (.code l131_0 (h131_0 l0_0 a0 (length p:Int) v0) (ex131_0 (r131_0 a0 y0 (length p:Int) v0)) (fin131_0 l0_0 a0 (r131_0 a0 y0 (length p:Int) v0)))
  |[],p,v0,hp0,hi0=>by
    have hc:=hcn b_U hp0
    have hj0:=hi0; try simp only[LN,Int.toNat_natCast] at hj0
    exact lx 9 ya (.f (nt hc) (.h 8 (.b false) .nil)) rfl
  |x0::y0,p,v0,hp0,hi0=>by
    have hc:=hcy b_U hp0
    have Hx0:=hxy hp0
    have Mx0_0:=hy1 x0 (List.mem_of_getElem? Hx0)
    have hlen:=hly hp0
    have hw:wrap .i64 ((length p:Int)+1)=(length p:Int)+1:=wrap64 yb
    have hj0:=hi0; try simp only[LN,Int.toNat_natCast] at hj0
    obtain⟨x1,Hx1⟩:∃y,v0[toNat (length p:Int)]?=some y:=⟨_,List.getElem?_eq_getElem yb⟩
    simp only[r131_0]
    have f1:0≤(length p:Int):=yb
    have f4:0+(toNat ((length (map b_U a0)):Int))≤(length (map d_U v0)):=yl
    have f5:0≤(length p:Int)∧(length p:Int) <((toNat ((length (map b_U a0)):Int)):Int):=yb
    have f9:(set (map d_U v0) (0+(toNat (length p:Int))) (d_U x0))=(map d_U (set v0 (toNat (length p:Int)) x0)):=(by simp[take_of_length_le,d_U]; done)
    have ih:=t131_0 (l0_0:=l0_0) (a0:=a0) hy0 hy1 y0 (p++ [x0]) (set v0 (toNat (length p:Int)) x0) yd yo
    rw[pl1,← hw] at ih; rw[← hw]
    exact ly 34 ya (.f hc (.f f1 (.f (mp_ b_U Hx0) (.h 8 (.b true) (.h 18 (.row (b_U x0)) (.r 22 [] [] (e155 (l0_1:=(l0_0+1)) (a0:=x0) (by assumption)) (.f f4 (.f f5 (pe 0 (pe (length (map d_i x0.f1)) (.f (mz_ d_U Hx1) (.f f9 (.f trivial (.h 26 (.rowD (d_U x1)) (.h 27 (.norm (3,0,0) (map d_U (set v0 (toNat (length p:Int)) x0))) .nil))))))))))))))) ih
def post131_0 (n0:Nat):O131_0→Prop
  |.k0 w0 _ _=>length w0=n0
theorem z131_0 {a0:(List K_U)}:∀(y0:List K_U) (i:Int) (v0:List K_U),post131_0 (length v0) (r131_0 a0 y0 i v0)
  |[],i,v0=>by
    first | trivial |(simp only[post131_0,length_nil,Nat.add_zero]; done) |(simp[post131_0]; done)
  |x0::y0,i,v0=>by
    simp only[r131_0]
    have z:=z131_0 (a0:=a0) y0 (i+1) (set v0 (toNat i) x0)
    rw[show (length v0)=(length (set v0 (toNat i) x0)) from by first | omega |(simp only[LN]; done) |(simp only[LN]; omega)]
    exact z
def m131 (a0:(List K_U)):(List K_U):=
  (match r131_0 a0 a0 0 (List.replicate (toNat ((length (map b_U a0)):Int)) (K_U.mk 0 [])) with | .k0 w0_1 w1_1 w2_1=>w0_1)
theorem e131 {l0_0:Nat} {a0:(List K_U)} (hy0:length a0*32≤140737488351232) (hy1:∀z∈a0,ok_U z):Ev F X (.call 131 [(.one (.bor l0_0 (map b_U a0)))] [] [] [(.one (.own 2 (map d_U (m131 a0))))]):=by
  unfold m131
  have f0:0≤((length (map b_U a0)):Int)∧((length (map b_U a0)):Int)≤((length (map b_U a0)):Int)∧((length (map b_U a0)):Int)≤140737488355328∧((length (map b_U a0)):Int)*32≤140737488355328:=yl
  have f1:(List.replicate (toNat ((length (map b_U a0)):Int)) [(.i 0),(.own 1 [])])=(map d_U (List.replicate (toNat ((length (map b_U a0)):Int)) (K_U.mk 0 []))):=(by simp[take_of_length_le,d_U]; done)
  cases h0:r131_0 a0 a0 0 (List.replicate (toNat ((length (map b_U a0)):Int)) (K_U.mk 0 [])) with
  |k0 w0_1 w1_1 w2_1=>
    try dsimp only
    have zh0:=z131_0 (a0:=a0) a0 0 (List.replicate (toNat ((length (map b_U a0)):Int)) (K_U.mk 0 [])); rw[h0] at zh0; simp only[post131_0,length_map,length_set,length_append,length_replicate,length_cons,length_nil,Int.toNat_natCast] at zh0
    have f2:=Eq.refl (h131_0 l0_0 a0 0 (List.replicate (toNat ((length (map b_U a0)):Int)) (K_U.mk 0 [])))
    have f5:(toNat ((length (map b_U a0)):Int))=(length (map d_U w0_1)):=yl
    exact cp ya (.f f0 (.f f1 (.f f2 (.f (ev_ (e:=ex131_0) (g:=(fin131_0 l0_0 a0)) h0 (t131_0 (l0_0:=l0_0) (a0:=a0) (by assumption) (by assumption) a0 [] (List.replicate (toNat ((length (map b_U a0)):Int)) (K_U.mk 0 [])) rfl yM)) (pe 0 (.f f5 (.f (pureR_U w0_1) (.h 10 (.norm (3,0,0) (map d_U (List.replicate (toNat ((length (map b_U a0)):Int)) (K_U.mk 0 [])))) (.h 13 (.loop (h131_0 l0_0 a0 0 (List.replicate (toNat ((length (map b_U a0)):Int)) (K_U.mk 0 []))) (.exit 0) (fin131_0 l0_0 a0 (.k0 w0_1 w1_1 w2_1))) .nil)))))))))
theorem c131_0 (a0:List K_U):∀(l p q:List K_U),q.length=l.length→∃w1 w2,r131_0 a0 l (p.length:Int) (p++q)=.k0 (p++l) w1 w2
  |[],p,[],_=>⟨_,_,rfl⟩
  |[],_,_::_,h=>by simp at h
  |_::_,_,[],h=>by simp at h
  |x::l,p,y::q,h=>by
    have ih:=c131_0 a0 l (p++ [x]) q yab
    have e:set (p++y::q) (toNat (p.length:Int)) x=(p++ [x])++q:=by simp
    have e2:((p++ [x]).length:Int)=(p.length:Int)+1:=by simp
    rw[e2] at ih
    simp only[r131_0]
    rw[show p++x::l=(p++ [x])++l by simp]
    first |(rw[e]; exact ih) |(simp only[e]; exact ih)
theorem q131 (a0:(List K_U)) (hy0:length a0*32≤140737488351232) (hy1:∀z∈a0,ok_U z):(m131 a0)=a0:=by
  have h:=c131_0 a0 a0 [] (List.replicate (toNat ((length (map b_U a0)):Int)) (K_U.mk 0 [])) yay
  unfold m131
  simp only[List.nil_append,length_nil] at h
  obtain⟨_,_,h⟩:=h
  rw[show ((0:Nat):Int)=0 from rfl] at h
  rw[h]
theorem g131 {l0_0:Nat} {a0:(List K_U)} (hy0:length a0*32≤140737488351232) (hy1:∀z∈a0,ok_U z):Ev F X (.call 131 [(.one (.bor l0_0 (map b_U a0)))] [] [] [(.one (.own 2 (map d_U a0)))]):=by
  have t:=e131 (l0_0:=l0_0) (a0:=a0) hy0 hy1
  rw[q131 a0 hy0 hy1] at t
  exact t
theorem e100 {l0_1:Nat} {l0_2:Nat} {a0:K_T} (hy0:length a0.f1*40≤140737488351232) (hy1:∀z∈a0.f1,ok_N z) (hy2:length a0.f2*32≤140737488351232) (hy3:∀z∈a0.f2,ok_U z):Ev F X (.call 100 [(.agg (k_T l0_1 l0_2 a0))] [] [] [(.agg (d_T a0))]):=by
  exact cp ya (.r 19 [] [] (g130 (l0_0:=(l0_1+1)) (a0:=a0.f1) ‹_› ‹_›) (pe 0 (pe (length (map d_N a0.f1)) (.r 29 [] [] (g131 (l0_0:=(l0_2+1)) (a0:=a0.f2) ‹_› ‹_›) (pe 0 (pe (length (map d_U a0.f2)) (pe 0 (pe (length (map d_N a0.f1)) (pe 0 (pe (length (map d_U a0.f2)) (.f (pureR_N a0.f1) (.f (pureR_U a0.f2) .nil))))))))))))
inductive O71_0 where
  |k0 (w0:List K_T) (w1:Int) (w2:Bool)
def r71_0 (a0:(List K_T)):List K_T→Int→List K_T→O71_0
  |x0::y0,i,v0=>
    (r71_0 a0 y0 (i+1) (set v0 (toNat i) x0))
  |[],i,v0=>(O71_0.k0 v0 i (decide (i <((length (map b_T a0)):Int))))
def h71_0 (l0_0:Nat) (a0:(List K_T)) (i:Int) (v0:List K_T):St:=⟨[(0,(.one (.bor l0_0 (map b_T a0)))),(3,(.one (.ref ⟨(3,0,0),[],0,(toNat ((length (map b_T a0)):Int))⟩))),(4,(.one (.val (.int .i64 i))))],[((3,0,0),.live ⟨3,(map d_T v0),[]⟩)]⟩
def ex71_0:O71_0→VX.Exit
  |.k0 _ _ _=>(.exit 0)
def fin71_0 (l0_0:Nat) (a0:(List K_T)):O71_0→St
  |.k0 w0 w1 w2=>⟨[(0,(.one (.bor l0_0 (map b_T a0)))),(3,(.one (.ref ⟨(3,0,0),[],0,(toNat ((length (map b_T a0)):Int))⟩))),(4,(.one (.val (.int .i64 w1)))),(11,(.one (.val (.bool w2))))],[((3,0,0),.live ⟨3,(map d_T w0),[]⟩)]⟩
theorem t71_0 {l0_0:Nat} {a0:(List K_T)} (hy0:length a0*56≤140737488351232) (hy1:∀z∈a0,ok_T z):∀(y0:List K_T) (p:List K_T) (v0:List K_T),p++y0=a0→length v0=(toNat ((length (map b_T a0)):Int))→Ev F X (.code l71_0 (h71_0 l0_0 a0 (length p:Int) v0) (ex71_0 (r71_0 a0 y0 (length p:Int) v0)) (fin71_0 l0_0 a0 (r71_0 a0 y0 (length p:Int) v0)))
  |[],p,v0,hp0,hi0=>by
    have hc:=hcn b_T hp0
    have hj0:=hi0; try simp only[LN,Int.toNat_natCast] at hj0
    exact lx 9 ya (.f (nt hc) (.h 8 (.b false) .nil)) rfl
  |x0::y0,p,v0,hp0,hi0=>by
    have hc:=hcy b_T hp0
    have Hx0:=hxy hp0
    obtain⟨Mx0_0,Mx0_1,Mx0_2,Mx0_3⟩:=hy1 x0 (List.mem_of_getElem? Hx0)
    have hlen:=hly hp0
    have hw:wrap .i64 ((length p:Int)+1)=(length p:Int)+1:=wrap64 yb
    have hj0:=hi0; try simp only[LN,Int.toNat_natCast] at hj0
    obtain⟨x1,Hx1⟩:∃y,v0[toNat (length p:Int)]?=some y:=⟨_,List.getElem?_eq_getElem yb⟩
    simp only[r71_0]
    have f1:0≤(length p:Int):=yb
    have f4:0+(toNat ((length (map b_T a0)):Int))≤(length (map d_T v0)):=yl
    have f5:0≤(length p:Int)∧(length p:Int) <((toNat ((length (map b_T a0)):Int)):Int):=yb
    have f11:(set (map d_T v0) (0+(toNat (length p:Int))) (d_T x0))=(map d_T (set v0 (toNat (length p:Int)) x0)):=(by simp[take_of_length_le,d_T]; done)
    have ih:=t71_0 (l0_0:=l0_0) (a0:=a0) hy0 hy1 y0 (p++ [x0]) (set v0 (toNat (length p:Int)) x0) yd yo
    rw[pl1,← hw] at ih; rw[← hw]
    exact ly 34 ya (.f hc (.f f1 (.f (mp_ b_T Hx0) (.h 8 (.b true) (.h 18 (.row (b_T x0)) (.r 22 [] [] (e100 (l0_1:=(l0_0+1)) (l0_2:=(l0_0+1)) (a0:=x0) ‹_› ‹_› ‹_› ‹_›) (.f f4 (.f f5 (pe 0 (pe (length (map d_N x0.f1)) (pe 0 (pe (length (map d_U x0.f2)) (.f (mz_ d_T Hx1) (.f f11 (.f trivial (.h 26 (.rowD (d_T x1)) (.h 27 (.norm (3,0,0) (map d_T (set v0 (toNat (length p:Int)) x0))) .nil))))))))))))))))) ih
def post71_0 (n0:Nat):O71_0→Prop
  |.k0 w0 _ _=>length w0=n0
theorem z71_0 {a0:(List K_T)}:∀(y0:List K_T) (i:Int) (v0:List K_T),post71_0 (length v0) (r71_0 a0 y0 i v0)
  |[],i,v0=>by
    first | trivial |(simp only[post71_0,length_nil,Nat.add_zero]; done) |(simp[post71_0]; done)
  |x0::y0,i,v0=>by
    simp only[r71_0]
    have z:=z71_0 (a0:=a0) y0 (i+1) (set v0 (toNat i) x0)
    rw[show (length v0)=(length (set v0 (toNat i) x0)) from by first | omega |(simp only[LN]; done) |(simp only[LN]; omega)]
    exact z
def m71 (a0:(List K_T)):(List K_T):=
  (match r71_0 a0 a0 0 (List.replicate (toNat ((length (map b_T a0)):Int)) (K_T.mk 0 [] [])) with | .k0 w0_1 w1_1 w2_1=>w0_1)
theorem e71 {l0_0:Nat} {a0:(List K_T)} (hy0:length a0*56≤140737488351232) (hy1:∀z∈a0,ok_T z):Ev F X (.call 71 [(.one (.bor l0_0 (map b_T a0)))] [] [] [(.one (.own 3 (map d_T (m71 a0))))]):=by
  unfold m71
  have f0:0≤((length (map b_T a0)):Int)∧((length (map b_T a0)):Int)≤((length (map b_T a0)):Int)∧((length (map b_T a0)):Int)≤140737488355328∧((length (map b_T a0)):Int)*56≤140737488355328:=yl
  have f1:(List.replicate (toNat ((length (map b_T a0)):Int)) [(.i 0),(.own 3 []),(.own 2 [])])=(map d_T (List.replicate (toNat ((length (map b_T a0)):Int)) (K_T.mk 0 [] []))):=(by simp[take_of_length_le,d_T]; done)
  cases h0:r71_0 a0 a0 0 (List.replicate (toNat ((length (map b_T a0)):Int)) (K_T.mk 0 [] [])) with
  |k0 w0_1 w1_1 w2_1=>
    try dsimp only
    have zh0:=z71_0 (a0:=a0) a0 0 (List.replicate (toNat ((length (map b_T a0)):Int)) (K_T.mk 0 [] [])); rw[h0] at zh0; simp only[post71_0,length_map,length_set,length_append,length_replicate,length_cons,length_nil,Int.toNat_natCast] at zh0
    have f2:=Eq.refl (h71_0 l0_0 a0 0 (List.replicate (toNat ((length (map b_T a0)):Int)) (K_T.mk 0 [] [])))
    have f5:(toNat ((length (map b_T a0)):Int))=(length (map d_T w0_1)):=yl
    exact cp ya (.f f0 (.f f1 (.f f2 (.f (ev_ (e:=ex71_0) (g:=(fin71_0 l0_0 a0)) h0 (t71_0 (l0_0:=l0_0) (a0:=a0) (by assumption) (by assumption) a0 [] (List.replicate (toNat ((length (map b_T a0)):Int)) (K_T.mk 0 [] [])) rfl yM)) (pe 0 (.f f5 (.f (pureR_T w0_1) (.h 10 (.norm (3,0,0) (map d_T (List.replicate (toNat ((length (map b_T a0)):Int)) (K_T.mk 0 [] [])))) (.h 13 (.loop (h71_0 l0_0 a0 0 (List.replicate (toNat ((length (map b_T a0)):Int)) (K_T.mk 0 [] []))) (.exit 0) (fin71_0 l0_0 a0 (.k0 w0_1 w1_1 w2_1))) .nil)))))))))
theorem c71_0 (a0:List K_T):∀(l p q:List K_T),q.length=l.length→∃w1 w2,r71_0 a0 l (p.length:Int) (p++q)=.k0 (p++l) w1 w2
  |[],p,[],_=>⟨_,_,rfl⟩
  |[],_,_::_,h=>by simp at h
  |_::_,_,[],h=>by simp at h
  |x::l,p,y::q,h=>by
    have ih:=c71_0 a0 l (p++ [x]) q yab
    have e:set (p++y::q) (toNat (p.length:Int)) x=(p++ [x])++q:=by simp
    have e2:((p++ [x]).length:Int)=(p.length:Int)+1:=by simp
    rw[e2] at ih
    simp only[r71_0]
    rw[show p++x::l=(p++ [x])++l by simp]
    first |(rw[e]; exact ih) |(simp only[e]; exact ih)
theorem q71 (a0:(List K_T)) (hy0:length a0*56≤140737488351232) (hy1:∀z∈a0,ok_T z):(m71 a0)=a0:=by
  have h:=c71_0 a0 a0 [] (List.replicate (toNat ((length (map b_T a0)):Int)) (K_T.mk 0 [] [])) yay
  unfold m71
  simp only[List.nil_append,length_nil] at h
  obtain⟨_,_,h⟩:=h
  rw[show ((0:Nat):Int)=0 from rfl] at h
  rw[h]
theorem g71 {l0_0:Nat} {a0:(List K_T)} (hy0:length a0*56≤140737488351232) (hy1:∀z∈a0,ok_T z):Ev F X (.call 71 [(.one (.bor l0_0 (map b_T a0)))] [] [] [(.one (.own 3 (map d_T a0)))]):=by
  have t:=e71 (l0_0:=l0_0) (a0:=a0) hy0 hy1
  rw[q71 a0 hy0 hy1] at t
  exact t
theorem e39 {l0_4:Nat} {a0:K_G} (hy0:length a0.f4*56≤140737488351232) (hy1:∀z∈a0.f4,ok_T z):Ev F X (.call 39 [(.agg (k_G l0_4 a0))] [] [] [(.agg (d_G a0))]):=by
  exact cp ya (.r 43 [] [] (g71 (l0_0:=(l0_4+1)) (a0:=a0.f4) ‹_› ‹_›) (pe 0 (pe (length (map d_T a0.f4)) (pe 0 (pe (length (map d_T a0.f4)) (.f (pureR_T a0.f4) .nil))))))
theorem e8 {l0_5:Nat} {a0:K_J} (hy0:length a0.f5*56≤140737488351232) (hy1:∀z∈a0.f5,ok_T z):Ev F X (.call 8 [(.agg (k_J l0_5 a0))] [] [] [(.agg (d_J a0))]):=by
  exact cp ya (.r 19 [] [] (e39 (l0_4:=(l0_5+1)) (a0:=(K_G.mk a0.f1 a0.f2 a0.f3 a0.f4 a0.f5)) ‹_› ‹_›) (pe 0 (pe (length (map d_T a0.f5)) (pe 0 (pe (length (map d_T a0.f5)) (.f (pureR_T a0.f5) .nil))))))
inductive O17_0 where
  |k0 (w0:List K_J) (w1:Int) (w2:Bool)
def r17_0 (a0:(List K_J)):List K_J→Int→List K_J→O17_0
  |x0::y0,i,v0=>
    (r17_0 a0 y0 (i+1) (set v0 (toNat i) x0))
  |[],i,v0=>(O17_0.k0 v0 i (decide (i <((length (map b_J a0)):Int))))
def h17_0 (l0_0:Nat) (a0:(List K_J)) (i:Int) (v0:List K_J):St:=⟨[(0,(.one (.bor l0_0 (map b_J a0)))),(3,(.one (.ref ⟨(3,0,0),[],0,(toNat ((length (map b_J a0)):Int))⟩))),(4,(.one (.val (.int .i64 i))))],[((3,0,0),.live ⟨6,(map d_J v0),[]⟩)]⟩
def ex17_0:O17_0→VX.Exit
  |.k0 _ _ _=>(.exit 0)
def fin17_0 (l0_0:Nat) (a0:(List K_J)):O17_0→St
  |.k0 w0 w1 w2=>⟨[(0,(.one (.bor l0_0 (map b_J a0)))),(3,(.one (.ref ⟨(3,0,0),[],0,(toNat ((length (map b_J a0)):Int))⟩))),(4,(.one (.val (.int .i64 w1)))),(11,(.one (.val (.bool w2))))],[((3,0,0),.live ⟨6,(map d_J w0),[]⟩)]⟩
theorem t17_0 {l0_0:Nat} {a0:(List K_J)} (hy0:length a0*64≤140737488351232) (hy1:∀z∈a0,ok_J z):∀(y0:List K_J) (p:List K_J) (v0:List K_J),p++y0=a0→length v0=(toNat ((length (map b_J a0)):Int))→Ev F X (.code l17_0 (h17_0 l0_0 a0 (length p:Int) v0) (ex17_0 (r17_0 a0 y0 (length p:Int) v0)) (fin17_0 l0_0 a0 (r17_0 a0 y0 (length p:Int) v0)))
  |[],p,v0,hp0,hi0=>by
    have hc:=hcn b_J hp0
    have hj0:=hi0; try simp only[LN,Int.toNat_natCast] at hj0
    exact lx 9 ya (.f (nt hc) (.h 8 (.b false) .nil)) rfl
  |x0::y0,p,v0,hp0,hi0=>by
    have hc:=hcy b_J hp0
    have Hx0:=hxy hp0
    obtain⟨Mx0_0,Mx0_1⟩:=hy1 x0 (List.mem_of_getElem? Hx0)
    have hlen:=hly hp0
    have hw:wrap .i64 ((length p:Int)+1)=(length p:Int)+1:=wrap64 yb
    have hj0:=hi0; try simp only[LN,Int.toNat_natCast] at hj0
    obtain⟨x1,Hx1⟩:∃y,v0[toNat (length p:Int)]?=some y:=⟨_,List.getElem?_eq_getElem yb⟩
    simp only[r17_0]
    have f1:0≤(length p:Int):=yb
    have f4:0+(toNat ((length (map b_J a0)):Int))≤(length (map d_J v0)):=yl
    have f5:0≤(length p:Int)∧(length p:Int) <((toNat ((length (map b_J a0)):Int)):Int):=yb
    have f9:(set (map d_J v0) (0+(toNat (length p:Int))) (d_J x0))=(map d_J (set v0 (toNat (length p:Int)) x0)):=(by simp[take_of_length_le,d_J]; done)
    have ih:=t17_0 (l0_0:=l0_0) (a0:=a0) hy0 hy1 y0 (p++ [x0]) (set v0 (toNat (length p:Int)) x0) yd yo
    rw[pl1,← hw] at ih; rw[← hw]
    exact ly 34 ya (.f hc (.f f1 (.f (mp_ b_J Hx0) (.h 8 (.b true) (.h 18 (.row (b_J x0)) (.r 22 [] [] (e8 (l0_5:=(l0_0+1)) (a0:=x0) ‹_› ‹_›) (.f f4 (.f f5 (pe 0 (pe (length (map d_T x0.f5)) (.f (mz_ d_J Hx1) (.f f9 (.f trivial (.h 26 (.rowD (d_J x1)) (.h 27 (.norm (3,0,0) (map d_J (set v0 (toNat (length p:Int)) x0))) .nil))))))))))))))) ih
def post17_0 (n0:Nat):O17_0→Prop
  |.k0 w0 _ _=>length w0=n0
theorem z17_0 {a0:(List K_J)}:∀(y0:List K_J) (i:Int) (v0:List K_J),post17_0 (length v0) (r17_0 a0 y0 i v0)
  |[],i,v0=>by
    first | trivial |(simp only[post17_0,length_nil,Nat.add_zero]; done) |(simp[post17_0]; done)
  |x0::y0,i,v0=>by
    simp only[r17_0]
    have z:=z17_0 (a0:=a0) y0 (i+1) (set v0 (toNat i) x0)
    rw[show (length v0)=(length (set v0 (toNat i) x0)) from by first | omega |(simp only[LN]; done) |(simp only[LN]; omega)]
    exact z
def m17 (a0:(List K_J)):(List K_J):=
  (match r17_0 a0 a0 0 (List.replicate (toNat ((length (map b_J a0)):Int)) (K_J.mk 0 0 0 0 0 [])) with | .k0 w0_1 w1_1 w2_1=>w0_1)
theorem e17 {l0_0:Nat} {a0:(List K_J)} (hy0:length a0*64≤140737488351232) (hy1:∀z∈a0,ok_J z):Ev F X (.call 17 [(.one (.bor l0_0 (map b_J a0)))] [] [] [(.one (.own 6 (map d_J (m17 a0))))]):=by
  unfold m17
  have f0:0≤((length (map b_J a0)):Int)∧((length (map b_J a0)):Int)≤((length (map b_J a0)):Int)∧((length (map b_J a0)):Int)≤140737488355328∧((length (map b_J a0)):Int)*64≤140737488355328:=yl
  have f1:(List.replicate (toNat ((length (map b_J a0)):Int)) [(.i 0),(.i 0),(.i 0),(.i 0),(.i 0),(.own 3 [])])=(map d_J (List.replicate (toNat ((length (map b_J a0)):Int)) (K_J.mk 0 0 0 0 0 []))):=(by simp[take_of_length_le,d_J]; done)
  cases h0:r17_0 a0 a0 0 (List.replicate (toNat ((length (map b_J a0)):Int)) (K_J.mk 0 0 0 0 0 [])) with
  |k0 w0_1 w1_1 w2_1=>
    try dsimp only
    have zh0:=z17_0 (a0:=a0) a0 0 (List.replicate (toNat ((length (map b_J a0)):Int)) (K_J.mk 0 0 0 0 0 [])); rw[h0] at zh0; simp only[post17_0,length_map,length_set,length_append,length_replicate,length_cons,length_nil,Int.toNat_natCast] at zh0
    have f2:=Eq.refl (h17_0 l0_0 a0 0 (List.replicate (toNat ((length (map b_J a0)):Int)) (K_J.mk 0 0 0 0 0 [])))
    have f5:(toNat ((length (map b_J a0)):Int))=(length (map d_J w0_1)):=yl
    exact cp ya (.f f0 (.f f1 (.f f2 (.f (ev_ (e:=ex17_0) (g:=(fin17_0 l0_0 a0)) h0 (t17_0 (l0_0:=l0_0) (a0:=a0) (by assumption) (by assumption) a0 [] (List.replicate (toNat ((length (map b_J a0)):Int)) (K_J.mk 0 0 0 0 0 [])) rfl yM)) (pe 0 (.f f5 (.f (pureR_J w0_1) (.h 10 (.norm (3,0,0) (map d_J (List.replicate (toNat ((length (map b_J a0)):Int)) (K_J.mk 0 0 0 0 0 [])))) (.h 13 (.loop (h17_0 l0_0 a0 0 (List.replicate (toNat ((length (map b_J a0)):Int)) (K_J.mk 0 0 0 0 0 []))) (.exit 0) (fin17_0 l0_0 a0 (.k0 w0_1 w1_1 w2_1))) .nil)))))))))
theorem c17_0 (a0:List K_J):∀(l p q:List K_J),q.length=l.length→∃w1 w2,r17_0 a0 l (p.length:Int) (p++q)=.k0 (p++l) w1 w2
  |[],p,[],_=>⟨_,_,rfl⟩
  |[],_,_::_,h=>by simp at h
  |_::_,_,[],h=>by simp at h
  |x::l,p,y::q,h=>by
    have ih:=c17_0 a0 l (p++ [x]) q yab
    have e:set (p++y::q) (toNat (p.length:Int)) x=(p++ [x])++q:=by simp
    have e2:((p++ [x]).length:Int)=(p.length:Int)+1:=by simp
    rw[e2] at ih
    simp only[r17_0]
    rw[show p++x::l=(p++ [x])++l by simp]
    first |(rw[e]; exact ih) |(simp only[e]; exact ih)
theorem q17 (a0:(List K_J)) (hy0:length a0*64≤140737488351232) (hy1:∀z∈a0,ok_J z):(m17 a0)=a0:=by
  have h:=c17_0 a0 a0 [] (List.replicate (toNat ((length (map b_J a0)):Int)) (K_J.mk 0 0 0 0 0 [])) yay
  unfold m17
  simp only[List.nil_append,length_nil] at h
  obtain⟨_,_,h⟩:=h
  rw[show ((0:Nat):Int)=0 from rfl] at h
  rw[h]
theorem g17 {l0_0:Nat} {a0:(List K_J)} (hy0:length a0*64≤140737488351232) (hy1:∀z∈a0,ok_J z):Ev F X (.call 17 [(.one (.bor l0_0 (map b_J a0)))] [] [] [(.one (.own 6 (map d_J a0)))]):=by
  have t:=e17 (l0_0:=l0_0) (a0:=a0) hy0 hy1
  rw[q17 a0 hy0 hy1] at t
  exact t
inductive O169_0 where
  |k0 (w0:Int) (w1:Bool)
  |k1
def r169_0 (a0:(List Int)):List Int→List Int→Int→O169_0
  |x0::y0,x1::y1,i=>
    if(x0 !=x1)=true then(O169_0.k1) else
    (r169_0 a0 y0 y1 (i+1))
  |_,_,i=>(O169_0.k0 i (decide (i <((length (map b_i a0)):Int))))
def h169_0 (l0_0:Nat) (l1_0:Nat) (a0:(List Int)) (a1:(List Int)) (i:Int) :St:=⟨[(0,(.one (.bor l0_0 (map b_i a0)))),(1,(.one (.bor l1_0 (map b_i a1)))),(5,(.one (.val (.int .i64 i))))],[]⟩
def ex169_0:O169_0→VX.Exit
  |.k0 _ _=>(.exit 0)
  |.k1=>.ret
def fin169_0 (l0_0:Nat) (l1_0:Nat) (a0:(List Int)) (a1:(List Int)):O169_0→St
  |.k0 w0 w1=>⟨[(0,(.one (.bor l0_0 (map b_i a0)))),(1,(.one (.bor l1_0 (map b_i a1)))),(5,(.one (.val (.int .i64 w0)))),(14,(.one (.val (.bool w1))))],[]⟩
  |.k1=>⟨[(4,(.one (.val (.bool false))))],[]⟩
theorem t169_0 {l0_0:Nat} {l1_0:Nat} {a0:(List Int)} {a1:(List Int)} (hy0:length a0*8≤140737488351232) (hy1:length a1*8≤140737488351232):∀(y0:List Int) (y1:List Int) (p:List Int) (p_1:List Int),p++y0=a0→p_1++y1=a1→length p=length p_1→length y0=length y1→Ev F X (.code l169_0 (h169_0 l0_0 l1_0 a0 a1 (length p:Int)) (ex169_0 (r169_0 a0 y0 y1 (length p:Int))) (fin169_0 l0_0 l1_0 a0 a1 (r169_0 a0 y0 y1 (length p:Int))))
  |[],[],p,p_1,hp0,hp1,hq1,hl1=>by
    have hc:=hcn b_i hp0
    exact lx 9 ya (.f (nt hc) (.h 8 (.b false) .nil)) rfl
  |x0::y0,x1::y1,p,p_1,hp0,hp1,hq1,hl1=>by
    have hc:=hcy b_i hp0
    have Hx0:=hxy hp0
    have Hx1:(a1)[toNat (length p:Int)]?=some x1:=by
      rw[← hp1,hq1,Int.toNat_natCast]; simp
    have hlen:=hly hp0
    have hw:wrap .i64 ((length p:Int)+1)=(length p:Int)+1:=wrap64 yb
    simp only[r169_0]
    have f1:0≤(length p:Int):=yb
    have P1 {hs q} (r:PS F X hs q):=(PS.f hc (.f f1 (.f (mp_ b_i Hx0) (.f f1 (.f (mp_ b_i Hx1) (.h 8 (.b true) (.h 14 (.row [(.i x0)]) (.h 22 (.row [(.i x1)]) r))))))))
    by_cases h_1:(x0 !=x1)=true
    · try simp only[if_pos h_1]
      exact lx 30 ya (P1 (.f h_1 (.h 27 (.b true) .nil))) rfl
    · try simp only[if_neg h_1]
      have ih:=t169_0 (l0_0:=l0_0) (l1_0:=l1_0) (a0:=a0) (a1:=a1) hy0 hy1 y0 y1 (p++ [x0]) (p_1++ [x1]) yd yac yo yad
      rw[pl1,← hw] at ih; rw[← hw]
      exact ly 34 ya (P1 (.f (nt h_1) (.f trivial (.h 27 (.b false) .nil)))) ih
def m169 (a0:(List Int)) (a1:(List Int)):Bool:=
  if(((length (map b_i a0)):Int) !=((length (map b_i a1)):Int))=true then false else
  (match r169_0 a0 a0 a1 0 with | .k0 w0_1 w1_1=>true | .k1=>false)
theorem e169 {l0_0:Nat} {a0:(List Int)} {l1_0:Nat} {a1:(List Int)} (hy0:length a0*8≤140737488351232) (hy1:length a1*8≤140737488351232):Ev F X (.call 169 [(.one (.bor l0_0 (map b_i a0))),(.one (.bor l1_0 (map b_i a1)))] [] [] [(.one (.val (.bool (m169 a0 a1))))]):=by
  unfold m169
  by_cases h0:(((length (map b_i a0)):Int) !=((length (map b_i a1)):Int))=true
  · try simp only[if_pos h0]
    exact cp ya (.f h0 (.h 12 (.b true) .nil))
  · try simp only[if_neg h0]
    cases h1:r169_0 a0 a0 a1 0 with
    |k0 w0_1 w1_1=>
      try dsimp only
      have f1:=Eq.refl (h169_0 l0_0 l1_0 a0 a1 0 )
      exact cp ya (.f (nt h0) (.f f1 (.f (ev_ (e:=ex169_0) (g:=(fin169_0 l0_0 l1_0 a0 a1)) h1 (t169_0 (l0_0:=l0_0) (l1_0:=l1_0) (a0:=a0) (a1:=a1) (by assumption) (by assumption) a0 a1 [] []  rfl rfl rfl yX)) (.h 12 (.b false) (.h 15 (.loop (h169_0 l0_0 l1_0 a0 a1 0) (.exit 0) (fin169_0 l0_0 l1_0 a0 a1 (.k0 w0_1 w1_1))) .nil)))))
    |k1=>
      try dsimp only
      have f1:=Eq.refl (h169_0 l0_0 l1_0 a0 a1 0 )
      exact cp ya (.f (nt h0) (.f f1 (.f (ev_ (e:=ex169_0) (g:=(fin169_0 l0_0 l1_0 a0 a1)) h1 (t169_0 (l0_0:=l0_0) (l1_0:=l1_0) (a0:=a0) (a1:=a1) (by assumption) (by assumption) a0 a1 [] []  rfl rfl rfl yX)) (.h 12 (.b false) (.h 15 (.loop (h169_0 l0_0 l1_0 a0 a1 0) .ret (fin169_0 l0_0 l1_0 a0 a1 (.k1))) .nil)))))
theorem eqr169_0 (a0:(List Int)):∀(l m:List Int) (i:Int),l.length=m.length→(r169_0 a0 l m i=.k1∧l≠m)∨(∃w0 w1,r169_0 a0 l m i=.k0 w0 w1∧l=m)
  |[],[],i,_=>.inr ⟨_,_,rfl,rfl⟩
  |[],_::_,i,h=>by simp at h
  |_::_,[],i,h=>by simp at h
  |x::l,y::m,i,h=>by
    have ih:=eqr169_0 a0 l m (i+1) yab
    by_cases hxy:x=y
    · subst hxy
      have e:r169_0 a0 (x::l) (x::m) i=r169_0 a0 l m (i+1):=by simp[r169_0,ba_eq]
      rw[e]
      rcases ih with⟨h1,h2⟩ |⟨w0,w1,h1,h2⟩
      · exact .inl ⟨h1,by simp[h2]⟩
      · exact .inr ⟨_,_,h1,by rw[h2]⟩
    · have e:r169_0 a0 (x::l) (y::m) i=.k1:=by
        simp only[r169_0]
        first
          |((repeat' split)<;>simp_all [ba_eq]; done)
          |(cases x; cases y;(repeat' split)<;>simp_all [ba_eq])
      exact .inl ⟨e,by simp[hxy]⟩
open Classical in
theorem eqd169 (a b:(List Int)):m169 a b=decide (a=b):=by
  rw[Bool.eq_iff_iff,decide_eq_true_eq]
  unfold m169
  by_cases hl:length a=length b
  · rcases eqr169_0 a a b 0 hl with⟨h1,h2⟩ |⟨w0,w1,h1,h2⟩
    · simp only[h1,length_map,hl]
      first
        |(simp[h2,ba_eq]; done)
        |(cases a; cases b; simp_all [ba_eq]; done)
        |(cases a; cases b;(repeat' split)<;>simp_all [ba_eq])
    · simp only[h1,length_map,hl]
      first
        |(simp[h2,ba_eq]; done)
        |(cases a; cases b; simp_all [ba_eq]; done)
        |(cases a; cases b;(repeat' split)<;>simp_all [ba_eq])
  · have hn:a≠b:=by rintro rfl; exact hl rfl
    simp only[length_map]
    first
      |(simp[hn,hl,ba_eq]; done)
      |((repeat' split)<;>simp_all [ba_eq]; done)
      |(simp[hn]; omega)
def m164 (a0:K_N) (a1:K_N):Bool:=
  if(a0.f0 !=a1.f0)=true then false else
  if(a0.f1 !=a1.f1)=true then false else
    if(!(m169 a0.f2 a1.f2))=true then false else
      true
theorem e164 {l0_2:Nat} {a0:K_N} {l1_2:Nat} {a1:K_N} (hy0:length a0.f2*8≤140737488351232) (hy1:length a1.f2*8≤140737488351232):Ev F X (.call 164 [(.agg (k_N l0_2 a0)),(.agg (k_N l1_2 a1))] [] [] [(.one (.val (.bool (m164 a0 a1))))]):=by
  unfold m164
  by_cases h0:(a0.f0 !=a1.f0)=true
  · try simp only[if_pos h0]
    exact cp ya (.f h0 (.h 16 (.b true) .nil))
  · try simp only[if_neg h0]
    by_cases h1:(a0.f1 !=a1.f1)=true
    · try simp only[if_pos h1]
      exact cp ya (.f (nt h0) (.f h1 (.h 16 (.b false) (.h 27 (.b true) .nil))))
    · try simp only[if_neg h1]
      have P2 {hs q} (r:PS F X hs q):=(PS.f (nt h0) (.f (nt h1) (.h 16 (.b false) (.h 27 (.b false) (.r 37 [] [] (e169 (l0_0:=(l0_2+1)) (l1_0:=(l1_2+1)) (a0:=a0.f2) (a1:=a1.f2) ‹_› ‹_›) r)))))
      by_cases h2:(!(m169 a0.f2 a1.f2))=true
      · try simp only[if_pos h2]
        exact cp ya (P2 (.f h2 (.h 40 (.b true) .nil)))
      · try simp only[if_neg h2]
        exact cp ya (P2 (.f (nt h2) (.h 40 (.b false) .nil)))
open Classical in
theorem eqd164 (a b:K_N):m164 a b=decide (a=b):=by
  rw[Bool.eq_iff_iff,decide_eq_true_eq]
  constructor
  · intro h
    unfold m164 at h
    cases a; cases b
    (repeat' split at h)<;>simp_all [ba_eq,eqd169]
  · rintro rfl
    simp[m164,ba_eq,eqd169]
inductive O142_0 where
  |k0 (w0:Int) (w1:Bool)
  |k1
def r142_0 (a0:(List K_N)):List K_N→List K_N→Int→O142_0
  |x0::y0,x1::y1,i=>
    if(!(m164 x0 x1))=true then(O142_0.k1) else
    (r142_0 a0 y0 y1 (i+1))
  |_,_,i=>(O142_0.k0 i (decide (i <((length (map b_N a0)):Int))))
def h142_0 (l0_0:Nat) (l1_0:Nat) (a0:(List K_N)) (a1:(List K_N)) (i:Int) :St:=⟨[(0,(.one (.bor l0_0 (map b_N a0)))),(1,(.one (.bor l1_0 (map b_N a1)))),(5,(.one (.val (.int .i64 i))))],[]⟩
def ex142_0:O142_0→VX.Exit
  |.k0 _ _=>(.exit 0)
  |.k1=>.ret
def fin142_0 (l0_0:Nat) (l1_0:Nat) (a0:(List K_N)) (a1:(List K_N)):O142_0→St
  |.k0 w0 w1=>⟨[(0,(.one (.bor l0_0 (map b_N a0)))),(1,(.one (.bor l1_0 (map b_N a1)))),(5,(.one (.val (.int .i64 w0)))),(14,(.one (.val (.bool w1))))],[]⟩
  |.k1=>⟨[(4,(.one (.val (.bool false))))],[]⟩
theorem t142_0 {l0_0:Nat} {l1_0:Nat} {a0:(List K_N)} {a1:(List K_N)} (hy0:length a0*40≤140737488351232) (hy1:∀z∈a0,ok_N z) (hy2:length a1*40≤140737488351232) (hy3:∀z∈a1,ok_N z):∀(y0:List K_N) (y1:List K_N) (p:List K_N) (p_1:List K_N),p++y0=a0→p_1++y1=a1→length p=length p_1→length y0=length y1→Ev F X (.code l142_0 (h142_0 l0_0 l1_0 a0 a1 (length p:Int)) (ex142_0 (r142_0 a0 y0 y1 (length p:Int))) (fin142_0 l0_0 l1_0 a0 a1 (r142_0 a0 y0 y1 (length p:Int))))
  |[],[],p,p_1,hp0,hp1,hq1,hl1=>by
    have hc:=hcn b_N hp0
    exact lx 9 ya (.f (nt hc) (.h 8 (.b false) .nil)) rfl
  |x0::y0,x1::y1,p,p_1,hp0,hp1,hq1,hl1=>by
    have hc:=hcy b_N hp0
    have Hx0:=hxy hp0
    have Hx1:(a1)[toNat (length p:Int)]?=some x1:=by
      rw[← hp1,hq1,Int.toNat_natCast]; simp
    have Mx0_0:=hy1 x0 (List.mem_of_getElem? Hx0)
    have Mx1_0:=hy3 x1 (List.mem_of_getElem? Hx1)
    have hlen:=hly hp0
    have hw:wrap .i64 ((length p:Int)+1)=(length p:Int)+1:=wrap64 yb
    simp only[r142_0]
    have f1:0≤(length p:Int):=yb
    have P1 {hs q} (r:PS F X hs q):=(PS.f hc (.f f1 (.f (mp_ b_N Hx0) (.f f1 (.f (mp_ b_N Hx1) (.h 8 (.b true) (.h 14 (.row (b_N x0)) (.h 22 (.row (b_N x1)) (.r 26 [] [] (e164 (l0_2:=(l0_0+1)) (l1_2:=(l1_0+1)) (a0:=x0) (a1:=x1) (by assumption) (by assumption)) r)))))))))
    by_cases h_1:(!(m164 x0 x1))=true
    · try simp only[if_pos h_1]
      exact lx 32 ya (P1 (.f h_1 (.h 29 (.b true) .nil))) rfl
    · try simp only[if_neg h_1]
      have ih:=t142_0 (l0_0:=l0_0) (l1_0:=l1_0) (a0:=a0) (a1:=a1) hy0 hy1 hy2 hy3 y0 y1 (p++ [x0]) (p_1++ [x1]) yd yac yo yad
      rw[pl1,← hw] at ih; rw[← hw]
      exact ly 36 ya (P1 (.f (nt h_1) (.f trivial (.h 29 (.b false) .nil)))) ih
def m142 (a0:(List K_N)) (a1:(List K_N)):Bool:=
  if(((length (map b_N a0)):Int) !=((length (map b_N a1)):Int))=true then false else
  (match r142_0 a0 a0 a1 0 with | .k0 w0_1 w1_1=>true | .k1=>false)
theorem e142 {l0_0:Nat} {a0:(List K_N)} {l1_0:Nat} {a1:(List K_N)} (hy0:length a0*40≤140737488351232) (hy1:∀z∈a0,ok_N z) (hy2:length a1*40≤140737488351232) (hy3:∀z∈a1,ok_N z):Ev F X (.call 142 [(.one (.bor l0_0 (map b_N a0))),(.one (.bor l1_0 (map b_N a1)))] [] [] [(.one (.val (.bool (m142 a0 a1))))]):=by
  unfold m142
  by_cases h0:(((length (map b_N a0)):Int) !=((length (map b_N a1)):Int))=true
  · try simp only[if_pos h0]
    exact cp ya (.f h0 (.h 12 (.b true) .nil))
  · try simp only[if_neg h0]
    cases h1:r142_0 a0 a0 a1 0 with
    |k0 w0_1 w1_1=>
      try dsimp only
      have f1:=Eq.refl (h142_0 l0_0 l1_0 a0 a1 0 )
      exact cp ya (.f (nt h0) (.f f1 (.f (ev_ (e:=ex142_0) (g:=(fin142_0 l0_0 l1_0 a0 a1)) h1 (t142_0 (l0_0:=l0_0) (l1_0:=l1_0) (a0:=a0) (a1:=a1) (by assumption) (by assumption) (by assumption) (by assumption) a0 a1 [] []  rfl rfl rfl yX)) (.h 12 (.b false) (.h 15 (.loop (h142_0 l0_0 l1_0 a0 a1 0) (.exit 0) (fin142_0 l0_0 l1_0 a0 a1 (.k0 w0_1 w1_1))) .nil)))))
    |k1=>
      try dsimp only
      have f1:=Eq.refl (h142_0 l0_0 l1_0 a0 a1 0 )
      exact cp ya (.f (nt h0) (.f f1 (.f (ev_ (e:=ex142_0) (g:=(fin142_0 l0_0 l1_0 a0 a1)) h1 (t142_0 (l0_0:=l0_0) (l1_0:=l1_0) (a0:=a0) (a1:=a1) (by assumption) (by assumption) (by assumption) (by assumption) a0 a1 [] []  rfl rfl rfl yX)) (.h 12 (.b false) (.h 15 (.loop (h142_0 l0_0 l1_0 a0 a1 0) .ret (fin142_0 l0_0 l1_0 a0 a1 (.k1))) .nil)))))
theorem eqr142_0 (a0:(List K_N)):∀(l m:List K_N) (i:Int),l.length=m.length→(r142_0 a0 l m i=.k1∧l≠m)∨(∃w0 w1,r142_0 a0 l m i=.k0 w0 w1∧l=m)
  |[],[],i,_=>.inr ⟨_,_,rfl,rfl⟩
  |[],_::_,i,h=>by simp at h
  |_::_,[],i,h=>by simp at h
  |x::l,y::m,i,h=>by
    have ih:=eqr142_0 a0 l m (i+1) yab
    by_cases hxy:x=y
    · subst hxy
      have e:r142_0 a0 (x::l) (x::m) i=r142_0 a0 l m (i+1):=by simp[r142_0,ba_eq,eqd164]
      rw[e]
      rcases ih with⟨h1,h2⟩ |⟨w0,w1,h1,h2⟩
      · exact .inl ⟨h1,by simp[h2]⟩
      · exact .inr ⟨_,_,h1,by rw[h2]⟩
    · have e:r142_0 a0 (x::l) (y::m) i=.k1:=by
        simp only[r142_0]
        first
          |((repeat' split)<;>simp_all [ba_eq,eqd164]; done)
          |(cases x; cases y;(repeat' split)<;>simp_all [ba_eq,eqd164])
      exact .inl ⟨e,by simp[hxy]⟩
open Classical in
theorem eqd142 (a b:(List K_N)):m142 a b=decide (a=b):=by
  rw[Bool.eq_iff_iff,decide_eq_true_eq]
  unfold m142
  by_cases hl:length a=length b
  · rcases eqr142_0 a a b 0 hl with⟨h1,h2⟩ |⟨w0,w1,h1,h2⟩
    · simp only[h1,length_map,hl]
      first
        |(simp[h2,ba_eq,eqd164]; done)
        |(cases a; cases b; simp_all [ba_eq,eqd164]; done)
        |(cases a; cases b;(repeat' split)<;>simp_all [ba_eq,eqd164])
    · simp only[h1,length_map,hl]
      first
        |(simp[h2,ba_eq,eqd164]; done)
        |(cases a; cases b; simp_all [ba_eq,eqd164]; done)
        |(cases a; cases b;(repeat' split)<;>simp_all [ba_eq,eqd164])
  · have hn:a≠b:=by rintro rfl; exact hl rfl
    simp only[length_map]
    first
      |(simp[hn,hl,ba_eq,eqd164]; done)
      |((repeat' split)<;>simp_all [ba_eq,eqd164]; done)
      |(simp[hn]; omega)
def m165 (a0:K_U) (a1:K_U):Bool:=
  if(a0.f0 !=a1.f0)=true then false else
  if(!(m169 a0.f1 a1.f1))=true then false else
    true
theorem e165 {l0_1:Nat} {a0:K_U} {l1_1:Nat} {a1:K_U} (hy0:length a0.f1*8≤140737488351232) (hy1:length a1.f1*8≤140737488351232):Ev F X (.call 165 [(.agg (k_U l0_1 a0)),(.agg (k_U l1_1 a1))] [] [] [(.one (.val (.bool (m165 a0 a1))))]):=by
  unfold m165
  by_cases h0:(a0.f0 !=a1.f0)=true
  · try simp only[if_pos h0]
    exact cp ya (.f h0 (.h 16 (.b true) .nil))
  · try simp only[if_neg h0]
    have P1 {hs q} (r:PS F X hs q):=(PS.f (nt h0) (.h 16 (.b false) (.r 26 [] [] (e169 (l0_0:=(l0_1+1)) (l1_0:=(l1_1+1)) (a0:=a0.f1) (a1:=a1.f1) ‹_› ‹_›) r)))
    by_cases h1:(!(m169 a0.f1 a1.f1))=true
    · try simp only[if_pos h1]
      exact cp ya (P1 (.f h1 (.h 29 (.b true) .nil)))
    · try simp only[if_neg h1]
      exact cp ya (P1 (.f (nt h1) (.h 29 (.b false) .nil)))
open Classical in
theorem eqd165 (a b:K_U):m165 a b=decide (a=b):=by
  rw[Bool.eq_iff_iff,decide_eq_true_eq]
  constructor
  · intro h
    unfold m165 at h
    cases a; cases b
    (repeat' split at h)<;>simp_all [ba_eq,eqd169]
  · rintro rfl
    simp[m165,ba_eq,eqd169]
inductive O143_0 where
  |k0 (w0:Int) (w1:Bool)
  |k1
def r143_0 (a0:(List K_U)):List K_U→List K_U→Int→O143_0
  |x0::y0,x1::y1,i=>
    if(!(m165 x0 x1))=true then(O143_0.k1) else
    (r143_0 a0 y0 y1 (i+1))
  |_,_,i=>(O143_0.k0 i (decide (i <((length (map b_U a0)):Int))))
def h143_0 (l0_0:Nat) (l1_0:Nat) (a0:(List K_U)) (a1:(List K_U)) (i:Int) :St:=⟨[(0,(.one (.bor l0_0 (map b_U a0)))),(1,(.one (.bor l1_0 (map b_U a1)))),(5,(.one (.val (.int .i64 i))))],[]⟩
def ex143_0:O143_0→VX.Exit
  |.k0 _ _=>(.exit 0)
  |.k1=>.ret
def fin143_0 (l0_0:Nat) (l1_0:Nat) (a0:(List K_U)) (a1:(List K_U)):O143_0→St
  |.k0 w0 w1=>⟨[(0,(.one (.bor l0_0 (map b_U a0)))),(1,(.one (.bor l1_0 (map b_U a1)))),(5,(.one (.val (.int .i64 w0)))),(14,(.one (.val (.bool w1))))],[]⟩
  |.k1=>⟨[(4,(.one (.val (.bool false))))],[]⟩
theorem t143_0 {l0_0:Nat} {l1_0:Nat} {a0:(List K_U)} {a1:(List K_U)} (hy0:length a0*32≤140737488351232) (hy1:∀z∈a0,ok_U z) (hy2:length a1*32≤140737488351232) (hy3:∀z∈a1,ok_U z):∀(y0:List K_U) (y1:List K_U) (p:List K_U) (p_1:List K_U),p++y0=a0→p_1++y1=a1→length p=length p_1→length y0=length y1→Ev F X (.code l143_0 (h143_0 l0_0 l1_0 a0 a1 (length p:Int)) (ex143_0 (r143_0 a0 y0 y1 (length p:Int))) (fin143_0 l0_0 l1_0 a0 a1 (r143_0 a0 y0 y1 (length p:Int))))
  |[],[],p,p_1,hp0,hp1,hq1,hl1=>by
    have hc:=hcn b_U hp0
    exact lx 9 ya (.f (nt hc) (.h 8 (.b false) .nil)) rfl
  |x0::y0,x1::y1,p,p_1,hp0,hp1,hq1,hl1=>by
    have hc:=hcy b_U hp0
    have Hx0:=hxy hp0
    have Hx1:(a1)[toNat (length p:Int)]?=some x1:=by
      rw[← hp1,hq1,Int.toNat_natCast]; simp
    have Mx0_0:=hy1 x0 (List.mem_of_getElem? Hx0)
    have Mx1_0:=hy3 x1 (List.mem_of_getElem? Hx1)
    have hlen:=hly hp0
    have hw:wrap .i64 ((length p:Int)+1)=(length p:Int)+1:=wrap64 yb
    simp only[r143_0]
    have f1:0≤(length p:Int):=yb
    have P1 {hs q} (r:PS F X hs q):=(PS.f hc (.f f1 (.f (mp_ b_U Hx0) (.f f1 (.f (mp_ b_U Hx1) (.h 8 (.b true) (.h 14 (.row (b_U x0)) (.h 22 (.row (b_U x1)) (.r 26 [] [] (e165 (l0_1:=(l0_0+1)) (l1_1:=(l1_0+1)) (a0:=x0) (a1:=x1) (by assumption) (by assumption)) r)))))))))
    by_cases h_1:(!(m165 x0 x1))=true
    · try simp only[if_pos h_1]
      exact lx 32 ya (P1 (.f h_1 (.h 29 (.b true) .nil))) rfl
    · try simp only[if_neg h_1]
      have ih:=t143_0 (l0_0:=l0_0) (l1_0:=l1_0) (a0:=a0) (a1:=a1) hy0 hy1 hy2 hy3 y0 y1 (p++ [x0]) (p_1++ [x1]) yd yac yo yad
      rw[pl1,← hw] at ih; rw[← hw]
      exact ly 36 ya (P1 (.f (nt h_1) (.f trivial (.h 29 (.b false) .nil)))) ih
def m143 (a0:(List K_U)) (a1:(List K_U)):Bool:=
  if(((length (map b_U a0)):Int) !=((length (map b_U a1)):Int))=true then false else
  (match r143_0 a0 a0 a1 0 with | .k0 w0_1 w1_1=>true | .k1=>false)
theorem e143 {l0_0:Nat} {a0:(List K_U)} {l1_0:Nat} {a1:(List K_U)} (hy0:length a0*32≤140737488351232) (hy1:∀z∈a0,ok_U z) (hy2:length a1*32≤140737488351232) (hy3:∀z∈a1,ok_U z):Ev F X (.call 143 [(.one (.bor l0_0 (map b_U a0))),(.one (.bor l1_0 (map b_U a1)))] [] [] [(.one (.val (.bool (m143 a0 a1))))]):=by
  unfold m143
  by_cases h0:(((length (map b_U a0)):Int) !=((length (map b_U a1)):Int))=true
  · try simp only[if_pos h0]
    exact cp ya (.f h0 (.h 12 (.b true) .nil))
  · try simp only[if_neg h0]
    cases h1:r143_0 a0 a0 a1 0 with
    |k0 w0_1 w1_1=>
      try dsimp only
      have f1:=Eq.refl (h143_0 l0_0 l1_0 a0 a1 0 )
      exact cp ya (.f (nt h0) (.f f1 (.f (ev_ (e:=ex143_0) (g:=(fin143_0 l0_0 l1_0 a0 a1)) h1 (t143_0 (l0_0:=l0_0) (l1_0:=l1_0) (a0:=a0) (a1:=a1) (by assumption) (by assumption) (by assumption) (by assumption) a0 a1 [] []  rfl rfl rfl yX)) (.h 12 (.b false) (.h 15 (.loop (h143_0 l0_0 l1_0 a0 a1 0) (.exit 0) (fin143_0 l0_0 l1_0 a0 a1 (.k0 w0_1 w1_1))) .nil)))))
    |k1=>
      try dsimp only
      have f1:=Eq.refl (h143_0 l0_0 l1_0 a0 a1 0 )
      exact cp ya (.f (nt h0) (.f f1 (.f (ev_ (e:=ex143_0) (g:=(fin143_0 l0_0 l1_0 a0 a1)) h1 (t143_0 (l0_0:=l0_0) (l1_0:=l1_0) (a0:=a0) (a1:=a1) (by assumption) (by assumption) (by assumption) (by assumption) a0 a1 [] []  rfl rfl rfl yX)) (.h 12 (.b false) (.h 15 (.loop (h143_0 l0_0 l1_0 a0 a1 0) .ret (fin143_0 l0_0 l1_0 a0 a1 (.k1))) .nil)))))
theorem eqr143_0 (a0:(List K_U)):∀(l m:List K_U) (i:Int),l.length=m.length→(r143_0 a0 l m i=.k1∧l≠m)∨(∃w0 w1,r143_0 a0 l m i=.k0 w0 w1∧l=m)
  |[],[],i,_=>.inr ⟨_,_,rfl,rfl⟩
  |[],_::_,i,h=>by simp at h
  |_::_,[],i,h=>by simp at h
  |x::l,y::m,i,h=>by
    have ih:=eqr143_0 a0 l m (i+1) yab
    by_cases hxy:x=y
    · subst hxy
      have e:r143_0 a0 (x::l) (x::m) i=r143_0 a0 l m (i+1):=by simp[r143_0,ba_eq,eqd165]
      rw[e]
      rcases ih with⟨h1,h2⟩ |⟨w0,w1,h1,h2⟩
      · exact .inl ⟨h1,by simp[h2]⟩
      · exact .inr ⟨_,_,h1,by rw[h2]⟩
    · have e:r143_0 a0 (x::l) (y::m) i=.k1:=by
        simp only[r143_0]
        first
          |((repeat' split)<;>simp_all [ba_eq,eqd165]; done)
          |(cases x; cases y;(repeat' split)<;>simp_all [ba_eq,eqd165])
      exact .inl ⟨e,by simp[hxy]⟩
open Classical in
theorem eqd143 (a b:(List K_U)):m143 a b=decide (a=b):=by
  rw[Bool.eq_iff_iff,decide_eq_true_eq]
  unfold m143
  by_cases hl:length a=length b
  · rcases eqr143_0 a a b 0 hl with⟨h1,h2⟩ |⟨w0,w1,h1,h2⟩
    · simp only[h1,length_map,hl]
      first
        |(simp[h2,ba_eq,eqd165]; done)
        |(cases a; cases b; simp_all [ba_eq,eqd165]; done)
        |(cases a; cases b;(repeat' split)<;>simp_all [ba_eq,eqd165])
    · simp only[h1,length_map,hl]
      first
        |(simp[h2,ba_eq,eqd165]; done)
        |(cases a; cases b; simp_all [ba_eq,eqd165]; done)
        |(cases a; cases b;(repeat' split)<;>simp_all [ba_eq,eqd165])
  · have hn:a≠b:=by rintro rfl; exact hl rfl
    simp only[length_map]
    first
      |(simp[hn,hl,ba_eq,eqd165]; done)
      |((repeat' split)<;>simp_all [ba_eq,eqd165]; done)
      |(simp[hn]; omega)
def m109 (a0:K_T) (a1:K_T):Bool:=
  if(a0.f0 !=a1.f0)=true then false else
  if(!(m142 a0.f1 a1.f1))=true then false else
    if(!(m143 a0.f2 a1.f2))=true then false else
      true
theorem e109 {l0_1:Nat} {l0_2:Nat} {a0:K_T} {l1_1:Nat} {l1_2:Nat} {a1:K_T} (hy0:length a0.f1*40≤140737488351232) (hy1:∀z∈a0.f1,ok_N z) (hy2:length a0.f2*32≤140737488351232) (hy3:∀z∈a0.f2,ok_U z) (hy4:length a1.f1*40≤140737488351232) (hy5:∀z∈a1.f1,ok_N z) (hy6:length a1.f2*32≤140737488351232) (hy7:∀z∈a1.f2,ok_U z):Ev F X (.call 109 [(.agg (k_T l0_1 l0_2 a0)),(.agg (k_T l1_1 l1_2 a1))] [] [] [(.one (.val (.bool (m109 a0 a1))))]):=by
  unfold m109
  by_cases h0:(a0.f0 !=a1.f0)=true
  · try simp only[if_pos h0]
    exact cp ya (.f h0 (.h 16 (.b true) .nil))
  · try simp only[if_neg h0]
    have P1 {hs q} (r:PS F X hs q):=(PS.f (nt h0) (.h 16 (.b false) (.r 26 [] [] (e142 (l0_0:=(l0_1+1)) (l1_0:=(l1_1+1)) (a0:=a0.f1) (a1:=a1.f1) ‹_› ‹_› ‹_› ‹_›) r)))
    by_cases h1:(!(m142 a0.f1 a1.f1))=true
    · try simp only[if_pos h1]
      exact cp ya (P1 (.f h1 (.h 29 (.b true) .nil)))
    · try simp only[if_neg h1]
      have P2 {hs q} (r:PS F X hs q):=(P1 (.f (nt h1) (.h 29 (.b false) (.r 39 [] [] (e143 (l0_0:=(l0_2+1)) (l1_0:=(l1_2+1)) (a0:=a0.f2) (a1:=a1.f2) ‹_› ‹_› ‹_› ‹_›) r))))
      by_cases h2:(!(m143 a0.f2 a1.f2))=true
      · try simp only[if_pos h2]
        exact cp ya (P2 (.f h2 (.h 42 (.b true) .nil)))
      · try simp only[if_neg h2]
        exact cp ya (P2 (.f (nt h2) (.h 42 (.b false) .nil)))
open Classical in
theorem eqd109 (a b:K_T):m109 a b=decide (a=b):=by
  rw[Bool.eq_iff_iff,decide_eq_true_eq]
  constructor
  · intro h
    unfold m109 at h
    cases a; cases b
    (repeat' split at h)<;>simp_all [ba_eq,eqd142,eqd143]
  · rintro rfl
    simp[m109,ba_eq,eqd142,eqd143]
end Go.Proofs.YtmdocdnidilaiaaGreat.CheckShare
