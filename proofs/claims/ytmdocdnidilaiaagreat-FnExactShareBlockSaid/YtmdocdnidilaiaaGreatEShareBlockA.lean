/- What the functions compute. -/
import Derived.Test.YtmdocdnidilaiaaGreatTShareBlock
import Derived.Test.YtmdocdnidilaiaaGreatVNum
import Derived.Test.YtmdocdnidilaiaaGreatVClone
import Derived.KernelRfl
namespace Go.Proofs.YtmdocdnidilaiaaGreat.ShareBlock
open Go Go.Proofs.YtmdocdnidilaiaaGreat.V
set_option linter.unusedVariables false
set_option linter.unusedSimpArgs false
set_option maxRecDepth 20000
abbrev _root_.Go.Proofs.YtmdocdnidilaiaaGreat.V.B.i (x:Int):B:=.val (.int .i64 x)
abbrev _root_.Go.Proofs.YtmdocdnidilaiaaGreat.V.D.i (x:Int):D:=.val (.int .i64 x)
abbrev _root_.Go.Proofs.YtmdocdnidilaiaaGreat.V.CV.i (x:Int):CV:=.val (.int .i64 x)
abbrev _root_.Go.Proofs.YtmdocdnidilaiaaGreat.V.SV.oi (x:Int):SV:=.one (.val (.int .i64 x))
abbrev _root_.Go.Proofs.YtmdocdnidilaiaaGreat.V.Ret.oi (x:Int):Ret:=.one (.val (.int .i64 x))
open Go.IntKind (wrap)
open Int (toNat)
open List (length_replicate length_map length_set length_append length_cons length_nil length_take length_drop take_of_length_le map_take map_drop map_set append_assoc getElem?_map map length take drop getD set)
def X:Ext:=fun f args objs rs=>(f=156∧objs=[]∧CloneX 1 8 args rs)
theorem pe {α:Type} {hs q} (x:α) (r:PS F X hs q):PS F X hs ((x=x)::q):=.f rfl r
theorem mp_ {α β:Type} (f:α→β) {l:List α} {i:Nat} {x:α} (h:l[i]?=some x):(l.map f)[i]?=some (f x):=by rw[getElem?_map,h]; rfl
theorem mz_ {α β:Type} (f:α→β) {l:List α} {i:Nat} {x:α} (h:l[i]?=some x):(l.map f)[0+i]?=some (f x):=by rw[Nat.zero_add]; exact mp_ f h
theorem ev_ {c:VC} {σ:St} {O:Type} {e:O→VX.Exit} {g:O→St} {r w:O} (h:r=w) (t:Ev F X (.code c σ (e r) (g r))):Ev F X (.code c σ (e w) (g w)):=h ▸ t
theorem cp {f hs args rs q} (h:callH F X f hs [] args []=some ([],rs,q)) (p:PS F X hs q):Ev F X (.call f args [] [] rs):=callP_ok h p
theorem cq (ps:List Bool) {f hs args objs os rs q} (h:callH F X f hs ps args objs=some (os,rs,q)) (p:PS F X hs q):Ev F X (.call f args objs os rs):=callP_ok h p
theorem ch (c:VC) (σ σ':St) (e:VX.Exit) (t:Nat) {hs q} (h:codeH F X c 0 hs σ=some (e,σ',t,[],q)) (p:PS F X hs q):Ev F X (.code c σ e σ'):=codeP_ok h p
def b_i (x:Int):List B:=[(.val (.int .i64 x))]
def d_i (x:Int):List D:=[(.val (.int .i64 x))]
theorem toBR_i:∀(l:List Int),toBR (l.map d_i)=l.map b_i
  |[]=>rfl
  |x::l=>by simp[toBR,toBL,toB,d_i,b_i,toBR_i l]
theorem fullR_i:∀(l:List Int),fullR (l.map d_i)=true
  |[]=>rfl
  |x::l=>by simp[fullR,fullL,full,d_i,fullR_i l]
theorem pureR_i:∀(l:List Int),pureR (l.map d_i)=true
  |[]=>rfl
  |x::l=>by simp[pureR,pureL,V.pure,d_i,pureR_i l]
theorem ft_i (a b:Nat) (l:List Int):fullR (take a (drop b (l.map d_i)))=true:=by rw[← map_drop,← map_take]; exact fullR_i _
theorem tb_i (l:List Int):toBR (take (l.map d_i).length (drop 0 (l.map d_i)))=l.map b_i:=by rw[List.drop_zero,List.take_length]; exact toBR_i l
theorem ln_i {hs q} (x:List Int) (r:PS F X hs q):PS F X hs ((0+(x.map d_i).length≤(x.map d_i).length)::(fullR (take (x.map d_i).length (drop 0 (x.map d_i)))=true)::(toBR (take (x.map d_i).length (drop 0 (x.map d_i)))=x.map b_i)::q):=.f (Nat.le_of_eq (Nat.zero_add _)) (.f (ft_i _ _ _) (.f (tb_i _) r))
theorem lenB_i (l:List Int):∀r∈l.map b_i,r.length=1:=by intro r h; obtain⟨x,_,rfl⟩:=List.mem_map.1 h; rfl
theorem lenD_i (l:List Int):∀r∈l.map d_i,r.length=1:=by intro r h; obtain⟨x,_,rfl⟩:=List.mem_map.1 h; rfl
theorem fromBR_i (n:Nat) (l:List Int):fromBR n (l.map b_i)=l.map d_i:=by simp[fromBR,b_i,d_i,fromB,Function.comp_def]
theorem copy_i (l:List Int):(l.map d_i).all (fun x=>x.all copyable)=true:=by simp[d_i,copyable,Function.comp_def]
structure K_N where
  f0:Int
  f1:Int
  f2:(List Int)
def b_N (x:K_N):List B:=[(.val (.int .i64 x.f0)),(.val (.int .i64 x.f1)),(.sl (map b_i x.f2))]
def d_N (x:K_N):List D:=[(.val (.int .i64 x.f0)),(.val (.int .i64 x.f1)),(.own 1 (map d_i x.f2))]
abbrev k_N (l0:Nat) (x:K_N):List CV:=[(.val (.int .i64 x.f0)),(.val (.int .i64 x.f1)),(.bor l0 (map b_i x.f2))]
theorem toBR_N:∀(l:List K_N),toBR (l.map d_N)=l.map b_N
  |[]=>rfl
  |x::l=>by simp[toBR,toBL,toB,d_N,b_N,toBR_N l,toBR_i]
theorem fullR_N:∀(l:List K_N),fullR (l.map d_N)=true
  |[]=>rfl
  |x::l=>by simp[fullR,fullL,full,d_N,fullR_N l,fullR_i]
theorem pureR_N:∀(l:List K_N),pureR (l.map d_N)=true
  |[]=>rfl
  |x::l=>by simp[pureR,pureL,V.pure,d_N,pureR_N l,pureR_i]
theorem ft_N (a b:Nat) (l:List K_N):fullR (take a (drop b (l.map d_N)))=true:=by rw[← map_drop,← map_take]; exact fullR_N _
theorem tb_N (l:List K_N):toBR (take (l.map d_N).length (drop 0 (l.map d_N)))=l.map b_N:=by rw[List.drop_zero,List.take_length]; exact toBR_N l
theorem ln_N {hs q} (x:List K_N) (r:PS F X hs q):PS F X hs ((0+(x.map d_N).length≤(x.map d_N).length)::(fullR (take (x.map d_N).length (drop 0 (x.map d_N)))=true)::(toBR (take (x.map d_N).length (drop 0 (x.map d_N)))=x.map b_N)::q):=.f (Nat.le_of_eq (Nat.zero_add _)) (.f (ft_N _ _ _) (.f (tb_N _) r))
theorem lenB_N (l:List K_N):∀r∈l.map b_N,r.length=3:=by intro r h; obtain⟨x,_,rfl⟩:=List.mem_map.1 h; rfl
theorem lenD_N (l:List K_N):∀r∈l.map d_N,r.length=3:=by intro r h; obtain⟨x,_,rfl⟩:=List.mem_map.1 h; rfl
def ok_N (x:K_N):Prop:=(length x.f2*8≤140737488351232)
def os_N (x:K_N):Prop:=(length x.f2*8≤140737488351232)
theorem gos_N {l:List K_N} (h:∀z∈l,os_N z) (n:Nat) (d:K_N) (hd:os_N d):os_N (l.getD n d):=by
  rw[List.getD_eq_getElem?_getD]; cases h2:l[n]? with
  |none=>simpa using hd
  |some x=>exact h x (List.mem_of_getElem? h2)
structure K_U where
  f0:Int
  f1:(List Int)
def b_U (x:K_U):List B:=[(.val (.int .i64 x.f0)),(.sl (map b_i x.f1))]
def d_U (x:K_U):List D:=[(.val (.int .i64 x.f0)),(.own 1 (map d_i x.f1))]
abbrev k_U (l0:Nat) (x:K_U):List CV:=[(.val (.int .i64 x.f0)),(.bor l0 (map b_i x.f1))]
theorem toBR_U:∀(l:List K_U),toBR (l.map d_U)=l.map b_U
  |[]=>rfl
  |x::l=>by simp[toBR,toBL,toB,d_U,b_U,toBR_U l,toBR_i]
theorem fullR_U:∀(l:List K_U),fullR (l.map d_U)=true
  |[]=>rfl
  |x::l=>by simp[fullR,fullL,full,d_U,fullR_U l,fullR_i]
theorem pureR_U:∀(l:List K_U),pureR (l.map d_U)=true
  |[]=>rfl
  |x::l=>by simp[pureR,pureL,V.pure,d_U,pureR_U l,pureR_i]
theorem lenB_U (l:List K_U):∀r∈l.map b_U,r.length=2:=by intro r h; obtain⟨x,_,rfl⟩:=List.mem_map.1 h; rfl
theorem lenD_U (l:List K_U):∀r∈l.map d_U,r.length=2:=by intro r h; obtain⟨x,_,rfl⟩:=List.mem_map.1 h; rfl
def ok_U (x:K_U):Prop:=(length x.f1*8≤140737488351232)
structure K_T where
  f0:Int
  f1:(List K_N)
  f2:(List K_U)
def b_T (x:K_T):List B:=[(.val (.int .i64 x.f0)),(.sl (map b_N x.f1)),(.sl (map b_U x.f2))]
def d_T (x:K_T):List D:=[(.val (.int .i64 x.f0)),(.own 3 (map d_N x.f1)),(.own 2 (map d_U x.f2))]
abbrev k_T (l0:Nat) (l1:Nat) (x:K_T):List CV:=[(.val (.int .i64 x.f0)),(.bor l0 (map b_N x.f1)),(.bor l1 (map b_U x.f2))]
theorem toBR_T:∀(l:List K_T),toBR (l.map d_T)=l.map b_T
  |[]=>rfl
  |x::l=>by simp[toBR,toBL,toB,d_T,b_T,toBR_T l,toBR_N,toBR_U]
theorem fullR_T:∀(l:List K_T),fullR (l.map d_T)=true
  |[]=>rfl
  |x::l=>by simp[fullR,fullL,full,d_T,fullR_T l,fullR_N,fullR_U]
theorem pureR_T:∀(l:List K_T),pureR (l.map d_T)=true
  |[]=>rfl
  |x::l=>by simp[pureR,pureL,V.pure,d_T,pureR_T l,pureR_N,pureR_U]
theorem ft_T (a b:Nat) (l:List K_T):fullR (take a (drop b (l.map d_T)))=true:=by rw[← map_drop,← map_take]; exact fullR_T _
theorem tb_T (l:List K_T):toBR (take (l.map d_T).length (drop 0 (l.map d_T)))=l.map b_T:=by rw[List.drop_zero,List.take_length]; exact toBR_T l
theorem ln_T {hs q} (x:List K_T) (r:PS F X hs q):PS F X hs ((0+(x.map d_T).length≤(x.map d_T).length)::(fullR (take (x.map d_T).length (drop 0 (x.map d_T)))=true)::(toBR (take (x.map d_T).length (drop 0 (x.map d_T)))=x.map b_T)::q):=.f (Nat.le_of_eq (Nat.zero_add _)) (.f (ft_T _ _ _) (.f (tb_T _) r))
theorem lenB_T (l:List K_T):∀r∈l.map b_T,r.length=3:=by intro r h; obtain⟨x,_,rfl⟩:=List.mem_map.1 h; rfl
theorem lenD_T (l:List K_T):∀r∈l.map d_T,r.length=3:=by intro r h; obtain⟨x,_,rfl⟩:=List.mem_map.1 h; rfl
def ok_T (x:K_T):Prop:=(length x.f1*40≤140737488351232)∧(∀z∈x.f1,ok_N z)∧(length x.f2*32≤140737488351232)∧(∀z∈x.f2,ok_U z)
structure K_J where
  f0:Int
  f1:Int
  f2:Int
  f3:Int
  f4:Int
  f5:(List K_T)
def b_J (x:K_J):List B:=[(.val (.int .i64 x.f0)),(.val (.int .i64 x.f1)),(.val (.int .i64 x.f2)),(.val (.int .i64 x.f3)),(.val (.int .i64 x.f4)),(.sl (map b_T x.f5))]
def d_J (x:K_J):List D:=[(.val (.int .i64 x.f0)),(.val (.int .i64 x.f1)),(.val (.int .i64 x.f2)),(.val (.int .i64 x.f3)),(.val (.int .i64 x.f4)),(.own 3 (map d_T x.f5))]
abbrev k_J (l0:Nat) (x:K_J):List CV:=[(.val (.int .i64 x.f0)),(.val (.int .i64 x.f1)),(.val (.int .i64 x.f2)),(.val (.int .i64 x.f3)),(.val (.int .i64 x.f4)),(.bor l0 (map b_T x.f5))]
theorem toBR_J:∀(l:List K_J),toBR (l.map d_J)=l.map b_J
  |[]=>rfl
  |x::l=>by simp[toBR,toBL,toB,d_J,b_J,toBR_J l,toBR_T]
theorem fullR_J:∀(l:List K_J),fullR (l.map d_J)=true
  |[]=>rfl
  |x::l=>by simp[fullR,fullL,full,d_J,fullR_J l,fullR_T]
theorem pureR_J:∀(l:List K_J),pureR (l.map d_J)=true
  |[]=>rfl
  |x::l=>by simp[pureR,pureL,V.pure,d_J,pureR_J l,pureR_T]
theorem lenB_J (l:List K_J):∀r∈l.map b_J,r.length=6:=by intro r h; obtain⟨x,_,rfl⟩:=List.mem_map.1 h; rfl
theorem lenD_J (l:List K_J):∀r∈l.map d_J,r.length=6:=by intro r h; obtain⟨x,_,rfl⟩:=List.mem_map.1 h; rfl
def ok_J (x:K_J):Prop:=(length x.f5*56≤140737488351232)∧(∀z∈x.f5,ok_T z)
def b_b (x:Bool):List B:=[(.val (.bool x))]
def d_b (x:Bool):List D:=[(.val (.bool x))]
theorem toBR_b:∀(l:List Bool),toBR (l.map d_b)=l.map b_b
  |[]=>rfl
  |x::l=>by simp[toBR,toBL,toB,d_b,b_b,toBR_b l]
theorem fullR_b:∀(l:List Bool),fullR (l.map d_b)=true
  |[]=>rfl
  |x::l=>by simp[fullR,fullL,full,d_b,fullR_b l]
theorem pureR_b:∀(l:List Bool),pureR (l.map d_b)=true
  |[]=>rfl
  |x::l=>by simp[pureR,pureL,V.pure,d_b,pureR_b l]
theorem lenB_b (l:List Bool):∀r∈l.map b_b,r.length=1:=by intro r h; obtain⟨x,_,rfl⟩:=List.mem_map.1 h; rfl
theorem lenD_b (l:List Bool):∀r∈l.map d_b,r.length=1:=by intro r h; obtain⟨x,_,rfl⟩:=List.mem_map.1 h; rfl
theorem fromBR_b (n:Nat) (l:List Bool):fromBR n (l.map b_b)=l.map d_b:=by simp[fromBR,b_b,d_b,fromB,Function.comp_def]
theorem copy_b (l:List Bool):(l.map d_b).all (fun x=>x.all copyable)=true:=by simp[d_b,copyable,Function.comp_def]
structure K_G where
  f0:Int
  f1:Int
  f2:Int
  f3:Int
  f4:(List K_T)
def b_G (x:K_G):List B:=[(.val (.int .i64 x.f0)),(.val (.int .i64 x.f1)),(.val (.int .i64 x.f2)),(.val (.int .i64 x.f3)),(.sl (map b_T x.f4))]
def d_G (x:K_G):List D:=[(.val (.int .i64 x.f0)),(.val (.int .i64 x.f1)),(.val (.int .i64 x.f2)),(.val (.int .i64 x.f3)),(.own 3 (map d_T x.f4))]
abbrev k_G (l0:Nat) (x:K_G):List CV:=[(.val (.int .i64 x.f0)),(.val (.int .i64 x.f1)),(.val (.int .i64 x.f2)),(.val (.int .i64 x.f3)),(.bor l0 (map b_T x.f4))]
theorem toBR_G:∀(l:List K_G),toBR (l.map d_G)=l.map b_G
  |[]=>rfl
  |x::l=>by simp[toBR,toBL,toB,d_G,b_G,toBR_G l,toBR_T]
theorem fullR_G:∀(l:List K_G),fullR (l.map d_G)=true
  |[]=>rfl
  |x::l=>by simp[fullR,fullL,full,d_G,fullR_G l,fullR_T]
theorem pureR_G:∀(l:List K_G),pureR (l.map d_G)=true
  |[]=>rfl
  |x::l=>by simp[pureR,pureL,V.pure,d_G,pureR_G l,pureR_T]
theorem lenB_G (l:List K_G):∀r∈l.map b_G,r.length=5:=by intro r h; obtain⟨x,_,rfl⟩:=List.mem_map.1 h; rfl
theorem lenD_G (l:List K_G):∀r∈l.map d_G,r.length=5:=by intro r h; obtain⟨x,_,rfl⟩:=List.mem_map.1 h; rfl
def ok_G (x:K_G):Prop:=(length x.f4*56≤140737488351232)∧(∀z∈x.f4,ok_T z)
def b_JL (x:(List K_J)):List B:=[(.sl (map b_J x))]
def d_JL (x:(List K_J)):List D:=[(.own 6 (map d_J x))]
theorem toBR_JL:∀(l:List (List K_J)),toBR (l.map d_JL)=l.map b_JL
  |[]=>rfl
  |x::l=>by simp[toBR,toBL,toB,d_JL,b_JL,toBR_JL l,toBR_J]
theorem fullR_JL:∀(l:List (List K_J)),fullR (l.map d_JL)=true
  |[]=>rfl
  |x::l=>by simp[fullR,fullL,full,d_JL,fullR_JL l,fullR_J]
theorem pureR_JL:∀(l:List (List K_J)),pureR (l.map d_JL)=true
  |[]=>rfl
  |x::l=>by simp[pureR,pureL,V.pure,d_JL,pureR_JL l,pureR_J]
theorem lenB_JL (l:List (List K_J)):∀r∈l.map b_JL,r.length=1:=by intro r h; obtain⟨x,_,rfl⟩:=List.mem_map.1 h; rfl
theorem lenD_JL (l:List (List K_J)):∀r∈l.map d_JL,r.length=1:=by intro r h; obtain⟨x,_,rfl⟩:=List.mem_map.1 h; rfl
def ok_JL (x:(List K_J)):Prop:=(length x*64≤140737488351232)∧(∀z∈x,ok_J z)
def b_TL (x:(List K_T)):List B:=[(.sl (map b_T x))]
def d_TL (x:(List K_T)):List D:=[(.own 3 (map d_T x))]
theorem toBR_TL:∀(l:List (List K_T)),toBR (l.map d_TL)=l.map b_TL
  |[]=>rfl
  |x::l=>by simp[toBR,toBL,toB,d_TL,b_TL,toBR_TL l,toBR_T]
theorem fullR_TL:∀(l:List (List K_T)),fullR (l.map d_TL)=true
  |[]=>rfl
  |x::l=>by simp[fullR,fullL,full,d_TL,fullR_TL l,fullR_T]
theorem pureR_TL:∀(l:List (List K_T)),pureR (l.map d_TL)=true
  |[]=>rfl
  |x::l=>by simp[pureR,pureL,V.pure,d_TL,pureR_TL l,pureR_T]
theorem lenB_TL (l:List (List K_T)):∀r∈l.map b_TL,r.length=1:=by intro r h; obtain⟨x,_,rfl⟩:=List.mem_map.1 h; rfl
theorem lenD_TL (l:List (List K_T)):∀r∈l.map d_TL,r.length=1:=by intro r h; obtain⟨x,_,rfl⟩:=List.mem_map.1 h; rfl
def ok_TL (x:(List K_T)):Prop:=(length x*56≤140737488351232)∧(∀z∈x,ok_T z)
def b_LiE (x:(List Int)):List B:=[(.sl (map b_i x))]
def d_LiE (x:(List Int)):List D:=[(.own 1 (map d_i x))]
theorem toBR_LiE:∀(l:List (List Int)),toBR (l.map d_LiE)=l.map b_LiE
  |[]=>rfl
  |x::l=>by simp[toBR,toBL,toB,d_LiE,b_LiE,toBR_LiE l,toBR_i]
theorem fullR_LiE:∀(l:List (List Int)),fullR (l.map d_LiE)=true
  |[]=>rfl
  |x::l=>by simp[fullR,fullL,full,d_LiE,fullR_LiE l,fullR_i]
theorem pureR_LiE:∀(l:List (List Int)),pureR (l.map d_LiE)=true
  |[]=>rfl
  |x::l=>by simp[pureR,pureL,V.pure,d_LiE,pureR_LiE l,pureR_i]
theorem lenB_LiE (l:List (List Int)):∀r∈l.map b_LiE,r.length=1:=by intro r h; obtain⟨x,_,rfl⟩:=List.mem_map.1 h; rfl
theorem lenD_LiE (l:List (List Int)):∀r∈l.map d_LiE,r.length=1:=by intro r h; obtain⟨x,_,rfl⟩:=List.mem_map.1 h; rfl
def ok_LiE (x:(List Int)):Prop:=(length x*8≤140737488351232)
def b_NL (x:(List K_N)):List B:=[(.sl (map b_N x))]
def d_NL (x:(List K_N)):List D:=[(.own 3 (map d_N x))]
theorem toBR_NL:∀(l:List (List K_N)),toBR (l.map d_NL)=l.map b_NL
  |[]=>rfl
  |x::l=>by simp[toBR,toBL,toB,d_NL,b_NL,toBR_NL l,toBR_N]
theorem fullR_NL:∀(l:List (List K_N)),fullR (l.map d_NL)=true
  |[]=>rfl
  |x::l=>by simp[fullR,fullL,full,d_NL,fullR_NL l,fullR_N]
theorem pureR_NL:∀(l:List (List K_N)),pureR (l.map d_NL)=true
  |[]=>rfl
  |x::l=>by simp[pureR,pureL,V.pure,d_NL,pureR_NL l,pureR_N]
theorem lenB_NL (l:List (List K_N)):∀r∈l.map b_NL,r.length=1:=by intro r h; obtain⟨x,_,rfl⟩:=List.mem_map.1 h; rfl
theorem lenD_NL (l:List (List K_N)):∀r∈l.map d_NL,r.length=1:=by intro r h; obtain⟨x,_,rfl⟩:=List.mem_map.1 h; rfl
def ok_NL (x:(List K_N)):Prop:=(length x*40≤140737488351232)∧(∀z∈x,ok_N z)
def b_UL (x:(List K_U)):List B:=[(.sl (map b_U x))]
def d_UL (x:(List K_U)):List D:=[(.own 2 (map d_U x))]
theorem toBR_UL:∀(l:List (List K_U)),toBR (l.map d_UL)=l.map b_UL
  |[]=>rfl
  |x::l=>by simp[toBR,toBL,toB,d_UL,b_UL,toBR_UL l,toBR_U]
theorem fullR_UL:∀(l:List (List K_U)),fullR (l.map d_UL)=true
  |[]=>rfl
  |x::l=>by simp[fullR,fullL,full,d_UL,fullR_UL l,fullR_U]
theorem pureR_UL:∀(l:List (List K_U)),pureR (l.map d_UL)=true
  |[]=>rfl
  |x::l=>by simp[pureR,pureL,V.pure,d_UL,pureR_UL l,pureR_U]
theorem lenB_UL (l:List (List K_U)):∀r∈l.map b_UL,r.length=1:=by intro r h; obtain⟨x,_,rfl⟩:=List.mem_map.1 h; rfl
theorem lenD_UL (l:List (List K_U)):∀r∈l.map d_UL,r.length=1:=by intro r h; obtain⟨x,_,rfl⟩:=List.mem_map.1 h; rfl
def ok_UL (x:(List K_U)):Prop:=(length x*32≤140737488351232)∧(∀z∈x,ok_U z)
def b_y (x:Int):List B:=[(.val (.int .u8 x))]
def d_y (x:Int):List D:=[(.val (.int .u8 x))]
theorem toBR_y:∀(l:List Int),toBR (l.map d_y)=l.map b_y
  |[]=>rfl
  |x::l=>by simp[toBR,toBL,toB,d_y,b_y,toBR_y l]
theorem fullR_y:∀(l:List Int),fullR (l.map d_y)=true
  |[]=>rfl
  |x::l=>by simp[fullR,fullL,full,d_y,fullR_y l]
theorem pureR_y:∀(l:List Int),pureR (l.map d_y)=true
  |[]=>rfl
  |x::l=>by simp[pureR,pureL,V.pure,d_y,pureR_y l]
theorem ft_y (a b:Nat) (l:List Int):fullR (take a (drop b (l.map d_y)))=true:=by rw[← map_drop,← map_take]; exact fullR_y _
theorem tb_y (l:List Int):toBR (take (l.map d_y).length (drop 0 (l.map d_y)))=l.map b_y:=by rw[List.drop_zero,List.take_length]; exact toBR_y l
theorem ln_y {hs q} (x:List Int) (r:PS F X hs q):PS F X hs ((0+(x.map d_y).length≤(x.map d_y).length)::(fullR (take (x.map d_y).length (drop 0 (x.map d_y)))=true)::(toBR (take (x.map d_y).length (drop 0 (x.map d_y)))=x.map b_y)::q):=.f (Nat.le_of_eq (Nat.zero_add _)) (.f (ft_y _ _ _) (.f (tb_y _) r))
theorem lenB_y (l:List Int):∀r∈l.map b_y,r.length=1:=by intro r h; obtain⟨x,_,rfl⟩:=List.mem_map.1 h; rfl
theorem lenD_y (l:List Int):∀r∈l.map d_y,r.length=1:=by intro r h; obtain⟨x,_,rfl⟩:=List.mem_map.1 h; rfl
theorem fromBR_y (n:Nat) (l:List Int):fromBR n (l.map b_y)=l.map d_y:=by simp[fromBR,b_y,d_y,fromB,Function.comp_def]
theorem copy_y (l:List Int):(l.map d_y).all (fun x=>x.all copyable)=true:=by simp[d_y,copyable,Function.comp_def]
theorem ct_y (a b:Nat) (l:List Int):((take a (drop b (l.map d_y))).all fun x=>x.all copyable)=true:=by rw[← map_drop,← map_take]; exact copy_y _
def strInts (s:ByteArray):List Int:=s.data.toList.map fun b=>(b.toNat:Int)
theorem ly_y (a:Int) (l:List Int):[D.val (.int .u8 a)]::map d_y l=map d_y (a::l):=rfl
theorem ly0_y (a:Int):[[D.val (.int .u8 a)]]=map d_y [a]:=rfl
theorem strInts_len (s:ByteArray):(strInts s).length=s.size:=by simp[strInts]
theorem byteRows_len (s:ByteArray):(byteRows s).length=s.size:=by simp[byteRows]
theorem byteRows_eq (s:ByteArray):byteRows s=(strInts s).map d_y:=by simp[byteRows,strInts,d_y,Function.comp_def]
theorem tsi (s:ByteArray):take (ByteArray.size s) (map d_y (strInts s))=map d_y (strInts s):=by rw[take_of_length_le (by simp[strInts_len])]
theorem tbr (s:ByteArray):take (ByteArray.size s) (byteRows s)=map d_y (strInts s):=by rw[byteRows_eq,tsi]
theorem ints_y:∀(l:List Int),rowsInts .u8 (l.map d_y)=some l
  |[]=>rfl
  |x::l=>by simp only[List.map_cons,d_y,rowsInts,ints_y l]; rfl
def b_LyE (x:(List Int)):List B:=[(.sl (map b_y x))]
def d_LyE (x:(List Int)):List D:=[(.own 1 (map d_y x))]
theorem toBR_LyE:∀(l:List (List Int)),toBR (l.map d_LyE)=l.map b_LyE
  |[]=>rfl
  |x::l=>by simp[toBR,toBL,toB,d_LyE,b_LyE,toBR_LyE l,toBR_y]
theorem fullR_LyE:∀(l:List (List Int)),fullR (l.map d_LyE)=true
  |[]=>rfl
  |x::l=>by simp[fullR,fullL,full,d_LyE,fullR_LyE l,fullR_y]
theorem pureR_LyE:∀(l:List (List Int)),pureR (l.map d_LyE)=true
  |[]=>rfl
  |x::l=>by simp[pureR,pureL,V.pure,d_LyE,pureR_LyE l,pureR_y]
theorem lenB_LyE (l:List (List Int)):∀r∈l.map b_LyE,r.length=1:=by intro r h; obtain⟨x,_,rfl⟩:=List.mem_map.1 h; rfl
theorem lenD_LyE (l:List (List Int)):∀r∈l.map d_LyE,r.length=1:=by intro r h; obtain⟨x,_,rfl⟩:=List.mem_map.1 h; rfl
def ok_LyE (x:(List Int)):Prop:=(length x*1≤140737488351232)
def b_LLyEE (x:(List (List Int))):List B:=[(.sl (map b_LyE x))]
def d_LLyEE (x:(List (List Int))):List D:=[(.own 1 (map d_LyE x))]
theorem toBR_LLyEE:∀(l:List (List (List Int))),toBR (l.map d_LLyEE)=l.map b_LLyEE
  |[]=>rfl
  |x::l=>by simp[toBR,toBL,toB,d_LLyEE,b_LLyEE,toBR_LLyEE l,toBR_LyE]
theorem fullR_LLyEE:∀(l:List (List (List Int))),fullR (l.map d_LLyEE)=true
  |[]=>rfl
  |x::l=>by simp[fullR,fullL,full,d_LLyEE,fullR_LLyEE l,fullR_LyE]
theorem pureR_LLyEE:∀(l:List (List (List Int))),pureR (l.map d_LLyEE)=true
  |[]=>rfl
  |x::l=>by simp[pureR,pureL,V.pure,d_LLyEE,pureR_LLyEE l,pureR_LyE]
theorem lenB_LLyEE (l:List (List (List Int))):∀r∈l.map b_LLyEE,r.length=1:=by intro r h; obtain⟨x,_,rfl⟩:=List.mem_map.1 h; rfl
theorem lenD_LLyEE (l:List (List (List Int))):∀r∈l.map d_LLyEE,r.length=1:=by intro r h; obtain⟨x,_,rfl⟩:=List.mem_map.1 h; rfl
def ok_LLyEE (x:(List (List Int))):Prop:=(length x*24≤140737488351232)∧(∀z∈x,ok_LyE z)
attribute [local simp] toBR_i fullR_i pureR_i lenB_i lenD_i fromBR_i copy_i toBR_N fullR_N pureR_N lenB_N lenD_N toBR_U fullR_U pureR_U lenB_U lenD_U toBR_T fullR_T pureR_T lenB_T lenD_T toBR_J fullR_J pureR_J lenB_J lenD_J toBR_b fullR_b pureR_b lenB_b lenD_b fromBR_b copy_b toBR_G fullR_G pureR_G lenB_G lenD_G toBR_JL fullR_JL pureR_JL lenB_JL lenD_JL toBR_TL fullR_TL pureR_TL lenB_TL lenD_TL toBR_LiE fullR_LiE pureR_LiE lenB_LiE lenD_LiE toBR_NL fullR_NL pureR_NL lenB_NL lenD_NL toBR_UL fullR_UL pureR_UL lenB_UL lenD_UL strInts_len byteRows_len toBR_y fullR_y pureR_y lenB_y lenD_y fromBR_y copy_y toBR_LyE fullR_LyE pureR_LyE lenB_LyE lenD_LyE toBR_LLyEE fullR_LLyEE pureR_LLyEE lenB_LLyEE lenD_LLyEE
theorem md1 {a:Int} (h0:0≤a) (h:(Int.tmod a 2==1)=true):1≤a:=by
  by_cases e:a=0
  · subst e; simp at h
  · omega
theorem xor1 {a:Int} (h0:0≤a) (h1:a≤1000):0≤bitsV .xor .i64 a 1:=by
  obtain⟨n,rfl⟩:=Int.eq_ofNat_of_zero_le h0
  show 0≤wrap .i64 (((BitVec.ofInt 64 (n:Int) ^^^ BitVec.ofInt 64 1).toNat:Nat):Int)
  rw[BitVec.toNat_xor,BitVec.toNat_ofInt,BitVec.toNat_ofInt]
  have e1:((n:Int) %((2 ^ 64:Nat):Int)).toNat=n:=by omega
  have e2:((1:Int) %((2 ^ 64:Nat):Int)).toNat=1:=by omega
  rw[e1,e2]
  have:=Nat.xor_lt_two_pow (x:=n) (y:=1) (n:=10) (by omega) (by omega)
  rw[wrap64 (by omega)]; omega
def SmT (t:K_T):Prop:=length t.f1≤4∧(∀x∈t.f1,length x.f2≤8)∧length t.f2≤4∧∀x∈t.f2,length x.f1≤12
def SmJ (z:K_J):Prop:=1≤length z.f5∧length z.f5≤4∧(∀u∈z.f5,SmT u)∧length (getD z.f5 0 (K_T.mk 0 [] [])).f2=2
theorem SmT.ok {z:K_T} (h:SmT z):ok_T z:=by
  obtain⟨h1,h2,h3,h4⟩:=h
  refine⟨by omega,fun x hx=>?_,by omega,fun x hx=>?_⟩
  · have:=h2 x hx
    simp only[ok_N]; omega
  · have:=h4 x hx
    simp only[ok_U]; omega
theorem SmJ.ok {z:K_J} (h:SmJ z):ok_J z:=⟨by have:=h.2.1; omega,fun u hu=>(h.2.2.1 u hu).ok⟩
theorem LN:(∀{α β:Type} (f:α→β) (l:List α),length (map f l)=length l)∧(∀{α:Type} (l:List α) (i:Nat) (a:α),length (set l i a)=length l)∧(∀{α:Type} (a b:List α),length (a++b)=length a+length b)∧(∀{α:Type} (n:Nat) (a:α),length (List.replicate n a)=n)∧(∀{α:Type} (a:α) (l:List α),length (a::l)=length l+1)∧(∀{α:Type},length ([]:List α)=0):=⟨fun _ _=>List.length_map _,fun _ _ _=>List.length_set,fun _ _=>List.length_append,fun _ _=>List.length_replicate,fun _ _=>rfl,rfl⟩
theorem ya {p:Prop} (h:p:=by kernel_rfl):p:=h
theorem yb {p:Prop} (h:p:=by have e1:wrap .i64 (v0+1)=v0+1:=wrap64 (by omega); have e0:wrap .i64 (v0 - 1)=v0 - 1:=wrap64 (by omega); have e2:wrap .i64 (v0+2)=v0+2:=wrap64 (by omega); simp only[decide_eq_true_eq,length_map,e1,e0,e2] at h_0⊢; omega):p:=h
theorem yc {p:Prop} (h:p:=by omega):p:=h
theorem yd {p:Prop} (h:p:=by simp only[List.drop_zero,tbr,tsi,ly_y,ly0_y,← List.map_append,List.take_length,List.cons_append,List.nil_append,append_assoc]; exact lenD_y _):p:=h
theorem ye {p:Prop} (h:p:=by rw[append_assoc]; exact hp0):p:=h
theorem yf {p:Prop} (h:p:=by rfl):p:=h
theorem yg {p:Prop} (h:p:=by have q0:=hy5 x0 (List.mem_of_getElem? Hx0); have q1:=pl151 x0.f1; have q2:=pb152 x0.f0; have q3:=pn153 x0.f2; simp only[length_map,length_append,length_take,length_drop,length_cons,length_nil,List.length_flatten,List.map_cons,List.map_nil,List.sum_cons,List.sum_nil] at*; omega):p:=h
theorem yh {p:Prop} (h:p:=by simp only[decide_eq_true_eq,length_map,length_append,length_cons,length_nil] at*; rw[wrap64 (by omega)]; omega):p:=h
theorem yi {p:Prop} (h:p:=by simp only[List.drop_zero,tbr,tsi,ly_y,ly0_y,← List.map_append,List.take_length,List.cons_append,List.nil_append,append_assoc,toBR_y,fullR_y,pureR_y,copy_y,ints_y]; done):p:=h
theorem yj {p:Prop} (h:p:=by simp only[length_map,length_append,length_take,length_drop,length_cons,length_nil,List.length_flatten,List.map_cons,List.map_nil,List.sum_cons,List.sum_nil] at*; omega):p:=h
theorem yk {p:Prop} (h:p:=by have q4:=pl160 a0.f0; have q5:=pl160 ((length (map b_N a0.f1)):Int); have q6:=pl160 ((length (map b_U a0.f2)):Int); have q7:=lk141_0 hy5 h0 (by simp only[length_append]; have q4:=pl160 a0.f0; have q5:=pl160 ((length (map b_N a0.f1)):Int); have q6:=pl160 ((length (map b_U a0.f2)):Int); omega); simp only[length_append] at q7; simp only[length_map,length_append,length_take,length_drop,length_cons,length_nil,List.length_flatten,List.map_cons,List.map_nil,List.sum_cons,List.sum_nil] at q5 q6 q7⊢; omega):p:=h
theorem yl {p:Prop} (h:p:=by have q4:=pl151 a0.f0; have q5:=pl151 ((length (map b_N a0.f1)):Int); have q6:=pl151 ((length (map b_U a0.f2)):Int); simp only[length_map,length_append,length_take,length_drop,length_cons,length_nil,List.length_flatten,List.map_cons,List.map_nil,List.sum_cons,List.sum_nil] at*; omega):p:=h
theorem ym {p:Prop} (h:p:=by have q4:=pl160 a0.f0; have q5:=pl160 ((length (map b_N a0.f1)):Int); have q6:=pl160 ((length (map b_U a0.f2)):Int); simp only[length_map,length_append,length_take,length_drop,length_cons,length_nil,List.length_flatten,List.map_cons,List.map_nil,List.sum_cons,List.sum_nil] at*; omega):p:=h
theorem yn {p:Prop} (h:p:=by simp only[decide_eq_true_eq,length_map,length_append,length_take,length_drop,length_cons,length_nil] at*; omega):p:=h
theorem yo {p:Prop} (h:p:=by have q0:=hy7 x0 (List.mem_of_getElem? Hx0); have q2:=pb152 x0.f0; have q3:=pn153 x0.f1; simp only[length_map,length_append,length_take,length_drop,length_cons,length_nil,List.length_flatten,List.map_cons,List.map_nil,List.sum_cons,List.sum_nil] at*; omega):p:=h
theorem yp {p:Prop} (h:p:=by simp only[LN]; omega):p:=h
theorem yq {p:Prop} (h:p:=by simp only[length_map,length_append,length_cons,length_nil,length_take,length_drop]; omega):p:=h
theorem yr {p:Prop} (h:p:=by have q7:=lk129_0 hy5 ‹_›; have q4:=pl151 a0.f0; have q5:=pl151 ((length (map b_N a0.f1)):Int); have q6:=pl151 ((length (map b_U a0.f2)):Int); simp only[length_map,length_append,length_take,length_drop,length_cons,length_nil,List.length_flatten,List.map_cons,List.map_nil,List.sum_cons,List.sum_nil] at*; omega):p:=h
theorem ys {p:Prop} (h:p:=by simp only[length_map]; omega):p:=h
theorem yt {p:Prop} (h:p:=by simp[take_of_length_le,d_y,four_len]; done):p:=h
theorem yu {p:Prop} (h:p:=by rw[wrap64 (by simp only[decide_eq_true_eq] at*; omega)]; simp only[decide_eq_true_eq] at*; omega):p:=h
theorem yv {p:Prop} (h:p:=by rw[Nat.zero_add,map_set,List.getElem?_set_self (by simp only[length_map]; omega)]; rfl):p:=h
theorem yw {p:Prop} (h:p:=by simp only[List.drop_zero,tbr,tsi,ly_y,ly0_y,← List.map_append,List.take_length,List.cons_append,List.nil_append,append_assoc]; simp only[length_map,length_append,length_cons,length_nil,strInts_len,four_len]; omega):p:=h
theorem yx {p:Prop} (h:p:=by simp only[nav];(rw[Nat.zero_add,map_set,List.getElem?_set_self (by simp only[length_map]; omega)]); rfl):p:=h
theorem yy {p:Prop} (h:p:=by have q0:=pl151 x0; simp only[length_map,length_append,length_take,length_drop,length_cons,length_nil,List.length_flatten,List.map_cons,List.map_nil,List.sum_cons,List.sum_nil] at*; omega):p:=h
theorem yz {p:Prop} (h:p:=by have q0:=pl160 x0; simp only[length_map,length_append,length_take,length_drop,length_cons,length_nil,List.length_flatten,List.map_cons,List.map_nil,List.sum_cons,List.sum_nil] at*; omega):p:=h
theorem yA {p:Prop} (h:p:=by simp only[LN,Int.toNat_natCast]; first | exact drop_set_next hi1 _ | exact drop_next hi1):p:=h
theorem yB {p:Prop} (h:p:=by with_reducible assumption):p:=h
theorem yC {p:Prop} (h:p:=by simp[take_of_length_le,d_y,four_len,high4,high2]; done):p:=h
theorem yD {p:Prop} (h:p:=by simp only[length_map,length_append,length_take,length_drop,length_cons,length_nil,four_len] at*; omega):p:=h
theorem yE {p:Prop} (h:p:=by simp only[length_map,length_append,length_take,length_drop,length_cons,length_nil,high4] at*; omega):p:=h
theorem yF {p:Prop} (h:p:=by have e:wrap .i64 (a1 - 0)=a1:=(by rw[Int.sub_zero]; exact wrap64 (by omega)); rw[e] at h1⊢; simp only[decide_eq_true_eq,length_replicate] at*; omega):p:=h
theorem yG {p:Prop} (h:p:=by decide):p:=h
theorem yH {p:Prop} (h:p:=by simp[toBR,toBL,toB,tsi,byteRows_eq,b_i,b_N,b_U,b_T,b_J,b_b,b_G,b_JL,b_TL,b_LiE,b_NL,b_UL,b_y,b_LyE,b_LLyEE,four_len,high4,high2]; done):p:=h
theorem yI {p:Prop} (h:p:=by have q:=hy4.1; have q2:=hy4.2.2.1; simp only[length_nil]; omega):p:=h
theorem yJ {p:Prop} (h:p:=by trivial):p:=h
theorem yK {p:Prop} (h:p:=by simp only[LN]; done):p:=h
theorem yL {p:Prop} (h:p:=by simp only[List.flatten_cons,length_append,List.flatten_nil,length_nil,length_map] at*; rw[wrap64 (by omega)]; omega):p:=h
theorem yM {p:Prop} (h:p:=by simp[take_of_length_le,d_i,four_len]; done):p:=h
theorem yN {p:Prop} (h:p:=by simp only[length_map,length_set]; omega):p:=h
theorem yO {p:Prop} (h:p:=by simp[take_of_length_le,d_i,four_len,high4,high2]; done):p:=h
theorem yP {p:Prop} (h:p:=by simp only[List.flatten_cons,List.flatten_nil,List.append_nil,length_append]; omega):p:=h
theorem yQ {p:Prop} (h:p:=by simp[fullR,fullL,full,pureR,pureL,V.pure,byteRows_eq,four_len,high4,high2]; done):p:=h
theorem yR {p:Prop} (h:p:=by rw[wrap64 (by omega)]; omega):p:=h
theorem yS {p:Prop} (h:p:=by simp only[decide_eq_true_eq,length_map] at*; omega):p:=h
theorem yT {p:Prop} (h:p:=by simp at*; omega):p:=h
theorem yU {p:Prop} (h:p:=by have q:=okm9 a0 a1 a2 a3; exact q.1):p:=h
theorem yV {p:Prop} (h:p:=by have q:=okm9 a0 a1 a2 a3; exact q.2):p:=h
theorem yW {p:Prop} (h:p:=by rw[wrap64 (by omega)]; simp only[decide_eq_true_eq,length_map] at*; omega):p:=h
theorem yX {p:Prop} (h:p:=by refine⟨by omega,?_⟩; have q:=hy2.2.2.2; simp only[length_map]; omega):p:=h
theorem yY {p:Prop} (h:p:=by simp[four_len,high4,high2]; done):p:=h
theorem yZ {p:Prop} (h:p:=by simpa using h):p:=h
theorem yaa {p:Prop} (h:p:=by simp only[length_append]; omega):p:=h
theorem yab {p:Prop} (h:p:=by simp[take_of_length_le,d_i,d_N,four_len,high4,high2,ol112]; done):p:=h
theorem yac {p:Prop} (h:p:=by simp only[decide_eq_true_eq] at*; omega):p:=h
theorem yad {p:Prop} (h:p:=by unfold h129_0; simp[hw,take_of_length_le,d_y,four_len]; done):p:=h
theorem yae {p:Prop} (h:p:=by rw[append_assoc]; exact hp1):p:=h
theorem yaf {p:Prop} (h:p:=by simp only[LN] at hl1; omega):p:=h
theorem yag {p:Prop} (h:p:=by simp only[decide_eq_true_eq]; omega):p:=h
theorem yah {p:Prop} (h:p:=by have q:=okm7 a0 a1 a2 a3; exact q.1):p:=h
theorem yai {p:Prop} (h:p:=by have q:=okm7 a0 a1 a2 a3; exact q.2):p:=h
theorem yaj {p:Prop} (h:p:=by simp[four_len]; done):p:=h
/-! loop.example/g00539/laws.szInt64S -/
def m166 (a0:(List Int)) (a1:Int):Int:=
  if(decide ((wrap .i64 (a1 - ((length (map b_i a0)):Int))) < 0))=true then(-1) else
  (wrap .i64 (a1 - ((length (map b_i a0)):Int)))
theorem e166 {l0_0:Nat} {a0:(List Int)} {a1:Int}:Ev F X (.call 166 [(.one (.bor l0_0 (map b_i a0))),(.one (.val (.int .i64 a1)))] [] [] [(.one (.val (.int .i64 (m166 a0 a1))))]):=by
  unfold m166
  by_cases h0:(decide ((wrap .i64 (a1 - ((length (map b_i a0)):Int))) < 0))=true
  · try simp only[if_pos h0]
    exact cp ya (.f h0 (.h 16 (.b true) .nil))
  · try simp only[if_neg h0]
    exact cp ya (.f (nt h0) (.h 16 (.b false) .nil))
/-! loop.example/g00539/laws.szIn -/
def m147 (a0:K_N) (a1:Int):Int:=
  if(decide ((m166 a0.f2 a1) < 0))=true then(-1) else
  (m166 a0.f2 a1)
theorem e147 {l0_2:Nat} {a0:K_N} {a1:Int}:Ev F X (.call 147 [(.agg (k_N l0_2 a0)),(.one (.val (.int .i64 a1)))] [] [] [(.one (.val (.int .i64 (m147 a0 a1))))]):=by
  unfold m147
  have P0 {hs q} (r:PS F X hs q):=(PS.r 11 [] [] (e166 (l0_0:=(l0_2+1)) (a0:=a0.f2) (a1:=a1)) r)
  by_cases h0:(decide ((m166 a0.f2 a1) < 0))=true
  · try simp only[if_pos h0]
    exact cp ya (P0 (.f h0 (.h 18 (.b true) .nil)))
  · try simp only[if_neg h0]
    exact cp ya (P0 (.f (nt h0) (.h 18 (.b false) .nil)))
/-! loop 120_0 -/
inductive O120_0 where
  |k0 (w0:Int) (w1:Int) (w2:Bool)
  |k1
def r120_0 (a0:(List K_N)):List K_N→Int→Int→O120_0
  |x0::y0,i,v0=>
    if(decide ((m147 x0 v0) < 0))=true then(O120_0.k1) else
    (r120_0 a0 y0 (i+1) (m147 x0 v0))
  |[],i,v0=>(O120_0.k0 v0 i (decide (i <((length (map b_N a0)):Int))))
def h120_0 (l0_0:Nat) (a0:(List K_N)) (a1:Int) (i:Int) (v0:Int):St:=⟨[(0,(.one (.bor l0_0 (map b_N a0)))),(1,(.one (.val (.int .i64 v0)))),(5,(.one (.val (.int .i64 i))))],[]⟩
def ex120_0:O120_0→VX.Exit
  |.k0 _ _ _=>(.exit 0)
  |.k1=>.ret
def fin120_0 (l0_0:Nat) (a0:(List K_N)) (a1:Int):O120_0→St
  |.k0 w0 w1 w2=>⟨[(0,(.one (.bor l0_0 (map b_N a0)))),(1,(.one (.val (.int .i64 w0)))),(5,(.one (.val (.int .i64 w1)))),(15,(.one (.val (.bool w2))))],[]⟩
  |.k1=>⟨[(4,(.one (.val (.int .i64 (-1)))))],[]⟩
theorem t120_0 {l0_0:Nat} {a0:(List K_N)} {a1:Int} (hy0:length a0*40≤140737488351232) (hy1:∀z∈a0,ok_N z):∀(y0:List K_N) (p:List K_N) (v0:Int),p++y0=a0→Ev F X (.code l120_0 (h120_0 l0_0 a0 a1 (length p:Int) v0) (ex120_0 (r120_0 a0 y0 (length p:Int) v0)) (fin120_0 l0_0 a0 a1 (r120_0 a0 y0 (length p:Int) v0)))
  |[],p,v0,hp0=>by
    have hc:¬(decide ((length p:Int) <((length (map b_N a0)):Int)))=true:=by
      rw[← hp0]; simp only[LN,decide_eq_true_eq]; omega
    have st:=ch b120_0 (h120_0 l0_0 a0 a1 (length p:Int) v0) ⟨[(0,(.one (.bor l0_0 (map b_N a0)))),(1,(.oi v0)),(5,(.oi (length p:Int))),(15,(.one (.val (.bool (decide ((length p:Int) <((length (map b_N a0)):Int)))))))],[]⟩ (.exit 0) 9 (by kernel_rfl) (.f (nt hc) (.h 8 (.b false) .nil))
    rw[show (⟨[(0,(.one (.bor l0_0 (map b_N a0)))),(1,(.oi v0)),(5,(.oi (length p:Int))),(15,(.one (.val (.bool (decide ((length p:Int) <((length (map b_N a0)):Int)))))))],[]⟩:St)=fin120_0 l0_0 a0 a1 (.k0 v0 (length p:Int) (decide ((length p:Int) <((length (map b_N a0)):Int)))) from(by rfl)] at st
    exact .loopX st (show ((.exit 0):VX.Exit)≠.normal from by simp)
  |x0::y0,p,v0,hp0=>by
    have hc:(decide ((length p:Int) <((length (map b_N a0)):Int)))=true:=by
      rw[← hp0]; simp only[LN,decide_eq_true_eq]; omega
    have Hx0:(a0)[toNat (length p:Int)]?=some x0:=by
      rw[← hp0,Int.toNat_natCast]; simp
    have Mx0_0:=hy1 x0 (List.mem_of_getElem? Hx0)
    have hlen:length (a0)=length p+length y0+1:=by rw[← hp0]; simp; omega
    have hw:wrap .i64 ((length p:Int)+1)=(length p:Int)+1:=wrap64 (by omega)
    simp only[r120_0]
    have f1:0≤(length p:Int):=(by omega)
    have P1 {hs q} (r:PS F X hs q):=(PS.f hc (.f f1 (.f (mp_ b_N Hx0) (.h 8 (.b true) (.h 14 (.row (b_N x0)) (.r 20 [] [] (e147 (l0_2:=(l0_0+1)) (a0:=x0) (a1:=v0)) r))))))
    by_cases h_1:(decide ((m147 x0 v0) < 0))=true
    · try simp only[if_pos h_1]
      have st:=ch b120_0 (h120_0 l0_0 a0 a1 (length p:Int) v0) ⟨[(4,(.oi (-1)))],[]⟩ .ret 30 (by kernel_rfl) (P1 (.f h_1 (.h 27 (.b true) .nil)))
      rw[show (⟨[(4,(.oi (-1)))],[]⟩:St)=fin120_0 l0_0 a0 a1 (.k1) from(by rfl)] at st
      exact .loopX st (show (.ret:VX.Exit)≠.normal from by simp)
    · try simp only[if_neg h_1]
      have st:=ch b120_0 (h120_0 l0_0 a0 a1 (length p:Int) v0) ⟨[(0,(.one (.bor l0_0 (map b_N a0)))),(1,(.oi (m147 x0 v0))),(5,(.oi (wrap .i64 ((length p:Int)+1))))],[]⟩ .normal 34 (by kernel_rfl) (P1 (.f (nt h_1) (.f trivial (.h 27 (.b false) .nil))))
      have ih:=t120_0 (l0_0:=l0_0) (a0:=a0) (a1:=a1) hy0 hy1 y0 (p++ [x0]) (m147 x0 v0) (by rw[append_assoc]; exact hp0)
      rw[show ((p++ [x0]).length:Int)=(p.length:Int)+1 from by simp] at ih
      rw[show (⟨[(0,(.one (.bor l0_0 (map b_N a0)))),(1,(.oi (m147 x0 v0))),(5,(.oi (wrap .i64 ((length p:Int)+1))))],[]⟩:St)=h120_0 l0_0 a0 a1 ((length p:Int)+1) (m147 x0 v0) from(by unfold h120_0; simp only[hw]; done)] at st
      exact .loopN st ih
/-! loop.example/g00539/laws.szInS -/
def m120 (a0:(List K_N)) (a1:Int):Int:=
  if(decide ((wrap .i64 (a1 - ((length (map b_N a0)):Int))) < 0))=true then(-1) else
  (match r120_0 a0 a0 0 (wrap .i64 (a1 - ((length (map b_N a0)):Int))) with | .k0 w0_1 w1_1 w2_1=>w0_1 | .k1=>(-1))
theorem e120 {l0_0:Nat} {a0:(List K_N)} {a1:Int} (hy0:length a0*40≤140737488351232) (hy1:∀z∈a0,ok_N z):Ev F X (.call 120 [(.one (.bor l0_0 (map b_N a0))),(.one (.val (.int .i64 a1)))] [] [] [(.one (.val (.int .i64 (m120 a0 a1))))]):=by
  unfold m120
  by_cases h0:(decide ((wrap .i64 (a1 - ((length (map b_N a0)):Int))) < 0))=true
  · try simp only[if_pos h0]
    exact cp ya (.f h0 (.h 16 (.b true) .nil))
  · try simp only[if_neg h0]
    cases h1:r120_0 a0 a0 0 (wrap .i64 (a1 - ((length (map b_N a0)):Int))) with
    |k0 w0_1 w1_1 w2_1=>
      try dsimp only
      have f1:(⟨[(0,(.one (.bor l0_0 (map b_N a0)))),(1,(.oi (wrap .i64 (a1 - ((length (map b_N a0)):Int))))),(5,(.oi 0))],[]⟩:St)=h120_0 l0_0 a0 a1 0 (wrap .i64 (a1 - ((length (map b_N a0)):Int))):=yf
      exact cp ya (.f (nt h0) (.f f1 (.f (ev_ (e:=ex120_0) (g:=(fin120_0 l0_0 a0 a1)) h1 (t120_0 (l0_0:=l0_0) (a0:=a0) (a1:=a1) (by assumption) (by assumption) a0 [] (wrap .i64 (a1 - ((length (map b_N a0)):Int))) rfl)) (.h 16 (.b false) (.h 19 (.loop (h120_0 l0_0 a0 a1 0 (wrap .i64 (a1 - ((length (map b_N a0)):Int)))) (.exit 0) ⟨[(0,(.one (.bor l0_0 (map b_N a0)))),(1,(.oi w0_1)),(5,(.oi w1_1)),(15,(.one (.val (.bool w2_1))))],[]⟩) .nil)))))
    |k1=>
      try dsimp only
      have f1:(⟨[(0,(.one (.bor l0_0 (map b_N a0)))),(1,(.oi (wrap .i64 (a1 - ((length (map b_N a0)):Int))))),(5,(.oi 0))],[]⟩:St)=h120_0 l0_0 a0 a1 0 (wrap .i64 (a1 - ((length (map b_N a0)):Int))):=yf
      exact cp ya (.f (nt h0) (.f f1 (.f (ev_ (e:=ex120_0) (g:=(fin120_0 l0_0 a0 a1)) h1 (t120_0 (l0_0:=l0_0) (a0:=a0) (a1:=a1) (by assumption) (by assumption) a0 [] (wrap .i64 (a1 - ((length (map b_N a0)):Int))) rfl)) (.h 16 (.b false) (.h 19 (.loop (h120_0 l0_0 a0 a1 0 (wrap .i64 (a1 - ((length (map b_N a0)):Int)))) .ret ⟨[(4,(.oi (-1)))],[]⟩) .nil)))))
/-! loop.example/g00539/laws.szOut -/
def m148 (a0:K_U) (a1:Int):Int:=
  if(decide ((m166 a0.f1 a1) < 0))=true then(-1) else
  (m166 a0.f1 a1)
theorem e148 {l0_1:Nat} {a0:K_U} {a1:Int}:Ev F X (.call 148 [(.agg (k_U l0_1 a0)),(.one (.val (.int .i64 a1)))] [] [] [(.one (.val (.int .i64 (m148 a0 a1))))]):=by
  unfold m148
  have P0 {hs q} (r:PS F X hs q):=(PS.r 11 [] [] (e166 (l0_0:=(l0_1+1)) (a0:=a0.f1) (a1:=a1)) r)
  by_cases h0:(decide ((m166 a0.f1 a1) < 0))=true
  · try simp only[if_pos h0]
    exact cp ya (P0 (.f h0 (.h 18 (.b true) .nil)))
  · try simp only[if_neg h0]
    exact cp ya (P0 (.f (nt h0) (.h 18 (.b false) .nil)))
/-! loop 121_0 -/
inductive O121_0 where
  |k0 (w0:Int) (w1:Int) (w2:Bool)
  |k1
def r121_0 (a0:(List K_U)):List K_U→Int→Int→O121_0
  |x0::y0,i,v0=>
    if(decide ((m148 x0 v0) < 0))=true then(O121_0.k1) else
    (r121_0 a0 y0 (i+1) (m148 x0 v0))
  |[],i,v0=>(O121_0.k0 v0 i (decide (i <((length (map b_U a0)):Int))))
def h121_0 (l0_0:Nat) (a0:(List K_U)) (a1:Int) (i:Int) (v0:Int):St:=⟨[(0,(.one (.bor l0_0 (map b_U a0)))),(1,(.one (.val (.int .i64 v0)))),(5,(.one (.val (.int .i64 i))))],[]⟩
def ex121_0:O121_0→VX.Exit
  |.k0 _ _ _=>(.exit 0)
  |.k1=>.ret
def fin121_0 (l0_0:Nat) (a0:(List K_U)) (a1:Int):O121_0→St
  |.k0 w0 w1 w2=>⟨[(0,(.one (.bor l0_0 (map b_U a0)))),(1,(.one (.val (.int .i64 w0)))),(5,(.one (.val (.int .i64 w1)))),(15,(.one (.val (.bool w2))))],[]⟩
  |.k1=>⟨[(4,(.one (.val (.int .i64 (-1)))))],[]⟩
theorem t121_0 {l0_0:Nat} {a0:(List K_U)} {a1:Int} (hy0:length a0*32≤140737488351232) (hy1:∀z∈a0,ok_U z):∀(y0:List K_U) (p:List K_U) (v0:Int),p++y0=a0→Ev F X (.code l121_0 (h121_0 l0_0 a0 a1 (length p:Int) v0) (ex121_0 (r121_0 a0 y0 (length p:Int) v0)) (fin121_0 l0_0 a0 a1 (r121_0 a0 y0 (length p:Int) v0)))
  |[],p,v0,hp0=>by
    have hc:¬(decide ((length p:Int) <((length (map b_U a0)):Int)))=true:=by
      rw[← hp0]; simp only[LN,decide_eq_true_eq]; omega
    have st:=ch b121_0 (h121_0 l0_0 a0 a1 (length p:Int) v0) ⟨[(0,(.one (.bor l0_0 (map b_U a0)))),(1,(.oi v0)),(5,(.oi (length p:Int))),(15,(.one (.val (.bool (decide ((length p:Int) <((length (map b_U a0)):Int)))))))],[]⟩ (.exit 0) 9 (by kernel_rfl) (.f (nt hc) (.h 8 (.b false) .nil))
    rw[show (⟨[(0,(.one (.bor l0_0 (map b_U a0)))),(1,(.oi v0)),(5,(.oi (length p:Int))),(15,(.one (.val (.bool (decide ((length p:Int) <((length (map b_U a0)):Int)))))))],[]⟩:St)=fin121_0 l0_0 a0 a1 (.k0 v0 (length p:Int) (decide ((length p:Int) <((length (map b_U a0)):Int)))) from(by rfl)] at st
    exact .loopX st (show ((.exit 0):VX.Exit)≠.normal from by simp)
  |x0::y0,p,v0,hp0=>by
    have hc:(decide ((length p:Int) <((length (map b_U a0)):Int)))=true:=by
      rw[← hp0]; simp only[LN,decide_eq_true_eq]; omega
    have Hx0:(a0)[toNat (length p:Int)]?=some x0:=by
      rw[← hp0,Int.toNat_natCast]; simp
    have Mx0_0:=hy1 x0 (List.mem_of_getElem? Hx0)
    have hlen:length (a0)=length p+length y0+1:=by rw[← hp0]; simp; omega
    have hw:wrap .i64 ((length p:Int)+1)=(length p:Int)+1:=wrap64 (by omega)
    simp only[r121_0]
    have f1:0≤(length p:Int):=(by omega)
    have P1 {hs q} (r:PS F X hs q):=(PS.f hc (.f f1 (.f (mp_ b_U Hx0) (.h 8 (.b true) (.h 14 (.row (b_U x0)) (.r 20 [] [] (e148 (l0_1:=(l0_0+1)) (a0:=x0) (a1:=v0)) r))))))
    by_cases h_1:(decide ((m148 x0 v0) < 0))=true
    · try simp only[if_pos h_1]
      have st:=ch b121_0 (h121_0 l0_0 a0 a1 (length p:Int) v0) ⟨[(4,(.oi (-1)))],[]⟩ .ret 30 (by kernel_rfl) (P1 (.f h_1 (.h 27 (.b true) .nil)))
      rw[show (⟨[(4,(.oi (-1)))],[]⟩:St)=fin121_0 l0_0 a0 a1 (.k1) from(by rfl)] at st
      exact .loopX st (show (.ret:VX.Exit)≠.normal from by simp)
    · try simp only[if_neg h_1]
      have st:=ch b121_0 (h121_0 l0_0 a0 a1 (length p:Int) v0) ⟨[(0,(.one (.bor l0_0 (map b_U a0)))),(1,(.oi (m148 x0 v0))),(5,(.oi (wrap .i64 ((length p:Int)+1))))],[]⟩ .normal 34 (by kernel_rfl) (P1 (.f (nt h_1) (.f trivial (.h 27 (.b false) .nil))))
      have ih:=t121_0 (l0_0:=l0_0) (a0:=a0) (a1:=a1) hy0 hy1 y0 (p++ [x0]) (m148 x0 v0) (by rw[append_assoc]; exact hp0)
      rw[show ((p++ [x0]).length:Int)=(p.length:Int)+1 from by simp] at ih
      rw[show (⟨[(0,(.one (.bor l0_0 (map b_U a0)))),(1,(.oi (m148 x0 v0))),(5,(.oi (wrap .i64 ((length p:Int)+1))))],[]⟩:St)=h121_0 l0_0 a0 a1 ((length p:Int)+1) (m148 x0 v0) from(by unfold h121_0; simp only[hw]; done)] at st
      exact .loopN st ih
/-! loop.example/g00539/laws.szOutS -/
def m121 (a0:(List K_U)) (a1:Int):Int:=
  if(decide ((wrap .i64 (a1 - ((length (map b_U a0)):Int))) < 0))=true then(-1) else
  (match r121_0 a0 a0 0 (wrap .i64 (a1 - ((length (map b_U a0)):Int))) with | .k0 w0_1 w1_1 w2_1=>w0_1 | .k1=>(-1))
theorem e121 {l0_0:Nat} {a0:(List K_U)} {a1:Int} (hy0:length a0*32≤140737488351232) (hy1:∀z∈a0,ok_U z):Ev F X (.call 121 [(.one (.bor l0_0 (map b_U a0))),(.one (.val (.int .i64 a1)))] [] [] [(.one (.val (.int .i64 (m121 a0 a1))))]):=by
  unfold m121
  by_cases h0:(decide ((wrap .i64 (a1 - ((length (map b_U a0)):Int))) < 0))=true
  · try simp only[if_pos h0]
    exact cp ya (.f h0 (.h 16 (.b true) .nil))
  · try simp only[if_neg h0]
    cases h1:r121_0 a0 a0 0 (wrap .i64 (a1 - ((length (map b_U a0)):Int))) with
    |k0 w0_1 w1_1 w2_1=>
      try dsimp only
      have f1:(⟨[(0,(.one (.bor l0_0 (map b_U a0)))),(1,(.oi (wrap .i64 (a1 - ((length (map b_U a0)):Int))))),(5,(.oi 0))],[]⟩:St)=h121_0 l0_0 a0 a1 0 (wrap .i64 (a1 - ((length (map b_U a0)):Int))):=yf
      exact cp ya (.f (nt h0) (.f f1 (.f (ev_ (e:=ex121_0) (g:=(fin121_0 l0_0 a0 a1)) h1 (t121_0 (l0_0:=l0_0) (a0:=a0) (a1:=a1) (by assumption) (by assumption) a0 [] (wrap .i64 (a1 - ((length (map b_U a0)):Int))) rfl)) (.h 16 (.b false) (.h 19 (.loop (h121_0 l0_0 a0 a1 0 (wrap .i64 (a1 - ((length (map b_U a0)):Int)))) (.exit 0) ⟨[(0,(.one (.bor l0_0 (map b_U a0)))),(1,(.oi w0_1)),(5,(.oi w1_1)),(15,(.one (.val (.bool w2_1))))],[]⟩) .nil)))))
    |k1=>
      try dsimp only
      have f1:(⟨[(0,(.one (.bor l0_0 (map b_U a0)))),(1,(.oi (wrap .i64 (a1 - ((length (map b_U a0)):Int))))),(5,(.oi 0))],[]⟩:St)=h121_0 l0_0 a0 a1 0 (wrap .i64 (a1 - ((length (map b_U a0)):Int))):=yf
      exact cp ya (.f (nt h0) (.f f1 (.f (ev_ (e:=ex121_0) (g:=(fin121_0 l0_0 a0 a1)) h1 (t121_0 (l0_0:=l0_0) (a0:=a0) (a1:=a1) (by assumption) (by assumption) a0 [] (wrap .i64 (a1 - ((length (map b_U a0)):Int))) rfl)) (.h 16 (.b false) (.h 19 (.loop (h121_0 l0_0 a0 a1 0 (wrap .i64 (a1 - ((length (map b_U a0)):Int)))) .ret ⟨[(4,(.oi (-1)))],[]⟩) .nil)))))
/-! loop.example/g00539/laws.szTx -/
def m94 (a0:K_T) (a1:Int):Int:=
  if(decide ((m120 a0.f1 a1) < 0))=true then(-1) else
  if(decide ((m121 a0.f2 (m120 a0.f1 a1)) < 0))=true then(-1) else
    (m121 a0.f2 (m120 a0.f1 a1))
theorem e94 {l0_1:Nat} {l0_2:Nat} {a0:K_T} {a1:Int} (hy0:length a0.f1*40≤140737488351232) (hy1:∀z∈a0.f1,ok_N z) (hy2:length a0.f2*32≤140737488351232) (hy3:∀z∈a0.f2,ok_U z):Ev F X (.call 94 [(.agg (k_T l0_1 l0_2 a0)),(.one (.val (.int .i64 a1)))] [] [] [(.one (.val (.int .i64 (m94 a0 a1))))]):=by
  unfold m94
  have P0 {hs q} (r:PS F X hs q):=(PS.r 11 [] [] (e120 (l0_0:=(l0_1+1)) (a0:=a0.f1) (a1:=a1) ‹_› ‹_›) r)
  by_cases h0:(decide ((m120 a0.f1 a1) < 0))=true
  · try simp only[if_pos h0]
    exact cp ya (P0 (.f h0 (.h 18 (.b true) .nil)))
  · try simp only[if_neg h0]
    have P1 {hs q} (r:PS F X hs q):=(P0 (.f (nt h0) (.h 18 (.b false) (.r 26 [] [] (e121 (l0_0:=(l0_2+1)) (a0:=a0.f2) (a1:=(m120 a0.f1 a1)) ‹_› ‹_›) r))))
    by_cases h1:(decide ((m121 a0.f2 (m120 a0.f1 a1)) < 0))=true
    · try simp only[if_pos h1]
      exact cp ya (P1 (.f h1 (.h 33 (.b true) .nil)))
    · try simp only[if_neg h1]
      exact cp ya (P1 (.f (nt h1) (.h 33 (.b false) .nil)))
/-! loop 63_0 -/
inductive O63_0 where
  |k0 (w0:Int) (w1:Int) (w2:Bool)
  |k1
def r63_0 (a0:(List K_T)):List K_T→Int→Int→O63_0
  |x0::y0,i,v0=>
    if(decide ((m94 x0 v0) < 0))=true then(O63_0.k1) else
    (r63_0 a0 y0 (i+1) (m94 x0 v0))
  |[],i,v0=>(O63_0.k0 v0 i (decide (i <((length (map b_T a0)):Int))))
def h63_0 (l0_0:Nat) (a0:(List K_T)) (a1:Int) (i:Int) (v0:Int):St:=⟨[(0,(.one (.bor l0_0 (map b_T a0)))),(1,(.one (.val (.int .i64 v0)))),(5,(.one (.val (.int .i64 i))))],[]⟩
def ex63_0:O63_0→VX.Exit
  |.k0 _ _ _=>(.exit 0)
  |.k1=>.ret
def fin63_0 (l0_0:Nat) (a0:(List K_T)) (a1:Int):O63_0→St
  |.k0 w0 w1 w2=>⟨[(0,(.one (.bor l0_0 (map b_T a0)))),(1,(.one (.val (.int .i64 w0)))),(5,(.one (.val (.int .i64 w1)))),(15,(.one (.val (.bool w2))))],[]⟩
  |.k1=>⟨[(4,(.one (.val (.int .i64 (-1)))))],[]⟩
theorem t63_0 {l0_0:Nat} {a0:(List K_T)} {a1:Int} (hy0:length a0*56≤140737488351232) (hy1:∀z∈a0,ok_T z):∀(y0:List K_T) (p:List K_T) (v0:Int),p++y0=a0→Ev F X (.code l63_0 (h63_0 l0_0 a0 a1 (length p:Int) v0) (ex63_0 (r63_0 a0 y0 (length p:Int) v0)) (fin63_0 l0_0 a0 a1 (r63_0 a0 y0 (length p:Int) v0)))
  |[],p,v0,hp0=>by
    have hc:¬(decide ((length p:Int) <((length (map b_T a0)):Int)))=true:=by
      rw[← hp0]; simp only[LN,decide_eq_true_eq]; omega
    have st:=ch b63_0 (h63_0 l0_0 a0 a1 (length p:Int) v0) ⟨[(0,(.one (.bor l0_0 (map b_T a0)))),(1,(.oi v0)),(5,(.oi (length p:Int))),(15,(.one (.val (.bool (decide ((length p:Int) <((length (map b_T a0)):Int)))))))],[]⟩ (.exit 0) 9 (by kernel_rfl) (.f (nt hc) (.h 8 (.b false) .nil))
    rw[show (⟨[(0,(.one (.bor l0_0 (map b_T a0)))),(1,(.oi v0)),(5,(.oi (length p:Int))),(15,(.one (.val (.bool (decide ((length p:Int) <((length (map b_T a0)):Int)))))))],[]⟩:St)=fin63_0 l0_0 a0 a1 (.k0 v0 (length p:Int) (decide ((length p:Int) <((length (map b_T a0)):Int)))) from(by rfl)] at st
    exact .loopX st (show ((.exit 0):VX.Exit)≠.normal from by simp)
  |x0::y0,p,v0,hp0=>by
    have hc:(decide ((length p:Int) <((length (map b_T a0)):Int)))=true:=by
      rw[← hp0]; simp only[LN,decide_eq_true_eq]; omega
    have Hx0:(a0)[toNat (length p:Int)]?=some x0:=by
      rw[← hp0,Int.toNat_natCast]; simp
    obtain⟨Mx0_0,Mx0_1,Mx0_2,Mx0_3⟩:=hy1 x0 (List.mem_of_getElem? Hx0)
    have hlen:length (a0)=length p+length y0+1:=by rw[← hp0]; simp; omega
    have hw:wrap .i64 ((length p:Int)+1)=(length p:Int)+1:=wrap64 (by omega)
    simp only[r63_0]
    have f1:0≤(length p:Int):=(by omega)
    have P1 {hs q} (r:PS F X hs q):=(PS.f hc (.f f1 (.f (mp_ b_T Hx0) (.h 8 (.b true) (.h 14 (.row (b_T x0)) (.r 20 [] [] (e94 (l0_1:=(l0_0+1)) (l0_2:=(l0_0+1)) (a0:=x0) (a1:=v0) ‹_› ‹_› ‹_› ‹_›) r))))))
    by_cases h_1:(decide ((m94 x0 v0) < 0))=true
    · try simp only[if_pos h_1]
      have st:=ch b63_0 (h63_0 l0_0 a0 a1 (length p:Int) v0) ⟨[(4,(.oi (-1)))],[]⟩ .ret 30 (by kernel_rfl) (P1 (.f h_1 (.h 27 (.b true) .nil)))
      rw[show (⟨[(4,(.oi (-1)))],[]⟩:St)=fin63_0 l0_0 a0 a1 (.k1) from(by rfl)] at st
      exact .loopX st (show (.ret:VX.Exit)≠.normal from by simp)
    · try simp only[if_neg h_1]
      have st:=ch b63_0 (h63_0 l0_0 a0 a1 (length p:Int) v0) ⟨[(0,(.one (.bor l0_0 (map b_T a0)))),(1,(.oi (m94 x0 v0))),(5,(.oi (wrap .i64 ((length p:Int)+1))))],[]⟩ .normal 34 (by kernel_rfl) (P1 (.f (nt h_1) (.f trivial (.h 27 (.b false) .nil))))
      have ih:=t63_0 (l0_0:=l0_0) (a0:=a0) (a1:=a1) hy0 hy1 y0 (p++ [x0]) (m94 x0 v0) (by rw[append_assoc]; exact hp0)
      rw[show ((p++ [x0]).length:Int)=(p.length:Int)+1 from by simp] at ih
      rw[show (⟨[(0,(.one (.bor l0_0 (map b_T a0)))),(1,(.oi (m94 x0 v0))),(5,(.oi (wrap .i64 ((length p:Int)+1))))],[]⟩:St)=h63_0 l0_0 a0 a1 ((length p:Int)+1) (m94 x0 v0) from(by unfold h63_0; simp only[hw]; done)] at st
      exact .loopN st ih
/-! loop.example/g00539/laws.szTxS -/
def m63 (a0:(List K_T)) (a1:Int):Int:=
  if(decide ((wrap .i64 (a1 - ((length (map b_T a0)):Int))) < 0))=true then(-1) else
  (match r63_0 a0 a0 0 (wrap .i64 (a1 - ((length (map b_T a0)):Int))) with | .k0 w0_1 w1_1 w2_1=>w0_1 | .k1=>(-1))
theorem e63 {l0_0:Nat} {a0:(List K_T)} {a1:Int} (hy0:length a0*56≤140737488351232) (hy1:∀z∈a0,ok_T z):Ev F X (.call 63 [(.one (.bor l0_0 (map b_T a0))),(.one (.val (.int .i64 a1)))] [] [] [(.one (.val (.int .i64 (m63 a0 a1))))]):=by
  unfold m63
  by_cases h0:(decide ((wrap .i64 (a1 - ((length (map b_T a0)):Int))) < 0))=true
  · try simp only[if_pos h0]
    exact cp ya (.f h0 (.h 16 (.b true) .nil))
  · try simp only[if_neg h0]
    cases h1:r63_0 a0 a0 0 (wrap .i64 (a1 - ((length (map b_T a0)):Int))) with
    |k0 w0_1 w1_1 w2_1=>
      try dsimp only
      have f1:(⟨[(0,(.one (.bor l0_0 (map b_T a0)))),(1,(.oi (wrap .i64 (a1 - ((length (map b_T a0)):Int))))),(5,(.oi 0))],[]⟩:St)=h63_0 l0_0 a0 a1 0 (wrap .i64 (a1 - ((length (map b_T a0)):Int))):=yf
      exact cp ya (.f (nt h0) (.f f1 (.f (ev_ (e:=ex63_0) (g:=(fin63_0 l0_0 a0 a1)) h1 (t63_0 (l0_0:=l0_0) (a0:=a0) (a1:=a1) (by assumption) (by assumption) a0 [] (wrap .i64 (a1 - ((length (map b_T a0)):Int))) rfl)) (.h 16 (.b false) (.h 19 (.loop (h63_0 l0_0 a0 a1 0 (wrap .i64 (a1 - ((length (map b_T a0)):Int)))) (.exit 0) ⟨[(0,(.one (.bor l0_0 (map b_T a0)))),(1,(.oi w0_1)),(5,(.oi w1_1)),(15,(.one (.val (.bool w2_1))))],[]⟩) .nil)))))
    |k1=>
      try dsimp only
      have f1:(⟨[(0,(.one (.bor l0_0 (map b_T a0)))),(1,(.oi (wrap .i64 (a1 - ((length (map b_T a0)):Int))))),(5,(.oi 0))],[]⟩:St)=h63_0 l0_0 a0 a1 0 (wrap .i64 (a1 - ((length (map b_T a0)):Int))):=yf
      exact cp ya (.f (nt h0) (.f f1 (.f (ev_ (e:=ex63_0) (g:=(fin63_0 l0_0 a0 a1)) h1 (t63_0 (l0_0:=l0_0) (a0:=a0) (a1:=a1) (by assumption) (by assumption) a0 [] (wrap .i64 (a1 - ((length (map b_T a0)):Int))) rfl)) (.h 16 (.b false) (.h 19 (.loop (h63_0 l0_0 a0 a1 0 (wrap .i64 (a1 - ((length (map b_T a0)):Int)))) .ret ⟨[(4,(.oi (-1)))],[]⟩) .nil)))))
/-! loop.example/g00539/laws.szBlock -/
def m34 (a0:K_G) (a1:Int):Int:=
  if(decide ((m63 a0.f4 a1) < 0))=true then(-1) else
  (m63 a0.f4 a1)
theorem e34 {l0_4:Nat} {a0:K_G} {a1:Int} (hy0:length a0.f4*56≤140737488351232) (hy1:∀z∈a0.f4,ok_T z):Ev F X (.call 34 [(.agg (k_G l0_4 a0)),(.one (.val (.int .i64 a1)))] [] [] [(.one (.val (.int .i64 (m34 a0 a1))))]):=by
  unfold m34
  have P0 {hs q} (r:PS F X hs q):=(PS.r 11 [] [] (e63 (l0_0:=(l0_4+1)) (a0:=a0.f4) (a1:=a1) ‹_› ‹_›) r)
  by_cases h0:(decide ((m63 a0.f4 a1) < 0))=true
  · try simp only[if_pos h0]
    exact cp ya (P0 (.f h0 (.h 18 (.b true) .nil)))
  · try simp only[if_neg h0]
    exact cp ya (P0 (.f (nt h0) (.h 18 (.b false) .nil)))
/-! loop.example/g00539/laws.szJob -/
def m6 (a0:K_J) (a1:Int):Int:=
  if(decide ((m34 (K_G.mk a0.f1 a0.f2 a0.f3 a0.f4 a0.f5) a1) < 0))=true then(-1) else
  (m34 (K_G.mk a0.f1 a0.f2 a0.f3 a0.f4 a0.f5) a1)
theorem e6 {l0_5:Nat} {a0:K_J} {a1:Int} (hy0:length a0.f5*56≤140737488351232) (hy1:∀z∈a0.f5,ok_T z):Ev F X (.call 6 [(.agg (k_J l0_5 a0)),(.one (.val (.int .i64 a1)))] [] [] [(.one (.val (.int .i64 (m6 a0 a1))))]):=by
  unfold m6
  have P0 {hs q} (r:PS F X hs q):=(PS.r 11 [] [] (e34 (l0_4:=(l0_5+1)) (a0:=(K_G.mk a0.f1 a0.f2 a0.f3 a0.f4 a0.f5)) (a1:=a1) ‹_› ‹_›) r)
  by_cases h0:(decide ((m34 (K_G.mk a0.f1 a0.f2 a0.f3 a0.f4 a0.f5) a1) < 0))=true
  · try simp only[if_pos h0]
    exact cp ya (P0 (.f h0 (.h 18 (.b true) .nil)))
  · try simp only[if_neg h0]
    exact cp ya (P0 (.f (nt h0) (.h 18 (.b false) .nil)))
/-! loop.example/g00539/spec.l1In -/
def m36 (a0:Int) (a1:Int) (a2:Int):Bool:=
  if(decide (a0≥a1))=true then(decide (a0≤a2)) else
  false
theorem e36 {a0:Int} {a1:Int} {a2:Int}:Ev F X (.call 36 [(.one (.val (.int .i64 a0))),(.one (.val (.int .i64 a1))),(.one (.val (.int .i64 a2)))] [] [] [(.one (.val (.bool (m36 a0 a1 a2))))]):=by
  unfold m36
  by_cases h0:(decide (a0≥a1))=true
  · try simp only[if_pos h0]
    exact cp ya (.f h0 (.f h0 (.f h0 (.f h0 (.h 10 (.b true) (.h 12 (.b true) (.h 14 (.b true) (.h 17 (.b true) .nil))))))))
  · try simp only[if_neg h0]
    exact cp ya (.f (nt h0) (.f (nt h0) (.f (nt h0) (.f (nt h0) (.h 10 (.b false) (.h 12 (.b false) (.h 14 (.b false) (.h 17 (.b false) .nil))))))))
theorem e65 {a0:Int}:Ev F X (.call 65 [(.one (.val (.int .i64 a0)))] [] [] [(.one (.val (.bool (m36 a0 0 2147483646))))]):=by
  exact cp ya (.r 5 [] [] (e36 (a0:=a0) (a1:=0) (a2:=2147483646)) .nil)
/-! loop.example/g00539/spec.l1Bits -/
def m66 (a0:Int):Bool:=
  if(m36 a0 1 1023)=true then(decide ((Int.tmod a0 256) > 0)) else
  false
theorem e66 {a0:Int}:Ev F X (.call 66 [(.one (.val (.int .i64 a0)))] [] [] [(.one (.val (.bool (m66 a0))))]):=by
  unfold m66
  by_cases h0:(m36 a0 1 1023)=true
  · try simp only[if_pos h0]
    have f3:(256:Int)≠0:=yc
    exact cp ya (.r 5 [] [] (e36 (a0:=a0) (a1:=1) (a2:=1023)) (.f h0 (.f h0 (.f f3 (.f h0 (.f h0 (.h 8 (.b true) (.h 10 (.b true) (.h 12 (.b true) (.h 15 (.b true) .nil))))))))))
  · try simp only[if_neg h0]
    exact cp ya (.r 5 [] [] (e36 (a0:=a0) (a1:=1) (a2:=1023)) (.f (nt h0) (.f (nt h0) (.f (nt h0) (.f (nt h0) (.h 8 (.b false) (.h 10 (.b false) (.h 12 (.b false) (.h 15 (.b false) .nil)))))))))
/-! loop 123_0 -/
inductive O123_0 where
  |k0 (w0:Int) (w1:Bool)
  |k1
def r123_0 (a0:(List Int)) (a1:Int) (a2:Int):List Int→Int→O123_0
  |x0::y0,i=>
    if(!(m36 x0 a1 a2))=true then(O123_0.k1) else
    (r123_0 a0 a1 a2 y0 (i+1))
  |[],i=>(O123_0.k0 i (decide (i <((length (map b_i a0)):Int))))
def h123_0 (l0_0:Nat) (a0:(List Int)) (a1:Int) (a2:Int) (i:Int) :St:=⟨[(0,(.one (.bor l0_0 (map b_i a0)))),(1,(.one (.val (.int .i64 a1)))),(2,(.one (.val (.int .i64 a2)))),(7,(.one (.val (.int .i64 i))))],[]⟩
def ex123_0:O123_0→VX.Exit
  |.k0 _ _=>(.exit 0)
  |.k1=>.ret
def fin123_0 (l0_0:Nat) (a0:(List Int)) (a1:Int) (a2:Int):O123_0→St
  |.k0 w0 w1=>⟨[(0,(.one (.bor l0_0 (map b_i a0)))),(1,(.one (.val (.int .i64 a1)))),(2,(.one (.val (.int .i64 a2)))),(7,(.one (.val (.int .i64 w0)))),(11,(.one (.val (.bool w1))))],[]⟩
  |.k1=>⟨[(6,(.one (.val (.bool false))))],[]⟩
theorem t123_0 {l0_0:Nat} {a0:(List Int)} {a1:Int} {a2:Int} (hy0:length a0*8≤140737488351232):∀(y0:List Int) (p:List Int),p++y0=a0→Ev F X (.code l123_0 (h123_0 l0_0 a0 a1 a2 (length p:Int)) (ex123_0 (r123_0 a0 a1 a2 y0 (length p:Int))) (fin123_0 l0_0 a0 a1 a2 (r123_0 a0 a1 a2 y0 (length p:Int))))
  |[],p,hp0=>by
    have hc:¬(decide ((length p:Int) <((length (map b_i a0)):Int)))=true:=by
      rw[← hp0]; simp only[LN,decide_eq_true_eq]; omega
    have st:=ch b123_0 (h123_0 l0_0 a0 a1 a2 (length p:Int)) ⟨[(0,(.one (.bor l0_0 (map b_i a0)))),(1,(.oi a1)),(2,(.oi a2)),(7,(.oi (length p:Int))),(11,(.one (.val (.bool (decide ((length p:Int) <((length (map b_i a0)):Int)))))))],[]⟩ (.exit 0) 9 (by kernel_rfl) (.f (nt hc) (.h 8 (.b false) .nil))
    rw[show (⟨[(0,(.one (.bor l0_0 (map b_i a0)))),(1,(.oi a1)),(2,(.oi a2)),(7,(.oi (length p:Int))),(11,(.one (.val (.bool (decide ((length p:Int) <((length (map b_i a0)):Int)))))))],[]⟩:St)=fin123_0 l0_0 a0 a1 a2 (.k0 (length p:Int) (decide ((length p:Int) <((length (map b_i a0)):Int)))) from(by rfl)] at st
    exact .loopX st (show ((.exit 0):VX.Exit)≠.normal from by simp)
  |x0::y0,p,hp0=>by
    have hc:(decide ((length p:Int) <((length (map b_i a0)):Int)))=true:=by
      rw[← hp0]; simp only[LN,decide_eq_true_eq]; omega
    have Hx0:(a0)[toNat (length p:Int)]?=some x0:=by
      rw[← hp0,Int.toNat_natCast]; simp
    have hlen:length (a0)=length p+length y0+1:=by rw[← hp0]; simp; omega
    have hw:wrap .i64 ((length p:Int)+1)=(length p:Int)+1:=wrap64 (by omega)
    simp only[r123_0]
    have f1:0≤(length p:Int):=(by omega)
    have P1 {hs q} (r:PS F X hs q):=(PS.f hc (.f f1 (.f (mp_ b_i Hx0) (.h 8 (.b true) (.h 14 (.row [(.i x0)]) (.r 22 [] [] (e36 (a0:=x0) (a1:=a1) (a2:=a2)) r))))))
    by_cases h_1:(!(m36 x0 a1 a2))=true
    · try simp only[if_pos h_1]
      have st:=ch b123_0 (h123_0 l0_0 a0 a1 a2 (length p:Int)) ⟨[(6,(.one (.val (.bool false))))],[]⟩ .ret 28 (by kernel_rfl) (P1 (.f h_1 (.h 25 (.b true) .nil)))
      rw[show (⟨[(6,(.one (.val (.bool false))))],[]⟩:St)=fin123_0 l0_0 a0 a1 a2 (.k1) from(by rfl)] at st
      exact .loopX st (show (.ret:VX.Exit)≠.normal from by simp)
    · try simp only[if_neg h_1]
      have st:=ch b123_0 (h123_0 l0_0 a0 a1 a2 (length p:Int)) ⟨[(0,(.one (.bor l0_0 (map b_i a0)))),(1,(.oi a1)),(2,(.oi a2)),(7,(.oi (wrap .i64 ((length p:Int)+1))))],[]⟩ .normal 32 (by kernel_rfl) (P1 (.f (nt h_1) (.f trivial (.h 25 (.b false) .nil))))
      have ih:=t123_0 (l0_0:=l0_0) (a0:=a0) (a1:=a1) (a2:=a2) hy0 y0 (p++ [x0]) (by rw[append_assoc]; exact hp0)
      rw[show ((p++ [x0]).length:Int)=(p.length:Int)+1 from by simp] at ih
      rw[show (⟨[(0,(.one (.bor l0_0 (map b_i a0)))),(1,(.oi a1)),(2,(.oi a2)),(7,(.oi (wrap .i64 ((length p:Int)+1))))],[]⟩:St)=h123_0 l0_0 a0 a1 a2 ((length p:Int)+1)  from(by unfold h123_0; simp only[hw]; done)] at st
      exact .loopN st ih
/-! loop.example/g00539/spec.l1All -/
def m123 (a0:(List Int)) (a1:Int) (a2:Int):Bool:=
  (match r123_0 a0 a1 a2 a0 0 with | .k0 w0_0 w1_0=>true | .k1=>false)
theorem e123 {l0_0:Nat} {a0:(List Int)} {a1:Int} {a2:Int} (hy0:length a0*8≤140737488351232):Ev F X (.call 123 [(.one (.bor l0_0 (map b_i a0))),(.one (.val (.int .i64 a1))),(.one (.val (.int .i64 a2)))] [] [] [(.one (.val (.bool (m123 a0 a1 a2))))]):=by
  unfold m123
  cases h0:r123_0 a0 a1 a2 a0 0 with
  |k0 w0_0 w1_0=>
    try dsimp only
    have f0:(⟨[(0,(.one (.bor l0_0 (map b_i a0)))),(1,(.oi a1)),(2,(.oi a2)),(7,(.oi 0))],[]⟩:St)=h123_0 l0_0 a0 a1 a2 0 :=yf
    exact cp ya (.f f0 (.f (ev_ (e:=ex123_0) (g:=(fin123_0 l0_0 a0 a1 a2)) h0 (t123_0 (l0_0:=l0_0) (a0:=a0) (a1:=a1) (a2:=a2) (by assumption) a0 []  rfl)) (.h 4 (.loop (h123_0 l0_0 a0 a1 a2 0) (.exit 0) ⟨[(0,(.one (.bor l0_0 (map b_i a0)))),(1,(.oi a1)),(2,(.oi a2)),(7,(.oi w0_0)),(11,(.one (.val (.bool w1_0))))],[]⟩) .nil)))
  |k1=>
    try dsimp only
    have f0:(⟨[(0,(.one (.bor l0_0 (map b_i a0)))),(1,(.oi a1)),(2,(.oi a2)),(7,(.oi 0))],[]⟩:St)=h123_0 l0_0 a0 a1 a2 0 :=yf
    exact cp ya (.f f0 (.f (ev_ (e:=ex123_0) (g:=(fin123_0 l0_0 a0 a1 a2)) h0 (t123_0 (l0_0:=l0_0) (a0:=a0) (a1:=a1) (a2:=a2) (by assumption) a0 []  rfl)) (.h 4 (.loop (h123_0 l0_0 a0 a1 a2 0) .ret ⟨[(6,(.one (.val (.bool false))))],[]⟩) .nil)))
/-! loop 96_0 -/
inductive O96_0 where
  |k0 (w0:Int) (w1:Bool)
  |k1
def r96_0 (a0:(List K_N)) (a1:Int):Nat→Int→O96_0
  |n+1,i=>
    if (((getD a0 (toNat i) (K_N.mk 0 0 [])).f0) == ((getD a0 (toNat a1) (K_N.mk 0 0 [])).f0)) = true then (if (((getD a0 (toNat i) (K_N.mk 0 0 [])).f1) == ((getD a0 (toNat a1) (K_N.mk 0 0 [])).f1)) = true then (O96_0.k1) else
      (r96_0 a0 a1 n (i+1))) else
    (r96_0 a0 a1 n (i+1))
  |0,i=>(O96_0.k0 i (decide (i < a1)))
def h96_0 (l0_0:Nat) (a0:(List K_N)) (a1:Int) (i:Int) :St:=⟨[(0,(.one (.bor l0_0 (map b_N a0)))),(1,(.one (.val (.int .i64 a1)))),(5,(.bptr l0_0 (b_N (getD a0 (toNat a1) (K_N.mk 0 0 []))))),(6,(.one (.val (.int .i64 i))))],[]⟩
def ex96_0:O96_0→VX.Exit
  |.k0 _ _=>(.exit 0)
  |.k1=>.ret
def fin96_0 (l0_0:Nat) (a0:(List K_N)) (a1:Int):O96_0→St
  |.k0 w0 w1=>⟨[(0,(.one (.bor l0_0 (map b_N a0)))),(1,(.one (.val (.int .i64 a1)))),(5,(.bptr l0_0 (b_N (getD a0 (toNat a1) (K_N.mk 0 0 []))))),(6,(.one (.val (.int .i64 w0)))),(38,(.one (.val (.bool w1))))],[]⟩
  |.k1=>⟨[(4,(.one (.val (.int .i64 6))))],[]⟩
theorem t96_0 {l0_0:Nat} {a0:(List K_N)} {a1:Int} (hy0:length a0*40≤140737488351232) (hy1:∀z∈a0,ok_N z) (hy2:0≤a1) (hy3:a1 <(length a0:Int)):∀(n:Nat) (i:Int),0≤i→n=toNat (a1 - i)→a1≤9223372036854775807→Ev F X (.code l96_0 (h96_0 l0_0 a0 a1 i) (ex96_0 (r96_0 a0 a1 n i)) (fin96_0 l0_0 a0 a1 (r96_0 a0 a1 n i)))
  |0,i,hn0,hn,hi0=>by
    have hc:¬(decide (i < a1))=true:=by
      simp only[decide_eq_true_eq]; omega
    have st:=ch b96_0 (h96_0 l0_0 a0 a1 i) ⟨[(0,(.one (.bor l0_0 (map b_N a0)))),(1,(.oi a1)),(5,(.bptr l0_0 (b_N (getD a0 (toNat a1) (K_N.mk 0 0 []))))),(6,(.oi i)),(38,(.one (.val (.bool (decide (i < a1))))))],[]⟩ (.exit 0) 7 (by kernel_rfl) (.f (nt hc) (.h 6 (.b false) .nil))
    rw[show (⟨[(0,(.one (.bor l0_0 (map b_N a0)))),(1,(.oi a1)),(5,(.bptr l0_0 (b_N (getD a0 (toNat a1) (K_N.mk 0 0 []))))),(6,(.oi i)),(38,(.one (.val (.bool (decide (i < a1))))))],[]⟩:St)=fin96_0 l0_0 a0 a1 (.k0 i (decide (i < a1))) from(by rfl)] at st
    exact .loopX st (show ((.exit 0):VX.Exit)≠.normal from by simp)
  |n+1,i,hn0,hn,hi0=>by
    have hc:(decide (i < a1))=true:=by
      simp only[decide_eq_true_eq]; omega
    have hw:wrap .i64 (i+1)=i+1:=wrap64 (by omega)
    have hj0:=hi0; try simp only[LN,Int.toNat_natCast] at hj0
    simp only[r96_0]
    have f1:0≤i:=‹_›
    have P1 {hs q} (r:PS F X hs q):=(PS.f hc (.f f1 (.f (mp_ b_N (getD_at a0 (toNat i) (K_N.mk 0 0 []) (by omega))) (.h 6 (.b true) (.h 12 (.row (b_N (getD a0 (toNat i) (K_N.mk 0 0 [])))) r)))))
    by_cases h_1:(((getD a0 (toNat i) (K_N.mk 0 0 [])).f0)==((getD a0 (toNat a1) (K_N.mk 0 0 [])).f0))=true
    · try simp only[if_pos h_1]
      have P2 {hs q} (r:PS F X hs q):=(P1 (.f h_1 (.f h_1 (.f h_1 (.f f1 (.f (mp_ b_N (getD_at a0 (toNat i) (K_N.mk 0 0 []) (by omega))) (.f h_1 (.f h_1 (.f h_1 (.f h_1 (.f h_1 (.f h_1 (.f h_1 (.f h_1 (.h 29 (.b true) (.h 31 (.b true) (.h 33 (.b true) (.h 34 (.row (b_N (getD a0 (toNat i) (K_N.mk 0 0 [])))) (.h 35 (.b true) (.h 37 (.b true) (.h 39 (.b true) (.h 41 (.b true) (.h 43 (.b true) (.h 45 (.b true) (.h 47 (.b true) (.h 50 (.b true) r))))))))))))))))))))))))))
      by_cases h_2:(((getD a0 (toNat i) (K_N.mk 0 0 [])).f1)==((getD a0 (toNat a1) (K_N.mk 0 0 [])).f1))=true
      · try simp only[if_pos h_2]
        have st:=ch b96_0 (h96_0 l0_0 a0 a1 i) ⟨[(4,(.oi 6))],[]⟩ .ret 54 (by kernel_rfl) (P2 (.f h_2 (.h 51 (.b true) .nil)))
        rw[show (⟨[(4,(.oi 6))],[]⟩:St)=fin96_0 l0_0 a0 a1 (.k1) from(by rfl)] at st
        exact .loopX st (show (.ret:VX.Exit)≠.normal from by simp)
      · try simp only[if_neg h_2]
        have st:=ch b96_0 (h96_0 l0_0 a0 a1 i) ⟨[(0,(.one (.bor l0_0 (map b_N a0)))),(1,(.oi a1)),(5,(.bptr l0_0 (b_N (getD a0 (toNat a1) (K_N.mk 0 0 []))))),(6,(.oi (wrap .i64 (i+1))))],[]⟩ .normal 58 (by kernel_rfl) (P2 (.f (nt h_2) (.f trivial (.h 51 (.b false) .nil))))
        have ih:=t96_0 (l0_0:=l0_0) (a0:=a0) (a1:=a1) hy0 hy1 hy2 hy3 n (i+1) (by omega) (by omega) (by omega)
        rw[show (⟨[(0,(.one (.bor l0_0 (map b_N a0)))),(1,(.oi a1)),(5,(.bptr l0_0 (b_N (getD a0 (toNat a1) (K_N.mk 0 0 []))))),(6,(.oi (wrap .i64 (i+1))))],[]⟩:St)=h96_0 l0_0 a0 a1 (i+1)  from(by unfold h96_0; simp only[hw]; done)] at st
        exact .loopN st ih
    · try simp only[if_neg h_1]
      have st:=ch b96_0 (h96_0 l0_0 a0 a1 i) ⟨[(0,(.one (.bor l0_0 (map b_N a0)))),(1,(.oi a1)),(5,(.bptr l0_0 (b_N (getD a0 (toNat a1) (K_N.mk 0 0 []))))),(6,(.oi (wrap .i64 (i+1))))],[]⟩ .normal 58 (by kernel_rfl) (P1 (.f (nt h_1) (.f (nt h_1) (.f (nt h_1) (.f (nt h_1) (.f (nt h_1) (.f (nt h_1) (.f (nt h_1) (.f (nt h_1) (.f (nt h_1) (.f (nt h_1) (.f (nt h_1) (.f trivial (.h 29 (.b false) (.h 31 (.b false) (.h 33 (.b false) (.h 35 (.b false) (.h 37 (.b false) (.h 39 (.b false) (.h 41 (.b false) (.h 43 (.b false) (.h 45 (.b false) (.h 47 (.b false) (.h 50 (.b false) .nil))))))))))))))))))))))))
      have ih:=t96_0 (l0_0:=l0_0) (a0:=a0) (a1:=a1) hy0 hy1 hy2 hy3 n (i+1) (by omega) (by omega) (by omega)
      rw[show (⟨[(0,(.one (.bor l0_0 (map b_N a0)))),(1,(.oi a1)),(5,(.bptr l0_0 (b_N (getD a0 (toNat a1) (K_N.mk 0 0 []))))),(6,(.oi (wrap .i64 (i+1))))],[]⟩:St)=h96_0 l0_0 a0 a1 (i+1)  from(by unfold h96_0; simp only[hw]; done)] at st
      exact .loopN st ih
/-! loop.example/g00539/spec.l3In -/
def m96 (a0:(List K_N)) (a1:Int):Int:=
  if(!(m36 ((getD a0 (toNat a1) (K_N.mk 0 0 [])).f0) 0 2147483646))=true then 3 else
  if(!(m36 ((getD a0 (toNat a1) (K_N.mk 0 0 [])).f1) 0 3))=true then 3 else
    if(decide (((length (map b_i ((getD a0 (toNat a1) (K_N.mk 0 0 [])).f2))):Int) > 8))=true then 2 else
      if(!(m123 ((getD a0 (toNat a1) (K_N.mk 0 0 [])).f2) 0 9999))=true then 3 else
        (match r96_0 a0 a1 (toNat a1) 0 with | .k0 w0_14 w1_14=>0 | .k1=>6)
theorem e96 {l0_0:Nat} {a0:(List K_N)} {a1:Int} (hy0:length a0*40≤140737488351232) (hy1:∀z∈a0,ok_N z) (hy2:0≤a1) (hy3:a1 <(length a0:Int)):Ev F X (.call 96 [(.one (.bor l0_0 (map b_N a0))),(.one (.val (.int .i64 a1)))] [] [] [(.one (.val (.int .i64 (m96 a0 a1))))]):=by
  unfold m96
  have f0:0≤a1:=‹_›
  have P0 {hs q} (r:PS F X hs q):=(PS.f f0 (.f (mp_ b_N (getD_at a0 (toNat a1) (K_N.mk 0 0 []) yc)) (.h 7 (.row (b_N (getD a0 (toNat a1) (K_N.mk 0 0 [])))) (.r 19 [] [] (e36 (a0:=((getD a0 (toNat a1) (K_N.mk 0 0 [])).f0)) (a1:=0) (a2:=2147483646)) r))))
  by_cases h0:(!(m36 ((getD a0 (toNat a1) (K_N.mk 0 0 [])).f0) 0 2147483646))=true
  · try simp only[if_pos h0]
    exact cp ya (P0 (.f h0 (.f h0 (.f h0 (.f h0 (.f h0 (.f h0 (.f h0 (.h 24 (.b true) (.h 26 (.b true) (.h 28 (.b true) (.h 30 (.b true) (.h 32 (.b true) (.h 34 (.b true) (.h 37 (.b true) .nil)))))))))))))))
  · try simp only[if_neg h0]
    have P1 {hs q} (r:PS F X hs q):=(P0 (.f (nt h0) (.f (nt h0) (.f (nt h0) (.f (nt h0) (.f (nt h0) (.h 24 (.b false) (.h 26 (.b false) (.h 28 (.b false) (.h 30 (.b false) (.h 32 (.b false) (.r 33 [] [] (e36 (a0:=((getD a0 (toNat a1) (K_N.mk 0 0 [])).f1)) (a1:=0) (a2:=3)) (.f (nt h0) (.f (nt h0) (.h 34 (.b false) (.h 37 (.b false) r))))))))))))))))
    by_cases h1:(!(m36 ((getD a0 (toNat a1) (K_N.mk 0 0 [])).f1) 0 3))=true
    · try simp only[if_pos h1]
      exact cp ya (P1 (.f h1 (.h 38 (.b true) .nil)))
    · try simp only[if_neg h1]
      have P2 {hs q} (r:PS F X hs q):=(P1 (.f (nt h1) (.h 38 (.b false) r)))
      by_cases h2:(decide (((length (map b_i ((getD a0 (toNat a1) (K_N.mk 0 0 [])).f2))):Int) > 8))=true
      · try simp only[if_pos h2]
        exact cp ya (P2 (.f h2 (.h 51 (.b true) .nil)))
      · try simp only[if_neg h2]
        have P3 {hs q} (r:PS F X hs q):=(P2 (.f (nt h2) (.h 51 (.b false) (.r 61 [] [] (e123 (l0_0:=(l0_0+1)) (a0:=((getD a0 (toNat a1) (K_N.mk 0 0 [])).f2)) (a1:=0) (a2:=9999) (by have q:=gos_N (l:=a0) (by first | assumption |(intro z hz; exact(by assumption:∀z∈_,os_N z) z (List.mem_of_mem_take hz))) (toNat a1) (K_N.mk 0 0 []) (by simp[os_N,ByteArray.size]); first | exact q | exact q.1 | exact q.2 | exact q.2.1 | exact q.2.2 | exact Nat.le_trans q yG | exact Nat.le_trans q.1 yG |(have q1:=q.1; simp only[length_map]; omega))) r))))
        by_cases h3:(!(m123 ((getD a0 (toNat a1) (K_N.mk 0 0 [])).f2) 0 9999))=true
        · try simp only[if_pos h3]
          exact cp ya (P3 (.f h3 (.h 64 (.b true) .nil)))
        · try simp only[if_neg h3]
          cases h4:r96_0 a0 a1 (toNat a1) 0 with
          |k0 w0_14 w1_14=>
            try dsimp only
            have f15:(⟨[(0,(.one (.bor l0_0 (map b_N a0)))),(1,(.oi a1)),(5,(.bptr l0_0 (b_N (getD a0 (toNat a1) (K_N.mk 0 0 []))))),(6,(.oi 0))],[]⟩:St)=h96_0 l0_0 a0 a1 0 :=yf
            exact cp ya (P3 (.f (nt h3) (.f f15 (.f (ev_ (e:=ex96_0) (g:=(fin96_0 l0_0 a0 a1)) h4 (t96_0 (l0_0:=l0_0) (a0:=a0) (a1:=a1) (by assumption) (by assumption) (by assumption) (by assumption) _ 0 yc yc yc)) (.h 64 (.b false) (.h 67 (.loop (h96_0 l0_0 a0 a1 0) (.exit 0) ⟨[(0,(.one (.bor l0_0 (map b_N a0)))),(1,(.oi a1)),(5,(.bptr l0_0 (b_N (getD a0 (toNat a1) (K_N.mk 0 0 []))))),(6,(.oi w0_14)),(38,(.one (.val (.bool w1_14))))],[]⟩) .nil))))))
          |k1=>
            try dsimp only
            have f15:(⟨[(0,(.one (.bor l0_0 (map b_N a0)))),(1,(.oi a1)),(5,(.bptr l0_0 (b_N (getD a0 (toNat a1) (K_N.mk 0 0 []))))),(6,(.oi 0))],[]⟩:St)=h96_0 l0_0 a0 a1 0 :=yf
            exact cp ya (P3 (.f (nt h3) (.f f15 (.f (ev_ (e:=ex96_0) (g:=(fin96_0 l0_0 a0 a1)) h4 (t96_0 (l0_0:=l0_0) (a0:=a0) (a1:=a1) (by assumption) (by assumption) (by assumption) (by assumption) _ 0 yc yc yc)) (.h 64 (.b false) (.h 67 (.loop (h96_0 l0_0 a0 a1 0) .ret ⟨[(4,(.oi 6))],[]⟩) .nil))))))
theorem inl96 {a:List K_N} {i:Int} (h:m96 a i=0):length (getD a (toNat i) (K_N.mk 0 0 [])).f2≤8:=by
  by_cases c:(decide (((length (map b_i ((getD a (toNat i) (K_N.mk 0 0 [])).f2))):Int) > 8))=true
  · unfold m96 at h
    simp only[if_pos c] at h
    (repeat' split at h)<;>exact absurd h yG
  · simp only[decide_eq_true_eq,length_map] at c; omega
theorem e124 {a0:Int}:Ev F X (.call 124 [(.one (.val (.int .i64 a0)))] [] [] [(.one (.val (.bool (m36 a0 0 1000000))))]):=by
  exact cp ya (.r 5 [] [] (e36 (a0:=a0) (a1:=0) (a2:=1000000)) .nil)
/-! loop.example/g00539/spec.l2Op -/
def m150 (a0:Int):Bool:=
  if(m36 a0 1 9)=true then true else
  (m36 a0 100 1099)
theorem e150 {a0:Int}:Ev F X (.call 150 [(.one (.val (.int .i64 a0)))] [] [] [(.one (.val (.bool (m150 a0))))]):=by
  unfold m150
  by_cases h0:(m36 a0 1 9)=true
  · try simp only[if_pos h0]
    exact cp ya (.r 5 [] [] (e36 (a0:=a0) (a1:=1) (a2:=9)) (.f h0 (.f h0 (.f h0 (.h 8 (.b true) (.h 10 (.b true) (.h 13 (.b true) .nil)))))))
  · try simp only[if_neg h0]
    exact cp ya (.r 5 [] [] (e36 (a0:=a0) (a1:=1) (a2:=9)) (.f (nt h0) (.f (nt h0) (.h 8 (.b false) (.h 10 (.b false) (.r 11 [] [] (e36 (a0:=a0) (a1:=100) (a2:=1099)) (.f (nt h0) (.h 13 (.b false) .nil))))))))
/-! loop 125_0 -/
inductive O125_0 where
  |k0 (w0:Int) (w1:Bool)
  |k1
def r125_0 (a0:(List Int)):List Int→Int→O125_0
  |x0::y0,i=>
    if(!(m150 x0))=true then(O125_0.k1) else
    (r125_0 a0 y0 (i+1))
  |[],i=>(O125_0.k0 i (decide (i <((length (map b_i a0)):Int))))
def h125_0 (l0_0:Nat) (a0:(List Int)) (i:Int) :St:=⟨[(0,(.one (.bor l0_0 (map b_i a0)))),(3,(.one (.val (.int .i64 i))))],[]⟩
def ex125_0:O125_0→VX.Exit
  |.k0 _ _=>(.exit 0)
  |.k1=>.ret
def fin125_0 (l0_0:Nat) (a0:(List Int)):O125_0→St
  |.k0 w0 w1=>⟨[(0,(.one (.bor l0_0 (map b_i a0)))),(3,(.one (.val (.int .i64 w0)))),(10,(.one (.val (.bool w1))))],[]⟩
  |.k1=>⟨[(2,(.one (.val (.int .i64 1))))],[]⟩
theorem t125_0 {l0_0:Nat} {a0:(List Int)} (hy0:length a0*8≤140737488351232):∀(y0:List Int) (p:List Int),p++y0=a0→Ev F X (.code l125_0 (h125_0 l0_0 a0 (length p:Int)) (ex125_0 (r125_0 a0 y0 (length p:Int))) (fin125_0 l0_0 a0 (r125_0 a0 y0 (length p:Int))))
  |[],p,hp0=>by
    have hc:¬(decide ((length p:Int) <((length (map b_i a0)):Int)))=true:=by
      rw[← hp0]; simp only[LN,decide_eq_true_eq]; omega
    have st:=ch b125_0 (h125_0 l0_0 a0 (length p:Int)) ⟨[(0,(.one (.bor l0_0 (map b_i a0)))),(3,(.oi (length p:Int))),(10,(.one (.val (.bool (decide ((length p:Int) <((length (map b_i a0)):Int)))))))],[]⟩ (.exit 0) 9 (by kernel_rfl) (.f (nt hc) (.h 8 (.b false) .nil))
    rw[show (⟨[(0,(.one (.bor l0_0 (map b_i a0)))),(3,(.oi (length p:Int))),(10,(.one (.val (.bool (decide ((length p:Int) <((length (map b_i a0)):Int)))))))],[]⟩:St)=fin125_0 l0_0 a0 (.k0 (length p:Int) (decide ((length p:Int) <((length (map b_i a0)):Int)))) from(by rfl)] at st
    exact .loopX st (show ((.exit 0):VX.Exit)≠.normal from by simp)
  |x0::y0,p,hp0=>by
    have hc:(decide ((length p:Int) <((length (map b_i a0)):Int)))=true:=by
      rw[← hp0]; simp only[LN,decide_eq_true_eq]; omega
    have Hx0:(a0)[toNat (length p:Int)]?=some x0:=by
      rw[← hp0,Int.toNat_natCast]; simp
    have hlen:length (a0)=length p+length y0+1:=by rw[← hp0]; simp; omega
    have hw:wrap .i64 ((length p:Int)+1)=(length p:Int)+1:=wrap64 (by omega)
    simp only[r125_0]
    have f1:0≤(length p:Int):=(by omega)
    have P1 {hs q} (r:PS F X hs q):=(PS.f hc (.f f1 (.f (mp_ b_i Hx0) (.h 8 (.b true) (.h 14 (.row [(.i x0)]) (.r 18 [] [] (e150 (a0:=x0)) r))))))
    by_cases h_1:(!(m150 x0))=true
    · try simp only[if_pos h_1]
      have st:=ch b125_0 (h125_0 l0_0 a0 (length p:Int)) ⟨[(2,(.oi 1))],[]⟩ .ret 24 (by kernel_rfl) (P1 (.f h_1 (.h 21 (.b true) .nil)))
      rw[show (⟨[(2,(.oi 1))],[]⟩:St)=fin125_0 l0_0 a0 (.k1) from(by rfl)] at st
      exact .loopX st (show (.ret:VX.Exit)≠.normal from by simp)
    · try simp only[if_neg h_1]
      have st:=ch b125_0 (h125_0 l0_0 a0 (length p:Int)) ⟨[(0,(.one (.bor l0_0 (map b_i a0)))),(3,(.oi (wrap .i64 ((length p:Int)+1))))],[]⟩ .normal 28 (by kernel_rfl) (P1 (.f (nt h_1) (.f trivial (.h 21 (.b false) .nil))))
      have ih:=t125_0 (l0_0:=l0_0) (a0:=a0) hy0 y0 (p++ [x0]) (by rw[append_assoc]; exact hp0)
      rw[show ((p++ [x0]).length:Int)=(p.length:Int)+1 from by simp] at ih
      rw[show (⟨[(0,(.one (.bor l0_0 (map b_i a0)))),(3,(.oi (wrap .i64 ((length p:Int)+1))))],[]⟩:St)=h125_0 l0_0 a0 ((length p:Int)+1)  from(by unfold h125_0; simp only[hw]; done)] at st
      exact .loopN st ih
/-! loop.example/g00539/spec.l2Fault -/
def m125 (a0:(List Int)):Int:=
  if(decide (((length (map b_i a0)):Int) > 12))=true then 2 else
  (match r125_0 a0 a0 0 with | .k0 w0_1 w1_1=>0 | .k1=>1)
theorem e125 {l0_0:Nat} {a0:(List Int)} (hy0:length a0*8≤140737488351232):Ev F X (.call 125 [(.one (.bor l0_0 (map b_i a0)))] [] [] [(.one (.val (.int .i64 (m125 a0))))]):=by
  unfold m125
  by_cases h0:(decide (((length (map b_i a0)):Int) > 12))=true
  · try simp only[if_pos h0]
    exact cp ya (.f h0 (.h 8 (.b true) .nil))
  · try simp only[if_neg h0]
    cases h1:r125_0 a0 a0 0 with
    |k0 w0_1 w1_1=>
      try dsimp only
      have f1:(⟨[(0,(.one (.bor l0_0 (map b_i a0)))),(3,(.oi 0))],[]⟩:St)=h125_0 l0_0 a0 0 :=yf
      exact cp ya (.f (nt h0) (.f f1 (.f (ev_ (e:=ex125_0) (g:=(fin125_0 l0_0 a0)) h1 (t125_0 (l0_0:=l0_0) (a0:=a0) (by assumption) a0 []  rfl)) (.h 8 (.b false) (.h 11 (.loop (h125_0 l0_0 a0 0) (.exit 0) ⟨[(0,(.one (.bor l0_0 (map b_i a0)))),(3,(.oi w0_1)),(10,(.one (.val (.bool w1_1))))],[]⟩) .nil)))))
    |k1=>
      try dsimp only
      have f1:(⟨[(0,(.one (.bor l0_0 (map b_i a0)))),(3,(.oi 0))],[]⟩:St)=h125_0 l0_0 a0 0 :=yf
      exact cp ya (.f (nt h0) (.f f1 (.f (ev_ (e:=ex125_0) (g:=(fin125_0 l0_0 a0)) h1 (t125_0 (l0_0:=l0_0) (a0:=a0) (by assumption) a0 []  rfl)) (.h 8 (.b false) (.h 11 (.loop (h125_0 l0_0 a0 0) .ret ⟨[(2,(.oi 1))],[]⟩) .nil)))))
theorem lk125 {a:List Int} (h:m125 a=0):length a≤12:=by
  by_cases c:(decide (((length (map b_i a)):Int) > 12))=true
  · unfold m125 at h
    simp only[if_pos c] at h
    exact absurd h yG
  · simp only[decide_eq_true_eq,length_map] at c; omega
/-! loop 97_0 -/
inductive O97_0 where
  |k0 (w0:Int) (w1:Int) (w2:Bool)
  |k1
  |k2 (w0:Int)
def r97_0 (a0:(List K_U)):List K_U→Int→Int→O97_0
  |x0::y0,i,v0=>
    if(!(m36 x0.f0 0 1000000))=true then(O97_0.k1) else
    if((m125 x0.f1) !=0)=true then(O97_0.k2 (m125 x0.f1)) else
      (r97_0 a0 y0 (i+1) (wrap .i64 (v0+x0.f0)))
  |[],i,v0=>(O97_0.k0 v0 i (decide (i <((length (map b_U a0)):Int))))
def h97_0 (l0_0:Nat) (a0:(List K_U)) (i:Int) (v0:Int):St:=⟨[(0,(.one (.bor l0_0 (map b_U a0)))),(3,(.one (.val (.int .i64 v0)))),(4,(.one (.val (.int .i64 i))))],[]⟩
def ex97_0:O97_0→VX.Exit
  |.k0 _ _ _=>(.exit 0)
  |.k1=>.ret
  |.k2 _=>.ret
def fin97_0 (l0_0:Nat) (a0:(List K_U)):O97_0→St
  |.k0 w0 w1 w2=>⟨[(0,(.one (.bor l0_0 (map b_U a0)))),(3,(.one (.val (.int .i64 w0)))),(4,(.one (.val (.int .i64 w1)))),(9,(.one (.val (.bool w2))))],[]⟩
  |.k1=>⟨[(2,(.one (.val (.int .i64 3))))],[]⟩
  |.k2 w0=>⟨[(2,(.one (.val (.int .i64 w0))))],[]⟩
theorem t97_0 {l0_0:Nat} {a0:(List K_U)} (hy0:length a0*32≤140737488351232) (hy1:∀z∈a0,ok_U z):∀(y0:List K_U) (p:List K_U) (v0:Int),p++y0=a0→Ev F X (.code l97_0 (h97_0 l0_0 a0 (length p:Int) v0) (ex97_0 (r97_0 a0 y0 (length p:Int) v0)) (fin97_0 l0_0 a0 (r97_0 a0 y0 (length p:Int) v0)))
  |[],p,v0,hp0=>by
    have hc:¬(decide ((length p:Int) <((length (map b_U a0)):Int)))=true:=by
      rw[← hp0]; simp only[LN,decide_eq_true_eq]; omega
    have st:=ch b97_0 (h97_0 l0_0 a0 (length p:Int) v0) ⟨[(0,(.one (.bor l0_0 (map b_U a0)))),(3,(.oi v0)),(4,(.oi (length p:Int))),(9,(.one (.val (.bool (decide ((length p:Int) <((length (map b_U a0)):Int)))))))],[]⟩ (.exit 0) 9 (by kernel_rfl) (.f (nt hc) (.h 8 (.b false) .nil))
    rw[show (⟨[(0,(.one (.bor l0_0 (map b_U a0)))),(3,(.oi v0)),(4,(.oi (length p:Int))),(9,(.one (.val (.bool (decide ((length p:Int) <((length (map b_U a0)):Int)))))))],[]⟩:St)=fin97_0 l0_0 a0 (.k0 v0 (length p:Int) (decide ((length p:Int) <((length (map b_U a0)):Int)))) from(by rfl)] at st
    exact .loopX st (show ((.exit 0):VX.Exit)≠.normal from by simp)
  |x0::y0,p,v0,hp0=>by
    have hc:(decide ((length p:Int) <((length (map b_U a0)):Int)))=true:=by
      rw[← hp0]; simp only[LN,decide_eq_true_eq]; omega
    have Hx0:(a0)[toNat (length p:Int)]?=some x0:=by
      rw[← hp0,Int.toNat_natCast]; simp
    have Mx0_0:=hy1 x0 (List.mem_of_getElem? Hx0)
    have hlen:length (a0)=length p+length y0+1:=by rw[← hp0]; simp; omega
    have hw:wrap .i64 ((length p:Int)+1)=(length p:Int)+1:=wrap64 (by omega)
    simp only[r97_0]
    have f1:0≤(length p:Int):=(by omega)
    have P1 {hs q} (r:PS F X hs q):=(PS.f hc (.f f1 (.f (mp_ b_U Hx0) (.h 8 (.b true) (.h 14 (.row (b_U x0)) (.r 20 [] [] (e124 (a0:=x0.f0)) r))))))
    by_cases h_1:(!(m36 x0.f0 0 1000000))=true
    · try simp only[if_pos h_1]
      have st:=ch b97_0 (h97_0 l0_0 a0 (length p:Int) v0) ⟨[(2,(.oi 3))],[]⟩ .ret 26 (by kernel_rfl) (P1 (.f h_1 (.h 23 (.b true) .nil)))
      rw[show (⟨[(2,(.oi 3))],[]⟩:St)=fin97_0 l0_0 a0 (.k1) from(by rfl)] at st
      exact .loopX st (show (.ret:VX.Exit)≠.normal from by simp)
    · try simp only[if_neg h_1]
      have P2 {hs q} (r:PS F X hs q):=(P1 (.f (nt h_1) (.f f1 (.f (mp_ b_U Hx0) (.h 23 (.b false) (.h 29 (.row (b_U x0)) (.r 35 [] [] (e125 (l0_0:=(l0_0+1)) (a0:=x0.f1) (by assumption)) r)))))))
      by_cases h_2:((m125 x0.f1) !=0)=true
      · try simp only[if_pos h_2]
        have st:=ch b97_0 (h97_0 l0_0 a0 (length p:Int) v0) ⟨[(2,(.oi (m125 x0.f1)))],[]⟩ .ret 47 (by kernel_rfl) (P2 (.f h_2 (.h 42 (.b true) .nil)))
        rw[show (⟨[(2,(.oi (m125 x0.f1)))],[]⟩:St)=fin97_0 l0_0 a0 (.k2 (m125 x0.f1)) from(by rfl)] at st
        exact .loopX st (show (.ret:VX.Exit)≠.normal from by simp)
      · try simp only[if_neg h_2]
        have st:=ch b97_0 (h97_0 l0_0 a0 (length p:Int) v0) ⟨[(0,(.one (.bor l0_0 (map b_U a0)))),(3,(.oi (wrap .i64 (v0+x0.f0)))),(4,(.oi (wrap .i64 ((length p:Int)+1))))],[]⟩ .normal 65 (by kernel_rfl) (P2 (.f (nt h_2) (.f f1 (.f (mp_ b_U Hx0) (.f trivial (.f trivial (.h 42 (.b false) (.h 50 (.row (b_U x0)) .nil))))))))
        have ih:=t97_0 (l0_0:=l0_0) (a0:=a0) hy0 hy1 y0 (p++ [x0]) (wrap .i64 (v0+x0.f0)) (by rw[append_assoc]; exact hp0)
        rw[show ((p++ [x0]).length:Int)=(p.length:Int)+1 from by simp] at ih
        rw[show (⟨[(0,(.one (.bor l0_0 (map b_U a0)))),(3,(.oi (wrap .i64 (v0+x0.f0)))),(4,(.oi (wrap .i64 ((length p:Int)+1))))],[]⟩:St)=h97_0 l0_0 a0 ((length p:Int)+1) (wrap .i64 (v0+x0.f0)) from(by unfold h97_0; simp only[hw]; done)] at st
        exact .loopN st ih
theorem lo97 {a:List K_U}:∀ {l:List K_U} {i v w:Int} {j b},r97_0 a l i v=.k0 w j b→∀x∈l,m125 x.f1=0
  |[],i,v,w,j,b,h,x,hx=>by cases hx
  |y::l,i,v,w,j,b,h,x,hx=>by
    simp only[r97_0] at h
    split at h
    · cases h
    · split at h
      · cases h
      · rename_i h1
        rcases List.mem_cons.1 hx with rfl | hx
        · simpa using h1
        · exact lo97 h x hx
theorem ne97 {a:List K_U}:∀(l:List K_U) (i v:Int),r97_0 a l i v≠.k2 0
  |[],i,v=>by simp only[r97_0]; intro h; cases h
  |y::l,i,v=>by
    simp only[r97_0]
    split
    · intro q; cases q
    · split
      · rename_i h; intro q; injection q with q; rw[q] at h; exact absurd h yG
      · exact ne97 l _ _
/-! loop.example/g00539/spec.l3Outs -/
def m97 (a0:(List K_U)):Int:=
  (match r97_0 a0 a0 0 0 with | .k0 w0_0 w1_0 w2_0=>(if(!(m36 w0_0 0 1000000))=true then 7 else 0) | .k1=>3 | .k2 w0_0=>w0_0)
theorem e97 {l0_0:Nat} {a0:(List K_U)} (hy0:length a0*32≤140737488351232) (hy1:∀z∈a0,ok_U z):Ev F X (.call 97 [(.one (.bor l0_0 (map b_U a0)))] [] [] [(.one (.val (.int .i64 (m97 a0))))]):=by
  unfold m97
  cases h0:r97_0 a0 a0 0 0 with
  |k0 w0_0 w1_0 w2_0=>
    try dsimp only
    have f0:(⟨[(0,(.one (.bor l0_0 (map b_U a0)))),(3,(.oi 0)),(4,(.oi 0))],[]⟩:St)=h97_0 l0_0 a0 0 0:=yf
    have P1 {hs q} (r:PS F X hs q):=(PS.f f0 (.f (ev_ (e:=ex97_0) (g:=(fin97_0 l0_0 a0)) h0 (t97_0 (l0_0:=l0_0) (a0:=a0) (by assumption) (by assumption) a0 [] 0 rfl)) (.h 6 (.loop (h97_0 l0_0 a0 0 0) (.exit 0) ⟨[(0,(.one (.bor l0_0 (map b_U a0)))),(3,(.oi w0_0)),(4,(.oi w1_0)),(9,(.one (.val (.bool w2_0))))],[]⟩) (.r 10 [] [] (e124 (a0:=w0_0)) r))))
    by_cases h1:(!(m36 w0_0 0 1000000))=true
    · try simp only[if_pos h1]
      exact cp ya (P1 (.f h1 (.h 13 (.b true) .nil)))
    · try simp only[if_neg h1]
      exact cp ya (P1 (.f (nt h1) (.h 13 (.b false) .nil)))
  |k1=>
    try dsimp only
    have f0:(⟨[(0,(.one (.bor l0_0 (map b_U a0)))),(3,(.oi 0)),(4,(.oi 0))],[]⟩:St)=h97_0 l0_0 a0 0 0:=yf
    exact cp ya (.f f0 (.f (ev_ (e:=ex97_0) (g:=(fin97_0 l0_0 a0)) h0 (t97_0 (l0_0:=l0_0) (a0:=a0) (by assumption) (by assumption) a0 [] 0 rfl)) (.h 6 (.loop (h97_0 l0_0 a0 0 0) .ret ⟨[(2,(.oi 3))],[]⟩) .nil)))
  |k2 w0_0=>
    try dsimp only
    have f0:(⟨[(0,(.one (.bor l0_0 (map b_U a0)))),(3,(.oi 0)),(4,(.oi 0))],[]⟩:St)=h97_0 l0_0 a0 0 0:=yf
    exact cp ya (.f f0 (.f (ev_ (e:=ex97_0) (g:=(fin97_0 l0_0 a0)) h0 (t97_0 (l0_0:=l0_0) (a0:=a0) (by assumption) (by assumption) a0 [] 0 rfl)) (.h 6 (.loop (h97_0 l0_0 a0 0 0) .ret ⟨[(2,(.oi w0_0))],[]⟩) .nil)))
/-! loop 67_0 -/
inductive O67_0 where
  |k0 (w0:Int) (w1:Bool)
  |k1 (w0:Int)
def r67_0 (a0:K_T):List K_N→Int→O67_0
  |x0::y0,i=>
    if((m96 a0.f1 i) !=0)=true then(O67_0.k1 (m96 a0.f1 i)) else
    (r67_0 a0 y0 (i+1))
  |[],i=>(O67_0.k0 i (decide (i <((length (map b_N a0.f1)):Int))))
def h67_0 (l0:Nat) (a0:K_T) (i:Int) :St:=⟨[(0,(.bptr l0 (b_T a0))),(3,(.one (.val (.int .i64 i))))],[]⟩
def ex67_0:O67_0→VX.Exit
  |.k0 _ _=>(.exit 0)
  |.k1 _=>.ret
def fin67_0 (l0:Nat) (a0:K_T):O67_0→St
  |.k0 w0 w1=>⟨[(0,(.bptr l0 (b_T a0))),(3,(.one (.val (.int .i64 w0)))),(39,(.one (.val (.bool w1))))],[]⟩
  |.k1 w0=>⟨[(2,(.one (.val (.int .i64 w0))))],[]⟩
theorem t67_0 {l0:Nat} {a0:K_T} (hy0:length a0.f1*40≤140737488351232) (hy1:∀z∈a0.f1,ok_N z) (hy2:length a0.f2*32≤140737488351232) (hy3:∀z∈a0.f2,ok_U z):∀(y0:List K_N) (p:List K_N),p++y0=a0.f1→Ev F X (.code l67_0 (h67_0 l0 a0 (length p:Int)) (ex67_0 (r67_0 a0 y0 (length p:Int))) (fin67_0 l0 a0 (r67_0 a0 y0 (length p:Int))))
  |[],p,hp0=>by
    have hc:¬(decide ((length p:Int) <((length (map b_N a0.f1)):Int)))=true:=by
      rw[← hp0]; simp only[LN,decide_eq_true_eq]; omega
    have st:=ch b67_0 (h67_0 l0 a0 (length p:Int)) ⟨[(0,(.bptr l0 (b_T a0))),(3,(.oi (length p:Int))),(39,(.one (.val (.bool (decide ((length p:Int) <((length (map b_N a0.f1)):Int)))))))],[]⟩ (.exit 0) 15 (by kernel_rfl) (.f (nt hc) (.h 14 (.b false) .nil))
    rw[show (⟨[(0,(.bptr l0 (b_T a0))),(3,(.oi (length p:Int))),(39,(.one (.val (.bool (decide ((length p:Int) <((length (map b_N a0.f1)):Int)))))))],[]⟩:St)=fin67_0 l0 a0 (.k0 (length p:Int) (decide ((length p:Int) <((length (map b_N a0.f1)):Int)))) from(by rfl)] at st
    exact .loopX st (show ((.exit 0):VX.Exit)≠.normal from by simp)
  |x0::y0,p,hp0=>by
    have hc:(decide ((length p:Int) <((length (map b_N a0.f1)):Int)))=true:=by
      rw[← hp0]; simp only[LN,decide_eq_true_eq]; omega
    have Hx0:(a0.f1)[toNat (length p:Int)]?=some x0:=by
      rw[← hp0,Int.toNat_natCast]; simp
    have Mx0_0:=hy1 x0 (List.mem_of_getElem? Hx0)
    have hlen:length (a0.f1)=length p+length y0+1:=by rw[← hp0]; simp; omega
    have hw:wrap .i64 ((length p:Int)+1)=(length p:Int)+1:=wrap64 (by omega)
    simp only[r67_0]
    have P1 {hs q} (r:PS F X hs q):=(PS.f hc (.h 14 (.b true) (.r 26 [] [] (e96 (l0_0:=(l0+1)) (a0:=a0.f1) (a1:=(length p:Int)) ‹_› ‹_› (by omega) (by omega)) r)))
    by_cases h_1:((m96 a0.f1 (length p:Int)) !=0)=true
    · try simp only[if_pos h_1]
      have st:=ch b67_0 (h67_0 l0 a0 (length p:Int)) ⟨[(2,(.oi (m96 a0.f1 (length p:Int))))],[]⟩ .ret 38 (by kernel_rfl) (P1 (.f h_1 (.h 33 (.b true) .nil)))
      rw[show (⟨[(2,(.oi (m96 a0.f1 (length p:Int))))],[]⟩:St)=fin67_0 l0 a0 (.k1 (m96 a0.f1 (length p:Int))) from(by rfl)] at st
      exact .loopX st (show (.ret:VX.Exit)≠.normal from by simp)
    · try simp only[if_neg h_1]
      have st:=ch b67_0 (h67_0 l0 a0 (length p:Int)) ⟨[(0,(.bptr l0 (b_T a0))),(3,(.oi (wrap .i64 ((length p:Int)+1))))],[]⟩ .normal 40 (by kernel_rfl) (P1 (.f (nt h_1) (.f trivial (.h 33 (.b false) .nil))))
      have ih:=t67_0 (l0:=l0) (a0:=a0) hy0 hy1 hy2 hy3 y0 (p++ [x0]) (by rw[append_assoc]; exact hp0)
      rw[show ((p++ [x0]).length:Int)=(p.length:Int)+1 from by simp] at ih
      rw[show (⟨[(0,(.bptr l0 (b_T a0))),(3,(.oi (wrap .i64 ((length p:Int)+1))))],[]⟩:St)=h67_0 l0 a0 ((length p:Int)+1)  from(by unfold h67_0; simp only[hw]; done)] at st
      exact .loopN st ih
theorem lf67 {a:K_T}:∀ {l:List K_N} {i:Int} {j b},r67_0 a l i=.k0 j b→∀k:Nat,k < l.length→m96 a.f1 (i+(k:Int))=0
  |[],i,j,b,h,k,hk=>by simp at hk
  |y::l,i,j,b,h,k,hk=>by
    simp only[r67_0] at h
    split at h
    · cases h
    · rename_i h1
      cases k with
      |zero=>simpa using h1
      |succ k=>
        have q:=lf67 h k (by simpa using hk)
        rw[← q]; congr 1; omega
theorem ne67 {a:K_T}:∀(l:List K_N) (i:Int),r67_0 a l i≠.k1 0
  |[],i=>by simp only[r67_0]; intro h; cases h
  |y::l,i=>by
    simp only[r67_0]
    split
    · rename_i h; intro q; injection q with q; rw[q] at h; exact absurd h yG
    · exact ne67 l _
/-! loop.example/g00539/spec.l3Fault -/
def m67 (a0:K_T):Int:=
  if(!(m36 a0.f0 0 65535))=true then 3 else
  if(decide (((length (map b_N a0.f1)):Int) > 4))=true then 2 else
    if(decide (((length (map b_U a0.f2)):Int) < 1))=true then 2 else
      if(decide (((length (map b_U a0.f2)):Int) > 4))=true then 2 else
        (match r67_0 a0 a0.f1 0 with | .k0 w0_17 w1_17=>(m97 a0.f2) | .k1 w0_17=>w0_17)
theorem e67 {l0:Nat} {a0:K_T} (hy0:length a0.f1*40≤140737488351232) (hy1:∀z∈a0.f1,ok_N z) (hy2:length a0.f2*32≤140737488351232) (hy3:∀z∈a0.f2,ok_U z):Ev F X (.call 67 [(.bptr l0 (b_T a0))] [] [] [(.one (.val (.int .i64 (m67 a0))))]):=by
  unfold m67
  have P0 {hs q} (r:PS F X hs q):=(PS.r 11 [] [] (e36 (a0:=a0.f0) (a1:=0) (a2:=65535)) r)
  by_cases h0:(!(m36 a0.f0 0 65535))=true
  · try simp only[if_pos h0]
    exact cp ya (P0 (.f h0 (.h 14 (.b true) .nil)))
  · try simp only[if_neg h0]
    have P1 {hs q} (r:PS F X hs q):=(P0 (.f (nt h0) (.h 14 (.b false) r)))
    by_cases h1:(decide (((length (map b_N a0.f1)):Int) > 4))=true
    · try simp only[if_pos h1]
      exact cp ya (P1 (.f h1 (.f h1 (.f h1 (.f h1 (.f h1 (.f h1 (.f h1 (.h 29 (.b true) (.h 31 (.b true) (.h 33 (.b true) (.h 35 (.b true) (.h 37 (.b true) (.h 39 (.b true) (.h 42 (.b true) .nil)))))))))))))))
    · try simp only[if_neg h1]
      have P2 {hs q} (r:PS F X hs q):=(P1 (.f (nt h1) (.f (nt h1) (.f (nt h1) (.f (nt h1) (.f (nt h1) (.f (nt h1) (.f (nt h1) (.h 29 (.b false) (.h 31 (.b false) (.h 33 (.b false) (.h 35 (.b false) (.h 37 (.b false) (.h 39 (.b false) (.h 42 (.b false) r)))))))))))))))
      by_cases h2:(decide (((length (map b_U a0.f2)):Int) < 1))=true
      · try simp only[if_pos h2]
        exact cp ya (P2 (.f h2 (.f h2 (.f h2 (.f h2 (.f h2 (.f h2 (.f h2 (.h 45 (.b true) (.h 47 (.b true) (.h 49 (.b true) (.h 51 (.b true) (.h 53 (.b true) (.h 55 (.b true) (.h 58 (.b true) .nil)))))))))))))))
      · try simp only[if_neg h2]
        have P3 {hs q} (r:PS F X hs q):=(P2 (.f (nt h2) (.f (nt h2) (.f (nt h2) (.f (nt h2) (.f (nt h2) (.f (nt h2) (.f (nt h2) (.h 45 (.b false) (.h 47 (.b false) (.h 49 (.b false) (.h 51 (.b false) (.h 53 (.b false) (.h 55 (.b false) (.h 58 (.b false) r)))))))))))))))
        by_cases h3:(decide (((length (map b_U a0.f2)):Int) > 4))=true
        · try simp only[if_pos h3]
          exact cp ya (P3 (.f h3 (.h 59 (.b true) .nil)))
        · try simp only[if_neg h3]
          cases h4:r67_0 a0 a0.f1 0 with
          |k0 w0_17 w1_17=>
            try dsimp only
            have f17:(⟨[(0,(.bptr l0 (b_T a0))),(3,(.oi 0))],[]⟩:St)=h67_0 l0 a0 0 :=yf
            exact cp ya (P3 (.f (nt h3) (.f f17 (.f (ev_ (e:=ex67_0) (g:=(fin67_0 l0 a0)) h4 (t67_0 (l0:=l0) (a0:=a0) (by assumption) (by assumption) (by assumption) (by assumption) a0.f1 []  rfl)) (.h 59 (.b false) (.h 62 (.loop (h67_0 l0 a0 0) (.exit 0) ⟨[(0,(.bptr l0 (b_T a0))),(3,(.oi w0_17)),(39,(.one (.val (.bool w1_17))))],[]⟩) (.r 72 [] [] (e97 (l0_0:=(l0+1)) (a0:=a0.f2) ‹_› ‹_›) .nil)))))))
          |k1 w0_17=>
            try dsimp only
            have f17:(⟨[(0,(.bptr l0 (b_T a0))),(3,(.oi 0))],[]⟩:St)=h67_0 l0 a0 0 :=yf
            exact cp ya (P3 (.f (nt h3) (.f f17 (.f (ev_ (e:=ex67_0) (g:=(fin67_0 l0 a0)) h4 (t67_0 (l0:=l0) (a0:=a0) (by assumption) (by assumption) (by assumption) (by assumption) a0.f1 []  rfl)) (.h 59 (.b false) (.h 62 (.loop (h67_0 l0 a0 0) .ret ⟨[(2,(.oi w0_17))],[]⟩) .nil))))))
theorem ft67 {a:K_T} (h:m67 a=0):SmT a:=by
  unfold m67 at h
  split at h
  · exact absurd h yG
  · split at h
    · exact absurd h yG
    · split at h
      · exact absurd h yG
      · split at h
        · exact absurd h yG
        · rename_i c1 c2 c3 c4
          simp only[decide_eq_true_eq,length_map] at c2 c4
          cases hr:r67_0 a a.f1 0 with
          |k1 w=>rw[hr] at h; simp only[] at h; subst h; exact absurd hr (ne67 _ _)
          |k0 j b=>
            rw[hr] at h; simp only[] at h
            refine⟨by omega,fun x hx=>?_,by omega,?_⟩
            · obtain⟨k,hk,e⟩:=List.getElem_of_mem hx
              have q:=inl96 (lf67 hr k hk)
              rw[show toNat (0+(k:Int))=k from by omega,getD,List.getElem?_eq_getElem hk,Option.getD_some,e] at q
              exact q
            · unfold m97 at h
              cases ho:r97_0 a.f2 a.f2 0 0 with
              |k0 w j b=>exact fun x hx=>lk125 (lo97 ho x hx)
              |k1=>rw[ho] at h; exact absurd h yG
              |k2 w=>rw[ho] at h; simp only[] at h; subst h; exact absurd ho (ne97 _ _ _)
/-! loop 68_0 -/
inductive O68_0 where
  |k0 (w0:Int) (w1:Bool)
  |k1
def r68_0 (a0:K_G):List K_T→Int→O68_0
  |x0::y0,i=>
    if(!((((length (map b_N x0.f1)):Int)==0)==(i==0)))=true then(O68_0.k1) else
    (r68_0 a0 y0 (i+1))
  |[],i=>(O68_0.k0 i (decide (i <((length (map b_T a0.f4)):Int))))
def h68_0 (l0:Nat) (a0:K_G) (i:Int) :St:=⟨[(0,(.bptr l0 (b_G a0))),(3,(.one (.val (.int .i64 i))))],[]⟩
def ex68_0:O68_0→VX.Exit
  |.k0 _ _=>(.exit 0)
  |.k1=>.ret
def fin68_0 (l0:Nat) (a0:K_G):O68_0→St
  |.k0 w0 w1=>⟨[(0,(.bptr l0 (b_G a0))),(3,(.one (.val (.int .i64 w0)))),(10,(.one (.val (.bool w1))))],[]⟩
  |.k1=>⟨[(2,(.one (.val (.bool false))))],[]⟩
theorem t68_0 {l0:Nat} {a0:K_G} (hy0:length a0.f4*56≤140737488351232) (hy1:∀z∈a0.f4,ok_T z):∀(y0:List K_T) (p:List K_T),p++y0=a0.f4→Ev F X (.code l68_0 (h68_0 l0 a0 (length p:Int)) (ex68_0 (r68_0 a0 y0 (length p:Int))) (fin68_0 l0 a0 (r68_0 a0 y0 (length p:Int))))
  |[],p,hp0=>by
    have hc:¬(decide ((length p:Int) <((length (map b_T a0.f4)):Int)))=true:=by
      rw[← hp0]; simp only[LN,decide_eq_true_eq]; omega
    have st:=ch b68_0 (h68_0 l0 a0 (length p:Int)) ⟨[(0,(.bptr l0 (b_G a0))),(3,(.oi (length p:Int))),(10,(.one (.val (.bool (decide ((length p:Int) <((length (map b_T a0.f4)):Int)))))))],[]⟩ (.exit 0) 15 (by kernel_rfl) (.f (nt hc) (.h 14 (.b false) .nil))
    rw[show (⟨[(0,(.bptr l0 (b_G a0))),(3,(.oi (length p:Int))),(10,(.one (.val (.bool (decide ((length p:Int) <((length (map b_T a0.f4)):Int)))))))],[]⟩:St)=fin68_0 l0 a0 (.k0 (length p:Int) (decide ((length p:Int) <((length (map b_T a0.f4)):Int)))) from(by rfl)] at st
    exact .loopX st (show ((.exit 0):VX.Exit)≠.normal from by simp)
  |x0::y0,p,hp0=>by
    have hc:(decide ((length p:Int) <((length (map b_T a0.f4)):Int)))=true:=by
      rw[← hp0]; simp only[LN,decide_eq_true_eq]; omega
    have Hx0:(a0.f4)[toNat (length p:Int)]?=some x0:=by
      rw[← hp0,Int.toNat_natCast]; simp
    obtain⟨Mx0_0,Mx0_1,Mx0_2,Mx0_3⟩:=hy1 x0 (List.mem_of_getElem? Hx0)
    have hlen:length (a0.f4)=length p+length y0+1:=by rw[← hp0]; simp; omega
    have hw:wrap .i64 ((length p:Int)+1)=(length p:Int)+1:=wrap64 (by omega)
    simp only[r68_0]
    have f1:0≤(length p:Int):=(by omega)
    have P1 {hs q} (r:PS F X hs q):=(PS.f hc (.f f1 (.f (mp_ b_T Hx0) (.h 14 (.b true) (.h 26 (.row (b_T x0)) r)))))
    by_cases h_1:(!((((length (map b_N x0.f1)):Int)==0)==((length p:Int)==0)))=true
    · try simp only[if_pos h_1]
      have st:=ch b68_0 (h68_0 l0 a0 (length p:Int)) ⟨[(2,(.one (.val (.bool false))))],[]⟩ .ret 44 (by kernel_rfl) (P1 (.f h_1 (.h 41 (.b true) .nil)))
      rw[show (⟨[(2,(.one (.val (.bool false))))],[]⟩:St)=fin68_0 l0 a0 (.k1) from(by rfl)] at st
      exact .loopX st (show (.ret:VX.Exit)≠.normal from by simp)
    · try simp only[if_neg h_1]
      have st:=ch b68_0 (h68_0 l0 a0 (length p:Int)) ⟨[(0,(.bptr l0 (b_G a0))),(3,(.oi (wrap .i64 ((length p:Int)+1))))],[]⟩ .normal 48 (by kernel_rfl) (P1 (.f (nt h_1) (.f trivial (.h 41 (.b false) .nil))))
      have ih:=t68_0 (l0:=l0) (a0:=a0) hy0 hy1 y0 (p++ [x0]) (by rw[append_assoc]; exact hp0)
      rw[show ((p++ [x0]).length:Int)=(p.length:Int)+1 from by simp] at ih
      rw[show (⟨[(0,(.bptr l0 (b_G a0))),(3,(.oi (wrap .i64 ((length p:Int)+1))))],[]⟩:St)=h68_0 l0 a0 ((length p:Int)+1)  from(by unfold h68_0; simp only[hw]; done)] at st
      exact .loopN st ih
/-! loop.example/g00539/spec.l6Bases -/
def m68 (a0:K_G):Bool:=
  (match r68_0 a0 a0.f4 0 with | .k0 w0_0 w1_0=>true | .k1=>false)
theorem e68 {l0:Nat} {a0:K_G} (hy0:length a0.f4*56≤140737488351232) (hy1:∀z∈a0.f4,ok_T z):Ev F X (.call 68 [(.bptr l0 (b_G a0))] [] [] [(.one (.val (.bool (m68 a0))))]):=by
  unfold m68
  cases h0:r68_0 a0 a0.f4 0 with
  |k0 w0_0 w1_0=>
    try dsimp only
    have f0:(⟨[(0,(.bptr l0 (b_G a0))),(3,(.oi 0))],[]⟩:St)=h68_0 l0 a0 0 :=yf
    exact cp ya (.f f0 (.f (ev_ (e:=ex68_0) (g:=(fin68_0 l0 a0)) h0 (t68_0 (l0:=l0) (a0:=a0) (by assumption) (by assumption) a0.f4 []  rfl)) (.h 4 (.loop (h68_0 l0 a0 0) (.exit 0) ⟨[(0,(.bptr l0 (b_G a0))),(3,(.oi w0_0)),(10,(.one (.val (.bool w1_0))))],[]⟩) .nil)))
  |k1=>
    try dsimp only
    have f0:(⟨[(0,(.bptr l0 (b_G a0))),(3,(.oi 0))],[]⟩:St)=h68_0 l0 a0 0 :=yf
    exact cp ya (.f f0 (.f (ev_ (e:=ex68_0) (g:=(fin68_0 l0 a0)) h0 (t68_0 (l0:=l0) (a0:=a0) (by assumption) (by assumption) a0.f4 []  rfl)) (.h 4 (.loop (h68_0 l0 a0 0) .ret ⟨[(2,(.one (.val (.bool false))))],[]⟩) .nil)))
/-! loop 128_0 -/
inductive O128_0 where
  |k0 (w0:Int) (w1:Int) (w2:Bool)
def r128_0 (a0:(List Int)):List Int→Int→Int→O128_0
  |x0::y0,i,v0=>
    (r128_0 a0 y0 (i+1) (Int.tmod (wrap .i64 ((wrap .i64 ((wrap .i64 (v0*33))+(wrap .i64 (x0))))+1)) 2147483647))
  |[],i,v0=>(O128_0.k0 v0 i (decide (i <((length (map b_y a0)):Int))))
def h128_0 (l0_0:Nat) (a0:(List Int)) (i:Int) (v0:Int):St:=⟨[(0,(.one (.bor l0_0 (map b_y a0)))),(3,(.one (.val (.int .i64 v0)))),(4,(.one (.val (.int .i64 i))))],[]⟩
def ex128_0:O128_0→VX.Exit
  |.k0 _ _ _=>(.exit 0)
def fin128_0 (l0_0:Nat) (a0:(List Int)):O128_0→St
  |.k0 w0 w1 w2=>⟨[(0,(.one (.bor l0_0 (map b_y a0)))),(3,(.one (.val (.int .i64 w0)))),(4,(.one (.val (.int .i64 w1)))),(8,(.one (.val (.bool w2))))],[]⟩
theorem t128_0 {l0_0:Nat} {a0:(List Int)} (hy0:length a0*1≤140737488351232):∀(y0:List Int) (p:List Int) (v0:Int),p++y0=a0→Ev F X (.code l128_0 (h128_0 l0_0 a0 (length p:Int) v0) (ex128_0 (r128_0 a0 y0 (length p:Int) v0)) (fin128_0 l0_0 a0 (r128_0 a0 y0 (length p:Int) v0)))
  |[],p,v0,hp0=>by
    have hc:¬(decide ((length p:Int) <((length (map b_y a0)):Int)))=true:=by
      rw[← hp0]; simp only[LN,decide_eq_true_eq]; omega
    have st:=ch b128_0 (h128_0 l0_0 a0 (length p:Int) v0) ⟨[(0,(.one (.bor l0_0 (map b_y a0)))),(3,(.oi v0)),(4,(.oi (length p:Int))),(8,(.one (.val (.bool (decide ((length p:Int) <((length (map b_y a0)):Int)))))))],[]⟩ (.exit 0) 9 (by kernel_rfl) (.f (nt hc) (.h 8 (.b false) .nil))
    rw[show (⟨[(0,(.one (.bor l0_0 (map b_y a0)))),(3,(.oi v0)),(4,(.oi (length p:Int))),(8,(.one (.val (.bool (decide ((length p:Int) <((length (map b_y a0)):Int)))))))],[]⟩:St)=fin128_0 l0_0 a0 (.k0 v0 (length p:Int) (decide ((length p:Int) <((length (map b_y a0)):Int)))) from(by rfl)] at st
    exact .loopX st (show ((.exit 0):VX.Exit)≠.normal from by simp)
  |x0::y0,p,v0,hp0=>by
    have hc:(decide ((length p:Int) <((length (map b_y a0)):Int)))=true:=by
      rw[← hp0]; simp only[LN,decide_eq_true_eq]; omega
    have Hx0:(a0)[toNat (length p:Int)]?=some x0:=by
      rw[← hp0,Int.toNat_natCast]; simp
    have hlen:length (a0)=length p+length y0+1:=by rw[← hp0]; simp; omega
    have hw:wrap .i64 ((length p:Int)+1)=(length p:Int)+1:=wrap64 (by omega)
    simp only[r128_0]
    have f1:0≤(length p:Int):=(by omega)
    have f5:(2147483647:Int)≠0:=(by omega)
    have st:=ch b128_0 (h128_0 l0_0 a0 (length p:Int) v0) ⟨[(0,(.one (.bor l0_0 (map b_y a0)))),(3,(.oi (Int.tmod (wrap .i64 ((wrap .i64 ((wrap .i64 (v0*33))+(wrap .i64 (x0))))+1)) 2147483647))),(4,(.oi (wrap .i64 ((length p:Int)+1))))],[]⟩ .normal 37 (by kernel_rfl) (.f hc (.f f1 (.f (mp_ b_y Hx0) (.f trivial (.f trivial (.f f5 (.f trivial (.h 8 (.b true) (.h 18 (.row [(.val (.int .u8 x0))]) .nil)))))))))
    have ih:=t128_0 (l0_0:=l0_0) (a0:=a0) hy0 y0 (p++ [x0]) (Int.tmod (wrap .i64 ((wrap .i64 ((wrap .i64 (v0*33))+(wrap .i64 (x0))))+1)) 2147483647) (by rw[append_assoc]; exact hp0)
    rw[show ((p++ [x0]).length:Int)=(p.length:Int)+1 from by simp] at ih
    rw[show (⟨[(0,(.one (.bor l0_0 (map b_y a0)))),(3,(.oi (Int.tmod (wrap .i64 ((wrap .i64 ((wrap .i64 (v0*33))+(wrap .i64 (x0))))+1)) 2147483647))),(4,(.oi (wrap .i64 ((length p:Int)+1))))],[]⟩:St)=h128_0 l0_0 a0 ((length p:Int)+1) (Int.tmod (wrap .i64 ((wrap .i64 ((wrap .i64 (v0*33))+(wrap .i64 (x0))))+1)) 2147483647) from(by unfold h128_0; simp only[hw]; done)] at st
    exact .loopN st ih
/-! loop.example/g00539/spec.l1Sum -/
def m128 (a0:(List Int)):Int:=
  (match r128_0 a0 a0 0 5381 with | .k0 w0_0 w1_0 w2_0=>w0_0)
theorem e128 {l0_0:Nat} {a0:(List Int)} (hy0:length a0*1≤140737488351232):Ev F X (.call 128 [(.one (.bor l0_0 (map b_y a0)))] [] [] [(.one (.val (.int .i64 (m128 a0))))]):=by
  unfold m128
  cases h0:r128_0 a0 a0 0 5381 with
  |k0 w0_0 w1_0 w2_0=>
    try dsimp only
    have f0:(⟨[(0,(.one (.bor l0_0 (map b_y a0)))),(3,(.oi 5381)),(4,(.oi 0))],[]⟩:St)=h128_0 l0_0 a0 0 5381:=yf
    exact cp ya (.f f0 (.f (ev_ (e:=ex128_0) (g:=(fin128_0 l0_0 a0)) h0 (t128_0 (l0_0:=l0_0) (a0:=a0) (by assumption) a0 [] 5381 rfl)) (.h 6 (.loop (h128_0 l0_0 a0 0 5381) (.exit 0) ⟨[(0,(.one (.bor l0_0 (map b_y a0)))),(3,(.oi w0_0)),(4,(.oi w1_0)),(8,(.one (.val (.bool w2_0))))],[]⟩) .nil)))
/-! loop.example/g00539/spec.l1Four -/
def m145 (a0:Int):(List Int):=
  [(wrap .u8 ((Int.fdiv a0 (2 ^(min (toNat 24) (IntKind.bits .i64)))))),(wrap .u8 ((Int.fdiv a0 (2 ^(min (toNat 16) (IntKind.bits .i64)))))),(wrap .u8 ((Int.fdiv a0 (2 ^(min (toNat 8) (IntKind.bits .i64)))))),(wrap .u8 (a0))]
theorem e145 {a0:Int}:Ev F X (.call 145 [(.one (.val (.int .i64 a0)))] [] [] [(.one (.own 1 (map d_y (m145 a0))))]):=by
  have f0:0≤(24:Int):=yc
  have f1:0≤(16:Int):=yc
  have f2:0≤(8:Int):=yc
  have f5:pureR [[(.val (.int .u8 (wrap .u8 ((Int.fdiv a0 (2 ^(min (toNat 24) (IntKind.bits .i64))))))))],[(.val (.int .u8 (wrap .u8 ((Int.fdiv a0 (2 ^(min (toNat 16) (IntKind.bits .i64))))))))],[(.val (.int .u8 (wrap .u8 ((Int.fdiv a0 (2 ^(min (toNat 8) (IntKind.bits .i64))))))))],[(.val (.int .u8 (wrap .u8 (a0))))]]=true:=yi
  exact cp ya (.f f0 (.f f1 (.f f2 (pe 0 (pe 4 (.f f5 .nil))))))
theorem four_len (a:Int):length (m145 a)=4:=rfl
/-! loop 113_0 -/
inductive O113_0 where
  |k0 (w0:List Int) (w1:Int) (w2:Bool)
def r113_0 (a0:(List Int)):List Int→Int→List Int→O113_0
  |x0::y0,i,v0=>
    (r113_0 a0 y0 (i+1) (v0++(m145 x0)))
  |[],i,v0=>(O113_0.k0 v0 i (decide (i <((length (map b_i a0)):Int))))
def h113_0 (l0_0:Nat) (a0:(List Int)) (i:Int) (v0:List Int):St:=⟨[(0,(.one (.bor l0_0 (map b_i a0)))),(3,(.one (.ref ⟨(3,0,0),[],0,(length (map d_y v0))⟩))),(4,(.one (.val (.int .i64 i))))],[((3,0,0),.live ⟨1,(map d_y v0),[]⟩)]⟩
def ex113_0:O113_0→VX.Exit
  |.k0 _ _ _=>(.exit 0)
def fin113_0 (l0_0:Nat) (a0:(List Int)):O113_0→St
  |.k0 w0 w1 w2=>⟨[(0,(.one (.bor l0_0 (map b_i a0)))),(3,(.one (.ref ⟨(3,0,0),[],0,(length (map d_y w0))⟩))),(4,(.one (.val (.int .i64 w1)))),(9,(.one (.val (.bool w2))))],[((3,0,0),.live ⟨1,(map d_y w0),[]⟩)]⟩
theorem t113_0 {l0_0:Nat} {a0:(List Int)} (hy0:length a0≤1000):∀(y0:List Int) (p:List Int) (v0:List Int),p++y0=a0→length v0+4*length y0≤4000→Ev F X (.code l113_0 (h113_0 l0_0 a0 (length p:Int) v0) (ex113_0 (r113_0 a0 y0 (length p:Int) v0)) (fin113_0 l0_0 a0 (r113_0 a0 y0 (length p:Int) v0)))
  |[],p,v0,hp0,hi0=>by
    have hc:¬(decide ((length p:Int) <((length (map b_i a0)):Int)))=true:=by
      rw[← hp0]; simp only[LN,decide_eq_true_eq]; omega
    have hj0:=hi0; try simp only[LN,Int.toNat_natCast] at hj0
    have st:=ch b113_0 (h113_0 l0_0 a0 (length p:Int) v0) ⟨[(0,(.one (.bor l0_0 (map b_i a0)))),(3,(.one (.ref ⟨(3,0,0),[],0,(length (map d_y v0))⟩))),(4,(.oi (length p:Int))),(9,(.one (.val (.bool (decide ((length p:Int) <((length (map b_i a0)):Int)))))))],[((3,0,0),.live ⟨1,(map d_y v0),[]⟩)]⟩ (.exit 0) 9 (by kernel_rfl) (.f (nt hc) (.h 8 (.b false) .nil))
    rw[show (⟨[(0,(.one (.bor l0_0 (map b_i a0)))),(3,(.one (.ref ⟨(3,0,0),[],0,(length (map d_y v0))⟩))),(4,(.oi (length p:Int))),(9,(.one (.val (.bool (decide ((length p:Int) <((length (map b_i a0)):Int)))))))],[((3,0,0),.live ⟨1,(map d_y v0),[]⟩)]⟩:St)=fin113_0 l0_0 a0 (.k0 v0 (length p:Int) (decide ((length p:Int) <((length (map b_i a0)):Int)))) from(by rfl)] at st
    exact .loopX st (show ((.exit 0):VX.Exit)≠.normal from by simp)
  |x0::y0,p,v0,hp0,hi0=>by
    have hc:(decide ((length p:Int) <((length (map b_i a0)):Int)))=true:=by
      rw[← hp0]; simp only[LN,decide_eq_true_eq]; omega
    have Hx0:(a0)[toNat (length p:Int)]?=some x0:=by
      rw[← hp0,Int.toNat_natCast]; simp
    have hlen:length (a0)=length p+length y0+1:=by rw[← hp0]; simp; omega
    have hw:wrap .i64 ((length p:Int)+1)=(length p:Int)+1:=wrap64 (by omega)
    have hj0:=hi0; try simp only[LN,Int.toNat_natCast] at hj0
    simp only[r113_0]
    have f1:0≤(length p:Int):=(by omega)
    have f4:0+(length (map d_y v0))≤(length (map d_y v0)):=(by omega)
    have f5:0+(length (map d_y (m145 x0)))≤(length (map d_y (m145 x0))):=(by omega)
    have f6:((take (length (map d_y (m145 x0))) (drop 0 (map d_y (m145 x0)))).all fun x=>x.all copyable)=true:=(ct_y _ _ _)
    have f7:(length ((take (length (map d_y v0)) (drop 0 (map d_y v0)))++(take (length (map d_y (m145 x0))) (drop 0 (map d_y (m145 x0))))))*1≤70368744177664:=(by simp only[length_map,length_append,length_take,length_drop,length_cons,length_nil,four_len] at*; omega)
    have f8:∀r∈((take (length (map d_y (m145 x0))) (drop 0 (map d_y (m145 x0)))):List (List D)),r.length=1:=(by simp only[List.drop_zero,tbr,tsi,ly_y,ly0_y,← List.map_append,List.take_length,List.cons_append,List.nil_append,append_assoc]; exact lenD_y _)
    have f9:((take (length (map d_y v0)) (drop 0 (map d_y v0)))++(take (length (map d_y (m145 x0))) (drop 0 (map d_y (m145 x0)))))=(map d_y (v0++(m145 x0))):=(by simp[take_of_length_le,d_y,four_len]; done)
    have st:=ch b113_0 (h113_0 l0_0 a0 (length p:Int) v0) ⟨[(0,(.one (.bor l0_0 (map b_i a0)))),(3,(.one (.ref ⟨(3,0,0),[],0,(length ((take (length (map d_y v0)) (drop 0 (map d_y v0)))++(take (length (map d_y (m145 x0))) (drop 0 (map d_y (m145 x0))))))⟩))),(4,(.oi (wrap .i64 ((length p:Int)+1))))],[((3,0,0),.live ⟨1,(map d_y (v0++(m145 x0))),[]⟩)]⟩ .normal 32 (by kernel_rfl) (.f hc (.f f1 (.f (mp_ b_i Hx0) (.h 8 (.b true) (.h 16 (.row [(.i x0)]) (.r 20 [] [] (e145 (a0:=x0)) (.f f4 (.f f5 (.f f6 (.f f7 (.f f8 (.f f9 (.f trivial (.h 22 (.b true) (.h 25 (.norm (3,0,0) (map d_y (v0++(m145 x0)))) .nil)))))))))))))))
    have ih:=t113_0 (l0_0:=l0_0) (a0:=a0) hy0 y0 (p++ [x0]) (v0++(m145 x0)) (by rw[append_assoc]; exact hp0) (by simp only[length_map,length_append,length_take,length_drop,length_cons,length_nil,four_len] at*; omega)
    rw[show ((p++ [x0]).length:Int)=(p.length:Int)+1 from by simp] at ih
    rw[show (⟨[(0,(.one (.bor l0_0 (map b_i a0)))),(3,(.one (.ref ⟨(3,0,0),[],0,(length ((take (length (map d_y v0)) (drop 0 (map d_y v0)))++(take (length (map d_y (m145 x0))) (drop 0 (map d_y (m145 x0))))))⟩))),(4,(.oi (wrap .i64 ((length p:Int)+1))))],[((3,0,0),.live ⟨1,(map d_y (v0++(m145 x0))),[]⟩)]⟩:St)=h113_0 l0_0 a0 ((length p:Int)+1) (v0++(m145 x0)) from(by unfold h113_0; simp[hw,take_of_length_le,d_y,four_len]; done)] at st
    exact .loopN st ih
theorem sl113 {a:List Int}:∀ {l:List Int} {i:Int} {v w:List Int} {j b},r113_0 a l i v=.k0 w j b→w.length=v.length+4*l.length
  |[],i,v,w,j,b,h=>by simp only[r113_0] at h; injection h with h; subst h; simp
  |x::l,i,v,w,j,b,h=>by
    simp only[r113_0] at h
    have q:=sl113 h
    simp only[length_append,length_cons,four_len] at q⊢; omega
/-! loop.example/g00539/spec.l1SumInts -/
def m113 (a0:(List Int)):Int:=
  (match r113_0 a0 a0 0 ([]) with | .k0 w0_0 w1_0 w2_0=>(m128 w0_0))
theorem e113 {l0_0:Nat} {a0:(List Int)} (hy0:length a0≤1000):Ev F X (.call 113 [(.one (.bor l0_0 (map b_i a0)))] [] [] [(.one (.val (.int .i64 (m113 a0))))]):=by
  unfold m113
  cases h0:r113_0 a0 a0 0 ([]) with
  |k0 w0_0 w1_0 w2_0=>
    try dsimp only
    have f0:(⟨[(0,(.one (.bor l0_0 (map b_i a0)))),(3,(.one (.ref ⟨(3,0,0),[],0,0⟩))),(4,(.oi 0))],[((3,0,0),.live ⟨1,[],[]⟩)]⟩:St)=h113_0 l0_0 a0 0 ([]):=yf
    exact cp ya (.f f0 (.f (ev_ (e:=ex113_0) (g:=(fin113_0 l0_0 a0)) h0 (t113_0 (l0_0:=l0_0) (a0:=a0) (by assumption) a0 [] ([]) rfl yD)) (ln_y w0_0 (.h 8 (.loop (h113_0 l0_0 a0 0 ([])) (.exit 0) ⟨[(0,(.one (.bor l0_0 (map b_i a0)))),(3,(.one (.ref ⟨(3,0,0),[],0,(length (map d_y w0_0))⟩))),(4,(.oi w1_0)),(9,(.one (.val (.bool w2_0))))],[((3,0,0),.live ⟨1,(map d_y w0_0),[]⟩)]⟩) (.r 12 [] [(map b_y w0_0)] (e128 (l0_0:=0) (a0:=w0_0) (by have q:=sl113 ‹_›; simp only[length_nil] at q; omega)) .nil)))))
theorem e126 {a0:Int} {a1:Int}:Ev F X (.call 126 [(.one (.val (.int .i64 a0))),(.one (.val (.int .i64 a1)))] [] [] [(.one (.val (.int .i64 (m113 [a0,a1]))))]):=by
  have f0:2≤2:=yc
  have f1:fullR (take 2 (drop 0 [[(.i a0)],[(.i a1)]]))=true:=yJ
  have f2:toBR (take 2 (drop 0 [[(.i a0)],[(.i a1)]]))=[[(.i a0)],[(.i a1)]]:=yJ
  exact cp ya (.f f0 (.f f1 (.f f2 (.r 9 [] [[[(.i a0)],[(.i a1)]]] (e113 (l0_0:=0) (a0:=[a0,a1]) (by simp only[length_cons,length_nil]; omega)) .nil))))
/-! loop.example/g00539/spec.l4Mate -/
def m127 (a0:(List Int)) (a1:Int):Int:=
  if ((Int.tmod a1 2) == 1) = true then (if (decide ((wrap .i64 (a1 - 1)) ≥ ((length (map b_i a0)) : Int))) = true then (getD a0 (toNat a1) 0) else
    (getD a0 (toNat (wrap .i64 (a1 - 1))) 0)) else
  if(decide ((wrap .i64 (a1+1))≥((length (map b_i a0)):Int)))=true then(getD a0 (toNat a1) 0) else
    (getD a0 (toNat (wrap .i64 (a1+1))) 0)
theorem e127 {l0_0:Nat} {a0:(List Int)} {a1:Int} (hy0:0≤a1) (hy1:a1 <(length a0:Int)) (hy2:length a0≤1000):Ev F X (.call 127 [(.one (.bor l0_0 (map b_i a0))),(.one (.val (.int .i64 a1)))] [] [] [(.one (.val (.int .i64 (m127 a0 a1))))]):=by
  unfold m127
  have f1:(2:Int)≠0:=yc
  by_cases h0:((Int.tmod a1 2)==1)=true
  · try simp only[if_pos h0]
    by_cases h1:(decide ((wrap .i64 (a1 - 1))≥((length (map b_i a0)):Int)))=true
    · try simp only[if_pos h1]
      have f4:0≤a1:=‹_›
      exact cp ya (.f trivial (.f f1 (.f h0 (.f h1 (.f f4 (.f (mp_ b_i (getD_at a0 (toNat a1) 0 yc)) (.h 14 (.b true) (.h 29 (.b true) (.h 39 (.row [(.i (getD a0 (toNat a1) 0))]) .nil)))))))))
    · try simp only[if_neg h1]
      have f4:0≤(wrap .i64 (a1 - 1)):=(by have q:=md1 hy0 ‹_›; rw[wrap64 yc]; omega)
      exact cp ya (.f trivial (.f f1 (.f h0 (.f (nt h1) (.f f4 (.f (mp_ b_i (getD_at a0 (toNat (wrap .i64 (a1 - 1))) 0 (by have q:=md1 hy0 ‹_›; rw[wrap64 yc]; omega))) (.h 14 (.b true) (.h 29 (.b false) (.h 35 (.row [(.i (getD a0 (toNat (wrap .i64 (a1 - 1))) 0))]) .nil)))))))))
  · try simp only[if_neg h0]
    by_cases h1:(decide ((wrap .i64 (a1+1))≥((length (map b_i a0)):Int)))=true
    · try simp only[if_pos h1]
      have f4:0≤a1:=‹_›
      exact cp ya (.f trivial (.f f1 (.f (nt h0) (.f h1 (.f f4 (.f (mp_ b_i (getD_at a0 (toNat a1) 0 yc)) (.h 14 (.b false) (.h 23 (.b true) (.h 33 (.row [(.i (getD a0 (toNat a1) 0))]) .nil)))))))))
    · try simp only[if_neg h1]
      have f4:0≤(wrap .i64 (a1+1)):=yR
      exact cp ya (.f trivial (.f f1 (.f (nt h0) (.f (nt h1) (.f f4 (.f (mp_ b_i (getD_at a0 (toNat (wrap .i64 (a1+1))) 0 yS)) (.h 14 (.b false) (.h 23 (.b false) (.h 29 (.row [(.i (getD a0 (toNat (wrap .i64 (a1+1))) 0))]) .nil)))))))))
/-! loop 98_0 -/
inductive O98_0 where
  |k0 (w0:List Int) (w1:Int) (w2:Bool)
def r98_0 (a0:(List Int)):Nat→List Int→Int→O98_0
  |n+1,v0,v2=>
    if(decide (v2 <((length (map b_i a0)):Int)))=true then(r98_0 a0 n (v0++([(m113 [(getD a0 (toNat v2) 0),(m127 a0 v2)])])) (wrap .i64 (v2+2))) else
    (O98_0.k0 v0 v2 (decide (v2 <((length (map b_i a0)):Int))))
  |0,v0,v2=>(O98_0.k0 v0 v2 (decide (v2 <((length (map b_i a0)):Int))))
def h98_0 (l0_0:Nat) (a0:(List Int)) (v0:List Int) (v2:Int):St:=⟨[(0,(.one (.bor l0_0 (map b_i a0)))),(3,(.one (.ref ⟨(3,0,0),[],0,(length (map d_i v0))⟩))),(4,(.one (.val (.int .i64 v2))))],[((3,0,0),.live ⟨1,(map d_i v0),[]⟩)]⟩
def ex98_0:O98_0→VX.Exit
  |.k0 _ _ _=>(.exit 0)
def fin98_0 (l0_0:Nat) (a0:(List Int)):O98_0→St
  |.k0 w0 w1 w2=>⟨[(0,(.one (.bor l0_0 (map b_i a0)))),(3,(.one (.ref ⟨(3,0,0),[],0,(length (map d_i w0))⟩))),(4,(.one (.val (.int .i64 w1)))),(9,(.one (.val (.bool w2))))],[((3,0,0),.live ⟨1,(map d_i w0),[]⟩)]⟩
theorem t98_0 {l0_0:Nat} {a0:(List Int)} (hy0:length a0≤1000):∀(n:Nat) (v0:List Int) (v2:Int),0≤v2→v2≤(length a0:Int)+1→2*(length v0:Int)=v2→toNat ((length a0:Int) - v2)≤n→Ev F X (.code l98_0 (h98_0 l0_0 a0 v0 v2) (ex98_0 (r98_0 a0 n v0 v2)) (fin98_0 l0_0 a0 (r98_0 a0 n v0 v2)))
  |0,v0,v2,hi0,hi1,hi2,hn=>by
    have hc:¬(decide (v2 <((length (map b_i a0)):Int)))=true:=by first |(exact fuel64_zero hn) |(simp only[decide_eq_true_eq] at*; omega) |(simp at*; omega)
    have st:=ch b98_0 (h98_0 l0_0 a0 v0 v2) ⟨[(0,(.one (.bor l0_0 (map b_i a0)))),(3,(.one (.ref ⟨(3,0,0),[],0,(length (map d_i v0))⟩))),(4,(.oi v2)),(9,(.one (.val (.bool (decide (v2 <((length (map b_i a0)):Int)))))))],[((3,0,0),.live ⟨1,(map d_i v0),[]⟩)]⟩ (.exit 0) 9 (by kernel_rfl) (.f (nt hc) (.h 8 (.b false) .nil))
    rw[show (⟨[(0,(.one (.bor l0_0 (map b_i a0)))),(3,(.one (.ref ⟨(3,0,0),[],0,(length (map d_i v0))⟩))),(4,(.oi v2)),(9,(.one (.val (.bool (decide (v2 <((length (map b_i a0)):Int)))))))],[((3,0,0),.live ⟨1,(map d_i v0),[]⟩)]⟩:St)=fin98_0 l0_0 a0 (.k0 v0 v2 (decide (v2 <((length (map b_i a0)):Int)))) from(by rfl)] at st
    exact .loopX st (show ((.exit 0):VX.Exit)≠.normal from by simp)
  |n+1,v0,v2,hi0,hi1,hi2,hn=>by
    simp only[r98_0]
    by_cases h_0:(decide (v2 <((length (map b_i a0)):Int)))=true
    · try simp only[if_pos h_0]
      have f1:0≤v2:=‹_›
      have f5:0+(length (map d_i v0))≤(length (map d_i v0)):=(by omega)
      have f6:1≤1:=(by omega)
      have f7:((take 1 (drop 0 [[(.i (m113 [(getD a0 (toNat v2) 0),(m127 a0 v2)]))]])).all fun x=>x.all copyable)=true:=(by trivial)
      have f8:(length ((take (length (map d_i v0)) (drop 0 (map d_i v0)))++([[(.i (m113 [(getD a0 (toNat v2) 0),(m127 a0 v2)]))]]:List (List D))))*8≤70368744177664:=(by simp only[decide_eq_true_eq,length_map,length_append,length_take,length_drop,length_cons,length_nil] at*; omega)
      have f9:∀r∈([[(.i (m113 [(getD a0 (toNat v2) 0),(m127 a0 v2)]))]]:List (List D)),r.length=1:=(by unfold m113 m127;(repeat' split)<;>simp_all<;>omega)
      have f10:((take (length (map d_i v0)) (drop 0 (map d_i v0)))++([[(.i (m113 [(getD a0 (toNat v2) 0),(m127 a0 v2)]))]]:List (List D)))=(map d_i (v0++([(m113 [(getD a0 (toNat v2) 0),(m127 a0 v2)])]))):=(by simp[take_of_length_le,d_i,four_len]; done)
      have st:=ch b98_0 (h98_0 l0_0 a0 v0 v2) ⟨[(0,(.one (.bor l0_0 (map b_i a0)))),(3,(.one (.ref ⟨(3,0,0),[],0,(length ((take (length (map d_i v0)) (drop 0 (map d_i v0)))++([[(.i (m113 [(getD a0 (toNat v2) 0),(m127 a0 v2)]))]]:List (List D))))⟩))),(4,(.oi (wrap .i64 (v2+2))))],[((3,0,0),.live ⟨1,(map d_i (v0++([(m113 [(getD a0 (toNat v2) 0),(m127 a0 v2)])]))),[]⟩)]⟩ .normal 40 (by kernel_rfl) (.f h_0 (.f f1 (.f (mp_ b_i (getD_at a0 (toNat v2) 0 (by simp only[decide_eq_true_eq,length_map,length_append,length_take,length_drop,length_cons,length_nil] at*; omega))) (.h 8 (.b true) (.h 16 (.row [(.i (getD a0 (toNat v2) 0))]) (.r 24 [] [] (e127 (l0_0:=(l0_0+1)) (a0:=a0) (a1:=v2) ‹_› (by simp only[decide_eq_true_eq,length_map,length_append,length_take,length_drop,length_cons,length_nil] at*; omega) ‹_›) (.r 26 [] [] (e126 (a0:=(getD a0 (toNat v2) 0)) (a1:=(m127 a0 v2))) (.f f5 (.f f6 (.f f7 (.f f8 (.f f9 (.f f10 (.f trivial (.h 30 (.b true) (.h 33 (.norm (3,0,0) (map d_i (v0++([(m113 [(getD a0 (toNat v2) 0),(m127 a0 v2)])])))) .nil))))))))))))))))
      have ih:=t98_0 (l0_0:=l0_0) (a0:=a0) hy0 n (v0++([(m113 [(getD a0 (toNat v2) 0),(m127 a0 v2)])])) (wrap .i64 (v2+2)) (by simp only[decide_eq_true_eq,length_map,length_append,length_cons,length_nil] at*; rw[wrap64 (by omega)]; omega) (by simp only[decide_eq_true_eq,length_map,length_append,length_cons,length_nil] at*; rw[wrap64 (by omega)]; omega) (by simp only[decide_eq_true_eq,length_map,length_append,length_cons,length_nil] at*; rw[wrap64 (by omega)]; omega) (by simp only[decide_eq_true_eq,length_map,length_append,length_cons,length_nil] at*; rw[wrap64 (by omega)]; omega)
      rw[show (⟨[(0,(.one (.bor l0_0 (map b_i a0)))),(3,(.one (.ref ⟨(3,0,0),[],0,(length ((take (length (map d_i v0)) (drop 0 (map d_i v0)))++([[(.i (m113 [(getD a0 (toNat v2) 0),(m127 a0 v2)]))]]:List (List D))))⟩))),(4,(.oi (wrap .i64 (v2+2))))],[((3,0,0),.live ⟨1,(map d_i (v0++([(m113 [(getD a0 (toNat v2) 0),(m127 a0 v2)])]))),[]⟩)]⟩:St)=h98_0 l0_0 a0 (v0++([(m113 [(getD a0 (toNat v2) 0),(m127 a0 v2)])])) (wrap .i64 (v2+2)) from(by unfold h98_0; simp[take_of_length_le,d_i,four_len]; done)] at st
      exact .loopN st ih
    · try simp only[if_neg h_0]
      have st:=ch b98_0 (h98_0 l0_0 a0 v0 v2) ⟨[(0,(.one (.bor l0_0 (map b_i a0)))),(3,(.one (.ref ⟨(3,0,0),[],0,(length (map d_i v0))⟩))),(4,(.oi v2)),(9,(.one (.val (.bool (decide (v2 <((length (map b_i a0)):Int)))))))],[((3,0,0),.live ⟨1,(map d_i v0),[]⟩)]⟩ (.exit 0) 9 (by kernel_rfl) (.f (nt h_0) (.h 8 (.b false) .nil))
      rw[show (⟨[(0,(.one (.bor l0_0 (map b_i a0)))),(3,(.one (.ref ⟨(3,0,0),[],0,(length (map d_i v0))⟩))),(4,(.oi v2)),(9,(.one (.val (.bool (decide (v2 <((length (map b_i a0)):Int)))))))],[((3,0,0),.live ⟨1,(map d_i v0),[]⟩)]⟩:St)=fin98_0 l0_0 a0 (.k0 v0 v2 (decide (v2 <((length (map b_i a0)):Int)))) from(by rfl)] at st
      exact .loopX st (show ((.exit 0):VX.Exit)≠.normal from by simp)
/-! loop 98_0,behind -/
def post98_0 (a0:(List Int)):O98_0→Prop
  |.k0 w0 _ _=>2*(length w0:Int)≤(length a0:Int)+1
theorem z98_0 {a0:(List Int)} (hy0:length a0≤1000):∀(n:Nat) (v0:List Int) (v2:Int),0≤v2→v2≤(length a0:Int)+1→2*(length v0:Int)=v2→post98_0 a0 (r98_0 a0 n v0 v2)
  |0,v0,v2,hi0,hi1,hi2=>by
    simp only[r98_0]
    first | trivial |(show _ ; simp only[post98_0]; omega) |(simp only[post98_0] at*; omega) |(simp only[decide_eq_true_eq,length_map,length_append,length_cons,length_nil] at*; rw[wrap64 yc]; omega) |(simp; done) |(simp only[decide_eq_true_eq] at*; omega)
  |n+1,v0,v2,hi0,hi1,hi2=>by
    simp only[r98_0]
    by_cases h_0:(decide (v2 <((length (map b_i a0)):Int)))=true
    · try simp only[if_pos h_0]
      exact z98_0 (a0:=a0) hy0 n (v0++([(m113 [(getD a0 (toNat v2) 0),(m127 a0 v2)])])) (wrap .i64 (v2+2)) yh yh yh
    · try simp only[if_neg h_0]
      first | trivial |(show _ ; simp only[post98_0]; omega) |(simp only[post98_0] at*; omega) |(simp only[decide_eq_true_eq,length_map,length_append,length_cons,length_nil] at*; rw[wrap64 yc]; omega) |(simp; done) |(simp only[decide_eq_true_eq] at*; omega)
/-! loop.example/g00539/spec.l4Above -/
def m98 (a0:(List Int)):(List Int):=
  (match r98_0 a0 (toNat ((length a0:Int) - 0)) ([]) 0 with | .k0 w0_0 w1_0 w2_0=>w0_0)
theorem e98 {l0_0:Nat} {a0:(List Int)} (hy0:length a0≤1000):Ev F X (.call 98 [(.one (.bor l0_0 (map b_i a0)))] [] [] [(.one (.own 1 (map d_i (m98 a0))))]):=by
  unfold m98
  cases h0:r98_0 a0 (toNat ((length a0:Int) - 0)) ([]) 0 with
  |k0 w0_0 w1_0 w2_0=>
    try dsimp only
    have zh0:=z98_0 (a0:=a0) (by assumption) (toNat ((length a0:Int) - 0)) ([]) 0 yc yc yf; rw[h0] at zh0; simp only[post98_0] at zh0
    have f0:(⟨[(0,(.one (.bor l0_0 (map b_i a0)))),(3,(.one (.ref ⟨(3,0,0),[],0,0⟩))),(4,(.oi 0))],[((3,0,0),.live ⟨1,[],[]⟩)]⟩:St)=h98_0 l0_0 a0 ([]) 0:=yf
    exact cp ya (.f f0 (.f (ev_ (e:=ex98_0) (g:=(fin98_0 l0_0 a0)) h0 (t98_0 (l0_0:=l0_0) (a0:=a0) (by assumption) (toNat ((length a0:Int) - 0)) ([]) 0 yc yc yf (Nat.le_refl _))) (pe 0 (pe (length (map d_i w0_0)) (.f (pureR_i w0_0) (.h 8 (.loop (h98_0 l0_0 a0 ([]) 0) (.exit 0) ⟨[(0,(.one (.bor l0_0 (map b_i a0)))),(3,(.one (.ref ⟨(3,0,0),[],0,(length (map d_i w0_0))⟩))),(4,(.oi w1_0)),(9,(.one (.val (.bool w2_0))))],[((3,0,0),.live ⟨1,(map d_i w0_0),[]⟩)]⟩) .nil))))))
theorem abl98 (a:List Int) (h:a.length≤1000):2*(m98 a).length≤a.length+1:=by
  have z:=z98_0 (a0:=a) h (toNat ((length a:Int) - 0)) [] 0 yc yc (by simp)
  show 2*(match r98_0 a (toNat ((length a:Int) - 0)) [] 0 with | .k0 w _ _=>w).length≤a.length+1
  revert z
  generalize r98_0 a (toNat ((length a:Int) - 0)) [] 0=r
  intro z
  cases r with
  |k0 w0 w1 w2=>simp only[post98_0] at z; show 2*w0.length≤_; omega
/-! loop 69_1 -/
inductive O69_1 where
  |k0 (w0:Int) (w1:Bool)
  |k1
def r69_1 (c0_69_1:List Int):Nat→Int→O69_1
  |n+1,v0=>
    if (decide ((wrap .i64 (v0 + 1)) < ((length (map d_i c0_69_1)) : Int))) = true then (if ((getD c0_69_1 (toNat v0) 0) == (getD c0_69_1 (toNat (wrap .i64 (v0 + 1))) 0)) = true then (O69_1.k1) else
      (r69_1 c0_69_1 n (wrap .i64 (v0+2)))) else
    (O69_1.k0 v0 (decide ((wrap .i64 (v0+1)) <((length (map d_i c0_69_1)):Int))))
  |0,v0=>(O69_1.k0 v0 (decide ((wrap .i64 (v0+1)) <((length (map d_i c0_69_1)):Int))))
def h69_1 (a0:(List Int)) (c0_69_1:List Int) (v0:Int):St:=⟨[(3,(.one (.ref ⟨(3,0,0),[],0,(length (map d_i c0_69_1))⟩))),(4,(.one (.val (.int .i64 v0))))],[((3,0,0),.live ⟨1,(map d_i c0_69_1),[]⟩)]⟩
def ex69_1:O69_1→VX.Exit
  |.k0 _ _=>(.exit 2)
  |.k1=>.ret
def fin69_1 (a0:(List Int)) (c0_69_1:List Int):O69_1→St
  |.k0 w0 w1=>⟨[(3,(.one (.ref ⟨(3,0,0),[],0,(length (map d_i c0_69_1))⟩))),(4,(.one (.val (.int .i64 w0)))),(13,(.one (.val (.bool w1))))],[((3,0,0),.live ⟨1,(map d_i c0_69_1),[]⟩)]⟩
  |.k1=>⟨[(2,(.one (.val (.bool true))))],[]⟩
theorem t69_1 {a0:(List Int)} {c0_69_1:List Int} (hy0:length c0_69_1≤140737488351232):∀(n:Nat) (v0:Int),0≤v0→v0≤(length c0_69_1:Int)+2→length c0_69_1≤1000→toNat ((length c0_69_1:Int) - v0)≤n→Ev F X (.code l69_1 (h69_1 a0 c0_69_1 v0) (ex69_1 (r69_1 c0_69_1 n v0)) (fin69_1 a0 c0_69_1 (r69_1 c0_69_1 n v0)))
  |0,v0,hi0,hi1,hi2,hn=>by
    have hc:¬(decide ((wrap .i64 (v0+1)) <((length (map d_i c0_69_1)):Int)))=true:=by first |(have e1:wrap .i64 (v0+1)=v0+1:=wrap64 (by omega); have e0:wrap .i64 (v0 - 1)=v0 - 1:=wrap64 (by omega); have e2:wrap .i64 (v0+2)=v0+2:=wrap64 (by omega); simp only[decide_eq_true_eq,length_map,e1,e0,e2]; omega) |(exact fuel64_zero hn) |(simp only[decide_eq_true_eq] at*; omega) |(simp at*; omega)
    have st:=ch b69_1 (h69_1 a0 c0_69_1 v0) ⟨[(3,(.one (.ref ⟨(3,0,0),[],0,(length (map d_i c0_69_1))⟩))),(4,(.oi v0)),(13,(.one (.val (.bool (decide ((wrap .i64 (v0+1)) <((length (map d_i c0_69_1)):Int)))))))],[((3,0,0),.live ⟨1,(map d_i c0_69_1),[]⟩)]⟩ (.exit 2) 11 (by kernel_rfl) (.f trivial (.f (nt hc) (.h 10 (.b false) .nil)))
    rw[show (⟨[(3,(.one (.ref ⟨(3,0,0),[],0,(length (map d_i c0_69_1))⟩))),(4,(.oi v0)),(13,(.one (.val (.bool (decide ((wrap .i64 (v0+1)) <((length (map d_i c0_69_1)):Int)))))))],[((3,0,0),.live ⟨1,(map d_i c0_69_1),[]⟩)]⟩:St)=fin69_1 a0 c0_69_1 (.k0 v0 (decide ((wrap .i64 (v0+1)) <((length (map d_i c0_69_1)):Int)))) from(by rfl)] at st
    exact .loopX st (show ((.exit 2):VX.Exit)≠.normal from by simp)
  |n+1,v0,hi0,hi1,hi2,hn=>by
    simp only[r69_1]
    by_cases h_0:(decide ((wrap .i64 (v0+1)) <((length (map d_i c0_69_1)):Int)))=true
    · try simp only[if_pos h_0]
      have f2:0+(length (map d_i c0_69_1))≤(length (map d_i c0_69_1)):=(by omega)
      have f3:0≤v0∧v0 <((length (map d_i c0_69_1)):Int):=(by have e1:wrap .i64 (v0+1)=v0+1:=wrap64 (by omega); have e0:wrap .i64 (v0 - 1)=v0 - 1:=wrap64 (by omega); have e2:wrap .i64 (v0+2)=v0+2:=wrap64 (by omega); simp only[decide_eq_true_eq,length_map,e1,e0,e2] at h_0⊢; omega)
      have f7:0≤(wrap .i64 (v0+1))∧(wrap .i64 (v0+1)) <((length (map d_i c0_69_1)):Int):=(by have e1:wrap .i64 (v0+1)=v0+1:=wrap64 (by omega); have e0:wrap .i64 (v0 - 1)=v0 - 1:=wrap64 (by omega); have e2:wrap .i64 (v0+2)=v0+2:=wrap64 (by omega); simp only[decide_eq_true_eq,length_map,e1,e0,e2] at h_0⊢; omega)
      have P1 {hs q} (r:PS F X hs q):=(PS.f trivial (.f h_0 (.f f2 (.f f3 (.f (mz_ d_i (getD_at c0_69_1 (toNat v0) 0 (by have e1:wrap .i64 (v0+1)=v0+1:=wrap64 (by omega); have e0:wrap .i64 (v0 - 1)=v0 - 1:=wrap64 (by omega); have e2:wrap .i64 (v0+2)=v0+2:=wrap64 (by omega); simp only[decide_eq_true_eq,length_map,e1,e0,e2] at h_0⊢; omega))) (.f trivial (.f f2 (.f f7 (.f (mz_ d_i (getD_at c0_69_1 (toNat (wrap .i64 (v0+1))) 0 (by have e1:wrap .i64 (v0+1)=v0+1:=wrap64 (by omega); have e0:wrap .i64 (v0 - 1)=v0 - 1:=wrap64 (by omega); have e2:wrap .i64 (v0+2)=v0+2:=wrap64 (by omega); simp only[decide_eq_true_eq,length_map,e1,e0,e2] at h_0⊢; omega))) (.h 10 (.b true) (.h 18 (.rowD [(.i (getD c0_69_1 (toNat v0) 0))]) (.h 28 (.rowD [(.i (getD c0_69_1 (toNat (wrap .i64 (v0+1))) 0))]) r))))))))))))
      by_cases h_1:((getD c0_69_1 (toNat v0) 0)==(getD c0_69_1 (toNat (wrap .i64 (v0+1))) 0))=true
      · try simp only[if_pos h_1]
        have st:=ch b69_1 (h69_1 a0 c0_69_1 v0) ⟨[(2,(.one (.val (.bool true))))],[]⟩ .ret 34 (by kernel_rfl) (P1 (.f h_1 (.h 31 (.b true) .nil)))
        rw[show (⟨[(2,(.one (.val (.bool true))))],[]⟩:St)=fin69_1 a0 c0_69_1 (.k1) from(by rfl)] at st
        exact .loopX st (show (.ret:VX.Exit)≠.normal from by simp)
      · try simp only[if_neg h_1]
        have st:=ch b69_1 (h69_1 a0 c0_69_1 v0) ⟨[(3,(.one (.ref ⟨(3,0,0),[],0,(length (map d_i c0_69_1))⟩))),(4,(.oi (wrap .i64 (v0+2))))],[((3,0,0),.live ⟨1,(map d_i c0_69_1),[]⟩)]⟩ .normal 38 (by kernel_rfl) (P1 (.f (nt h_1) (.f trivial (.h 31 (.b false) .nil))))
        have ih:=t69_1 (a0:=a0) (c0_69_1:=c0_69_1) hy0 n (wrap .i64 (v0+2)) (by have e1:wrap .i64 (v0+1)=v0+1:=wrap64 (by omega); have e0:wrap .i64 (v0 - 1)=v0 - 1:=wrap64 (by omega); have e2:wrap .i64 (v0+2)=v0+2:=wrap64 (by omega); simp only[decide_eq_true_eq,length_map,e1,e0,e2] at h_0⊢; omega) (by have e1:wrap .i64 (v0+1)=v0+1:=wrap64 (by omega); have e0:wrap .i64 (v0 - 1)=v0 - 1:=wrap64 (by omega); have e2:wrap .i64 (v0+2)=v0+2:=wrap64 (by omega); simp only[decide_eq_true_eq,length_map,e1,e0,e2] at h_0⊢; omega) (by assumption) (by have e1:wrap .i64 (v0+1)=v0+1:=wrap64 (by omega); have e0:wrap .i64 (v0 - 1)=v0 - 1:=wrap64 (by omega); have e2:wrap .i64 (v0+2)=v0+2:=wrap64 (by omega); simp only[decide_eq_true_eq,length_map,e1,e0,e2] at h_0⊢; omega)
        rw[show (⟨[(3,(.one (.ref ⟨(3,0,0),[],0,(length (map d_i c0_69_1))⟩))),(4,(.oi (wrap .i64 (v0+2))))],[((3,0,0),.live ⟨1,(map d_i c0_69_1),[]⟩)]⟩:St)=h69_1 a0 c0_69_1 (wrap .i64 (v0+2)) from(by rfl)] at st
        exact .loopN st ih
    · try simp only[if_neg h_0]
      have st:=ch b69_1 (h69_1 a0 c0_69_1 v0) ⟨[(3,(.one (.ref ⟨(3,0,0),[],0,(length (map d_i c0_69_1))⟩))),(4,(.oi v0)),(13,(.one (.val (.bool (decide ((wrap .i64 (v0+1)) <((length (map d_i c0_69_1)):Int)))))))],[((3,0,0),.live ⟨1,(map d_i c0_69_1),[]⟩)]⟩ (.exit 2) 11 (by kernel_rfl) (.f trivial (.f (nt h_0) (.h 10 (.b false) .nil)))
      rw[show (⟨[(3,(.one (.ref ⟨(3,0,0),[],0,(length (map d_i c0_69_1))⟩))),(4,(.oi v0)),(13,(.one (.val (.bool (decide ((wrap .i64 (v0+1)) <((length (map d_i c0_69_1)):Int)))))))],[((3,0,0),.live ⟨1,(map d_i c0_69_1),[]⟩)]⟩:St)=fin69_1 a0 c0_69_1 (.k0 v0 (decide ((wrap .i64 (v0+1)) <((length (map d_i c0_69_1)):Int)))) from(by rfl)] at st
      exact .loopX st (show ((.exit 2):VX.Exit)≠.normal from by simp)
/-! loop 69_0 -/
inductive O69_0 where
  |k0 (w0:List Int) (w1:Bool)
  |k1
def r69_0 :Nat→List Int→O69_0
  |n+1,v0=>
    if(decide (((length (map d_i v0)):Int) > 1))=true then(match r69_1 v0 (toNat ((length v0:Int) - 0)) 0 with | .k0 w0_1 w1_1=>(r69_0 n (m98 v0)) | .k1=>(O69_0.k1)) else
    (O69_0.k0 v0 (decide (((length (map d_i v0)):Int) > 1)))
  |0,v0=>(O69_0.k0 v0 (decide (((length (map d_i v0)):Int) > 1)))
def h69_0 (a0:(List Int)) (v0:List Int):St:=⟨[(3,(.one (.ref ⟨(3,0,0),[],0,(length (map d_i v0))⟩)))],[((3,0,0),.live ⟨1,(map d_i v0),[]⟩)]⟩
def ex69_0:O69_0→VX.Exit
  |.k0 _ _=>(.exit 0)
  |.k1=>.ret
def fin69_0 (a0:(List Int)):O69_0→St
  |.k0 w0 w1=>⟨[(3,(.one (.ref ⟨(3,0,0),[],0,(length (map d_i w0))⟩))),(8,(.one (.val (.bool w1))))],[((3,0,0),.live ⟨1,(map d_i w0),[]⟩)]⟩
  |.k1=>⟨[(2,(.one (.val (.bool true))))],[]⟩
theorem t69_0 {a0:(List Int)} (hy0:length a0≤1000):∀(n:Nat) (v0:List Int),length v0≤1000→length v0≤n→Ev F X (.code l69_0 (h69_0 a0 v0) (ex69_0 (r69_0 n v0)) (fin69_0 a0 (r69_0 n v0)))
  |0,v0,hi0,hn=>by
    have hc:¬(decide (((length (map d_i v0)):Int) > 1))=true:=by first |(simp only[decide_eq_true_eq,length_map]; omega) |(exact fuel64_zero hn) |(simp only[decide_eq_true_eq] at*; omega) |(simp at*; omega)
    have st:=ch b69_0 (h69_0 a0 v0) ⟨[(3,(.one (.ref ⟨(3,0,0),[],0,(length (map d_i v0))⟩))),(8,(.one (.val (.bool (decide (((length (map d_i v0)):Int) > 1))))))],[((3,0,0),.live ⟨1,(map d_i v0),[]⟩)]⟩ (.exit 0) 7 (by kernel_rfl) (.f (nt hc) (.h 6 (.b false) .nil))
    rw[show (⟨[(3,(.one (.ref ⟨(3,0,0),[],0,(length (map d_i v0))⟩))),(8,(.one (.val (.bool (decide (((length (map d_i v0)):Int) > 1))))))],[((3,0,0),.live ⟨1,(map d_i v0),[]⟩)]⟩:St)=fin69_0 a0 (.k0 v0 (decide (((length (map d_i v0)):Int) > 1))) from(by rfl)] at st
    exact .loopX st (show ((.exit 0):VX.Exit)≠.normal from by simp)
  |n+1,v0,hi0,hn=>by
    simp only[r69_0]
    by_cases h_0:(decide (((length (map d_i v0)):Int) > 1))=true
    · try simp only[if_pos h_0]
      cases h_1:r69_1 v0 (toNat ((length v0:Int) - 0)) 0 with
      |k0 w0_1 w1_1=>
        try dsimp only
        have f1:(⟨[(3,(.one (.ref ⟨(3,0,0),[],0,(length (map d_i v0))⟩))),(4,(.oi 0))],[((3,0,0),.live ⟨1,(map d_i v0),[]⟩)]⟩:St)=h69_1 a0 v0 0:=(by rfl)
        have st:=ch b69_0 (h69_0 a0 v0) ⟨[(3,(.one (.ref ⟨(3,0,0),[],0,(length (map d_i (m98 v0)))⟩)))],[((3,0,0),.live ⟨1,(map d_i (m98 v0)),[]⟩)]⟩ .normal 16 (by kernel_rfl) (.f h_0 (.f f1 (.f (ev_ (e:=ex69_1) (g:=(fin69_1 a0 v0)) h_1 (t69_1 (a0:=a0) (c0_69_1:=v0) (by omega) (toNat ((length v0:Int) - 0)) 0 (by omega) (by omega) (by omega) (Nat.le_refl _))) (ln_i v0 (.h 6 (.b true) (.h 9 (.loop (h69_1 a0 v0 0) (.exit 2) ⟨[(3,(.one (.ref ⟨(3,0,0),[],0,(length (map d_i v0))⟩))),(4,(.oi w0_1)),(13,(.one (.val (.bool w1_1))))],[((3,0,0),.live ⟨1,(map d_i v0),[]⟩)]⟩) (.r 13 [] [(map b_i v0)] (e98 (l0_0:=0) (a0:=v0) ‹_›) (pe 0 (pe (length (map d_i (m98 v0))) .nil)))))))))
        have ih:=t69_0 (a0:=a0) hy0 n (m98 v0) (by have q:=abl98 v0 (by omega); omega) (by have q:=abl98 v0 (by omega); simp only[decide_eq_true_eq,length_map] at h_0; omega)
        rw[show (⟨[(3,(.one (.ref ⟨(3,0,0),[],0,(length (map d_i (m98 v0)))⟩)))],[((3,0,0),.live ⟨1,(map d_i (m98 v0)),[]⟩)]⟩:St)=h69_0 a0 (m98 v0) from(by rfl)] at st
        exact .loopN st ih
      |k1=>
        try dsimp only
        have f1:(⟨[(3,(.one (.ref ⟨(3,0,0),[],0,(length (map d_i v0))⟩))),(4,(.oi 0))],[((3,0,0),.live ⟨1,(map d_i v0),[]⟩)]⟩:St)=h69_1 a0 v0 0:=(by rfl)
        have st:=ch b69_0 (h69_0 a0 v0) ⟨[(2,(.one (.val (.bool true))))],[]⟩ .ret 10 (by kernel_rfl) (.f h_0 (.f f1 (.f (ev_ (e:=ex69_1) (g:=(fin69_1 a0 v0)) h_1 (t69_1 (a0:=a0) (c0_69_1:=v0) (by omega) (toNat ((length v0:Int) - 0)) 0 (by omega) (by omega) (by omega) (Nat.le_refl _))) (.h 6 (.b true) (.h 9 (.loop (h69_1 a0 v0 0) .ret ⟨[(2,(.one (.val (.bool true))))],[]⟩) .nil)))))
        rw[show (⟨[(2,(.one (.val (.bool true))))],[]⟩:St)=fin69_0 a0 (.k1) from(by rfl)] at st
        exact .loopX st (show (.ret:VX.Exit)≠.normal from by simp)
    · try simp only[if_neg h_0]
      have st:=ch b69_0 (h69_0 a0 v0) ⟨[(3,(.one (.ref ⟨(3,0,0),[],0,(length (map d_i v0))⟩))),(8,(.one (.val (.bool (decide (((length (map d_i v0)):Int) > 1))))))],[((3,0,0),.live ⟨1,(map d_i v0),[]⟩)]⟩ (.exit 0) 7 (by kernel_rfl) (.f (nt h_0) (.h 6 (.b false) .nil))
      rw[show (⟨[(3,(.one (.ref ⟨(3,0,0),[],0,(length (map d_i v0))⟩))),(8,(.one (.val (.bool (decide (((length (map d_i v0)):Int) > 1))))))],[((3,0,0),.live ⟨1,(map d_i v0),[]⟩)]⟩:St)=fin69_0 a0 (.k0 v0 (decide (((length (map d_i v0)):Int) > 1))) from(by rfl)] at st
      exact .loopX st (show ((.exit 0):VX.Exit)≠.normal from by simp)
/-! loop.example/g00539/spec.l4Twin -/
def m69 (a0:(List Int)):Bool:=
  (match r69_0 (length a0) a0 with | .k0 w0_0 w1_0=>false | .k1=>true)
theorem e69 {a0:(List Int)} (hy0:length a0≤1000):Ev F X (.call 69 [(.one (.ref ⟨(0,0,0),[],0,(length (map d_i a0))⟩))] [((0,0,0),⟨1,(map d_i a0),[]⟩)] [] [(.one (.val (.bool (m69 a0))))]):=by
  unfold m69
  cases h0:r69_0 (length a0) a0 with
  |k0 w0_0 w1_0=>
    try dsimp only
    have f2:(⟨[(3,(.one (.ref ⟨(3,0,0),[],0,(length (map d_i a0))⟩)))],[((3,0,0),.live ⟨1,(map d_i a0),[]⟩)]⟩:St)=h69_0 a0 a0:=yf
    exact cq [] ya (pe 0 (pe (length (map d_i a0)) (.f f2 (.f (ev_ (e:=ex69_0) (g:=(fin69_0 a0)) h0 (t69_0 (a0:=a0) (by assumption) (length a0) a0 yc (Nat.le_refl _))) (.h 6 (.loop (h69_0 a0 a0) (.exit 0) ⟨[(3,(.one (.ref ⟨(3,0,0),[],0,(length (map d_i w0_0))⟩))),(8,(.one (.val (.bool w1_0))))],[((3,0,0),.live ⟨1,(map d_i w0_0),[]⟩)]⟩) .nil)))))
  |k1=>
    try dsimp only
    have f2:(⟨[(3,(.one (.ref ⟨(3,0,0),[],0,(length (map d_i a0))⟩)))],[((3,0,0),.live ⟨1,(map d_i a0),[]⟩)]⟩:St)=h69_0 a0 a0:=yf
    exact cq [] ya (pe 0 (pe (length (map d_i a0)) (.f f2 (.f (ev_ (e:=ex69_0) (g:=(fin69_0 a0)) h0 (t69_0 (a0:=a0) (by assumption) (length a0) a0 yc (Nat.le_refl _))) (.h 6 (.loop (h69_0 a0 a0) .ret ⟨[(2,(.one (.val (.bool true))))],[]⟩) .nil)))))
/-! loop.example/g00539/spec.l3Put -/
def m151 (a0:Int):(List Int):=
  if(decide (a0 < 253))=true then[(wrap .u8 (a0))] else
  [253,(wrap .u8 ((Int.tmod a0 256))),(wrap .u8 ((wrap .i64 (Int.tdiv a0 256))))]
theorem e151 {a0:Int}:Ev F X (.call 151 [(.one (.val (.int .i64 a0)))] [] [] [(.one (.own 1 (map d_y (m151 a0))))]):=by
  unfold m151
  by_cases h0:(decide (a0 < 253))=true
  · try simp only[if_pos h0]
    have f3:pureR [[(.val (.int .u8 (wrap .u8 (a0))))]]=true:=yi
    exact cp ya (.f h0 (pe 0 (pe 1 (.f f3 (.h 6 (.b true) .nil)))))
  · try simp only[if_neg h0]
    have f1:(256:Int)≠0:=yc
    have f5:pureR [[(.val (.int .u8 253))],[(.val (.int .u8 (wrap .u8 ((Int.tmod a0 256)))))],[(.val (.int .u8 (wrap .u8 ((wrap .i64 (Int.tdiv a0 256))))))]]=true:=yi
    exact cp ya (.f (nt h0) (.f f1 (.f f1 (pe 0 (pe 3 (.f f5 (.h 6 (.b false) .nil)))))))
theorem pl151 (a:Int):length (m151 a)≤3:=by
  unfold m151; split<;>simp
/-! loop.example/g00539/spec.l3Big -/
def m152 (a0:Int):(List Int):=
  ((m151 (Int.tmod a0 65536))++(m151 (wrap .i64 (Int.tdiv a0 65536))))
theorem e152 {a0:Int}:Ev F X (.call 152 [(.one (.val (.int .i64 a0)))] [] [] [(.one (.own 1 (map d_y (m152 a0))))]):=by
  have f0:(65536:Int)≠0:=yc
  have f4:0+(length (map d_y (m151 (Int.tmod a0 65536))))≤(length (map d_y (m151 (Int.tmod a0 65536)))):=yc
  have f5:0+(length (map d_y (m151 (wrap .i64 (Int.tdiv a0 65536)))))≤(length (map d_y (m151 (wrap .i64 (Int.tdiv a0 65536))))):=yc
  have f6:((take (length (map d_y (m151 (wrap .i64 (Int.tdiv a0 65536))))) (drop 0 (map d_y (m151 (wrap .i64 (Int.tdiv a0 65536)))))).all fun x=>x.all copyable)=true:=(ct_y _ _ _)
  have f7:(length ((take (length (map d_y (m151 (Int.tmod a0 65536)))) (drop 0 (map d_y (m151 (Int.tmod a0 65536)))))++(take (length (map d_y (m151 (wrap .i64 (Int.tdiv a0 65536))))) (drop 0 (map d_y (m151 (wrap .i64 (Int.tdiv a0 65536))))))))*1≤70368744177664:=(by unfold m151;(repeat' split)<;>simp_all<;>omega)
  have f8:∀r∈((take (length (map d_y (m151 (wrap .i64 (Int.tdiv a0 65536))))) (drop 0 (map d_y (m151 (wrap .i64 (Int.tdiv a0 65536)))))):List (List D)),r.length=1:=yd
  have f9:((take (length (map d_y (m151 (Int.tmod a0 65536)))) (drop 0 (map d_y (m151 (Int.tmod a0 65536)))))++(take (length (map d_y (m151 (wrap .i64 (Int.tdiv a0 65536))))) (drop 0 (map d_y (m151 (wrap .i64 (Int.tdiv a0 65536)))))))=(map d_y ((m151 (Int.tmod a0 65536))++(m151 (wrap .i64 (Int.tdiv a0 65536))))):=yt
  have f11:(length ((take (length (map d_y (m151 (Int.tmod a0 65536)))) (drop 0 (map d_y (m151 (Int.tmod a0 65536)))))++(take (length (map d_y (m151 (wrap .i64 (Int.tdiv a0 65536))))) (drop 0 (map d_y (m151 (wrap .i64 (Int.tdiv a0 65536))))))))=(length (map d_y ((m151 (Int.tmod a0 65536))++(m151 (wrap .i64 (Int.tdiv a0 65536)))))):=yi
  exact cp ya (.f f0 (.r 7 [] [] (e151 (a0:=(Int.tmod a0 65536))) (.f f0 (.r 13 [] [] (e151 (a0:=(wrap .i64 (Int.tdiv a0 65536)))) (.f f4 (.f f5 (.f f6 (.f f7 (.f f8 (.f f9 (pe 0 (.f f11 (.f (pureR_y ((m151 (Int.tmod a0 65536))++(m151 (wrap .i64 (Int.tdiv a0 65536))))) (.h 15 (.b true) (.h 18 (.norm (2,0,0) (map d_y ((m151 (Int.tmod a0 65536))++(m151 (wrap .i64 (Int.tdiv a0 65536)))))) .nil)))))))))))))))
theorem pb152 (a:Int):length (m152 a)≤6:=by
  unfold m152; rw[length_append]
  exact Nat.add_le_add (pl151 _) (pl151 _)
end Go.Proofs.YtmdocdnidilaiaaGreat.ShareBlock
